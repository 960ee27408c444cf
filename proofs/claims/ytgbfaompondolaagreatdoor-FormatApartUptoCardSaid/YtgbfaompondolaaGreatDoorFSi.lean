/-
  nacellelaw09: letters.
-/
import Derived.Test.YtgbfaompondolaaGreatDoorPk10
import Derived.Test.YtgbfaompondolaaGreatDoorPk13
namespace Go.Proofs.YtgbfaompondolaaGreatDoor
open Go.RowKit
attribute [local go_sem] Later.cell
theorem sum_take {α : Type} (f : α → Nat) {l : List α} {k : Nat} {x : α} (h : l[k]? = some x) : ((l.take (k + 1)).map f).sum = ((l.take k).map f).sum + f x := by
  rw [List.take_add_one, h]
  simp
theorem sum_part {α : Type} (f : α → Nat) {l : List α} {k : Nat} {x : α} (h : l[k]? = some x) : ((l.take k).map f).sum + f x ≤ (l.map f).sum := by
  rw [← sum_take f h]
  have e := congrArg (fun m => (List.map f m).sum) (List.take_append_drop (k + 1) l)
  simp only [List.map_append, List.sum_append] at e
  omega
def strSize (s : List UInt8) : Prop := (⟨s.toArray⟩ : ByteArray).size = s.length
theorem str_size (s : List UInt8) : strSize s := by simp [strSize, ByteArray.size]
set_option maxRecDepth 100000 in
set_option maxHeartbeats 4000000 in
theorem letters_any (r : RefD) (v : Value) (l : List RefD) (W : World) (hv : Hid (DAt W (fun _ => True) v (.row 3 (l.map RefD.cells)))) (hn : refC r + refsC l ≤ 1000000000) (hl : l.length ≤ 1000000000) :
    Calls Tryz.prog 17 #[.agg #[strV r.m, strV r.p, strV r.o], v] W fun e w' => e = .returned (.int .i64 ((refC r + refsC l : Nat) : Int)) ∧ Below W.heap.size W w' := by
  obtain ⟨A, c, rfl, hA⟩ := hv.out.slice
  have HA := hide hA
  clear hA hv
  rw [List.length_map]
  obtain ⟨m, p, o⟩ := r
  unfold refsC at hn ⊢
  rw [show refC ⟨m, p, o⟩ = m.length + p.length + o.length from rfl] at hn ⊢
  have HN := hide hn
  have hsm := str_size m
  have hsp := str_size p
  have hso := str_size o
  unfold strSize at *
  simp only [strV] at *
  generalize (⟨m.toArray⟩ : ByteArray) = sm at *
  generalize (⟨p.toArray⟩ : ByteArray) = sp at *
  generalize (⟨o.toArray⟩ : ByteArray) = so at *
  generalize m.length = lm at *
  generalize p.length = lp at *
  generalize o.length = lo at *
  subst hsm hsp hso
  have HB0 := hide ((Below.refl W.heap.size W).alloc (Nat.le_refl _) (.cells #[.string sm, .string sp, .string so] 55))
  go_enter Tryz.func17, Tryz.ntmps17
  go_wp2_with fail
  generalize W.alloc (.cells #[.string sm, .string sp, .string so] 55) = w0 at *
  go_loopw [5, 6] (fun v5 v6 wr => ∃ k : Nat, k ≤ l.length ∧ v6 = .int .i64 k ∧ v5 = .int .i64 ((sm.size + sp.size + so.size + ((l.take k).map refC).sum : Nat) : Int) ∧ Below W.heap.size W wr) (fun _ v6 _ => l.length - (intOf v6).toNat)
  case atStart => exact ⟨0, by omega, rfl, by simp, HB0.out⟩
  case round =>
    obtain ⟨k, hk, rfl, rfl, hbr⟩ := hrel
    have HBR := hide hbr
    clear hbr HB0
    by_cases hlt : k < l.length
    rotate_left
    · obtain rfl : k = l.length := by omega
      rw [List.take_length]
      clear hlt
      go_wp2_with fail
      go_ret
      exact ⟨rfl, HBR.out⟩
    obtain ⟨x, hx⟩ : ∃ x, l[k]? = some x := ⟨_, List.getElem?_eq_getElem hlt⟩
    obtain ⟨bA, oA, rfl, hbA, hcaA⟩ := HA.out.at_ hx
    obtain ⟨uA0, a0, gA0⟩ := hcaA 0 _ rfl
    obtain rfl := gA0.leaf_eq
    obtain ⟨uA1, a1, gA1⟩ := hcaA 1 _ rfl
    obtain rfl := gA1.leaf_eq
    obtain ⟨uA2, a2, gA2⟩ := hcaA 2 _ rfl
    obtain rfl := gA2.leaf_eq
    clear hcaA
    have a0 := (HBR.out.cell (p := ⟨bA, oA + k * 3, none⟩) hbA).trans a0
    have a1 := (HBR.out.cell (p := ⟨bA, oA + k * 3 + 1, none⟩) hbA).trans a1
    have a2 := (HBR.out.cell (p := ⟨bA, oA + k * 3 + 2, none⟩) hbA).trans a2
    have HS := hide (sum_take refC hx)
    have hp := sum_part refC hx
    have hc : refC x = x.m.length + x.p.length + x.o.length := rfl
    have e0 := str_size x.m
    have e1 := str_size x.p
    have e2 := str_size x.o
    unfold strSize at e0 e1 e2
    rw [hc] at HS hp
    rw [← e0, ← e1, ← e2] at HS hp
    simp only [strV] at a0 a1 a2
    clear e0 e1 e2 hc hx
    generalize (⟨x.m.toArray⟩ : ByteArray) = ym at *
    generalize (⟨x.p.toArray⟩ : ByteArray) = yp at *
    generalize (⟨x.o.toArray⟩ : ByteArray) = yo at *
    have hN := HN.out
    generalize hT : ((l.take k).map refC).sum = T at *
    generalize (l.map refC).sum = TA at *
    clear hT
    have k0 : (0 : Int) ≤ (k : Int) ∧ (k : Int) < ((l.length : Nat) : Int) := by omega
    go_wp2_with fail
    go_quiet (fail)
    go_wp2_with fail
    go_roundw
    case rel => exact ⟨k + 1, by omega, by go_num, by rw [HS.out]; go_num, HBR.out.trans ⟨rfl, rfl, rfl, Nat.le_refl _, fun _ _ => rfl⟩⟩
    case measure => simp [intOf]; omega
end Go.Proofs.YtgbfaompondolaaGreatDoor
