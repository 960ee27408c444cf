/-
  lex: (*cursor).while.
-/
import Derived.Test.YteghlkcgeadoaaaDoorMore
namespace Go.Proofs.YteghlkcgeadoaaaDoor
open Go.RowKit
attribute [local go_sem] Later.cell
/-- What a scanner's step leaves: the cell 1 of block sb stands at j, the rest is as it was. -/
structure AtJ (sb j : Nat) (w w' : World) : Prop where
  kept : Kept (fun k => k = sb) w w'
  here : w'.cell? ⟨sb, 1, none⟩ = some (.int .i64 (j : Int))
  rest : ∀ o, o ≠ 1 → w'.cell? ⟨sb, o, none⟩ = w.cell? ⟨sb, o, none⟩
  free : w'.frozen? ⟨sb, 1, none⟩ = false
theorem AtJ.trans {sb i j : Nat} {a b c : World} (h : AtJ sb i a b) (k : AtJ sb j b c) : AtJ sb j a c :=
  ⟨h.kept.trans k.kept, k.here, fun o ho => (k.rest o ho).trans (h.rest o ho), k.free⟩
theorem AtJ.below {sb j : Nat} {a b c : World} (h : AtJ sb j a b) (hsb : sb < a.heap.size) (k : Below b.heap.size b c) : AtJ sb j a c := by
  have hb : sb < b.heap.size := Nat.lt_of_lt_of_le hsb h.kept.size
  exact ⟨h.kept.trans (.of_below k), (World.cell?_of_block (w := b) (k.block sb hb)).trans h.here, fun o ho => (World.cell?_of_block (w := b) (k.block sb hb)).trans (h.rest o ho), (World.frozen?_of_block (w := b) (a := ⟨sb, 1, none⟩) (k.block sb hb)).trans h.free⟩
theorem AtJ.start {sb j : Nat} {w : World} (c1 : w.cell? ⟨sb, 1, none⟩ = some (.int .i64 (j : Int))) (cf : w.frozen? ⟨sb, 1, none⟩ = false) : AtJ sb j w w := ⟨.refl _ _, c1, fun _ _ => rfl, cf⟩
theorem IsT.atJ {F : Nat → Prop} {w w' : World} {f : Nat} {caps : Array Value} {p : UInt8 → Bool} {sb j : Nat} (h : IsT F w f caps p) (hF : ∀ k, F k → k ≠ sb) (k : AtJ sb j w w') : IsT F w' f caps p :=
  h.keep k.kept.size (fun i hi => k.kept.block i (h.inn i hi) (hF i hi))
def toksL (src : ByteArray) : List UInt8 := src.data.toList
theorem toksL_drop (src : ByteArray) (j : Nat) (hj : j < src.size) : (toksL src).drop j = src[j] :: (toksL src).drop (j + 1) := by
  have hl : j < (toksL src).length := by simpa [toksL] using hj
  rw [List.drop_eq_getElem_cons hl]
  rfl
/-- Where a run of bytes that pass ends. -/
def runTo (p : UInt8 → Bool) (src : ByteArray) (j : Nat) : Nat := j + (((toksL src).drop j).takeWhile p).length
theorem runTo_yes (p : UInt8 → Bool) (src : ByteArray) (j : Nat) (hj : j < src.size) (h : p src[j] = true) : runTo p src (j + 1) = runTo p src j := by
  unfold runTo
  rw [toksL_drop src j hj, List.takeWhile_cons, if_pos h, List.length_cons]
  omega
theorem runTo_no (p : UInt8 → Bool) (src : ByteArray) (j : Nat) (hj : j < src.size) (h : p src[j] = false) : runTo p src j = j := by
  unfold runTo
  rw [toksL_drop src j hj, List.takeWhile_cons, if_neg (by simp [h])]
  simp
theorem runTo_end (p : UInt8 → Bool) (src : ByteArray) (j : Nat) (hj : src.size ≤ j) : runTo p src j = j := by
  unfold runTo
  rw [List.drop_eq_nil_of_le (by simpa [toksL] using hj)]
  simp
def atOf (sb : Nat) (w : World) : Nat := (intOf ((w.cell? ⟨sb, 1, none⟩).getD (.int .i64 0))).toNat
set_option maxRecDepth 100000 in
set_option maxHeartbeats 1000000 in
theorem while_any (sb f k : Nat) (caps : Array Value) (p : UInt8 → Bool) (F : Nat → Prop) (src : ByteArray) (W : World) (c0 : Hid (W.cell? ⟨sb, 0, none⟩ = some (.string src))) (c1 : Hid (W.cell? ⟨sb, 1, none⟩ = some (.int .i64 (k : Int)))) (cf : Hid (W.frozen? ⟨sb, 1, none⟩ = false)) (hk : k ≤ src.size) (hs : src.size ≤ 1099511627776) (hT : Hid (IsT F W f caps p)) (hF : Hid (∀ k, F k → k ≠ sb)) :
    Calls Tryd.prog 43 #[.pointer (some ⟨sb, 0, none⟩), .func (.func f) #[] caps] W fun e W' => e = .returned (.tuple #[]) ∧ AtJ sb (runTo p src k) W W' := by
  have hsb : sb < W.heap.size := World.block_lt_of_cell? W ⟨sb, 0, none⟩ c0.out
  go_enter Tryd.func43, Tryd.ntmps43
  go_wp2_with fail
  go_loopw [] (fun wr => ∃ j : Nat, j ≤ src.size ∧ runTo p src j = runTo p src k ∧ AtJ sb j W wr) (fun wr => src.size - atOf sb wr)
  case atStart => exact ⟨k, hk, rfl, AtJ.start c1.out cf.out⟩
  case round =>
    obtain ⟨j, hj, hr, hA⟩ := hrel
    have HR := hide hr
    have HA := hide hA
    clear hr hA
    have d0 := (HA.out.rest 0 (by decide)).trans c0.out
    have d1 := HA.out.here
    have HT2 := hide (hT.out.atJ hF.out HA.out)
    by_cases hjs : j < src.size
    · have HM := hide (more_yes sb f j caps p F src _ d0 d1 hjs hs HT2)
      have hwr : sb < wr.heap.size := World.block_lt_of_cell? wr ⟨sb, 1, none⟩ d1
      cases hp : p src[j] with
      | true =>
        have HN := hide (runTo_yes p src j hjs hp)
        rw [hp] at HM
        go_wp2_with fail
        refine (HM.out).mono ?_
        rintro e w' ⟨rfl, hb⟩
        have HA2 := hide (HA.out.below hsb hb)
        have e1 : w'.cell? ⟨sb, 1, none⟩ = some (.int .i64 (j : Int)) := HA2.out.here
        have e2 := HA2.out.free
        have e0 := (HA2.out.rest 0 (by decide)).trans c0.out
        have k0 : (0 : Int) ≤ (j : Int) := by omega
        have k1 : (j : Int) + 1 < 9223372036854775808 := by omega
        have k2 : -9223372036854775808 ≤ (j : Int) + 1 := by omega
        clear d0 d1 hb hp HM e0 hwr
        generalize hz : (j : Int) = z at *
        have HZ := hide hz
        clear hz
        go_wp2_with fail
        have hlt : w'.cell? ⟨sb, 1, none⟩ ≠ none := by rw [e1]; exact Option.some_ne_none _
        have hset : AtJ sb (j + 1) w' (w'.setCell ⟨sb, 1, none⟩ (.int .i64 (z + 1))) := by
          refine ⟨(Kept.refl (fun k => k = sb) w').setCell (p := ⟨sb, 1, none⟩) (Or.inl rfl) _, ?_, ?_, ?_⟩
          · rw [← HZ.out]; exact World.cell?_setCell_same w' _ _ e1
          · intro o ho; exact World.cell?_setCell_other w' _ _ _ (fun e => ho (by injection e with _ e2 _; exact e2.symm))
          · rw [World.frozen?_setCell]; exact e2
        have m1 : atOf sb (w'.setCell ⟨sb, 1, none⟩ (.int .i64 (z + 1))) = j + 1 := by unfold atOf; rw [hset.here]; simp [intOf]
        have m2 : atOf sb wr = j := by unfold atOf; rw [HA.out.here]; simp [intOf]
        have HS := hide hset
        have HM3 := hide (show src.size - atOf sb (w'.setCell ⟨sb, 1, none⟩ (.int .i64 (z + 1))) < src.size - atOf sb wr by rw [m1, m2]; omega)
        clear hset m1 m2 hlt e1 e2
        go_roundw
        case rel => exact ⟨j + 1, hjs, HN.out.trans HR.out, HA2.out.trans HS.out⟩
        case measure => exact HM3.out
      | false =>
        have HN := hide (runTo_no p src j hjs hp)
        rw [hp] at HM
        go_wp2_with fail
        refine (HM.out).mono ?_
        rintro e w' ⟨rfl, hb⟩
        go_wp2_with fail
        go_end0
        exact ⟨rfl, by have := HA.out.below hsb hb; rwa [← HR.out, HN.out]⟩
    · have HM := hide (more_end sb j (.func (.func f) #[] caps) src _ d0 d1 (by omega) hs)
      have HN := hide (runTo_end p src j (by omega))
      go_wp2_with fail
      refine (HM.out).mono ?_
      rintro e w' ⟨rfl, hb⟩
      go_wp2_with fail
      go_end0
      exact ⟨rfl, by have := HA.out.below hsb hb; rwa [← HR.out, HN.out]⟩
end Go.Proofs.YteghlkcgeadoaaaDoor
