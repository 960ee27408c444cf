/-
  LexJoins: the walk.
-/
import Derived.Test.YtnpadhjjkoiihaaDoorAwk
namespace Go.Proofs.YtnpadhjjkoiihaaDoor
open Go.RowKit
def sumT (ts : List TokZ) : Nat := (ts.map (·.text.size)).sum
theorem sumT_snoc (ts : List TokZ) (t : TokZ) : sumT (ts ++ [t]) = sumT ts + t.text.size := by simp [sumT]
theorem sumT_step (ts : List TokZ) (k : Nat) (t : TokZ) (h : ts[k]? = some t) : sumT (ts.take (k + 1)) = sumT (ts.take k) + t.text.size := by
  obtain ⟨hk, rfl⟩ := List.getElem?_eq_some_iff.1 h
  rw [List.take_succ_eq_append_getElem hk, sumT_snoc]
theorem sumT_le : ∀ (ts : List TokZ), (∀ t ∈ ts, t.text.size ≤ 140737488351232) → sumT ts ≤ ts.length * 140737488351232
  | [], _ => by simp [sumT]
  | t :: r, h => by
    have h1 := sumT_le r (fun x hx => h x (by simp [hx]))
    have h2 := h t (by simp)
    have e : sumT (t :: r) = t.text.size + sumT r := by simp [sumT]
    rw [e, List.length_cons]
    omega
theorem sumT_300 (ts : List TokZ) (h : ∀ t ∈ ts, t.text.size ≤ 140737488351232) (hl : ts.length ≤ 300) : sumT ts ≤ 42221246505369600 := by
  have h1 := sumT_le ts h
  have h2 := Nat.mul_le_mul_right 140737488351232 hl
  omega
theorem joinT_sum (ts : List TokZ) : (joinT ts).length ≤ sumT ts + ts.length := by
  obtain ⟨n, hn⟩ : ∃ n, ts.length = n := ⟨_, rfl⟩
  induction n generalizing ts with
  | zero => rw [List.eq_nil_of_length_eq_zero hn]; simp [joinT, Lib.join, List.intercalate]
  | succ n ih =>
    rcases List.eq_nil_or_concat ts with rfl | ⟨b, t, rfl⟩
    · simp at hn
    · rw [List.concat_eq_append] at hn ⊢
      have hb := ih b (by simpa using hn)
      rw [joinT_snoc, sumT_snoc]
      have e : t.text.data.toList.length = t.text.size := by simp
      have e2 : (b ++ [t]).length = b.length + 1 := by simp
      rw [e2]
      split
      · simp only [List.nil_append, e]; omega
      · simp only [List.length_append, List.length_cons, List.length_nil, e]; omega
set_option maxRecDepth 100000 in
set_option maxHeartbeats 2000000 in
theorem joins_long (A : Option Addr) (n cap : Nat) (ts : List TokZ) (src : ByteArray) (at_ : Int) (w : World) (HL : Hid (ts.length = n)) (hn : n ≤ 9223372036854775807) (hbig : 300 < n) (hR : Hid (TRows .u8 w A ts)) (hE : Hid (Env w)) :
    Calls Tryd.prog 4 #[.slice A n cap, .string src, .int .i64 at_] w fun e w' => e = .returned (.bool true) ∧ Below w.heap.size w w' := by
  have HA := hide (fun w hE => awake_any w hE)
  have hb2 : (300 : Int) < (n : Int) := by omega
  go_enter Tryd.func4, Tryd.ntmps4
  go_wp2_with fail
  go_loop [7, 8] (fun v7 v8 => ∃ (k : Nat) (z : Int), k ≤ n ∧ v8 = .int .i64 k ∧ v7 = .int .i64 z) (fun _ v8 => n - (intOf v8).toNat)
  case atStart => exact ⟨0, _, by omega, rfl, rfl⟩
  case round =>
    obtain ⟨k, z, hk, rfl, rfl⟩ := hrel
    by_cases hlt : k < n
    case pos =>
      obtain ⟨b, off, t, rfl, hbb, ht, q0, q1, q2⟩ := trow_at HL hR (Below.refl _ _) hlt
      obtain ⟨tk, tx, ta⟩ := t
      simp only at q0 q1 q2
      have k0 : (0 : Int) ≤ (k : Int) := by omega
      have k1 : (k : Int) < (n : Int) := by omega
      go_wp2_with fail
      go_round
      case rel => exact ⟨k + 1, _, by omega, by go_num, rfl⟩
      case measure => simp [intOf]; omega
    case neg =>
      go_wp2_with fail
      refine (HA.out _ hE).mono ?_
      rintro e w1 ⟨rfl, hb1⟩
      have HB1 := hide hb1
      clear hb1
      go_wp2_with fail
      go_ret
      exact ⟨rfl, HB1.out⟩
set_option maxRecDepth 100000 in
set_option maxHeartbeats 2000000 in
theorem joins_short (A : Option Addr) (n cap : Nat) (ts : List TokZ) (src : ByteArray) (at_ : Int) (w : World) (HL : Hid (ts.length = n)) (hbig : n ≤ 300) (hR : Hid (TRows .u8 w A ts)) (hK : Hid (KindOk ts)) (hT : Hid (∀ t ∈ ts, t.text.size ≤ 140737488351232)) (hs : src.size ≤ 140737488351232) (hE : Hid (Env w)) :
    Calls Tryd.prog 4 #[.slice A n cap, .string src, .int .i64 at_] w fun e w' => e = .returned (.bool true) ∧ Below w.heap.size w w' := by
  have HA := hide (fun w hE => awake_any w hE)
  have hb2 : (n : Int) ≤ 300 := by omega
  have hS : sumT ts ≤ 42221246505369600 := sumT_300 ts hT.out (by rw [HL.out]; exact hbig)
  go_enter Tryd.func4, Tryd.ntmps4
  go_wp2_with fail
  go_loop [7, 8] (fun v7 v8 => ∃ (k : Nat), k ≤ n ∧ v8 = .int .i64 k ∧ v7 = .int .i64 ((src.size : Int) + (sumT (ts.take k) : Int))) (fun _ v8 => n - (intOf v8).toNat)
  case atStart => exact ⟨0, by omega, rfl, by simp [sumT]⟩
  case round =>
    obtain ⟨k, hk, rfl, rfl⟩ := hrel
    by_cases hlt : k < n
    case pos =>
      obtain ⟨b, off, t, rfl, hbb, ht, q0, q1, q2⟩ := trow_at HL hR (Below.refl _ _) hlt
      have hst := sumT_step ts k t ht.out
      have hsl2 : sumT (ts.take (k + 1)) ≤ 42221246505369600 := sumT_300 _ (fun x hx => hT.out x (List.mem_of_mem_take hx)) (by rw [List.length_take, HL.out]; omega)
      rw [hst] at hsl2
      obtain ⟨tk, tx, ta⟩ := t
      simp only at q0 q1 q2 hsl2 hst
      have HSt := hide hst
      clear hst
      generalize sumT (ts.take k) = S at *
      have k0 : (0 : Int) ≤ (k : Int) := by omega
      have k1 : (k : Int) < (n : Int) := by omega
      have z1 : (src.size : Int) + (S : Int) + (tx.size : Int) < 9223372036854775808 := by omega
      have z2 : -9223372036854775808 ≤ (src.size : Int) + (S : Int) + (tx.size : Int) := by omega
      go_wp2_with fail
      go_round
      case rel => exact ⟨k + 1, by omega, by go_num, by rw [HSt.out]; go_num⟩
      case measure => simp [intOf]; omega
    case neg =>
      obtain rfl : k = n := by omega
      have hkt : ts.take k = ts := List.take_of_length_le (by rw [HL.out]; omega)
      rw [hkt]
      clear hkt
      by_cases h4 : 4000 < src.size + sumT ts
      · have z1 : (4000 : Int) < (src.size : Int) + (sumT ts : Int) := by omega
        clear h4
        go_wp2_with fail
        refine (HA.out _ hE).mono ?_
        rintro e w1 ⟨rfl, hb1⟩
        have HB1 := hide hb1
        clear hb1
        go_wp2_with fail
        go_ret
        exact ⟨rfl, HB1.out⟩
      · have z1 : (src.size : Int) + (sumT ts : Int) ≤ 4000 := by omega
        have HJ := hide (show (joinT ts).length ≤ 140737488355328 by have := joinT_sum ts; rw [HL.out] at this; omega)
        have HP := hide (fun w => places_any src at_ w (by omega))
        clear h4
        go_wp2_with fail
        refine (join_call A k cap ts _ HL (by omega) hR HJ).mono ?_
        rintro e w1 ⟨rfl, hb1⟩
        have HB1 := hide hb1
        have HR1 := hide (hR.out.below hb1)
        clear hb1
        go_wp2_with fail
        refine (theirs_any A k cap ts _ HL (by omega) HR1 hK).mono ?_
        rintro e w2 ⟨A2, c2, rfl, hT2, hb2'⟩
        have HT2 := hide hT2
        have HB2 := hide (HB1.out.trans (hb2'.mono HB1.out.size))
        clear hT2 hb2'
        go_wp2_with fail
        refine (rjoin_any A2 k c2 ts _ HL (by omega) HT2 HJ).mono ?_
        rintro e w' ⟨rfl, rfl⟩
        go_wp2_with fail
        refine (HP.out _).mono ?_
        rintro e w' ⟨rfl, rfl⟩
        go_wp2_with fail
        refine (HA.out _ (hide (hE.out.kept HB2.out))).mono ?_
        rintro e w3 ⟨rfl, hb3⟩
        have HB3 := hide (HB2.out.trans (hb3.mono HB2.out.size))
        clear hb3
        go_wp2_with fail
        go_ret
        exact ⟨rfl, HB3.out⟩
theorem joins_any (A : Option Addr) (n cap : Nat) (ts : List TokZ) (src : ByteArray) (at_ : Int) (w : World) (HL : Hid (ts.length = n)) (hn : n ≤ 9223372036854775807) (hR : Hid (TRows .u8 w A ts)) (hK : Hid (KindOk ts)) (hT : Hid (∀ t ∈ ts, t.text.size ≤ 140737488351232)) (hs : src.size ≤ 140737488351232) (hE : Hid (Env w)) :
    Calls Tryd.prog 4 #[.slice A n cap, .string src, .int .i64 at_] w fun e w' => e = .returned (.bool true) ∧ Below w.heap.size w w' := by
  by_cases h : n ≤ 300
  · exact joins_short A n cap ts src at_ w HL h hR hK hT hs hE
  · exact joins_long A n cap ts src at_ w HL hn (by omega) hR hE
end Go.Proofs.YtnpadhjjkoiihaaDoor
