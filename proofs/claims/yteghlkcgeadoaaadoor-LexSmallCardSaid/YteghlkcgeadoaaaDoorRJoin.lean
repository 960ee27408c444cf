/-
  lex: the reference's Join.
-/
import Derived.Test.YteghlkcgeadoaaaDoorTokR
import Derived.Laws.Concat
namespace Go.Proofs.YteghlkcgeadoaaaDoor
open Go.RowKit
def joinS (ts : List TokZ) : ByteArray := ⟨(joinT ts).toArray⟩
theorem joinS_size (ts : List TokZ) : (joinS ts).size = (joinT ts).length := by simp [joinS, ByteArray.size]
theorem joinS_first (ts : List TokZ) (t : TokZ) (h : ts[0]? = some t) : joinS (ts.take (0 + 1)) = ⟨#[]⟩ ++ t.text := by
  obtain ⟨hk, rfl⟩ := List.getElem?_eq_some_iff.1 h
  rw [List.take_succ_eq_append_getElem hk]
  unfold joinS
  rw [joinT_snoc]
  simp only [List.take_zero, if_true, List.nil_append]
  have : (⟨#[]⟩ : ByteArray) = ⟨([] : List UInt8).toArray⟩ := rfl
  obtain ⟨⟨x⟩⟩ := ts[0].text
  rw [this, ByteArray.mk_append_mk]
  rfl
theorem joinS_next (ts : List TokZ) (k : Nat) (t : TokZ) (h : ts[k]? = some t) (hk : k ≠ 0) : joinS (ts.take (k + 1)) = joinS (ts.take k) ++ ⟨#[32]⟩ ++ t.text := by
  obtain ⟨hkl, rfl⟩ := List.getElem?_eq_some_iff.1 h
  rw [List.take_succ_eq_append_getElem hkl]
  unfold joinS
  rw [joinT_snoc]
  have hne : ¬ ts.take k = [] := by
    intro e
    have := congrArg List.length e
    rw [List.length_take, List.length_nil] at this
    omega
  rw [if_neg hne]
  obtain ⟨⟨x⟩⟩ := ts[k].text
  have : (⟨#[32]⟩ : ByteArray) = ⟨([32] : List UInt8).toArray⟩ := rfl
  rw [this, ByteArray.mk_append_mk, ByteArray.mk_append_mk]
set_option maxRecDepth 100000 in
set_option maxHeartbeats 1000000 in
theorem rjoin_any (A : Option Addr) (n cap : Nat) (ts : List TokZ) (w : World) (HL : Hid (ts.length = n)) (hn : n ≤ 1048576) (hR : Hid (TRows .i64 w A ts)) (hj : Hid ((joinT ts).length ≤ 140737488355328)) :
    Calls Tryd.prog 12 #[.slice A n cap] w fun e w' => e = .returned (.string (joinS ts)) ∧ w = w' := by
  go_enter Tryd.func12, Tryd.ntmps12
  go_wp2_with fail
  go_loop [3, 4] (fun v3 v4 => ∃ k : Nat, k ≤ n ∧ v4 = .int .i64 k ∧ v3 = .string (joinS (ts.take k))) (fun _ v4 => n - (intOf v4).toNat)
  case atStart => exact ⟨0, by omega, rfl, rfl⟩
  case round =>
    obtain ⟨k, hk, rfl, rfl⟩ := hrel
    by_cases hlt : k < n
    case neg =>
      obtain rfl : k = n := by omega
      have HO : Hid (joinS (ts.take k) = joinS ts) := by
        rw [List.take_of_length_le (by rw [HL.out]; omega)]; exact rfl
      generalize joinS (ts.take k) = S at *
      go_wp2_with fail
      go_ret
      exact ⟨by rw [HO.out]; rfl, rfl⟩
    case pos =>
      obtain ⟨b, off, t, rfl, hbb, ht, q0, q1, q2⟩ := trow_at HL hR (Below.refl _ _) hlt
      have s1 : (joinS (ts.take k)).size ≤ 140737488355328 := by rw [joinS_size]; exact Nat.le_trans (joinT_take_le ts k) hj.out
      have s2 : (joinS (ts.take (k + 1))).size ≤ 140737488355328 := by rw [joinS_size]; exact Nat.le_trans (joinT_take_le ts (k + 1)) hj.out
      by_cases hk0 : k = 0
      · subst hk0
        have e := joinS_first ts t ht.out
        obtain ⟨tk, tx, ta⟩ := t
        simp only at q0 q1 q2 e
        have E := hide e
        rw [e, ByteArray.size_append] at s2
        have e0 : joinS (ts.take 0) = ⟨#[]⟩ := rfl
        rw [e0] at s1 ⊢
        have s3 : ¬ 9223372036854775807 < tx.size := by omega
        clear e e0 s2
        go_wp2_with fail
        go_round
        case rel => exact ⟨0 + 1, by omega, rfl, by rw [E.out]⟩
        case measure => simp [intOf]; omega
      · have e := joinS_next ts k t ht.out hk0
        obtain ⟨tk, tx, ta⟩ := t
        simp only at q0 q1 q2 e
        have E := hide e
        rw [e, ByteArray.size_append, ByteArray.size_append] at s2
        clear e
        generalize joinS (ts.take k) = S at *
        have e1 : (⟨#[32]⟩ : ByteArray).size = 1 := rfl
        rw [e1] at s2
        clear e1
        have s3 : ¬ 9223372036854775807 < S.size + 1 := by omega
        have s4 : ¬ 9223372036854775807 < S.size + 1 + tx.size := by omega
        have s5 : ¬ 9223372036854775807 ≤ S.size := by omega
        have s6 : ¬ 9223372036854775806 < S.size := by omega
        have k0 : (0 : Int) < (k : Int) := by omega
        have k1 : 0 < k := by omega
        go_wp2_with fail
        go_round
        case rel => exact ⟨k + 1, by omega, by go_num, by rw [E.out]⟩
        case measure => simp [intOf]; omega
end Go.Proofs.YteghlkcgeadoaaaDoor
