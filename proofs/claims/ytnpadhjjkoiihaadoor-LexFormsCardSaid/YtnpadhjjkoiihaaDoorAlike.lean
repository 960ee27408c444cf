/-
  The statements' helpers: alike, empty.
-/
import Derived.Test.YtnpadhjjkoiihaaDoorCalls
namespace Go.Proofs.YtnpadhjjkoiihaaDoor
open Go.RowKit
set_option maxRecDepth 100000 in
set_option maxHeartbeats 1000000 in
theorem alike_yes (A B : Option Addr) (n c d : Nat) (ts us : List TokZ) (w : World) (HL : Hid (ts.length = n)) (HM : Hid (us.length = n)) (hn : n ≤ 1048576) (hR : Hid (TRows .u8 w A ts)) (hS : Hid (TRows .u8 w B us))
    (hE : Hid (∀ (i : Nat) (t u : TokZ), ts[i]? = some t → us[i]? = some u → t.kind = u.kind ∧ t.text = u.text)) :
    Calls Tryd.prog 19 #[.slice A n c, .slice B n d] w fun e w' => e = .returned (.bool true) ∧ Below w.heap.size w w' := by
  go_enter Tryd.func19, Tryd.ntmps19
  go_wp2_with fail
  go_loopw [5] (fun v5 wr => ∃ k : Nat, k ≤ n ∧ v5 = .int .i64 k ∧ Below w.heap.size w wr) (fun v5 _ => n - (intOf v5).toNat)
  case atStart => exact ⟨0, by omega, rfl, Below.refl _ _⟩
  case round =>
    obtain ⟨k, hk, rfl, hbr⟩ := hrel
    have HBR := hide hbr
    clear hbr
    by_cases hlt : k < n
    case neg =>
      go_wp2_with fail
      go_ret
      exact ⟨rfl, HBR.out⟩
    case pos =>
      obtain ⟨b, off, t, rfl, hbb, ht, q0, q1, q2⟩ := trow_at HL hR HBR.out hlt
      obtain ⟨b', off', u, rfl, hbb', hu, r0, r1, r2⟩ := trow_at HM hS HBR.out hlt
      obtain ⟨e1, e2⟩ := hE.out k t u ht.out hu.out
      obtain ⟨tk, tx, ta⟩ := t
      obtain ⟨uk, ux, ua⟩ := u
      simp only at q0 q1 q2 r0 r1 r2 e1 e2
      subst e1 e2
      have hz := HBR.out.size
      have k0 : (0 : Int) ≤ (k : Int) := by omega
      have k1 : (k : Int) < (n : Int) := by omega
      have l1 : b < wr.heap.size := by omega
      have l2 : b' < wr.heap.size := by omega
      go_wp2_with fail
      go_quiet (fail)
      go_wp2_with fail
      go_roundw
      case rel => exact ⟨k + 1, by omega, by go_num, below_drewN HBR.out _⟩
      case measure => simp [intOf]; omega
/-- Blanks and comments alone (c: in a comment). -/
def emptyB : Bool → List UInt8 → Bool
  | _, [] => true
  | c, b :: r => if b == 10 then emptyB false r else if c then emptyB true r else if b == 35 then emptyB true r else if b == 32 || b == 9 || b == 13 then emptyB false r else false
theorem emptyB_ten (c : Bool) (b : UInt8) (r : List UInt8) (h : (b == 10) = true) : emptyB c (b :: r) = emptyB false r := by rw [emptyB, if_pos h]
theorem emptyB_in (b : UInt8) (r : List UInt8) (h : (b == 10) = false) : emptyB true (b :: r) = emptyB true r := by rw [emptyB, if_neg (by simp [h]), if_pos rfl]
theorem emptyB_hash (b : UInt8) (r : List UInt8) (h : (b == 10) = false) (h2 : (b == 35) = true) : emptyB false (b :: r) = emptyB true r := by rw [emptyB, if_neg (by simp [h]), if_neg (by simp), if_pos h2]
theorem emptyB_blank (b : UInt8) (r : List UInt8) (h : (b == 10) = false) (h2 : (b == 35) = false) (h3 : (b == 32 || b == 9 || b == 13) = true) : emptyB false (b :: r) = emptyB false r := by rw [emptyB, if_neg (by simp [h]), if_neg (by simp), if_neg (by simp [h2]), if_pos h3]
theorem emptyB_no (b : UInt8) (r : List UInt8) (h : (b == 10) = false) (h2 : (b == 35) = false) (h3 : (b == 32 || b == 9 || b == 13) = false) : emptyB false (b :: r) = false := by rw [emptyB, if_neg (by simp [h]), if_neg (by simp), if_neg (by simp [h2]), if_neg (by simp [h3])]
set_option maxRecDepth 100000 in
set_option maxHeartbeats 2000000 in
theorem empty_yes (s : ByteArray) (w : World) (hs : s.size ≤ 1099511627776) (hE : Hid (emptyB false s.data.toList = true)) : Calls Tryd.prog 20 #[.string s] w fun e w' => e = .returned (.bool true) ∧ w = w' := by
  go_enter Tryd.func20, Tryd.ntmps20
  go_wp2_with fail
  go_loop [3, 4] (fun v3 v4 => ∃ (k : Nat) (c : Bool), k ≤ s.size ∧ v4 = .int .i64 k ∧ v3 = .bool c ∧ emptyB c ((toksL s).drop k) = true) (fun _ v4 => s.size - (intOf v4).toNat)
  case atStart => exact ⟨0, false, by omega, rfl, rfl, hE.out⟩
  case round =>
    obtain ⟨k, c, hk, rfl, rfl, he⟩ := hrel
    have k0 : (0 : Int) ≤ (k : Int) := by omega
    by_cases hlt : k < s.size
    case neg =>
      clear he
      go_wp2_with fail
      go_ret
      exact ⟨rfl, rfl⟩
    case pos =>
      rw [toksL_drop s k hlt] at he
      have E1 : Hid (((s[k].toNat : Int) == 10) = (s[k] == 10)) := byte_eq s[k] 10
      have E2 : Hid (((s[k].toNat : Int) == 35) = (s[k] == 35)) := byte_eq s[k] 35
      have E3 : Hid (((s[k].toNat : Int) == 32) = (s[k] == 32)) := byte_eq s[k] 32
      have E4 : Hid (((s[k].toNat : Int) == 9) = (s[k] == 9)) := byte_eq s[k] 9
      have E5 : Hid (((s[k].toNat : Int) == 13) = (s[k] == 13)) := byte_eq s[k] 13
      cases u1 : (s[k] == 10)
      case true =>
        have HN := hide ((emptyB_ten c _ _ u1).symm.trans he)
        have f1 := E1.out.trans u1
        clear he u1
        go_wp2_with fail
        go_round
        case rel => exact ⟨k + 1, false, by omega, by go_num, rfl, HN.out⟩
        case measure => simp [intOf]; omega
      have f1 := E1.out.trans u1
      cases c
      case true =>
        have HN := hide ((emptyB_in _ _ u1).symm.trans he)
        clear he u1
        go_wp2_with fail
        go_round
        case rel => exact ⟨k + 1, true, by omega, by go_num, rfl, HN.out⟩
        case measure => simp [intOf]; omega
      cases u2 : (s[k] == 35)
      case true =>
        have HN := hide ((emptyB_hash _ _ u1 u2).symm.trans he)
        have f2 := E2.out.trans u2
        clear he u1 u2
        go_wp2_with fail
        go_round
        case rel => exact ⟨k + 1, true, by omega, by go_num, rfl, HN.out⟩
        case measure => simp [intOf]; omega
      have f2 := E2.out.trans u2
      cases u6 : (s[k] == 32 || s[k] == 9 || s[k] == 13)
      case false =>
        rw [emptyB_no _ _ u1 u2 u6] at he
        cases he
      have HN := hide ((emptyB_blank _ _ u1 u2 u6).symm.trans he)
      clear he u1 u2
      cases u3 : (s[k] == 32)
      case true =>
        have f3 : ((s[k].toNat : Int) != 32) = false := by rw [bne, E3.out, u3]; rfl
        clear u3 u6
        go_wp2_with fail
        go_round
        case rel => exact ⟨k + 1, false, by omega, by go_num, rfl, HN.out⟩
        case measure => simp [intOf]; omega
      have f3 : ((s[k].toNat : Int) != 32) = true := by rw [bne, E3.out, u3]; rfl
      cases u4 : (s[k] == 9)
      case true =>
        have f4 : ((s[k].toNat : Int) != 9) = false := by rw [bne, E4.out, u4]; rfl
        clear u3 u4 u6
        go_wp2_with fail
        go_round
        case rel => exact ⟨k + 1, false, by omega, by go_num, rfl, HN.out⟩
        case measure => simp [intOf]; omega
      have f4 : ((s[k].toNat : Int) != 9) = true := by rw [bne, E4.out, u4]; rfl
      have u5 : (s[k] == 13) = true := by rw [u3, u4] at u6; simpa using u6
      have f5 : ((s[k].toNat : Int) != 13) = false := by rw [bne, E5.out, u5]; rfl
      clear u3 u4 u5 u6
      go_wp2_with fail
      go_round
      case rel => exact ⟨k + 1, false, by omega, by go_num, rfl, HN.out⟩
      case measure => simp [intOf]; omega
end Go.Proofs.YtnpadhjjkoiihaaDoor
