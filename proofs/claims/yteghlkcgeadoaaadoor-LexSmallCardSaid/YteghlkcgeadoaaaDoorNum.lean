/-
  lex: number.
-/
import Derived.Test.YteghlkcgeadoaaaDoorSkip
import Derived.Test.YteghlkcgeadoaaaDoorNumP
import Derived.Shelf.Strconv.ErrVarAll
import Derived.Lib.ItoaLen
namespace Go.Proofs.YteghlkcgeadoaaaDoor
open Go.RowKit
theorem gTab : Tryd.prog.globalNamed "internal/strconv.uint64pow10" = some 3 := by kernel_rfl
theorem gErrS : Tryd.prog.globalNamed "strconv.ErrSyntax" = some 1 := by kernel_rfl
theorem gErrR : Tryd.prog.globalNamed "strconv.ErrRange" = some 2 := by kernel_rfl
/-- What the calls of the library ask of the world. -/
structure Env (w : World) : Prop where
  tab : Lib.TabIs Tryd.prog w "internal/strconv.uint64pow10" .u64 Lib.pow10Tab
  errS : ∃ tp p, w.var? Tryd.prog "strconv.ErrSyntax" = some #[.iface tp p]
  errR : ∃ tp p, w.var? Tryd.prog "strconv.ErrRange" = some #[.iface tp p]
  big : 3 < w.heap.size ∧ 1 < w.heap.size ∧ 2 < w.heap.size
theorem Env.keptB {B : Nat} {w w' : World} (h : Env w) (hb : Below B w w') (hB : 4 ≤ B) : Env w' := by
  obtain ⟨t1, p1, h1⟩ := h.errS
  obtain ⟨t2, p2, h2⟩ := h.errR
  obtain ⟨b1, b2, b3⟩ := h.big
  refine ⟨?_, ⟨t1, p1, var?_below hb gErrS (by omega) h1⟩, ⟨t2, p2, var?_below hb gErrR (by omega) h2⟩, Nat.lt_of_lt_of_le b1 hb.size, Nat.lt_of_lt_of_le b2 hb.size, Nat.lt_of_lt_of_le b3 hb.size⟩
  have ht := h.tab
  unfold Lib.TabIs at ht ⊢
  exact var?_below hb gTab (by omega) ht
theorem Env.kept {w w' : World} (h : Env w) (hb : Below w.heap.size w w') : Env w' := by
  obtain ⟨t1, p1, h1⟩ := h.errS
  obtain ⟨t2, p2, h2⟩ := h.errR
  obtain ⟨b1, b2, b3⟩ := h.big
  refine ⟨?_, ⟨t1, p1, var?_below hb gErrS b2 h1⟩, ⟨t2, p2, var?_below hb gErrR b3 h2⟩, Nat.lt_of_lt_of_le b1 hb.size, Nat.lt_of_lt_of_le b2 hb.size, Nat.lt_of_lt_of_le b3 hb.size⟩
  have ht := h.tab
  unfold Lib.TabIs at ht ⊢
  exact var?_below hb gTab b1 ht
theorem below_grow {w : World} (k : Nat) (os : Array Obj) : Below w.heap.size w (Go.Sort.grow (w.drewN k) os) := by
  refine ⟨rfl, rfl, rfl, ?_, fun i hi => ?_⟩
  · show _ ≤ (w.heap ++ os).size; simp
  · show (w.heap ++ os)[i]? = _; rw [Array.getElem?_append_left hi]
/-- Itoa: the numeral; nothing that was there has turned. -/
theorem itoa_any (n : Int) (w : World) (hE : Env w) (h0 : -9223372036854775808 ≤ n) (h1 : n ≤ 9223372036854775807) : Calls Tryd.prog 52 #[.int .i64 n] w fun e w' => e = .returned (.string ⟨(Lib.itoa n).toArray⟩) ∧ Below w.heap.size w w' :=
  (Tryd.strconv_Itoa n h0 h1 w hE.tab).mono fun _ _ ⟨h, k, os, hw⟩ => ⟨h, by rw [hw]; exact below_grow k os⟩
theorem atoi_no (s : ByteArray) (hs : s.size ≤ 1099511627776) (w : World) (hE : Env w) (hno : ∀ v, Lib.atoiAll s.data.toList ≠ .ok v) :
    Calls Tryd.prog 51 #[.string s] w fun e w' => ∃ v N, e = .returned (.tuple #[.int .i64 v, .iface 95 (.pointer (some ⟨N, 0, none⟩))]) ∧ Below w.heap.size w w' := by
  obtain ⟨t1, p1, h1⟩ := hE.errS
  obtain ⟨t2, p2, h2⟩ := hE.errR
  cases hx : Lib.atoiAll s.data.toList with
  | ok v => exact absurd hx (hno v)
  | range => exact (Any.strconv_Atoi_range_var Tryd.laysC172 s (by omega) hx t2 p2 w h2).mono fun e w' ⟨N, he, _, _, hb⟩ => ⟨_, N, he, hb⟩
  | _ => exact (Any.strconv_Atoi_syntax_var Tryd.laysC172 s (by omega) hx t1 p1 w h1).mono fun e w' ⟨N, he, _, _, hb⟩ => ⟨_, N, he, hb⟩
theorem atoi_yes (s : ByteArray) (hs : s.size ≤ 1099511627776) (w : World) (v : Int) (hv : Lib.atoiAll s.data.toList = .ok v) :
    Calls Tryd.prog 51 #[.string s] w fun e w' => e = .returned (.tuple #[.int .i64 v, .nilIface]) ∧ Below w.heap.size w w' :=
  (Tryd.strconv_Atoi_ok s (by omega) v hv w).mono fun e w' ⟨he, hw⟩ => ⟨he, by
    rcases hw with rfl | ⟨t, rfl⟩
    · exact Below.refl _ _
    · exact ⟨rfl, rfl, rfl, by rw [Lib.bytesWorld_size]; omega, fun j hj => Lib.bytesWorld_at_old _ _ _ j hj⟩⟩
set_option maxRecDepth 100000 in
set_option maxHeartbeats 400000 in
theorem number_any (s : ByteArray) (w : World) (hs : s.size ≤ 1099511627776) (hE : Hid (Env w)) (hd : Hid (∃ b r, s.data.toList = b :: r ∧ digitB b = true)) : Calls Tryd.prog 46 #[.string s] w fun e w' => e = .returned (.bool (numC s.data.toList)) ∧ Below w.heap.size w w' := by
  by_cases hno : ∀ v, Lib.atoiAll s.data.toList ≠ .ok v
  · have HR := hide (show numC s.data.toList = false by
      unfold numC
      cases hx : Lib.atoiAll s.data.toList with
      | ok v => exact absurd hx (hno v)
      | _ => rfl)
    have HA := hide (atoi_no s hs w hE.out hno)
    clear hno
    go_enter Tryd.func46, Tryd.ntmps46
    go_wp2_with fail
    refine HA.out.mono ?_
    rintro e w1 ⟨v, N, rfl, hb⟩
    have HB := hide hb
    clear hb
    go_wp2_with fail
    go_ret
    exact ⟨by rw [HR.out]; rfl, HB.out⟩
  · have hyes : ∃ v, Lib.atoiAll s.data.toList = .ok v := by
      by_cases h : ∃ v, Lib.atoiAll s.data.toList = .ok v
      · exact h
      · exact absurd (fun v hv => h ⟨v, hv⟩) hno
    obtain ⟨v, hv⟩ := hyes
    clear hno
    have HC := hide (show numC s.data.toList = (decide (v ≤ 1073741824) && (Lib.itoa v == s.data.toList)) by unfold numC; rw [hv])
    have HA := hide (atoi_yes s hs w v hv)
    have hv0 : 0 ≤ v := by
      obtain ⟨b, r, e, hb⟩ := hd.out
      rw [e] at hv
      obtain ⟨u, _, rfl⟩ := atoi_dig b r hb v hv
      omega
    clear hv
    by_cases hle : v ≤ 1073741824
    · have HC2 := hide (show numC s.data.toList = (Lib.itoa v == s.data.toList) by rw [HC.out]; simp [hle])
      have HI := hide (fun w (hE : Env w) => itoa_any v w hE (by omega) (by omega))
      have hle2 : decide (v ≤ 1073741824) = true := by simp; omega
      go_enter Tryd.func46, Tryd.ntmps46
      go_wp2_with fail
      refine HA.out.mono ?_
      rintro e w1 ⟨rfl, hb⟩
      have HB := hide hb
      clear hb
      go_wp2_with fail
      refine (HI.out _ (hE.out.kept HB.out)).mono ?_
      rintro e w2 ⟨rfl, hb⟩
      have HB2 := hide (HB.out.trans (hb.mono HB.out.size))
      clear hb
      go_wp2_with fail
      go_ret
      exact ⟨by rw [HC2.out, ← ByteArray.toList_eq]; rfl, HB2.out⟩
    · have HR := hide (show numC s.data.toList = false by rw [HC.out]; simp [hle])
      have hd : decide (v ≤ 1073741824) = false := by simp; omega
      go_enter Tryd.func46, Tryd.ntmps46
      go_wp2_with fail
      refine HA.out.mono ?_
      rintro e w1 ⟨rfl, hb⟩
      have HB := hide hb
      clear hb
      go_wp2_with fail
      go_ret
      exact ⟨by rw [HR.out]; rfl, HB.out⟩
end Go.Proofs.YteghlkcgeadoaaaDoor
