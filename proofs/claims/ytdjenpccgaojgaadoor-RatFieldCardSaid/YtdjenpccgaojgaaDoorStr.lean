/-
  rat: String, number.
-/
import Derived.Test.YtdjenpccgaojgaaDoorOps
import Derived.Test.YtdjenpccgaojgaaDoorShelf
import Derived.Deep.RegionHeld3
import Derived.ShutString
import Derived.Lib.ItoaLen
import Derived.Laws.Concat
namespace Go.Proofs.YtdjenpccgaojgaaDoor
open Go.RowKit
theorem gTab : Tryd.prog.globalNamed "internal/strconv.uint64pow10" = some 3 := by kernel_rfl
/-- What the calls of the library ask of the world. -/
structure Env (w : World) : Prop where
  cut : ∃ m, w.cell? ⟨0, 0, none⟩ = some (.int .i64 m)
  tab : Lib.TabIs Tryd.prog w "internal/strconv.uint64pow10" .u64 Lib.pow10Tab
  big : 4 ≤ w.heap.size
theorem Env.kept {w w' : World} (h : Env w) (hb : Below w.heap.size w w') : Env w' := by
  obtain ⟨m, hm⟩ := h.cut
  refine ⟨⟨m, (hb.cell (p := ⟨0, 0, none⟩) (World.block_lt_of_cell? w _ hm)).trans hm⟩, ?_, Nat.le_trans h.big hb.size⟩
  have ht := h.tab
  unfold Lib.TabIs at ht ⊢
  exact var?_below hb gTab (by have := h.big; omega) ht
theorem below_grow {w : World} (k : Nat) (os : Array Obj) : Below w.heap.size w (Go.Sort.grow (w.drewN k) os) := by
  refine ⟨rfl, rfl, rfl, ?_, fun i hi => ?_⟩
  · show _ ≤ (w.heap ++ os).size; simp
  · show (w.heap ++ os)[i]? = _; rw [Array.getElem?_append_left hi]
/-- Itoa: the numeral; nothing that was there has turned. -/
theorem itoa_any (n : Int) (w : World) (hE : Env w) (h0 : -9223372036854775808 ≤ n) (h1 : n ≤ 9223372036854775807) : Calls Tryd.prog 43 #[.int .i64 n] w fun e w' => e = .returned (.string ⟨(Lib.itoa n).toArray⟩) ∧ Below w.heap.size w w' :=
  (Tryd.strconv_Itoa n h0 h1 w hE.tab).mono fun _ _ ⟨h, k, os, hw⟩ => ⟨h, by rw [hw]; exact below_grow k os⟩
def strL (n d : Int) : List UInt8 := if okB n d then (if d = 1 then Lib.itoa n else Lib.itoa n ++ [47] ++ Lib.itoa d) else []
set_option maxRecDepth 100000 in
set_option maxHeartbeats 400000 in
theorem string_bad (n d : Int) (w : World) (hx : Hid (okB n d = false)) : Calls Tryd.prog 34 #[.agg #[.int .i64 n, .int .i64 d]] w fun e w' => e = .returned (.string ⟨#[]⟩) ∧ Below w.heap.size w w' := by
  have HV := hide (fun w => valid_any n d w)
  rw [hx.out] at HV
  go_enter Tryd.func34, Tryd.ntmps34
  go_wp2_with fail
  refine (HV.out _).mono ?_
  rintro e w1 ⟨rfl, hb⟩
  have HB := hide (box1 hb).2.2
  clear hb
  go_wp2_with fail
  go_ret
  exact ⟨rfl, HB.out⟩
set_option maxRecDepth 100000 in
set_option maxHeartbeats 400000 in
theorem string_one (n : Int) (w : World) (hE : Hid (Env w)) (hx : Hid (okB n 1 = true)) : Calls Tryd.prog 34 #[.agg #[.int .i64 n, .int .i64 1]] w fun e w' => e = .returned (.string ⟨(Lib.itoa n).toArray⟩) ∧ Below w.heap.size w w' := by
  have HV := hide (fun w => valid_any n 1 w)
  rw [hx.out] at HV
  obtain ⟨a1, a2, a3, a4, -⟩ := okB_bd hx.out
  go_enter Tryd.func34, Tryd.ntmps34
  go_wp2_with fail
  refine (HV.out _).mono ?_
  rintro e w1 ⟨rfl, hb⟩
  obtain ⟨X, hsz, hbl⟩ := box1 hb
  obtain ⟨c0, c1, -, -, hlt⟩ := two_of X
  have HB := hide hbl
  clear hb hbl X
  go_wp2_with fail
  refine (itoa_any n w1 (hE.out.kept HB.out) (by omega) (by omega)).mono ?_
  rintro e w2 ⟨rfl, hb⟩
  have HB2 := hide (HB.out.trans (hb.mono HB.out.size))
  clear hb
  go_wp2_with fail
  go_ret
  exact ⟨rfl, HB2.out⟩
set_option maxRecDepth 100000 in
set_option maxHeartbeats 400000 in
theorem string_two (n d : Int) (w : World) (hE : Hid (Env w)) (hx : Hid (okB n d = true)) (hd : (d == 1) = false) : Calls Tryd.prog 34 #[.agg #[.int .i64 n, .int .i64 d]] w fun e w' => e = .returned (.string ⟨(Lib.itoa n ++ [47] ++ Lib.itoa d).toArray⟩) ∧ Below w.heap.size w w' := by
  have HV := hide (fun w => valid_any n d w)
  rw [hx.out] at HV
  obtain ⟨a1, a2, a3, a4, -⟩ := okB_bd hx.out
  go_enter Tryd.func34, Tryd.ntmps34
  go_wp2_with fail
  refine (HV.out _).mono ?_
  rintro e w1 ⟨rfl, hb⟩
  obtain ⟨X, hsz, hbl⟩ := box1 hb
  obtain ⟨c0, c1, -, -, hlt⟩ := two_of X
  have HB := hide hbl
  have HE1 := hide (hE.out.kept hbl)
  clear hb hbl X hE
  obtain ⟨sn, hsn⟩ : ∃ sn : ByteArray, ⟨(Lib.itoa n).toArray⟩ = sn := ⟨_, rfl⟩
  obtain ⟨sd, hsd⟩ : ∃ sd : ByteArray, ⟨(Lib.itoa d).toArray⟩ = sd := ⟨_, rfl⟩
  have hn21 : sn.size ≤ 21 := by rw [← hsn]; exact Lib.itoa_length_le n (by omega) (by omega)
  have hd21 : sd.size ≤ 21 := by rw [← hsd]; exact Lib.itoa_length_le d (by omega) (by omega)
  have HIn := hide (fun (w : World) (h : Below w1.heap.size w1 w) => itoa_any n w (HE1.out.kept h) (by omega) (by omega))
  have HId := hide (fun (w : World) (h : Below w1.heap.size w1 w) => itoa_any d w (HE1.out.kept h) (by omega) (by omega))
  rw [hsn] at HIn
  rw [hsd] at HId
  have HR : Hid ((⟨(Lib.itoa n ++ [47] ++ Lib.itoa d).toArray⟩ : ByteArray) = sn ++ ⟨#[47]⟩ ++ sd) := by
    rw [← hsn, ← hsd, ← ByteArray.mk_append_mk, ← ByteArray.mk_append_mk]; exact rfl
  have hc1 : ¬ 9223372036854775807 ≤ sn.size := by omega
  have hc3 : ¬ 9223372036854775806 < sn.size := by omega
  have hc4 : ¬ 9223372036854775807 < sn.size + 1 := by omega
  have hc2 : ¬ 9223372036854775807 < sn.size + 1 + sd.size := by omega
  clear hsn hsd
  go_wp2_with fail
  go_region_held3 (fun w' => Below w1.heap.size w1 w' ∧ w'.cell? ⟨w.heap.size, 0, none⟩ = some (.int .i64 n) ∧ w'.cell? ⟨w.heap.size, 1, none⟩ = some (.int .i64 d))
    (first | assumption | exact ⟨(by first | exact Below.refl _ _ | assumption | go_grown), (by first | assumption | exact (Below.cell (p := ⟨w.heap.size, 0, none⟩) (by first | assumption | go_grown) hlt).trans c0), (by first | assumption | exact (Below.cell (p := ⟨w.heap.size, 1, none⟩) (by first | assumption | go_grown) hlt).trans c1)⟩)
    (first
      | (go_at_call 43; (first | ((with_reducible refine (HIn.out _ (by first | exact Below.refl _ _ | assumption | go_grown)).mono ?_); rintro e w2 ⟨rfl, hb2⟩) | ((with_reducible refine (HId.out _ (by first | exact Below.refl _ _ | assumption | go_grown)).mono ?_); rintro e w2 ⟨rfl, hb2⟩)); have hbb : Below w1.heap.size w1 w2 := Below.trans (by first | exact Below.refl _ _ | assumption | go_grown) (hb2.mono (Below.size (B := w1.heap.size) (by first | exact Below.refl _ _ | assumption | go_grown)))))
  all_goals
    go_wp2_with fail
    go_ret
    exact ⟨by rw [HR.out]; rfl, HB.out.trans (hbb.mono HB.out.size)⟩
theorem string_any (n d : Int) (w : World) (hE : Env w) : Calls Tryd.prog 34 #[.agg #[.int .i64 n, .int .i64 d]] w fun e w' => e = .returned (.string ⟨(strL n d).toArray⟩) ∧ Below w.heap.size w w' := by
  unfold strL
  cases hx : okB n d
  · exact string_bad n d w hx
  · by_cases hd : d = 1
    · subst hd
      rw [if_pos rfl, if_pos rfl]
      exact string_one n w hE hx
    · rw [if_pos rfl, if_neg hd]
      exact string_two n d w hE hx (by simpa using hd)
set_option maxRecDepth 100000 in
set_option maxHeartbeats 400000 in
theorem number_ok (s : ByteArray) (v : Int) (w : World) (hs : s.size ≤ 9223372036854775806) (hv : Hid (Lib.atoiAll s.data.toList = .ok v)) : Calls Tryd.prog 42 #[.string s] w fun e w' => e = .returned (.int .i64 v) ∧ Below w.heap.size w w' := by
  have HA := hide (fun w => Tryd.strconv_Atoi_ok s hs v hv.out w)
  go_enter Tryd.func42, Tryd.ntmps42
  go_wp2_with fail
  refine (HA.out _).mono ?_
  rintro e w1 ⟨rfl, hw⟩
  have hb : Below w.heap.size w w1 := by
    rcases hw with rfl | ⟨t, rfl⟩
    · exact Below.refl _ _
    · exact ⟨rfl, rfl, rfl, by rw [Lib.bytesWorld_size]; omega, fun j hj => Lib.bytesWorld_at_old _ _ _ j hj⟩
  clear hw
  go_wp2_with fail
  go_ret
  exact ⟨rfl, hb⟩
end Go.Proofs.YtdjenpccgaojgaaDoor
