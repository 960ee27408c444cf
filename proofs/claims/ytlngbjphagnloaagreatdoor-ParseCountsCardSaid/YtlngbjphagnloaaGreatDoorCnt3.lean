/-
  parse: ParseCounts returns true: the other cases.
-/
import Derived.Test.YtlngbjphagnloaaGreatDoorCnt2
namespace Go.Proofs.YtlngbjphagnloaaGreatDoor
open Go.RowKit
attribute [local go_sem] Later.cell
set_option maxRecDepth 100000 in
set_option maxHeartbeats 4000000 in
theorem counts_long (src : ByteArray) (h : 5000 < src.size) (W : World) (hE : Hid (Env W)) (hP : Hid (EnvP W)) : Calls Tryz.prog 4 #[.string src] W fun e w' => e = .returned (.bool true) ∧ Below W.heap.size W w' := by
  have h1 : (5000 : Int) < (src.size : Int) := by omega
  go_enter Tryz.func4, Tryz.ntmps4
  go_wp2_with fail
  refine (awake_any W hE hP).mono ?_
  rintro e w1 ⟨rfl, hb1⟩
  have HB1 := hide hb1
  clear hb1
  go_wp2_with fail
  go_ret
  exact ⟨rfl, HB1.out⟩
set_option maxRecDepth 100000 in
set_option maxHeartbeats 4000000 in
theorem counts_bad (src : ByteArray) (at_ er : Nat) (hp : parseT (lexR src.data.toList) src.size = (CfgD.none, at_, er)) (her : er ≠ 0) (hs : src.size ≤ 5000) (W : World) (hE : Hid (Env W)) (hP : Hid (EnvP W)) : Calls Tryz.prog 4 #[.string src] W fun e w' => e = .returned (.bool true) ∧ Below W.heap.size W w' := by
  have HPC := hide (fun V hE hP => parse_call src CfgD.none at_ er hp V hE hP)
  have hs1 : (src.size : Int) ≤ 5000 := by omega
  have he1 : ((er : Int) != 0) = true := by simp; omega
  clear hp her
  go_enter Tryz.func4, Tryz.ntmps4
  go_wp2_with fail
  refine (awake_any W hE hP).mono ?_
  rintro e w1 ⟨rfl, hb1⟩
  have HE1 := hide (hE.out.kept hb1)
  have HP1 := hide (hP.out.below hb1)
  have HB1 := hide hb1
  clear hb1
  go_wp2_with fail
  refine (HPC.out w1 HE1 HP1).mono ?_
  rintro e w2 ⟨A, q, rfl, hb2, -⟩
  have HB2 := hide (HB1.out.trans (hb2.mono HB1.out.size))
  clear hb2
  rw [show (cfgVal A q CfgD.none).toArray = #[.slice (A 0) 0 (q 0), .slice (A 1) 0 (q 1), .slice (A 2) 0 (q 2), .slice (A 3) 0 (q 3), .slice (A 4) 0 (q 4), .slice (A 5) 0 (q 5), .slice (A 6) 0 (q 6), .slice (A 7) 0 (q 7)] from rfl]
  go_wp2_with fail
  go_ret
  exact ⟨rfl, HB2.out.alloc HB2.out.size _⟩
theorem counts_any (src : ByteArray) (W : World) (hE : Hid (Env W)) (hP : Hid (EnvP W)) : Calls Tryz.prog 4 #[.string src] W fun e w' => e = .returned (.bool true) ∧ Below W.heap.size W w' := by
  by_cases hs : 5000 < src.size
  · exact counts_long src hs W hE hP
  obtain ⟨⟨c, at_, er⟩, hp⟩ : ∃ x, parseT (lexR src.data.toList) src.size = x := ⟨_, rfl⟩
  obtain ⟨⟨ts, p, le⟩, hl⟩ : ∃ x, lexR src.data.toList = x := ⟨_, rfl⟩
  by_cases her : er = 0
  · subst her
    exact counts_short src c at_ ts p le hl hp (by omega) W hE hP
  · obtain rfl := parsed_bad hp her
    exact counts_bad src at_ er hp her (by omega) W hE hP
end Go.Proofs.YtlngbjphagnloaaGreatDoor
