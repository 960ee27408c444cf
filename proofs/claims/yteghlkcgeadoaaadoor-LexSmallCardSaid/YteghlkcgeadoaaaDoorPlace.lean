/-
  lex: Place, the program's and the reference's.
-/
import Derived.Test.YteghlkcgeadoaaaDoorBase
import Derived.Test.YteghlkcgeadoaaaDoorPlaceP
import Derived.Test.YteghlkcgeadoaaaDoorShelf
namespace Go.Proofs.YteghlkcgeadoaaaDoor
open Go.RowKit
set_option maxRecDepth 100000 in
set_option maxHeartbeats 1000000 in
theorem place_any (src : ByteArray) (a : Int) (w : World) (hs : src.size ≤ 1099511627776) :
    Calls Tryd.prog 13 #[.string src, .int .i64 a] w fun e w' => e = .returned (.tuple #[.int .i64 ((plN src (clampN src a)).1 : Int), .int .i64 ((plN src (clampN src a)).2 : Int)]) ∧ w = w' := by
  have HM : Hid ((min (max a 0) (src.size : Int)).toNat = clampN src a) := by show _ = _; unfold clampN; omega
  have hm : clampN src a ≤ src.size := by unfold clampN; omega
  generalize clampN src a = m at *
  obtain ⟨p0, p1, p2, p3, p4, p5⟩ := place_nums src m hm
  have HC := hide (fun w => Tryd.strings_Count_one (src.extract 0 m) 10 w)
  have HI := hide (fun w => Tryd.strings_LastIndexByte (src.extract 0 m) 10 (by omega) w)
  have HP1 := hide p1
  have HP2 := hide p2
  generalize Lib.countByte (src.extract 0 m).data.toList 10 = c at *
  generalize Lib.lastIndexByte (src.extract 0 m) 10 = x at *
  have h0 : (0 : Int) ≤ c := by omega
  have HPS := hide p0
  clear p0 p1 p2
  go_enter Tryd.func13, Tryd.ntmps13
  go_wp2_with fail
  rw [HM.out]
  generalize src.extract 0 m = B at *
  refine (HC.out _).mono ?_
  rintro e w' ⟨rfl, rfl⟩
  have hbs := HPS.out
  have hb1 : B.size ≤ 1099511627776 := by omega
  have k2 : (B.size : Int) - x < 9223372036854775808 := by omega
  have k3 : -9223372036854775808 ≤ (B.size : Int) - x := by omega
  have k1 : (c : Int) + 1 < 9223372036854775808 := by omega
  clear hbs
  go_wp2_with fail
  refine (HI.out _).mono ?_
  rintro e w' ⟨rfl, rfl⟩
  go_wp2_with fail
  go_ret2
  refine ⟨?_, rfl⟩
  rw [← HP1.out, ← HP2.out, HPS.out]
  simp
end Go.Proofs.YteghlkcgeadoaaaDoor
