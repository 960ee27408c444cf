/-
  LexTells: the walk.
-/
import Derived.Test.YtnpadhjjkoiihaaDoorLexes
import Derived.Test.YtnpadhjjkoiihaaDoorAwk
namespace Go.Proofs.YtnpadhjjkoiihaaDoor
open Go.RowKit
set_option maxRecDepth 100000 in
set_option maxHeartbeats 1000000 in
theorem tells_any (src : ByteArray) (w : World) (hE : Hid (Env w)) : Calls Tryd.prog 3 #[.string src] w fun e w' => e = .returned (.bool true) ∧ Below w.heap.size w w' := by
  have HA := hide (fun w hE => awake_any w hE)
  have HL := hide (fun w hE => lexes_any src w hE)
  by_cases hl : 4000 < src.size
  · have h1 : (4000 : Int) < (src.size : Int) := by omega
    go_enter Tryd.func3, Tryd.ntmps3
    go_wp2_with fail
    refine (HA.out _ hE).mono ?_
    rintro e w1 ⟨rfl, hb1⟩
    have HB1 := hide hb1
    clear hb1
    go_wp2_with fail
    go_ret
    exact ⟨rfl, HB1.out⟩
  · have h1 : (src.size : Int) ≤ 4000 := by omega
    go_enter Tryd.func3, Tryd.ntmps3
    go_wp2_with fail
    refine (HL.out _ hE).mono ?_
    rintro e w1 ⟨rfl, hb1⟩
    have HB1 := hide hb1
    clear hb1
    go_wp2_with fail
    refine (HA.out _ (hide (hE.out.kept HB1.out))).mono ?_
    rintro e w2 ⟨rfl, hb2⟩
    have HB2 := hide (HB1.out.trans (hb2.mono HB1.out.size))
    clear hb2
    go_wp2_with fail
    go_ret
    exact ⟨rfl, HB2.out⟩
end Go.Proofs.YtnpadhjjkoiihaaDoor
