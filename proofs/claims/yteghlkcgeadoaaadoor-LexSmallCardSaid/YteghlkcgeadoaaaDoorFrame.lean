/-
  lex: the frame of the laws: what a row gives to its walk.
-/
import Derived.Test.YteghlkcgeadoaaaDoorAwk
import Derived.Test.YteghlkcgeadoaaaDoorBoth
import Derived.Test.YteghlkcgeadoaaaDoorRows
import Derived.Test.YteghlkcgeadoaaaDoorCards
import Derived.Test.YteghlkcgeadoaaaDoorTie
import Derived.SevenTiedAt
import Derived.Lib.LaidTab
import Derived.Lib.SmallJoins
import Derived.Stop.LaidErr
namespace Go.Proofs.YteghlkcgeadoaaaDoor
open Go.RowKit
theorem own : ownKnob Tryd.prog.godebug = none := by kernel_rfl
theorem laidOut : laidOutB Tryd.prog = true := by kernel_rfl
theorem gTabTy : (Tryd.prog.globals[3]?).map (·.type) = some 116 := by kernel_rfl
theorem gErrRTy : (Tryd.prog.globals[2]?).map (·.type) = some 73 := by kernel_rfl
theorem gErrSTy : (Tryd.prog.globals[1]?).map (·.type) = some 73 := by kernel_rfl
theorem cellsES : Tryd.prog.cellsOf 114 = 1 := by kernel_rfl
theorem cellsStr : Tryd.prog.cellsOf 9 = 1 := by kernel_rfl
theorem starES : "*" ++ "errors.errorString" = "*errors.errorString" := by decide
theorem rowES (u : TypeId) (h : Tryd.prog.typeName? 3 u = some "*errors.errorString") : u = 112 :=
  typeName_ptr_named (nm := "errors.errorString") (by rw [starES]; kernel_rfl) (by kernel_rfl) (by decide) u (by rw [starES]; exact h)
def laidL : List (String × DataW Unit) := Rows.lexSmallRow.laid
theorem door_met (os : Os) (args : Array Value) : laidMetH Tryd.prog laidL ((World.doorLaid Tryd.prog 400 os).forCall (fun _ _ => 0) ⟨#[], args, []⟩).memory :=
  laidMetH_of_parts3 (fuel := 8) (laidMet_of_run' 8 (by kernel_rfl) (by kernel_rfl)) (by kernel_rfl) (by kernel_rfl)
theorem env_of {W : World} (h : laidMetH Tryd.prog laidL W) (_hs : W.ShapedOpen Tryd.prog) : Env W := by
  rw [MakeChecks.laidMetH_plain _ _ _ (by kernel_rfl)] at h
  have h2 := laidMet.tail (laidMet.tail h)
  have ht : Lib.TabIs Tryd.prog W "internal/strconv.uint64pow10" .u64 Lib.pow10Tab := Lib.tabIs_of_head (n := 20) gTab gTabTy Tryd.underlying116 Tryd.underlying99 (by kernel_rfl) (by kernel_rfl) h2
  have h3 := laidMet.tail h2
  obtain ⟨a1, s1, v1, -, -, -⟩ := laid_sentinel h3 gErrR gErrRTy Tryd.underlying73 rowES Tryd.underlying112 Tryd.underlying114 rfl rfl Tryd.underlying9 cellsES cellsStr
  obtain ⟨a2, s2, v2, -, -, -⟩ := laid_sentinel (laidMet.tail h3) gErrS gErrSTy Tryd.underlying73 rowES Tryd.underlying112 Tryd.underlying114 rfl rfl Tryd.underlying9 cellsES cellsStr
  have lt : ∀ {n : String} {g : Nat} {cs : Array Value} {v : Value}, Tryd.prog.globalNamed n = some g → W.var? Tryd.prog n = some cs → cs[0]? = some v → g < W.heap.size := by
    intro n g cs v hg hv h0
    have hc := World.var?_cell hg hv 0
    exact World.block_lt_of_cell? W ⟨g, 0, none⟩ (hc.trans h0)
  exact ⟨ht, ⟨_, _, v2⟩, ⟨_, _, v1⟩, lt gTab ht (v := .int .u64 1) rfl, lt gErrS v2 rfl, lt gErrR v1 rfl⟩
end Go.Proofs.YteghlkcgeadoaaaDoor
