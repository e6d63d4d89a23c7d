/- Opening the laws' arguments: dates; the table of the months' lengths. -/
import Derived.Test.YtolgljionpalkaaDoorDayA
import Derived.ProofKit
import Derived.OpenShut
import Derived.LaidMore
import Derived.Lib.LaidTab
import Derived.Lib.SmallJoins
import Derived.MakeChecks
set_option linter.unusedSimpArgs false
set_option linter.unusedVariables false
namespace Go.Proofs.YtolgljionpalkaaDoor
open Go.ChangeShapes Go.WideShapes Go.ChangeAt Go.RowKit Go.Joins
theorem tab_of_laid {W : World} (h : laidMetH Tryd.prog [("tontine/day.lengths", Rows.laid_tontine_day_lengths)] W) : TabOk W := by
  rw [MakeChecks.laidMetH_plain _ _ _ (by kernel_rfl)] at h
  have hg : Tryd.prog.globalNamed "tontine/day.lengths" = some 0 := by kernel_rfl
  have hT := Lib.tabIs_of_head (zs := [0, 31, 28, 31, 30, 31, 30, 31, 31, 30, 31, 30, 31]) hg (show (Tryd.prog.globals[0]?).map (·.type) = some 82 by kernel_rfl) Tryd.underlying82 Tryd.underlying3 (by kernel_rfl) (by kernel_rfl) h
  refine ⟨?_, fun i hi => ?_⟩
  · exact World.block_lt_of_cell? W ⟨0, 0, none⟩ (hT.cell hg 0 (by decide))
  · have := hT.cell hg i hi
    rw [this]
    unfold tabL
    simp
end Go.Proofs.YtolgljionpalkaaDoor
