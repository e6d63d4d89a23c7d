/- Opening the laws' arguments: dates; the table of the months' lengths. -/
import Derived.Test.YtolgljionpalkaaDoorDayA
import Derived.ProofKit
import Derived.OpenShut
import Derived.LaidMore
import Derived.Lib.LaidTab
import Derived.Lib.SmallJoins
import Derived.MakeChecks
set_option linter.unusedSimpArgs false
set_option linter.unusedVariables false
namespace Go.Proofs.YtolgljionpalkaaDoor
open Go.ChangeShapes Go.WideShapes Go.ChangeAt Go.RowKit Go.Joins
theorem tab_of_laid {W : World} (h : laidMetH Tryd.prog [("tontine/day.lengths", Rows.laid_tontine_day_lengths)] W) : TabOk W := by
  rw [MakeChecks.laidMetH_plain _ _ _ (by kernel_rfl)] at h
  have hg : Tryd.prog.globalNamed "tontine/day.lengths" = some 0 := by kernel_rfl
  have hT := Lib.tabIs_of_head (zs := [0, 31, 28, 31, 30, 31, 30, 31, 31, 30, 31, 30, 31]) hg (show (Tryd.prog.globals[0]?).map (·.type) = some 82 by kernel_rfl) Tryd.underlying82 Tryd.underlying3 (by kernel_rfl) (by kernel_rfl) h
  refine ⟨?_, fun i hi => ?_⟩
  · exact World.block_lt_of_cell? W ⟨0, 0, none⟩ (hT.cell hg 0 (by decide))
  · have := hT.cell hg i hi
    rw [this]
    unfold tabL
    simp
theorem cells_date : Tryd.prog.cellsOf 29 = 3 := by kernel_rfl
theorem open_date {H : Type} {enc : TypeId × Value → H} {W : World} {r : Reach} {b0 base : Nat} {sp : Nat → Bool} {held : Bool} {v : Value} {d : DataW H} {p : List MemPlace}
    (hv : Value.okWide Tryd.prog W r b0 29 v) (h : DataW.Trod enc Tryd.prog W base sp held 29 v d p) :
    ∃ y m t : Int, v = .agg #[.int .i64 y, .int .i64 m, .int .i64 t] ∧ ((Lit.int .i64 y).wf = true ∧ (Lit.int .i64 m).wf = true ∧ (Lit.int .i64 t).wf = true) := by
  obtain ⟨c0, c1, c2, y0, y1, y2, m, rfl, rfl, rfl, hy0, hy1, hy2⟩ := open_agg3 Tryd.underlying29 (by kernel_rfl) cells_date hv h
  obtain ⟨a, e0, rfl, wa⟩ := DataW.trod_int Tryd.underlying3 hy0
  obtain ⟨b, e1, rfl, wb⟩ := DataW.trod_int Tryd.underlying3 hy1
  obtain ⟨c, e2, rfl, wc⟩ := DataW.trod_int Tryd.underlying3 hy2
  simp at e0 e1 e2
  subst e0 e1 e2
  exact ⟨a, b, c, rfl, wa, wb, wc⟩
end Go.Proofs.YtolgljionpalkaaDoor
