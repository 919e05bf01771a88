/- Package frame: works. -/
import Derived.Test.YtbadinmlnbabiaaFrame3
set_option linter.unusedVariables false
set_option linter.unusedSimpArgs false
namespace Go.Proofs.Ytbadinmlnbabiaa
open Go.RowKit
set_option maxRecDepth 100000
set_option maxHeartbeats 8000000
theorem Try.rowPlan : (Try.prog.underlying 24).map (fun d => match d with | .struct _ | .array _ _ => true | _ => false) = some true := by kernel_rfl
theorem Try.sizePlan : (Try.prog.info? 24).map (·.size) = some 4 := by kernel_rfl
theorem plan16_any (f : Int) (w : World) : Calls Try.prog 54 #[.int .i64 f] w fun e w' => e = .returned (.agg #[.int .i64 1, .int .i64 f, .int .i64 2, .int .i64 3]) ∧ Below w.heap.size w w' := by
  obtain ⟨d0, hd1, hd2⟩ := Option.map_eq_some_iff.1 Try.rowPlan
  have hsz := Try.sizePlan
  go_enter Try.func54, Try.ntmps54
  go_wp2
  exact bodyPost_ret (results_cell_row rfl _ _ _ _ _ _ d0 rfl (heap_alloc_new _ _) hd1 (by cases d0 <;> exact hd2) hsz) rfl ⟨rfl, by go_grown⟩
end Go.Proofs.Ytbadinmlnbabiaa
