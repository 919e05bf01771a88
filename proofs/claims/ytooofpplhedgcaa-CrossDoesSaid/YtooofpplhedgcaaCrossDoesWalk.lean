/- The walk through the law CrossDoes. -/
import Derived.Test.YtooofpplhedgcaaCdCore
set_option linter.unusedVariables false
set_option linter.unusedSimpArgs false
namespace Go.Proofs.Ytooofpplhedgcaa
open Go.RowKit
set_option maxRecDepth 100000
set_option maxHeartbeats 4000000
theorem walkCrossDoes (v0 : Value) (w : World) (h0 : Arg Try.prog w 65 v0) :
    Calls Try.prog 8 #[v0] w fun e w' => e = .returned (.bool true) ∧ Below w.heap.size w w' := by
  obtain ⟨lo, lc, ls, rfl, p1, p2, p3, g2, off, p4⟩ := h0.structs' 5 Try.underlying65 (by kernel_rfl) Try.underlying3 (by kernel_rfl) (by kernel_rfl) (by decide)
  by_cases hl : ls.length ≤ 200
  · exact cdoes_core ls lo lc g2 off w p1 p2 hl (fun i hi => ⟨(p4 i hi).1, p3 i hi, (p4 i hi).2⟩)
  · unfold maxLen at p2
    clear p4 p3
    have hl2 : 200 < ls.length := by omega
    go_enter Try.func8, Try.ntmps8
    go_wp2_with (go_at_call 33; refine (works19_any _).mono ?_; rintro e w1 ⟨rfl, hb1⟩)
    go_ret
    exact ⟨rfl, hb1⟩
end Go.Proofs.Ytooofpplhedgcaa
