/- The walk through the law DequeDoes. -/
import Derived.Test.YtofnjapgacgdlaaDdCore
set_option linter.unusedVariables false
set_option linter.unusedSimpArgs false
namespace Go.Proofs.Ytofnjapgacgdlaa
open Go.RowKit
set_option maxRecDepth 100000
set_option maxHeartbeats 4000000
theorem walkDequeDoes (v0 v1 v2 : Value) (w : World) (h0 : Arg Try.prog w 5 v0) (h1 : Arg Try.prog w 4 v1) (h2 : Arg Try.prog w 52 v2) :
    Calls Try.prog 11 #[v0, v1, v2] w fun e w' => e = .returned (.bool true) ∧ Below w.heap.size w w' := by
  obtain ⟨m, rfl, hm⟩ := h0.int Try.underlying5
  simp [Lit.wf, IntKind.min, IntKind.max, IntKind.signed, IntKind.bits] at hm
  obtain ⟨m, rfl⟩ : ∃ k : Nat, m = k := ⟨m.toNat, by omega⟩
  obtain ⟨b, rfl⟩ := h1.bool Try.underlying4
  obtain ⟨oo, oc, os, rfl, p1, p2, g, off, p4⟩ := h2.dqops
  by_cases hl : os.length ≤ 300
  · exact ddoes_core m b os oo oc g off w (by omega) p1 p2 hl p4
  · unfold maxLen at p2
    clear p4
    have hl2 : 300 < os.length := by omega
    go_enter Try.func11, Try.ntmps11
    go_wp2_with (go_at_call 30; refine (works13_any _).mono ?_; rintro e w1 ⟨rfl, hb1⟩)
    go_ret
    exact ⟨rfl, hb1⟩
end Go.Proofs.Ytofnjapgacgdlaa
