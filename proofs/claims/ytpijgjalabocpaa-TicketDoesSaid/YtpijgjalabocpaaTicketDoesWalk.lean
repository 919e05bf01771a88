/- The walk through the law TicketDoes. -/
import Derived.Test.YtpijgjalabocpaaTicketDoesCore
set_option linter.unusedVariables false
set_option linter.unusedSimpArgs false
namespace Go.Proofs.Ytpijgjalabocpaa
open Go.RowKit
set_option maxHeartbeats 4000000
set_option maxRecDepth 100000
theorem walkTicketDoes (v0 v1 : Value) (w : World) (h0 : Arg Try.prog w 5 v0) (h1 : Arg Try.prog w 63 v1) :
    Calls Try.prog 10 #[v0, v1] w fun e w' => e = .returned (.bool true) ∧ Below w.heap.size w w' := by
  obtain ⟨sz, rfl, hs⟩ := h0.int Try.underlying5
  simp [Lit.wf, IntKind.min, IntKind.max, IntKind.signed, IntKind.bits] at hs
  obtain ⟨sz, rfl⟩ : ∃ n : Nat, sz = n := ⟨sz.toNat, by omega⟩
  obtain ⟨lo, lc, ls, rfl, p1, p2, _, g2, off, p4⟩ := h1.structs' 3 Try.underlying63 (by kernel_rfl) Try.underlying3 (by kernel_rfl) (by kernel_rfl) (by decide)
  by_cases hl : ls.length ≤ 200
  · exact tdoes_core sz ls lo lc w (by omega) p1 p2 hl g2 off p4
  · unfold maxLen at p2
    clear p4
    have hl2 : 200 < ls.length := by omega
    go_enter Try.func10, Try.ntmps10
    go_wp2_with (go_at_call 29; refine (works12_any _).mono ?_; rintro e w1 ⟨rfl, hb1⟩)
    go_ret
    exact ⟨rfl, hb1⟩
end Go.Proofs.Ytpijgjalabocpaa
