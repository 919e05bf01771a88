/- A plan that is given as an argument. -/
import Derived.Test.YtbadinmlnbabiaaArgs
import Derived.Test.YtbadinmlnbabiaaRow
set_option linter.unusedVariables false
set_option linter.unusedSimpArgs false
namespace Go.Proofs.Ytbadinmlnbabiaa
open Go.RowKit
theorem agg_ofP {v : Value} {n : Nat} (h : v.cells.size = n) (h2 : n ≠ 1) : ∃ cs, v = .agg cs ∧ cs.size = n := by
  cases v <;> first | exact ⟨_, rfl, h⟩ | (simp [Value.cells] at h; omega)
theorem Arg.plan {w : World} {v : Value} (h : Arg Try.prog w 24 v) : ∃ a b c d : Int, v = .agg #[.int .i64 a, .int .i64 b, .int .i64 c, .int .i64 d] ∧ (-9223372036854775808 ≤ a ∧ a ≤ 9223372036854775807) ∧ (-9223372036854775808 ≤ b ∧ b ≤ 9223372036854775807) ∧ (-9223372036854775808 ≤ c ∧ c ≤ 9223372036854775807) ∧ (-9223372036854775808 ≤ d ∧ d ≤ 9223372036854775807) := by
  obtain ⟨xs, hx, hl, hw⟩ := h.reads.intFields 4 (by kernel_rfl) Try.underlying3 (by kernel_rfl) (by kernel_rfl)
  obtain ⟨o, a, b, c, rfl⟩ : ∃ o a b c, xs = [o, a, b, c] := by
    match xs, hl with
    | [o, a, b, c], _ => exact ⟨o, a, b, c, rfl⟩
  obtain ⟨cs, rfl, _⟩ := agg_ofP (n := 4) (v := v) (by
    have := congrArg List.length hx
    simpa using this) (by omega)
  have h0 := hw 0 (by omega)
  have h1 := hw 1 (by omega)
  have h2 := hw 2 (by omega)
  have h3 := hw 3 (by omega)
  simp [Lit.wf, IntKind.min, IntKind.max, IntKind.signed, IntKind.bits] at h0 h1 h2 h3
  refine ⟨o, a, b, c, ?_, h0, h1, h2, h3⟩
  have hcs : cs.toList = [.int .i64 o, .int .i64 a, .int .i64 b, .int .i64 c] := by simpa [Value.cells] using hx
  rw [show cs = #[.int .i64 o, .int .i64 a, .int .i64 b, .int .i64 c] from Array.toList_inj.1 hcs]
end Go.Proofs.Ytbadinmlnbabiaa
