/- CoreBegins: the law's walk. -/
import Derived.Test.YtcegncbnanbenaaCbOk
set_option linter.unusedVariables false
namespace Go.Proofs.Ytcegncbnanbenaa
open Go.RowKit
theorem walkCoreBegins (v0 v1 v2 : Value) (w : World) (h0 : Arg Try.prog w 33 v0) (h1 : Arg Try.prog w 36 v1) (h2 : Arg Try.prog w 35 v2) :
    Calls Try.prog 5 #[v0, v1, v2] w fun e w' => e = .returned (.bool true) ∧ Below w.heap.size w w' := by
  obtain ⟨mem, fs, ao, cap, rfl, hL⟩ := h0.prog
  obtain ⟨io, ic, xs, rfl, hI, hin, -⟩ := h1.lies Try.underlying36 Try.underlying3 (by kernel_rfl)
  obtain ⟨q, rfl⟩ := h2.params
  by_cases hE : coreE q mem fs xs.length = 0
  · exact begins_ok q mem fs ao cap xs io ic w hL hI hin hE
  · exact begins_err q mem fs ao cap xs io ic w hL hI hin hE
end Go.Proofs.Ytcegncbnanbenaa
