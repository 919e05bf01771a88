/- The walk through the law BitsTells. -/
import Derived.Test.YtkmccbknmpjkhaaWorks02
set_option linter.unusedVariables false
namespace Go.Proofs.Ytkmccbknmpjkhaa
open Go.RowKit
set_option maxHeartbeats 400000
theorem walkBitsTells (v0 v1 v2 : Value) (w : World) (h0 : Arg Try.prog w 9 v0) (h1 : Arg Try.prog w 3 v1) (h2 : Arg Try.prog w 3 v2) :
    Calls Try.prog 4 #[v0, v1, v2] w fun e w' => e = .returned (.bool true) ∧ Below w.heap.size w w' := by
  obtain ⟨s, rfl, hs0⟩ := h0.string Try.underlying9
  obtain ⟨n, rfl, wn⟩ := h1.int Try.underlying3
  obtain ⟨k, rfl, wk⟩ := h2.int Try.underlying3
  obtain ⟨l, rfl⟩ := str_of s
  obtain ⟨n0, n1⟩ := bounds_i64 wn
  by_cases hl : 1000 < l.length
  · go_enter Try.func4, Try.ntmps4
    go_wp2_with (go_at_call 12; refine (works02_any _).mono ?_; rintro e w2 ⟨rfl, hb⟩)
    go_ret
    exact ⟨rfl, hb⟩
  · have hl' : l.length ≤ 1000 := by omega
    go_enter Try.func4, Try.ntmps4
    go_wp2_with (first | (go_at_call 12; refine (works02_any _).mono ?_; rintro e w1 ⟨rfl, hb1⟩) | (go_at_call 19; refine (put_any _ _ _ _ (by omega)).mono ?_; rintro e w2 ⟨rfl, hb2⟩) | (go_at_call 20; refine (rput_any _ _ _ _ (by omega) n0 n1).mono ?_; rintro e w3 ⟨rfl, hb3⟩) | (go_at_call 21; refine (signed_any _ _ _).mono ?_; rintro e w4 ⟨rfl, rfl⟩) | (go_at_call 22; refine (rsigned_any _ _ _ n0 n1).mono ?_; rintro e w5 ⟨rfl, rfl⟩) | (go_at_call 23; refine (fits_any _ _ _).mono ?_; rintro e w6 ⟨rfl, rfl⟩) | (go_at_call 24; refine (rfits_any _ _ _ n0 n1).mono ?_; rintro e w7 ⟨rfl, rfl⟩))
    go_ret
    exact ⟨rfl, (hb1.trans (hb2.mono hb1.size)).trans (hb3.mono (Nat.le_trans hb1.size hb2.size))⟩
end Go.Proofs.Ytkmccbknmpjkhaa
