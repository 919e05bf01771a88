/- The anchor of the statements of layer 2. -/
import Derived.Test.YtkmccbknmpjkhaaBitsRef
set_option linter.unusedVariables false
namespace Go.Proofs.Ytkmccbknmpjkhaa
open Go.RowKit
set_option maxHeartbeats 400000
theorem works02_any (w : World) : Calls Try.prog 12 #[] w fun e w' => e = .returned (.bool true) ∧ Below w.heap.size w w' := by
  have l1 : low (-2) (hs 2) = [255, 254] := by decide
  have l2 : sgn 65534 (hs 2) = -2 := by decide
  have l3 : numOf [1, 2, 97] false (hs 2) = (258, [97], false) := by decide
  go_enter Try.func12, Try.ntmps12
  go_wp2_with (first | (go_at_call 13; refine (new_any [1, 2, 97] _).mono ?_; rintro e w1 ⟨rfl, hc1, ht1, hz1⟩) | (go_at_call 19; refine (put_any _ _ _ _ (by decide)).mono ?_; rintro e w2 ⟨rfl, hb2⟩) | (go_at_call 21; refine (signed_any _ _ _).mono ?_; rintro e w3 ⟨rfl, rfl⟩))
  have hc2 := below_at hb2 hc1 (lt_at hc1)
  have hb : Below w.heap.size w w2 := (ht1.below (Below.refl _ _) (Nat.le_refl _) (fun _ h => h.elim)).trans (hb2.mono (by omega))
  refine (num_any _ _ _ _ _ hc2 (by simp)).mono ?_
  rintro e w3 ⟨rfl, hc3, ht3, hz3⟩
  rw [l3] at hc3 ⊢
  go_wp2_with (first | (go_at_call 17; refine (left_any _ _ _ _ hc3).mono ?_; rintro e w4 ⟨rfl, rfl⟩) | (go_at_call 18; refine (done_any _ _ _ _ hc3).mono ?_; rintro e w5 ⟨rfl, rfl⟩))
  go_ret
  exact ⟨rfl, ht3.below hb hb.size (by rintro k rfl; exact Nat.le_refl _)⟩
end Go.Proofs.Ytkmccbknmpjkhaa
