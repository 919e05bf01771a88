/- The layout: works. -/
import Derived.Test.YtbadinmlnbabiaaPlan2
set_option linter.unusedVariables false
set_option linter.unusedSimpArgs false
namespace Go.Proofs.Ytbadinmlnbabiaa
open Go.RowKit
set_option maxHeartbeats 1000000
set_option maxRecDepth 100000
theorem works11_any (w : World) : Calls Try.prog 13 #[] w fun e w' => e = .returned (.bool true) ∧ Below w.heap.size w w' := by
  have h : okPlan 1 1 1 2 = true := by decide
  have C1 := fun w => check_any 1 1 1 2 w
  have C2 := fun w => size_ok h w
  have C3 := fun w => room_ok h w
  have C4 := fun w => frame_ok h 1 w
  have C5 := fun w => done_ok h 1 1 w
  rw [show checkOf 1 1 1 2 = 0 by decide] at C1
  rw [show sizeV 1 1 1 2 = 16 by decide] at C2
  rw [show roomV 1 = 10 by decide] at C3
  rw [show frameV 1 1 1 2 1 = 6 by decide] at C4
  rw [show wordV 1 1 1 2 1 1 3 = 15 by decide] at C5
  replace C1 := Lib.hid C1
  replace C2 := Lib.hid C2
  replace C3 := Lib.hid C3
  replace C4 := Lib.hid C4
  replace C5 := Lib.hid C5
  clear h
  go_enter Try.func13, Try.ntmps13
  go_wp2_with (first | (go_at_call 14; refine (C1.out _).mono ?_; rintro e w1 ⟨rfl, hb1⟩; obtain ⟨x0, x1, x2, x3, hB1⟩ := box_new hb1) | (go_at_call 15; refine (C2.out _).mono ?_; rintro e w2 ⟨rfl, hb2⟩; obtain ⟨y0, y1, y2, y3, hB2⟩ := box_keep ⟨x0, x1, x2, x3, hB1⟩ hb2) | (go_at_call 16; refine (C3.out _).mono ?_; rintro e w3 ⟨rfl, hb3⟩; obtain ⟨z0, z1, z2, z3, hB3⟩ := box_keep ⟨y0, y1, y2, y3, hB2⟩ hb3) | (go_at_call 17; refine (C4.out _).mono ?_; rintro e w4 ⟨rfl, hb4⟩; obtain ⟨u0, u1, u2, u3, hB4⟩ := box_keep ⟨z0, z1, z2, z3, hB3⟩ hb4) | (go_at_call 21; refine (C5.out _).mono ?_; rintro e w5 ⟨rfl, hb5⟩; obtain ⟨v0, v1, v2, v3, hB5⟩ := box_keep ⟨u0, u1, u2, u3, hB4⟩ hb5))
  go_ret
  exact ⟨rfl, hB5⟩
end Go.Proofs.Ytbadinmlnbabiaa
