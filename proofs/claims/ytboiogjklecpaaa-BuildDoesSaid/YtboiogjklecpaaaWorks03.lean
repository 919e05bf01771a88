/- The anchor of layer 3. -/
import Derived.Test.YtboiogjklecpaaaInsGet2
import Derived.Test.YtboiogjklecpaaaInsNames
import Derived.Test.YtboiogjklecpaaaInsBack
set_option linter.unusedVariables false
set_option linter.unusedSimpArgs false
namespace Go.Proofs.Ytboiogjklecpaaa
open Go.RowKit
set_option maxRecDepth 100000
set_option maxHeartbeats 8000000
theorem works03_any (w : World) : Calls Try.prog 15 #[] w fun e w' => e = .returned (.bool true) ∧ Below w.heap.size w w' := by
  have P := Lib.hid (put_ok 1 2 (-1) 0 (by decide) w)
  rw [show putI 1 2 (-1) 0 = [1, 2, 255, 255] by decide] at P
  have G := Lib.hid (fun w1 => get_four 19 1 0 7 w1)
  rw [show getI [19, 1, 0, 7] = ((19, 1, 7, 0), 0) by decide] at G
  have O := fun w1 => of_core [119, 97, 105, 116] (by decide) w1
  rw [show ofN [119, 97, 105, 116] 26 0 = some 23 by decide] at O
  replace O := Lib.hid O
  go_enter Try.func15, Try.ntmps15
  go_wp2_with fail
  go_at_call 21
  refine P.out.mono ?_
  rintro e w1 ⟨rfl, hb1⟩
  go_wp2_with fail
  go_at_call 23
  refine (G.out _).mono ?_
  rintro e w2 ⟨rfl, hb2⟩
  unfold insV
  go_wp2_with fail
  have hO := (Own.nil (below_chain hb1 hb2)).box #[.int .i64 19, .int .i64 1, .int .i64 7, .int .i64 0] 30
  generalize w2.alloc (.cells #[.int .i64 19, .int .i64 1, .int .i64 7, .int .i64 0] 30) = w3 at *
  generalize w2.heap.size = xb at *
  go_at_call 20
  refine (O.out _).mono ?_
  rintro e w4 ⟨rfl, hb4⟩
  have h4 := hO.grow hb4
  obtain ⟨⟨x0, _⟩, ⟨x1, _⟩, ⟨x2, _⟩, ⟨x3, _⟩⟩ := cells4f 0 h4 rfl
  clear hb4 hO hb1 hb2
  go_wp2_with fail
  go_ret
  exact ⟨rfl, h4.below⟩
end Go.Proofs.Ytboiogjklecpaaa
