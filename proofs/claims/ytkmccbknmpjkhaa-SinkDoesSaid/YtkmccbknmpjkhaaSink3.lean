/- The sink: works. -/
import Derived.Test.YtkmccbknmpjkhaaSink2
set_option linter.unusedVariables false
set_option linter.unusedSimpArgs false
namespace Go.Proofs.Ytkmccbknmpjkhaa
open Go.RowKit
set_option maxHeartbeats 1000000
set_option maxRecDepth 100000
set_option maxHeartbeats 300000 in
theorem works22_any (w : World) : Calls Try.prog 32 #[] w fun e w' => e = .returned (.bool true) ∧ Below w.heap.size w w' := by
  have N := new_any 2 w
  rw [show min (max 2 0) 1000 = (2 : Int) by decide] at N
  have E5 := fun w1 (hs : SinkIs w1 w.heap.size 2 [] w.heap.size) => emit_lit 5 true [5] hs (by simp) (by simp) (by simp)
  have E6 := fun w1 (hs : SinkIs w1 w.heap.size 2 [5] w.heap.size) => emit_lit 6 true [5, 6] hs (by simp) (by simp) (by simp)
  have E7 := fun w1 (hs : SinkIs w1 w.heap.size 2 [5, 6] w.heap.size) => emit_lit 7 false [5, 6] hs (by simp) (by simp) (by simp)
  have N' := Lib.hid N
  have E5' := Lib.hid E5
  have E6' := Lib.hid E6
  have E7' := Lib.hid E7
  clear N E5 E6 E7
  go_enter Try.func32, Try.ntmps32
  go_wp2_with (go_at_call 37; refine N'.out.mono ?_; rintro e w1 ⟨rfl, hs, hb1⟩)
  go_at_call 38
  refine (E5'.out _ hs).mono ?_
  rintro e w2 ⟨rfl, hs2, hb2⟩
  clear hs
  go_wp2_with (fail)
  go_at_call 38
  refine (E6'.out _ hs2).mono ?_
  rintro e w3 ⟨rfl, hs3, hb3⟩
  clear hs2
  go_wp2_with (fail)
  go_at_call 38
  refine (E7'.out _ hs3).mono ?_
  rintro e w4 ⟨rfl, hs4, hb4⟩
  clear hs3
  have hz4 : w.heap.size < w4.heap.size := hs4.2.1
  have hb : Below w.heap.size w w4 := ((hb1.trans hb2).trans hb3).trans hb4
  clear hb1 hb2 hb3 hb4
  go_wp2_with (fail)
  go_at_call 33
  refine (differ_lit ((lies2 _ 1 2).alloc _) (by have := lies2 (w4.alloc (.cells #[.int .i64 1, .int .i64 2] 3)) 1 3; rw [World.size_alloc] at this; exact this)).mono ?_
  rintro e w5 ⟨rfl, m, hw5⟩
  have hs5 : SinkIs w5 w.heap.size 2 [5, 6] w.heap.size := by rw [hw5]; exact ((hs4.alloc _).alloc _).drewN m
  have hb5 : Below w.heap.size w w5 := by rw [hw5]; exact below_drewN' ((hb.alloc (by omega) _).alloc (by simp; omega) _) _
  have hz5 := hs5.2.1
  clear hw5 hb hz4 hs4
  go_wp2_with (fail)
  go_at_call 39
  refine (len_any hs5).mono ?_
  rintro e w6 ⟨rfl, rfl⟩
  go_wp2_with (fail)
  go_at_call 35
  refine (begins_lit ((lies1 w5 1).alloc _) (by have := lies2 (w5.alloc (.cells #[.int .i64 1] 3)) 1 2; rw [World.size_alloc] at this; exact this)).mono ?_
  rintro e w7 ⟨rfl, m7, hw7⟩
  have hb7 : Below w.heap.size w w7 := by rw [hw7]; exact below_drewN' ((hb5.alloc (by omega) _).alloc (by simp; omega) _) _
  clear hw7
  go_wp2_with (fail)
  go_ret
  exact ⟨rfl, hb7⟩
end Go.Proofs.Ytkmccbknmpjkhaa
