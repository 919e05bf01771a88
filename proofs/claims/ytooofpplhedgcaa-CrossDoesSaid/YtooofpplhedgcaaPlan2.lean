/- Package layout: where each word is. -/
import Derived.Test.YtooofpplhedgcaaPlan
import Derived.Lib.MinMax
set_option linter.unusedVariables false
set_option linter.unusedSimpArgs false
namespace Go.Proofs.Ytooofpplhedgcaa
open Go.RowKit
set_option maxHeartbeats 1000000
set_option maxRecDepth 100000
theorem frame_ok {a b c d : Int} (h : okPlan a b c d = true) (k : Int) (w : World) : Calls Try.prog 80 #[.agg #[.int .i64 a, .int .i64 b, .int .i64 c, .int .i64 d], .int .i64 k] w fun e w' => e = .returned (.int .i64 (frameV a b c d k)) ∧ Below w.heap.size w w' := by
  obtain ⟨b1, b2, b3, b4, b5, b6, b7, b8⟩ := ok_bd h
  have H1 := Lib.hid (fun w => bad_ok h w)
  have H2 := Lib.hid (fun w => wide_any a b c d (by omega) (by omega) w)
  have H3 := Lib.hid (fun w => between_any k 1 b w)
  have H4 := Lib.hid (fun w => room_ok h w)
  obtain ⟨s1, s2, s3, s4, s5, s6⟩ := frameV_bd h k
  obtain ⟨t1, t2, t3, t4⟩ := sizeV_bd h
  unfold frameV at *
  generalize wideV d = W at *
  generalize roomV c = R at *
  generalize clamp k 1 b = C at *
  have q0 : IntKind.i64.wrap (C - 1) = C - 1 := IntWalk.i64_in _ (by omega)
  have q1 : IntKind.i64.wrap ((C - 1) * R) = (C - 1) * R := IntWalk.i64_in _ (by omega)
  have q2 : IntKind.i64.wrap (a * W) = a * W := IntWalk.i64_in _ (by omega)
  have q3 : IntKind.i64.wrap (a * W + (C - 1) * R) = a * W + (C - 1) * R := IntWalk.i64_in _ (by omega)
  clear h s3 s4 s5 s6 t1 t2 t3 t4
  go_enter Try.func80, Try.ntmps80
  go_wp2_with (first | (go_at_call 53; refine (H1.out _).mono ?_; rintro e w1 ⟨rfl, hb1⟩; have hk1 := cell_old hb1; have hz1 := hb1.size))
  have hS0 := box_new hb1
  clear hk1 hz1 hb1
  go_region_held3 (fun w' => w'.cell? ⟨w.heap.size, 0, none⟩ = some (.int .i64 a) ∧ w'.cell? ⟨w.heap.size, 1, none⟩ = some (.int .i64 b) ∧ w'.cell? ⟨w.heap.size, 2, none⟩ = some (.int .i64 c) ∧ w'.cell? ⟨w.heap.size, 3, none⟩ = some (.int .i64 d) ∧ Below w.heap.size w w') (first | assumption | exact box_keep (by assumption) hb | exact box_drew hS0) (first | (go_at_call 54; (with_reducible refine (H2.out _).mono ?_); rintro e w' ⟨rfl, hb⟩) | (go_at_call 86; (with_reducible refine (H3.out _).mono ?_); rintro e w' ⟨rfl, rfl⟩) | (go_at_call 55; (with_reducible refine (H4.out _).mono ?_); rintro e w' ⟨rfl, hb⟩))
  all_goals (rename_i hS; obtain ⟨_, _, _, _, hB⟩ := hS; go_wp2; go_ret; exact ⟨rfl, hB⟩)
theorem nap_ok {a b c d : Int} (h : okPlan a b c d = true) (k : Int) (w : World) : Calls Try.prog 59 #[.agg #[.int .i64 a, .int .i64 b, .int .i64 c, .int .i64 d], .int .i64 k] w fun e w' => e = .returned (.int .i64 (frameV a b c d k + 1)) ∧ Below w.heap.size w w' := by
  have H1 := Lib.hid (fun w => bad_ok h w)
  have H2 := Lib.hid (fun w => frame_ok h k w)
  obtain ⟨s1, s2, s3, s4, s5, s6⟩ := frameV_bd h k
  generalize frameV a b c d k = W at *
  clear h s1 s2 s3 s4
  go_enter Try.func59, Try.ntmps59
  go_wp2_with (first | (go_at_call 53; refine (H1.out _).mono ?_; rintro e w1 ⟨rfl, hb1⟩; have hk1 := cell_old hb1; have hz1 := hb1.size) | (go_at_call 80; refine (H2.out _).mono ?_; rintro e w2 ⟨rfl, hb2⟩))
  go_ret
  exact ⟨rfl, below_chain (below_chain (by go_grown) hb1) hb2⟩
theorem word_ok {a b c d : Int} (h : okPlan a b c d = true) (k i n : Int) (hn0 : 0 ≤ n) (hn1 : n ≤ 3) (w : World) : Calls Try.prog 78 #[.agg #[.int .i64 a, .int .i64 b, .int .i64 c, .int .i64 d], .int .i64 k, .int .i64 i, .int .i64 n] w fun e w' => e = .returned (.int .i64 (wordV a b c d k i n)) ∧ Below w.heap.size w w' := by
  obtain ⟨b1, b2, b3, b4, b5, b6, b7, b8⟩ := ok_bd h
  have H1 := Lib.hid (fun w => bad_ok h w)
  have H2 := Lib.hid (fun w => frame_ok h k w)
  obtain ⟨s1, s2, s3, s4, s5, s6⟩ := frameV_bd h k
  have s7 := mod_bd (x := max i 0) (y := c + 1) (by omega)
  have s8 : 0 ≤ max i 0 := by omega
  unfold wordV
  generalize frameV a b c d k = W at *
  have q0 : IntKind.i64.wrap (W + 2) = W + 2 := IntWalk.i64_in _ (by omega)
  have q1 : (max i 0).tmod (c + 1) = max i 0 % (c + 1) := IntWalk.rem_in _ _ s8
  have q2 : IntKind.i64.wrap (max i 0 % (c + 1)) = max i 0 % (c + 1) := IntWalk.i64_in _ (by omega)
  have q3 : IntKind.i64.wrap (4 * (max i 0 % (c + 1))) = 4 * (max i 0 % (c + 1)) := IntWalk.i64_in _ (by omega)
  have q6 : IntKind.i64.wrap (W + 2 + 4 * (max i 0 % (c + 1))) = W + 2 + 4 * (max i 0 % (c + 1)) := IntWalk.i64_in _ (by omega)
  have q7 : IntKind.i64.wrap (W + 2 + 4 * (max i 0 % (c + 1)) + n) = W + 2 + 4 * (max i 0 % (c + 1)) + n := IntWalk.i64_in _ (by omega)
  have q8 : IntKind.i64.wrap (c + 1) = c + 1 := IntWalk.i64_in _ (by omega)
  have q4 : ¬ c + 1 = 0 := by omega
  have q5 : ¬ c + 1 = -1 := by omega
  clear h s1 s2 s3 s4 s5 s6 s7
  go_enter Try.func78, Try.ntmps78
  go_wp2_with (first | (go_at_call 53; refine (H1.out _).mono ?_; rintro e w1 ⟨rfl, hb1⟩; have hk1 := cell_old hb1; have hz1 := hb1.size))
  have hS0 := box_new hb1
  clear hk1 hz1 hb1
  go_region_held3 (fun w' => w'.cell? ⟨w.heap.size, 0, none⟩ = some (.int .i64 a) ∧ w'.cell? ⟨w.heap.size, 1, none⟩ = some (.int .i64 b) ∧ w'.cell? ⟨w.heap.size, 2, none⟩ = some (.int .i64 c) ∧ w'.cell? ⟨w.heap.size, 3, none⟩ = some (.int .i64 d) ∧ Below w.heap.size w w') (first | assumption | exact box_keep (by assumption) hb | exact box_drew hS0) (first | (go_at_call 80; (with_reducible refine (H2.out _).mono ?_); rintro e w' ⟨rfl, hb⟩))
  all_goals (rename_i hS; obtain ⟨_, _, _, _, hB⟩ := hS; go_wp2; go_ret; exact ⟨rfl, hB⟩)
theorem counter_ok {a b c d : Int} (h : okPlan a b c d = true) (k i : Int) (w : World) : Calls Try.prog 75 #[.agg #[.int .i64 a, .int .i64 b, .int .i64 c, .int .i64 d], .int .i64 k, .int .i64 i] w fun e w' => e = .returned (.int .i64 (wordV a b c d k i 0)) ∧ Below w.heap.size w w' := by
  have H1 := Lib.hid (fun w => word_ok h k i 0 (by omega) (by omega) w)
  generalize wordV a b c d k i 0 = W at *
  clear h
  go_enter Try.func75, Try.ntmps75
  go_wp2_with (first | (go_at_call 78; refine (H1.out _).mono ?_; rintro e w1 ⟨rfl, hb1⟩))
  go_ret
  exact ⟨rfl, below_chain (by go_grown) hb1⟩
theorem counter_no {a b c d : Int} (h : okPlan a b c d = false) (k i : Int) (w : World) : Calls Try.prog 75 #[.agg #[.int .i64 a, .int .i64 b, .int .i64 c, .int .i64 d], .int .i64 k, .int .i64 i] w fun e w' => e = .returned (.int .i64 0) ∧ Below w.heap.size w w' := by
  have H1 := Lib.hid (fun w => word_no h k i 0 w)
  clear h
  go_enter Try.func75, Try.ntmps75
  go_wp2_with (first | (go_at_call 78; refine (H1.out _).mono ?_; rintro e w1 ⟨rfl, hb1⟩))
  go_ret
  exact ⟨rfl, below_chain (by go_grown) hb1⟩
theorem status_ok {a b c d : Int} (h : okPlan a b c d = true) (k i : Int) (w : World) : Calls Try.prog 56 #[.agg #[.int .i64 a, .int .i64 b, .int .i64 c, .int .i64 d], .int .i64 k, .int .i64 i] w fun e w' => e = .returned (.int .i64 (wordV a b c d k i 1)) ∧ Below w.heap.size w w' := by
  have H1 := Lib.hid (fun w => word_ok h k i 1 (by omega) (by omega) w)
  generalize wordV a b c d k i 1 = W at *
  clear h
  go_enter Try.func56, Try.ntmps56
  go_wp2_with (first | (go_at_call 78; refine (H1.out _).mono ?_; rintro e w1 ⟨rfl, hb1⟩))
  go_ret
  exact ⟨rfl, below_chain (by go_grown) hb1⟩
theorem status_no {a b c d : Int} (h : okPlan a b c d = false) (k i : Int) (w : World) : Calls Try.prog 56 #[.agg #[.int .i64 a, .int .i64 b, .int .i64 c, .int .i64 d], .int .i64 k, .int .i64 i] w fun e w' => e = .returned (.int .i64 0) ∧ Below w.heap.size w w' := by
  have H1 := Lib.hid (fun w => word_no h k i 1 w)
  clear h
  go_enter Try.func56, Try.ntmps56
  go_wp2_with (first | (go_at_call 78; refine (H1.out _).mono ?_; rintro e w1 ⟨rfl, hb1⟩))
  go_ret
  exact ⟨rfl, below_chain (by go_grown) hb1⟩
theorem link_ok {a b c d : Int} (h : okPlan a b c d = true) (k i : Int) (w : World) : Calls Try.prog 67 #[.agg #[.int .i64 a, .int .i64 b, .int .i64 c, .int .i64 d], .int .i64 k, .int .i64 i] w fun e w' => e = .returned (.int .i64 (wordV a b c d k i 2)) ∧ Below w.heap.size w w' := by
  have H1 := Lib.hid (fun w => word_ok h k i 2 (by omega) (by omega) w)
  generalize wordV a b c d k i 2 = W at *
  clear h
  go_enter Try.func67, Try.ntmps67
  go_wp2_with (first | (go_at_call 78; refine (H1.out _).mono ?_; rintro e w1 ⟨rfl, hb1⟩))
  go_ret
  exact ⟨rfl, below_chain (by go_grown) hb1⟩
theorem link_no {a b c d : Int} (h : okPlan a b c d = false) (k i : Int) (w : World) : Calls Try.prog 67 #[.agg #[.int .i64 a, .int .i64 b, .int .i64 c, .int .i64 d], .int .i64 k, .int .i64 i] w fun e w' => e = .returned (.int .i64 0) ∧ Below w.heap.size w w' := by
  have H1 := Lib.hid (fun w => word_no h k i 2 w)
  clear h
  go_enter Try.func67, Try.ntmps67
  go_wp2_with (first | (go_at_call 78; refine (H1.out _).mono ?_; rintro e w1 ⟨rfl, hb1⟩))
  go_ret
  exact ⟨rfl, below_chain (by go_grown) hb1⟩
theorem done_ok {a b c d : Int} (h : okPlan a b c d = true) (k i : Int) (w : World) : Calls Try.prog 58 #[.agg #[.int .i64 a, .int .i64 b, .int .i64 c, .int .i64 d], .int .i64 k, .int .i64 i] w fun e w' => e = .returned (.int .i64 (wordV a b c d k i 3)) ∧ Below w.heap.size w w' := by
  have H1 := Lib.hid (fun w => word_ok h k i 3 (by omega) (by omega) w)
  generalize wordV a b c d k i 3 = W at *
  clear h
  go_enter Try.func58, Try.ntmps58
  go_wp2_with (first | (go_at_call 78; refine (H1.out _).mono ?_; rintro e w1 ⟨rfl, hb1⟩))
  go_ret
  exact ⟨rfl, below_chain (by go_grown) hb1⟩
theorem done_no {a b c d : Int} (h : okPlan a b c d = false) (k i : Int) (w : World) : Calls Try.prog 58 #[.agg #[.int .i64 a, .int .i64 b, .int .i64 c, .int .i64 d], .int .i64 k, .int .i64 i] w fun e w' => e = .returned (.int .i64 0) ∧ Below w.heap.size w w' := by
  have H1 := Lib.hid (fun w => word_no h k i 3 w)
  clear h
  go_enter Try.func58, Try.ntmps58
  go_wp2_with (first | (go_at_call 78; refine (H1.out _).mono ?_; rintro e w1 ⟨rfl, hb1⟩))
  go_ret
  exact ⟨rfl, below_chain (by go_grown) hb1⟩
end Go.Proofs.Ytooofpplhedgcaa
