/- Package layout: where each word is. -/
import Derived.Test.YtofnjapgacgdlaaPlan
import Derived.Lib.MinMax
set_option linter.unusedVariables false
set_option linter.unusedSimpArgs false
namespace Go.Proofs.Ytofnjapgacgdlaa
open Go.RowKit
set_option maxHeartbeats 1000000
set_option maxRecDepth 100000
theorem base_ok {a b c d : Int} (h : okPlan a b c d = true) (k : Int) (w : World) : Calls Try.prog 38 #[.agg #[.int .i64 a, .int .i64 b, .int .i64 c, .int .i64 d], .int .i64 k] w fun e w' => e = .returned (.int .i64 (baseV a d k)) ∧ Below w.heap.size w w' := by
  obtain ⟨b1, b2, b3, b4, b5, b6, b7, b8⟩ := ok_bd h
  have H1 := Lib.hid (fun w => bad_ok h w)
  have H2 := Lib.hid (fun w => wide_any a b c d (by omega) (by omega) w)
  have H3 := Lib.hid (fun w => between_any k 0 (a - 1) w)
  obtain ⟨s1, s2, s3, s4⟩ := baseV_bd h k
  unfold baseV at *
  generalize wideV d = W at *
  generalize clamp k 0 (a - 1) = C at *
  have q1 : IntKind.i64.wrap (C * W) = C * W := IntWalk.i64_in _ (by omega)
  have q2 : IntKind.i64.wrap (a - 1) = a - 1 := IntWalk.i64_in _ (by omega)
  clear h s3 s4
  go_enter Try.func38, Try.ntmps38
  go_wp2_with (first | (go_at_call 44; refine (H1.out _).mono ?_; rintro e w1 ⟨rfl, hb1⟩; have hk1 := cell_old hb1; have hz1 := hb1.size))
  have hS0 := box_new hb1
  clear hk1 hz1 hb1
  go_region_held3 (fun w' => w'.cell? ⟨w.heap.size, 0, none⟩ = some (.int .i64 a) ∧ w'.cell? ⟨w.heap.size, 1, none⟩ = some (.int .i64 b) ∧ w'.cell? ⟨w.heap.size, 2, none⟩ = some (.int .i64 c) ∧ w'.cell? ⟨w.heap.size, 3, none⟩ = some (.int .i64 d) ∧ Below w.heap.size w w') (first | assumption | exact box_keep (by assumption) hb | exact box_drew hS0) (first | (go_at_call 45; (with_reducible refine (H2.out _).mono ?_); rintro e w' ⟨rfl, hb⟩) | (go_at_call 52; (with_reducible refine (H3.out _).mono ?_); rintro e w' ⟨rfl, rfl⟩))
  all_goals (rename_i hS; obtain ⟨_, _, _, _, hB⟩ := hS; go_wp2; go_ret; exact ⟨rfl, hB⟩)
theorem slot_ok {a b c d : Int} (h : okPlan a b c d = true) (k n : Int) (w : World) : Calls Try.prog 78 #[.agg #[.int .i64 a, .int .i64 b, .int .i64 c, .int .i64 d], .int .i64 k, .int .i64 n] w fun e w' => e = .returned (.int .i64 (slotV a d k n)) ∧ Below w.heap.size w w' := by
  obtain ⟨b1, b2, b3, b4, b5, b6, b7, b8⟩ := ok_bd h
  have H1 := Lib.hid (fun w => bad_ok h w)
  have H2 := Lib.hid (fun w => base_ok h k w)
  obtain ⟨s1, s2, s3, s4⟩ := baseV_bd h k
  have s5 := mod_bd (x := max n 0) (y := d) (by omega)
  have s6 : 0 ≤ max n 0 := by omega
  unfold slotV
  generalize baseV a d k = W at *
  have q0 : IntKind.i64.wrap (W + 4) = W + 4 := IntWalk.i64_in _ (by omega)
  have q1 : (max n 0).tmod d = max n 0 % d := IntWalk.rem_in _ _ s6
  have q2 : IntKind.i64.wrap (max n 0 % d) = max n 0 % d := IntWalk.i64_in _ (by omega)
  have q3 : IntKind.i64.wrap (W + 4 + max n 0 % d) = W + 4 + max n 0 % d := IntWalk.i64_in _ (by omega)
  have q4 : ¬ d = 0 := by omega
  have q5 : ¬ d = -1 := by omega
  clear h s1 s2 s3 s4 s5
  go_enter Try.func78, Try.ntmps78
  go_wp2_with (first | (go_at_call 44; refine (H1.out _).mono ?_; rintro e w1 ⟨rfl, hb1⟩; have hk1 := cell_old hb1; have hz1 := hb1.size))
  have hS0 := box_new hb1
  clear hk1 hz1 hb1
  go_region_held3 (fun w' => w'.cell? ⟨w.heap.size, 0, none⟩ = some (.int .i64 a) ∧ w'.cell? ⟨w.heap.size, 1, none⟩ = some (.int .i64 b) ∧ w'.cell? ⟨w.heap.size, 2, none⟩ = some (.int .i64 c) ∧ w'.cell? ⟨w.heap.size, 3, none⟩ = some (.int .i64 d) ∧ Below w.heap.size w w') (first | assumption | exact box_keep (by assumption) hb | exact box_drew hS0) (first | (go_at_call 38; (with_reducible refine (H2.out _).mono ?_); rintro e w' ⟨rfl, hb⟩))
  all_goals (rename_i hS; obtain ⟨_, _, _, _, hB⟩ := hS; go_wp2; go_ret; exact ⟨rfl, hB⟩)
end Go.Proofs.Ytofnjapgacgdlaa
