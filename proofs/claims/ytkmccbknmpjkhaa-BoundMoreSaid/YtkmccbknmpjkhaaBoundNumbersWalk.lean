/- The walk through the law BoundNumbers. -/
import Derived.Test.YtkmccbknmpjkhaaBound2
set_option linter.unusedVariables false
set_option linter.unusedSimpArgs false
namespace Go.Proofs.Ytkmccbknmpjkhaa
open Go.RowKit
set_option maxHeartbeats 1000000
set_option maxRecDepth 100000
theorem Try.infoInt : (Try.prog.info? 3).map (fun i => (i.zero, i.size, i.bytes)) = some (some (.int .i64 0), 1, 8) := by kernel_rfl
theorem works35_any (w : World) : Calls Try.prog 25 #[] w fun e w' => e = .returned (.bool true) ∧ Below w.heap.size w w' := by
  have c1 := fun w => steps_any 0 1 1 w
  rw [show stepsOf 0 1 1 = 8256 by decide] at c1
  have C1 := Lib.hid c1
  have c2 := fun ao cap w => params_core 3 2 4 3 0 ao 2 cap w (by decide) (by decide) (by decide) (by decide) _ (.inl ⟨rfl, rfl⟩)
  have C2 := Lib.hid c2
  clear c1 c2
  go_enter Try.func25, Try.ntmps25
  go_wp2_with (first | (go_at_call 30; refine (C2.out _ _ _).mono ?_; rintro e w1 ⟨rfl, hb1⟩; have hk := cell_old hb1; have hf := frozen_old hb1; have hb2 : Below w.heap.size w w1 := below_chain (by go_grown) hb1; have hz := hb2.size) | (go_at_call 28; refine (C1.out _).mono ?_; rintro e w2 ⟨rfl, rfl⟩))
  go_ret
  exact ⟨rfl, by go_grown⟩

theorem numbers_core (f p t n x F : Int) (ao : Option Addr) (cap : Nat) (zs : List Int) (w : World) (hF : max f 1 = F) (hl : zs.length ≤ 2000) (hf : f ≤ 1099511627776) (hc : (f < 1 ∧ F = 1) ∨ (1 ≤ f ∧ F = f)) (hsrc : Src w ao zs.length cap 1 (zs.map (Value.int .i64))) :
    Calls Try.prog 7 #[.int .i64 f, .slice ao zs.length cap, .int .i64 p, .int .i64 t, .int .i64 n, .int .i64 x] w fun e w' => e = .returned (.bool true) ∧ Below w.heap.size w w' := by
  obtain ⟨i0, hi, hz0, hz1', hz2'⟩ := info_parts Try.infoInt
  have c1 := fun o w => frames_any f o w
  have c2 := fun o w => deque_any f o w hf
  have c4 := fun w => right_any p F t (F + 2) w
  rw [hF] at c1 c2
  by_cases hn : 1000 < zs.length
  · have c3 := fun ao cap w => params_far f p t ao zs.length cap w (by omega) (by omega)
    unfold noParams at c3
    have C1 := Lib.hid c1
    have C2 := Lib.hid c2
    have C3 := Lib.hid c3
    have C4 := Lib.hid c4
    clear c1 c2 c3 c4 hF
    rcases hc with ⟨hc, rfl⟩ | ⟨hc, rfl⟩
    all_goals
      go_enter Try.func7, Try.ntmps7
      go_wp2_with (first | (go_at_call 25; refine (works35_any _).mono ?_; rintro e w1 ⟨rfl, hb1⟩) | (at_builtin; go_must (refine wpList_append_copy _ rfl _ _ 22 rfl 3 i0 (.int .i64 0) 1 8 Try.underlying22 hi hz0 hz1' hz2' rfl (by decide) rfl ao zs.length cap (zs.map (Value.int .i64)) rfl (hsrc.below hb1) (by simp [Value.oneCell']) (by unfold maxLen; omega) (by omega) ?_); intro ao2 cap2 w2 hrow hb2 hf2; have hb3 := below_chain hb1 hb2; have hz3 := hb3.size; clear hrow hb2 hf2) | (go_at_call 26; refine (C1.out _ _).mono ?_; rintro e w3 ⟨rfl, rfl⟩) | (go_at_call 27; refine (C2.out _ _).mono ?_; rintro e w4 ⟨rfl, rfl⟩) | (go_at_call 28; refine (steps_any _ _ _ _).mono ?_; rintro e w5 ⟨rfl, rfl⟩) | (go_at_call 29; refine (rsteps_any _ _ _ _).mono ?_; rintro e w6 ⟨rfl, rfl⟩) | (go_at_call 30; refine (C3.out _ _ _).mono ?_; rintro e w7 ⟨rfl, hb7⟩; have hk := cell_old hb7; have hf := frozen_old hb7; have hb8 : Below w.heap.size w w7 := below_chain (by go_grown) hb7; have hz8 := hb8.size) | (go_at_call 31; refine (C4.out _).mono ?_; rintro e w9 ⟨rfl, hb9⟩; have hk9 := cell_old hb9; have hf9 := frozen_old hb9; have hb10 : Below w.heap.size w w9 := below_chain (by go_grown) hb9; have hz10 := hb10.size))
      go_ret
      exact ⟨rfl, by go_grown⟩
  by_cases hf2 : 256 < f
  · have c3 := fun ao cap w => params_far f p t ao zs.length cap w (by omega) (by omega)
    unfold noParams at c3
    rw [show okPlan p F t (F + 2) = false by unfold okPlan; simp; omega] at c4
    have C1 := Lib.hid c1
    have C2 := Lib.hid c2
    have C3 := Lib.hid c3
    have C4 := Lib.hid c4
    clear c1 c2 c3 c4 hF
    rcases hc with ⟨hc, rfl⟩ | ⟨hc, rfl⟩
    · omega
    all_goals
      go_enter Try.func7, Try.ntmps7
      go_wp2_with (first | (go_at_call 25; refine (works35_any _).mono ?_; rintro e w1 ⟨rfl, hb1⟩) | (at_builtin; go_must (refine wpList_append_copy _ rfl _ _ 22 rfl 3 i0 (.int .i64 0) 1 8 Try.underlying22 hi hz0 hz1' hz2' rfl (by decide) rfl ao zs.length cap (zs.map (Value.int .i64)) rfl (hsrc.below hb1) (by simp [Value.oneCell']) (by unfold maxLen; omega) (by omega) ?_); intro ao2 cap2 w2 hrow hb2 hf2; have hb3 := below_chain hb1 hb2; have hz3 := hb3.size; clear hrow hb2 hf2) | (go_at_call 26; refine (C1.out _ _).mono ?_; rintro e w3 ⟨rfl, rfl⟩) | (go_at_call 27; refine (C2.out _ _).mono ?_; rintro e w4 ⟨rfl, rfl⟩) | (go_at_call 28; refine (steps_any _ _ _ _).mono ?_; rintro e w5 ⟨rfl, rfl⟩) | (go_at_call 29; refine (rsteps_any _ _ _ _).mono ?_; rintro e w6 ⟨rfl, rfl⟩) | (go_at_call 30; refine (C3.out _ _ _).mono ?_; rintro e w7 ⟨rfl, hb7⟩; have hk := cell_old hb7; have hf := frozen_old hb7; have hb8 : Below w.heap.size w w7 := below_chain (by go_grown) hb7; have hz8 := hb8.size) | (go_at_call 31; refine (C4.out _).mono ?_; rintro e w9 ⟨rfl, hb9⟩; have hk9 := cell_old hb9; have hf9 := frozen_old hb9; have hb10 : Below w.heap.size w w9 := below_chain (by go_grown) hb9; have hz10 := hb10.size))
      go_ret
      exact ⟨rfl, by go_grown⟩
  cases hok : okPlan p F t (F + 2) with
  | true =>
    have c3 := fun ao cap w => params_core f p t F 0 ao zs.length cap w (by omega) (by omega) hF (by unfold checkOf; rw [if_pos hok]) _ (.inl ⟨rfl, rfl⟩)
    rw [hok] at c4
    have C1 := Lib.hid c1
    have C2 := Lib.hid c2
    have C3 := Lib.hid c3
    have C4 := Lib.hid c4
    clear c1 c2 c3 c4 hok hF
    rcases hc with ⟨hc, rfl⟩ | ⟨hc, rfl⟩
    all_goals
      go_enter Try.func7, Try.ntmps7
      go_wp2_with (first | (go_at_call 25; refine (works35_any _).mono ?_; rintro e w1 ⟨rfl, hb1⟩) | (at_builtin; go_must (refine wpList_append_copy _ rfl _ _ 22 rfl 3 i0 (.int .i64 0) 1 8 Try.underlying22 hi hz0 hz1' hz2' rfl (by decide) rfl ao zs.length cap (zs.map (Value.int .i64)) rfl (hsrc.below hb1) (by simp [Value.oneCell']) (by unfold maxLen; omega) (by omega) ?_); intro ao2 cap2 w2 hrow hb2 hf2; have hb3 := below_chain hb1 hb2; have hz3 := hb3.size; clear hrow hb2 hf2) | (go_at_call 26; refine (C1.out _ _).mono ?_; rintro e w3 ⟨rfl, rfl⟩) | (go_at_call 27; refine (C2.out _ _).mono ?_; rintro e w4 ⟨rfl, rfl⟩) | (go_at_call 28; refine (steps_any _ _ _ _).mono ?_; rintro e w5 ⟨rfl, rfl⟩) | (go_at_call 29; refine (rsteps_any _ _ _ _).mono ?_; rintro e w6 ⟨rfl, rfl⟩) | (go_at_call 30; refine (C3.out _ _ _).mono ?_; rintro e w7 ⟨rfl, hb7⟩; have hk := cell_old hb7; have hf := frozen_old hb7; have hb8 : Below w.heap.size w w7 := below_chain (by go_grown) hb7; have hz8 := hb8.size) | (go_at_call 31; refine (C4.out _).mono ?_; rintro e w9 ⟨rfl, hb9⟩; have hk9 := cell_old hb9; have hf9 := frozen_old hb9; have hb10 : Below w.heap.size w w9 := below_chain (by go_grown) hb9; have hz10 := hb10.size))
      go_ret
      exact ⟨rfl, by go_grown⟩
  | false =>
    have c3 := fun ao cap w => params_core f p t F 3 ao zs.length cap w (by omega) (by omega) hF (by unfold checkOf; rw [if_neg (by rw [hok]; decide)]) _ (.inr ⟨rfl, rfl⟩)
    rw [hok] at c4
    clear hok
    have C1 := Lib.hid c1
    have C2 := Lib.hid c2
    have C3 := Lib.hid c3
    have C4 := Lib.hid c4
    clear c1 c2 c3 c4 hF
    rcases hc with ⟨hc, rfl⟩ | ⟨hc, rfl⟩
    all_goals
      go_enter Try.func7, Try.ntmps7
      go_wp2_with (first | (go_at_call 25; refine (works35_any _).mono ?_; rintro e w1 ⟨rfl, hb1⟩) | (at_builtin; go_must (refine wpList_append_copy _ rfl _ _ 22 rfl 3 i0 (.int .i64 0) 1 8 Try.underlying22 hi hz0 hz1' hz2' rfl (by decide) rfl ao zs.length cap (zs.map (Value.int .i64)) rfl (hsrc.below hb1) (by simp [Value.oneCell']) (by unfold maxLen; omega) (by omega) ?_); intro ao2 cap2 w2 hrow hb2 hf2; have hb3 := below_chain hb1 hb2; have hz3 := hb3.size; clear hrow hb2 hf2) | (go_at_call 26; refine (C1.out _ _).mono ?_; rintro e w3 ⟨rfl, rfl⟩) | (go_at_call 27; refine (C2.out _ _).mono ?_; rintro e w4 ⟨rfl, rfl⟩) | (go_at_call 28; refine (steps_any _ _ _ _).mono ?_; rintro e w5 ⟨rfl, rfl⟩) | (go_at_call 29; refine (rsteps_any _ _ _ _).mono ?_; rintro e w6 ⟨rfl, rfl⟩) | (go_at_call 30; refine (C3.out _ _ _).mono ?_; rintro e w7 ⟨rfl, hb7⟩; have hk := cell_old hb7; have hf := frozen_old hb7; have hb8 : Below w.heap.size w w7 := below_chain (by go_grown) hb7; have hz8 := hb8.size) | (go_at_call 31; refine (C4.out _).mono ?_; rintro e w9 ⟨rfl, hb9⟩; have hk9 := cell_old hb9; have hf9 := frozen_old hb9; have hb10 : Below w.heap.size w w9 := below_chain (by go_grown) hb9; have hz10 := hb10.size))
      go_ret
      exact ⟨rfl, by go_grown⟩
theorem walkBoundNumbers (v0 v1 v2 v3 v4 v5 : Value) (w : World) (h0 : Arg Try.prog w 3 v0) (h1 : Arg Try.prog w 22 v1) (h2 : Arg Try.prog w 3 v2) (h3 : Arg Try.prog w 3 v3) (h4 : Arg Try.prog w 3 v4) (h5 : Arg Try.prog w 3 v5) :
    Calls Try.prog 7 #[v0, v1, v2, v3, v4, v5] w fun e w' => e = .returned (.bool true) ∧ Below w.heap.size w w' := by
  obtain ⟨f, rfl, wf⟩ := h0.int Try.underlying3
  obtain ⟨ao, cap, zs, rfl, hz1, hz2, hz3, hz4⟩ := h1.ints Try.underlying22 Try.underlying3 (by kernel_rfl)
  obtain ⟨p, rfl, wp⟩ := h2.int Try.underlying3
  obtain ⟨t, rfl, wt⟩ := h3.int Try.underlying3
  obtain ⟨n, rfl, wn⟩ := h4.int Try.underlying3
  obtain ⟨x, rfl, wx⟩ := h5.int Try.underlying3
  unfold maxLen at hz2
  by_cases hl : 2000 < zs.length
  · go_enter Try.func7, Try.ntmps7
    go_wp2_with (go_at_call 25; refine (works35_any _).mono ?_; rintro e w1 ⟨rfl, hb1⟩)
    go_ret
    exact ⟨rfl, hb1⟩
  by_cases hf : 1099511627776 < f
  · go_enter Try.func7, Try.ntmps7
    go_wp2_with (go_at_call 25; refine (works35_any _).mono ?_; rintro e w1 ⟨rfl, hb1⟩)
    go_ret
    exact ⟨rfl, hb1⟩
  have hl' : zs.length ≤ 2000 := by omega
  have hf' : f ≤ 1099511627776 := by omega
  clear hl hf
  have hsrc := hz3.src hz4
  clear h0 h1 h2 h3 h4 h5 hz3 hz4 wf wp wt wn wx
  by_cases hf1 : f < 1
  · exact numbers_core f p t n x 1 ao cap zs w (by omega) hl' hf' (.inl ⟨hf1, rfl⟩) hsrc
  · exact numbers_core f p t n x f ao cap zs w (by omega) hl' hf' (.inr ⟨by omega, rfl⟩) hsrc
end Go.Proofs.Ytkmccbknmpjkhaa
