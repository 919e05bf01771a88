/- The walk through the law LayoutTells. -/
import Derived.Test.YtbadinmlnbabiaaWords
import Derived.Test.YtbadinmlnbabiaaLin
import Derived.Test.YtbadinmlnbabiaaPlanArg
set_option linter.unusedVariables false
set_option linter.unusedSimpArgs false
namespace Go.Proofs.Ytbadinmlnbabiaa
open Go.RowKit
set_option maxRecDepth 100000
set_option maxHeartbeats 20000000
theorem right_any (a b c d : Int) (w : World) : Calls Try.prog 23 #[.agg #[.int .i64 a, .int .i64 b, .int .i64 c, .int .i64 d]] w fun e w' => e = .returned (.bool (okPlan a b c d)) ∧ Below w.heap.size w w' := by
  have hO := (Own.nil (Below.refl _ w)).box #[.int .i64 a, .int .i64 b, .int .i64 c, .int .i64 d] 33
  obtain ⟨x0, x1, x2, x3⟩ := plan_k hO
  by_cases h : okPlan a b c d = true
  · rw [h]
    obtain ⟨a1, a2, b1, b2, c1, c2, d1, d2⟩ := ok_bd h
    clear h
    go_enter Try.func23, Try.ntmps23
    go_wp2
    go_ret
    exact ⟨rfl, hO.below⟩
  · have hf : okPlan a b c d = false := by simpa using h
    rw [hf]
    have hn : ¬ (1 ≤ a ∧ a ≤ 64 ∧ 1 ≤ b ∧ b ≤ 256 ∧ 1 ≤ c ∧ c ≤ 64 ∧ 2 ≤ d ∧ d ≤ 256) := by
      unfold okPlan at hf; simpa using hf
    clear h hf
    rcases (show (¬ 1 ≤ a) ∨ (1 ≤ a ∧ ¬ a ≤ 64) ∨ (1 ≤ a ∧ a ≤ 64 ∧ ¬ 1 ≤ b) ∨ (1 ≤ a ∧ a ≤ 64 ∧ 1 ≤ b ∧ ¬ b ≤ 256) ∨ (1 ≤ a ∧ a ≤ 64 ∧ 1 ≤ b ∧ b ≤ 256 ∧ ¬ 1 ≤ c) ∨ (1 ≤ a ∧ a ≤ 64 ∧ 1 ≤ b ∧ b ≤ 256 ∧ 1 ≤ c ∧ ¬ c ≤ 64) ∨ (1 ≤ a ∧ a ≤ 64 ∧ 1 ≤ b ∧ b ≤ 256 ∧ 1 ≤ c ∧ c ≤ 64 ∧ ¬ 2 ≤ d) ∨ (1 ≤ a ∧ a ≤ 64 ∧ 1 ≤ b ∧ b ≤ 256 ∧ 1 ≤ c ∧ c ≤ 64 ∧ 2 ≤ d ∧ ¬ d ≤ 256) by omega) with k0 | ⟨q1, k0⟩ | ⟨q1, q2, k0⟩ | ⟨q1, q2, q3, k0⟩ | ⟨q1, q2, q3, q4, k0⟩ | ⟨q1, q2, q3, q4, q5, k0⟩ | ⟨q1, q2, q3, q4, q5, q6, k0⟩ | ⟨q1, q2, q3, q4, q5, q6, q7, k0⟩
    all_goals
      clear hn
      go_enter Try.func23, Try.ntmps23
      go_wp2
      go_ret
      exact ⟨rfl, hO.below⟩
def heldV (n a b : Int) : Int := if n < a then a else if b < n then b else n
theorem held_any (n a b : Int) (w : World) : Calls Try.prog 27 #[.int .i64 n, .int .i64 a, .int .i64 b] w fun e w' => e = .returned (.int .i64 (heldV n a b)) ∧ w = w' := by
  unfold heldV
  by_cases h1 : n < a
  · rw [if_pos h1]
    go_enter Try.func27, Try.ntmps27
    go_wp2
    go_ret
    exact ⟨rfl, rfl⟩
  · rw [if_neg h1]
    by_cases h2 : b < n
    · rw [if_pos h2]
      go_enter Try.func27, Try.ntmps27
      go_wp2
      go_ret
      exact ⟨rfl, rfl⟩
    · rw [if_neg h2]
      go_enter Try.func27, Try.ntmps27
      go_wp2
      go_ret
      exact ⟨rfl, rfl⟩
theorem Own.join2 {w0 w w' : World} {l l2 : List Ast} (h : Own w0 w l) (h2 : Own w w' l2) : Own w0 w' (l2 ++ l) := by
  have hg := h.grow h2.below
  have hz := h.below.size
  refine ⟨hg.below, fun A hA => ?_, fun A hA k hk => ?_, ?_⟩
  · rcases List.mem_append.1 hA with hA | hA
    · exact h2.all A hA
    · exact hg.all A hA
  · rcases List.mem_append.1 hA with hA | hA
    · have := h2.own A hA k hk; omega
    · exact h.own A hA k hk
  · refine List.pairwise_append.2 ⟨h2.sep, h.sep, fun A hA B hB k hk hk' => ?_⟩
    have h3 := h2.own A hA k hk
    have h4 := B.lt (h.all B hB) k hk'
    omega
theorem plan_k2 {w0 w : World} {A : Ast} {pb : Nat} {v0 v1 v2 v3 : Value} {t : TypeId} {l : List Ast} (h : Own w0 w (A :: cellsA pb #[v0, v1, v2, v3] t :: l)) :
    w.cell? ⟨pb, 0, none⟩ = some v0 ∧ w.cell? ⟨pb, 1, none⟩ = some v1 ∧ w.cell? ⟨pb, 2, none⟩ = some v2 ∧ w.cell? ⟨pb, 3, none⟩ = some v3 :=
  ⟨(h.cget 1 rfl 0).1, (h.cget 1 rfl 1).1, (h.cget 1 rfl 2).1, (h.cget 1 rfl 3).1⟩
theorem Own.lift {P : Program} {f : FuncId} {args : Array Value} {w0 w : World} {l : List Ast} {v : Value} (h : Calls P f args w fun e w' => e = .returned v ∧ Below w.heap.size w w') (hO : Own w0 w l) (v' : Value) (hv : v = v') : Calls P f args w fun e w' => e = .returned v' ∧ Own w0 w' l := by
  subst hv
  exact h.mono fun e w' ⟨he, hb⟩ => ⟨he, hO.grow hb⟩
theorem Own.lift0 {P : Program} {f : FuncId} {args : Array Value} {w0 w : World} {l : List Ast} {v : Value} (h : Calls P f args w fun e w' => e = .returned v ∧ w = w') (hO : Own w0 w l) (v' : Value) (hv : v = v') : Calls P f args w fun e w' => e = .returned v' ∧ Own w0 w' l := by
  subst hv
  exact h.mono fun e w' ⟨he, hb⟩ => ⟨he, hb ▸ hO⟩
/-- Of a plan that may not be. -/
theorem tells_no (a b c d worker n id iter : Int) (hok : okPlan a b c d = false) (w : World) :
    Calls Try.prog 5 #[.agg #[.int .i64 a, .int .i64 b, .int .i64 c, .int .i64 d], .int .i64 worker, .int .i64 n, .int .i64 id, .int .i64 iter] w fun e w' => e = .returned (.bool true) ∧ Below w.heap.size w w' := by
  have R := fun w => right_any a b c d w
  rw [hok] at R
  replace R := Lib.hid R
  have hO := ((Own.nil (Below.refl _ w)).box #[.int .i64 a, .int .i64 b, .int .i64 c, .int .i64 d] 24)
  go_enter Try.func5, Try.ntmps5
  go_wp2_with fail
  go_at_call 13
  refine (works11_any _).mono ?_
  rintro e w1 ⟨rfl, hb1⟩
  have hO1 := hO.grow hb1
  generalize w.alloc (.cells #[.int .i64 a, .int .i64 b, .int .i64 c, .int .i64 d] 24) = u at *
  generalize hpb : w.heap.size = pb at hO1 ⊢
  clear hpb hO hb1
  obtain ⟨x0, x1, x2, x3⟩ := plan_k hO1
  go_wp2_with fail
  have hO2 := hO1.box #[.int .i64 a, .int .i64 b, .int .i64 c, .int .i64 d] 33
  generalize w1.alloc (.cells #[.int .i64 a, .int .i64 b, .int .i64 c, .int .i64 d] 33) = u2 at *
  generalize w1.heap.size = qb at *
  clear hO1 x0 x1 x2 x3
  go_at_call 23
  refine (R.out _).mono ?_
  rintro e w3 ⟨rfl, hb3⟩
  have hO3 := hO2.grow hb3
  clear hO2 hb3
  obtain ⟨x0, x1, x2, x3⟩ := plan_k hO3
  obtain ⟨y0, y1, y2, y3⟩ := plan_k2 hO3
  have A0 := Lib.hid (fun (w1 : World) (h : Own w w1 [cellsA pb #[.int .i64 a, .int .i64 b, .int .i64 c, .int .i64 d] 24, cellsA qb #[.int .i64 a, .int .i64 b, .int .i64 c, .int .i64 d] 33]) => Own.lift (check_any a b c d w1) h (.int .i64 3) (by unfold checkOf; rw [hok]; rfl))
  have A1 := Lib.hid (fun (w1 : World) (h : Own w w1 [cellsA pb #[.int .i64 a, .int .i64 b, .int .i64 c, .int .i64 d] 24, cellsA qb #[.int .i64 a, .int .i64 b, .int .i64 c, .int .i64 d] 33]) => Own.lift (size_no hok w1) h (.int .i64 0) rfl)
  have A2 := Lib.hid (fun (w1 : World) (h : Own w w1 [cellsA pb #[.int .i64 a, .int .i64 b, .int .i64 c, .int .i64 d] 24, cellsA qb #[.int .i64 a, .int .i64 b, .int .i64 c, .int .i64 d] 33]) => Own.lift (room_no hok w1) h (.int .i64 0) rfl)
  have A3 := Lib.hid (fun (w1 : World) (h : Own w w1 [cellsA pb #[.int .i64 a, .int .i64 b, .int .i64 c, .int .i64 d] 24, cellsA qb #[.int .i64 a, .int .i64 b, .int .i64 c, .int .i64 d] 33]) => Own.lift (base_no hok worker w1) h (.int .i64 0) rfl)
  have A4 := Lib.hid (fun (w1 : World) (h : Own w w1 [cellsA pb #[.int .i64 a, .int .i64 b, .int .i64 c, .int .i64 d] 24, cellsA qb #[.int .i64 a, .int .i64 b, .int .i64 c, .int .i64 d] 33]) => Own.lift (slot_no hok worker n w1) h (.int .i64 0) rfl)
  have A5 := Lib.hid (fun (w1 : World) (h : Own w w1 [cellsA pb #[.int .i64 a, .int .i64 b, .int .i64 c, .int .i64 d] 24, cellsA qb #[.int .i64 a, .int .i64 b, .int .i64 c, .int .i64 d] 33]) => Own.lift (frame_no hok id w1) h (.int .i64 0) rfl)
  have A6 := Lib.hid (fun (w1 : World) (h : Own w w1 [cellsA pb #[.int .i64 a, .int .i64 b, .int .i64 c, .int .i64 d] 24, cellsA qb #[.int .i64 a, .int .i64 b, .int .i64 c, .int .i64 d] 33]) => Own.lift (nap_no hok id w1) h (.int .i64 0) rfl)
  have A7 := Lib.hid (fun (w1 : World) (h : Own w w1 [cellsA pb #[.int .i64 a, .int .i64 b, .int .i64 c, .int .i64 d] 24, cellsA qb #[.int .i64 a, .int .i64 b, .int .i64 c, .int .i64 d] 33]) => Own.lift (counter_no hok id iter w1) h (.int .i64 0) rfl)
  have A8 := Lib.hid (fun (w1 : World) (h : Own w w1 [cellsA pb #[.int .i64 a, .int .i64 b, .int .i64 c, .int .i64 d] 24, cellsA qb #[.int .i64 a, .int .i64 b, .int .i64 c, .int .i64 d] 33]) => Own.lift (status_no hok id iter w1) h (.int .i64 0) rfl)
  have A9 := Lib.hid (fun (w1 : World) (h : Own w w1 [cellsA pb #[.int .i64 a, .int .i64 b, .int .i64 c, .int .i64 d] 24, cellsA qb #[.int .i64 a, .int .i64 b, .int .i64 c, .int .i64 d] 33]) => Own.lift (link_no hok id iter w1) h (.int .i64 0) rfl)
  have A10 := Lib.hid (fun (w1 : World) (h : Own w w1 [cellsA pb #[.int .i64 a, .int .i64 b, .int .i64 c, .int .i64 d] 24, cellsA qb #[.int .i64 a, .int .i64 b, .int .i64 c, .int .i64 d] 33]) => Own.lift (done_no hok id iter w1) h (.int .i64 0) rfl)
  go_wp2_with fail
  clear x0 x1 x2 x3 y0 y1 y2 y3
  have hO4 := hO3.drewN 1
  have hS0 := plan_k hO4
  refine lin_start (S := (fun w' => w'.cell? ⟨pb, 0, none⟩ = some (.int .i64 a) ∧ w'.cell? ⟨pb, 1, none⟩ = some (.int .i64 b) ∧ w'.cell? ⟨pb, 2, none⟩ = some (.int .i64 c) ∧ w'.cell? ⟨pb, 3, none⟩ = some (.int .i64 d))) rfl 49 rfl hS0 ?_
  simp only [numbered, Nat.zero_add, Nat.reduceAdd]
  refine lin_take (v := ?_) (by kernel_rfl) (by kernel_rfl) (fun _ _ _ h => h) (Or.inl ⟨by rfl, ?_⟩) (by assumption) ?_; (rotate_left; (intro wS hSw; (try dsimp only at hSw); go_simp; (try with_reducible rfl)); rotate_left); simp only [Act.put, List.setIfInBounds_toArray, List.set_cons_zero, List.set_cons_succ]
  refine lin_sole (by kernel_rfl) (fun K hK => ?_)
  go_simp
  refine (A0.out _ hO4).mono ?_
  rintro e w5 ⟨rfl, hO5⟩
  refine hK.out _ _ ?_ (fun hHeld => ?_)
  · exact plan_k hO5
  try simp only [Act.put, List.setIfInBounds_toArray, List.set_cons_zero, List.set_cons_succ]
  try clear hO4
  clear hK
  refine lin_take (v := ?_) (by kernel_rfl) (by kernel_rfl) (fun _ _ _ h => h) (Or.inl ⟨by rfl, ?_⟩) (by assumption) ?_; (rotate_left; (intro wS hSw; (try dsimp only at hSw); go_simp; (try with_reducible rfl)); rotate_left); simp only [Act.put, List.setIfInBounds_toArray, List.set_cons_zero, List.set_cons_succ]
  refine lin_take (v := ?_) (by kernel_rfl) (by kernel_rfl) (fun _ _ _ h => h) (Or.inl ⟨by rfl, ?_⟩) (by assumption) ?_; (rotate_left; (intro wS hSw; (try dsimp only at hSw); go_simp; (try with_reducible rfl)); rotate_left); simp only [Act.put, List.setIfInBounds_toArray, List.set_cons_zero, List.set_cons_succ]
  refine lin_take (v := ?_) (by kernel_rfl) (by kernel_rfl) (fun _ _ _ h => h) (Or.inl ⟨by rfl, ?_⟩) (by assumption) ?_; (rotate_left; (intro wS hSw; (try dsimp only at hSw); go_simp; (try with_reducible rfl)); rotate_left); simp only [Act.put, List.setIfInBounds_toArray, List.set_cons_zero, List.set_cons_succ]
  refine lin_rot ?_; simp only [List.cons_append, List.nil_append]
  refine lin_take (v := ?_) (by kernel_rfl) (by kernel_rfl) (fun _ _ _ h => h) (Or.inl ⟨by rfl, ?_⟩) (by assumption) ?_; (rotate_left; (intro wS hSw; (try dsimp only at hSw); go_simp; (try with_reducible rfl)); rotate_left); simp only [Act.put, List.setIfInBounds_toArray, List.set_cons_zero, List.set_cons_succ]
  refine lin_rot ?_; simp only [List.cons_append, List.nil_append]
  refine lin_rot ?_; simp only [List.cons_append, List.nil_append]
  refine lin_take (v := ?_) (by kernel_rfl) (by kernel_rfl) (fun _ _ _ h => h) (Or.inl ⟨by rfl, ?_⟩) (by assumption) ?_; (rotate_left; (intro wS hSw; (try dsimp only at hSw); go_simp; (try with_reducible rfl)); rotate_left); simp only [Act.put, List.setIfInBounds_toArray, List.set_cons_zero, List.set_cons_succ]
  refine lin_take (v := ?_) (by kernel_rfl) (by kernel_rfl) (fun _ _ _ h => h) (Or.inl ⟨by rfl, ?_⟩) (by assumption) ?_; (rotate_left; (intro wS hSw; (try dsimp only at hSw); go_simp; (try with_reducible rfl)); rotate_left); simp only [Act.put, List.setIfInBounds_toArray, List.set_cons_zero, List.set_cons_succ]
  refine lin_rot ?_; simp only [List.cons_append, List.nil_append]
  refine lin_rot ?_; simp only [List.cons_append, List.nil_append]
  refine lin_take (v := ?_) (by kernel_rfl) (by kernel_rfl) (fun _ _ _ h => h) (Or.inl ⟨by rfl, ?_⟩) (by assumption) ?_; (rotate_left; (intro wS hSw; (try dsimp only at hSw); go_simp; (try with_reducible rfl)); rotate_left); simp only [Act.put, List.setIfInBounds_toArray, List.set_cons_zero, List.set_cons_succ]
  refine lin_take (v := ?_) (by kernel_rfl) (by kernel_rfl) (fun _ _ _ h => h) (Or.inl ⟨by rfl, ?_⟩) (by assumption) ?_; (rotate_left; (intro wS hSw; (try dsimp only at hSw); go_simp; (try with_reducible rfl)); rotate_left); simp only [Act.put, List.setIfInBounds_toArray, List.set_cons_zero, List.set_cons_succ]
  refine lin_take (v := ?_) (by kernel_rfl) (by kernel_rfl) (fun _ _ _ h => h) (Or.inl ⟨by rfl, ?_⟩) (by assumption) ?_; (rotate_left; (intro wS hSw; (try dsimp only at hSw); go_simp; (try with_reducible rfl)); rotate_left); simp only [Act.put, List.setIfInBounds_toArray, List.set_cons_zero, List.set_cons_succ]
  refine lin_rot ?_; simp only [List.cons_append, List.nil_append]
  refine lin_rot ?_; simp only [List.cons_append, List.nil_append]
  refine lin_take (v := ?_) (by kernel_rfl) (by kernel_rfl) (fun _ _ _ h => h) (Or.inl ⟨by rfl, ?_⟩) (by assumption) ?_; (rotate_left; (intro wS hSw; (try dsimp only at hSw); go_simp; (try with_reducible rfl)); rotate_left); simp only [Act.put, List.setIfInBounds_toArray, List.set_cons_zero, List.set_cons_succ]
  refine lin_take (v := ?_) (by kernel_rfl) (by kernel_rfl) (fun _ _ _ h => h) (Or.inl ⟨by rfl, ?_⟩) (by assumption) ?_; (rotate_left; (intro wS hSw; (try dsimp only at hSw); go_simp; (try with_reducible rfl)); rotate_left); simp only [Act.put, List.setIfInBounds_toArray, List.set_cons_zero, List.set_cons_succ]
  refine lin_rot ?_; simp only [List.cons_append, List.nil_append]
  refine lin_rot ?_; simp only [List.cons_append, List.nil_append]
  refine lin_take (v := ?_) (by kernel_rfl) (by kernel_rfl) (fun _ _ _ h => h) (Or.inl ⟨by rfl, ?_⟩) (by assumption) ?_; (rotate_left; (intro wS hSw; (try dsimp only at hSw); go_simp; (try with_reducible rfl)); rotate_left); simp only [Act.put, List.setIfInBounds_toArray, List.set_cons_zero, List.set_cons_succ]
  refine lin_take (v := ?_) (by kernel_rfl) (by kernel_rfl) (fun _ _ _ h => h) (Or.inl ⟨by rfl, ?_⟩) (by assumption) ?_; (rotate_left; (intro wS hSw; (try dsimp only at hSw); go_simp; (try with_reducible rfl)); rotate_left); simp only [Act.put, List.setIfInBounds_toArray, List.set_cons_zero, List.set_cons_succ]
  refine lin_rot ?_; simp only [List.cons_append, List.nil_append]
  refine lin_rot ?_; simp only [List.cons_append, List.nil_append]
  refine lin_take (v := ?_) (by kernel_rfl) (by kernel_rfl) (fun _ _ _ h => h) (Or.inl ⟨by rfl, ?_⟩) (by assumption) ?_; (rotate_left; (intro wS hSw; (try dsimp only at hSw); go_simp; (try with_reducible rfl)); rotate_left); simp only [Act.put, List.setIfInBounds_toArray, List.set_cons_zero, List.set_cons_succ]
  refine lin_take (v := ?_) (by kernel_rfl) (by kernel_rfl) (fun _ _ _ h => h) (Or.inl ⟨by rfl, ?_⟩) (by assumption) ?_; (rotate_left; (intro wS hSw; (try dsimp only at hSw); go_simp; (try with_reducible rfl)); rotate_left); simp only [Act.put, List.setIfInBounds_toArray, List.set_cons_zero, List.set_cons_succ]
  refine lin_take (v := ?_) (by kernel_rfl) (by kernel_rfl) (fun _ _ _ h => h) (Or.inl ⟨by rfl, ?_⟩) (by assumption) ?_; (rotate_left; (intro wS hSw; (try dsimp only at hSw); go_simp; (try with_reducible rfl)); rotate_left); simp only [Act.put, List.setIfInBounds_toArray, List.set_cons_zero, List.set_cons_succ]
  refine lin_rot ?_; simp only [List.cons_append, List.nil_append]
  refine lin_rot ?_; simp only [List.cons_append, List.nil_append]
  refine lin_take (v := ?_) (by kernel_rfl) (by kernel_rfl) (fun _ _ _ h => h) (Or.inl ⟨by rfl, ?_⟩) (by assumption) ?_; (rotate_left; (intro wS hSw; (try dsimp only at hSw); go_simp; (try with_reducible rfl)); rotate_left); simp only [Act.put, List.setIfInBounds_toArray, List.set_cons_zero, List.set_cons_succ]
  refine lin_take (v := ?_) (by kernel_rfl) (by kernel_rfl) (fun _ _ _ h => h) (Or.inl ⟨by rfl, ?_⟩) (by assumption) ?_; (rotate_left; (intro wS hSw; (try dsimp only at hSw); go_simp; (try with_reducible rfl)); rotate_left); simp only [Act.put, List.setIfInBounds_toArray, List.set_cons_zero, List.set_cons_succ]
  refine lin_take (v := ?_) (by kernel_rfl) (by kernel_rfl) (fun _ _ _ h => h) (Or.inl ⟨by rfl, ?_⟩) (by assumption) ?_; (rotate_left; (intro wS hSw; (try dsimp only at hSw); go_simp; (try with_reducible rfl)); rotate_left); simp only [Act.put, List.setIfInBounds_toArray, List.set_cons_zero, List.set_cons_succ]
  refine lin_rot ?_; simp only [List.cons_append, List.nil_append]
  refine lin_rot ?_; simp only [List.cons_append, List.nil_append]
  refine lin_take (v := ?_) (by kernel_rfl) (by kernel_rfl) (fun _ _ _ h => h) (Or.inl ⟨by rfl, ?_⟩) (by assumption) ?_; (rotate_left; (intro wS hSw; (try dsimp only at hSw); go_simp; (try with_reducible rfl)); rotate_left); simp only [Act.put, List.setIfInBounds_toArray, List.set_cons_zero, List.set_cons_succ]
  refine lin_take (v := ?_) (by kernel_rfl) (by kernel_rfl) (fun _ _ _ h => h) (Or.inl ⟨by rfl, ?_⟩) (by assumption) ?_; (rotate_left; (intro wS hSw; (try dsimp only at hSw); go_simp; (try with_reducible rfl)); rotate_left); simp only [Act.put, List.setIfInBounds_toArray, List.set_cons_zero, List.set_cons_succ]
  refine lin_take (v := ?_) (by kernel_rfl) (by kernel_rfl) (fun _ _ _ h => h) (Or.inl ⟨by rfl, ?_⟩) (by assumption) ?_; (rotate_left; (intro wS hSw; (try dsimp only at hSw); go_simp; (try with_reducible rfl)); rotate_left); simp only [Act.put, List.setIfInBounds_toArray, List.set_cons_zero, List.set_cons_succ]
  refine lin_rot ?_; simp only [List.cons_append, List.nil_append]
  refine lin_rot ?_; simp only [List.cons_append, List.nil_append]
  refine lin_take (v := ?_) (by kernel_rfl) (by kernel_rfl) (fun _ _ _ h => h) (Or.inl ⟨by rfl, ?_⟩) (by assumption) ?_; (rotate_left; (intro wS hSw; (try dsimp only at hSw); go_simp; (try with_reducible rfl)); rotate_left); simp only [Act.put, List.setIfInBounds_toArray, List.set_cons_zero, List.set_cons_succ]
  refine lin_take (v := ?_) (by kernel_rfl) (by kernel_rfl) (fun _ _ _ h => h) (Or.inl ⟨by rfl, ?_⟩) (by assumption) ?_; (rotate_left; (intro wS hSw; (try dsimp only at hSw); go_simp; (try with_reducible rfl)); rotate_left); simp only [Act.put, List.setIfInBounds_toArray, List.set_cons_zero, List.set_cons_succ]
  refine lin_take (v := ?_) (by kernel_rfl) (by kernel_rfl) (fun _ _ _ h => h) (Or.inl ⟨by rfl, ?_⟩) (by assumption) ?_; (rotate_left; (intro wS hSw; (try dsimp only at hSw); go_simp; (try with_reducible rfl)); rotate_left); simp only [Act.put, List.setIfInBounds_toArray, List.set_cons_zero, List.set_cons_succ]
  refine lin_rot ?_; simp only [List.cons_append, List.nil_append]
  refine lin_rot ?_; simp only [List.cons_append, List.nil_append]
  refine lin_rot ?_; simp only [List.cons_append, List.nil_append]
  refine lin_rot ?_; simp only [List.cons_append, List.nil_append]
  refine lin_rot ?_; simp only [List.cons_append, List.nil_append]
  refine lin_sole (by kernel_rfl) (fun K hK => ?_)
  go_simp
  refine (A1.out _ hO5).mono ?_
  rintro e w6 ⟨rfl, hO6⟩
  refine hK.out _ _ ?_ (fun hHeld => ?_)
  · exact plan_k hO6
  try simp only [Act.put, List.setIfInBounds_toArray, List.set_cons_zero, List.set_cons_succ]
  try clear hO5
  clear hK
  refine lin_sole (by kernel_rfl) (fun K hK => ?_)
  go_simp
  refine (A2.out _ hO6).mono ?_
  rintro e w7 ⟨rfl, hO7⟩
  refine hK.out _ _ ?_ (fun hHeld => ?_)
  · exact plan_k hO7
  try simp only [Act.put, List.setIfInBounds_toArray, List.set_cons_zero, List.set_cons_succ]
  try clear hO6
  clear hK
  refine lin_take (v := ?_) (by kernel_rfl) (by kernel_rfl) (fun _ _ _ h => h) (Or.inl ⟨by rfl, ?_⟩) (by assumption) ?_; (rotate_left; (intro wS hSw; (try dsimp only at hSw); go_simp; (try with_reducible rfl)); rotate_left); simp only [Act.put, List.setIfInBounds_toArray, List.set_cons_zero, List.set_cons_succ]
  refine lin_sole (by kernel_rfl) (fun K hK => ?_)
  go_simp
  refine (A3.out _ hO7).mono ?_
  rintro e w8 ⟨rfl, hO8⟩
  refine hK.out _ _ ?_ (fun hHeld => ?_)
  · exact plan_k hO8
  try simp only [Act.put, List.setIfInBounds_toArray, List.set_cons_zero, List.set_cons_succ]
  try clear hO7
  clear hK
  refine lin_take (v := ?_) (by kernel_rfl) (by kernel_rfl) (fun _ _ _ h => h) (Or.inl ⟨by rfl, ?_⟩) (by assumption) ?_; (rotate_left; (intro wS hSw; (try dsimp only at hSw); go_simp; (try with_reducible rfl)); rotate_left); simp only [Act.put, List.setIfInBounds_toArray, List.set_cons_zero, List.set_cons_succ]
  refine lin_sole (by kernel_rfl) (fun K hK => ?_)
  go_simp
  refine (A4.out _ hO8).mono ?_
  rintro e w9 ⟨rfl, hO9⟩
  refine hK.out _ _ ?_ (fun hHeld => ?_)
  · exact plan_k hO9
  try simp only [Act.put, List.setIfInBounds_toArray, List.set_cons_zero, List.set_cons_succ]
  try clear hO8
  clear hK
  refine lin_take (v := ?_) (by kernel_rfl) (by kernel_rfl) (fun _ _ _ h => h) (Or.inl ⟨by rfl, ?_⟩) (by assumption) ?_; (rotate_left; (intro wS hSw; (try dsimp only at hSw); go_simp; (try with_reducible rfl)); rotate_left); simp only [Act.put, List.setIfInBounds_toArray, List.set_cons_zero, List.set_cons_succ]
  refine lin_sole (by kernel_rfl) (fun K hK => ?_)
  go_simp
  refine (A5.out _ hO9).mono ?_
  rintro e w10 ⟨rfl, hO10⟩
  refine hK.out _ _ ?_ (fun hHeld => ?_)
  · exact plan_k hO10
  try simp only [Act.put, List.setIfInBounds_toArray, List.set_cons_zero, List.set_cons_succ]
  try clear hO9
  clear hK
  refine lin_take (v := ?_) (by kernel_rfl) (by kernel_rfl) (fun _ _ _ h => h) (Or.inl ⟨by rfl, ?_⟩) (by assumption) ?_; (rotate_left; (intro wS hSw; (try dsimp only at hSw); go_simp; (try with_reducible rfl)); rotate_left); simp only [Act.put, List.setIfInBounds_toArray, List.set_cons_zero, List.set_cons_succ]
  refine lin_sole (by kernel_rfl) (fun K hK => ?_)
  go_simp
  refine (A6.out _ hO10).mono ?_
  rintro e w11 ⟨rfl, hO11⟩
  refine hK.out _ _ ?_ (fun hHeld => ?_)
  · exact plan_k hO11
  try simp only [Act.put, List.setIfInBounds_toArray, List.set_cons_zero, List.set_cons_succ]
  try clear hO10
  clear hK
  refine lin_take (v := ?_) (by kernel_rfl) (by kernel_rfl) (fun _ _ _ h => h) (Or.inl ⟨by rfl, ?_⟩) (by assumption) ?_; (rotate_left; (intro wS hSw; (try dsimp only at hSw); go_simp; (try with_reducible rfl)); rotate_left); simp only [Act.put, List.setIfInBounds_toArray, List.set_cons_zero, List.set_cons_succ]
  refine lin_sole (by kernel_rfl) (fun K hK => ?_)
  go_simp
  refine (A7.out _ hO11).mono ?_
  rintro e w12 ⟨rfl, hO12⟩
  refine hK.out _ _ ?_ (fun hHeld => ?_)
  · exact plan_k hO12
  try simp only [Act.put, List.setIfInBounds_toArray, List.set_cons_zero, List.set_cons_succ]
  try clear hO11
  clear hK
  refine lin_take (v := ?_) (by kernel_rfl) (by kernel_rfl) (fun _ _ _ h => h) (Or.inl ⟨by rfl, ?_⟩) (by assumption) ?_; (rotate_left; (intro wS hSw; (try dsimp only at hSw); go_simp; (try with_reducible rfl)); rotate_left); simp only [Act.put, List.setIfInBounds_toArray, List.set_cons_zero, List.set_cons_succ]
  refine lin_sole (by kernel_rfl) (fun K hK => ?_)
  go_simp
  refine (A8.out _ hO12).mono ?_
  rintro e w13 ⟨rfl, hO13⟩
  refine hK.out _ _ ?_ (fun hHeld => ?_)
  · exact plan_k hO13
  try simp only [Act.put, List.setIfInBounds_toArray, List.set_cons_zero, List.set_cons_succ]
  try clear hO12
  clear hK
  refine lin_take (v := ?_) (by kernel_rfl) (by kernel_rfl) (fun _ _ _ h => h) (Or.inl ⟨by rfl, ?_⟩) (by assumption) ?_; (rotate_left; (intro wS hSw; (try dsimp only at hSw); go_simp; (try with_reducible rfl)); rotate_left); simp only [Act.put, List.setIfInBounds_toArray, List.set_cons_zero, List.set_cons_succ]
  refine lin_sole (by kernel_rfl) (fun K hK => ?_)
  go_simp
  refine (A9.out _ hO13).mono ?_
  rintro e w14 ⟨rfl, hO14⟩
  refine hK.out _ _ ?_ (fun hHeld => ?_)
  · exact plan_k hO14
  try simp only [Act.put, List.setIfInBounds_toArray, List.set_cons_zero, List.set_cons_succ]
  try clear hO13
  clear hK
  refine lin_take (v := ?_) (by kernel_rfl) (by kernel_rfl) (fun _ _ _ h => h) (Or.inl ⟨by rfl, ?_⟩) (by assumption) ?_; (rotate_left; (intro wS hSw; (try dsimp only at hSw); go_simp; (try with_reducible rfl)); rotate_left); simp only [Act.put, List.setIfInBounds_toArray, List.set_cons_zero, List.set_cons_succ]
  refine lin_sole (by kernel_rfl) (fun K hK => ?_)
  go_simp
  refine (A10.out _ hO14).mono ?_
  rintro e w15 ⟨rfl, hO15⟩
  refine hK.out _ _ ?_ (fun hHeld => ?_)
  · exact plan_k hO15
  try simp only [Act.put, List.setIfInBounds_toArray, List.set_cons_zero, List.set_cons_succ]
  try clear hO14
  clear hK
  refine lin_take (v := ?_) (by kernel_rfl) (by kernel_rfl) (fun _ _ _ h => h) (Or.inl ⟨by rfl, ?_⟩) (by assumption) ?_; (rotate_left; (intro wS hSw; (try dsimp only at hSw); go_simp; (try with_reducible rfl)); rotate_left); simp only [Act.put, List.setIfInBounds_toArray, List.set_cons_zero, List.set_cons_succ]
  refine lin_take (v := ?_) (by kernel_rfl) (by kernel_rfl) (fun _ _ _ h => h) (Or.inl ⟨by rfl, ?_⟩) (by assumption) ?_; (rotate_left; (intro wS hSw; (try dsimp only at hSw); go_simp; (try with_reducible rfl)); rotate_left); simp only [Act.put, List.setIfInBounds_toArray, List.set_cons_zero, List.set_cons_succ]
  refine lin_take (v := ?_) (by kernel_rfl) (by kernel_rfl) (fun _ _ _ h => h) (Or.inl ⟨by rfl, ?_⟩) (by assumption) ?_; (rotate_left; (intro wS hSw; (try dsimp only at hSw); go_simp; (try with_reducible rfl)); rotate_left); simp only [Act.put, List.setIfInBounds_toArray, List.set_cons_zero, List.set_cons_succ]
  refine lin_take (v := ?_) (by kernel_rfl) (by kernel_rfl) (fun _ _ _ h => h) (Or.inl ⟨by rfl, ?_⟩) (by assumption) ?_; (rotate_left; (intro wS hSw; (try dsimp only at hSw); go_simp; (try with_reducible rfl)); rotate_left); simp only [Act.put, List.setIfInBounds_toArray, List.set_cons_zero, List.set_cons_succ]
  refine lin_done (by kernel_rfl) ?_
  go_wp2_with fail
  go_ret
  exact ⟨rfl, hO15.below⟩
/-- Where each is, as natural numbers. -/
theorem tells_facts (a b c d W F K I : Nat) (worker n id iter : Int) (hok : okPlan a b c d = true) (hW : clamp worker 0 ((a : Int) - 1) = W) (hF : clamp id 1 b = (F : Int) + 1) (hK : max n 0 % (d : Int) = K) (hI : max iter 0 % ((c : Int) + 1) = I) :
    baseV a d worker = ((W * (4 + d) : Nat) : Int) ∧ slotV a d worker n = ((W * (4 + d) + 4 + K : Nat) : Int) ∧ frameV a b c d id = ((a * (4 + d) + F * (2 + 4 * (c + 1)) : Nat) : Int) ∧ (∀ j : Nat, wordV a b c d id iter j = ((a * (4 + d) + F * (2 + 4 * (c + 1)) + (2 + 4 * I + j) : Nat) : Int)) ∧ sizeV a b c d = ((a * (4 + d) + b * (2 + 4 * (c + 1)) : Nat) : Int) := by
  have h1 : wideV d = ((4 + d : Nat) : Int) := by unfold wideV; omega
  have h2 : roomV c = ((2 + 4 * (c + 1) : Nat) : Int) := by unfold roomV; omega
  have b1 : baseV a d worker = ((W * (4 + d) : Nat) : Int) := by unfold baseV; rw [hW, h1, Int.natCast_mul]
  have b2 : frameV a b c d id = ((a * (4 + d) + F * (2 + 4 * (c + 1)) : Nat) : Int) := by
    unfold frameV
    rw [hF, h1, h2, show (F : Int) + 1 - 1 = F by omega, Int.natCast_add (a * (4 + d)), Int.natCast_mul a, Int.natCast_mul F]
  refine ⟨b1, ?_, b2, fun j => ?_, ?_⟩
  · unfold slotV; rw [b1, hK]; omega
  · unfold wordV; rw [b2, hI]; omega
  · unfold sizeV; rw [h1, h2, Int.natCast_add (a * (4 + d)), Int.natCast_mul a, Int.natCast_mul b]
theorem tells_ok (a b c d W F K I : Nat) (worker n id iter : Int) (hok : okPlan a b c d = true) (hW : clamp worker 0 ((a : Int) - 1) = W) (hWa : W < a) (hF : clamp id 1 b = (F : Int) + 1) (hFb : F < b) (hK : max n 0 % (d : Int) = K) (hKd : K < d) (hI : max iter 0 % ((c : Int) + 1) = I) (hIc : I ≤ c) (w : World) :
    Calls Try.prog 5 #[.agg #[.int .i64 (a : Int), .int .i64 (b : Int), .int .i64 (c : Int), .int .i64 (d : Int)], .int .i64 worker, .int .i64 n, .int .i64 id, .int .i64 iter] w fun e w' => e = .returned (.bool true) ∧ Below w.heap.size w w' := by
  obtain ⟨a1, a2, b1, b2, c1, c2, d1, d2⟩ := ok_bd hok
  have R := fun w => right_any a b c d w
  rw [hok] at R
  replace R := Lib.hid R
  obtain ⟨f1, f2, f3, f4, f5⟩ := tells_facts a b c d W F K I worker n id iter hok hW hF hK hI
  have g0 := words_len a b c d
  have g1 := word_head (a := a) (b := b) (c := c) (d := d) (k := W) (j := 0) hWa (by decide)
  have g2 := word_slot (a := a) (b := b) (c := c) (d := d) (k := W) (n := K) hWa hKd
  have g3 := word_own (a := a) (b := b) (c := c) (d := d) (f := F) (j := 0) hFb (by decide)
  have g4 := word_own (a := a) (b := b) (c := c) (d := d) (f := F) (j := 1) hFb (by decide)
  have g5 := word_each (a := a) (b := b) (c := c) (d := d) (f := F) (q := I) (j := 0) hFb hIc (by decide)
  have g6 := word_each (a := a) (b := b) (c := c) (d := d) (f := F) (q := I) (j := 1) hFb hIc (by decide)
  have g7 := word_each (a := a) (b := b) (c := c) (d := d) (f := F) (q := I) (j := 2) hFb hIc (by decide)
  have g8 := word_each (a := a) (b := b) (c := c) (d := d) (f := F) (q := I) (j := 3) hFb hIc (by decide)
  have hu := fun i x => @words_pos a b c d i x
  have WW := Lib.hid (fun w => words_any a b c d (by omega) (by omega) (by omega) (by omega) w)
  have hlen : (wordsW a b c d).length ≤ 100000 := by
    have := Nat.mul_le_mul (show a ≤ 64 by omega) (show 4 + d ≤ 260 by omega)
    have := Nat.mul_le_mul (show b ≤ 256 by omega) (show 2 + 4 * (c + 1) ≤ 262 by omega)
    rw [g0]; omega
  have e1 : IntKind.i64.wrap ((c : Int) + 1) = (c : Int) + 1 := IntWalk.i64_in _ (by omega)
  have e2 : IntKind.i64.wrap (4 * ((c : Int) + 1)) = 4 * ((c : Int) + 1) := IntWalk.i64_in _ (by omega)
  have e3 : IntKind.i64.wrap (2 + 4 * ((c : Int) + 1)) = 2 + 4 * ((c : Int) + 1) := IntWalk.i64_in _ (by omega)
  have e4 : IntKind.i64.wrap ((a : Int) - 1) = (a : Int) - 1 := IntWalk.i64_in _ (by omega)
  have e5 : heldV worker 0 ((a : Int) - 1) = W := by rw [← hW]; unfold heldV clamp; split <;> (try split) <;> omega
  have e6 : heldV id 1 b = ((F + 1 : Nat) : Int) := by rw [show ((F + 1 : Nat) : Int) = clamp id 1 b by rw [hF]; omega]; unfold heldV clamp; split <;> (try split) <;> omega
  have e7 : heldV n 0 n = max n 0 := by unfold heldV; split <;> (try split) <;> omega
  have e8 : heldV iter 0 iter = max iter 0 := by unfold heldV; split <;> (try split) <;> omega
  have n0 : (0 : Int) ≤ max n 0 := by omega
  have n1 : (0 : Int) ≤ max iter 0 := by omega
  have e9 : (max n 0).tmod (d : Int) = K := by rw [Int.tmod_eq_emod_of_nonneg n0]; exact hK
  have e10 : (max iter 0).tmod ((c : Int) + 1) = I := by rw [Int.tmod_eq_emod_of_nonneg n1]; exact hI
  obtain ⟨MN, hMN⟩ : ∃ x, max n 0 = x := ⟨_, rfl⟩
  obtain ⟨MI, hMI⟩ : ∃ x, max iter 0 = x := ⟨_, rfl⟩
  rw [hMN] at e7 e9
  rw [hMI] at e8 e10
  clear n0 n1 hMN hMI
  clear hW hF hK hI
  have e11 : IntKind.i64.wrap (K : Int) = K := IntWalk.i64_in _ (by omega)
  have e12 : IntKind.i64.wrap (I : Int) = I := IntWalk.i64_in _ (by omega)
  have q0 : ¬ d = 0 := by omega
  have q1 : ¬ (d : Int) = 0 := by omega
  have q2 : ¬ (d : Int) = -1 := by omega
  have q3 : ¬ (c : Int) + 1 = 0 := by omega
  have q4 : ¬ (c : Int) + 1 = -1 := by omega
  replace f1 := Lib.hid f1
  replace f2 := Lib.hid f2
  replace f3 := Lib.hid f3
  replace f4 := Lib.hid f4
  replace f5 := Lib.hid f5
  replace g0 := Lib.hid g0
  replace g1 := Lib.hid g1
  replace g2 := Lib.hid g2
  replace g3 := Lib.hid g3
  replace g4 := Lib.hid g4
  replace g5 := Lib.hid g5
  replace g6 := Lib.hid g6
  replace g7 := Lib.hid g7
  replace g8 := Lib.hid g8
  replace hu := Lib.hid hu
  replace hok := Lib.hid hok
  replace e5 := Lib.hid e5
  replace e6 := Lib.hid e6
  replace e7 := Lib.hid e7
  replace e8 := Lib.hid e8
  have hO := ((Own.nil (Below.refl _ w)).box #[.int .i64 (a : Int), .int .i64 (b : Int), .int .i64 (c : Int), .int .i64 (d : Int)] 24)
  go_enter Try.func5, Try.ntmps5
  go_wp2_with fail
  go_at_call 13
  refine (works11_any _).mono ?_
  rintro e w1 ⟨rfl, hb1⟩
  have hO1 := hO.grow hb1
  generalize w.alloc (.cells #[.int .i64 (a : Int), .int .i64 (b : Int), .int .i64 (c : Int), .int .i64 (d : Int)] 24) = u at *
  generalize hpb : w.heap.size = pb at hO1 ⊢
  clear hpb hO hb1
  obtain ⟨x0, x1, x2, x3⟩ := plan_k hO1
  go_wp2_with fail
  have hO2 := hO1.box #[.int .i64 (a : Int), .int .i64 (b : Int), .int .i64 (c : Int), .int .i64 (d : Int)] 33
  generalize w1.alloc (.cells #[.int .i64 (a : Int), .int .i64 (b : Int), .int .i64 (c : Int), .int .i64 (d : Int)] 33) = u2 at *
  generalize w1.heap.size = qb at *
  clear hO1 x0 x1 x2 x3
  go_at_call 23
  refine (R.out _).mono ?_
  rintro e w3 ⟨rfl, hb3⟩
  have hO3 := hO2.grow hb3
  clear hO2 hb3
  obtain ⟨x0, x1, x2, x3⟩ := plan_k hO3
  obtain ⟨y0, y1, y2, y3⟩ := plan_k2 hO3
  go_wp2_with fail
  go_at_call 26
  refine (WW.out _).mono ?_
  clear x0 x1 x2 x3 y0 y1 y2 y3
  rintro e w4 ⟨lo, nn, lc, rfl, hnn, hO4⟩
  have hO5 := (hO3.join2 hO4).sel [1, 2, 0] (by decide)
  clear hO3 hO4
  obtain ⟨LL, hLL⟩ : ∃ LL, wordsW a b c d = LL := ⟨_, rfl⟩
  rw [hLL] at hnn hlen hO5
  have hnl : nn ≤ 100000 := by omega
  replace hLL := Lib.hid hLL
  replace hnn := Lib.hid hnn
  clear hlen
  have hO6 : Own w w4 [cellsA pb #[.int .i64 (a : Int), .int .i64 (b : Int), .int .i64 (c : Int), .int .i64 (d : Int)] 24, cellsA qb #[.int .i64 (a : Int), .int .i64 (b : Int), .int .i64 (c : Int), .int .i64 (d : Int)] 33, rowA 40 3 (.slice lo nn lc) nn (wordsC LL)] := hO5
  have hlc : nn ≤ lc := by
    obtain ⟨ao', c', hv, h1, h2, h3⟩ := (hO6.row 2 rfl).shape
    simp only [Value.slice.injEq] at hv
    obtain ⟨rfl, _, rfl⟩ := hv
    exact h1
  clear hO5
  obtain ⟨B0, hB0⟩ : ∃ x, W * (4 + d) = x := ⟨_, rfl⟩
  obtain ⟨B1, hB1⟩ : ∃ x, W * (4 + d) + 4 + K = x := ⟨_, rfl⟩
  obtain ⟨B2, hB2⟩ : ∃ x, a * (4 + d) + F * (2 + 4 * (c + 1)) = x := ⟨_, rfl⟩
  obtain ⟨B3, hB3⟩ : ∃ x, a * (4 + d) + F * (2 + 4 * (c + 1)) + 1 = x := ⟨_, rfl⟩
  obtain ⟨B4, hB4⟩ : ∃ x, a * (4 + d) + F * (2 + 4 * (c + 1)) + (2 + 4 * I + 0) = x := ⟨_, rfl⟩
  obtain ⟨B5, hB5⟩ : ∃ x, a * (4 + d) + F * (2 + 4 * (c + 1)) + (2 + 4 * I + 1) = x := ⟨_, rfl⟩
  obtain ⟨B6, hB6⟩ : ∃ x, a * (4 + d) + F * (2 + 4 * (c + 1)) + (2 + 4 * I + 2) = x := ⟨_, rfl⟩
  obtain ⟨B7, hB7⟩ : ∃ x, a * (4 + d) + F * (2 + 4 * (c + 1)) + (2 + 4 * I + 3) = x := ⟨_, rfl⟩
  have CK := Lib.hid (fun (w1 : World) (h : Own w w1 [cellsA pb #[.int .i64 (a : Int), .int .i64 (b : Int), .int .i64 (c : Int), .int .i64 (d : Int)] 24, cellsA qb #[.int .i64 (a : Int), .int .i64 (b : Int), .int .i64 (c : Int), .int .i64 (d : Int)] 33, rowA 40 3 (.slice lo nn lc) nn (wordsC LL)]) => Own.lift (check_any a b c d w1) h (.int .i64 0) (by unfold checkOf; rw [hok.out]; rfl))
  have SZ := Lib.hid (fun (w1 : World) (h : Own w w1 [cellsA pb #[.int .i64 (a : Int), .int .i64 (b : Int), .int .i64 (c : Int), .int .i64 (d : Int)] 24, cellsA qb #[.int .i64 (a : Int), .int .i64 (b : Int), .int .i64 (c : Int), .int .i64 (d : Int)] 33, rowA 40 3 (.slice lo nn lc) nn (wordsC LL)]) => Own.lift (size_ok hok.out w1) h (.int .i64 nn) (by rw [f5.out, hnn.out, ← hLL.out, g0.out]))
  have RM := Lib.hid (fun (w1 : World) (h : Own w w1 [cellsA pb #[.int .i64 (a : Int), .int .i64 (b : Int), .int .i64 (c : Int), .int .i64 (d : Int)] 24, cellsA qb #[.int .i64 (a : Int), .int .i64 (b : Int), .int .i64 (c : Int), .int .i64 (d : Int)] 33, rowA 40 3 (.slice lo nn lc) nn (wordsC LL)]) => Own.lift (room_ok hok.out w1) h (.int .i64 (2 + 4 * ((c : Int) + 1))) (by rfl))
  have BS := Lib.hid (fun (w1 : World) (h : Own w w1 [cellsA pb #[.int .i64 (a : Int), .int .i64 (b : Int), .int .i64 (c : Int), .int .i64 (d : Int)] 24, cellsA qb #[.int .i64 (a : Int), .int .i64 (b : Int), .int .i64 (c : Int), .int .i64 (d : Int)] 33, rowA 40 3 (.slice lo nn lc) nn (wordsC LL)]) => Own.lift (base_ok hok.out worker w1) h (.int .i64 B0) (by rw [f1.out, hB0]))
  have SL := Lib.hid (fun (w1 : World) (h : Own w w1 [cellsA pb #[.int .i64 (a : Int), .int .i64 (b : Int), .int .i64 (c : Int), .int .i64 (d : Int)] 24, cellsA qb #[.int .i64 (a : Int), .int .i64 (b : Int), .int .i64 (c : Int), .int .i64 (d : Int)] 33, rowA 40 3 (.slice lo nn lc) nn (wordsC LL)]) => Own.lift (slot_ok hok.out worker n w1) h (.int .i64 B1) (by rw [f2.out, hB1]))
  have FR := Lib.hid (fun (w1 : World) (h : Own w w1 [cellsA pb #[.int .i64 (a : Int), .int .i64 (b : Int), .int .i64 (c : Int), .int .i64 (d : Int)] 24, cellsA qb #[.int .i64 (a : Int), .int .i64 (b : Int), .int .i64 (c : Int), .int .i64 (d : Int)] 33, rowA 40 3 (.slice lo nn lc) nn (wordsC LL)]) => Own.lift (frame_ok hok.out id w1) h (.int .i64 B2) (by rw [f3.out, hB2]))
  have NP := Lib.hid (fun (w1 : World) (h : Own w w1 [cellsA pb #[.int .i64 (a : Int), .int .i64 (b : Int), .int .i64 (c : Int), .int .i64 (d : Int)] 24, cellsA qb #[.int .i64 (a : Int), .int .i64 (b : Int), .int .i64 (c : Int), .int .i64 (d : Int)] 33, rowA 40 3 (.slice lo nn lc) nn (wordsC LL)]) => Own.lift (nap_ok hok.out id w1) h (.int .i64 B3) (by rw [f3.out, ← hB3]; exact congrArg (Value.int .i64) (by omega)))
  have X0 := Lib.hid (fun (w1 : World) (h : Own w w1 [cellsA pb #[.int .i64 (a : Int), .int .i64 (b : Int), .int .i64 (c : Int), .int .i64 (d : Int)] 24, cellsA qb #[.int .i64 (a : Int), .int .i64 (b : Int), .int .i64 (c : Int), .int .i64 (d : Int)] 33, rowA 40 3 (.slice lo nn lc) nn (wordsC LL)]) => Own.lift (counter_ok hok.out id iter w1) h (.int .i64 B4) (by have := f4.out 0; rw [← hB4, ← this]; rfl))
  have X1 := Lib.hid (fun (w1 : World) (h : Own w w1 [cellsA pb #[.int .i64 (a : Int), .int .i64 (b : Int), .int .i64 (c : Int), .int .i64 (d : Int)] 24, cellsA qb #[.int .i64 (a : Int), .int .i64 (b : Int), .int .i64 (c : Int), .int .i64 (d : Int)] 33, rowA 40 3 (.slice lo nn lc) nn (wordsC LL)]) => Own.lift (status_ok hok.out id iter w1) h (.int .i64 B5) (by have := f4.out 1; rw [← hB5, ← this]; rfl))
  have X2 := Lib.hid (fun (w1 : World) (h : Own w w1 [cellsA pb #[.int .i64 (a : Int), .int .i64 (b : Int), .int .i64 (c : Int), .int .i64 (d : Int)] 24, cellsA qb #[.int .i64 (a : Int), .int .i64 (b : Int), .int .i64 (c : Int), .int .i64 (d : Int)] 33, rowA 40 3 (.slice lo nn lc) nn (wordsC LL)]) => Own.lift (link_ok hok.out id iter w1) h (.int .i64 B6) (by have := f4.out 2; rw [← hB6, ← this]; rfl))
  have X3 := Lib.hid (fun (w1 : World) (h : Own w w1 [cellsA pb #[.int .i64 (a : Int), .int .i64 (b : Int), .int .i64 (c : Int), .int .i64 (d : Int)] 24, cellsA qb #[.int .i64 (a : Int), .int .i64 (b : Int), .int .i64 (c : Int), .int .i64 (d : Int)] 33, rowA 40 3 (.slice lo nn lc) nn (wordsC LL)]) => Own.lift (done_ok hok.out id iter w1) h (.int .i64 B7) (by have := f4.out 3; rw [← hB7, ← this]; rfl))
  have H0 := Lib.hid (fun (w1 : World) (h : Own w w1 [cellsA pb #[.int .i64 (a : Int), .int .i64 (b : Int), .int .i64 (c : Int), .int .i64 (d : Int)] 24, cellsA qb #[.int .i64 (a : Int), .int .i64 (b : Int), .int .i64 (c : Int), .int .i64 (d : Int)] 33, rowA 40 3 (.slice lo nn lc) nn (wordsC LL)]) => Own.lift0 (held_any worker 0 ((a : Int) - 1) w1) h (.int .i64 W) (by rw [e5.out]))
  have H1 := Lib.hid (fun (w1 : World) (h : Own w w1 [cellsA pb #[.int .i64 (a : Int), .int .i64 (b : Int), .int .i64 (c : Int), .int .i64 (d : Int)] 24, cellsA qb #[.int .i64 (a : Int), .int .i64 (b : Int), .int .i64 (c : Int), .int .i64 (d : Int)] 33, rowA 40 3 (.slice lo nn lc) nn (wordsC LL)]) => Own.lift0 (held_any id 1 b w1) h (.int .i64 ((F + 1 : Nat) : Int)) (by rw [e6.out]))
  have H2 := Lib.hid (fun (w1 : World) (h : Own w w1 [cellsA pb #[.int .i64 (a : Int), .int .i64 (b : Int), .int .i64 (c : Int), .int .i64 (d : Int)] 24, cellsA qb #[.int .i64 (a : Int), .int .i64 (b : Int), .int .i64 (c : Int), .int .i64 (d : Int)] 33, rowA 40 3 (.slice lo nn lc) nn (wordsC LL)]) => Own.lift0 (held_any n 0 n w1) h (.int .i64 MN) (by rw [e7.out]))
  have H3 := Lib.hid (fun (w1 : World) (h : Own w w1 [cellsA pb #[.int .i64 (a : Int), .int .i64 (b : Int), .int .i64 (c : Int), .int .i64 (d : Int)] 24, cellsA qb #[.int .i64 (a : Int), .int .i64 (b : Int), .int .i64 (c : Int), .int .i64 (d : Int)] 33, rowA 40 3 (.slice lo nn lc) nn (wordsC LL)]) => Own.lift0 (held_any iter 0 iter w1) h (.int .i64 MI) (by rw [e8.out]))
  have T0 := Lib.hid (fun (w1 : World) (h : Own w w1 [cellsA pb #[.int .i64 (a : Int), .int .i64 (b : Int), .int .i64 (c : Int), .int .i64 (d : Int)] 24, cellsA qb #[.int .i64 (a : Int), .int .i64 (b : Int), .int .i64 (c : Int), .int .i64 (d : Int)] 33, rowA 40 3 (.slice lo nn lc) nn (wordsC LL)]) => Own.lift (at_any LL 0 W 0 (0, W, 0) (by simp) (by omega) B0 nn hnn.out (by rw [← hLL.out, ← hB0]; exact g1.out) (fun i hi => by
      rw [← hLL.out] at hi
      rw [hu.out i _ hi, ← hB0]
      exact (hu.out _ _ g1.out).symm) lo lc hlc w1 ((h.row 2 rfl).liesW hnn.out) hnl) h (.int .i64 B0) rfl)
  have T1 := Lib.hid (fun (w1 : World) (h : Own w w1 [cellsA pb #[.int .i64 (a : Int), .int .i64 (b : Int), .int .i64 (c : Int), .int .i64 (d : Int)] 24, cellsA qb #[.int .i64 (a : Int), .int .i64 (b : Int), .int .i64 (c : Int), .int .i64 (d : Int)] 33, rowA 40 3 (.slice lo nn lc) nn (wordsC LL)]) => Own.lift (at_any LL 4 W K (4, W, K) (by simp) (by omega) B1 nn hnn.out (by rw [← hLL.out, ← hB1]; exact g2.out) (fun i hi => by
      rw [← hLL.out] at hi
      rw [hu.out i _ hi, ← hB1]
      exact (hu.out _ _ g2.out).symm) lo lc hlc w1 ((h.row 2 rfl).liesW hnn.out) hnl) h (.int .i64 B1) rfl)
  have T2 := Lib.hid (fun (w1 : World) (h : Own w w1 [cellsA pb #[.int .i64 (a : Int), .int .i64 (b : Int), .int .i64 (c : Int), .int .i64 (d : Int)] 24, cellsA qb #[.int .i64 (a : Int), .int .i64 (b : Int), .int .i64 (c : Int), .int .i64 (d : Int)] 33, rowA 40 3 (.slice lo nn lc) nn (wordsC LL)]) => Own.lift (at_any LL 5 ((F + 1 : Nat) : Int) 0 (5, F + 1, 0) (by simp) (by omega) B2 nn hnn.out (by rw [← hLL.out, ← hB2]; exact g3.out) (fun i hi => by
      rw [← hLL.out] at hi
      rw [hu.out i _ hi, ← hB2]
      exact (hu.out _ _ g3.out).symm) lo lc hlc w1 ((h.row 2 rfl).liesW hnn.out) hnl) h (.int .i64 B2) rfl)
  have T3 := Lib.hid (fun (w1 : World) (h : Own w w1 [cellsA pb #[.int .i64 (a : Int), .int .i64 (b : Int), .int .i64 (c : Int), .int .i64 (d : Int)] 24, cellsA qb #[.int .i64 (a : Int), .int .i64 (b : Int), .int .i64 (c : Int), .int .i64 (d : Int)] 33, rowA 40 3 (.slice lo nn lc) nn (wordsC LL)]) => Own.lift (at_any LL 6 ((F + 1 : Nat) : Int) 0 (6, F + 1, 0) (by simp) (by omega) B3 nn hnn.out (by rw [← hLL.out, ← hB3]; exact g4.out) (fun i hi => by
      rw [← hLL.out] at hi
      rw [hu.out i _ hi, ← hB3]
      exact (hu.out _ _ g4.out).symm) lo lc hlc w1 ((h.row 2 rfl).liesW hnn.out) hnl) h (.int .i64 B3) rfl)
  have T4 := Lib.hid (fun (w1 : World) (h : Own w w1 [cellsA pb #[.int .i64 (a : Int), .int .i64 (b : Int), .int .i64 (c : Int), .int .i64 (d : Int)] 24, cellsA qb #[.int .i64 (a : Int), .int .i64 (b : Int), .int .i64 (c : Int), .int .i64 (d : Int)] 33, rowA 40 3 (.slice lo nn lc) nn (wordsC LL)]) => Own.lift (at_any LL 7 ((F + 1 : Nat) : Int) I (7, F + 1, I) (by simp) (by omega) B4 nn hnn.out (by rw [← hLL.out, ← hB4]; exact g5.out) (fun i hi => by
      rw [← hLL.out] at hi
      rw [hu.out i _ hi, ← hB4]
      exact (hu.out _ _ g5.out).symm) lo lc hlc w1 ((h.row 2 rfl).liesW hnn.out) hnl) h (.int .i64 B4) rfl)
  have T5 := Lib.hid (fun (w1 : World) (h : Own w w1 [cellsA pb #[.int .i64 (a : Int), .int .i64 (b : Int), .int .i64 (c : Int), .int .i64 (d : Int)] 24, cellsA qb #[.int .i64 (a : Int), .int .i64 (b : Int), .int .i64 (c : Int), .int .i64 (d : Int)] 33, rowA 40 3 (.slice lo nn lc) nn (wordsC LL)]) => Own.lift (at_any LL 8 ((F + 1 : Nat) : Int) I (8, F + 1, I) (by simp) (by omega) B5 nn hnn.out (by rw [← hLL.out, ← hB5]; exact g6.out) (fun i hi => by
      rw [← hLL.out] at hi
      rw [hu.out i _ hi, ← hB5]
      exact (hu.out _ _ g6.out).symm) lo lc hlc w1 ((h.row 2 rfl).liesW hnn.out) hnl) h (.int .i64 B5) rfl)
  have T6 := Lib.hid (fun (w1 : World) (h : Own w w1 [cellsA pb #[.int .i64 (a : Int), .int .i64 (b : Int), .int .i64 (c : Int), .int .i64 (d : Int)] 24, cellsA qb #[.int .i64 (a : Int), .int .i64 (b : Int), .int .i64 (c : Int), .int .i64 (d : Int)] 33, rowA 40 3 (.slice lo nn lc) nn (wordsC LL)]) => Own.lift (at_any LL 9 ((F + 1 : Nat) : Int) I (9, F + 1, I) (by simp) (by omega) B6 nn hnn.out (by rw [← hLL.out, ← hB6]; exact g7.out) (fun i hi => by
      rw [← hLL.out] at hi
      rw [hu.out i _ hi, ← hB6]
      exact (hu.out _ _ g7.out).symm) lo lc hlc w1 ((h.row 2 rfl).liesW hnn.out) hnl) h (.int .i64 B6) rfl)
  have T7 := Lib.hid (fun (w1 : World) (h : Own w w1 [cellsA pb #[.int .i64 (a : Int), .int .i64 (b : Int), .int .i64 (c : Int), .int .i64 (d : Int)] 24, cellsA qb #[.int .i64 (a : Int), .int .i64 (b : Int), .int .i64 (c : Int), .int .i64 (d : Int)] 33, rowA 40 3 (.slice lo nn lc) nn (wordsC LL)]) => Own.lift (at_any LL 10 ((F + 1 : Nat) : Int) I (10, F + 1, I) (by simp) (by omega) B7 nn hnn.out (by rw [← hLL.out, ← hB7]; exact g8.out) (fun i hi => by
      rw [← hLL.out] at hi
      rw [hu.out i _ hi, ← hB7]
      exact (hu.out _ _ g8.out).symm) lo lc hlc w1 ((h.row 2 rfl).liesW hnn.out) hnl) h (.int .i64 B7) rfl)
  clear f1 f2 f3 f4 f5 g0 g1 g2 g3 g4 g5 g6 g7 g8 hu e5 e6 e7 e8 hB0 hB1 hB2 hB3 hB4 hB5 hB6 hB7
  go_wp2_with fail
  have hO7 := hO6.drewN 1
  have hS0 := plan_k hO7
  refine lin_start (S := (fun w' => w'.cell? ⟨pb, 0, none⟩ = some (.int .i64 a) ∧ w'.cell? ⟨pb, 1, none⟩ = some (.int .i64 b) ∧ w'.cell? ⟨pb, 2, none⟩ = some (.int .i64 c) ∧ w'.cell? ⟨pb, 3, none⟩ = some (.int .i64 d))) rfl 11 rfl hS0 ?_
  simp only [numbered, Nat.zero_add, Nat.reduceAdd]
  refine lin_take (v := ?_) (by kernel_rfl) (by kernel_rfl) (fun _ _ _ h => h) (Or.inl ⟨by rfl, ?_⟩) (by assumption) ?_; (rotate_left; (intro wS hSw; (try dsimp only at hSw); go_simp; (try with_reducible rfl)); rotate_left); simp only [Act.put, List.setIfInBounds_toArray, List.set_cons_zero, List.set_cons_succ]
  refine lin_take (v := ?_) (by kernel_rfl) (by kernel_rfl) (fun _ _ _ h => h) (Or.inl ⟨by rfl, ?_⟩) (by assumption) ?_; (rotate_left; (intro wS hSw; (try dsimp only at hSw); go_simp; (try with_reducible rfl)); rotate_left); simp only [Act.put, List.setIfInBounds_toArray, List.set_cons_zero, List.set_cons_succ]
  refine lin_take (v := ?_) (by kernel_rfl) (by kernel_rfl) (fun _ _ _ h => h) (Or.inl ⟨by rfl, ?_⟩) (by assumption) ?_; (rotate_left; (intro wS hSw; (try dsimp only at hSw); go_simp; (try with_reducible rfl)); rotate_left); simp only [Act.put, List.setIfInBounds_toArray, List.set_cons_zero, List.set_cons_succ]
  refine lin_take (v := ?_) (by kernel_rfl) (by kernel_rfl) (fun _ _ _ h => h) (Or.inl ⟨by rfl, ?_⟩) (by assumption) ?_; (rotate_left; (intro wS hSw; (try dsimp only at hSw); go_simp; (try with_reducible rfl)); rotate_left); simp only [Act.put, List.setIfInBounds_toArray, List.set_cons_zero, List.set_cons_succ]
  refine lin_rot ?_; simp only [List.cons_append, List.nil_append]
  refine lin_take (v := ?_) (by kernel_rfl) (by kernel_rfl) (fun _ _ _ h => h) (Or.inl ⟨by rfl, ?_⟩) (by assumption) ?_; (rotate_left; (intro wS hSw; (try dsimp only at hSw); go_simp; (try with_reducible rfl)); rotate_left); simp only [Act.put, List.setIfInBounds_toArray, List.set_cons_zero, List.set_cons_succ]
  refine lin_take (v := ?_) (by kernel_rfl) (by kernel_rfl) (fun _ _ _ h => h) (Or.inl ⟨by rfl, ?_⟩) (by assumption) ?_; (rotate_left; (intro wS hSw; (try dsimp only at hSw); go_simp; (try with_reducible rfl)); rotate_left); simp only [Act.put, List.setIfInBounds_toArray, List.set_cons_zero, List.set_cons_succ]
  refine lin_take (v := ?_) (by kernel_rfl) (by kernel_rfl) (fun _ _ _ h => h) (Or.inl ⟨by rfl, ?_⟩) (by assumption) ?_; (rotate_left; (intro wS hSw; (try dsimp only at hSw); go_simp; (try with_reducible rfl)); rotate_left); simp only [Act.put, List.setIfInBounds_toArray, List.set_cons_zero, List.set_cons_succ]
  refine lin_rot ?_; simp only [List.cons_append, List.nil_append]
  refine lin_rot ?_; simp only [List.cons_append, List.nil_append]
  refine lin_rot ?_; simp only [List.cons_append, List.nil_append]
  refine lin_sole (by kernel_rfl) (fun K hK => ?_)
  go_simp
  refine (H0.out _ hO7).mono ?_
  rintro e w8 ⟨rfl, hO8⟩
  refine hK.out _ _ ?_ (fun hHeld => ?_)
  · exact plan_k hO8
  try simp only [Act.put, List.setIfInBounds_toArray, List.set_cons_zero, List.set_cons_succ]
  try clear hO7
  clear hK
  refine lin_sole (by kernel_rfl) (fun K hK => ?_)
  go_simp
  refine (H1.out _ hO8).mono ?_
  rintro e w9 ⟨rfl, hO9⟩
  refine hK.out _ _ ?_ (fun hHeld => ?_)
  · exact plan_k hO9
  try simp only [Act.put, List.setIfInBounds_toArray, List.set_cons_zero, List.set_cons_succ]
  try clear hO8
  clear hK
  refine lin_take (v := ?_) (by kernel_rfl) (by kernel_rfl) (fun _ _ _ h => h) (Or.inl ⟨by rfl, ?_⟩) (by assumption) ?_; (rotate_left; (intro wS hSw; (try dsimp only at hSw); go_simp; (try with_reducible rfl)); rotate_left); simp only [Act.put, List.setIfInBounds_toArray, List.set_cons_zero, List.set_cons_succ]
  refine lin_take (v := ?_) (by kernel_rfl) (by kernel_rfl) (fun _ _ _ h => h) (Or.inl ⟨by rfl, ?_⟩) (by assumption) ?_; (rotate_left; (intro wS hSw; (try dsimp only at hSw); go_simp; (try with_reducible rfl)); rotate_left); simp only [Act.put, List.setIfInBounds_toArray, List.set_cons_zero, List.set_cons_succ]
  refine lin_done (by kernel_rfl) ?_
  go_wp2_with fail
  have hO10 := hO9.drewN 1
  have hS0 := plan_k hO10
  refine lin_start (S := (fun w' => w'.cell? ⟨pb, 0, none⟩ = some (.int .i64 a) ∧ w'.cell? ⟨pb, 1, none⟩ = some (.int .i64 b) ∧ w'.cell? ⟨pb, 2, none⟩ = some (.int .i64 c) ∧ w'.cell? ⟨pb, 3, none⟩ = some (.int .i64 d))) rfl 15 rfl hS0 ?_
  simp only [numbered, Nat.zero_add, Nat.reduceAdd]
  refine lin_take (v := ?_) (by kernel_rfl) (by kernel_rfl) (fun _ _ _ h => h) (Or.inl ⟨by rfl, ?_⟩) (by assumption) ?_; (rotate_left; (intro wS hSw; (try dsimp only at hSw); go_simp; (try with_reducible rfl)); rotate_left); simp only [Act.put, List.setIfInBounds_toArray, List.set_cons_zero, List.set_cons_succ]
  refine lin_take (v := ?_) (by kernel_rfl) (by kernel_rfl) (fun _ _ _ h => h) (Or.inl ⟨by rfl, ?_⟩) (by assumption) ?_; (rotate_left; (intro wS hSw; (try dsimp only at hSw); go_simp; (try with_reducible rfl)); rotate_left); simp only [Act.put, List.setIfInBounds_toArray, List.set_cons_zero, List.set_cons_succ]
  refine lin_rot ?_; simp only [List.cons_append, List.nil_append]
  refine lin_take (v := ?_) (by kernel_rfl) (by kernel_rfl) (fun _ _ _ h => h) (Or.inl ⟨by rfl, ?_⟩) (by assumption) ?_; (rotate_left; (intro wS hSw; (try dsimp only at hSw); go_simp; (try with_reducible rfl)); rotate_left); simp only [Act.put, List.setIfInBounds_toArray, List.set_cons_zero, List.set_cons_succ]
  refine lin_take (v := ?_) (by kernel_rfl) (by kernel_rfl) (fun _ _ _ h => h) (Or.inl ⟨by rfl, ?_⟩) (by assumption) ?_; (rotate_left; (intro wS hSw; (try dsimp only at hSw); go_simp; (try with_reducible rfl)); rotate_left); simp only [Act.put, List.setIfInBounds_toArray, List.set_cons_zero, List.set_cons_succ]
  refine lin_rot ?_; simp only [List.cons_append, List.nil_append]
  refine lin_take (v := ?_) (by kernel_rfl) (by kernel_rfl) (fun _ _ _ h => h) (Or.inl ⟨by rfl, ?_⟩) (by assumption) ?_; (rotate_left; (intro wS hSw; (try dsimp only at hSw); go_simp; (try with_reducible rfl)); rotate_left); simp only [Act.put, List.setIfInBounds_toArray, List.set_cons_zero, List.set_cons_succ]
  refine lin_take (v := ?_) (by kernel_rfl) (by kernel_rfl) (fun _ _ _ h => h) (Or.inl ⟨by rfl, ?_⟩) (by assumption) ?_; (rotate_left; (intro wS hSw; (try dsimp only at hSw); go_simp; (try with_reducible rfl)); rotate_left); simp only [Act.put, List.setIfInBounds_toArray, List.set_cons_zero, List.set_cons_succ]
  refine lin_rot ?_; simp only [List.cons_append, List.nil_append]
  refine lin_take (v := ?_) (by kernel_rfl) (by kernel_rfl) (fun _ _ _ h => h) (Or.inl ⟨by rfl, ?_⟩) (by assumption) ?_; (rotate_left; (intro wS hSw; (try dsimp only at hSw); go_simp; (try with_reducible rfl)); rotate_left); simp only [Act.put, List.setIfInBounds_toArray, List.set_cons_zero, List.set_cons_succ]
  refine lin_take (v := ?_) (by kernel_rfl) (by kernel_rfl) (fun _ _ _ h => h) (Or.inl ⟨by rfl, ?_⟩) (by assumption) ?_; (rotate_left; (intro wS hSw; (try dsimp only at hSw); go_simp; (try with_reducible rfl)); rotate_left); simp only [Act.put, List.setIfInBounds_toArray, List.set_cons_zero, List.set_cons_succ]
  refine lin_take (v := ?_) (by kernel_rfl) (by kernel_rfl) (fun _ _ _ h => h) (Or.inl ⟨by rfl, ?_⟩) (by assumption) ?_; (rotate_left; (intro wS hSw; (try dsimp only at hSw); go_simp; (try with_reducible rfl)); rotate_left); simp only [Act.put, List.setIfInBounds_toArray, List.set_cons_zero, List.set_cons_succ]
  refine lin_rot ?_; simp only [List.cons_append, List.nil_append]
  refine lin_rot ?_; simp only [List.cons_append, List.nil_append]
  refine lin_rot ?_; simp only [List.cons_append, List.nil_append]
  refine lin_sole (by kernel_rfl) (fun K hK => ?_)
  go_simp
  refine (H2.out _ hO10).mono ?_
  rintro e w11 ⟨rfl, hO11⟩
  refine hK.out _ _ ?_ (fun hHeld => ?_)
  · exact plan_k hO11
  try simp only [Act.put, List.setIfInBounds_toArray, List.set_cons_zero, List.set_cons_succ]
  try clear hO10
  clear hK
  refine lin_take (v := ?_) (by kernel_rfl) (by kernel_rfl) (fun _ _ _ h => h) (Or.inl ⟨by rfl, ?_⟩) (by assumption) ?_; (rotate_left; (intro wS hSw; (try dsimp only at hSw); go_simp; (try with_reducible rfl)); rotate_left); simp only [Act.put, List.setIfInBounds_toArray, List.set_cons_zero, List.set_cons_succ]
  refine lin_sole (by kernel_rfl) (fun K hK => ?_)
  go_simp
  refine (H3.out _ hO11).mono ?_
  rintro e w12 ⟨rfl, hO12⟩
  refine hK.out _ _ ?_ (fun hHeld => ?_)
  · exact plan_k hO12
  try simp only [Act.put, List.setIfInBounds_toArray, List.set_cons_zero, List.set_cons_succ]
  try clear hO11
  clear hK
  refine lin_take (v := ?_) (by kernel_rfl) (by kernel_rfl) (fun _ _ _ h => h) (Or.inl ⟨by rfl, ?_⟩) (by assumption) ?_; (rotate_left; (intro wS hSw; (try dsimp only at hSw); go_simp; (try with_reducible rfl)); rotate_left); simp only [Act.put, List.setIfInBounds_toArray, List.set_cons_zero, List.set_cons_succ]
  refine lin_take (v := ?_) (by kernel_rfl) (by kernel_rfl) (fun _ _ _ h => h) (Or.inl ⟨by rfl, ?_⟩) (by assumption) ?_; (rotate_left; (intro wS hSw; (try dsimp only at hSw); go_simp; (try with_reducible rfl)); rotate_left); simp only [Act.put, List.setIfInBounds_toArray, List.set_cons_zero, List.set_cons_succ]
  refine lin_take (v := ?_) (by kernel_rfl) (by kernel_rfl) (fun _ _ _ h => h) (Or.inl ⟨by rfl, ?_⟩) (by assumption) ?_; (rotate_left; (intro wS hSw; (try dsimp only at hSw); go_simp; (try with_reducible rfl)); rotate_left); simp only [Act.put, List.setIfInBounds_toArray, List.set_cons_zero, List.set_cons_succ]
  refine lin_done (by kernel_rfl) ?_
  go_wp2_with fail
  have hO13 := hO12.drewN 1
  have hS0 := plan_k hO13
  refine lin_start (S := (fun w' => w'.cell? ⟨pb, 0, none⟩ = some (.int .i64 a) ∧ w'.cell? ⟨pb, 1, none⟩ = some (.int .i64 b) ∧ w'.cell? ⟨pb, 2, none⟩ = some (.int .i64 c) ∧ w'.cell? ⟨pb, 3, none⟩ = some (.int .i64 d))) rfl 30 rfl hS0 ?_
  simp only [numbered, Nat.zero_add, Nat.reduceAdd]
  refine lin_take (v := ?_) (by kernel_rfl) (by kernel_rfl) (fun _ _ _ h => h) (Or.inl ⟨by rfl, ?_⟩) (by assumption) ?_; (rotate_left; (intro wS hSw; (try dsimp only at hSw); go_simp; (try with_reducible rfl)); rotate_left); simp only [Act.put, List.setIfInBounds_toArray, List.set_cons_zero, List.set_cons_succ]
  refine lin_sole (by kernel_rfl) (fun K hK => ?_)
  go_simp
  refine (CK.out _ hO13).mono ?_
  rintro e w14 ⟨rfl, hO14⟩
  refine hK.out _ _ ?_ (fun hHeld => ?_)
  · exact plan_k hO14
  try simp only [Act.put, List.setIfInBounds_toArray, List.set_cons_zero, List.set_cons_succ]
  try clear hO13
  clear hK
  refine lin_take (v := ?_) (by kernel_rfl) (by kernel_rfl) (fun _ _ _ h => h) (Or.inl ⟨by rfl, ?_⟩) (by assumption) ?_; (rotate_left; (intro wS hSw; (try dsimp only at hSw); go_simp; (try with_reducible rfl)); rotate_left); simp only [Act.put, List.setIfInBounds_toArray, List.set_cons_zero, List.set_cons_succ]
  refine lin_take (v := ?_) (by kernel_rfl) (by kernel_rfl) (fun _ _ _ h => h) (Or.inl ⟨by rfl, ?_⟩) (by assumption) ?_; (rotate_left; (intro wS hSw; (try dsimp only at hSw); go_simp; (try with_reducible rfl)); rotate_left); simp only [Act.put, List.setIfInBounds_toArray, List.set_cons_zero, List.set_cons_succ]
  refine lin_take (v := ?_) (by kernel_rfl) (by kernel_rfl) (fun _ _ _ h => h) (Or.inl ⟨by rfl, ?_⟩) (by assumption) ?_; (rotate_left; (intro wS hSw; (try dsimp only at hSw); go_simp; (try with_reducible rfl)); rotate_left); simp only [Act.put, List.setIfInBounds_toArray, List.set_cons_zero, List.set_cons_succ]
  refine lin_rot ?_; simp only [List.cons_append, List.nil_append]
  refine lin_take (v := ?_) (by kernel_rfl) (by kernel_rfl) (fun _ _ _ h => h) (Or.inl ⟨by rfl, ?_⟩) (by assumption) ?_; (rotate_left; (intro wS hSw; (try dsimp only at hSw); go_simp; (try with_reducible rfl)); rotate_left); simp only [Act.put, List.setIfInBounds_toArray, List.set_cons_zero, List.set_cons_succ]
  refine lin_take (v := ?_) (by kernel_rfl) (by kernel_rfl) (fun _ _ _ h => h) (Or.inl ⟨by rfl, ?_⟩) (by assumption) ?_; (rotate_left; (intro wS hSw; (try dsimp only at hSw); go_simp; (try with_reducible rfl)); rotate_left); simp only [Act.put, List.setIfInBounds_toArray, List.set_cons_zero, List.set_cons_succ]
  refine lin_rot ?_; simp only [List.cons_append, List.nil_append]
  refine lin_rot ?_; simp only [List.cons_append, List.nil_append]
  refine lin_rot ?_; simp only [List.cons_append, List.nil_append]
  refine lin_rot ?_; simp only [List.cons_append, List.nil_append]
  refine lin_rot ?_; simp only [List.cons_append, List.nil_append]
  refine lin_rot ?_; simp only [List.cons_append, List.nil_append]
  refine lin_rot ?_; simp only [List.cons_append, List.nil_append]
  refine lin_rot ?_; simp only [List.cons_append, List.nil_append]
  refine lin_rot ?_; simp only [List.cons_append, List.nil_append]
  refine lin_rot ?_; simp only [List.cons_append, List.nil_append]
  refine lin_rot ?_; simp only [List.cons_append, List.nil_append]
  refine lin_rot ?_; simp only [List.cons_append, List.nil_append]
  refine lin_rot ?_; simp only [List.cons_append, List.nil_append]
  refine lin_rot ?_; simp only [List.cons_append, List.nil_append]
  refine lin_rot ?_; simp only [List.cons_append, List.nil_append]
  refine lin_rot ?_; simp only [List.cons_append, List.nil_append]
  refine lin_rot ?_; simp only [List.cons_append, List.nil_append]
  refine lin_rot ?_; simp only [List.cons_append, List.nil_append]
  refine lin_rot ?_; simp only [List.cons_append, List.nil_append]
  refine lin_rot ?_; simp only [List.cons_append, List.nil_append]
  refine lin_rot ?_; simp only [List.cons_append, List.nil_append]
  refine lin_rot ?_; simp only [List.cons_append, List.nil_append]
  refine lin_sole (by kernel_rfl) (fun K hK => ?_)
  go_simp
  refine (SZ.out _ hO14).mono ?_
  rintro e w15 ⟨rfl, hO15⟩
  refine hK.out _ _ ?_ (fun hHeld => ?_)
  · exact plan_k hO15
  try simp only [Act.put, List.setIfInBounds_toArray, List.set_cons_zero, List.set_cons_succ]
  try clear hO14
  clear hK
  refine lin_take (v := ?_) (by kernel_rfl) (by kernel_rfl) (fun _ _ _ h => h) (Or.inl ⟨by rfl, ?_⟩) (by assumption) ?_; (rotate_left; (intro wS hSw; (try dsimp only at hSw); go_simp; (try with_reducible rfl)); rotate_left); simp only [Act.put, List.setIfInBounds_toArray, List.set_cons_zero, List.set_cons_succ]
  refine lin_take (v := ?_) (by kernel_rfl) (by kernel_rfl) (fun _ _ _ h => h) (Or.inl ⟨by rfl, ?_⟩) (by assumption) ?_; (rotate_left; (intro wS hSw; (try dsimp only at hSw); go_simp; (try with_reducible rfl)); rotate_left); simp only [Act.put, List.setIfInBounds_toArray, List.set_cons_zero, List.set_cons_succ]
  refine lin_take (v := ?_) (by kernel_rfl) (by kernel_rfl) (fun _ _ _ h => h) (Or.inl ⟨by rfl, ?_⟩) (by assumption) ?_; (rotate_left; (intro wS hSw; (try dsimp only at hSw); go_simp; (try with_reducible rfl)); rotate_left); simp only [Act.put, List.setIfInBounds_toArray, List.set_cons_zero, List.set_cons_succ]
  refine lin_take (v := ?_) (by kernel_rfl) (by kernel_rfl) (fun _ _ _ h => h) (Or.inl ⟨by rfl, ?_⟩) (by assumption) ?_; (rotate_left; (intro wS hSw; (try dsimp only at hSw); go_simp; (try with_reducible rfl)); rotate_left); simp only [Act.put, List.setIfInBounds_toArray, List.set_cons_zero, List.set_cons_succ]
  refine lin_rot ?_; simp only [List.cons_append, List.nil_append]
  refine lin_take (v := ?_) (by kernel_rfl) (by kernel_rfl) (fun _ _ _ h => h) (Or.inl ⟨by rfl, ?_⟩) (by assumption) ?_; (rotate_left; (intro wS hSw; (try dsimp only at hSw); go_simp; (try with_reducible rfl)); rotate_left); simp only [Act.put, List.setIfInBounds_toArray, List.set_cons_zero, List.set_cons_succ]
  refine lin_take (v := ?_) (by kernel_rfl) (by kernel_rfl) (fun _ _ _ h => h) (Or.inl ⟨by rfl, ?_⟩) (by assumption) ?_; (rotate_left; (intro wS hSw; (try dsimp only at hSw); go_simp; (try with_reducible rfl)); rotate_left); simp only [Act.put, List.setIfInBounds_toArray, List.set_cons_zero, List.set_cons_succ]
  refine lin_take (v := ?_) (by kernel_rfl) (by kernel_rfl) (fun _ _ _ h => h) (Or.inl ⟨by rfl, ?_⟩) (by assumption) ?_; (rotate_left; (intro wS hSw; (try dsimp only at hSw); go_simp; (try with_reducible rfl)); rotate_left); simp only [Act.put, List.setIfInBounds_toArray, List.set_cons_zero, List.set_cons_succ]
  refine lin_take (v := ?_) (by kernel_rfl) (by kernel_rfl) (fun _ _ _ h => h) (Or.inl ⟨by rfl, ?_⟩) (by assumption) ?_; (rotate_left; (intro wS hSw; (try dsimp only at hSw); go_simp; (try with_reducible rfl)); rotate_left); simp only [Act.put, List.setIfInBounds_toArray, List.set_cons_zero, List.set_cons_succ]
  refine lin_take (v := ?_) (by kernel_rfl) (by kernel_rfl) (fun _ _ _ h => h) (Or.inl ⟨by rfl, ?_⟩) (by assumption) ?_; (rotate_left; (intro wS hSw; (try dsimp only at hSw); go_simp; (try with_reducible rfl)); rotate_left); simp only [Act.put, List.setIfInBounds_toArray, List.set_cons_zero, List.set_cons_succ]
  refine lin_rot ?_; simp only [List.cons_append, List.nil_append]
  refine lin_rot ?_; simp only [List.cons_append, List.nil_append]
  refine lin_rot ?_; simp only [List.cons_append, List.nil_append]
  refine lin_rot ?_; simp only [List.cons_append, List.nil_append]
  refine lin_rot ?_; simp only [List.cons_append, List.nil_append]
  refine lin_rot ?_; simp only [List.cons_append, List.nil_append]
  refine lin_rot ?_; simp only [List.cons_append, List.nil_append]
  refine lin_rot ?_; simp only [List.cons_append, List.nil_append]
  refine lin_rot ?_; simp only [List.cons_append, List.nil_append]
  refine lin_rot ?_; simp only [List.cons_append, List.nil_append]
  refine lin_rot ?_; simp only [List.cons_append, List.nil_append]
  refine lin_rot ?_; simp only [List.cons_append, List.nil_append]
  refine lin_sole (by kernel_rfl) (fun K hK => ?_)
  go_simp
  refine (RM.out _ hO15).mono ?_
  rintro e w16 ⟨rfl, hO16⟩
  refine hK.out _ _ ?_ (fun hHeld => ?_)
  · exact plan_k hO16
  try simp only [Act.put, List.setIfInBounds_toArray, List.set_cons_zero, List.set_cons_succ]
  try clear hO15
  clear hK
  refine lin_take (v := ?_) (by kernel_rfl) (by kernel_rfl) (fun _ _ _ h => h) (Or.inl ⟨by rfl, ?_⟩) (by assumption) ?_; (rotate_left; (intro wS hSw; (try dsimp only at hSw); go_simp; (try with_reducible rfl)); rotate_left); simp only [Act.put, List.setIfInBounds_toArray, List.set_cons_zero, List.set_cons_succ]
  refine lin_take (v := ?_) (by kernel_rfl) (by kernel_rfl) (fun _ _ _ h => h) (Or.inl ⟨by rfl, ?_⟩) (by assumption) ?_; (rotate_left; (intro wS hSw; (try dsimp only at hSw); go_simp; (try with_reducible rfl)); rotate_left); simp only [Act.put, List.setIfInBounds_toArray, List.set_cons_zero, List.set_cons_succ]
  refine lin_take (v := ?_) (by kernel_rfl) (by kernel_rfl) (fun _ _ _ h => h) (Or.inl ⟨by rfl, ?_⟩) (by assumption) ?_; (rotate_left; (intro wS hSw; (try dsimp only at hSw); go_simp; (try with_reducible rfl)); rotate_left); simp only [Act.put, List.setIfInBounds_toArray, List.set_cons_zero, List.set_cons_succ]
  refine lin_take (v := ?_) (by kernel_rfl) (by kernel_rfl) (fun _ _ _ h => h) (Or.inl ⟨by rfl, ?_⟩) (by assumption) ?_; (rotate_left; (intro wS hSw; (try dsimp only at hSw); go_simp; (try with_reducible rfl)); rotate_left); simp only [Act.put, List.setIfInBounds_toArray, List.set_cons_zero, List.set_cons_succ]
  refine lin_take (v := ?_) (by kernel_rfl) (by kernel_rfl) (fun _ _ _ h => h) (Or.inl ⟨by rfl, ?_⟩) (by assumption) ?_; (rotate_left; (intro wS hSw; (try dsimp only at hSw); go_simp; (try with_reducible rfl)); rotate_left); simp only [Act.put, List.setIfInBounds_toArray, List.set_cons_zero, List.set_cons_succ]
  refine lin_rot ?_; simp only [List.cons_append, List.nil_append]
  refine lin_take (v := ?_) (by kernel_rfl) (by kernel_rfl) (fun _ _ _ h => h) (Or.inl ⟨by rfl, ?_⟩) (by assumption) ?_; (rotate_left; (intro wS hSw; (try dsimp only at hSw); go_simp; (try with_reducible rfl)); rotate_left); simp only [Act.put, List.setIfInBounds_toArray, List.set_cons_zero, List.set_cons_succ]
  refine lin_take (v := ?_) (by kernel_rfl) (by kernel_rfl) (fun _ _ _ h => h) (Or.inl ⟨by rfl, ?_⟩) (by assumption) ?_; (rotate_left; (intro wS hSw; (try dsimp only at hSw); go_simp; (try with_reducible rfl)); rotate_left); simp only [Act.put, List.setIfInBounds_toArray, List.set_cons_zero, List.set_cons_succ]
  refine lin_take (v := ?_) (by kernel_rfl) (by kernel_rfl) (fun _ _ _ h => h) (Or.inl ⟨by rfl, ?_⟩) (by assumption) ?_; (rotate_left; (intro wS hSw; (try dsimp only at hSw); go_simp; (try with_reducible rfl)); rotate_left); simp only [Act.put, List.setIfInBounds_toArray, List.set_cons_zero, List.set_cons_succ]
  refine lin_rot ?_; simp only [List.cons_append, List.nil_append]
  refine lin_rot ?_; simp only [List.cons_append, List.nil_append]
  refine lin_rot ?_; simp only [List.cons_append, List.nil_append]
  refine lin_sole (by kernel_rfl) (fun K hK => ?_)
  go_simp
  refine (BS.out _ hO16).mono ?_
  rintro e w17 ⟨rfl, hO17⟩
  refine hK.out _ _ ?_ (fun hHeld => ?_)
  · exact plan_k hO17
  try simp only [Act.put, List.setIfInBounds_toArray, List.set_cons_zero, List.set_cons_succ]
  try clear hO16
  clear hK
  refine lin_sole (by kernel_rfl) (fun K hK => ?_)
  go_simp
  refine (T0.out _ hO17).mono ?_
  rintro e w18 ⟨rfl, hO18⟩
  refine hK.out _ _ ?_ (fun hHeld => ?_)
  · exact plan_k hO18
  try simp only [Act.put, List.setIfInBounds_toArray, List.set_cons_zero, List.set_cons_succ]
  try clear hO17
  clear hK
  refine lin_take (v := ?_) (by kernel_rfl) (by kernel_rfl) (fun _ _ _ h => h) (Or.inl ⟨by rfl, ?_⟩) (by assumption) ?_; (rotate_left; (intro wS hSw; (try dsimp only at hSw); go_simp; (try with_reducible rfl)); rotate_left); simp only [Act.put, List.setIfInBounds_toArray, List.set_cons_zero, List.set_cons_succ]
  refine lin_take (v := ?_) (by kernel_rfl) (by kernel_rfl) (fun _ _ _ h => h) (Or.inl ⟨by rfl, ?_⟩) (by assumption) ?_; (rotate_left; (intro wS hSw; (try dsimp only at hSw); go_simp; (try with_reducible rfl)); rotate_left); simp only [Act.put, List.setIfInBounds_toArray, List.set_cons_zero, List.set_cons_succ]
  refine lin_done (by kernel_rfl) ?_
  obtain ⟨x0, x1, x2, x3⟩ := plan_k hO18
  go_wp2_with fail
  go_at_call 19
  refine (SL.out _ hO18).mono ?_
  rintro e w19 ⟨rfl, hO19⟩
  clear hO18 x0 x1 x2 x3
  obtain ⟨x0, x1, x2, x3⟩ := plan_k hO19
  go_wp2_with fail
  go_at_call 28
  refine (T1.out _ hO19).mono ?_
  rintro e w20 ⟨rfl, hO20⟩
  clear hO19 x0 x1 x2 x3
  obtain ⟨x0, x1, x2, x3⟩ := plan_k hO20
  go_wp2_with fail
  go_at_call 17
  refine (FR.out _ hO20).mono ?_
  rintro e w21 ⟨rfl, hO21⟩
  clear hO20 x0 x1 x2 x3
  obtain ⟨x0, x1, x2, x3⟩ := plan_k hO21
  go_wp2_with fail
  go_at_call 28
  refine (T2.out _ hO21).mono ?_
  rintro e w22 ⟨rfl, hO22⟩
  clear hO21 x0 x1 x2 x3
  obtain ⟨x0, x1, x2, x3⟩ := plan_k hO22
  go_wp2_with fail
  go_at_call 24
  refine (NP.out _ hO22).mono ?_
  rintro e w23 ⟨rfl, hO23⟩
  clear hO22 x0 x1 x2 x3
  obtain ⟨x0, x1, x2, x3⟩ := plan_k hO23
  go_wp2_with fail
  go_at_call 28
  refine (T3.out _ hO23).mono ?_
  rintro e w24 ⟨rfl, hO24⟩
  clear hO23 x0 x1 x2 x3
  obtain ⟨x0, x1, x2, x3⟩ := plan_k hO24
  go_wp2_with fail
  go_at_call 20
  refine (X0.out _ hO24).mono ?_
  rintro e w25 ⟨rfl, hO25⟩
  clear hO24 x0 x1 x2 x3
  obtain ⟨x0, x1, x2, x3⟩ := plan_k hO25
  go_wp2_with fail
  go_at_call 28
  refine (T4.out _ hO25).mono ?_
  rintro e w26 ⟨rfl, hO26⟩
  clear hO25 x0 x1 x2 x3
  obtain ⟨x0, x1, x2, x3⟩ := plan_k hO26
  go_wp2_with fail
  go_at_call 25
  refine (X1.out _ hO26).mono ?_
  rintro e w27 ⟨rfl, hO27⟩
  clear hO26 x0 x1 x2 x3
  obtain ⟨x0, x1, x2, x3⟩ := plan_k hO27
  go_wp2_with fail
  go_at_call 28
  refine (T5.out _ hO27).mono ?_
  rintro e w28 ⟨rfl, hO28⟩
  clear hO27 x0 x1 x2 x3
  obtain ⟨x0, x1, x2, x3⟩ := plan_k hO28
  go_wp2_with fail
  go_at_call 22
  refine (X2.out _ hO28).mono ?_
  rintro e w29 ⟨rfl, hO29⟩
  clear hO28 x0 x1 x2 x3
  obtain ⟨x0, x1, x2, x3⟩ := plan_k hO29
  go_wp2_with fail
  go_at_call 28
  refine (T6.out _ hO29).mono ?_
  rintro e w30 ⟨rfl, hO30⟩
  clear hO29 x0 x1 x2 x3
  obtain ⟨x0, x1, x2, x3⟩ := plan_k hO30
  go_wp2_with fail
  go_at_call 21
  refine (X3.out _ hO30).mono ?_
  rintro e w31 ⟨rfl, hO31⟩
  clear hO30 x0 x1 x2 x3
  obtain ⟨x0, x1, x2, x3⟩ := plan_k hO31
  go_wp2_with fail
  go_at_call 28
  refine (T7.out _ hO31).mono ?_
  rintro e w32 ⟨rfl, hO32⟩
  clear hO31 x0 x1 x2 x3
  go_wp2_with fail
  go_ret
  exact ⟨rfl, hO32.below⟩
theorem walkLayoutTells (v0 v1 v2 v3 v4 : Value) (w : World) (h0 : Arg Try.prog w 24 v0) (h1 : Arg Try.prog w 3 v1) (h2 : Arg Try.prog w 3 v2) (h3 : Arg Try.prog w 3 v3) (h4 : Arg Try.prog w 3 v4) :
    Calls Try.prog 5 #[v0, v1, v2, v3, v4] w fun e w' => e = .returned (.bool true) ∧ Below w.heap.size w w' := by
  obtain ⟨a, b, c, d, rfl, _⟩ := h0.plan
  obtain ⟨worker, rfl, _⟩ := h1.int Try.underlying3
  obtain ⟨n, rfl, _⟩ := h2.int Try.underlying3
  obtain ⟨id, rfl, _⟩ := h3.int Try.underlying3
  obtain ⟨iter, rfl, _⟩ := h4.int Try.underlying3
  by_cases h : okPlan a b c d = true
  · obtain ⟨a1, a2, b1, b2, c1, c2, d1, d2⟩ := ok_bd h
    obtain ⟨a, rfl⟩ : ∃ n : Nat, a = n := ⟨a.toNat, by omega⟩
    obtain ⟨b, rfl⟩ : ∃ n : Nat, b = n := ⟨b.toNat, by omega⟩
    obtain ⟨c, rfl⟩ : ∃ n : Nat, c = n := ⟨c.toNat, by omega⟩
    obtain ⟨d, rfl⟩ : ∃ n : Nat, d = n := ⟨d.toNat, by omega⟩
    obtain ⟨W, hW⟩ : ∃ n : Nat, clamp worker 0 ((a : Int) - 1) = n := ⟨(clamp worker 0 ((a : Int) - 1)).toNat, by unfold clamp; omega⟩
    obtain ⟨F, hF⟩ : ∃ n : Nat, clamp id 1 b = (n : Int) + 1 := ⟨(clamp id 1 b - 1).toNat, by unfold clamp; omega⟩
    obtain ⟨k0, k1⟩ := mod_bd (x := max n 0) (y := (d : Int)) (by omega)
    obtain ⟨i0, i1⟩ := mod_bd (x := max iter 0) (y := (c : Int) + 1) (by omega)
    obtain ⟨K, hK⟩ : ∃ n' : Nat, max n 0 % (d : Int) = n' := ⟨(max n 0 % (d : Int)).toNat, by omega⟩
    obtain ⟨I, hI⟩ : ∃ n' : Nat, max iter 0 % ((c : Int) + 1) = n' := ⟨(max iter 0 % ((c : Int) + 1)).toNat, by omega⟩
    exact tells_ok a b c d W F K I worker n id iter h hW (by unfold clamp at hW; omega) hF (by unfold clamp at hF; omega) hK (by omega) hI (by omega) w
  · exact tells_no a b c d worker n id iter (by simpa using h) w
end Go.Proofs.Ytbadinmlnbabiaa
