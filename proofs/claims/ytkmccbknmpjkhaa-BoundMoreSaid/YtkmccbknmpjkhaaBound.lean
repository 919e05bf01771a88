/- Package bound and its reference: what each function computes. -/
import Derived.Test.YtkmccbknmpjkhaaRow
set_option linter.unusedVariables false
set_option linter.unusedSimpArgs false
namespace Go.Proofs.Ytkmccbknmpjkhaa
open Go.RowKit
set_option maxHeartbeats 400000
set_option maxRecDepth 100000

theorem bheld_any (n a b : Int) (w : World) : Calls Try.prog 45 #[.int .i64 n, .int .i64 a, .int .i64 b] w fun e w' => e = .returned (.int .i64 (min (max n a) b)) ∧ w = w' := by
  go_enter Try.func45, Try.ntmps45
  go_wp2
  all_goals go_ret
  all_goals exact ⟨ret_int (by omega), rfl⟩
theorem rheld_any (n a b : Int) (w : World) (h : a ≤ b) : Calls Try.prog 46 #[.int .i64 n, .int .i64 a, .int .i64 b] w fun e w' => e = .returned (.int .i64 (min (max n a) b)) ∧ w = w' := by
  go_enter Try.func46, Try.ntmps46
  go_wp2
  all_goals go_ret
  all_goals exact ⟨ret_int (by omega), rfl⟩
/-- A number, or the nearer end. -/
def clamp (n a b : Int) : Int := min (max n a) b
theorem between_any (n a b : Int) (w : World) : Calls Try.prog 50 #[.int .i64 n, .int .i64 a, .int .i64 b] w fun e w' => e = .returned (.int .i64 (clamp n a b)) ∧ w = w' := by
  go_enter Try.func50, Try.ntmps50
  go_wp2
  all_goals go_ret
  all_goals exact ⟨ret_int (by unfold clamp; omega), rfl⟩

/-- How many steps are enough. -/
def stepsOf (n p w : Int) : Int := min (16 * min (max w 1) 1024 * (min (max p 1) 64 + 1) * (min (max p 1) 64 + 1) * (64 * (min (max n 0) 1048576 + 2) + 1)) 1099511627776
theorem steps_bd (n p w : Int) (n0 : 0 ≤ n) (n1 : n ≤ 1048576) (p0 : 1 ≤ p) (p1 : p ≤ 64) (w0 : 1 ≤ w) (w1 : w ≤ 1024) :
    0 ≤ 16 * w * (p + 1) ∧ 16 * w * (p + 1) ≤ 1064960 ∧ 0 ≤ 16 * w * (p + 1) * (p + 1) ∧ 16 * w * (p + 1) * (p + 1) ≤ 69222400 ∧ 0 ≤ 16 * w * (p + 1) * (p + 1) * (64 * (n + 2) + 1) ∧ 16 * w * (p + 1) * (p + 1) * (64 * (n + 2) + 1) ≤ 4645445557043200 := by
  have a1 : 0 ≤ 16 * w * (p + 1) := Int.mul_nonneg (by omega) (by omega)
  have a2 : 16 * w * (p + 1) ≤ 16384 * 65 := Int.mul_le_mul (by omega) (by omega) (by omega) (by omega)
  have a3 : 0 ≤ 16 * w * (p + 1) * (p + 1) := Int.mul_nonneg a1 (by omega)
  have a4 : 16 * w * (p + 1) * (p + 1) ≤ 1064960 * 65 := Int.mul_le_mul (by omega) (by omega) (by omega) (by omega)
  have a5 : 0 ≤ 16 * w * (p + 1) * (p + 1) * (64 * (n + 2) + 1) := Int.mul_nonneg a3 (by omega)
  have a6 : 16 * w * (p + 1) * (p + 1) * (64 * (n + 2) + 1) ≤ 69222400 * 67108993 := Int.mul_le_mul (by omega) (by omega) (by omega) (by omega)
  omega

theorem steps_core (n p w N P W : Int) (hn : min (max n 0) 1048576 = N) (hp : min (max p 1) 64 = P) (hw : min (max w 1) 1024 = W) (wd : World) :
    Calls Try.prog 28 #[.int .i64 n, .int .i64 p, .int .i64 w] wd fun e w' => e = .returned (.int .i64 (min (16 * W * (P + 1) * (P + 1) * (64 * (N + 2) + 1)) 1099511627776)) ∧ wd = w' := by
  have h1 := fun wd => bheld_any n 0 1048576 wd
  have h2 := fun wd => bheld_any p 1 64 wd
  have h3 := fun wd => bheld_any w 1 1024 wd
  rw [hn] at h1; rw [hp] at h2; rw [hw] at h3
  have H1 := Lib.hid h1
  have H2 := Lib.hid h2
  have H3 := Lib.hid h3
  obtain ⟨b1, b2, b3, b4, b5, b6⟩ := steps_bd N P W (by omega) (by omega) (by omega) (by omega) (by omega) (by omega)
  have n0 : 0 ≤ N := by omega
  have n1 : N ≤ 1048576 := by omega
  have p0 : 1 ≤ P := by omega
  have p1 : P ≤ 64 := by omega
  have w0 : 1 ≤ W := by omega
  have w1 : W ≤ 1024 := by omega
  clear h1 h2 h3 hn hp hw
  go_enter Try.func28, Try.ntmps28
  go_wp2_with (first | (go_at_call 45; (with_reducible refine (H1.out _).mono ?_); rintro e w' ⟨rfl, rfl⟩) | (go_at_call 45; (with_reducible refine (H2.out _).mono ?_); rintro e w' ⟨rfl, rfl⟩) | (go_at_call 45; (with_reducible refine (H3.out _).mono ?_); rintro e w' ⟨rfl, rfl⟩))
  all_goals go_ret
  all_goals exact ⟨ret_int (by omega), rfl⟩
theorem steps_any (n p w : Int) (wd : World) : Calls Try.prog 28 #[.int .i64 n, .int .i64 p, .int .i64 w] wd fun e w' => e = .returned (.int .i64 (stepsOf n p w)) ∧ wd = w' :=
  steps_core n p w _ _ _ rfl rfl rfl wd

theorem rsteps_bd (n p w : Int) (n0 : 0 ≤ n) (n1 : n ≤ 1048576) (p0 : 1 ≤ p) (p1 : p ≤ 64) (w0 : 1 ≤ w) (w1 : w ≤ 1024) :
    0 ≤ (1 + 64 * (n + 2)) * (p + 1) ∧ (1 + 64 * (n + 2)) * (p + 1) ≤ 4362084545 ∧ 0 ≤ (1 + 64 * (n + 2)) * (p + 1) * (p + 1) ∧ (1 + 64 * (n + 2)) * (p + 1) * (p + 1) ≤ 283535495425 ∧
      0 ≤ (1 + 64 * (n + 2)) * (p + 1) * (p + 1) * w ∧ (1 + 64 * (n + 2)) * (p + 1) * (p + 1) * w ≤ 290340347315200 ∧ (1 + 64 * (n + 2)) * (p + 1) * (p + 1) * w * 16 = 16 * w * (p + 1) * (p + 1) * (64 * (n + 2) + 1) := by
  have a1 : 0 ≤ (1 + 64 * (n + 2)) * (p + 1) := Int.mul_nonneg (by omega) (by omega)
  have a2 : (1 + 64 * (n + 2)) * (p + 1) ≤ 67108993 * 65 := Int.mul_le_mul (by omega) (by omega) (by omega) (by omega)
  have a3 : 0 ≤ (1 + 64 * (n + 2)) * (p + 1) * (p + 1) := Int.mul_nonneg a1 (by omega)
  have a4 : (1 + 64 * (n + 2)) * (p + 1) * (p + 1) ≤ 4362084545 * 65 := Int.mul_le_mul (by omega) (by omega) (by omega) (by omega)
  have a5 : 0 ≤ (1 + 64 * (n + 2)) * (p + 1) * (p + 1) * w := Int.mul_nonneg a3 (by omega)
  have a6 : (1 + 64 * (n + 2)) * (p + 1) * (p + 1) * w ≤ 283535495425 * 1024 := Int.mul_le_mul (by omega) (by omega) (by omega) (by omega)
  refine ⟨by omega, by omega, by omega, by omega, by omega, by omega, ?_⟩
  rw [show (1 : Int) + 64 * (n + 2) = 64 * (n + 2) + 1 by omega]
  generalize 64 * (n + 2) + 1 = A
  generalize p + 1 = B
  ac_rfl
theorem rsteps_core (n p w N P W : Int) (hn : min (max n 0) 1048576 = N) (hp : min (max p 1) 64 = P) (hw : min (max w 1) 1024 = W) (wd : World) :
    Calls Try.prog 29 #[.int .i64 n, .int .i64 p, .int .i64 w] wd fun e w' => e = .returned (.int .i64 (min (16 * W * (P + 1) * (P + 1) * (64 * (N + 2) + 1)) 1099511627776)) ∧ wd = w' := by
  have h1 := fun wd => rheld_any n 0 1048576 wd (by omega)
  have h2 := fun wd => rheld_any p 1 64 wd (by omega)
  have h3 := fun wd => rheld_any w 1 1024 wd (by omega)
  rw [hn] at h1; rw [hp] at h2; rw [hw] at h3
  have H1 := Lib.hid h1
  have H2 := Lib.hid h2
  have H3 := Lib.hid h3
  have n0 : 0 ≤ N := by omega
  have n1 : N ≤ 1048576 := by omega
  have p0 : 1 ≤ P := by omega
  have p1 : P ≤ 64 := by omega
  have w0 : 1 ≤ W := by omega
  have w1 : W ≤ 1024 := by omega
  obtain ⟨b1, b2, b3, b4, b5, b6⟩ := steps_bd N P W n0 n1 p0 p1 w0 w1
  obtain ⟨c1, c2, c3, c4, c5, c6, c7⟩ := rsteps_bd N P W n0 n1 p0 p1 w0 w1
  have h4 := fun wd => rheld_any ((1 + 64 * (N + 2)) * (P + 1) * (P + 1) * W * 16) 0 1099511627776 wd (by omega)
  rw [Int.max_eq_left (by omega : 0 ≤ (1 + 64 * (N + 2)) * (P + 1) * (P + 1) * W * 16)] at h4
  have h5 : ∀ wd, Calls Try.prog 46 #[.int .i64 ((1 + 64 * (N + 2)) * (P + 1) * (P + 1) * W * 16), .int .i64 0, .int .i64 1099511627776] wd fun e w' => e = .returned (.int .i64 (min (16 * W * (P + 1) * (P + 1) * (64 * (N + 2) + 1)) 1099511627776)) ∧ wd = w' := by
    intro wd; rw [← c7]; exact h4 wd
  have H4 := Lib.hid h5
  clear h1 h2 h3 h4 h5 hn hp hw c7
  go_enter Try.func29, Try.ntmps29
  go_wp2_with (first | (go_at_call 46; (with_reducible refine (H1.out _).mono ?_); rintro e w' ⟨rfl, rfl⟩) | (go_at_call 46; (with_reducible refine (H2.out _).mono ?_); rintro e w' ⟨rfl, rfl⟩) | (go_at_call 46; (with_reducible refine (H3.out _).mono ?_); rintro e w' ⟨rfl, rfl⟩) | (go_at_call 46; (with_reducible refine (H4.out _).mono ?_); rintro e w' ⟨rfl, rfl⟩))
  go_ret
  exact ⟨rfl, rfl⟩
theorem rsteps_any (n p w : Int) (wd : World) : Calls Try.prog 29 #[.int .i64 n, .int .i64 p, .int .i64 w] wd fun e w' => e = .returned (.int .i64 (stepsOf n p w)) ∧ wd = w' :=
  rsteps_core n p w _ _ _ rfl rfl rfl wd

theorem frames_any (f : Int) (o : Value) (w : World) : Calls Try.prog 26 #[.agg #[.int .i64 0, .int .i64 0, o, .slice none 0 0, .int .i64 0, .int .i64 f, .int .i64 0]] w fun e w' => e = .returned (.int .i64 (max f 1)) ∧ w.alloc (.cells #[.int .i64 0, .int .i64 0, o, .slice none 0 0, .int .i64 0, .int .i64 f, .int .i64 0] 39) = w' := by
  go_enter Try.func26, Try.ntmps26
  go_wp2
  all_goals go_ret
  all_goals exact ⟨ret_int (by omega), rfl⟩
/-- May a plan be? -/
def okPlan (a b c d : Int) : Bool := decide (1 ≤ a ∧ a ≤ 64 ∧ 1 ≤ b ∧ b ≤ 256 ∧ 1 ≤ c ∧ c ≤ 64 ∧ 2 ≤ d ∧ d ≤ 256)
def checkOf (a b c d : Int) : Int := if okPlan a b c d = true then 0 else 3
theorem check_core (a b c d A B C D : Int) (w : World) (hA : clamp a 1 64 = A) (hB : clamp b 1 256 = B) (hC : clamp c 1 64 = C) (hD : clamp d 2 256 = D) :
    Calls Try.prog 47 #[.agg #[.int .i64 a, .int .i64 b, .int .i64 c, .int .i64 d]] w fun e w' => e = .returned (.int .i64 (checkOf a b c d)) ∧ Below w.heap.size w w' := by
  have h1 := fun w => between_any a 1 64 w
  have h2 := fun w => between_any b 1 256 w
  have h3 := fun w => between_any c 1 64 w
  have h4 := fun w => between_any d 2 256 w
  rw [hA] at h1; rw [hB] at h2; rw [hC] at h3; rw [hD] at h4
  have H1 := Lib.hid h1
  have H2 := Lib.hid h2
  have H3 := Lib.hid h3
  have H4 := Lib.hid h4
  obtain ⟨R, hR⟩ : ∃ R, checkOf a b c d = R := ⟨_, rfl⟩
  rw [hR]
  have hres : Hid ((a = A ∧ b = B ∧ c = C ∧ d = D → R = 0) ∧ (¬ (a = A ∧ b = B ∧ c = C ∧ d = D) → R = 3)) := by
    refine Lib.hid ?_
    rw [← hR]
    unfold clamp at *
    constructor
    · intro h; unfold checkOf; rw [if_pos]; unfold okPlan; simp; omega
    · intro h; unfold checkOf; rw [if_neg]; unfold okPlan; simp; omega
  clear h1 h2 h3 h4 hA hB hC hD hR
  go_enter Try.func47, Try.ntmps47
  go_wp2_with fail
  go_region_held3 (fun w' => w'.cell? ⟨w.heap.size, 0, none⟩ = some (.int .i64 a) ∧ w'.cell? ⟨w.heap.size, 1, none⟩ = some (.int .i64 b) ∧ w'.cell? ⟨w.heap.size, 2, none⟩ = some (.int .i64 c) ∧ w'.cell? ⟨w.heap.size, 3, none⟩ = some (.int .i64 d)) (go_keep)
    (first | (go_at_call 50; (with_reducible refine (H1.out _).mono ?_); rintro e w' ⟨rfl, rfl⟩) | (go_at_call 50; (with_reducible refine (H2.out _).mono ?_); rintro e w' ⟨rfl, rfl⟩) | (go_at_call 50; (with_reducible refine (H3.out _).mono ?_); rintro e w' ⟨rfl, rfl⟩) | (go_at_call 50; (with_reducible refine (H4.out _).mono ?_); rintro e w' ⟨rfl, rfl⟩))
  all_goals (rename_i hS; clear hS)
  all_goals go_wp2
  all_goals go_ret
  all_goals have q := hres.out
  all_goals exact ⟨ret_int (by omega), by go_grown⟩
theorem check_any (a b c d : Int) (w : World) : Calls Try.prog 47 #[.agg #[.int .i64 a, .int .i64 b, .int .i64 c, .int .i64 d]] w fun e w' => e = .returned (.int .i64 (checkOf a b c d)) ∧ Below w.heap.size w w' :=
  check_core a b c d _ _ _ _ w rfl rfl rfl rfl
theorem right_any (a b c d : Int) (w : World) : Calls Try.prog 31 #[.agg #[.int .i64 a, .int .i64 b, .int .i64 c, .int .i64 d]] w fun e w' => e = .returned (.bool (okPlan a b c d)) ∧ Below w.heap.size w w' := by
  go_enter Try.func31, Try.ntmps31
  go_wp2
  all_goals go_ret
  all_goals exact ⟨ret_bool (by unfold okPlan; rw [Bool.eq_iff_iff]; simp; omega), by go_grown⟩
theorem deque_any (f : Int) (o : Value) (w : World) (h : f ≤ 1099511627776) : Calls Try.prog 27 #[.agg #[.int .i64 0, .int .i64 0, o, .slice none 0 0, .int .i64 0, .int .i64 f, .int .i64 0]] w fun e w' => e = .returned (.int .i64 (max f 1 + 2)) ∧ (w.alloc (.cells #[.int .i64 0, .int .i64 0, o, .slice none 0 0, .int .i64 0, .int .i64 f, .int .i64 0] 39)).alloc (.cells #[.int .i64 0, .int .i64 0, o, .slice none 0 0, .int .i64 0, .int .i64 f, .int .i64 0] 39) = w' := by
  obtain ⟨F, hF⟩ : ∃ F, max f 1 = F := ⟨_, rfl⟩
  have h1 := fun w => frames_any f o w
  rw [hF] at h1 ⊢
  have H1 := Lib.hid h1
  have hb : 1 ≤ F ∧ F ≤ 1099511627776 := by omega
  clear h1 hF
  go_enter Try.func27, Try.ntmps27
  go_wp2_with (go_at_call 26; refine (H1.out _).mono ?_; rintro e w' ⟨rfl, rfl⟩)
  go_ret
  exact ⟨rfl, rfl⟩
end Go.Proofs.Ytkmccbknmpjkhaa
