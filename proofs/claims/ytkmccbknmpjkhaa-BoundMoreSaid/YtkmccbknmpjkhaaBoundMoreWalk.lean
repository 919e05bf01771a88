/- The walk through the law BoundMore. -/
import Derived.Test.YtkmccbknmpjkhaaBoundNumbersWalk
import Derived.Test.YtkmccbknmpjkhaaRead
import Derived.Deep.Cut
import Derived.Deep.CutRange
set_option linter.unusedVariables false
set_option linter.unusedSimpArgs false
namespace Go.Proofs.Ytkmccbknmpjkhaa
open Go.RowKit
theorem steps_mono {n n' p p' w w' : Int} (hn : n ≤ n') (hp : p ≤ p') (hw : w ≤ w') : stepsOf n p w ≤ stepsOf n' p' w' := by
  unfold stepsOf
  have h1 : 16 * min (max w 1) 1024 ≤ 16 * min (max w' 1) 1024 := by omega
  have h2 : min (max p 1) 64 + 1 ≤ min (max p' 1) 64 + 1 := by omega
  have h3 : 64 * (min (max n 0) 1048576 + 2) + 1 ≤ 64 * (min (max n' 0) 1048576 + 2) + 1 := by omega
  have a0 : 0 ≤ 16 * min (max w' 1) 1024 := by omega
  have b0 : 0 ≤ min (max p 1) 64 + 1 := by omega
  have b1 : 0 ≤ min (max p' 1) 64 + 1 := by omega
  have c0 : 0 ≤ 64 * (min (max n 0) 1048576 + 2) + 1 := by omega
  generalize 16 * min (max w 1) 1024 = a at *
  generalize 16 * min (max w' 1) 1024 = a' at *
  generalize min (max p 1) 64 + 1 = b at *
  generalize min (max p' 1) 64 + 1 = b' at *
  generalize 64 * (min (max n 0) 1048576 + 2) + 1 = c at *
  generalize 64 * (min (max n' 0) 1048576 + 2) + 1 = c' at *
  have e1 : a * b ≤ a' * b' := Int.mul_le_mul h1 h2 b0 a0
  have e2 : a * b * b ≤ a' * b' * b' := Int.mul_le_mul e1 h2 b0 (Int.mul_nonneg a0 b1)
  have e3 : a * b * b * c ≤ a' * b' * b' * c' := Int.mul_le_mul e2 h3 c0 (Int.mul_nonneg (Int.mul_nonneg a0 b1) b1)
  omega
theorem steps_ge {n p w : Int} (n0 : 0 ≤ n) (n1 : n < 1048576) (p0 : 0 ≤ p) (p1 : p < 64) (w0 : 0 ≤ w) (w1 : w < 1024) : n * (w + 1) ≤ stepsOf n (p + 1) (w + 1) ∧ 0 ≤ n * (w + 1) ∧ n * (w + 1) ≤ 1073741824 := by
  have h0 : 0 ≤ n * (w + 1) := Int.mul_nonneg n0 (by omega)
  have h1 : n * (w + 1) ≤ 1048576 * 1024 := Int.mul_le_mul (by omega) (by omega) (by omega) (by omega)
  refine ⟨?_, h0, by omega⟩
  unfold stepsOf
  rw [show min (max (w + 1) 1) 1024 = w + 1 by omega, show min (max (p + 1) 1) 64 = p + 1 by omega, show min (max n 0) 1048576 = n by omega]
  have e1 : (w + 1) * 1 ≤ 16 * (w + 1) * (p + 1 + 1) := Int.mul_le_mul (by omega) (by omega) (by omega) (by omega)
  have e2 : (w + 1) * 1 * 1 ≤ 16 * (w + 1) * (p + 1 + 1) * (p + 1 + 1) := Int.mul_le_mul e1 (by omega) (by omega) (Int.mul_nonneg (by omega) (by omega))
  have e3 : (w + 1) * 1 * 1 * n ≤ 16 * (w + 1) * (p + 1 + 1) * (p + 1 + 1) * (64 * (n + 2) + 1) := Int.mul_le_mul e2 (by omega) (by omega) (Int.mul_nonneg (Int.mul_nonneg (by omega) (by omega)) (by omega))
  rw [Int.mul_one, Int.mul_one, Int.mul_comm] at e3
  omega
theorem three_boxes {w w1 : World} {c0 c1 c2 : Array Value} {t0 t1 t2 : TypeId} (h : Below (((w.alloc (.cells c0 t0)).alloc (.cells c1 t1)).alloc (.cells c2 t2)).heap.size (((w.alloc (.cells c0 t0)).alloc (.cells c1 t1)).alloc (.cells c2 t2)) w1) :
    (∀ i, w1.cell? ⟨w.heap.size, i, none⟩ = c0[i]?) ∧ (∀ i, w1.cell? ⟨w.heap.size + 1, i, none⟩ = c1[i]?) ∧ (∀ i, w1.cell? ⟨w.heap.size + 1 + 1, i, none⟩ = c2[i]?) ∧ Below w.heap.size w w1 ∧ w.heap.size + 3 ≤ w1.heap.size := by
  have hz := h.size
  simp only [World.size_alloc] at hz
  refine ⟨fun i => ?_, fun i => ?_, fun i => ?_, below_chain (by go_grown) h, by omega⟩
  · exact cell_at (below_at h (alloc_at (alloc_at (alloc_new _ _) _) _) (by simp only [World.size_alloc]; omega)) i
  · have e := alloc_new (w.alloc (.cells c0 t0)) (.cells c1 t1)
    rw [World.size_alloc] at e
    exact cell_at (below_at h (alloc_at e _) (by simp only [World.size_alloc]; omega)) i
  · have e := alloc_new ((w.alloc (.cells c0 t0)).alloc (.cells c1 t1)) (.cells c2 t2)
    rw [World.size_alloc, World.size_alloc] at e
    exact cell_at (below_at h e (by simp only [World.size_alloc]; omega)) i
set_option maxHeartbeats 2000000
set_option maxRecDepth 100000
theorem works35_boxes (w : World) (a0 a1 b0 b1 c0 c1 : Int) (t0 t1 t2 : TypeId) : Calls Try.prog 25 #[] (((w.alloc (.cells #[.int .u32 a0, .int .u32 a1] t0)).alloc (.cells #[.int .u8 b0, .int .u8 b1] t1)).alloc (.cells #[.int .u16 c0, .int .u16 c1] t2)) fun e w1 => e = .returned (.bool true) ∧ Below w.heap.size w w1 ∧
    w1.cell? ⟨w.heap.size, 0, none⟩ = some (.int .u32 a0) ∧ w1.cell? ⟨w.heap.size, 1, none⟩ = some (.int .u32 a1) ∧ w1.cell? ⟨w.heap.size + 1, 0, none⟩ = some (.int .u8 b0) ∧ w1.cell? ⟨w.heap.size + 1, 1, none⟩ = some (.int .u8 b1) ∧ w1.cell? ⟨w.heap.size + 1 + 1, 0, none⟩ = some (.int .u16 c0) ∧ w1.cell? ⟨w.heap.size + 1 + 1, 1, none⟩ = some (.int .u16 c1) ∧
    w.heap.size < w1.heap.size ∧ w.heap.size + 1 < w1.heap.size ∧ w.heap.size + 1 + 1 < w1.heap.size := by
  refine (works35_any _).mono ?_
  rintro e w1 ⟨rfl, hbw⟩
  obtain ⟨y0, y1, y2, hbb, hz⟩ := three_boxes hbw
  exact ⟨rfl, hbb, y0 0, y0 1, y1 0, y1 1, y2 0, y2 1, by omega, by omega, by omega⟩
theorem three_more {w1 : World} (A B C : Obj) (b i : Nat) (h : b < w1.heap.size) : (((w1.alloc A).alloc B).alloc C).cell? ⟨b, i, none⟩ = w1.cell? ⟨b, i, none⟩ := by
  rw [cell_alloc_lt _ (by simp only [World.size_alloc]; omega), cell_alloc_lt _ (by simp only [World.size_alloc]; omega), cell_alloc_lt _ h]
theorem apart_sizes {a b : Nat} (h0 : a < b) (h1 : a + 1 < b) (h2 : a + 1 + 1 < b) : (¬ a = b ∧ ¬ a = b + 1 ∧ ¬ a = b + 1 + 1 ∧ ¬ a + 1 = b ∧ ¬ a + 1 + 1 = b) ∧ ¬ b = a ∧ ¬ b + 1 = a ∧ ¬ b + 1 + 1 = a ∧ ¬ b = a + 1 ∧ ¬ b = a + 1 + 1 := by omega
theorem two_ints {P : Program} {w : World} {t e : TypeId} {v : Value} {k : IntKind} (h : Reads P w t v.cells.toList) (ht : P.underlying t = some (.array 2 e)) (he : P.underlying e = some (.int k)) (hc : P.cellsOf t = 2) (hc' : P.cellsOf e = 1) :
    ∃ a b, v = .agg #[.int k a, .int k b] ∧ (Lit.int k a).wf = true ∧ (Lit.int k b).wf = true := by
  obtain ⟨hl, hi⟩ := h.array ht
  obtain ⟨cs, rfl, hs⟩ := agg_of (hl.trans hc) (by decide)
  have g0 := hi 0 (by decide)
  have g1 := hi 1 (by decide)
  rw [hc'] at g0 g1
  obtain ⟨a, e0, wa⟩ := g0.int he
  obtain ⟨b, e1, wb⟩ := g1.int he
  refine ⟨a, b, ?_, wa, wb⟩
  obtain ⟨l⟩ := cs
  match l, hs with
  | [x, y], _ =>
    simp [Value.cells] at e0 e1
    rw [e0, e1]
theorem below_drewN {B : Nat} {w0 w : World} (h : Below B w0 w) : ∀ n, Below B w0 (w.drewN n)
  | 0 => h
  | n + 1 => (below_drewN h n).drew
theorem quiet_same2 {P : Program} {f : FuncId} {args : Array Value} {w : World} {k n : Nat} {v : Value} (h : Calls P f args (w.drewN (k + n)) fun e w' => e = .returned v ∧ w.drewN (k + n) = w') : Calls P f args (w.drewN (k + n)) fun e w'' => e = .returned v ∧ ∃ m, w'' = (w.drewN k).drewN m :=
  h.mono fun _ _ ⟨he, hm⟩ => ⟨he, n, by rw [← hm, World.drewN_drewN]⟩
theorem quiet_same3 {P : Program} {f : FuncId} {args : Array Value} {w : World} {k n : Nat} {v : Value} (h : Calls P f args (w.drewN (k + n)) fun e w' => e = .returned v ∧ w.drewN (k + n) = w') : Calls P f args (w.drewN (k + n)) fun e w'' => e = .returned v ∧ ∃ m, w'' = w.drewN (k + m) :=
  h.mono fun _ _ ⟨he, hm⟩ => ⟨he, n, hm.symm⟩
theorem more_core (a0 a1 b0 b1 c0 c1 N0 N1 Q0 Q1 R0 R1 : Int) (w : World) (ha0 : 0 ≤ a0) (ha1 : 0 ≤ a1) (hb0 : 0 ≤ b0) (hb1 : 0 ≤ b1) (hc0 : 0 ≤ c0) (hc1 : 0 ≤ c1)
    (ha0' : a0 ≤ 4294967295) (ha1' : a1 ≤ 4294967295) (hb0' : b0 ≤ 255) (hb1' : b1 ≤ 255) (hc0' : c0 ≤ 65535) (hc1' : c1 ≤ 65535)
    (hN0 : a0 % 1048576 = N0) (hN1 : a1 % 1048576 = N1) (hQ0 : b0 % 64 = Q0) (hQ1 : b1 % 64 = Q1) (hR0 : c0 % 1024 = R0) (hR1 : c1 % 1024 = R1) :
    Calls Try.prog 8 #[.agg #[.int .u32 a0, .int .u32 a1], .agg #[.int .u8 b0, .int .u8 b1], .agg #[.int .u16 c0, .int .u16 c1]] w fun e w' => e = .returned (.bool true) ∧ Below w.heap.size w w' := by
  obtain ⟨g1, g2, g3⟩ := steps_ge (n := N0) (p := Q0) (w := R0) (by omega) (by omega) (by omega) (by omega) (by omega) (by omega)
  obtain ⟨k1, k2, k3⟩ := steps_ge (n := N1) (p := Q1) (w := R1) (by omega) (by omega) (by omega) (by omega) (by omega) (by omega)
  have g4 : N0 * (R0 + 1) ≤ 1099511627776 := by omega
  have k4 : N1 * (R1 + 1) ≤ 1099511627776 := by omega
  have g5 := Int.not_lt.2 g1
  have k5 := Int.not_lt.2 k1
  have n0 : 0 ≤ N0 ∧ N0 < 1048576 := by omega
  have n1 : 0 ≤ N1 ∧ N1 < 1048576 := by omega
  have q0 : 0 ≤ Q0 ∧ Q0 < 64 := by omega
  have q1 : 0 ≤ Q1 ∧ Q1 < 64 := by omega
  have r0 : 0 ≤ R0 ∧ R0 < 1024 := by omega
  have r1 : 0 ≤ R1 ∧ R1 < 1024 := by omega
  go_enter Try.func8, Try.ntmps8
  go_wp2_with (first | (go_at_call 25; refine (works35_boxes w a0 a1 b0 b1 c0 c1 _ _ _).mono ?_; rintro e w1 ⟨rfl, hbb, x0, x1, x2, x3, x4, x5, z0, z1, z2⟩))
  have X0 := fun A B C => (three_more A B C _ _ z0).trans x0
  have X1 := fun A B C => (three_more A B C _ _ z0).trans x1
  have X2 := fun A B C => (three_more A B C _ _ z1).trans x2
  have X3 := fun A B C => (three_more A B C _ _ z1).trans x3
  have X4 := fun A B C => (three_more A B C _ _ z2).trans x4
  have X5 := fun A B C => (three_more A B C _ _ z2).trans x5
  obtain ⟨⟨d0, d1, d2, d3, d4⟩, e0, e1, e2, e3, e4⟩ := apart_sizes z0 z1 z2
  refine wp_loop_rounds 3 ?_
  rw [rounds_succ]
  go_wp2
  rw [rounds_succ]
  go_wp2
  rw [rounds_succ]
  go_upto_region 10 with fail
  go_cut [11] from 17 to 59 (fun s wx => ∃ L : Int, s = .int .i64 L ∧ L ≤ stepsOf N0 (Q0 + 1) (R0 + 1) ∧ L ≤ stepsOf N1 (Q1 + 1) (R1 + 1) ∧ ((w1.alloc (.cells #[.int .i64 N0, .int .i64 N1] 54)).alloc (.cells #[.int .i64 (Q0 + 1), .int .i64 (Q1 + 1)] 54)).alloc (.cells #[.int .i64 (R0 + 1), .int .i64 (R1 + 1)] 54) = wx)
  case first =>
    go_wp2_with (first | (go_at_call 28; refine (steps_any _ _ _ _).mono ?_; rintro e w5 ⟨rfl, rfl⟩))
    all_goals (go_meet; exact ⟨_, rfl, steps_mono (by omega) (by omega) (by omega), steps_mono (by omega) (by omega) (by omega), rfl⟩)
  case rest =>
    obtain ⟨L, rfl, l0, l1, rfl⟩ := hcut
    go_upto_region 11 with fail
    go_cut [12] from 17 to 75 (fun s wx => ∃ M : Int, s = .int .i64 M ∧ stepsOf N0 (Q0 + 1) (R0 + 1) ≤ M ∧ stepsOf N1 (Q1 + 1) (R1 + 1) ≤ M ∧ ((w1.alloc (.cells #[.int .i64 N0, .int .i64 N1] 54)).alloc (.cells #[.int .i64 (Q0 + 1), .int .i64 (Q1 + 1)] 54)).alloc (.cells #[.int .i64 (R0 + 1), .int .i64 (R1 + 1)] 54) = wx)
    case first =>
      go_wp2_with (first | (go_at_call 28; refine (steps_any _ _ _ _).mono ?_; rintro e w5 ⟨rfl, rfl⟩))
      all_goals (go_meet; exact ⟨_, rfl, steps_mono (by omega) (by omega) (by omega), steps_mono (by omega) (by omega) (by omega), rfl⟩)
    case rest =>
      obtain ⟨M, rfl, m0, m1, rfl⟩ := hcut
      have L0 : decide (stepsOf N0 (Q0 + 1) (R0 + 1) < L) = false := decide_eq_false (by omega)
      have L1 : decide (stepsOf N1 (Q1 + 1) (R1 + 1) < L) = false := decide_eq_false (by omega)
      have M0 : decide (M < stepsOf N0 (Q0 + 1) (R0 + 1)) = false := decide_eq_false (by omega)
      have M1 : decide (M < stepsOf N1 (Q1 + 1) (R1 + 1)) = false := decide_eq_false (by omega)
      have P0 : decide (stepsOf N0 (Q0 + 1) (R0 + 1) < N0 * (R0 + 1)) = false := decide_eq_false (by omega)
      have P1 : decide (stepsOf N1 (Q1 + 1) (R1 + 1) < N1 * (R1 + 1)) = false := decide_eq_false (by omega)
      have w0 : IntKind.i64.wrap (N0 * (R0 + 1)) = N0 * (R0 + 1) := IntWalk.i64_in _ (by omega)
      have w2 : IntKind.i64.wrap (N1 * (R1 + 1)) = N1 * (R1 + 1) := IntWalk.i64_in _ (by omega)
      go_wp2_with (fail)
      refine wp_loop_rounds 3 ?_
      repeat any_goals (rw [rounds_succ]; go_wp2_with (first | (go_quiet ((go_at_call 28; first | exact quiet_same (steps_any _ _ _ _) | exact quiet_same2 (steps_any _ _ _ _) | exact quiet_same3 (steps_any _ _ _ _))))))
      go_ret
      exact ⟨rfl, below_drewN (by go_grown) _⟩
theorem walkBoundMore (v0 v1 v2 : Value) (w : World) (h0 : Arg Try.prog w 50 v0) (h1 : Arg Try.prog w 51 v1) (h2 : Arg Try.prog w 53 v2) :
    Calls Try.prog 8 #[v0, v1, v2] w fun e w' => e = .returned (.bool true) ∧ Below w.heap.size w w' := by
  obtain ⟨a0, a1, rfl, ha0, ha1⟩ := two_ints h0.reads Try.underlying50 Try.underlying36 (by kernel_rfl) (by kernel_rfl)
  obtain ⟨b0, b1, rfl, hb0, hb1⟩ := two_ints h1.reads Try.underlying51 Try.underlying5 (by kernel_rfl) (by kernel_rfl)
  obtain ⟨c0, c1, rfl, hc0, hc1⟩ := two_ints h2.reads Try.underlying53 Try.underlying52 (by kernel_rfl) (by kernel_rfl)
  simp [Lit.wf, IntKind.min, IntKind.max, IntKind.signed, IntKind.bits] at ha0 ha1 hb0 hb1 hc0 hc1
  exact more_core a0 a1 b0 b1 c0 c1 _ _ _ _ _ _ w (by omega) (by omega) (by omega) (by omega) (by omega) (by omega) (by omega) (by omega) (by omega) (by omega) (by omega) (by omega) rfl rfl rfl rfl rfl rfl
end Go.Proofs.Ytkmccbknmpjkhaa
