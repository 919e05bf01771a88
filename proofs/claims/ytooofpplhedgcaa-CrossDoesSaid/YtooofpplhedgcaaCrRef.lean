/- CrossDoes: the document's side: forebayref17.Word, Do, forebayref19.do. -/
import Derived.Test.YtooofpplhedgcaaCrSpec
set_option linter.unusedVariables false
set_option linter.unusedSimpArgs false
namespace Go.Proofs.Ytooofpplhedgcaa
open Go.RowKit
set_option maxRecDepth 100000
set_option maxHeartbeats 4000000
theorem Try.infoIntC : (Try.prog.info? 3).map (fun i => (i.zero, i.size, i.bytes)) = some (some (.int .i64 0), 1, 8) := by kernel_rfl
def mRow (v : Value) (ms : List Int) : Ast := rowA 3 1 v ms.length (ms.map (.int .i64))
theorem one_cellsC (xs : List Int) : ∀ u ∈ xs.map (Value.int .i64), u.oneCell' = true := by
  intro u hu
  obtain ⟨x, _, rfl⟩ := List.mem_map.1 hu
  rfl
/-- Which word a step asks. -/
def kindK (kd : Int) (k : Nat) : Prop := (kd = 0 ∧ k = 0) ∨ (kd = 1 ∧ k = 0) ∨ (kd = 2 ∧ k = 1) ∨ (kd = 3 ∧ k = 1) ∨ (kd = 4 ∧ k = 1) ∨ (kd = 5 ∧ k = 2) ∨ (kd = 6 ∧ k = 2)
theorem below_alloc' (w : World) (o : Obj) : Below w.heap.size w (w.alloc o) := by go_grown
theorem rcword (kd it n : Int) (k : Nat) (hk : kindK kd k) (hit : -1099511627800 ≤ it ∧ it ≤ 1099511627800) (w : World) :
    Calls Try.prog 40 #[.agg #[.int .i64 1, .int .i64 3, .int .i64 3, .int .i64 3], .int .i64 2, .agg #[.int .i64 kd, .int .i64 it, .int .i64 n]] w fun e w' => e = .returned (.int .i64 (ixC it k : Int)) ∧ Below w.heap.size w w' := by
  obtain ⟨r, hr⟩ : ∃ r : Nat, (max it 0 % 4).toNat = r := ⟨_, rfl⟩
  have hr4 : r < 4 := by omega
  have e1 : IntKind.i64.wrap (4 * (r : Int)) = 4 * (r : Int) := IntWalk.i64_in _ (by omega)
  have e2 : IntKind.i64.wrap (27 + 4 * (r : Int)) = 27 + 4 * (r : Int) := IntWalk.i64_in _ (by omega)
  have e3 : IntKind.i64.wrap (27 + 4 * (r : Int) + 1) = 28 + 4 * (r : Int) := (IntWalk.i64_in _ (by omega)).trans (by omega)
  have e4 : IntKind.i64.wrap (27 + 4 * (r : Int) + 2) = 29 + 4 * (r : Int) := (IntWalk.i64_in _ (by omega)).trans (by omega)
  have m2 : max (2 : Int) 1 = 2 := by decide
  have m3 : min (2 : Int) 3 = 2 := by decide
  by_cases hp : 0 < it
  · have d1 : decide (0 < it) = true := decide_eq_true hp
    have t1 : it.tmod 4 = (r : Int) := by rw [Int.tmod_eq_emod_of_nonneg (by omega)]; omega
    have hx0 : (ixC it 0 : Int) = 27 + 4 * (r : Int) := by unfold ixC; omega
    have hx1 : (ixC it 1 : Int) = 28 + 4 * (r : Int) := by unfold ixC; omega
    have hx2 : (ixC it 2 : Int) = 29 + 4 * (r : Int) := by unfold ixC; omega
    clear hr
    rcases hk with ⟨rfl, rfl⟩ | ⟨rfl, rfl⟩ | ⟨rfl, rfl⟩ | ⟨rfl, rfl⟩ | ⟨rfl, rfl⟩ | ⟨rfl, rfl⟩ | ⟨rfl, rfl⟩
    all_goals
      first | rw [hx0] | rw [hx1] | rw [hx2]
      clear hx0 hx1 hx2
      go_enter Try.func40, Try.ntmps40
      go_wp2_with fail
      go_ret
      exact ⟨rfl, by go_grown⟩
  · have d1 : decide (0 < it) = false := decide_eq_false hp
    obtain rfl : r = 0 := by omega
    have hx0 : (ixC it 0 : Int) = 27 := by unfold ixC; omega
    have hx1 : (ixC it 1 : Int) = 28 := by unfold ixC; omega
    have hx2 : (ixC it 2 : Int) = 29 := by unfold ixC; omega
    clear hr
    rcases hk with ⟨rfl, rfl⟩ | ⟨rfl, rfl⟩ | ⟨rfl, rfl⟩ | ⟨rfl, rfl⟩ | ⟨rfl, rfl⟩ | ⟨rfl, rfl⟩ | ⟨rfl, rfl⟩
    all_goals
      first | rw [hx0] | rw [hx1] | rw [hx2]
      clear hx0 hx1 hx2
      go_enter Try.func40, Try.ntmps40
      go_wp2_with fail
      go_ret
      exact ⟨rfl, by go_grown⟩
/-- What a step answers, and leaves. -/
def dof (kd x tk n : Int) : Int × Int := if kd = 0 ∨ kd = 2 ∨ kd = 5 then (x, x) else if kd = 1 ∨ kd = 6 then (0, n) else if kd = 3 then (0, tk) else if x = tk then (1, 0) else (0, x)
set_option maxHeartbeats 400000
theorem rcDo0 (it n se x : Int) (w : World) : Calls Try.prog 41 #[.int .i64 x, .int .i64 se, .agg #[.int .i64 0, .int .i64 it, .int .i64 n]] w fun e w' => e = .returned (.tuple #[.int .i64 x, .int .i64 (x)]) ∧ Below w.heap.size w w' := by
  have O0 := fun s w => rof_any se it s w
  generalize tokV se it = T0 at *
  replace O0 := Lib.hid O0
  go_enter Try.func41, Try.ntmps41
  go_wp2_with (first | (go_at_call 22; refine (O0.out _ _).mono ?_; rintro e w1 ⟨rfl, rfl⟩))
  go_ret2
  exact ⟨rfl, by go_grown⟩
theorem rcDo1 (it n se x : Int) (w : World) : Calls Try.prog 41 #[.int .i64 x, .int .i64 se, .agg #[.int .i64 1, .int .i64 it, .int .i64 n]] w fun e w' => e = .returned (.tuple #[.int .i64 0, .int .i64 (n)]) ∧ Below w.heap.size w w' := by
  have O0 := fun s w => rof_any se it s w
  generalize tokV se it = T0 at *
  replace O0 := Lib.hid O0
  go_enter Try.func41, Try.ntmps41
  go_wp2_with (first | (go_at_call 22; refine (O0.out _ _).mono ?_; rintro e w1 ⟨rfl, rfl⟩))
  have hb := below_alloc' w (.cells #[.int .i64 1, .int .i64 it, .int .i64 n] 79)
  go_quiet (fail)
  go_wp2_with fail
  go_ret2
  exact ⟨rfl, below_drewN hb nq⟩
theorem rcDo2 (it n se x : Int) (w : World) : Calls Try.prog 41 #[.int .i64 x, .int .i64 se, .agg #[.int .i64 2, .int .i64 it, .int .i64 n]] w fun e w' => e = .returned (.tuple #[.int .i64 x, .int .i64 (x)]) ∧ Below w.heap.size w w' := by
  have O0 := fun s w => rof_any se it s w
  generalize tokV se it = T0 at *
  replace O0 := Lib.hid O0
  go_enter Try.func41, Try.ntmps41
  go_wp2_with (first | (go_at_call 22; refine (O0.out _ _).mono ?_; rintro e w1 ⟨rfl, rfl⟩))
  go_ret2
  exact ⟨rfl, by go_grown⟩
theorem rcDo3 (it n se x : Int) (w : World) : Calls Try.prog 41 #[.int .i64 x, .int .i64 se, .agg #[.int .i64 3, .int .i64 it, .int .i64 n]] w fun e w' => e = .returned (.tuple #[.int .i64 0, .int .i64 (tokV se it n)]) ∧ Below w.heap.size w w' := by
  have O0 := fun s w => rof_any se it s w
  generalize tokV se it = T0 at *
  replace O0 := Lib.hid O0
  go_enter Try.func41, Try.ntmps41
  go_wp2_with (first | (go_at_call 22; refine (O0.out _ _).mono ?_; rintro e w1 ⟨rfl, rfl⟩))
  go_ret2
  exact ⟨rfl, by go_grown⟩
theorem rcDo5 (it n se x : Int) (w : World) : Calls Try.prog 41 #[.int .i64 x, .int .i64 se, .agg #[.int .i64 5, .int .i64 it, .int .i64 n]] w fun e w' => e = .returned (.tuple #[.int .i64 x, .int .i64 (x)]) ∧ Below w.heap.size w w' := by
  have O0 := fun s w => rof_any se it s w
  generalize tokV se it = T0 at *
  replace O0 := Lib.hid O0
  go_enter Try.func41, Try.ntmps41
  go_wp2_with (first | (go_at_call 22; refine (O0.out _ _).mono ?_; rintro e w1 ⟨rfl, rfl⟩))
  go_ret2
  exact ⟨rfl, by go_grown⟩
theorem rcDo6 (it n se x : Int) (w : World) : Calls Try.prog 41 #[.int .i64 x, .int .i64 se, .agg #[.int .i64 6, .int .i64 it, .int .i64 n]] w fun e w' => e = .returned (.tuple #[.int .i64 0, .int .i64 (n)]) ∧ Below w.heap.size w w' := by
  have O0 := fun s w => rof_any se it s w
  generalize tokV se it = T0 at *
  replace O0 := Lib.hid O0
  go_enter Try.func41, Try.ntmps41
  go_wp2_with (first | (go_at_call 22; refine (O0.out _ _).mono ?_; rintro e w1 ⟨rfl, rfl⟩))
  have hb := below_alloc' w (.cells #[.int .i64 6, .int .i64 it, .int .i64 n] 79)
  go_quiet (fail)
  go_wp2_with fail
  go_ret2
  exact ⟨rfl, below_drewN hb nq⟩
theorem rcDo4y (it n se x : Int) (hx : x = tokV se it n) (w : World) : Calls Try.prog 41 #[.int .i64 x, .int .i64 se, .agg #[.int .i64 4, .int .i64 it, .int .i64 n]] w fun e w' => e = .returned (.tuple #[.int .i64 1, .int .i64 0]) ∧ Below w.heap.size w w' := by
  have O0 := fun s w => rof_any se it s w
  generalize tokV se it = T0 at *
  subst hx
  replace O0 := Lib.hid O0
  go_enter Try.func41, Try.ntmps41
  go_wp2_with (first | (go_at_call 22; refine (O0.out _ _).mono ?_; rintro e w1 ⟨rfl, rfl⟩))
  go_ret2
  exact ⟨rfl, by go_grown⟩
theorem rcDo4n (it n se x : Int) (hx : ¬ x = tokV se it n) (w : World) : Calls Try.prog 41 #[.int .i64 x, .int .i64 se, .agg #[.int .i64 4, .int .i64 it, .int .i64 n]] w fun e w' => e = .returned (.tuple #[.int .i64 0, .int .i64 x]) ∧ Below w.heap.size w w' := by
  have O0 := fun s w => rof_any se it s w
  generalize tokV se it = T0 at *
  have c' : (x == T0 n) = false := by simpa using hx
  clear hx
  replace O0 := Lib.hid O0
  go_enter Try.func41, Try.ntmps41
  go_wp2_with (first | (go_at_call 22; refine (O0.out _ _).mono ?_; rintro e w1 ⟨rfl, rfl⟩))
  go_ret2
  exact ⟨rfl, by go_grown⟩
theorem rcDo (kd it n se x : Int) (k : Nat) (hk : kindK kd k) (w : World) :
    Calls Try.prog 41 #[.int .i64 x, .int .i64 se, .agg #[.int .i64 kd, .int .i64 it, .int .i64 n]] w fun e w' => e = .returned (.tuple #[.int .i64 (dof kd x (tokV se it n) n).1, .int .i64 (dof kd x (tokV se it n) n).2]) ∧ Below w.heap.size w w' := by
  rcases hk with ⟨rfl, rfl⟩ | ⟨rfl, rfl⟩ | ⟨rfl, rfl⟩ | ⟨rfl, rfl⟩ | ⟨rfl, rfl⟩ | ⟨rfl, rfl⟩ | ⟨rfl, rfl⟩
  · exact rcDo0 it n se x w
  · exact rcDo1 it n se x w
  · exact rcDo2 it n se x w
  · exact rcDo3 it n se x w
  · by_cases c : x = tokV se it n
    · rw [show dof 4 x (tokV se it n) n = (1, 0) by unfold dof; rw [if_neg (by decide), if_neg (by decide), if_neg (by decide), if_pos c]]
      exact rcDo4y it n se x c w
    · rw [show dof 4 x (tokV se it n) n = (0, x) by unfold dof; rw [if_neg (by decide), if_neg (by decide), if_neg (by decide), if_neg c]]
      exact rcDo4n it n se x c w
  · exact rcDo5 it n se x w
  · exact rcDo6 it n se x w
end Go.Proofs.Ytooofpplhedgcaa
