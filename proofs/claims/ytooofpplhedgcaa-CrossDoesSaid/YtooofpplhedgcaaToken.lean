/- Package token and the document's numbers: forebayref15. -/
import Derived.Test.YtooofpplhedgcaaKit
import Derived.Lib.MinMax
import Derived.Laws.BitsLemmas
set_option linter.unusedVariables false
set_option linter.unusedSimpArgs false
namespace Go.Proofs.Ytooofpplhedgcaa
open Go.RowKit
def hT (n : Int) : Int := min (max n 0) 1048575
def wT (t : Int) : Int := min (max t 0) 1152921504606846975
def tokV (l i s : Int) : Int := (hT l * 1048576 + hT i) * 1048576 + hT s
theorem hT_bd (n : Int) : 0 ≤ hT n ∧ hT n ≤ 1048575 := by unfold hT; omega
theorem wT_bd (n : Int) : 0 ≤ wT n ∧ wT n ≤ 1152921504606846975 := by unfold wT; omega
set_option maxRecDepth 100000
set_option maxHeartbeats 4000000
theorem or20 (x y : Int) (hx0 : 0 ≤ x) (hx1 : x < 4398046511104) (hy0 : 0 ≤ y) (hy1 : y ≤ 1048575) : bits .or .i64 (x * 1048576) y = x * 1048576 + y :=
  bits_join .i64 62 (by decide) (fun n a b => IntWalk.i64_in _ (by omega)) 20 _ _ (by omega) (by omega) (by omega) (by omega) (by omega) (by omega)
theorem and20 (x : Int) (hx0 : 0 ≤ x) (hx1 : x < 4611686018427387904) : bits .and .i64 x 1048575 = x % 1048576 := by
  have := bits_mask .i64 62 (by decide) (fun n a b => IntWalk.i64_in _ (by omega)) 20 (by omega) x hx0 (by omega)
  simpa using this
theorem held_any (n : Int) (w : World) : Calls Try.prog 87 #[.int .i64 n] w fun e w' => e = .returned (.int .i64 (hT n)) ∧ w = w' := by
  go_enter Try.func87, Try.ntmps87
  go_wp2
  go_ret
  exact ⟨rfl, rfl⟩
theorem whole_any (n : Int) (w : World) : Calls Try.prog 82 #[.int .i64 n] w fun e w' => e = .returned (.int .i64 (wT n)) ∧ w = w' := by
  go_enter Try.func82, Try.ntmps82
  go_wp2
  go_ret
  exact ⟨rfl, rfl⟩
theorem of_any (l i s : Int) (w : World) : Calls Try.prog 79 #[.int .i64 l, .int .i64 i, .int .i64 s] w fun e w' => e = .returned (.int .i64 (tokV l i s)) ∧ w = w' := by
  have h1 := hT_bd l
  have h2 := hT_bd i
  have h3 := hT_bd s
  have H1 := Lib.hid (fun w => held_any l w)
  have H2 := Lib.hid (fun w => held_any i w)
  have H3 := Lib.hid (fun w => held_any s w)
  have hv : tokV l i s = (hT l * 1048576 + hT i) * 1048576 + hT s := rfl
  generalize tokV l i s = V at *
  generalize hT l = A at *
  generalize hT i = B at *
  generalize hT s = C at *
  replace hv := Lib.hid hv
  have e1 := or20 A B (by omega) (by omega) (by omega) (by omega)
  have e2 : wrap64 ((A * 1048576 + B) * 1048576) = (A * 1048576 + B) * 1048576 := IntWalk.wrap64_in _ (by omega)
  have e3 := or20 (A * 1048576 + B) C (by omega) (by omega) (by omega) (by omega)
  go_enter Try.func79, Try.ntmps79
  go_wp2_with fail
  go_at_call 87
  refine (H1.out _).mono ?_
  rintro e w1 ⟨rfl, rfl⟩
  go_wp2_with fail
  go_at_call 87
  refine (H2.out _).mono ?_
  rintro e w1 ⟨rfl, rfl⟩
  go_wp2_with fail
  go_at_call 87
  refine (H3.out _).mono ?_
  rintro e w1 ⟨rfl, rfl⟩
  go_wp2
  go_ret
  rw [hv.out]
  exact ⟨rfl, rfl⟩
theorem stage_any (t : Int) (w : World) : Calls Try.prog 63 #[.int .i64 t] w fun e w' => e = .returned (.int .i64 (wT t % 1048576)) ∧ w = w' := by
  have h1 := wT_bd t
  have H1 := Lib.hid (fun w => whole_any t w)
  have e1 := and20 (wT t) (by omega) (by omega)
  generalize wT t = T at *
  go_enter Try.func63, Try.ntmps63
  go_wp2_with (first | (go_at_call 82; refine (H1.out _).mono ?_; rintro e w1 ⟨rfl, rfl⟩))
  go_ret
  exact ⟨rfl, rfl⟩
theorem iter_any (t : Int) (w : World) : Calls Try.prog 84 #[.int .i64 t] w fun e w' => e = .returned (.int .i64 (wT t / 1048576 % 1048576)) ∧ w = w' := by
  have h1 := wT_bd t
  have H1 := Lib.hid (fun w => whole_any t w)
  generalize wT t = T at *
  have e1 := and20 (T / 1048576) (by omega) (by omega)
  go_enter Try.func84, Try.ntmps84
  go_wp2_with (first | (go_at_call 82; refine (H1.out _).mono ?_; rintro e w1 ⟨rfl, rfl⟩))
  go_ret
  exact ⟨rfl, rfl⟩
def isTok (t : Int) : Bool := decide (1099511627776 ≤ t) && decide (t ≤ 1152921504606846975)
theorem is_any (t : Int) (w : World) : Calls Try.prog 83 #[.int .i64 t] w fun e w' => e = .returned (.bool (isTok t)) ∧ w = w' := by
  by_cases h1 : 1099511627776 ≤ t
  · by_cases h2 : t ≤ 1152921504606846975
    · rw [show isTok t = true by unfold isTok; simp [h1, h2]]
      go_enter Try.func83, Try.ntmps83
      go_wp2
      go_ret
      exact ⟨rfl, rfl⟩
    · rw [show isTok t = false by unfold isTok; simp [h1]; omega]
      go_enter Try.func83, Try.ntmps83
      go_wp2
      go_ret
      exact ⟨rfl, rfl⟩
  · rw [show isTok t = false by unfold isTok; simp; omega]
    go_enter Try.func83, Try.ntmps83
    go_wp2
    go_ret
    exact ⟨rfl, rfl⟩
/-- May who waits with t go on? -/
def nextT (t c : Int) : Bool := isTok t && decide (wT t % 1048576 < c)
theorem nextT_any (t c : Int) (w : World) : Calls Try.prog 64 #[.int .i64 t, .int .i64 c] w fun e w' => e = .returned (.tuple #[.int .i64 (if nextT t c = true then wT t / 1048576 % 1048576 else 0), .bool (nextT t c)]) ∧ w = w' := by
  have h1 := wT_bd t
  have H1 := Lib.hid (fun w => is_any t w)
  have H2 := Lib.hid (fun w => stage_any t w)
  have H3 := Lib.hid (fun w => iter_any t w)
  have hn : nextT t c = (isTok t && decide (wT t % 1048576 < c)) := rfl
  generalize nextT t c = B at *
  generalize wT t / 1048576 % 1048576 = I at *
  generalize wT t % 1048576 = S at *
  cases hi : isTok t with
  | false =>
    rw [hi] at H1 hn
    simp at hn
    subst hn
    clear hi H2 H3
    go_enter Try.func64, Try.ntmps64
    go_wp2_with (first | (go_at_call 83; refine (H1.out _).mono ?_; rintro e w1 ⟨rfl, rfl⟩))
    go_ret2
    exact ⟨rfl, rfl⟩
  | true =>
    rw [hi] at H1 hn
    clear hi
    by_cases hc : S < c
    · simp [hc] at hn
      subst hn
      go_enter Try.func64, Try.ntmps64
      go_wp2_with (first | (go_at_call 83; refine (H1.out _).mono ?_; rintro e w1 ⟨rfl, rfl⟩) | (go_at_call 63; refine (H2.out _).mono ?_; rintro e w1 ⟨rfl, rfl⟩) | (go_at_call 84; refine (H3.out _).mono ?_; rintro e w1 ⟨rfl, rfl⟩))
      go_ret2
      exact ⟨rfl, rfl⟩
    · simp [hc] at hn
      subst hn
      go_enter Try.func64, Try.ntmps64
      go_wp2_with (first | (go_at_call 83; refine (H1.out _).mono ?_; rintro e w1 ⟨rfl, rfl⟩) | (go_at_call 63; refine (H2.out _).mono ?_; rintro e w1 ⟨rfl, rfl⟩))
      go_ret2
      exact ⟨rfl, rfl⟩
theorem rheld_any (n m : Int) (hm : 0 ≤ m) (w : World) : Calls Try.prog 62 #[.int .i64 n, .int .i64 m] w fun e w' => e = .returned (.int .i64 (min (max n 0) m)) ∧ w = w' := by
  by_cases h1 : n < 0
  · rw [show min (max n 0) m = 0 by omega]
    go_enter Try.func62, Try.ntmps62
    go_wp2
    go_ret
    exact ⟨rfl, rfl⟩
  · by_cases h2 : m < n
    · rw [show min (max n 0) m = m by omega]
      go_enter Try.func62, Try.ntmps62
      go_wp2
      go_ret
      exact ⟨rfl, rfl⟩
    · rw [show min (max n 0) m = n by omega]
      go_enter Try.func62, Try.ntmps62
      go_wp2
      go_ret
      exact ⟨rfl, rfl⟩
theorem rof_any (l i s : Int) (w : World) : Calls Try.prog 22 #[.int .i64 l, .int .i64 i, .int .i64 s] w fun e w' => e = .returned (.int .i64 (tokV l i s)) ∧ w = w' := by
  have h1 := hT_bd l
  have h2 := hT_bd i
  have h3 := hT_bd s
  have H1 := Lib.hid (fun w => show Calls Try.prog 62 #[.int .i64 l, .int .i64 1048575] w fun e w' => e = .returned (.int .i64 (hT l)) ∧ w = w' from rheld_any l 1048575 (by omega) w)
  have H2 := Lib.hid (fun w => show Calls Try.prog 62 #[.int .i64 i, .int .i64 1048575] w fun e w' => e = .returned (.int .i64 (hT i)) ∧ w = w' from rheld_any i 1048575 (by omega) w)
  have H3 := Lib.hid (fun w => show Calls Try.prog 62 #[.int .i64 s, .int .i64 1048575] w fun e w' => e = .returned (.int .i64 (hT s)) ∧ w = w' from rheld_any s 1048575 (by omega) w)
  have hv : tokV l i s = (hT l * 1048576 + hT i) * 1048576 + hT s := rfl
  generalize tokV l i s = V at *
  generalize hT l = A at *
  generalize hT i = B at *
  generalize hT s = C at *
  replace hv := Lib.hid hv
  go_enter Try.func22, Try.ntmps22
  go_wp2_with fail
  go_at_call 62
  refine (H1.out _).mono ?_
  rintro e w1 ⟨rfl, rfl⟩
  go_wp2_with fail
  go_at_call 62
  refine (H2.out _).mono ?_
  rintro e w1 ⟨rfl, rfl⟩
  go_wp2_with fail
  go_at_call 62
  refine (H3.out _).mono ?_
  rintro e w1 ⟨rfl, rfl⟩
  go_wp2
  go_ret
  rw [hv.out]
  exact ⟨rfl, rfl⟩
theorem parts_any (t : Int) (w : World) : Calls Try.prog 21 #[.int .i64 t] w fun e w' => e = .returned (.agg #[.int .i64 (wT t / 1048576 / 1048576), .int .i64 (wT t / 1048576 % 1048576), .int .i64 (wT t % 1048576)]) ∧ Below w.heap.size w w' := by
  have h1 := wT_bd t
  have H1 := Lib.hid (fun w => show Calls Try.prog 62 #[.int .i64 t, .int .i64 1152921504606846975] w fun e w' => e = .returned (.int .i64 (wT t)) ∧ w = w' from rheld_any t 1152921504606846975 (by omega) w)
  generalize wT t = T at *
  go_enter Try.func21, Try.ntmps21
  go_wp2_with (first | (go_at_call 62; refine (H1.out _).mono ?_; rintro e w1 ⟨rfl, rfl⟩))
  exact bodyPost_ret (v := .agg #[.int .i64 (T / 1048576 / 1048576), .int .i64 (T / 1048576 % 1048576), .int .i64 (T % 1048576)]) (by simp [results, Try.results21, go_sem]) rfl ⟨rfl, by go_grown⟩
end Go.Proofs.Ytooofpplhedgcaa
