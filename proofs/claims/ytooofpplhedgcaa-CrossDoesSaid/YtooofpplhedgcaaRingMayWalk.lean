/- The walk through the law RingMay. -/
import Derived.Test.YtooofpplhedgcaaWorks17
set_option linter.unusedVariables false
set_option linter.unusedSimpArgs false
namespace Go.Proofs.Ytooofpplhedgcaa
open Go.RowKit
set_option maxRecDepth 100000
set_option maxHeartbeats 8000000
theorem r_may (a b c d id se t iter counter : Int) (w : World) (m : Bool) (hm : (nextT t counter && (t == tokV se iter (wT t % 1048576))) = m) (v : Int) (hv : (if m = true then wT t % 1048576 else 0) = v) :
    Calls Try.prog 23 #[.agg #[.int .i64 a, .int .i64 b, .int .i64 c, .int .i64 d, .int .i64 id, .int .i64 se], .int .i64 t, .int .i64 iter, .int .i64 counter] w fun e w' => e = .returned (.tuple #[.int .i64 v, .bool m]) ∧ Below w.heap.size w w' := by
  have ST := Lib.hid (fun w => stage_any t w)
  have NX := fun w => nextT_any t counter w
  have OF := Lib.hid (fun w => rof a b c d id se iter (wT t % 1048576) w)
  generalize tokV se iter (wT t % 1048576) = T at *
  generalize wT t % 1048576 = S at *
  cases hn : nextT t counter with
  | false =>
    rw [hn] at hm NX
    simp at hm
    subst hm
    simp at hv
    subst hv
    replace NX := Lib.hid NX
    clear hn
    go_enter Try.func23, Try.ntmps23
    go_wp2_with (first | (go_at_call 63; refine (ST.out _).mono ?_; rintro e w1 ⟨rfl, rfl⟩) | (go_at_call 64; refine (NX.out _).mono ?_; rintro e w1 ⟨rfl, rfl⟩))
    go_ret2
    exact ⟨rfl, by go_grown⟩
  | true =>
    rw [hn] at hm NX
    replace NX := Lib.hid NX
    clear hn
    cases ht : (t == T) with
    | true =>
      rw [ht] at hm
      simp at hm
      subst hm
      simp at hv
      subst hv
      obtain rfl : t = T := by simpa using ht
      clear ht
      have hc : Below w.heap.size w (w.alloc (.cells #[.int .i64 a, .int .i64 b, .int .i64 c, .int .i64 d, .int .i64 id, .int .i64 se] 32)) := by go_grown
      go_enter Try.func23, Try.ntmps23
      go_wp2_with (first | (go_at_call 63; refine (ST.out _).mono ?_; rintro e w1 ⟨rfl, rfl⟩) | (go_at_call 64; refine (NX.out _).mono ?_; rintro e w1 ⟨rfl, rfl⟩) | (go_at_call 57; refine (OF.out _).mono ?_; rintro e w1 ⟨rfl, hb1⟩))
      go_ret2
      exact ⟨rfl, below_chain hc hb1⟩
    | false =>
      rw [ht] at hm
      simp at hm
      subst hm
      simp at hv
      subst hv
      have hc : Below w.heap.size w (w.alloc (.cells #[.int .i64 a, .int .i64 b, .int .i64 c, .int .i64 d, .int .i64 id, .int .i64 se] 32)) := by go_grown
      go_enter Try.func23, Try.ntmps23
      go_wp2_with (first | (go_at_call 63; refine (ST.out _).mono ?_; rintro e w1 ⟨rfl, rfl⟩) | (go_at_call 64; refine (NX.out _).mono ?_; rintro e w1 ⟨rfl, rfl⟩) | (go_at_call 57; refine (OF.out _).mono ?_; rintro e w1 ⟨rfl, hb1⟩))
      go_ret2
      exact ⟨rfl, below_chain hc hb1⟩
theorem rmay_core (se t iter counter : Int) (w : World) : Calls Try.prog 4 #[.int .i64 se, .int .i64 t, .int .i64 iter, .int .i64 counter] w fun e w' => e = .returned (.bool true) ∧ Below w.heap.size w w' := by
  have PT := fun (w1 : World) (h : Own w w1 []) => Own.lift (parts_any t w1) h _ rfl
  have OF := fun (w1 : World) => rof_any se iter (wT t % 1048576) w1
  have RN := Lib.hid (fun (w1 : World) (l : List Ast) (h : Own w w1 l) => Own.lift (rnew_any 2 4 3 4 1 se w1) h _ rfl)
  have PL := Lib.hid (fun (w1 : World) (l : List Ast) (h : Own w w1 l) => Own.lift (plan17_any w1) h _ rfl)
  obtain ⟨m, hm⟩ : ∃ m, (nextT t counter && (t == tokV se iter (wT t % 1048576))) = m := ⟨_, rfl⟩
  obtain ⟨v, hv⟩ : ∃ v, (if m = true then wT t % 1048576 else 0) = v := ⟨_, rfl⟩
  have MY := Lib.hid (fun (w1 : World) (l : List Ast) (h : Own w w1 l) => Own.lift (r_may 2 4 3 4 1 se t iter counter w1 m hm v hv) h _ rfl)
  unfold nextT isTok at hm
  generalize tokV se iter (wT t % 1048576) = T at *
  generalize wT t / 1048576 / 1048576 = P0 at *
  generalize wT t / 1048576 % 1048576 = P1 at *
  generalize wT t % 1048576 = S at *
  replace PT := Lib.hid PT
  replace OF := Lib.hid OF
  by_cases c1 : 1099511627776 ≤ t
  · by_cases c2 : t ≤ 1152921504606846975
    · by_cases c3 : t = T
      · subst c3
        by_cases c4 : S < counter
        · have hm' : m = true := by rw [← hm]; simp [c1, c2, c4]
          clear hm
          subst hm'
          obtain rfl : S = v := by simpa using hv
          clear hv
          go_enter Try.func4, Try.ntmps4
          go_wp2_with (go_at_call 9; refine (works17_any _).mono ?_; rintro e w1 ⟨rfl, hb1⟩)
          go_at_call 21
          refine (PT.out _ (Own.nil hb1)).mono ?_
          rintro e w2 ⟨rfl, h2⟩
          have h3 := h2.box #[.int .i64 P0, .int .i64 P1, .int .i64 S] 39
          go_wp2_with (first | (go_at_call 22; refine (OF.out _).mono ?_; rintro e w3 ⟨rfl, rfl⟩) | (go_at_call 10; refine (PL.out _ _ h3).mono ?_; rintro e w4 ⟨rfl, h4⟩) | (go_at_call 13; refine (RN.out _ _ h4).mono ?_; rintro e w5 ⟨rfl, h5⟩) | (go_at_call 23; refine (MY.out _ _ h5).mono ?_; rintro e w6 ⟨rfl, h6⟩; have y2 := (h6.cget 0 rfl 2).1; simp at y2))
          go_ret
          exact ⟨rfl, h6.below⟩
        · have hm' : m = false := by rw [← hm]; simp [c1, c2, c4]
          clear hm
          subst hm'
          obtain rfl : v = 0 := by simpa using hv.symm
          clear hv
          have c4' : decide (S < counter) = false := by simp; omega
          go_enter Try.func4, Try.ntmps4
          go_wp2_with (go_at_call 9; refine (works17_any _).mono ?_; rintro e w1 ⟨rfl, hb1⟩)
          go_at_call 21
          refine (PT.out _ (Own.nil hb1)).mono ?_
          rintro e w2 ⟨rfl, h2⟩
          have h3 := h2.box #[.int .i64 P0, .int .i64 P1, .int .i64 S] 39
          go_wp2_with (first | (go_at_call 22; refine (OF.out _).mono ?_; rintro e w3 ⟨rfl, rfl⟩) | (go_at_call 10; refine (PL.out _ _ h3).mono ?_; rintro e w4 ⟨rfl, h4⟩) | (go_at_call 13; refine (RN.out _ _ h4).mono ?_; rintro e w5 ⟨rfl, h5⟩) | (go_at_call 23; refine (MY.out _ _ h5).mono ?_; rintro e w6 ⟨rfl, h6⟩; have y2 := (h6.cget 0 rfl 2).1; simp at y2))
          go_ret
          exact ⟨rfl, h6.below⟩
      · have hm' : m = false := by rw [← hm]; simp [c1, c2, c3]
        clear hm
        subst hm'
        obtain rfl : v = 0 := by simpa using hv.symm
        clear hv
        have c3' : (t == T) = false := by simp [c3]
        go_enter Try.func4, Try.ntmps4
        go_wp2_with (go_at_call 9; refine (works17_any _).mono ?_; rintro e w1 ⟨rfl, hb1⟩)
        go_at_call 21
        refine (PT.out _ (Own.nil hb1)).mono ?_
        rintro e w2 ⟨rfl, h2⟩
        have h3 := h2.box #[.int .i64 P0, .int .i64 P1, .int .i64 S] 39
        go_wp2_with (first | (go_at_call 22; refine (OF.out _).mono ?_; rintro e w3 ⟨rfl, rfl⟩) | (go_at_call 10; refine (PL.out _ _ h3).mono ?_; rintro e w4 ⟨rfl, h4⟩) | (go_at_call 13; refine (RN.out _ _ h4).mono ?_; rintro e w5 ⟨rfl, h5⟩) | (go_at_call 23; refine (MY.out _ _ h5).mono ?_; rintro e w6 ⟨rfl, h6⟩; have y2 := (h6.cget 0 rfl 2).1; simp at y2))
        go_ret
        exact ⟨rfl, h6.below⟩
    · have hm' : m = false := by rw [← hm]; simp [c1, c2]
      clear hm
      subst hm'
      obtain rfl : v = 0 := by simpa using hv.symm
      clear hv
      go_enter Try.func4, Try.ntmps4
      go_wp2_with (go_at_call 9; refine (works17_any _).mono ?_; rintro e w1 ⟨rfl, hb1⟩)
      go_at_call 21
      refine (PT.out _ (Own.nil hb1)).mono ?_
      rintro e w2 ⟨rfl, h2⟩
      have h3 := h2.box #[.int .i64 P0, .int .i64 P1, .int .i64 S] 39
      go_wp2_with (first | (go_at_call 22; refine (OF.out _).mono ?_; rintro e w3 ⟨rfl, rfl⟩) | (go_at_call 10; refine (PL.out _ _ h3).mono ?_; rintro e w4 ⟨rfl, h4⟩) | (go_at_call 13; refine (RN.out _ _ h4).mono ?_; rintro e w5 ⟨rfl, h5⟩) | (go_at_call 23; refine (MY.out _ _ h5).mono ?_; rintro e w6 ⟨rfl, h6⟩; have y2 := (h6.cget 0 rfl 2).1; simp at y2))
      go_ret
      exact ⟨rfl, h6.below⟩
  · have hm' : m = false := by rw [← hm]; simp [c1]
    clear hm
    subst hm'
    obtain rfl : v = 0 := by simpa using hv.symm
    clear hv
    go_enter Try.func4, Try.ntmps4
    go_wp2_with (go_at_call 9; refine (works17_any _).mono ?_; rintro e w1 ⟨rfl, hb1⟩)
    go_at_call 21
    refine (PT.out _ (Own.nil hb1)).mono ?_
    rintro e w2 ⟨rfl, h2⟩
    have h3 := h2.box #[.int .i64 P0, .int .i64 P1, .int .i64 S] 39
    go_wp2_with (first | (go_at_call 22; refine (OF.out _).mono ?_; rintro e w3 ⟨rfl, rfl⟩) | (go_at_call 10; refine (PL.out _ _ h3).mono ?_; rintro e w4 ⟨rfl, h4⟩) | (go_at_call 13; refine (RN.out _ _ h4).mono ?_; rintro e w5 ⟨rfl, h5⟩) | (go_at_call 23; refine (MY.out _ _ h5).mono ?_; rintro e w6 ⟨rfl, h6⟩; have y2 := (h6.cget 0 rfl 2).1; simp at y2))
    go_ret
    exact ⟨rfl, h6.below⟩
theorem walkRingMay (v0 v1 v2 v3 : Value) (w : World) (h0 : Arg Try.prog w 3 v0) (h1 : Arg Try.prog w 3 v1) (h2 : Arg Try.prog w 3 v2) (h3 : Arg Try.prog w 3 v3) :
    Calls Try.prog 4 #[v0, v1, v2, v3] w fun e w' => e = .returned (.bool true) ∧ Below w.heap.size w w' := by
  obtain ⟨a, rfl, _⟩ := h0.int Try.underlying3
  obtain ⟨b, rfl, _⟩ := h1.int Try.underlying3
  obtain ⟨c, rfl, _⟩ := h2.int Try.underlying3
  obtain ⟨d, rfl, _⟩ := h3.int Try.underlying3
  exact rmay_core a b c d w
end Go.Proofs.Ytooofpplhedgcaa
