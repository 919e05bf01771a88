/- The document's answer for single instructions: forms, and what is wrong. -/
import Derived.Test.YtboiogjklecpaaaInsCheck
set_option linter.unusedVariables false
set_option linter.unusedSimpArgs false
namespace Go.Proofs.Ytboiogjklecpaaa
open Go.RowKit
set_option maxRecDepth 100000
set_option maxHeartbeats 8000000
theorem forms_any (w : World) : Calls Try.prog 50 #[] w fun e w' => ∃ b : Nat, e = .returned (.slice (some ⟨b, 0, none⟩) 26 26) ∧ (∀ k, k < 26 → w'.cell? ⟨b, k, none⟩ = some (.string ⟨(formL (k : Int)).toArray⟩)) ∧ Below w.heap.size w w' := by
  go_enter Try.func50, Try.ntmps50
  go_wp2
  go_ret
  refine ⟨_, rfl, fun k hk => ?_, by go_grown⟩
  rw [cell_alloc_at]
  rcases (show k = 0 ∨ k = 1 ∨ k = 2 ∨ k = 3 ∨ k = 4 ∨ k = 5 ∨ k = 6 ∨ k = 7 ∨ k = 8 ∨ k = 9 ∨ k = 10 ∨ k = 11 ∨ k = 12 ∨ k = 13 ∨ k = 14 ∨ k = 15 ∨ k = 16 ∨ k = 17 ∨ k = 18 ∨ k = 19 ∨ k = 20 ∨ k = 21 ∨ k = 22 ∨ k = 23 ∨ k = 24 ∨ k = 25 by omega) with rfl | rfl | rfl | rfl | rfl | rfl | rfl | rfl | rfl | rfl | rfl | rfl | rfl | rfl | rfl | rfl | rfl | rfl | rfl | rfl | rfl | rfl | rfl | rfl | rfl | rfl <;> rfl
theorem rform_any (op : Int) (w : World) : Calls Try.prog 19 #[.int .i64 op] w fun e w' => e = .returned (.string ⟨(formL op).toArray⟩) ∧ Below w.heap.size w w' := by
  by_cases h1 : op < 0
  · have hv : formL op = [] := by
      rcases form_cases op with h | h | h | h | h | h | h | h <;> first | omega | exact h.1
    rw [hv]
    go_enter Try.func19, Try.ntmps19
    go_wp2
    go_ret
    exact ⟨rfl, by go_grown⟩
  · by_cases h2 : 25 < op
    · have hv : formL op = [] := by
        rcases form_cases op with h | h | h | h | h | h | h | h <;> first | omega | exact h.1
      rw [hv]
      go_enter Try.func19, Try.ntmps19
      go_wp2
      go_ret
      exact ⟨rfl, by go_grown⟩
    · obtain ⟨k, rfl⟩ : ∃ k : Nat, op = k := ⟨op.toNat, by omega⟩
      have hk : k < 26 := by omega
      generalize hF : formL (k : Int) = F at *
      go_enter Try.func19, Try.ntmps19
      go_wp2_with (first | (go_at_call 50; refine (forms_any _).mono ?_; rintro e w1 ⟨b, rfl, hc, hb⟩; have x := hc k hk; rw [hF] at x))
      go_ret
      exact ⟨rfl, hb⟩
theorem ends_r (w : World) : Calls Try.prog 62 #[.string ⟨#[114]⟩] w fun e w' => e = .returned (.tuple #[.int .i64 0, .int .i64 7]) ∧ w = w' := by
  go_enter Try.func62, Try.ntmps62
  go_wp2
  go_ret2
  exact ⟨by simp [results], rfl⟩
theorem ends_f (w : World) : Calls Try.prog 62 #[.string ⟨#[102]⟩] w fun e w' => e = .returned (.tuple #[.int .i64 0, .int .i64 15]) ∧ w = w' := by
  go_enter Try.func62, Try.ntmps62
  go_wp2
  go_ret2
  exact ⟨by simp [results], rfl⟩
theorem ends_t (w : World) : Calls Try.prog 62 #[.string ⟨#[116]⟩] w fun e w' => e = .returned (.tuple #[.int .i64 0, .int .i64 199]) ∧ w = w' := by
  go_enter Try.func62, Try.ntmps62
  go_wp2
  go_ret2
  exact ⟨by simp [results], rfl⟩
theorem ends_n (w : World) : Calls Try.prog 62 #[.string ⟨#[110]⟩] w fun e w' => e = .returned (.tuple #[.int .i64 (-32768), .int .i64 32767]) ∧ w = w' := by
  go_enter Try.func62, Try.ntmps62
  go_wp2
  go_ret2
  exact ⟨by simp [results], rfl⟩
theorem rcheck_rrr (op a b c : Int) (h1 : ¬ op < 0) (h2 : ¬ 25 < op) (hF : formL op = [114, 114, 114]) (w : World) : Calls Try.prog 26 #[.agg #[.int .i64 op, .int .i64 a, .int .i64 b, .int .i64 c]] w fun e w' => e = .returned (.int .i64 (checkF [114, 114, 114] [a, b, c])) ∧ Below w.heap.size w w' := by
  have hO := (Own.nil (Below.refl _ w)).box #[.int .i64 op, .int .i64 a, .int .i64 b, .int .i64 c] 30
  have FM := Lib.hid (Own.lift (rform_any op _) hO _ rfl)
  rw [hF] at FM
  clear hF hO
  have ex0 : (⟨#[114, 114, 114]⟩ : ByteArray).extract 0 1 = ⟨#[114]⟩ := by decide
  have ex1 : (⟨#[114, 114, 114]⟩ : ByteArray).extract 1 2 = ⟨#[114]⟩ := by decide
  have ex2 : (⟨#[114, 114, 114]⟩ : ByteArray).extract 2 3 = ⟨#[114]⟩ := by decide
  go_enter Try.func26, Try.ntmps26
  go_upto_region 5 with (first | (go_at_call 19; refine FM.out.mono ?_; rintro e u ⟨rfl, hO⟩; obtain ⟨x1, x2, x3⟩ := And.intro (hO.cget 0 rfl 1).1 (And.intro (hO.cget 0 rfl 2).1 (hO.cget 0 rfl 3).1); simp at x1 x2 x3))
  have hB := hO.box #[.int .i64 a, .int .i64 b, .int .i64 c] 3
  generalize u.alloc (.cells #[.int .i64 a, .int .i64 b, .int .i64 c] 3) = v at *
  generalize u.heap.size = B at *
  have y0 := (hB.cget 1 rfl 0).1
  have y1 := (hB.cget 1 rfl 1).1
  have y2 := (hB.cget 1 rfl 2).1
  simp at y0 y1 y2
  have hBl := hB.below
  clear hB hO x1 x2 x3 FM
  by_cases lo0 : a < 0
  · have hv : checkF [114, 114, 114] [a, b, c] = 3 := by simp [checkF, fitB] <;> omega
    replace hv := Lib.hid hv
    go_wp2_with fail
    refine wp_loop_rounds 1 ?_
    repeat (rw [rounds_succ]; go_wp2_with (first | (go_at_call 62; (with_reducible refine (ends_r _).mono ?_); rintro e w3 ⟨rfl, rfl⟩)))
    go_ret
    exact ⟨ret_int hv.out.symm, hBl⟩
  · by_cases hi0 : 7 < a
    · have hv : checkF [114, 114, 114] [a, b, c] = 3 := by simp [checkF, fitB] <;> omega
      replace hv := Lib.hid hv
      go_wp2_with fail
      refine wp_loop_rounds 1 ?_
      repeat (rw [rounds_succ]; go_wp2_with (first | (go_at_call 62; (with_reducible refine (ends_r _).mono ?_); rintro e w3 ⟨rfl, rfl⟩)))
      go_ret
      exact ⟨ret_int hv.out.symm, hBl⟩
    · by_cases lo1 : b < 0
      · have hv : checkF [114, 114, 114] [a, b, c] = 3 := by simp [checkF, fitB] <;> omega
        replace hv := Lib.hid hv
        go_wp2_with fail
        refine wp_loop_rounds 2 ?_
        repeat (rw [rounds_succ]; go_wp2_with (first | (go_at_call 62; (with_reducible refine (ends_r _).mono ?_); rintro e w3 ⟨rfl, rfl⟩)))
        go_ret
        exact ⟨ret_int hv.out.symm, hBl⟩
      · by_cases hi1 : 7 < b
        · have hv : checkF [114, 114, 114] [a, b, c] = 3 := by simp [checkF, fitB] <;> omega
          replace hv := Lib.hid hv
          go_wp2_with fail
          refine wp_loop_rounds 2 ?_
          repeat (rw [rounds_succ]; go_wp2_with (first | (go_at_call 62; (with_reducible refine (ends_r _).mono ?_); rintro e w3 ⟨rfl, rfl⟩)))
          go_ret
          exact ⟨ret_int hv.out.symm, hBl⟩
        · by_cases lo2 : c < 0
          · have hv : checkF [114, 114, 114] [a, b, c] = 3 := by simp [checkF, fitB] <;> omega
            replace hv := Lib.hid hv
            go_wp2_with fail
            refine wp_loop_rounds 3 ?_
            repeat (rw [rounds_succ]; go_wp2_with (first | (go_at_call 62; (with_reducible refine (ends_r _).mono ?_); rintro e w3 ⟨rfl, rfl⟩)))
            go_ret
            exact ⟨ret_int hv.out.symm, hBl⟩
          · by_cases hi2 : 7 < c
            · have hv : checkF [114, 114, 114] [a, b, c] = 3 := by simp [checkF, fitB] <;> omega
              replace hv := Lib.hid hv
              go_wp2_with fail
              refine wp_loop_rounds 3 ?_
              repeat (rw [rounds_succ]; go_wp2_with (first | (go_at_call 62; (with_reducible refine (ends_r _).mono ?_); rintro e w3 ⟨rfl, rfl⟩)))
              go_ret
              exact ⟨ret_int hv.out.symm, hBl⟩
            · have hv : checkF [114, 114, 114] [a, b, c] = 0 := by simp [checkF, fitB] <;> omega
              replace hv := Lib.hid hv
              go_wp2_with fail
              refine wp_loop_rounds 4 ?_
              repeat (rw [rounds_succ]; go_wp2_with (first | (go_at_call 62; (with_reducible refine (ends_r _).mono ?_); rintro e w3 ⟨rfl, rfl⟩)))
              refine wp_loop_rounds 1 ?_
              repeat (rw [rounds_succ]; go_wp2_with fail)
              go_ret
              exact ⟨ret_int hv.out.symm, hBl⟩
theorem rcheck_rr (op a b c : Int) (h1 : ¬ op < 0) (h2 : ¬ 25 < op) (hF : formL op = [114, 114]) (w : World) : Calls Try.prog 26 #[.agg #[.int .i64 op, .int .i64 a, .int .i64 b, .int .i64 c]] w fun e w' => e = .returned (.int .i64 (checkF [114, 114] [a, b, c])) ∧ Below w.heap.size w w' := by
  have hO := (Own.nil (Below.refl _ w)).box #[.int .i64 op, .int .i64 a, .int .i64 b, .int .i64 c] 30
  have FM := Lib.hid (Own.lift (rform_any op _) hO _ rfl)
  rw [hF] at FM
  clear hF hO
  have ex0 : (⟨#[114, 114]⟩ : ByteArray).extract 0 1 = ⟨#[114]⟩ := by decide
  have ex1 : (⟨#[114, 114]⟩ : ByteArray).extract 1 2 = ⟨#[114]⟩ := by decide
  go_enter Try.func26, Try.ntmps26
  go_upto_region 5 with (first | (go_at_call 19; refine FM.out.mono ?_; rintro e u ⟨rfl, hO⟩; obtain ⟨x1, x2, x3⟩ := And.intro (hO.cget 0 rfl 1).1 (And.intro (hO.cget 0 rfl 2).1 (hO.cget 0 rfl 3).1); simp at x1 x2 x3))
  have hB := hO.box #[.int .i64 a, .int .i64 b, .int .i64 c] 3
  generalize u.alloc (.cells #[.int .i64 a, .int .i64 b, .int .i64 c] 3) = v at *
  generalize u.heap.size = B at *
  have y0 := (hB.cget 1 rfl 0).1
  have y1 := (hB.cget 1 rfl 1).1
  have y2 := (hB.cget 1 rfl 2).1
  simp at y0 y1 y2
  have hBl := hB.below
  clear hB hO x1 x2 x3 FM
  by_cases lo0 : a < 0
  · have hv : checkF [114, 114] [a, b, c] = 3 := by simp [checkF, fitB] <;> omega
    replace hv := Lib.hid hv
    go_wp2_with fail
    refine wp_loop_rounds 1 ?_
    repeat (rw [rounds_succ]; go_wp2_with (first | (go_at_call 62; (with_reducible refine (ends_r _).mono ?_); rintro e w3 ⟨rfl, rfl⟩)))
    go_ret
    exact ⟨ret_int hv.out.symm, hBl⟩
  · by_cases hi0 : 7 < a
    · have hv : checkF [114, 114] [a, b, c] = 3 := by simp [checkF, fitB] <;> omega
      replace hv := Lib.hid hv
      go_wp2_with fail
      refine wp_loop_rounds 1 ?_
      repeat (rw [rounds_succ]; go_wp2_with (first | (go_at_call 62; (with_reducible refine (ends_r _).mono ?_); rintro e w3 ⟨rfl, rfl⟩)))
      go_ret
      exact ⟨ret_int hv.out.symm, hBl⟩
    · by_cases lo1 : b < 0
      · have hv : checkF [114, 114] [a, b, c] = 3 := by simp [checkF, fitB] <;> omega
        replace hv := Lib.hid hv
        go_wp2_with fail
        refine wp_loop_rounds 2 ?_
        repeat (rw [rounds_succ]; go_wp2_with (first | (go_at_call 62; (with_reducible refine (ends_r _).mono ?_); rintro e w3 ⟨rfl, rfl⟩)))
        go_ret
        exact ⟨ret_int hv.out.symm, hBl⟩
      · by_cases hi1 : 7 < b
        · have hv : checkF [114, 114] [a, b, c] = 3 := by simp [checkF, fitB] <;> omega
          replace hv := Lib.hid hv
          go_wp2_with fail
          refine wp_loop_rounds 2 ?_
          repeat (rw [rounds_succ]; go_wp2_with (first | (go_at_call 62; (with_reducible refine (ends_r _).mono ?_); rintro e w3 ⟨rfl, rfl⟩)))
          go_ret
          exact ⟨ret_int hv.out.symm, hBl⟩
        · by_cases z2 : c = 0
          · have hv : checkF [114, 114] [a, b, c] = 0 := by simp [checkF, fitB, z2] <;> omega
            replace hv := Lib.hid hv
            go_wp2_with fail
            refine wp_loop_rounds 3 ?_
            repeat (rw [rounds_succ]; go_wp2_with (first | (go_at_call 62; (with_reducible refine (ends_r _).mono ?_); rintro e w3 ⟨rfl, rfl⟩)))
            refine wp_loop_rounds 2 ?_
            repeat (rw [rounds_succ]; go_wp2_with fail)
            go_ret
            exact ⟨ret_int hv.out.symm, hBl⟩
          · have hv : checkF [114, 114] [a, b, c] = 4 := by simp [checkF, fitB, z2] <;> omega
            replace hv := Lib.hid hv
            go_wp2_with fail
            refine wp_loop_rounds 3 ?_
            repeat (rw [rounds_succ]; go_wp2_with (first | (go_at_call 62; (with_reducible refine (ends_r _).mono ?_); rintro e w3 ⟨rfl, rfl⟩)))
            refine wp_loop_rounds 1 ?_
            repeat (rw [rounds_succ]; go_wp2_with fail)
            go_ret
            exact ⟨ret_int hv.out.symm, hBl⟩
theorem rcheck_r (op a b c : Int) (h1 : ¬ op < 0) (h2 : ¬ 25 < op) (hF : formL op = [114]) (w : World) : Calls Try.prog 26 #[.agg #[.int .i64 op, .int .i64 a, .int .i64 b, .int .i64 c]] w fun e w' => e = .returned (.int .i64 (checkF [114] [a, b, c])) ∧ Below w.heap.size w w' := by
  have hO := (Own.nil (Below.refl _ w)).box #[.int .i64 op, .int .i64 a, .int .i64 b, .int .i64 c] 30
  have FM := Lib.hid (Own.lift (rform_any op _) hO _ rfl)
  rw [hF] at FM
  clear hF hO
  have ex0 : (⟨#[114]⟩ : ByteArray).extract 0 1 = ⟨#[114]⟩ := by decide
  go_enter Try.func26, Try.ntmps26
  go_upto_region 5 with (first | (go_at_call 19; refine FM.out.mono ?_; rintro e u ⟨rfl, hO⟩; obtain ⟨x1, x2, x3⟩ := And.intro (hO.cget 0 rfl 1).1 (And.intro (hO.cget 0 rfl 2).1 (hO.cget 0 rfl 3).1); simp at x1 x2 x3))
  have hB := hO.box #[.int .i64 a, .int .i64 b, .int .i64 c] 3
  generalize u.alloc (.cells #[.int .i64 a, .int .i64 b, .int .i64 c] 3) = v at *
  generalize u.heap.size = B at *
  have y0 := (hB.cget 1 rfl 0).1
  have y1 := (hB.cget 1 rfl 1).1
  have y2 := (hB.cget 1 rfl 2).1
  simp at y0 y1 y2
  have hBl := hB.below
  clear hB hO x1 x2 x3 FM
  by_cases lo0 : a < 0
  · have hv : checkF [114] [a, b, c] = 3 := by simp [checkF, fitB] <;> omega
    replace hv := Lib.hid hv
    go_wp2_with fail
    refine wp_loop_rounds 1 ?_
    repeat (rw [rounds_succ]; go_wp2_with (first | (go_at_call 62; (with_reducible refine (ends_r _).mono ?_); rintro e w3 ⟨rfl, rfl⟩)))
    go_ret
    exact ⟨ret_int hv.out.symm, hBl⟩
  · by_cases hi0 : 7 < a
    · have hv : checkF [114] [a, b, c] = 3 := by simp [checkF, fitB] <;> omega
      replace hv := Lib.hid hv
      go_wp2_with fail
      refine wp_loop_rounds 1 ?_
      repeat (rw [rounds_succ]; go_wp2_with (first | (go_at_call 62; (with_reducible refine (ends_r _).mono ?_); rintro e w3 ⟨rfl, rfl⟩)))
      go_ret
      exact ⟨ret_int hv.out.symm, hBl⟩
    · by_cases z1 : b = 0
      · by_cases z2 : c = 0
        · have hv : checkF [114] [a, b, c] = 0 := by simp [checkF, fitB, z1, z2] <;> omega
          replace hv := Lib.hid hv
          go_wp2_with fail
          refine wp_loop_rounds 2 ?_
          repeat (rw [rounds_succ]; go_wp2_with (first | (go_at_call 62; (with_reducible refine (ends_r _).mono ?_); rintro e w3 ⟨rfl, rfl⟩)))
          refine wp_loop_rounds 3 ?_
          repeat (rw [rounds_succ]; go_wp2_with fail)
          go_ret
          exact ⟨ret_int hv.out.symm, hBl⟩
        · have hv : checkF [114] [a, b, c] = 4 := by simp [checkF, fitB, z1, z2] <;> omega
          replace hv := Lib.hid hv
          go_wp2_with fail
          refine wp_loop_rounds 2 ?_
          repeat (rw [rounds_succ]; go_wp2_with (first | (go_at_call 62; (with_reducible refine (ends_r _).mono ?_); rintro e w3 ⟨rfl, rfl⟩)))
          refine wp_loop_rounds 2 ?_
          repeat (rw [rounds_succ]; go_wp2_with fail)
          go_ret
          exact ⟨ret_int hv.out.symm, hBl⟩
      · have hv : checkF [114] [a, b, c] = 4 := by simp [checkF, fitB, z1] <;> omega
        replace hv := Lib.hid hv
        go_wp2_with fail
        refine wp_loop_rounds 2 ?_
        repeat (rw [rounds_succ]; go_wp2_with (first | (go_at_call 62; (with_reducible refine (ends_r _).mono ?_); rintro e w3 ⟨rfl, rfl⟩)))
        refine wp_loop_rounds 1 ?_
        repeat (rw [rounds_succ]; go_wp2_with fail)
        go_ret
        exact ⟨ret_int hv.out.symm, hBl⟩
end Go.Proofs.Ytboiogjklecpaaa
