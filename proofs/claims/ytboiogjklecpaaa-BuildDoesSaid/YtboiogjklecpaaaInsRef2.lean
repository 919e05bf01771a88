/- The document's answer for single instructions: what is wrong, all forms. -/
import Derived.Test.YtboiogjklecpaaaInsRef
set_option linter.unusedVariables false
set_option linter.unusedSimpArgs false
namespace Go.Proofs.Ytboiogjklecpaaa
open Go.RowKit
set_option maxRecDepth 100000
set_option maxHeartbeats 8000000
theorem rcheck_rn (op a b c : Int) (h1 : ¬ op < 0) (h2 : ¬ 25 < op) (hF : formL op = [114, 110]) (w : World) : Calls Try.prog 26 #[.agg #[.int .i64 op, .int .i64 a, .int .i64 b, .int .i64 c]] w fun e w' => e = .returned (.int .i64 (checkF [114, 110] [a, b, c])) ∧ Below w.heap.size w w' := by
  have hO := (Own.nil (Below.refl _ w)).box #[.int .i64 op, .int .i64 a, .int .i64 b, .int .i64 c] 30
  have FM := Lib.hid (Own.lift (rform_any op _) hO _ rfl)
  rw [hF] at FM
  clear hF hO
  have ex0 : (⟨#[114, 110]⟩ : ByteArray).extract 0 1 = ⟨#[114]⟩ := by decide
  have ex1 : (⟨#[114, 110]⟩ : ByteArray).extract 1 2 = ⟨#[110]⟩ := by decide
  go_enter Try.func26, Try.ntmps26
  go_upto_region 5 with (first | (go_at_call 19; refine FM.out.mono ?_; rintro e u ⟨rfl, hO⟩; obtain ⟨x1, x2, x3⟩ := And.intro (hO.cget 0 rfl 1).1 (And.intro (hO.cget 0 rfl 2).1 (hO.cget 0 rfl 3).1); simp at x1 x2 x3))
  have hB := hO.box #[.int .i64 a, .int .i64 b, .int .i64 c] 3
  generalize u.alloc (.cells #[.int .i64 a, .int .i64 b, .int .i64 c] 3) = v at *
  generalize u.heap.size = B at *
  have y0 := (hB.cget 1 rfl 0).1
  have y1 := (hB.cget 1 rfl 1).1
  have y2 := (hB.cget 1 rfl 2).1
  simp at y0 y1 y2
  have hBl := hB.below
  clear hB hO x1 x2 x3 FM
  by_cases lo0 : a < 0
  · have hv : checkF [114, 110] [a, b, c] = 3 := by simp [checkF, fitB] <;> omega
    replace hv := Lib.hid hv
    go_wp2_with fail
    refine wp_loop_rounds 1 ?_
    repeat (rw [rounds_succ]; go_wp2_with (first | (go_at_call 62; (with_reducible refine (ends_r _).mono ?_); rintro e w3 ⟨rfl, rfl⟩) | (go_at_call 62; (with_reducible refine (ends_n _).mono ?_); rintro e w3 ⟨rfl, rfl⟩)))
    go_ret
    exact ⟨ret_int hv.out.symm, hBl⟩
  · by_cases hi0 : 7 < a
    · have hv : checkF [114, 110] [a, b, c] = 3 := by simp [checkF, fitB] <;> omega
      replace hv := Lib.hid hv
      go_wp2_with fail
      refine wp_loop_rounds 1 ?_
      repeat (rw [rounds_succ]; go_wp2_with (first | (go_at_call 62; (with_reducible refine (ends_r _).mono ?_); rintro e w3 ⟨rfl, rfl⟩) | (go_at_call 62; (with_reducible refine (ends_n _).mono ?_); rintro e w3 ⟨rfl, rfl⟩)))
      go_ret
      exact ⟨ret_int hv.out.symm, hBl⟩
    · by_cases lo1 : b < (-32768)
      · have hv : checkF [114, 110] [a, b, c] = 3 := by simp [checkF, fitB] <;> omega
        replace hv := Lib.hid hv
        go_wp2_with fail
        refine wp_loop_rounds 2 ?_
        repeat (rw [rounds_succ]; go_wp2_with (first | (go_at_call 62; (with_reducible refine (ends_r _).mono ?_); rintro e w3 ⟨rfl, rfl⟩) | (go_at_call 62; (with_reducible refine (ends_n _).mono ?_); rintro e w3 ⟨rfl, rfl⟩)))
        go_ret
        exact ⟨ret_int hv.out.symm, hBl⟩
      · by_cases hi1 : 32767 < b
        · have hv : checkF [114, 110] [a, b, c] = 3 := by simp [checkF, fitB] <;> omega
          replace hv := Lib.hid hv
          go_wp2_with fail
          refine wp_loop_rounds 2 ?_
          repeat (rw [rounds_succ]; go_wp2_with (first | (go_at_call 62; (with_reducible refine (ends_r _).mono ?_); rintro e w3 ⟨rfl, rfl⟩) | (go_at_call 62; (with_reducible refine (ends_n _).mono ?_); rintro e w3 ⟨rfl, rfl⟩)))
          go_ret
          exact ⟨ret_int hv.out.symm, hBl⟩
        · by_cases z2 : c = 0
          · have hv : checkF [114, 110] [a, b, c] = 0 := by simp [checkF, fitB, z2] <;> omega
            replace hv := Lib.hid hv
            go_wp2_with fail
            refine wp_loop_rounds 3 ?_
            repeat (rw [rounds_succ]; go_wp2_with (first | (go_at_call 62; (with_reducible refine (ends_r _).mono ?_); rintro e w3 ⟨rfl, rfl⟩) | (go_at_call 62; (with_reducible refine (ends_n _).mono ?_); rintro e w3 ⟨rfl, rfl⟩)))
            refine wp_loop_rounds 2 ?_
            repeat (rw [rounds_succ]; go_wp2_with fail)
            go_ret
            exact ⟨ret_int hv.out.symm, hBl⟩
          · have hv : checkF [114, 110] [a, b, c] = 4 := by simp [checkF, fitB, z2] <;> omega
            replace hv := Lib.hid hv
            go_wp2_with fail
            refine wp_loop_rounds 3 ?_
            repeat (rw [rounds_succ]; go_wp2_with (first | (go_at_call 62; (with_reducible refine (ends_r _).mono ?_); rintro e w3 ⟨rfl, rfl⟩) | (go_at_call 62; (with_reducible refine (ends_n _).mono ?_); rintro e w3 ⟨rfl, rfl⟩)))
            refine wp_loop_rounds 1 ?_
            repeat (rw [rounds_succ]; go_wp2_with fail)
            go_ret
            exact ⟨ret_int hv.out.symm, hBl⟩
theorem rcheck_rt (op a b c : Int) (h1 : ¬ op < 0) (h2 : ¬ 25 < op) (hF : formL op = [114, 116]) (w : World) : Calls Try.prog 26 #[.agg #[.int .i64 op, .int .i64 a, .int .i64 b, .int .i64 c]] w fun e w' => e = .returned (.int .i64 (checkF [114, 116] [a, b, c])) ∧ Below w.heap.size w w' := by
  have hO := (Own.nil (Below.refl _ w)).box #[.int .i64 op, .int .i64 a, .int .i64 b, .int .i64 c] 30
  have FM := Lib.hid (Own.lift (rform_any op _) hO _ rfl)
  rw [hF] at FM
  clear hF hO
  have ex0 : (⟨#[114, 116]⟩ : ByteArray).extract 0 1 = ⟨#[114]⟩ := by decide
  have ex1 : (⟨#[114, 116]⟩ : ByteArray).extract 1 2 = ⟨#[116]⟩ := by decide
  go_enter Try.func26, Try.ntmps26
  go_upto_region 5 with (first | (go_at_call 19; refine FM.out.mono ?_; rintro e u ⟨rfl, hO⟩; obtain ⟨x1, x2, x3⟩ := And.intro (hO.cget 0 rfl 1).1 (And.intro (hO.cget 0 rfl 2).1 (hO.cget 0 rfl 3).1); simp at x1 x2 x3))
  have hB := hO.box #[.int .i64 a, .int .i64 b, .int .i64 c] 3
  generalize u.alloc (.cells #[.int .i64 a, .int .i64 b, .int .i64 c] 3) = v at *
  generalize u.heap.size = B at *
  have y0 := (hB.cget 1 rfl 0).1
  have y1 := (hB.cget 1 rfl 1).1
  have y2 := (hB.cget 1 rfl 2).1
  simp at y0 y1 y2
  have hBl := hB.below
  clear hB hO x1 x2 x3 FM
  by_cases lo0 : a < 0
  · have hv : checkF [114, 116] [a, b, c] = 3 := by simp [checkF, fitB] <;> omega
    replace hv := Lib.hid hv
    go_wp2_with fail
    refine wp_loop_rounds 1 ?_
    repeat (rw [rounds_succ]; go_wp2_with (first | (go_at_call 62; (with_reducible refine (ends_r _).mono ?_); rintro e w3 ⟨rfl, rfl⟩) | (go_at_call 62; (with_reducible refine (ends_t _).mono ?_); rintro e w3 ⟨rfl, rfl⟩)))
    go_ret
    exact ⟨ret_int hv.out.symm, hBl⟩
  · by_cases hi0 : 7 < a
    · have hv : checkF [114, 116] [a, b, c] = 3 := by simp [checkF, fitB] <;> omega
      replace hv := Lib.hid hv
      go_wp2_with fail
      refine wp_loop_rounds 1 ?_
      repeat (rw [rounds_succ]; go_wp2_with (first | (go_at_call 62; (with_reducible refine (ends_r _).mono ?_); rintro e w3 ⟨rfl, rfl⟩) | (go_at_call 62; (with_reducible refine (ends_t _).mono ?_); rintro e w3 ⟨rfl, rfl⟩)))
      go_ret
      exact ⟨ret_int hv.out.symm, hBl⟩
    · by_cases lo1 : b < 0
      · have hv : checkF [114, 116] [a, b, c] = 3 := by simp [checkF, fitB] <;> omega
        replace hv := Lib.hid hv
        go_wp2_with fail
        refine wp_loop_rounds 2 ?_
        repeat (rw [rounds_succ]; go_wp2_with (first | (go_at_call 62; (with_reducible refine (ends_r _).mono ?_); rintro e w3 ⟨rfl, rfl⟩) | (go_at_call 62; (with_reducible refine (ends_t _).mono ?_); rintro e w3 ⟨rfl, rfl⟩)))
        go_ret
        exact ⟨ret_int hv.out.symm, hBl⟩
      · by_cases hi1 : 199 < b
        · have hv : checkF [114, 116] [a, b, c] = 3 := by simp [checkF, fitB] <;> omega
          replace hv := Lib.hid hv
          go_wp2_with fail
          refine wp_loop_rounds 2 ?_
          repeat (rw [rounds_succ]; go_wp2_with (first | (go_at_call 62; (with_reducible refine (ends_r _).mono ?_); rintro e w3 ⟨rfl, rfl⟩) | (go_at_call 62; (with_reducible refine (ends_t _).mono ?_); rintro e w3 ⟨rfl, rfl⟩)))
          go_ret
          exact ⟨ret_int hv.out.symm, hBl⟩
        · by_cases z2 : c = 0
          · have hv : checkF [114, 116] [a, b, c] = 0 := by simp [checkF, fitB, z2] <;> omega
            replace hv := Lib.hid hv
            go_wp2_with fail
            refine wp_loop_rounds 3 ?_
            repeat (rw [rounds_succ]; go_wp2_with (first | (go_at_call 62; (with_reducible refine (ends_r _).mono ?_); rintro e w3 ⟨rfl, rfl⟩) | (go_at_call 62; (with_reducible refine (ends_t _).mono ?_); rintro e w3 ⟨rfl, rfl⟩)))
            refine wp_loop_rounds 2 ?_
            repeat (rw [rounds_succ]; go_wp2_with fail)
            go_ret
            exact ⟨ret_int hv.out.symm, hBl⟩
          · have hv : checkF [114, 116] [a, b, c] = 4 := by simp [checkF, fitB, z2] <;> omega
            replace hv := Lib.hid hv
            go_wp2_with fail
            refine wp_loop_rounds 3 ?_
            repeat (rw [rounds_succ]; go_wp2_with (first | (go_at_call 62; (with_reducible refine (ends_r _).mono ?_); rintro e w3 ⟨rfl, rfl⟩) | (go_at_call 62; (with_reducible refine (ends_t _).mono ?_); rintro e w3 ⟨rfl, rfl⟩)))
            refine wp_loop_rounds 1 ?_
            repeat (rw [rounds_succ]; go_wp2_with fail)
            go_ret
            exact ⟨ret_int hv.out.symm, hBl⟩
theorem rcheck_t (op a b c : Int) (h1 : ¬ op < 0) (h2 : ¬ 25 < op) (hF : formL op = [116]) (w : World) : Calls Try.prog 26 #[.agg #[.int .i64 op, .int .i64 a, .int .i64 b, .int .i64 c]] w fun e w' => e = .returned (.int .i64 (checkF [116] [a, b, c])) ∧ Below w.heap.size w w' := by
  have hO := (Own.nil (Below.refl _ w)).box #[.int .i64 op, .int .i64 a, .int .i64 b, .int .i64 c] 30
  have FM := Lib.hid (Own.lift (rform_any op _) hO _ rfl)
  rw [hF] at FM
  clear hF hO
  have ex0 : (⟨#[116]⟩ : ByteArray).extract 0 1 = ⟨#[116]⟩ := by decide
  go_enter Try.func26, Try.ntmps26
  go_upto_region 5 with (first | (go_at_call 19; refine FM.out.mono ?_; rintro e u ⟨rfl, hO⟩; obtain ⟨x1, x2, x3⟩ := And.intro (hO.cget 0 rfl 1).1 (And.intro (hO.cget 0 rfl 2).1 (hO.cget 0 rfl 3).1); simp at x1 x2 x3))
  have hB := hO.box #[.int .i64 a, .int .i64 b, .int .i64 c] 3
  generalize u.alloc (.cells #[.int .i64 a, .int .i64 b, .int .i64 c] 3) = v at *
  generalize u.heap.size = B at *
  have y0 := (hB.cget 1 rfl 0).1
  have y1 := (hB.cget 1 rfl 1).1
  have y2 := (hB.cget 1 rfl 2).1
  simp at y0 y1 y2
  have hBl := hB.below
  clear hB hO x1 x2 x3 FM
  by_cases lo0 : a < 0
  · have hv : checkF [116] [a, b, c] = 3 := by simp [checkF, fitB] <;> omega
    replace hv := Lib.hid hv
    go_wp2_with fail
    refine wp_loop_rounds 1 ?_
    repeat (rw [rounds_succ]; go_wp2_with (first | (go_at_call 62; (with_reducible refine (ends_t _).mono ?_); rintro e w3 ⟨rfl, rfl⟩)))
    go_ret
    exact ⟨ret_int hv.out.symm, hBl⟩
  · by_cases hi0 : 199 < a
    · have hv : checkF [116] [a, b, c] = 3 := by simp [checkF, fitB] <;> omega
      replace hv := Lib.hid hv
      go_wp2_with fail
      refine wp_loop_rounds 1 ?_
      repeat (rw [rounds_succ]; go_wp2_with (first | (go_at_call 62; (with_reducible refine (ends_t _).mono ?_); rintro e w3 ⟨rfl, rfl⟩)))
      go_ret
      exact ⟨ret_int hv.out.symm, hBl⟩
    · by_cases z1 : b = 0
      · by_cases z2 : c = 0
        · have hv : checkF [116] [a, b, c] = 0 := by simp [checkF, fitB, z1, z2] <;> omega
          replace hv := Lib.hid hv
          go_wp2_with fail
          refine wp_loop_rounds 2 ?_
          repeat (rw [rounds_succ]; go_wp2_with (first | (go_at_call 62; (with_reducible refine (ends_t _).mono ?_); rintro e w3 ⟨rfl, rfl⟩)))
          refine wp_loop_rounds 3 ?_
          repeat (rw [rounds_succ]; go_wp2_with fail)
          go_ret
          exact ⟨ret_int hv.out.symm, hBl⟩
        · have hv : checkF [116] [a, b, c] = 4 := by simp [checkF, fitB, z1, z2] <;> omega
          replace hv := Lib.hid hv
          go_wp2_with fail
          refine wp_loop_rounds 2 ?_
          repeat (rw [rounds_succ]; go_wp2_with (first | (go_at_call 62; (with_reducible refine (ends_t _).mono ?_); rintro e w3 ⟨rfl, rfl⟩)))
          refine wp_loop_rounds 2 ?_
          repeat (rw [rounds_succ]; go_wp2_with fail)
          go_ret
          exact ⟨ret_int hv.out.symm, hBl⟩
      · have hv : checkF [116] [a, b, c] = 4 := by simp [checkF, fitB, z1] <;> omega
        replace hv := Lib.hid hv
        go_wp2_with fail
        refine wp_loop_rounds 2 ?_
        repeat (rw [rounds_succ]; go_wp2_with (first | (go_at_call 62; (with_reducible refine (ends_t _).mono ?_); rintro e w3 ⟨rfl, rfl⟩)))
        refine wp_loop_rounds 1 ?_
        repeat (rw [rounds_succ]; go_wp2_with fail)
        go_ret
        exact ⟨ret_int hv.out.symm, hBl⟩
theorem rcheck_f (op a b c : Int) (h1 : ¬ op < 0) (h2 : ¬ 25 < op) (hF : formL op = [102]) (w : World) : Calls Try.prog 26 #[.agg #[.int .i64 op, .int .i64 a, .int .i64 b, .int .i64 c]] w fun e w' => e = .returned (.int .i64 (checkF [102] [a, b, c])) ∧ Below w.heap.size w w' := by
  have hO := (Own.nil (Below.refl _ w)).box #[.int .i64 op, .int .i64 a, .int .i64 b, .int .i64 c] 30
  have FM := Lib.hid (Own.lift (rform_any op _) hO _ rfl)
  rw [hF] at FM
  clear hF hO
  have ex0 : (⟨#[102]⟩ : ByteArray).extract 0 1 = ⟨#[102]⟩ := by decide
  go_enter Try.func26, Try.ntmps26
  go_upto_region 5 with (first | (go_at_call 19; refine FM.out.mono ?_; rintro e u ⟨rfl, hO⟩; obtain ⟨x1, x2, x3⟩ := And.intro (hO.cget 0 rfl 1).1 (And.intro (hO.cget 0 rfl 2).1 (hO.cget 0 rfl 3).1); simp at x1 x2 x3))
  have hB := hO.box #[.int .i64 a, .int .i64 b, .int .i64 c] 3
  generalize u.alloc (.cells #[.int .i64 a, .int .i64 b, .int .i64 c] 3) = v at *
  generalize u.heap.size = B at *
  have y0 := (hB.cget 1 rfl 0).1
  have y1 := (hB.cget 1 rfl 1).1
  have y2 := (hB.cget 1 rfl 2).1
  simp at y0 y1 y2
  have hBl := hB.below
  clear hB hO x1 x2 x3 FM
  by_cases lo0 : a < 0
  · have hv : checkF [102] [a, b, c] = 3 := by simp [checkF, fitB] <;> omega
    replace hv := Lib.hid hv
    go_wp2_with fail
    refine wp_loop_rounds 1 ?_
    repeat (rw [rounds_succ]; go_wp2_with (first | (go_at_call 62; (with_reducible refine (ends_f _).mono ?_); rintro e w3 ⟨rfl, rfl⟩)))
    go_ret
    exact ⟨ret_int hv.out.symm, hBl⟩
  · by_cases hi0 : 15 < a
    · have hv : checkF [102] [a, b, c] = 3 := by simp [checkF, fitB] <;> omega
      replace hv := Lib.hid hv
      go_wp2_with fail
      refine wp_loop_rounds 1 ?_
      repeat (rw [rounds_succ]; go_wp2_with (first | (go_at_call 62; (with_reducible refine (ends_f _).mono ?_); rintro e w3 ⟨rfl, rfl⟩)))
      go_ret
      exact ⟨ret_int hv.out.symm, hBl⟩
    · by_cases z1 : b = 0
      · by_cases z2 : c = 0
        · have hv : checkF [102] [a, b, c] = 0 := by simp [checkF, fitB, z1, z2] <;> omega
          replace hv := Lib.hid hv
          go_wp2_with fail
          refine wp_loop_rounds 2 ?_
          repeat (rw [rounds_succ]; go_wp2_with (first | (go_at_call 62; (with_reducible refine (ends_f _).mono ?_); rintro e w3 ⟨rfl, rfl⟩)))
          refine wp_loop_rounds 3 ?_
          repeat (rw [rounds_succ]; go_wp2_with fail)
          go_ret
          exact ⟨ret_int hv.out.symm, hBl⟩
        · have hv : checkF [102] [a, b, c] = 4 := by simp [checkF, fitB, z1, z2] <;> omega
          replace hv := Lib.hid hv
          go_wp2_with fail
          refine wp_loop_rounds 2 ?_
          repeat (rw [rounds_succ]; go_wp2_with (first | (go_at_call 62; (with_reducible refine (ends_f _).mono ?_); rintro e w3 ⟨rfl, rfl⟩)))
          refine wp_loop_rounds 2 ?_
          repeat (rw [rounds_succ]; go_wp2_with fail)
          go_ret
          exact ⟨ret_int hv.out.symm, hBl⟩
      · have hv : checkF [102] [a, b, c] = 4 := by simp [checkF, fitB, z1] <;> omega
        replace hv := Lib.hid hv
        go_wp2_with fail
        refine wp_loop_rounds 2 ?_
        repeat (rw [rounds_succ]; go_wp2_with (first | (go_at_call 62; (with_reducible refine (ends_f _).mono ?_); rintro e w3 ⟨rfl, rfl⟩)))
        refine wp_loop_rounds 1 ?_
        repeat (rw [rounds_succ]; go_wp2_with fail)
        go_ret
        exact ⟨ret_int hv.out.symm, hBl⟩
theorem rcheck_z (op a b c : Int) (h1 : ¬ op < 0) (h2 : ¬ 25 < op) (hF : formL op = []) (w : World) : Calls Try.prog 26 #[.agg #[.int .i64 op, .int .i64 a, .int .i64 b, .int .i64 c]] w fun e w' => e = .returned (.int .i64 (checkF [] [a, b, c])) ∧ Below w.heap.size w w' := by
  have hO := (Own.nil (Below.refl _ w)).box #[.int .i64 op, .int .i64 a, .int .i64 b, .int .i64 c] 30
  have FM := Lib.hid (Own.lift (rform_any op _) hO _ rfl)
  rw [hF] at FM
  clear hF hO
  go_enter Try.func26, Try.ntmps26
  go_upto_region 5 with (first | (go_at_call 19; refine FM.out.mono ?_; rintro e u ⟨rfl, hO⟩; obtain ⟨x1, x2, x3⟩ := And.intro (hO.cget 0 rfl 1).1 (And.intro (hO.cget 0 rfl 2).1 (hO.cget 0 rfl 3).1); simp at x1 x2 x3))
  have hB := hO.box #[.int .i64 a, .int .i64 b, .int .i64 c] 3
  generalize u.alloc (.cells #[.int .i64 a, .int .i64 b, .int .i64 c] 3) = v at *
  generalize u.heap.size = B at *
  have y0 := (hB.cget 1 rfl 0).1
  have y1 := (hB.cget 1 rfl 1).1
  have y2 := (hB.cget 1 rfl 2).1
  simp at y0 y1 y2
  have hBl := hB.below
  clear hB hO x1 x2 x3 FM
  by_cases z0 : a = 0
  · by_cases z1 : b = 0
    · by_cases z2 : c = 0
      · have hv : checkF [] [a, b, c] = 0 := by simp [checkF, fitB, z0, z1, z2] <;> omega
        replace hv := Lib.hid hv
        go_wp2_with fail
        refine wp_loop_rounds 1 ?_
        repeat (rw [rounds_succ]; go_wp2_with (fail))
        refine wp_loop_rounds 4 ?_
        repeat (rw [rounds_succ]; go_wp2_with fail)
        go_ret
        exact ⟨ret_int hv.out.symm, hBl⟩
      · have hv : checkF [] [a, b, c] = 4 := by simp [checkF, fitB, z0, z1, z2] <;> omega
        replace hv := Lib.hid hv
        go_wp2_with fail
        refine wp_loop_rounds 1 ?_
        repeat (rw [rounds_succ]; go_wp2_with (fail))
        refine wp_loop_rounds 3 ?_
        repeat (rw [rounds_succ]; go_wp2_with fail)
        go_ret
        exact ⟨ret_int hv.out.symm, hBl⟩
    · have hv : checkF [] [a, b, c] = 4 := by simp [checkF, fitB, z0, z1] <;> omega
      replace hv := Lib.hid hv
      go_wp2_with fail
      refine wp_loop_rounds 1 ?_
      repeat (rw [rounds_succ]; go_wp2_with (fail))
      refine wp_loop_rounds 2 ?_
      repeat (rw [rounds_succ]; go_wp2_with fail)
      go_ret
      exact ⟨ret_int hv.out.symm, hBl⟩
  · have hv : checkF [] [a, b, c] = 4 := by simp [checkF, fitB, z0] <;> omega
    replace hv := Lib.hid hv
    go_wp2_with fail
    refine wp_loop_rounds 1 ?_
    repeat (rw [rounds_succ]; go_wp2_with (fail))
    refine wp_loop_rounds 1 ?_
    repeat (rw [rounds_succ]; go_wp2_with fail)
    go_ret
    exact ⟨ret_int hv.out.symm, hBl⟩
theorem rcheck_any (op a b c : Int) (w : World) : Calls Try.prog 26 #[.agg #[.int .i64 op, .int .i64 a, .int .i64 b, .int .i64 c]] w fun e w' => e = .returned (.int .i64 (checkI op a b c)) ∧ Below w.heap.size w w' := by
  by_cases h1 : op < 0
  · have hv : checkI op a b c = 5 := by unfold checkI; rw [if_pos (.inl h1)]
    rw [hv]
    go_enter Try.func26, Try.ntmps26
    go_wp2
    go_ret
    exact ⟨rfl, by go_grown⟩
  · by_cases h2 : 25 < op
    · have hv : checkI op a b c = 5 := by unfold checkI; rw [if_pos (.inr h2)]
      rw [hv]
      go_enter Try.func26, Try.ntmps26
      go_wp2
      go_ret
      exact ⟨rfl, by go_grown⟩
    · have hv : checkI op a b c = checkF (formL op) [a, b, c] := by unfold checkI; rw [if_neg (by omega)]
      rw [hv]
      rcases form_cases op with h | h | h | h | h | h | h | h
      · rw [h.1]; exact rcheck_rrr op a b c h1 h2 h.1 w
      · rw [h.1]; exact rcheck_rr op a b c h1 h2 h.1 w
      · rw [h.1]; exact rcheck_r op a b c h1 h2 h.1 w
      · rw [h.1]; exact rcheck_rn op a b c h1 h2 h.1 w
      · rw [h.1]; exact rcheck_rt op a b c h1 h2 h.1 w
      · rw [h.1]; exact rcheck_t op a b c h1 h2 h.1 w
      · rw [h.1]; exact rcheck_f op a b c h1 h2 h.1 w
      · rw [h.1]; exact rcheck_z op a b c h1 h2 h.1 w
end Go.Proofs.Ytboiogjklecpaaa
