/- Package ins: forms, letters, names. -/
import Derived.Test.YtboiogjklecpaaaInsSpec
import Derived.Test.YtboiogjklecpaaaBitsRef
import Derived.Deep.Cut
import Derived.Deep.CutRange
import Derived.Deep.CutBlock
set_option linter.unusedVariables false
set_option linter.unusedSimpArgs false
namespace Go.Proofs.Ytboiogjklecpaaa
open Go.RowKit
set_option maxRecDepth 100000
set_option maxHeartbeats 8000000
theorem form_any (op : Int) (w : World) : Calls Try.prog 18 #[.int .i64 op] w fun e w' => e = .returned (.string ⟨(formL op).toArray⟩) ∧ w = w' := by
  rcases (show (3 ≤ op ∧ op ≤ 12) ∨ op = 15 ∨ op = 16 ∨ op = 2 ∨ op = 13 ∨ op = 14 ∨ op = 17 ∨ op = 23 ∨ op = 24 ∨ op = 1 ∨ op = 19 ∨ op = 18 ∨ op = 20 ∨ op = 22 ∨ op = 0 ∨ op = 21 ∨ op < 0 ∨ 25 ≤ op by omega) with h | rfl | rfl | rfl | rfl | rfl | rfl | rfl | rfl | rfl | rfl | rfl | rfl | rfl | rfl | rfl | h | h
  all_goals
    go_enter Try.func18, Try.ntmps18
    go_wp2
    go_ret
    exact ⟨by unfold formL; (repeat' split) <;> first | rfl | (exfalso; omega), rfl⟩
theorem fields_any (op a b c : Int) (w : World) : Calls Try.prog 51 #[.agg #[.int .i64 op, .int .i64 a, .int .i64 b, .int .i64 c]] w fun e w' => e = .returned (.agg #[.int .i64 a, .int .i64 b, .int .i64 c]) ∧ Below w.heap.size w w' := by
  go_enter Try.func51, Try.ntmps51
  go_wp2
  exact bodyPost_ret (v := .agg #[.int .i64 a, .int .i64 b, .int .i64 c]) (by simp [results, Try.results51, go_sem]) rfl ⟨rfl, by go_grown⟩
theorem fits_letter (c : UInt8) (n : Int) (w : World) : Calls Try.prog 59 #[.int .u8 c.toNat, .int .i64 n] w fun e w' => e = .returned (.bool (fitB c n)) ∧ w = w' := by
  by_cases h1 : c = 114
  · subst h1
    by_cases a1 : 0 ≤ n <;> by_cases a2 : n ≤ 7
    all_goals
      go_enter Try.func59, Try.ntmps59
      go_wp2
      go_ret
      exact ⟨ret_bool (by unfold fitB; simp <;> omega), rfl⟩
  · by_cases h2 : c = 102
    · subst h2
      by_cases a1 : 0 ≤ n <;> by_cases a2 : n ≤ 15
      all_goals
        go_enter Try.func59, Try.ntmps59
        go_wp2
        go_ret
        exact ⟨ret_bool (by unfold fitB; simp <;> omega), rfl⟩
    · by_cases h3 : c = 116
      · subst h3
        by_cases a1 : 0 ≤ n <;> by_cases a2 : n ≤ 199
        all_goals
          go_enter Try.func59, Try.ntmps59
          go_wp2
          go_ret
          exact ⟨ret_bool (by unfold fitB; simp <;> omega), rfl⟩
      · have n1 : (c.toNat : Int) ≠ 114 := fun h => h1 (UInt8.toNat_inj.1 (by simpa using (show c.toNat = 114 by omega)))
        have n2 : (c.toNat : Int) ≠ 102 := fun h => h2 (UInt8.toNat_inj.1 (by simpa using (show c.toNat = 102 by omega)))
        have n3 : (c.toNat : Int) ≠ 116 := fun h => h3 (UInt8.toNat_inj.1 (by simpa using (show c.toNat = 116 by omega)))
        by_cases a1 : -32768 ≤ n <;> by_cases a2 : n ≤ 32767
        all_goals
          first
            | (exfalso; omega)
            | (go_enter Try.func59, Try.ntmps59
               go_wp2
               go_ret
               exact ⟨ret_bool (by unfold fitB; simp [h1, h2, h3] <;> omega), rfl⟩)
theorem wide_any (c : UInt8) (w : World) : Calls Try.prog 53 #[.int .u8 c.toNat] w fun e w' => e = .returned (.int .i64 (wideL c)) ∧ w = w' := by
  by_cases h1 : c = 110
  · subst h1
    go_enter Try.func53, Try.ntmps53
    go_wp2
    go_ret
    exact ⟨by simp [wideL], rfl⟩
  · by_cases h2 : c = 116
    · subst h2
      go_enter Try.func53, Try.ntmps53
      go_wp2
      go_ret
      exact ⟨by simp [wideL], rfl⟩
    · have n1 : ((c.toNat : Int) == 110) = false := beq_eq_false_iff_ne.2 fun h => h1 (UInt8.toNat_inj.1 (by simpa using (show c.toNat = 110 by omega)))
      have n2 : ((c.toNat : Int) == 116) = false := beq_eq_false_iff_ne.2 fun h => h2 (UInt8.toNat_inj.1 (by simpa using (show c.toNat = 116 by omega)))
      go_enter Try.func53, Try.ntmps53
      go_wp2
      go_ret
      exact ⟨by simp [wideL, h1, h2], rfl⟩
end Go.Proofs.Ytboiogjklecpaaa
