/- A store that is none. -/
import Derived.Test.YtpijgjalabocpaaStoreDo
set_option linter.unusedVariables false
set_option linter.unusedSimpArgs false
namespace Go.Proofs.Ytpijgjalabocpaa
open Go.RowKit
set_option maxHeartbeats 2000000
set_option maxRecDepth 100000
theorem word_none (k : Int) (wr : Bool) (w : World) : Calls Try.prog 40 #[.pointer none, .int .i64 k, .bool wr] w fun e w' => e = .returned (.pointer none) ∧ w = w' := by
  by_cases hl : k < 0
  · have g1 : decide (k < 0) = true := by simp; omega
    go_enter Try.func40, Try.ntmps40
    go_wp2
    go_ret
    exact ⟨rfl, rfl⟩
  · have g1 : decide (k < 0) = false := by simp; omega
    have g2 : decide ((0 : Int) ≤ k) = true := by simp; omega
    go_enter Try.func40, Try.ntmps40
    go_wp2_with (first | (go_at_call 27; refine (size_none _).mono ?_; rintro e w1 ⟨rfl, rfl⟩))
    go_ret
    exact ⟨rfl, rfl⟩
theorem load_none (k : Int) (w : World) : Calls Try.prog 17 #[.pointer none, .int .i64 k] w fun e w' => e = .returned (.tuple #[.int .i64 0, .bool false]) ∧ w = w' := by
  go_enter Try.func17, Try.ntmps17
  go_wp2_with (first | (go_at_call 40; refine (word_none _ _ _).mono ?_; rintro e w1 ⟨rfl, rfl⟩))
  go_ret2
  exact ⟨rfl, rfl⟩
theorem store_none (k n : Int) (w : World) : Calls Try.prog 19 #[.pointer none, .int .i64 k, .int .i64 n] w fun e w' => e = .returned (.bool false) ∧ w = w' := by
  go_enter Try.func19, Try.ntmps19
  go_wp2_with (first | (go_at_call 40; refine (word_none _ _ _).mono ?_; rintro e w1 ⟨rfl, rfl⟩))
  go_ret
  exact ⟨rfl, rfl⟩
theorem add_none (k n : Int) (w : World) : Calls Try.prog 16 #[.pointer none, .int .i64 k, .int .i64 n] w fun e w' => e = .returned (.tuple #[.int .i64 0, .bool false]) ∧ w = w' := by
  go_enter Try.func16, Try.ntmps16
  go_wp2_with (first | (go_at_call 40; refine (word_none _ _ _).mono ?_; rintro e w1 ⟨rfl, rfl⟩))
  go_ret2
  exact ⟨rfl, rfl⟩
theorem swap_none (k o n : Int) (w : World) : Calls Try.prog 39 #[.pointer none, .int .i64 k, .int .i64 o, .int .i64 n] w fun e w' => e = .returned (.tuple #[.int .i64 0, .bool false]) ∧ w = w' := by
  go_enter Try.func39, Try.ntmps39
  go_wp2_with (first | (go_at_call 40; refine (word_none _ _ _).mono ?_; rintro e w1 ⟨rfl, rfl⟩))
  go_ret2
  exact ⟨rfl, rfl⟩
theorem hook_none (v : Value) (w : World) : Calls Try.prog 21 #[.pointer none, v] w fun e w' => e = .returned (.tuple #[]) ∧ w = w' := by
  go_enter Try.func21, Try.ntmps21
  go_wp2
  go_end0
  exact ⟨rfl, rfl⟩
theorem all_none (w : World) : Calls Try.prog 18 #[.pointer none] w fun e w' => e = .returned (.slice none 0 0) ∧ w = w' := by
  go_enter Try.func18, Try.ntmps18
  go_wp2
  go_ret
  exact ⟨rfl, rfl⟩
theorem fill_none (at_ many n : Int) (w : World) : Calls Try.prog 20 #[.pointer none, .int .i64 at_, .int .i64 many, .int .i64 n] w fun e w' => e = .returned (.tuple #[]) ∧ w = w' := by
  go_enter Try.func20, Try.ntmps20
  go_wp2_with (go_at_call 27; refine (size_none _).mono ?_; rintro e w1 ⟨rfl, rfl⟩)
  all_goals
    go_loopw [20] (fun i wr => i = .int .i64 0 ∧ w = wr) (fun _ _ => 0)
    case atStart => exact ⟨rfl, rfl⟩
    case round =>
      obtain ⟨rfl, rfl⟩ := hrel
      go_wp2_with fail
      go_end0
      exact ⟨rfl, rfl⟩
theorem do_none {w0 w : World} {l : List Ast} (h : Own w0 w l) (kd at_ n old : Int) (hk : 0 ≤ kd ∧ kd ≤ 4) (t : Bool) (ht : (kd == 4) = t) :
    Calls Try.prog 26 #[.pointer none, .agg #[.int .i64 kd, .int .i64 at_, .int .i64 n, .int .i64 old]] w fun e w' => e = .returned (.tuple #[.int .i64 0, .bool t]) ∧ Own w0 w' l := by
  have hE := (h.box #[.int .i64 kd, .int .i64 at_, .int .i64 n, .int .i64 old] 43).pop
  have hc : kd = 0 ∨ kd = 1 ∨ kd = 2 ∨ kd = 3 ∨ kd = 4 := by omega
  clear h
  rcases hc with rfl | rfl | rfl | rfl | rfl
  all_goals
    simp at ht
    subst ht
    go_enter Try.func26, Try.ntmps26
    go_wp2_with (first | (go_at_call 17; refine (load_none _ _).mono ?_; rintro e w1 ⟨rfl, rfl⟩) | (go_at_call 19; refine (store_none _ _ _).mono ?_; rintro e w1 ⟨rfl, rfl⟩) | (go_at_call 16; refine (add_none _ _ _).mono ?_; rintro e w1 ⟨rfl, rfl⟩) | (go_at_call 39; refine (swap_none _ _ _ _).mono ?_; rintro e w1 ⟨rfl, rfl⟩) | (go_at_call 20; refine (fill_none _ _ _ _).mono ?_; rintro e w1 ⟨rfl, rfl⟩))
    go_ret2
    exact ⟨rfl, hE⟩
end Go.Proofs.Ytpijgjalabocpaa
