/- Package deque: the document's walk beside the program's, but for what is not told yet. No program in sight. -/
import Derived.Test.YtofnjapgacgdlaaDq6
set_option linter.unusedVariables false
set_option linter.unusedSimpArgs false
namespace Go.Proofs.Ytofnjapgacgdlaa
open Go.RowKit
set_option maxHeartbeats 4000000
/-- What the document's walk has in place of x. -/
def RefX (s : WS) (y : Int) : Prop := y = s.x ∨ (s.got = false ∧ 10 ≤ s.pc)
theorem rel_step (B : Nat) (D : Int) (s : WS) (m : List Int) (y : Int) (hy : RefX s y) (hp : pcOk s.pc) : ∃ y', stepW B D { s with x := y } m = ({ (stepW B D s m).1 with x := y' }, (stepW B D s m).2) ∧ RefX (stepW B D s m).1 y' := by
  obtain ⟨pc, t, x, h, n, got, full⟩ := s
  by_cases hlt : pc < 10
  · have : y = x := by
      rcases hy with e | ⟨_, e⟩
      · exact e
      · dsimp only at e; omega
    subst this
    refine ⟨(stepW B D ⟨pc, t, y, h, n, got, full⟩ m).1.x, rfl, .inl rfl⟩
  · unfold RefX at *
    dsimp only at *
    have keep : ∀ g : Bool, ∀ p : Nat, 10 ≤ p → g = got → y = x ∨ (g = false ∧ 10 ≤ p) := fun g p hp hg => by
      rcases hy with e | ⟨e, _⟩
      · exact .inl e
      · exact .inr ⟨hg.trans e, hp⟩
    rcases pc_cases hp with rfl | rfl | rfl | rfl | rfl | rfl | rfl | rfl | rfl | rfl | rfl | rfl | rfl | rfl | rfl | rfl | rfl | rfl | rfl | rfl | rfl | rfl
    · omega
    · omega
    · omega
    · exact ⟨y, by rw [st10, st10], by rw [st10]; exact keep _ _ (by dsimp only; omega) rfl⟩
    · by_cases c : m.getD B 0 ≤ wrap64 (t - 1)
      · exact ⟨y, by rw [st11y _ _ _ _ _ _ _ _ _ c, st11y _ _ _ _ _ _ _ _ _ c], by rw [st11y _ _ _ _ _ _ _ _ _ c]; exact keep _ _ (by dsimp only; omega) rfl⟩
      · exact ⟨y, by rw [st11n _ _ _ _ _ _ _ _ _ c, st11n _ _ _ _ _ _ _ _ _ c], by rw [st11n _ _ _ _ _ _ _ _ _ c]; exact keep _ _ (by dsimp only; omega) rfl⟩
    · exact ⟨y, by rw [st12, st12], by rw [st12]; exact keep _ _ (by dsimp only; omega) rfl⟩
    · exact ⟨y, by rw [st13, st13], by rw [st13]; exact keep _ _ (by dsimp only; omega) rfl⟩
    · by_cases c : m.getD (B + 3) 0 = n
      · exact ⟨y, by rw [st14y _ _ _ _ _ _ _ _ _ c, st14y _ _ _ _ _ _ _ _ _ c], by rw [st14y _ _ _ _ _ _ _ _ _ c]; exact keep _ _ (by dsimp only; omega) rfl⟩
      · exact ⟨y, by rw [st14n _ _ _ _ _ _ _ _ _ c, st14n _ _ _ _ _ _ _ _ _ c], by rw [st14n _ _ _ _ _ _ _ _ _ c]; exact keep _ _ (by dsimp only; omega) rfl⟩
    · exact ⟨y, by rw [st15, st15], by rw [st15]; exact keep _ _ (by dsimp only; omega) rfl⟩
    · by_cases c : m.getD B 0 ≤ wrap64 (t - 1)
      · exact ⟨y, by rw [st16y _ _ _ _ _ _ _ _ _ c, st16y _ _ _ _ _ _ _ _ _ c], by rw [st16y _ _ _ _ _ _ _ _ _ c]; exact keep _ _ (by dsimp only; omega) rfl⟩
      · exact ⟨y, by rw [st16n _ _ _ _ _ _ _ _ _ c, st16n _ _ _ _ _ _ _ _ _ c], by rw [st16n _ _ _ _ _ _ _ _ _ c]; exact keep _ _ (by dsimp only; omega) rfl⟩
    · exact ⟨y, by rw [st17, st17], by rw [st17]; exact keep _ _ (by dsimp only; omega) rfl⟩
    · exact ⟨y, by rw [st18, st18], by rw [st18]; exact keep _ _ (by dsimp only; omega) rfl⟩
    · exact ⟨y, by rw [st19, st19], by rw [st19]; exact keep _ _ (by dsimp only; omega) rfl⟩
    · exact ⟨_, rfl, .inl rfl⟩
    · exact ⟨y, by rw [st30, st30], by rw [st30]; exact keep _ _ (by dsimp only; omega) rfl⟩
    · by_cases c : m.getD (B + 3) 0 = n
      · exact ⟨y, by rw [st31y _ _ _ _ _ _ _ _ _ c, st31y _ _ _ _ _ _ _ _ _ c], by rw [st31y _ _ _ _ _ _ _ _ _ c]; exact keep _ _ (by dsimp only; omega) rfl⟩
      · exact ⟨y, by rw [st31n _ _ _ _ _ _ _ _ _ c, st31n _ _ _ _ _ _ _ _ _ c], by rw [st31n _ _ _ _ _ _ _ _ _ c]; exact keep _ _ (by dsimp only; omega) rfl⟩
    · exact ⟨y, by rw [st32, st32], by rw [st32]; exact keep _ _ (by dsimp only; omega) rfl⟩
    · exact ⟨y, by rw [st33, st33], by rw [st33]; exact keep _ _ (by dsimp only; omega) rfl⟩
    · by_cases c : wrap64 (h + 1) ≤ m.getD (B + 1) 0
      · exact ⟨y, by rw [st34y _ _ _ _ _ _ _ _ _ c, st34y _ _ _ _ _ _ _ _ _ c], by rw [st34y _ _ _ _ _ _ _ _ _ c]; exact keep _ _ (by dsimp only; omega) rfl⟩
      · exact ⟨y, by rw [st34n _ _ _ _ _ _ _ _ _ c, st34n _ _ _ _ _ _ _ _ _ c], by rw [st34n _ _ _ _ _ _ _ _ _ c]; exact keep _ _ (by dsimp only; omega) rfl⟩
    · exact ⟨y, by rw [st35, st35], by rw [st35]; exact keep _ _ (by dsimp only; omega) rfl⟩
    · exact ⟨y, by rw [st36, st36], by rw [st36]; exact keep _ _ (by dsimp only; omega) rfl⟩
    · exact ⟨_, rfl, .inl rfl⟩
/-- What is told is the same. -/
theorem rel_told {s : WS} {y : Int} (hy : RefX s y) (h : s.got = true) : y = s.x := by
  rcases hy with e | ⟨e, _⟩
  · exact e
  · rw [h] at e; cases e
end Go.Proofs.Ytofnjapgacgdlaa
