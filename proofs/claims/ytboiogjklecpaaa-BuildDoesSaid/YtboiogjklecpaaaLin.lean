/- In a drawn region: an operation for which there is a law of lists (append). No program in sight. -/
import Derived.Test.YtboiogjklecpaaaKit
set_option linter.unusedVariables false
set_option linter.unusedSimpArgs false
namespace Go.Proofs.Ytboiogjklecpaaa
open Go.RowKit
theorem wp_of_normal {P : Program} {o : Oper} {a : Act} {w : World} {K : Act → World → Prop} {Q : Exit → Act → World → Prop}
    (h : o.wp P a w (fun a w => Exit.normal = Exit.normal ∧ K a w) (fun e a w => e = Exit.normal ∧ K a w)) : o.wp P a w K Q := by
  unfold Oper.wp at h ⊢
  generalize (execOp a.eval o).run P w = r at h ⊢
  cases r with
  | ok n w' =>
    cases n with
    | value v => exact h.2
    | skip => exact h.2
    | defer d => exact h.2
    | enter f args =>
      refine Calls.mono h fun e w'' he => ?_
      cases e with
      | returned v => exact he.2
      | panicked chain => cases he.1
      | outgrown => obtain ⟨a, w, h0, _⟩ := he; cases h0
    | row row args => exact Rows.mono h fun v w'' he => he.2
    | _ => exact h.elim
  | halt hh w' =>
    cases hh with
    | panic v => cases h.1
    | _ => exact h.elim
theorem oper_of_list {P : Program} {ops : Array Oper} {o : Oper} {a : Act} {w : World} {K : Act → World → Prop} {Q : Exit → Act → World → Prop} (hg : o.guard = none)
    (h : wpList P ops (fun e a w => e = Exit.normal ∧ K a w) [o] a w) : o.wp P a w K Q := by
  unfold wpList at h
  rw [if_pos (by simp [Region.wanted, hg])] at h
  rcases h with h | ⟨_, a, w, h0, _⟩
  · exact wp_of_normal h
  · cases h0
theorem wp_weak {P : Program} {ops : Array Oper} {o : Oper} {a : Act} {w : World} {Q Q' : Exit → Act → World → Prop} (h : o.wp P a w (wpList P ops Q []) Q) (hq : ∀ e a w, Q e a w → Q' e a w) : o.wp P a w (wpList P ops Q' []) Q' := by
  unfold Oper.wp at h ⊢
  generalize (execOp a.eval o).run P w = r at h ⊢
  cases r with
  | ok n w' =>
    cases n with
    | value v => exact hq _ _ _ h
    | skip => exact hq _ _ _ h
    | defer d => exact hq _ _ _ h
    | enter f args =>
      refine Calls.mono h fun e w'' he => ?_
      cases e with
      | returned v => exact hq _ _ _ he
      | panicked chain => exact hq _ _ _ he
      | outgrown => obtain ⟨a, w, h0⟩ := he; exact ⟨a, w, hq _ _ _ h0⟩
    | row row args => exact Rows.mono h fun v w'' he => hq _ _ _ he
    | _ => exact h.elim
  | halt hh w' =>
    cases hh with
    | panic v => exact hq _ _ _ h
    | _ => exact h.elim
theorem wpList_weak {P : Program} {ops : Array Oper} {Q Q' : Exit → Act → World → Prop} {o : Oper} {a : Act} {w : World} (h : wpList P ops Q [o] a w) (hq : ∀ e a w, Q e a w → Q' e a w) : wpList P ops Q' [o] a w := by
  unfold wpList at h ⊢
  split
  · rename_i hw
    rw [if_pos hw] at h
    rcases h with h | ⟨h, a, w, h0⟩
    · exact .inl (wp_weak h hq)
    · exact .inr ⟨h, a, w, hq _ _ _ h0⟩
  · rename_i hw
    rw [if_neg hw] at h
    exact hq _ _ _ h
/-- The next operation alone is ready, and a law of lists tells what it does. -/
theorem lin_law {P : Program} {ops : Array Oper} {Q : Exit → Act → World → Prop} {S : World → Prop} {listed : List Bool} {i : Nat} {o : Oper} {rest : List (Nat × Oper)} {a : Act} {w : World}
    (hr : soleOk ops listed i = true) (hg : o.guard = none)
    (h : wpList P ops (fun e a w => e = Exit.normal ∧ (S w ∧ (S w → wpLin P ops Q S (listed.set i true) rest a w))) [o] a w) :
    wpLin P ops Q S listed ((i, o) :: rest) a w := by
  refine lin_sole hr fun K hK => ?_
  rw [if_pos (by simp [Region.wanted, hg])]
  refine oper_of_list (ops := ops) hg ?_
  refine wpList_weak h fun e a w ⟨he, hS, hW⟩ => ⟨he, hK.out _ _ hS hW⟩
end Go.Proofs.Ytboiogjklecpaaa
