/- In a drawn region: two operations may come up, in either order. No program in sight. -/
import Derived.Test.YtboiogjklecpaaaLin
set_option linter.unusedVariables false
set_option linter.unusedSimpArgs false
namespace Go.Proofs.Ytboiogjklecpaaa
open Go.RowKit
def pairOk (ops : Array Oper) (listed : List Bool) (i j : Nat) : Bool := Region.ready .any ops listed.toArray == [i, j] || Region.ready .any ops listed.toArray == [j, i]
section
variable {P : Program} {ops : Array Oper} {Q : Exit → Act → World → Prop} {S : World → Prop} {listed : List Bool} {i j : Nat} {oi oj o : Oper} {rest : List (Nat × Oper)} {a : Act} {w : World}
/-- What an operation that has come up is to bring about. -/
def Comes (P : Program) (ops : Array Oper) (Q : Exit → Act → World → Prop) (S : World → Prop) (o : Oper) (W : Act → World → Prop) (a : Act) (w : World) : Prop :=
  ∀ K : Act → World → Prop, Shut (∀ a w, S w → (S w → W a w) → K a w) → if Region.wanted o (yielded ops a.tmps) = true then Oper.wp P o a w K Q else K (a.put o.dst undef) w
theorem lin_pair (hr : pairOk ops listed i j = true) (h1 : Comes P ops Q S oi (wpLin P ops Q S (listed.set i true) ((j, oj) :: rest)) a w) (h2 : Comes P ops Q S oj (wpLin P ops Q S (listed.set j true) ((i, oi) :: rest)) a w) :
    wpLin P ops Q S listed ((i, oi) :: (j, oj) :: rest) a w := by
  intro hd
  have di := hd (i, oi) (by simp)
  have dj := hd (j, oj) (by simp)
  have g1 : ∀ K : Act → World → Prop, (∀ a' w', S w' → (S w' → wpAnyH P .any ops Q S ((j, oj) :: rest).length (listed.set i true).toArray a' w') → K a' w') → if Region.wanted oi (yielded ops a.tmps) = true then Oper.wp P oi a w K Q else K (a.put oi.dst undef) w := fun K hK =>
    h1 K (Lib.hid (fun a' w' hS hW => hK a' w' hS fun hS => hW hS fun p hp => hd p (by simp only [List.mem_cons] at hp ⊢; rcases hp with hp | hp <;> simp [hp])))
  have g2 : ∀ K : Act → World → Prop, (∀ a' w', S w' → (S w' → wpAnyH P .any ops Q S ((i, oi) :: rest).length (listed.set j true).toArray a' w') → K a' w') → if Region.wanted oj (yielded ops a.tmps) = true then Oper.wp P oj a w K Q else K (a.put oj.dst undef) w := fun K hK =>
    h2 K (Lib.hid (fun a' w' hS hW => hK a' w' hS fun hS => hW hS fun p hp => hd p (by simp only [List.mem_cons] at hp ⊢; rcases hp with hp | hp <;> simp [hp])))
  have c1 := fun K hK => g1 K hK
  have c2 := fun K hK => g2 K hK
  rw [List.length_cons]
  unfold pairOk at hr
  rw [Bool.or_eq_true, beq_iff_eq, beq_iff_eq] at hr
  rcases hr with hr | hr
  · refine wpAnyH_ready hr (by simp) (AllReadyH.cons di (fun K hK => ?_) (AllReadyH.cons dj (fun K hK => ?_) AllReadyH.nil))
    · refine g1 K (fun a' w' hS hW => hK.out a' w' hS fun hS => ?_)
      rw [List.setIfInBounds_toArray]; exact hW hS
    · refine g2 K (fun a' w' hS hW => hK.out a' w' hS fun hS => ?_)
      rw [List.setIfInBounds_toArray]; exact hW hS
  · refine wpAnyH_ready hr (by simp) (AllReadyH.cons dj (fun K hK => ?_) (AllReadyH.cons di (fun K hK => ?_) AllReadyH.nil))
    · refine g2 K (fun a' w' hS hW => hK.out a' w' hS fun hS => ?_)
      rw [List.setIfInBounds_toArray]; exact hW hS
    · refine g1 K (fun a' w' hS hW => hK.out a' w' hS fun hS => ?_)
      rw [List.setIfInBounds_toArray]; exact hW hS
theorem comes_law {W : Act → World → Prop} (hg : o.guard = none) (h : wpList P ops (fun e a w => e = Exit.normal ∧ (S w ∧ (S w → W a w))) [o] a w) : Comes P ops Q S o W a w := by
  intro K hK
  rw [if_pos (by simp [Region.wanted, hg])]
  refine oper_of_list (ops := ops) hg ?_
  exact wpList_weak h fun e a w ⟨he, hS, hW⟩ => ⟨he, hK.out _ _ hS hW⟩
theorem lin_swap {x y : Nat × Oper} (h : wpLin P ops Q S listed (y :: x :: rest) a w) : wpLin P ops Q S listed (x :: y :: rest) a w := by
  intro hd
  have := h fun p hp => hd p (by simp only [List.mem_cons] at hp ⊢; rcases hp with hp | hp | hp <;> simp [hp])
  simpa using this
end
theorem Own.base {w0 w : World} {l : List Ast} (h : Own w0 w l) (e : TypeId) (size : Nat) : Own w0 (w.alloc (.cells #[] e)) (l ++ [rowA e size (.slice (some ⟨w.heap.size, 0, none⟩) 0 0) 0 []]) :=
  h.row_made e size #[] 0 (by decide) (by simp)
theorem Own.lit1 {w0 w : World} {l : List Ast} (h : Own w0 w l) (e : TypeId) (v : Value) : Own w0 (w.alloc (.cells #[v] e)) (l ++ [rowA e 1 (.slice (some ⟨w.heap.size, 0, none⟩) 1 1) 1 [v]]) :=
  h.row_made e 1 #[v] 1 (by decide) (by simp)
end Go.Proofs.Ytboiogjklecpaaa
