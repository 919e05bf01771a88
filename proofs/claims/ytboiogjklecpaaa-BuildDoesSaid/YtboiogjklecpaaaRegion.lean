/- A region that draws its order, walked in the text's order, operation by operation. No program in sight. -/
import Derived.Test.YtboiogjklecpaaaBase
import Derived.OrdersHeld
set_option linter.unusedVariables false
set_option linter.unusedSimpArgs false
namespace Go.Proofs.Ytboiogjklecpaaa
open Go.RowKit
def takeOk (ops : Array Oper) (listed : List Bool) (i : Nat) : Bool := (Region.ready .any ops listed.toArray).contains i && Region.free .any ops listed.toArray i
def soleOk (ops : Array Oper) (listed : List Bool) (i : Nat) : Bool := Region.ready .any ops listed.toArray == [i]
def numbered : Nat → List Oper → List (Nat × Oper)
  | _, [] => []
  | i, o :: l => (i, o) :: numbered (i + 1) l
theorem numbered_get : ∀ (l : List Oper) (i : Nat), ∀ p ∈ numbered i l, i ≤ p.1 ∧ l[p.1 - i]? = some p.2
  | [], _, p, h => by cases h
  | o :: l, i, p, h => by
    rcases List.mem_cons.1 h with rfl | h
    · simp
    · obtain ⟨h1, h2⟩ := numbered_get l (i + 1) p h
      refine ⟨by omega, ?_⟩
      rw [show p.1 - i = (p.1 - (i + 1)) + 1 by omega]
      simpa using h2
theorem numbered_length : ∀ (l : List Oper) (i : Nat), (numbered i l).length = l.length
  | [], _ => rfl
  | o :: l, i => by simp [numbered, numbered_length l]
/-- These operations are still to come up. -/
def wpLin (P : Program) (ops : Array Oper) (Q : Exit → Act → World → Prop) (S : World → Prop) (listed : List Bool) (rest : List (Nat × Oper)) (a : Act) (w : World) : Prop :=
  (∀ p ∈ rest, ops[p.1]? = some p.2) → wpAnyH P .any ops Q S rest.length listed.toArray a w
section
variable {P : Program} {ops : Array Oper} {Q : Exit → Act → World → Prop} {S : World → Prop} {listed : List Bool} {i : Nat} {o : Oper} {rest : List (Nat × Oper)} {a : Act} {w : World}
theorem lin_rot {x : Nat × Oper} (h : wpLin P ops Q S listed (rest ++ [x]) a w) : wpLin P ops Q S listed (x :: rest) a w := by
  intro hd
  have := h fun p hp => hd p (by
    rcases List.mem_append.1 hp with hp | hp
    · exact List.mem_cons_of_mem _ hp
    · simp at hp; subst hp; exact List.mem_cons_self)
  simpa using this
theorem lin_take {v : Value} (hf : takeOk ops listed i = true) (hs : Region.noSelect ops = true) (hQ : ∀ c a w, Q (.panic c) (a.put o.dst v) w → Q (.panic c) a w)
    (hy : YieldsIf P ops S o v a) (hS : S w) (h : wpLin P ops Q S (listed.set i true) rest (a.put o.dst v) w) : wpLin P ops Q S listed ((i, o) :: rest) a w := by
  intro hd
  unfold takeOk at hf
  rw [Bool.and_eq_true] at hf
  have := h fun p hp => hd p (List.mem_cons_of_mem _ hp)
  rw [List.length_cons]
  refine wpAnyH_take (hd (i, o) List.mem_cons_self) hs hf.2 hf.1 hQ hy hS ?_
  rw [List.setIfInBounds_toArray]
  exact this
theorem lin_sole (hr : soleOk ops listed i = true)
    (h : ∀ K : Act → World → Prop, Shut (∀ a w, S w → (S w → wpLin P ops Q S (listed.set i true) rest a w) → K a w) → if Region.wanted o (yielded ops a.tmps) = true then Oper.wp P o a w K Q else K (a.put o.dst undef) w) :
    wpLin P ops Q S listed ((i, o) :: rest) a w := by
  intro hd
  unfold soleOk at hr
  rw [beq_iff_eq] at hr
  rw [List.length_cons]
  refine wpAnyH_ready hr (by simp) (AllReadyH.cons (hd (i, o) List.mem_cons_self) (fun K hK => ?_) AllReadyH.nil)
  refine h K (fun a w hS hW => hK a w hS fun hS => ?_)
  have := hW hS fun p hp => hd p (List.mem_cons_of_mem _ hp)
  rw [List.setIfInBounds_toArray]
  exact this
theorem lin_done (hr : Region.ready .any ops listed.toArray = []) (h : Q .normal a w) : wpLin P ops Q S listed [] a w :=
  fun _ => wpAnyH_done hr h _
theorem lin_start {id : Nat} (hm : P.follows .mixedOrders = true) (n : Nat) (hn : ops.size = n) (hS : S w.drew) (h : wpLin P ops Q S (List.replicate n false) (numbered 0 ops.toList) a w.drew) : (Code.region id ops true).wp P Q a w := by
  subst hn
  refine wp_region_held (S := S) hm ?_
  have := h fun p hp => by simpa using (numbered_get ops.toList 0 p hp).2
  rw [numbered_length, Array.length_toList] at this
  simpa using this
end
end Go.Proofs.Ytboiogjklecpaaa
