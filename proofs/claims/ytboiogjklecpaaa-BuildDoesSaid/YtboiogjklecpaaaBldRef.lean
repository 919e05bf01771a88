/- Package build: what each step answers, as the document counts it; how large all may become. No program in sight. -/
import Derived.Test.YtboiogjklecpaaaBldSpec
set_option linter.unusedVariables false
set_option linter.unusedSimpArgs false
namespace Go.Proofs.Ytboiogjklecpaaa
open Go.RowKit
def lastB (B : List BF) : BF := B.getLast?.getD BF.none_
def namesB (B : List BF) : List ByteArray := (lastB B).labels.map (·.1)
def dfO : BO := ⟨0, 0, ⟨#[]⟩, (0, 0, 0, 0)⟩
def hasN (l : List ByteArray) (n : ByteArray) : Bool := l.any fun k => decide (k = n)
theorem look_names : ∀ (ls : List (ByteArray × Nat)) (n : ByteArray), (lookB ls n).isSome = hasN (ls.map (·.1)) n
  | [], n => rfl
  | (k, v) :: ls, n => by
    have ih := look_names ls n
    unfold lookB hasN at ih ⊢
    by_cases e : k = n
    · rw [List.find?_cons_of_pos (by simpa using e)]; simp [e]
    · rw [List.find?_cons_of_neg (by simpa using e), ih]
      simp [e]
def ansT (os : List BO) (n : Nat) : List Int := (List.range n).map fun i => bans (bld (os.take i)) (os.getD i dfO)
theorem ansT_len (os : List BO) (n : Nat) : (ansT os n).length = n := by simp [ansT]
theorem ansT_succ (os : List BO) (n : Nat) : ansT os (n + 1) = ansT os n ++ [bans (bld (os.take n)) (os.getD n dfO)] := by
  unfold ansT; rw [List.range_succ, List.map_append]; rfl
theorem ansT_get (os : List BO) {n i : Nat} (h : i < n) : (ansT os n).getD i 0 = bans (bld (os.take i)) (os.getD i dfO) := by
  unfold ansT
  rw [List.getD_eq_getElem?_getD, List.getElem?_map, List.getElem?_range h]; rfl
theorem bld_take {os : List BO} {i : Nat} (h : i < os.length) : bld (os.take (i + 1)) = bstep (bld (os.take i)) (os.getD i dfO) := by
  rw [List.take_succ_eq_append_getElem h, bld_snoc, List.getD_eq_getElem?_getD, List.getElem?_eq_getElem h]; rfl
theorem last_nil : lastB [] = BF.none_ := rfl
theorem last_app (B : List BF) (f : BF) : lastB (B ++ [f]) = f := by unfold lastB; simp
theorem split_last {B : List BF} (h : B ≠ []) : ∃ B', B = B' ++ [lastB B] := by
  refine ⟨B.dropLast, ?_⟩
  unfold lastB
  rw [List.getLast?_eq_some_getLast h]
  exact (List.dropLast_concat_getLast h).symm
theorem bstep_new (B : List BF) {o : BO} (h : o.kind = 0) : bstep B o = B ++ [BF.none_] := by unfold bstep; rw [if_pos h]
theorem bstep_nil {o : BO} (h : ¬ o.kind = 0) : bstep [] o = [] := by unfold bstep; rw [if_neg h]; rfl
theorem bstep_app (B : List BF) (f : BF) {o : BO} (h : ¬ o.kind = 0) : bstep (B ++ [f]) o = B ++ [f.step o] := by unfold bstep; rw [if_neg h]; simp
theorem bans_new (B : List BF) {o : BO} (h : o.kind = 0) : bans B o = (B.length : Int) := by unfold bans; rw [if_pos h]
theorem bans_nil {o : BO} (h : ¬ o.kind = 0) : bans [] o = if o.kind = 1 then -1 else if o.kind = 2 then -4 else 0 := by unfold bans; rw [if_neg h]; rfl
theorem bans_app (B : List BF) (f : BF) {o : BO} (h : ¬ o.kind = 0) : bans (B ++ [f]) o = if o.kind = 1 then (f.code.length : Int) + 1 else if o.kind = 2 then (if (lookB f.labels o.name).isSome = true then -3 else -2) else 0 := by
  unfold bans; rw [if_neg h]; simp
theorem step_add {f : BF} {o : BO} (h : o.kind = 1) : f.step o = { f with code := f.code ++ [o.x] } := by unfold BF.step; rw [if_pos h]
theorem step_twice {f : BF} {o : BO} (h : o.kind = 2) (ht : (lookB f.labels o.name).isSome = true) : f.step o = f := by unfold BF.step; rw [if_neg (by omega), if_pos h, if_pos ht]
theorem step_label {f : BF} {o : BO} (h : o.kind = 2) (ht : lookB f.labels o.name = none) : f.step o = { f with labels := f.labels ++ [(o.name, f.code.length)] } := by unfold BF.step; rw [if_neg (by omega), if_pos h, if_neg (by rw [ht]; decide)]
theorem step_goto {f : BF} {o : BO} (h : o.kind = 3) : f.step o = ⟨f.code ++ [(18, 0, 0, 0)], f.labels, f.jumps ++ [(f.code.length, o.name)]⟩ := by unfold BF.step; rw [if_neg (by omega), if_neg (by omega), if_pos h]
theorem step_zero {f : BF} {o : BO} (h1 : ¬ o.kind = 1) (h2 : ¬ o.kind = 2) (h3 : ¬ o.kind = 3) : f.step o = ⟨f.code ++ [(19, o.reg, 0, 0)], f.labels, f.jumps ++ [(f.code.length, o.name)]⟩ := by unfold BF.step; rw [if_neg h1, if_neg h2, if_neg h3]
/-- How large a function is at most. -/
def BF.le (f : BF) (n : Nat) : Prop := f.code.length ≤ n ∧ f.labels.length ≤ n ∧ f.jumps.length ≤ n
theorem BF.le.mono {f : BF} {n m : Nat} (h : f.le n) (hm : n ≤ m) : f.le m := ⟨Nat.le_trans h.1 hm, Nat.le_trans h.2.1 hm, Nat.le_trans h.2.2 hm⟩
theorem BF.le.step {f : BF} {n : Nat} (h : f.le n) (o : BO) : (f.step o).le (n + 1) := by
  obtain ⟨h1, h2, h3⟩ := h
  unfold BF.step BF.le
  split
  · simp; omega
  · split
    · split
      · omega
      · simp; omega
    · split <;> simp <;> omega
theorem bld_small (os : List BO) : (bld os).length ≤ os.length ∧ ∀ f ∈ bld os, f.le os.length := by
  refine snoc_ind (p := fun os => (bld os).length ≤ os.length ∧ ∀ f ∈ bld os, f.le os.length) ⟨Nat.le_refl _, fun f hf => by cases hf⟩ (fun os o ih => ?_) os
  rw [bld_snoc, List.length_append, List.length_singleton]
  obtain ⟨h1, h2⟩ := ih
  by_cases h0 : o.kind = 0
  · rw [bstep_new _ h0]
    refine ⟨by simp; omega, fun f hf => ?_⟩
    rcases List.mem_append.1 hf with hf | hf
    · exact (h2 f hf).mono (by omega)
    · simp at hf; subst hf; exact ⟨by simp [BF.none_], by simp [BF.none_], by simp [BF.none_]⟩
  · by_cases hB : bld os = []
    · rw [hB, bstep_nil h0]
      exact ⟨by simp, fun f hf => by cases hf⟩
    · obtain ⟨B', hB'⟩ := split_last hB
      generalize lastB (bld os) = f at hB'
      rw [hB'] at h1 h2 ⊢
      rw [bstep_app _ _ h0]
      simp only [List.length_append, List.length_singleton] at h1 ⊢
      refine ⟨by omega, fun g hg => ?_⟩
      rcases List.mem_append.1 hg with hg | hg
      · exact (h2 g (by simp [hg])).mono (by omega)
      · simp at hg; subst hg; exact (h2 f (by simp)).step o
theorem last_small (os : List BO) : (lastB (bld os)).le os.length := by
  by_cases h : bld os = []
  · rw [h]; exact ⟨by simp [lastB, BF.none_], by simp [lastB, BF.none_], by simp [lastB, BF.none_]⟩
  · obtain ⟨B', hB'⟩ := split_last h
    refine (bld_small os).2 _ ?_
    rw [hB', last_app]; simp
/-- What the document counts: functions, the last one's instructions, its labels. -/
theorem ref_new (B : List BF) {o : BO} (h : o.kind = 0) : bans B o = (B.length : Int) ∧ (bstep B o).length = B.length + 1 ∧ lastB (bstep B o) = BF.none_ := by
  rw [bans_new _ h, bstep_new _ h, last_app]; simp
theorem ref_none {B : List BF} {o : BO} (h : ¬ o.kind = 0) (hB : B.length = 0) : bans B o = (if o.kind = 1 then -1 else if o.kind = 2 then -4 else 0) ∧ bstep B o = B := by
  obtain rfl := List.eq_nil_of_length_eq_zero hB
  exact ⟨bans_nil h, bstep_nil h⟩
theorem ref_some {B : List BF} {o : BO} (h : ¬ o.kind = 0) (hB : ¬ B.length = 0) : bans B o = (if o.kind = 1 then ((lastB B).code.length : Int) + 1 else if o.kind = 2 then (if hasN (namesB B) o.name = true then -3 else -2) else 0) ∧ (bstep B o).length = B.length ∧ lastB (bstep B o) = (lastB B).step o := by
  obtain ⟨B', hB'⟩ := split_last (B := B) (by intro e; rw [e] at hB; exact hB rfl)
  unfold namesB
  generalize lastB B = f at hB'
  subst hB'
  rw [bans_app _ _ h, bstep_app _ _ h, last_app]
  simp only [look_names, List.length_append, List.length_singleton]
  exact ⟨trivial, trivial, trivial⟩
/-- The document's functions, one after the other. -/
theorem refE_cons (o : BO) (os : List BO) : refE (o :: os) = if o.kind = 0 then (match refC (placeB 0 (ownO os)) (ownO os) with
    | none => none
    | some c => (refE os).map (c :: ·)) else refE os := rfl
def preE (a : List (List I4)) (r : Option (List (List I4))) : Option (List (List I4)) := r.map (a ++ ·)
theorem preE_snoc (a : List (List I4)) (c : List I4) (r : Option (List (List I4))) : preE (a ++ [c]) r = preE a (r.map (c :: ·)) := by
  cases r <;> simp [preE]
def preC (a : List I4) (lk : ByteArray → Option Nat) (os : List BO) : Option (List I4) := os.foldl (fun a o => appO a (refOne lk o)) (some a)
theorem preC_nil (lk : ByteArray → Option Nat) (os : List BO) : preC [] lk os = refC lk os := rfl
theorem preC_none (lk : ByteArray → Option Nat) : ∀ os : List BO, os.foldl (fun a o => appO a (refOne lk o)) none = none
  | [] => rfl
  | o :: os => by rw [List.foldl_cons]; exact preC_none lk os
theorem preC_cons (a : List I4) (lk : ByteArray → Option Nat) (o : BO) (os : List BO) : preC a lk (o :: os) = match refOne lk o with
    | none => none
    | some c => preC (a ++ c) lk os := by
  unfold preC
  rw [List.foldl_cons]
  cases refOne lk o with
  | none => exact preC_none lk os
  | some c => rfl
theorem own_len (os : List BO) : (ownO os).length ≤ os.length := (List.takeWhile_sublist _).length_le
end Go.Proofs.Ytboiogjklecpaaa
