/- Package build: functions that are put together, beside the document's answer. No program in sight. -/
import Derived.Test.YtboiogjklecpaaaPgmSpec
set_option linter.unusedVariables false
set_option linter.unusedSimpArgs false
namespace Go.Proofs.Ytboiogjklecpaaa
open Go.RowKit
/-- A step: Kind 0 Func, 1 Add of x, 2 Label of name, 3 Goto, 4 IfZero of reg. -/
structure BO where
  kind : Nat
  reg : Int
  name : ByteArray
  x : I4
/-- A function that is put together. -/
structure BF where
  code : List I4
  labels : List (ByteArray × Nat)
  jumps : List (Nat × ByteArray)
def BF.none_ : BF := ⟨[], [], []⟩
def lookB (ls : List (ByteArray × Nat)) (n : ByteArray) : Option Nat := (ls.find? fun p => decide (p.1 = n)).map (·.2)
def BF.step (f : BF) (o : BO) : BF :=
  if o.kind = 1 then { f with code := f.code ++ [o.x] }
  else if o.kind = 2 then (if (lookB f.labels o.name).isSome = true then f else { f with labels := f.labels ++ [(o.name, f.code.length)] })
  else if o.kind = 3 then ⟨f.code ++ [(18, 0, 0, 0)], f.labels, f.jumps ++ [(f.code.length, o.name)]⟩
  else ⟨f.code ++ [(19, o.reg, 0, 0)], f.labels, f.jumps ++ [(f.code.length, o.name)]⟩
def bfOf (os : List BO) : BF := os.foldl BF.step BF.none_
def patch1 (x : I4) (n : Nat) : I4 := if x.1 = 18 then (x.1, (n : Int), x.2.2.1, x.2.2.2) else (x.1, x.2.1, (n : Int), x.2.2.2)
def patchP (lk : ByteArray → Option Nat) : List (Nat × ByteArray) → List I4 → Option (List I4)
  | [], l => some l
  | (a, nm) :: js, l => match lk nm with
    | none => none
    | some n => patchP lk js (l.set a (patch1 (l.getD a (0, 0, 0, 0)) n))
def doneB (f : BF) : Option (List I4) := patchP (lookB f.labels) f.jumps f.code
/-- The document's: what a step leaves of code, where each label stands being told. -/
def refOne (lk : ByteArray → Option Nat) (o : BO) : Option (List I4) :=
  if o.kind = 1 then some [o.x] else if o.kind = 2 then some []
  else if o.kind = 3 then (lk o.name).map (fun (n : Nat) => [((18 : Int), (n : Int), (0 : Int), (0 : Int))]) else (lk o.name).map (fun (n : Nat) => [((19 : Int), o.reg, (n : Int), (0 : Int))])
def appO (a b : Option (List I4)) : Option (List I4) := match a, b with
  | some l, some r => some (l ++ r)
  | _, _ => none
def refC (lk : ByteArray → Option Nat) (os : List BO) : Option (List I4) := os.foldl (fun a o => appO a (refOne lk o)) (some [])
def placeB (at_ : Nat) : List BO → ByteArray → Option Nat
  | [], _ => none
  | o :: os, n => if o.kind = 2 ∧ o.name = n then some at_ else placeB (if o.kind = 2 then at_ else at_ + 1) os n
theorem place_cons (a : Nat) (o : BO) (os : List BO) (n : ByteArray) : placeB a (o :: os) n = if o.kind = 2 ∧ o.name = n then some a else placeB (if o.kind = 2 then a else a + 1) os n := rfl
def OkB (os : List BO) : Prop := ∀ o ∈ os, o.kind = 1 ∨ o.kind = 2 ∨ o.kind = 3 ∨ o.kind = 4
theorem refC_snoc (lk : ByteArray → Option Nat) (os : List BO) (o : BO) : refC lk (os ++ [o]) = appO (refC lk os) (refOne lk o) := by
  unfold refC; rw [List.foldl_append]; rfl
theorem bf_snoc (os : List BO) (o : BO) : bfOf (os ++ [o]) = (bfOf os).step o := by
  unfold bfOf; rw [List.foldl_append]; rfl
theorem look_snoc (ls : List (ByteArray × Nat)) (k n : ByteArray) (v : Nat) : lookB (ls ++ [(k, v)]) n = (match lookB ls n with | some a => some a | none => if k = n then some v else none) := by
  unfold lookB
  rw [List.find?_append]
  cases h : ls.find? (fun p => decide (p.1 = n)) with
  | some a => simp
  | none =>
    simp only [Option.none_or, Option.map_none]
    by_cases e : k = n
    · rw [if_pos e, List.find?_cons_of_pos (by simpa using e)]; rfl
    · rw [if_neg e, List.find?_cons_of_neg (by simpa using e)]; rfl
theorem look_fold (n : ByteArray) : ∀ (os : List BO) (f : BF), lookB (os.foldl BF.step f).labels n = (match lookB f.labels n with | some a => some a | none => placeB f.code.length os n)
  | [], f => by
    show lookB f.labels n = _
    cases lookB f.labels n <;> rfl
  | o :: os, f => by
    rw [List.foldl_cons, look_fold n os (f.step o), place_cons]
    unfold BF.step
    by_cases h1 : o.kind = 1
    · rw [if_pos h1, if_neg (by rw [h1]; simp), if_neg (by omega)]
      dsimp only
      rw [List.length_append, List.length_singleton]
    rw [if_neg h1]
    by_cases h2 : o.kind = 2
    · rw [if_pos h2, if_pos h2]
      cases hl : lookB f.labels o.name with
      | some a =>
        rw [if_pos (show (some a).isSome = true from rfl)]
        cases hn : lookB f.labels n with
        | some b => rfl
        | none =>
          have e : ¬ (o.kind = 2 ∧ o.name = n) := by
            rintro ⟨_, e⟩
            rw [e, hn] at hl
            cases hl
          rw [if_neg e]
      | none =>
        rw [if_neg (show ¬ (none : Option Nat).isSome = true by decide)]
        dsimp only
        rw [look_snoc]
        cases hn : lookB f.labels n with
        | some b => rfl
        | none =>
          by_cases e : o.name = n
          · rw [if_pos (show o.kind = 2 ∧ o.name = n from ⟨h2, e⟩), if_pos e]
          · rw [if_neg (fun h : o.kind = 2 ∧ o.name = n => e h.2), if_neg e]
    · rw [if_neg h2, if_neg (fun h : o.kind = 2 ∧ o.name = n => h2 h.1), if_neg h2]
      by_cases h3 : o.kind = 3
      · rw [if_pos h3]
        dsimp only
        rw [List.length_append, List.length_singleton]
      · rw [if_neg h3]
        dsimp only
        rw [List.length_append, List.length_singleton]
theorem look_bf (os : List BO) : lookB (bfOf os).labels = placeB 0 os := by
  funext n
  have := look_fold n os BF.none_
  exact this
theorem patch_len {lk : ByteArray → Option Nat} : ∀ {js : List (Nat × ByteArray)} {l l' : List I4}, patchP lk js l = some l' → l'.length = l.length
  | [], l, l', h => by unfold patchP at h; cases h; rfl
  | (a, nm) :: js, l, l', h => by
    unfold patchP at h
    split at h
    · cases h
    · rw [patch_len h, List.length_set]
theorem patch_app {lk : ByteArray → Option Nat} (r : List I4) : ∀ (js : List (Nat × ByteArray)) (l : List I4), (∀ p ∈ js, p.1 < l.length) → patchP lk js (l ++ r) = (patchP lk js l).map (· ++ r)
  | [], l, _ => rfl
  | (a, nm) :: js, l, h => by
    unfold patchP
    have ha : a < l.length := h (a, nm) (by simp)
    cases lk nm with
    | none => rfl
    | some n =>
      dsimp only
      rw [List.set_append_left _ _ ha]
      rw [show (l ++ r).getD a (0, 0, 0, 0) = l.getD a (0, 0, 0, 0) by rw [List.getD_eq_getElem?_getD, List.getElem?_append_left ha, ← List.getD_eq_getElem?_getD]]
      exact patch_app r js _ (fun p hp => by rw [List.length_set]; exact h p (by simp [hp]))
theorem patch_snoc {lk : ByteArray → Option Nat} (a : Nat) (nm : ByteArray) : ∀ (js : List (Nat × ByteArray)) (l : List I4), patchP lk (js ++ [(a, nm)]) l = (match patchP lk js l with | none => none | some l' => (lk nm).map fun n => l'.set a (patch1 (l'.getD a (0, 0, 0, 0)) n))
  | [], l => by
    show patchP lk [(a, nm)] l = _
    unfold patchP
    cases lk nm <;> rfl
  | (b, m) :: js, l => by
    show patchP lk ((b, m) :: (js ++ [(a, nm)])) l = _
    unfold patchP
    cases lk m with
    | none => rfl
    | some n => exact patch_snoc a nm js _
theorem snoc_ind {α : Type} {p : List α → Prop} (h0 : p []) (h1 : ∀ l a, p l → p (l ++ [a])) : ∀ l, p l := by
  intro l
  have : ∀ n (l : List α), l.length = n → p l := by
    intro n
    induction n with
    | zero => intro l hl; rw [List.eq_nil_of_length_eq_zero hl]; exact h0
    | succ n ih =>
      intro l hl
      have hne : l ≠ [] := by intro e; rw [e] at hl; cases hl
      rw [← List.dropLast_concat_getLast hne]
      exact h1 _ _ (ih _ (by rw [List.length_dropLast]; omega))
  exact this _ l rfl
theorem jumps_lt (os : List BO) : ∀ p ∈ (bfOf os).jumps, p.1 < (bfOf os).code.length := by
  refine snoc_ind (p := fun os => ∀ p ∈ (bfOf os).jumps, p.1 < (bfOf os).code.length) ?_ (fun os o ih => ?_) os
  · intro p hp; cases hp
  · rw [bf_snoc]
    intro p hp
    unfold BF.step at hp ⊢
    split at hp
    · rename_i h1; rw [if_pos h1]; have := ih p hp; simp; omega
    · rename_i h1
      rw [if_neg h1]
      split at hp
      · rename_i h2
        rw [if_pos h2]
        split at hp
        · rename_i h3; rw [if_pos h3]; exact ih p hp
        · rename_i h3; rw [if_neg h3]; exact ih p hp
      · rename_i h2
        rw [if_neg h2]
        split at hp
        · rename_i h3
          rw [if_pos h3]
          rcases List.mem_append.1 hp with hp | hp
          · have := ih p hp; simp; omega
          · simp at hp; subst hp; simp
        · rename_i h3
          rw [if_neg h3]
          rcases List.mem_append.1 hp with hp | hp
          · have := ih p hp; simp; omega
          · simp at hp; subst hp; simp
theorem getD_app_end (l : List I4) (x : I4) : (l ++ [x]).getD l.length (0, 0, 0, 0) = x := by
  rw [List.getD_eq_getElem?_getD, List.getElem?_concat_length]; rfl
theorem set_app_end (l : List I4) (x y : I4) : (l ++ [x]).set l.length y = l ++ [y] := by
  rw [List.set_append_right _ _ (Nat.le_refl _), Nat.sub_self]; rfl
theorem done_jump {lk : ByteArray → Option Nat} {js : List (Nat × ByteArray)} {l : List I4} (hj : ∀ p ∈ js, p.1 < l.length) (x : I4) (nm : ByteArray) : patchP lk (js ++ [(l.length, nm)]) (l ++ [x]) = appO (patchP lk js l) ((lk nm).map fun n => [patch1 x n]) := by
  rw [patch_snoc, patch_app _ _ _ hj]
  cases h : patchP lk js l with
  | none => rfl
  | some l' =>
    have hl := patch_len h
    cases lk nm with
    | none => rfl
    | some n =>
      show some ((l' ++ [x]).set l.length (patch1 ((l' ++ [x]).getD l.length (0, 0, 0, 0)) n)) = some (l' ++ [patch1 x n])
      rw [← hl, getD_app_end, set_app_end]
theorem done_ref (lk : ByteArray → Option Nat) (os : List BO) (hk : OkB os) : patchP lk (bfOf os).jumps (bfOf os).code = refC lk os := by
  refine snoc_ind (p := fun os => OkB os → patchP lk (bfOf os).jumps (bfOf os).code = refC lk os) ?_ (fun os o ih hk => ?_) os hk
  · intro _; rfl
  · have ih' := ih (fun o' ho' => hk o' (by simp [ho']))
    have hj := jumps_lt os
    rw [bf_snoc, refC_snoc, ← ih']
    unfold BF.step refOne
    rcases hk o (by simp) with h | h | h | h
    · rw [if_pos h, if_pos h]
      dsimp only
      rw [patch_app _ _ _ hj]
      cases patchP lk (bfOf os).jumps (bfOf os).code <;> rfl
    · have hn1 : ¬ o.kind = 1 := by omega
      rw [if_neg hn1, if_pos h, if_neg hn1, if_pos h]
      have e0 : ∀ a : Option (List I4), appO a (some []) = a := fun a => by cases a <;> simp [appO]
      rw [e0]
      by_cases hs : (lookB (bfOf os).labels o.name).isSome = true
      · rw [if_pos hs]
      · rw [if_neg hs]
    · have hn1 : ¬ o.kind = 1 := by omega
      have hn2 : ¬ o.kind = 2 := by omega
      rw [if_neg hn1, if_neg hn2, if_pos h, if_neg hn1, if_neg hn2, if_pos h]
      dsimp only
      rw [done_jump hj]
      rfl
    · have hn1 : ¬ o.kind = 1 := by omega
      have hn2 : ¬ o.kind = 2 := by omega
      have hn3 : ¬ o.kind = 3 := by omega
      rw [if_neg hn1, if_neg hn2, if_neg hn3, if_neg hn1, if_neg hn2, if_neg hn3]
      dsimp only
      rw [done_jump hj]
      rfl
theorem done_bf (os : List BO) (hk : OkB os) : doneB (bfOf os) = refC (placeB 0 os) os := by
  unfold doneB
  rw [look_bf]
  exact done_ref _ os hk
/-- A builder: its functions, one after the other. -/
def bstep (B : List BF) (o : BO) : List BF := if o.kind = 0 then B ++ [BF.none_] else match B.getLast? with
  | none => B
  | some f => B.dropLast ++ [f.step o]
def bans (B : List BF) (o : BO) : Int := if o.kind = 0 then (B.length : Int) else match B.getLast? with
  | none => if o.kind = 1 then -1 else if o.kind = 2 then -4 else 0
  | some f => if o.kind = 1 then (f.code.length : Int) + 1 else if o.kind = 2 then (if (lookB f.labels o.name).isSome = true then -3 else -2) else 0
def bld (os : List BO) : List BF := os.foldl bstep []
theorem bld_snoc (os : List BO) (o : BO) : bld (os ++ [o]) = bstep (bld os) o := by
  unfold bld; rw [List.foldl_append]; rfl
/-- The steps of one function. -/
def ownO (os : List BO) : List BO := os.takeWhile fun o => decide (o.kind ≠ 0)
def segB : List BO → List BF
  | [] => []
  | o :: os => if o.kind = 0 then bfOf (ownO os) :: segB os else segB os
theorem fold_seg : ∀ (os : List BO) (B : List BF) (f : BF), os.foldl bstep (B ++ [f]) = B ++ ((ownO os).foldl BF.step f) :: segB os
  | [], B, f => rfl
  | o :: os, B, f => by
    rw [List.foldl_cons]
    unfold segB
    by_cases h : o.kind = 0
    · rw [if_pos h]
      have e1 : bstep (B ++ [f]) o = (B ++ [f]) ++ [BF.none_] := by unfold bstep; rw [if_pos h]
      have e2 : ownO (o :: os) = [] := by unfold ownO; rw [List.takeWhile_cons_of_neg (by simpa using h)]
      rw [e1, fold_seg os, e2]
      simp [bfOf]
    · rw [if_neg h]
      have e1 : bstep (B ++ [f]) o = B ++ [f.step o] := by unfold bstep; rw [if_neg h]; simp
      have e2 : ownO (o :: os) = o :: ownO os := by unfold ownO; rw [List.takeWhile_cons_of_pos (by simpa using h)]
      rw [e1, fold_seg os, e2]
      rfl
theorem bld_seg : ∀ os : List BO, bld os = segB os
  | [] => rfl
  | o :: os => by
    unfold bld segB
    rw [List.foldl_cons]
    by_cases h : o.kind = 0
    · rw [if_pos h]
      have e1 : bstep [] o = [] ++ [BF.none_] := by unfold bstep; rw [if_pos h]
      rw [e1, fold_seg]
      rfl
    · rw [if_neg h]
      have e1 : bstep [] o = [] := by unfold bstep; rw [if_neg h]; rfl
      rw [e1]
      exact bld_seg os
def allB : List BF → Option (List (List I4))
  | [] => some []
  | f :: fs => match doneB f with
    | none => none
    | some c => (allB fs).map (c :: ·)
/-- The document's functions. -/
def refE : List BO → Option (List (List I4))
  | [] => some []
  | o :: os => if o.kind = 0 then (match refC (placeB 0 (ownO os)) (ownO os) with
    | none => none
    | some c => (refE os).map (c :: ·)) else refE os
theorem own_nz : ∀ (os : List BO), ∀ o ∈ ownO os, o.kind ≠ 0
  | [], o, h => by cases h
  | p :: os, o, h => by
    unfold ownO at h
    by_cases e : p.kind = 0
    · rw [List.takeWhile_cons_of_neg (by simpa using e)] at h; cases h
    · rw [List.takeWhile_cons_of_pos (by simpa using e)] at h
      rcases List.mem_cons.1 h with rfl | h
      · exact e
      · exact own_nz os o h
theorem own_ok {os : List BO} (h : ∀ o ∈ os, o.kind ≤ 4) : OkB (ownO os) := by
  intro o ho
  have h2 := own_nz os o ho
  unfold ownO at ho
  have h1 := h o ((List.takeWhile_sublist _).subset ho)
  omega
theorem all_ref : ∀ {os : List BO}, (∀ o ∈ os, o.kind ≤ 4) → allB (segB os) = refE os
  | [], _ => rfl
  | o :: os, h => by
    have h' : ∀ o ∈ os, o.kind ≤ 4 := fun o ho => h o (by simp [ho])
    unfold segB refE
    by_cases h0 : o.kind = 0
    · rw [if_pos h0, if_pos h0]
      unfold allB
      rw [done_bf _ (own_ok h'), all_ref h']
    · rw [if_neg h0, if_neg h0]
      exact all_ref h'
/-- What comes of all: the memory, the functions, the error. -/
def endB (mem : Int) (B : List BF) : Int × List (List I4) × Int := match allB B with
  | none => (0, [], 7)
  | some fs => if checkP mem fs ≠ 0 then (0, [], checkP mem fs) else (mem, fs, 0)
def refEnd (mem : Int) (os : List BO) : Int × List (List I4) × Int := match refE os with
  | none => (0, [], 7)
  | some fs => if checkP mem fs ≠ 0 then (0, [], checkP mem fs) else (mem, fs, 0)
theorem end_ref (mem : Int) {os : List BO} (h : ∀ o ∈ os, o.kind ≤ 4) : endB mem (bld os) = refEnd mem os := by
  unfold endB refEnd
  rw [bld_seg, all_ref h]
def ansL : List BO → List BO → List Int
  | _, [] => []
  | pre, o :: os => bans (bld pre) o :: ansL (pre ++ [o]) os
end Go.Proofs.Ytboiogjklecpaaa
