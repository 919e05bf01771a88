/- CrossDoes: a walk of the document, and what its next access does. No program in sight. -/
import Derived.Test.YtooofpplhedgcaaCross
import Derived.Test.YtooofpplhedgcaaWorks19
set_option linter.unusedVariables false
set_option linter.unusedSimpArgs false
namespace Go.Proofs.Ytooofpplhedgcaa
open Go.RowKit
structure CS where
  parks : Bool
  se : Int
  it : Int
  n : Int
  at_ : Nat
  st : Int
  fr : Int
  got : Bool
def ixC (it : Int) (k : Nat) : Nat := 27 + 4 * (max it 0 % 4).toNat + k
theorem ixC_lt (it : Int) {k : Nat} (h : k ≤ 3) : ixC it k < 61 := by unfold ixC; omega
theorem wordV_ix (it : Int) (k : Nat) : wordV 1 3 3 3 2 it (k : Int) = (ixC it k : Int) := by
  unfold wordV ixC
  rw [show frameV 1 3 3 3 2 = 25 by decide]
  omega
def stgT (t : Int) : Int := wT t % 1048576
/-- Of a Right: may it go on, with what it has found? -/
def mayC (s : CS) (t : Int) : Bool := nextT t s.n && (t == tokV s.se (s.it + 1) (stgT t))
def stepR (s : CS) (m : List Int) : CS × List Int :=
  if s.at_ = 0 then (if mayC s (m.getD (ixC (s.it + 1) 1) 0) = true then ({ s with at_ := 1, st := stgT (m.getD (ixC (s.it + 1) 1) 0) }, m) else ({ s with at_ := 3 }, m))
  else if s.at_ = 1 then (if m.getD (ixC (s.it + 1) 1) 0 = tokV s.se (s.it + 1) s.st then ({ s with at_ := 2 }, m.set (ixC (s.it + 1) 1) 0) else ({ s with at_ := 3 }, m))
  else if s.at_ = 2 then ({ s with at_ := 3, fr := m.getD (ixC (s.it + 1) 2) 0, got := true }, m)
  else (s, m)
def stepP (s : CS) (m : List Int) : CS × List Int :=
  if s.at_ = 0 then ({ s with at_ := 1 }, m.set (ixC s.it 1) (tokV s.se s.it s.n))
  else if s.at_ = 1 then (if s.n < m.getD (ixC (s.it - 1) 0) 0 then ({ s with at_ := 2 }, m) else ({ s with at_ := 3 }, m))
  else if s.at_ = 2 then (if m.getD (ixC s.it 1) 0 = tokV s.se s.it s.n then ({ s with at_ := 3, got := true }, m.set (ixC s.it 1) 0) else ({ s with at_ := 3, got := false }, m))
  else (s, m)
def stepC (s : CS) (m : List Int) : CS × List Int := if s.parks = true then stepP s m else stepR s m
theorem stepC_len (s : CS) (m : List Int) : (stepC s m).2.length = m.length := by
  unfold stepC stepP stepR
  repeat' split
  all_goals simp
theorem stepC_at (s : CS) (m : List Int) (h : s.at_ ≤ 3) : (stepC s m).1.at_ ≤ 3 := by
  unfold stepC stepP stepR
  repeat' split
  all_goals (try dsimp only)
  all_goals omega
theorem stepC_same (s : CS) (m : List Int) : (stepC s m).1.parks = s.parks ∧ (stepC s m).1.it = s.it ∧ (stepC s m).1.se = s.se ∧ (stepC s m).1.n = s.n := by
  unfold stepC stepP stepR
  repeat' split
  all_goals exact ⟨rfl, rfl, rfl, rfl⟩
/-- The document's cells. -/
def refCC (s : CS) : Array Value := #[.bool s.parks, .int .i64 2, .int .i64 s.se, .int .i64 s.it, .int .i64 s.n, .int .i64 (s.at_ : Int), .int .i64 s.st, .int .i64 s.fr, .bool s.got]
/-- The program's. -/
def rightC (s : CS) : Array Value := #[.int .i64 1, .int .i64 3, .int .i64 3, .int .i64 3, .int .i64 2, .int .i64 s.se, .int .i64 (s.it + 1), .int .i64 s.n, .int .i64 s.st, .int .i64 (s.at_ : Int), .int .i64 s.fr, .bool s.got]
def parkC (s : CS) : Array Value := #[.int .i64 1, .int .i64 3, .int .i64 3, .int .i64 3, .int .i64 2, .int .i64 s.se, .int .i64 s.it, .int .i64 s.n, .int .i64 (s.at_ : Int), .bool s.got]
def objC (nb : Nat) (s : CS) : Ast := if s.parks = true then cellsA nb (parkC s) 109 else cellsA nb (rightC s) 107
/-- A Right's own st is 0 until it has found a stage. -/
def OkC (s : CS) : Prop := s.at_ ≤ 3 ∧ (-1099511627776 ≤ s.it ∧ s.it ≤ 1099511627776) ∧ (s.parks = false → s.at_ = 0 → s.st = 0)
theorem OkC.step {s : CS} (h : OkC s) (m : List Int) : OkC (stepC s m).1 := by
  obtain ⟨h1, h2, h3⟩ := h
  obtain ⟨e1, e2, -, -⟩ := stepC_same s m
  refine ⟨stepC_at s m h1, by rw [e2]; exact h2, fun hp ha => ?_⟩
  rw [e1] at hp
  exfalso
  unfold stepC at ha
  rw [if_neg (by rw [hp]; decide)] at ha
  unfold stepR at ha
  split at ha
  · split at ha <;> simp at ha
  · split at ha
    · split at ha <;> simp at ha
    · split at ha
      · simp at ha
      · rename_i n0 n1 n2; exact n0 ha
theorem nextT_no_stage {s : CS} {t : Int} : (if mayC s t = true then wT t % 1048576 else 0) = (if mayC s t = true then stgT t else 0) := rfl
theorem cright {w0 w : World} {l : List Ast} {gs sb nb : Nat} {m : List Int} {s : CS} (hp : s.parks = false) (ho : OkC s) (hm : m.length = 61) (i : Nat) (hi : l[i]? = some (objC nb s)) (h : Own w0 w (storeA gs sb m :: l)) :
    Calls Try.prog 44 #[.pointer (some ⟨nb, 0, none⟩), .pointer (some ⟨gs, 0, none⟩)] w fun e w' => e = .returned (.bool (decide ((stepC s m).1.at_ = 3))) ∧ Own w0 w' (storeA gs sb (stepC s m).2 :: l.set i (objC nb (stepC s m).1)) := by
  have ok : okPlan 1 3 3 3 = true := by decide
  obtain ⟨pk, se, it, n, at_, st, fr, got⟩ := s
  dsimp only at hp
  subst hp
  obtain ⟨h1, h2, h3⟩ := ho
  dsimp only at h1 h2 h3
  have hl := ixC_lt (it + 1) (k := 1) (by omega)
  have hl2 := ixC_lt (it + 1) (k := 2) (by omega)
  unfold objC at hi
  rw [if_neg (by simp)] at hi
  have key : ∀ s' m', stepC ⟨false, se, it, n, at_, st, fr, got⟩ m = (s', m') → s'.parks = false → Calls Try.prog 44 #[.pointer (some ⟨nb, 0, none⟩), .pointer (some ⟨gs, 0, none⟩)] w (fun e w' => e = .returned (.bool (decide (s'.at_ = 3))) ∧ Own w0 w' (storeA gs sb m' :: l.set i (cellsA nb (rightC s') 107))) → Calls Try.prog 44 #[.pointer (some ⟨nb, 0, none⟩), .pointer (some ⟨gs, 0, none⟩)] w fun e w' => e = .returned (.bool (decide ((stepC ⟨false, se, it, n, at_, st, fr, got⟩ m).1.at_ = 3))) ∧ Own w0 w' (storeA gs sb (stepC ⟨false, se, it, n, at_, st, fr, got⟩ m).2 :: l.set i (objC nb (stepC ⟨false, se, it, n, at_, st, fr, got⟩ m).1)) := by
    intro s' m' e hp' hc
    rw [e]
    unfold objC
    rw [if_neg (by rw [hp']; decide)]
    exact hc
  have e0 : stepC ⟨false, se, it, n, at_, st, fr, got⟩ m = stepR ⟨false, se, it, n, at_, st, fr, got⟩ m := rfl
  have h4 : at_ = 0 ∨ at_ = 1 ∨ at_ = 2 ∨ at_ = 3 := by omega
  rcases h4 with rfl | rfl | rfl | rfl
  · obtain rfl := h3 rfl rfl
    obtain ⟨t, ht⟩ : ∃ t, m.getD (ixC (it + 1) 1) 0 = t := ⟨_, rfl⟩
    cases hmay : mayC ⟨false, se, it, n, 0, 0, fr, got⟩ t with
    | true =>
      refine key ⟨false, se, it, n, 1, stgT t, fr, got⟩ m ?_ rfl ?_
      · rw [e0]; unfold stepR; dsimp only; rw [if_pos rfl, ht, hmay, if_pos rfl]
      · exact right_step0 2 se (it + 1) ok i h hi (wordV_ix (it + 1) 1) (by omega) t ht true hmay (stgT t) (if_pos rfl) 1 false (.inl ⟨rfl, rfl, rfl⟩)
    | false =>
      refine key ⟨false, se, it, n, 3, 0, fr, got⟩ m ?_ rfl ?_
      · rw [e0]; unfold stepR; dsimp only; rw [if_pos rfl, ht, hmay, if_neg (by decide)]
      · exact right_step0 2 se (it + 1) ok i h hi (wordV_ix (it + 1) 1) (by omega) t ht false hmay 0 (if_neg (by decide)) 3 true (.inr ⟨rfl, rfl, rfl⟩)
  · by_cases c : m.getD (ixC (it + 1) 1) 0 = tokV se (it + 1) st
    · refine key ⟨false, se, it, n, 2, st, fr, got⟩ (m.set (ixC (it + 1) 1) 0) ?_ rfl ?_
      · rw [e0]; unfold stepR; dsimp only; rw [if_neg (by decide), if_pos rfl, if_pos c]
      · exact right_step1_yes 2 se (it + 1) ok i h hi (wordV_ix (it + 1) 1) (by omega) _ rfl c _ rfl
    · refine key ⟨false, se, it, n, 3, st, fr, got⟩ m ?_ rfl ?_
      · rw [e0]; unfold stepR; dsimp only; rw [if_neg (by decide), if_pos rfl, if_neg c]
      · exact right_step1_no 2 se (it + 1) ok i h hi (wordV_ix (it + 1) 1) (by omega) _ rfl c
  · refine key ⟨false, se, it, n, 3, st, m.getD (ixC (it + 1) 2) 0, true⟩ m ?_ rfl ?_
    · rw [e0]; unfold stepR; dsimp only; rw [if_neg (by decide), if_neg (by decide), if_pos rfl]
    · exact right_step2 2 se (it + 1) ok i h hi (wordV_ix (it + 1) 2) (by omega) _ rfl
  · refine key ⟨false, se, it, n, 3, st, fr, got⟩ m ?_ rfl ?_
    · rw [e0]; unfold stepR; dsimp only; rw [if_neg (by decide), if_neg (by decide), if_neg (by decide)]
    · refine (right_over (i + 1) h hi _).mono ?_
      rintro e w' ⟨rfl, rfl⟩
      exact ⟨rfl, h.cast (by rw [set_same hi])⟩
theorem cpark {w0 w : World} {l : List Ast} {gs sb nb : Nat} {m : List Int} {s : CS} (hp : s.parks = true) (ho : OkC s) (hm : m.length = 61) (i : Nat) (hi : l[i]? = some (objC nb s)) (h : Own w0 w (storeA gs sb m :: l)) :
    Calls Try.prog 46 #[.pointer (some ⟨nb, 0, none⟩), .pointer (some ⟨gs, 0, none⟩)] w fun e w' => e = .returned (.bool (decide ((stepC s m).1.at_ = 3))) ∧ Own w0 w' (storeA gs sb (stepC s m).2 :: l.set i (objC nb (stepC s m).1)) := by
  have ok : okPlan 1 3 3 3 = true := by decide
  obtain ⟨pk, se, it, n, at_, st, fr, got⟩ := s
  dsimp only at hp
  subst hp
  obtain ⟨h1, h2, h3⟩ := ho
  dsimp only at h1 h2 h3
  have hl := ixC_lt it (k := 1) (by omega)
  have hl2 := ixC_lt (it - 1) (k := 0) (by omega)
  unfold objC at hi
  rw [if_pos rfl] at hi
  have key : ∀ s' m', stepC ⟨true, se, it, n, at_, st, fr, got⟩ m = (s', m') → s'.parks = true → Calls Try.prog 46 #[.pointer (some ⟨nb, 0, none⟩), .pointer (some ⟨gs, 0, none⟩)] w (fun e w' => e = .returned (.bool (decide (s'.at_ = 3))) ∧ Own w0 w' (storeA gs sb m' :: l.set i (cellsA nb (parkC s') 109))) → Calls Try.prog 46 #[.pointer (some ⟨nb, 0, none⟩), .pointer (some ⟨gs, 0, none⟩)] w fun e w' => e = .returned (.bool (decide ((stepC ⟨true, se, it, n, at_, st, fr, got⟩ m).1.at_ = 3))) ∧ Own w0 w' (storeA gs sb (stepC ⟨true, se, it, n, at_, st, fr, got⟩ m).2 :: l.set i (objC nb (stepC ⟨true, se, it, n, at_, st, fr, got⟩ m).1)) := by
    intro s' m' e hp' hc
    rw [e]
    unfold objC
    rw [if_pos hp']
    exact hc
  have e0 : stepC ⟨true, se, it, n, at_, st, fr, got⟩ m = stepP ⟨true, se, it, n, at_, st, fr, got⟩ m := rfl
  have h4 : at_ = 0 ∨ at_ = 1 ∨ at_ = 2 ∨ at_ = 3 := by omega
  rcases h4 with rfl | rfl | rfl | rfl
  · refine key ⟨true, se, it, n, 1, st, fr, got⟩ (m.set (ixC it 1) (tokV se it n)) ?_ rfl ?_
    · rw [e0]; unfold stepP; dsimp only; rw [if_pos rfl]
    · exact park_step0 2 se it ok i h hi (wordV_ix it 1) (by omega) _ rfl _ rfl
  · have hw : wrap64 (it - 1) = it - 1 := IntWalk.wrap64_in _ (by omega)
    by_cases c : n < m.getD (ixC (it - 1) 0) 0
    · refine key ⟨true, se, it, n, 2, st, fr, got⟩ m ?_ rfl ?_
      · rw [e0]; unfold stepP; dsimp only; rw [if_neg (by decide), if_pos rfl, if_pos c]
      · exact park_step1 2 se it ok i h hi _ hw (wordV_ix (it - 1) 0) (by omega) _ rfl true (decide_eq_true c) 2 false (.inl ⟨rfl, rfl, rfl⟩)
    · refine key ⟨true, se, it, n, 3, st, fr, got⟩ m ?_ rfl ?_
      · rw [e0]; unfold stepP; dsimp only; rw [if_neg (by decide), if_pos rfl, if_neg c]
      · exact park_step1 2 se it ok i h hi _ hw (wordV_ix (it - 1) 0) (by omega) _ rfl false (decide_eq_false c) 3 true (.inr ⟨rfl, rfl, rfl⟩)
  · by_cases c : m.getD (ixC it 1) 0 = tokV se it n
    · refine key ⟨true, se, it, n, 3, st, fr, true⟩ (m.set (ixC it 1) 0) ?_ rfl ?_
      · rw [e0]; unfold stepP; dsimp only; rw [if_neg (by decide), if_neg (by decide), if_pos rfl, if_pos c]
      · exact park_step2_yes 2 se it ok i h hi (wordV_ix it 1) (by omega) _ rfl c _ rfl
    · refine key ⟨true, se, it, n, 3, st, fr, false⟩ m ?_ rfl ?_
      · rw [e0]; unfold stepP; dsimp only; rw [if_neg (by decide), if_neg (by decide), if_pos rfl, if_neg c]
      · exact park_step2_no 2 se it ok i h hi (wordV_ix it 1) (by omega) _ rfl c
  · refine key ⟨true, se, it, n, 3, st, fr, got⟩ m ?_ rfl ?_
    · rw [e0]; unfold stepP; dsimp only; rw [if_neg (by decide), if_neg (by decide), if_neg (by decide)]
    · refine (park_over (i + 1) h hi _).mono ?_
      rintro e w' ⟨rfl, rfl⟩
      exact ⟨rfl, h.cast (by rw [set_same hi])⟩
end Go.Proofs.Ytooofpplhedgcaa
