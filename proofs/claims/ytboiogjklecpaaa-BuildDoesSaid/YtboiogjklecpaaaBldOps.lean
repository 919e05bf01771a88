/- Package build: the document's steps, as they lie in memory; how its End goes on. -/
import Derived.Test.YtboiogjklecpaaaBldRef
import Derived.Test.YtboiogjklecpaaaBldJ
set_option linter.unusedVariables false
set_option linter.unusedSimpArgs false
namespace Go.Proofs.Ytboiogjklecpaaa
open Go.RowKit
def opC (o : BO) : List Value := [.int .i64 (o.kind : Int), .int .i64 o.reg, .string o.name, .int .i64 o.x.1, .int .i64 o.x.2.1, .int .i64 o.x.2.2.1, .int .i64 o.x.2.2.2]
def opL (os : List BO) : List Value := os.flatMap opC
/-- The cells of a step. -/
def Seven (w : World) (g o : Nat) (x : BO) : Prop :=
  w.cell? ⟨g, o, none⟩ = some (.int .i64 (x.kind : Int)) ∧ w.cell? ⟨g, o + 1, none⟩ = some (.int .i64 x.reg) ∧ w.cell? ⟨g, o + 2, none⟩ = some (.string x.name) ∧ w.cell? ⟨g, o + 3, none⟩ = some (.int .i64 x.x.1) ∧ w.cell? ⟨g, o + 4, none⟩ = some (.int .i64 x.x.2.1) ∧ w.cell? ⟨g, o + 5, none⟩ = some (.int .i64 x.x.2.2.1) ∧ w.cell? ⟨g, o + 6, none⟩ = some (.int .i64 x.x.2.2.2)
/-- A slice of steps lies in memory. -/
def LiesO (w : World) (ao : Option Addr) (c : Nat) (l : List BO) : Prop :=
  l.length ≤ c ∧ c ≤ maxLen ∧ (ao = none → c = 0) ∧ ∀ i x, l[i]? = some x → ∃ g off, ao = some ⟨g, off, none⟩ ∧ Seven w g (off + i * 7) x
theorem Seven.below {w w' : World} {g o : Nat} {x : BO} (h : Seven w g o x) (hb : Below w.heap.size w w') : Seven w' g o x := by
  obtain ⟨h0, h1, h2, h3, h4, h5, h6⟩ := h
  exact ⟨by rw [cell_old hb _ (by rw [h0]; rfl)]; exact h0, by rw [cell_old hb _ (by rw [h1]; rfl)]; exact h1, by rw [cell_old hb _ (by rw [h2]; rfl)]; exact h2, by rw [cell_old hb _ (by rw [h3]; rfl)]; exact h3, by rw [cell_old hb _ (by rw [h4]; rfl)]; exact h4, by rw [cell_old hb _ (by rw [h5]; rfl)]; exact h5, by rw [cell_old hb _ (by rw [h6]; rfl)]; exact h6⟩
theorem LiesO.below {w w' : World} {ao : Option Addr} {c : Nat} {l : List BO} (h : LiesO w ao c l) (hb : Below w.heap.size w w') : LiesO w' ao c l := by
  refine ⟨h.1, h.2.1, h.2.2.1, fun i x hx => ?_⟩
  obtain ⟨g, off, e, hf⟩ := h.2.2.2 i x hx
  exact ⟨g, off, e, hf.below hb⟩
theorem LiesO.get {w : World} {ao : Option Addr} {c : Nat} {l : List BO} (h : LiesO w ao c l) {i : Nat} (hi : i < l.length) : ∃ g off, ao = some ⟨g, off, none⟩ ∧ Seven w g (off + i * 7) (l.getD i dfO) := h.2.2.2 i _ (getq hi _)
theorem LiesO.at {w : World} {g off : Nat} {c : Nat} {l : List BO} (h : LiesO w (some ⟨g, off, none⟩) c l) {i : Nat} (hi : i < l.length) : Seven w g (off + i * 7) (l.getD i dfO) := by
  obtain ⟨g', off', e, h'⟩ := h.get hi
  cases e
  exact h'
theorem LiesO.addr {w : World} {ao : Option Addr} {c : Nat} {l : List BO} (h : LiesO w ao c l) (hl : 0 < l.length) : ∃ g off, ao = some ⟨g, off, none⟩ := by
  obtain ⟨g, off, e, _⟩ := h.get hl
  exact ⟨g, off, e⟩
theorem LiesO.cut {w : World} {g off c : Nat} {l : List BO} (h : LiesO w (some ⟨g, off, none⟩) c l) {a b : Nat} (hab : a ≤ b) (hb : b ≤ l.length) : LiesO w (some ⟨g, off + a * 7, none⟩) (c - a) ((l.take b).drop a) := by
  have h1 := h.1
  have h2 := h.2.1
  refine ⟨by rw [List.length_drop, List.length_take]; omega, by omega, by simp, fun i x hx => ?_⟩
  rw [List.getElem?_drop, List.getElem?_take] at hx
  split at hx
  · obtain ⟨g', off', e, hf⟩ := h.2.2.2 _ x hx
    cases e
    exact ⟨g, off + a * 7, rfl, by rw [show off + a * 7 + i * 7 = off + (a + i) * 7 by omega]; exact hf⟩
  · cases hx
theorem opL_len (l : List BO) : (opL l).length = l.length * 7 := by
  induction l with
  | nil => rfl
  | cons x l ih =>
    have e : opL (x :: l) = opC x ++ opL l := by simp [opL, List.flatMap_cons]
    rw [e, List.length_append, ih, List.length_cons]; simp [opC]; omega
theorem opL_app (l r : List BO) : opL (l ++ r) = opL l ++ opL r := by simp [opL]
theorem opL_cell (l : List BO) : ∀ u ∈ opL l, u.oneCell' = true := by
  intro u hu
  obtain ⟨x, _, hx⟩ := List.mem_flatMap.1 hu
  simp [opC] at hx
  rcases hx with rfl | rfl | rfl | rfl | rfl | rfl | rfl <;> rfl
theorem opL_get {l : List BO} {i : Nat} {x : BO} (h : l[i]? = some x) (j : Nat) (hj : j < 7) : (opL l)[i * 7 + j]? = (opC x)[j]? := by
  induction l generalizing i with
  | nil => simp at h
  | cons y l ih =>
    have e : opL (y :: l) = opC y ++ opL l := by simp [opL, List.flatMap_cons]
    have hy : (opC y).length = 7 := rfl
    rw [e]
    cases i with
    | zero =>
      simp at h
      subst h
      rw [Nat.zero_mul, Nat.zero_add, List.getElem?_append_left (by omega)]
    | succ i =>
      simp at h
      rw [List.getElem?_append_right (by omega), hy, ← ih h]
      congr 1; omega
theorem Row.liesO {w : World} {ao : Option Addr} {c : Nat} {l : List BO} (h : Row w 68 7 (.slice ao l.length c) l.length (opL l)) : LiesO w ao c l := by
  obtain ⟨ao', c', hv, h1, h2, h3⟩ := h.shape
  simp only [Value.slice.injEq] at hv
  obtain ⟨rfl, _, rfl⟩ := hv
  refine ⟨h1, h2, fun h => (h3 h).2, fun i x hx => ?_⟩
  have hi := (List.getElem?_eq_some_iff.1 hx).1
  obtain ⟨g, off, cap, hv, _, _, hc, _⟩ := h.addr (by omega)
  simp only [Value.slice.injEq] at hv
  obtain ⟨rfl, _, rfl⟩ := hv
  have q : ∀ j, j < 7 → w.cell? ⟨g, off + (i * 7 + j), none⟩ = (opC x)[j]? := fun j hj => by rw [hc _ (by omega), opL_get hx j hj]
  exact ⟨g, off, rfl, by simpa [opC] using q 0 (by omega), by simpa [opC, Nat.add_assoc] using q 1 (by omega), by simpa [opC, Nat.add_assoc] using q 2 (by omega), by simpa [opC, Nat.add_assoc] using q 3 (by omega), by simpa [opC, Nat.add_assoc] using q 4 (by omega), by simpa [opC, Nat.add_assoc] using q 5 (by omega), by simpa [opC, Nat.add_assoc] using q 6 (by omega)⟩
/-- The steps of one function are cut out. -/
theorem ownO_cut (os : List BO) {i k : Nat} (hi : i ≤ k) (hk : k ≤ os.length) (hz : ∀ m, i ≤ m → m < k → (os.getD m dfO).kind ≠ 0) (he : k = os.length ∨ (os.getD k dfO).kind = 0) : (os.take k).drop i = ownO (os.drop i) := by
  have e1 : os.drop i = (os.take k).drop i ++ os.drop k := by
    conv => lhs; rw [← List.take_append_drop k os]
    rw [List.drop_append_of_le_length (by rw [List.length_take]; omega)]
  unfold ownO
  rw [e1, List.takeWhile_append_of_pos]
  · have e2 : (os.drop k).takeWhile (fun o => decide (o.kind ≠ 0)) = [] := by
      rcases he with he | he
      · rw [he, List.drop_length]; rfl
      · by_cases hl : k < os.length
        · rw [List.drop_eq_getElem_cons hl, List.takeWhile_cons_of_neg]
          rw [List.getD_eq_getElem?_getD, List.getElem?_eq_getElem hl] at he
          simpa using he
        · rw [List.drop_eq_nil_of_le (by omega)]; rfl
    rw [e2, List.append_nil]
  · intro o ho
    obtain ⟨m, hm⟩ := List.mem_iff_getElem?.1 ho
    rw [List.getElem?_drop, List.getElem?_take] at hm
    split at hm
    · rename_i hlt
      have := hz (i + m) (by omega) hlt
      rw [List.getD_eq_getElem?_getD, hm] at this
      simpa using this
    · cases hm
theorem drop_at {α : Type} {l : List α} {i : Nat} (h : i < l.length) (d : α) : l.drop i = l.getD i d :: l.drop (i + 1) := by
  rw [List.drop_eq_getElem_cons h, List.getD_eq_getElem?_getD, List.getElem?_eq_getElem h]; rfl
end Go.Proofs.Ytboiogjklecpaaa
