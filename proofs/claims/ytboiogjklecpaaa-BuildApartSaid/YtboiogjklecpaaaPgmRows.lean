/- Slices of slices that a call has made for itself: the finished functions, and the row of their heads. -/
import Derived.Test.YtboiogjklecpaaaPgmMem
import Derived.Test.YtboiogjklecpaaaLin
import Derived.Test.YtboiogjklecpaaaPair
set_option linter.unusedVariables false
set_option linter.unusedSimpArgs false
namespace Go.Proofs.Ytboiogjklecpaaa
open Go.RowKit
abbrev Fn := (Option Addr × Nat) × List I4
def insL (l : List I4) : List Value := l.flatMap insC
def hdr (p : Fn) : Value := .slice p.1.1 p.2.length p.1.2
theorem insL_len (l : List I4) : (insL l).length = l.length * 4 := by
  induction l with
  | nil => rfl
  | cons x l ih =>
    have e : insL (x :: l) = insC x ++ insL l := by simp [insL, List.flatMap_cons]
    rw [e, List.length_append, ih, List.length_cons]; simp [insC]; omega
theorem insL_app (l r : List I4) : insL (l ++ r) = insL l ++ insL r := by simp [insL]
theorem insL_one (x : I4) : insL [x] = insC x := by simp [insL]
theorem insL_cell (l : List I4) : ∀ u ∈ insL l, u.oneCell' = true := by
  intro u hu
  obtain ⟨x, _, hx⟩ := List.mem_flatMap.1 hu
  simp [insC] at hx
  rcases hx with rfl | rfl | rfl | rfl <;> rfl
theorem insL_get {l : List I4} {i : Nat} {x : I4} (h : l[i]? = some x) (j : Nat) (hj : j < 4) : (insL l)[i * 4 + j]? = (insC x)[j]? := by
  induction l generalizing i with
  | nil => simp at h
  | cons y l ih =>
    have e : insL (y :: l) = insC y ++ insL l := by simp [insL, List.flatMap_cons]
    have hy : (insC y).length = 4 := rfl
    rw [e]
    cases i with
    | zero =>
      simp at h
      subst h
      rw [Nat.zero_mul, Nat.zero_add, List.getElem?_append_left (by omega)]
    | succ i =>
      simp at h
      rw [List.getElem?_append_right (by omega), hy, ← ih h]
      congr 1; omega
/-- Finished functions: each a slice of its own. -/
def doneA (ps : List Fn) : Ast where
  F k := ∃ p ∈ ps, (hdr p).ownBlock = some k
  hold w := ∀ p ∈ ps, Row w 30 4 (hdr p) p.2.length (insL p.2)
  loc h hb p hp := (h p hp).same fun k hk => hb k ⟨p, hp, hk⟩
  lt h k := fun ⟨p, hp, hk⟩ => (h p hp).lt hk
theorem Row.liesI {w : World} {ao : Option Addr} {c : Nat} {l : List I4} (h : Row w 30 4 (.slice ao l.length c) l.length (insL l)) : LiesI w ao c l := by
  obtain ⟨ao', c', hv, h1, h2, h3⟩ := h.shape
  simp only [Value.slice.injEq] at hv
  obtain ⟨rfl, _, rfl⟩ := hv
  refine ⟨h1, h2, fun h => (h3 h).2, fun i x hx => ?_⟩
  have hi := (List.getElem?_eq_some_iff.1 hx).1
  obtain ⟨g, off, cap, hv, _, _, hc, _⟩ := h.addr (by omega)
  simp only [Value.slice.injEq] at hv
  obtain ⟨rfl, _, rfl⟩ := hv
  have q : ∀ j, j < 4 → w.cell? ⟨g, off + (i * 4 + j), none⟩ = (insC x)[j]? := fun j hj => by rw [hc _ (by omega), insL_get hx j hj]
  exact ⟨g, off, rfl, by simpa [insC] using q 0 (by omega), by simpa [insC, Nat.add_assoc] using q 1 (by omega), by simpa [insC, Nat.add_assoc] using q 2 (by omega), by simpa [insC, Nat.add_assoc] using q 3 (by omega)⟩
theorem LiesI.src {w : World} {ao : Option Addr} {c : Nat} {l : List I4} (h : LiesI w ao c l) : Src w ao l.length c 4 (insL l) := by
  refine ⟨insL_len l, fun h0 => ⟨by have := h.1; have := h.2.2.1 h0; omega, h.2.2.1 h0⟩, fun ad had j u hu => ?_⟩
  have hj := (List.getElem?_eq_some_iff.1 hu).1
  rw [insL_len] at hj
  have hi : j / 4 < l.length := by omega
  obtain ⟨g, off, e, f0, f1, f2, f3⟩ := h.2.2.2 (j / 4) _ (getq hi (0, 0, 0, 0))
  rw [had] at e
  cases e
  have hx := insL_get (getq hi (0, 0, 0, 0)) (j % 4) (by omega)
  rw [show j / 4 * 4 + j % 4 = j by omega, hu] at hx
  rw [Addr.add_lit]
  rcases (show j % 4 = 0 ∨ j % 4 = 1 ∨ j % 4 = 2 ∨ j % 4 = 3 by omega) with h4 | h4 | h4 | h4 <;> rw [h4] at hx <;> simp [insC] at hx <;> subst hx
  · rw [show off + j = off + j / 4 * 4 by omega]; exact f0
  · rw [show off + j = off + j / 4 * 4 + 1 by omega]; exact f1
  · rw [show off + j = off + j / 4 * 4 + 2 by omega]; exact f2
  · rw [show off + j = off + j / 4 * 4 + 3 by omega]; exact f3
/-- The program that has been made, as it lies. -/
theorem liesF_of {w : World} {ao : Option Addr} {c n : Nat} {ps : List Fn} (h : Row w 52 1 (.slice ao n c) n (ps.map hdr)) (hd : (doneA ps).hold w) (hn : n = ps.length) : LiesF w ao c (ps.map (·.2)) := by
  subst hn
  obtain ⟨ao', c', hv, h1, h2, h3⟩ := h.shape
  simp only [Value.slice.injEq] at hv
  obtain ⟨rfl, _, rfl⟩ := hv
  refine ⟨by simpa using h1, h2, fun h => (h3 h).2, fun i l hl => ?_⟩
  rw [List.getElem?_map] at hl
  obtain ⟨p, hp, rfl⟩ := Option.map_eq_some_iff.1 hl
  have hi := (List.getElem?_eq_some_iff.1 hp).1
  obtain ⟨g, off, cap, hv, _, _, hc, _⟩ := h.addr (by omega)
  simp only [Value.slice.injEq] at hv
  obtain ⟨rfl, _, rfl⟩ := hv
  have q := hc i (by omega)
  rw [List.getElem?_map, hp] at q
  exact ⟨g, off, p.1.1, p.1.2, rfl, q, Row.liesI (hd p (List.mem_of_getElem? hp))⟩
/-- A piece that was made is one of the finished ones. -/
theorem Own.finish {w0 w : World} {L : List Ast} {ps : List Fn} {p : Fn} (h : Own w0 w (L ++ [doneA ps, rowA 30 4 (hdr p) p.2.length (insL p.2)])) : Own w0 w (L ++ [doneA (ps ++ [p])]) := by
  obtain ⟨h1, h2, h3, h4⟩ := h
  have hA := h2 (doneA ps) (by simp)
  have hR : Row w 30 4 (hdr p) p.2.length (insL p.2) := h2 (rowA 30 4 (hdr p) p.2.length (insL p.2)) (by simp)
  have split : ∀ k, (doneA (ps ++ [p])).F k → (doneA ps).F k ∨ (rowA 30 4 (hdr p) p.2.length (insL p.2)).F k := by
    rintro k ⟨q, hq, hk⟩
    rcases List.mem_append.1 hq with hq | hq
    · exact .inl ⟨q, hq, hk⟩
    · simp at hq; subst hq; exact .inr hk
  refine ⟨h1, fun A hA' => ?_, fun A hA' k hk => ?_, ?_⟩
  · rcases List.mem_append.1 hA' with hm | hm
    · exact h2 A (by simp [hm])
    · simp at hm; subst hm
      intro q hq
      rcases List.mem_append.1 hq with hq | hq
      · exact hA q hq
      · simp at hq; subst hq; exact hR
  · rcases List.mem_append.1 hA' with hm | hm
    · exact h3 A (by simp [hm]) k hk
    · simp at hm; subst hm
      rcases split k hk with hk | hk
      · exact h3 (doneA ps) (by simp) k hk
      · exact h3 (rowA 30 4 (hdr p) p.2.length (insL p.2)) (by simp) k hk
  · rw [List.pairwise_append] at h4 ⊢
    refine ⟨h4.1, by simp, fun A hA' B hB k hk hk' => ?_⟩
    simp at hB; subst hB
    rcases split k hk' with hk' | hk'
    · exact h4.2.2 A hA' (doneA ps) (by simp) k hk hk'
    · exact h4.2.2 A hA' (rowA 30 4 (hdr p) p.2.length (insL p.2)) (by simp) k hk hk'
theorem Own.noneDone {w0 w : World} {L : List Ast} (h : Own w0 w L) : Own w0 w (L ++ [doneA []]) :=
  h.push (Below.refl _ _) (doneA []) (by intro p hp; cases hp) (by rintro k ⟨p, hp, _⟩; cases hp)
theorem Try.infoIns : (Try.prog.info? 30).map (fun i => (i.zero, i.size, i.bytes)) = some (some (.agg #[.int .i64 0, .int .i64 0, .int .i64 0, .int .i64 0]), 4, 32) := by kernel_rfl
theorem Try.infoInsS : (Try.prog.info? 52).map (fun i => (i.zero, i.size, i.bytes)) = some (some (.slice none 0 0), 1, 24) := by kernel_rfl
end Go.Proofs.Ytboiogjklecpaaa
