/- Arguments that are slices, element by element. No program in sight. -/
import Derived.Test.YtpijgjalabocpaaRead
set_option linter.unusedVariables false
set_option linter.unusedSimpArgs false
namespace Go.Proofs.Ytpijgjalabocpaa
open Go.ChangeShapes Go.WideShapes Go.ChangeAt Go.RowKit
theorem exists_list {α : Type} (d : α) (Q : Nat → α → Prop) : ∀ (n : Nat), (∀ i, i < n → ∃ x, Q i x) → ∃ xs : List α, xs.length = n ∧ ∀ i, i < n → Q i (xs.getD i d)
  | 0, _ => ⟨[], rfl, fun i hi => by omega⟩
  | n + 1, h => by
    obtain ⟨xs, hl, hx⟩ := exists_list d Q n (fun i hi => h i (by omega))
    obtain ⟨x, hq⟩ := h n (by omega)
    refine ⟨xs ++ [x], by simp [hl], fun i hi => ?_⟩
    by_cases hin : i < n
    · have := hx i hin
      rwa [List.getD_eq_getElem?_getD, List.getElem?_append_left (by omega), ← List.getD_eq_getElem?_getD]
    · obtain rfl : i = n := by omega
      rw [List.getD_eq_getElem?_getD, List.getElem?_append_right (by omega)]
      simpa [hl] using hq
/-- Elements of n cells each. -/
theorem Arg.elems {α : Type} (d : α) (n : Nat) (f : α → List Value) (G : α → Prop) {P : Program} {w : World} {t e : TypeId} {v : Value} (h : Arg P w t v) (ht : P.underlying t = some (.slice e)) (hc : P.cellsOf e = n)
    (he : ∀ cs, cs.length = n → Reads P w e cs → ∃ x, cs = f x ∧ G x) :
    ∃ ao cap, ∃ xs : List α, v = .slice ao xs.length cap ∧ xs.length ≤ cap ∧ cap ≤ maxLen ∧ (ao = none → cap = 0) ∧ (∀ k, k < xs.length → G (xs.getD k d)) ∧
      ∀ k, k < xs.length → ∃ ad, ao = some ad ∧ ∀ j, j < n → w.cell? (ad.add (k * n + j)) = (f (xs.getD k d))[j]? := by
  have hok := h
  obtain ⟨base, ho, _⟩ := hok
  obtain ⟨a, len, cap, rfl⟩ := okWide_slice ht ho
  rcases h.reads.slice ht with h0 | ⟨ad, len', cap', h0, hl, hm, hi⟩
  · simp [Value.cells] at h0
    obtain ⟨rfl, rfl, rfl⟩ := h0
    exact ⟨none, 0, [], rfl, by simp, by simp [maxLen], by simp, by simp, by simp⟩
  · simp [Value.cells] at h0
    obtain ⟨rfl, rfl, rfl⟩ := h0
    have hq : ∀ i, i < len → ∃ x, G x ∧ ∀ j, j < n → w.cell? (ad.add (i * n + j)) = (f x)[j]? := by
      intro i hil
      obtain ⟨cs, hcs, hr⟩ := hi i hil
      rw [hc] at hcs
      obtain ⟨hln, hg⟩ := cells_get hcs
      obtain ⟨x, rfl, hG⟩ := he cs hln hr
      refine ⟨x, hG, fun j hj => ?_⟩
      rw [← hg j hj, Addr.add_add]
    obtain ⟨xs, rfl, hx⟩ := exists_list d _ len hq
    exact ⟨some ad, cap, xs, rfl, hl, hm, by simp, fun k hk => (hx k hk).1, fun k hk => ⟨ad, rfl, (hx k hk).2⟩⟩
/-- Elements of one cell. -/
theorem Arg.elems1 {α : Type} (d : α) (f : α → Value) (G : α → Prop) {P : Program} {w : World} {t e : TypeId} {v : Value} (h : Arg P w t v) (ht : P.underlying t = some (.slice e)) (hc : P.cellsOf e = 1)
    (he : ∀ cs, Reads P w e cs → ∃ x, cs = [f x] ∧ G x) :
    ∃ ao cap, ∃ xs : List α, v = .slice ao xs.length cap ∧ xs.length ≤ cap ∧ cap ≤ maxLen ∧ (ao = none → cap = 0) ∧ (∀ k, k < xs.length → G (xs.getD k d)) ∧
      ∀ k, k < xs.length → ∃ ad, ao = some ad ∧ w.cell? (ad.add k) = some (f (xs.getD k d)) := by
  obtain ⟨ao, cap, xs, h1, h2, h3, h4, h5, h6⟩ := h.elems d 1 (fun x => [f x]) G ht hc (fun cs _ hr => he cs hr)
  refine ⟨ao, cap, xs, h1, h2, h3, h4, h5, fun k hk => ?_⟩
  obtain ⟨ad, had, hj⟩ := h6 k hk
  have := hj 0 (by omega)
  simp at this
  exact ⟨ad, had, this⟩
theorem Arg.bools {P : Program} {w : World} {t e : TypeId} {v : Value} (h : Arg P w t v) (ht : P.underlying t = some (.slice e)) (hb : P.underlying e = some .bool) (hc : P.cellsOf e = 1) :
    ∃ ao cap, ∃ xs : List Bool, v = .slice ao xs.length cap ∧ xs.length ≤ cap ∧ cap ≤ maxLen ∧ ∀ k, k < xs.length → ∃ ad, ao = some ad ∧ w.cell? (ad.add k) = some (.bool (xs.getD k false)) := by
  obtain ⟨ao, cap, xs, h1, h2, h3, _, _, h6⟩ := h.elems1 false Value.bool (fun _ => True) ht hc (fun cs hr => (hr.bool hb).imp fun b hb => ⟨hb, trivial⟩)
  exact ⟨ao, cap, xs, h1, h2, h3, h6⟩
theorem Arg.bytes {P : Program} {w : World} {t e : TypeId} {v : Value} {k : IntKind} (h : Arg P w t v) (ht : P.underlying t = some (.slice e)) (hb : P.underlying e = some (.int k)) (hc : P.cellsOf e = 1) :
    ∃ ao cap, ∃ xs : List Int, v = .slice ao xs.length cap ∧ xs.length ≤ cap ∧ cap ≤ maxLen ∧ (∀ i, i < xs.length → (Lit.int k (xs.getD i 0)).wf = true) ∧ ∀ i, i < xs.length → ∃ ad, ao = some ad ∧ w.cell? (ad.add i) = some (.int k (xs.getD i 0)) := by
  obtain ⟨ao, cap, xs, h1, h2, h3, _, h5, h6⟩ := h.elems1 0 (Value.int k) (fun n => (Lit.int k n).wf = true) ht hc (fun cs hr => (hr.int hb).imp fun b hb => hb)
  exact ⟨ao, cap, xs, h1, h2, h3, h5, h6⟩
end Go.Proofs.Ytpijgjalabocpaa
