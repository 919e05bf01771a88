/- Arguments that are slices, element by element. No program in sight. -/
import Derived.Test.YtboiogjklecpaaaRead
set_option linter.unusedVariables false
set_option linter.unusedSimpArgs false
namespace Go.Proofs.Ytboiogjklecpaaa
open Go.ChangeShapes Go.WideShapes Go.ChangeAt Go.RowKit
theorem exists_list {α : Type} (d : α) (Q : Nat → α → Prop) : ∀ (n : Nat), (∀ i, i < n → ∃ x, Q i x) → ∃ xs : List α, xs.length = n ∧ ∀ i, i < n → Q i (xs.getD i d)
  | 0, _ => ⟨[], rfl, fun i hi => by omega⟩
  | n + 1, h => by
    obtain ⟨xs, hl, hx⟩ := exists_list d Q n (fun i hi => h i (by omega))
    obtain ⟨x, hq⟩ := h n (by omega)
    refine ⟨xs ++ [x], by simp [hl], fun i hi => ?_⟩
    by_cases hin : i < n
    · have := hx i hin
      rwa [List.getD_eq_getElem?_getD, List.getElem?_append_left (by omega), ← List.getD_eq_getElem?_getD]
    · obtain rfl : i = n := by omega
      rw [List.getD_eq_getElem?_getD, List.getElem?_append_right (by omega)]
      simpa [hl] using hq
/-- Elements of n cells each. -/
theorem Arg.elems {α : Type} (d : α) (n : Nat) (f : α → List Value) (G : α → Prop) {P : Program} {w : World} {t e : TypeId} {v : Value} (h : Arg P w t v) (ht : P.underlying t = some (.slice e)) (hc : P.cellsOf e = n)
    (he : ∀ cs, cs.length = n → Reads P w e cs → ∃ x, cs = f x ∧ G x) :
    ∃ ao cap, ∃ xs : List α, v = .slice ao xs.length cap ∧ xs.length ≤ cap ∧ cap ≤ maxLen ∧ (ao = none → cap = 0) ∧ (∀ k, k < xs.length → G (xs.getD k d)) ∧
      ∀ k, k < xs.length → ∃ ad, ao = some ad ∧ ∀ j, j < n → w.cell? (ad.add (k * n + j)) = (f (xs.getD k d))[j]? := by
  have hok := h
  obtain ⟨base, ho, _⟩ := hok
  obtain ⟨a, len, cap, rfl⟩ := okWide_slice ht ho
  rcases h.reads.slice ht with h0 | ⟨ad, len', cap', h0, hl, hm, hi⟩
  · simp [Value.cells] at h0
    obtain ⟨rfl, rfl, rfl⟩ := h0
    exact ⟨none, 0, [], rfl, by simp, by simp [maxLen], by simp, by simp, by simp⟩
  · simp [Value.cells] at h0
    obtain ⟨rfl, rfl, rfl⟩ := h0
    have hq : ∀ i, i < len → ∃ x, G x ∧ ∀ j, j < n → w.cell? (ad.add (i * n + j)) = (f x)[j]? := by
      intro i hil
      obtain ⟨cs, hcs, hr⟩ := hi i hil
      rw [hc] at hcs
      obtain ⟨hln, hg⟩ := cells_get hcs
      obtain ⟨x, rfl, hG⟩ := he cs hln hr
      refine ⟨x, hG, fun j hj => ?_⟩
      rw [← hg j hj, Addr.add_add]
    obtain ⟨xs, rfl, hx⟩ := exists_list d _ len hq
    exact ⟨some ad, cap, xs, rfl, hl, hm, by simp, fun k hk => (hx k hk).1, fun k hk => ⟨ad, rfl, (hx k hk).2⟩⟩
/-- Elements of one cell. -/
theorem Arg.elems1 {α : Type} (d : α) (f : α → Value) (G : α → Prop) {P : Program} {w : World} {t e : TypeId} {v : Value} (h : Arg P w t v) (ht : P.underlying t = some (.slice e)) (hc : P.cellsOf e = 1)
    (he : ∀ cs, Reads P w e cs → ∃ x, cs = [f x] ∧ G x) :
    ∃ ao cap, ∃ xs : List α, v = .slice ao xs.length cap ∧ xs.length ≤ cap ∧ cap ≤ maxLen ∧ (ao = none → cap = 0) ∧ (∀ k, k < xs.length → G (xs.getD k d)) ∧
      ∀ k, k < xs.length → ∃ ad, ao = some ad ∧ w.cell? (ad.add k) = some (f (xs.getD k d)) := by
  obtain ⟨ao, cap, xs, h1, h2, h3, h4, h5, h6⟩ := h.elems d 1 (fun x => [f x]) G ht hc (fun cs _ hr => he cs hr)
  refine ⟨ao, cap, xs, h1, h2, h3, h4, h5, fun k hk => ?_⟩
  obtain ⟨ad, had, hj⟩ := h6 k hk
  have := hj 0 (by omega)
  simp at this
  exact ⟨ad, had, this⟩
theorem Arg.bools {P : Program} {w : World} {t e : TypeId} {v : Value} (h : Arg P w t v) (ht : P.underlying t = some (.slice e)) (hb : P.underlying e = some .bool) (hc : P.cellsOf e = 1) :
    ∃ ao cap, ∃ xs : List Bool, v = .slice ao xs.length cap ∧ xs.length ≤ cap ∧ cap ≤ maxLen ∧ ∀ k, k < xs.length → ∃ ad, ao = some ad ∧ w.cell? (ad.add k) = some (.bool (xs.getD k false)) := by
  obtain ⟨ao, cap, xs, h1, h2, h3, _, _, h6⟩ := h.elems1 false Value.bool (fun _ => True) ht hc (fun cs hr => (hr.bool hb).imp fun b hb => ⟨hb, trivial⟩)
  exact ⟨ao, cap, xs, h1, h2, h3, h6⟩
theorem Arg.bytes {P : Program} {w : World} {t e : TypeId} {v : Value} {k : IntKind} (h : Arg P w t v) (ht : P.underlying t = some (.slice e)) (hb : P.underlying e = some (.int k)) (hc : P.cellsOf e = 1) :
    ∃ ao cap, ∃ xs : List Int, v = .slice ao xs.length cap ∧ xs.length ≤ cap ∧ cap ≤ maxLen ∧ (∀ i, i < xs.length → (Lit.int k (xs.getD i 0)).wf = true) ∧ ∀ i, i < xs.length → ∃ ad, ao = some ad ∧ w.cell? (ad.add i) = some (.int k (xs.getD i 0)) := by
  obtain ⟨ao, cap, xs, h1, h2, h3, _, h5, h6⟩ := h.elems1 0 (Value.int k) (fun n => (Lit.int k n).wf = true) ht hc (fun cs hr => (hr.int hb).imp fun b hb => hb)
  exact ⟨ao, cap, xs, h1, h2, h3, h5, h6⟩
/-- A struct's fields: their types and where they lie. -/
def fieldsOf (P : Program) (t : TypeId) : Option (List (TypeId × Nat)) :=
  match P.underlying t with
  | some (.struct fs) => some (fs.toList.map fun f => (f.type, f.offset))
  | _ => none
theorem Reads.fields {P : Program} {w : World} {t : TypeId} {cs : List Value} {l : List (TypeId × Nat)} (h : Reads P w t cs) (hf : fieldsOf P t = some l) :
    cs.length = P.cellsOf t ∧ ∀ (i : Nat) (ty : TypeId) (off : Nat), l[i]? = some (ty, off) → Reads P w ty ((cs.drop off).take (P.cellsOf ty)) := by
  unfold fieldsOf at hf
  split at hf
  · rename_i fs hu
    cases hf
    obtain ⟨h1, h2⟩ := h.struct hu
    refine ⟨h1, fun i ty off hi => ?_⟩
    rw [List.getElem?_map] at hi
    cases hg : fs.toList[i]? with
    | none => rw [hg] at hi; cases hi
    | some f =>
      rw [hg] at hi
      simp at hi
      obtain ⟨rfl, rfl⟩ := hi
      exact h2 i f (by simpa using hg)
  · cases hf
/-- A struct of n integers of one kind. -/
theorem Reads.intFields {P : Program} {w : World} {t ti : TypeId} {cs : List Value} {k : IntKind} (n : Nat) (h : Reads P w t cs) (hf : fieldsOf P t = some ((List.range n).map fun i => (ti, i))) (hi : P.underlying ti = some (.int k)) (hc : P.cellsOf ti = 1) (hn : P.cellsOf t = n) :
    ∃ xs : List Int, cs = xs.map (.int k) ∧ xs.length = n ∧ ∀ j, j < n → (Lit.int k (xs.getD j 0)).wf = true := by
  obtain ⟨h1, h2⟩ := h.fields hf
  rw [hn] at h1
  have hq : ∀ j, j < n → ∃ x : Int, cs[j]? = some (.int k x) ∧ (Lit.int k x).wf = true := by
    intro j hj
    have hr := h2 j ti j (by simp [hj])
    rw [hc] at hr
    obtain ⟨x, hx, hw⟩ := hr.int hi
    refine ⟨x, ?_, hw⟩
    have := congrArg (fun l => l[0]?) hx
    simpa using this
  obtain ⟨xs, hl, hx⟩ := exists_list 0 (fun j x => cs[j]? = some (.int k x) ∧ (Lit.int k x).wf = true) n hq
  refine ⟨xs, ?_, hl, fun j hj => (hx j hj).2⟩
  refine List.ext_getElem? fun j => ?_
  by_cases hj : j < n
  · rw [(hx j hj).1, List.getElem?_map, List.getElem?_eq_getElem (by omega)]
    simp [List.getD, List.getElem?_eq_getElem (show j < xs.length by omega)]
  · rw [List.getElem?_eq_none (by omega), List.getElem?_eq_none (by simp; omega)]
/-- A slice of such structs. -/
theorem Arg.structs {P : Program} {w : World} {t e ti : TypeId} {v : Value} {k : IntKind} (n : Nat) (h : Arg P w t v) (ht : P.underlying t = some (.slice e)) (hf : fieldsOf P e = some ((List.range n).map fun i => (ti, i))) (hi : P.underlying ti = some (.int k)) (hc : P.cellsOf ti = 1) (hn : P.cellsOf e = n) :
    ∃ ao cap, ∃ xs : List (List Int), v = .slice ao xs.length cap ∧ xs.length ≤ cap ∧ cap ≤ maxLen ∧ (∀ i, i < xs.length → ∀ j, j < n → (Lit.int k ((xs.getD i []).getD j 0)).wf = true) ∧
      ∀ i, i < xs.length → ∃ ad, ao = some ad ∧ ∀ j, j < n → w.cell? (ad.add (i * n + j)) = some (.int k ((xs.getD i []).getD j 0)) := by
  obtain ⟨ao, cap, xs, h1, h2, h3, _, h5, h6⟩ := h.elems [] n (fun x => x.map (.int k)) (fun x => x.length = n ∧ ∀ j, j < n → (Lit.int k (x.getD j 0)).wf = true) ht hn (fun cs _ hr => by
    obtain ⟨xs, h1, h2, h3⟩ := hr.intFields n hf hi hc hn
    exact ⟨xs, h1, h2, h3⟩)
  refine ⟨ao, cap, xs, h1, h2, h3, fun i hi => (h5 i hi).2, fun i hi => ?_⟩
  obtain ⟨ad, had, hj⟩ := h6 i hi
  refine ⟨ad, had, fun j hjn => ?_⟩
  have hlen := (h5 i hi).1
  rw [hj j hjn]
  generalize xs.getD i [] = y at *
  rw [List.getElem?_map, List.getElem?_eq_getElem (show j < y.length by omega)]
  simp [List.getD, List.getElem?_eq_getElem (show j < y.length by omega)]
/-- The same, the address written out. -/
theorem Arg.structs' {P : Program} {w : World} {t e ti : TypeId} {v : Value} {k : IntKind} (n : Nat) (h : Arg P w t v) (ht : P.underlying t = some (.slice e)) (hf : fieldsOf P e = some ((List.range n).map fun i => (ti, i))) (hi : P.underlying ti = some (.int k)) (hc : P.cellsOf ti = 1) (hn : P.cellsOf e = n) (hn0 : 0 < n) :
    ∃ ao cap, ∃ xs : List (List Int), v = .slice ao xs.length cap ∧ xs.length ≤ cap ∧ cap ≤ maxLen ∧ (∀ i, i < xs.length → ∀ j, j < n → (Lit.int k ((xs.getD i []).getD j 0)).wf = true) ∧
      ∃ g off : Nat, ∀ i, i < xs.length → ao = some ⟨g, off, none⟩ ∧ ∀ j, j < n → w.cell? ⟨g, off + i * n + j, none⟩ = some (.int k ((xs.getD i []).getD j 0)) := by
  obtain ⟨ao, cap, xs, h1, h2, h3, h4, h5⟩ := h.structs n ht hf hi hc hn
  refine ⟨ao, cap, xs, h1, h2, h3, h4, ?_⟩
  rcases Nat.eq_zero_or_pos xs.length with h0 | h0
  · exact ⟨0, 0, fun i hi => by omega⟩
  · obtain ⟨ad, had, hj⟩ := h5 0 h0
    have hc0 := hj 0 hn0
    obtain ⟨g, off, spot⟩ := ad
    have hspot : spot = none := by simpa [Addr.add] using World.cell?_spot hc0
    subst hspot
    refine ⟨g, off, fun i hi => ⟨had, fun j hjn => ?_⟩⟩
    obtain ⟨ad, had', hj'⟩ := h5 i hi
    rw [had] at had'
    cases had'
    have := hj' j hjn
    rwa [Addr.add_lit, ← Nat.add_assoc] at this
/-- An array of n integers of one kind. -/
theorem Reads.intArray {P : Program} {w : World} {t ti : TypeId} {cs : List Value} {k : IntKind} (n : Nat) (h : Reads P w t cs) (hf : P.underlying t = some (.array n ti)) (hi : P.underlying ti = some (.int k)) (hc : P.cellsOf ti = 1) (hn : P.cellsOf t = n) :
    ∃ xs : List Int, cs = xs.map (.int k) ∧ xs.length = n ∧ ∀ j, j < n → (Lit.int k (xs.getD j 0)).wf = true := by
  obtain ⟨h1, h2⟩ := h.array hf
  rw [hn] at h1
  have hq : ∀ j, j < n → ∃ x : Int, cs[j]? = some (.int k x) ∧ (Lit.int k x).wf = true := by
    intro j hj
    have hr := h2 j hj
    rw [hc, Nat.mul_one] at hr
    obtain ⟨x, hx, hw⟩ := hr.int hi
    refine ⟨x, ?_, hw⟩
    have := congrArg (fun l => l[0]?) hx
    simpa using this
  obtain ⟨xs, hl, hx⟩ := exists_list 0 (fun j x => cs[j]? = some (.int k x) ∧ (Lit.int k x).wf = true) n hq
  refine ⟨xs, ?_, hl, fun j hj => (hx j hj).2⟩
  refine List.ext_getElem? fun j => ?_
  by_cases hj : j < n
  · rw [(hx j hj).1, List.getElem?_map, List.getElem?_eq_getElem (by omega)]
    simp [List.getD, List.getElem?_eq_getElem (show j < xs.length by omega)]
  · rw [List.getElem?_eq_none (by omega), List.getElem?_eq_none (by simp; omega)]
/-- A slice of such arrays. -/
theorem Arg.arrays {P : Program} {w : World} {t e ti : TypeId} {v : Value} {k : IntKind} (n : Nat) (h : Arg P w t v) (ht : P.underlying t = some (.slice e)) (hf : P.underlying e = some (.array n ti)) (hi : P.underlying ti = some (.int k)) (hc : P.cellsOf ti = 1) (hn : P.cellsOf e = n) :
    ∃ ao cap, ∃ xs : List (List Int), v = .slice ao xs.length cap ∧ xs.length ≤ cap ∧ cap ≤ maxLen ∧ (∀ i, i < xs.length → ∀ j, j < n → (Lit.int k ((xs.getD i []).getD j 0)).wf = true) ∧
      ∀ i, i < xs.length → ∃ ad, ao = some ad ∧ ∀ j, j < n → w.cell? (ad.add (i * n + j)) = some (.int k ((xs.getD i []).getD j 0)) := by
  obtain ⟨ao, cap, xs, h1, h2, h3, _, h5, h6⟩ := h.elems [] n (fun x => x.map (.int k)) (fun x => x.length = n ∧ ∀ j, j < n → (Lit.int k (x.getD j 0)).wf = true) ht hn (fun cs _ hr => by
    obtain ⟨xs, h1, h2, h3⟩ := hr.intArray n hf hi hc hn
    exact ⟨xs, h1, h2, h3⟩)
  refine ⟨ao, cap, xs, h1, h2, h3, fun i hi => (h5 i hi).2, fun i hi => ?_⟩
  obtain ⟨ad, had, hj⟩ := h6 i hi
  refine ⟨ad, had, fun j hjn => ?_⟩
  have hlen := (h5 i hi).1
  rw [hj j hjn]
  generalize xs.getD i [] = y at *
  rw [List.getElem?_map, List.getElem?_eq_getElem (show j < y.length by omega)]
  simp [List.getD, List.getElem?_eq_getElem (show j < y.length by omega)]
/-- The same, the address written out. -/
theorem Arg.arrays' {P : Program} {w : World} {t e ti : TypeId} {v : Value} {k : IntKind} (n : Nat) (h : Arg P w t v) (ht : P.underlying t = some (.slice e)) (hf : P.underlying e = some (.array n ti)) (hi : P.underlying ti = some (.int k)) (hc : P.cellsOf ti = 1) (hn : P.cellsOf e = n) (hn0 : 0 < n) :
    ∃ ao cap, ∃ xs : List (List Int), v = .slice ao xs.length cap ∧ xs.length ≤ cap ∧ cap ≤ maxLen ∧ (∀ i, i < xs.length → ∀ j, j < n → (Lit.int k ((xs.getD i []).getD j 0)).wf = true) ∧
      ∃ g off : Nat, ∀ i, i < xs.length → ao = some ⟨g, off, none⟩ ∧ ∀ j, j < n → w.cell? ⟨g, off + i * n + j, none⟩ = some (.int k ((xs.getD i []).getD j 0)) := by
  obtain ⟨ao, cap, xs, h1, h2, h3, h4, h5⟩ := h.arrays n ht hf hi hc hn
  refine ⟨ao, cap, xs, h1, h2, h3, h4, ?_⟩
  rcases Nat.eq_zero_or_pos xs.length with h0 | h0
  · exact ⟨0, 0, fun i hi => by omega⟩
  · obtain ⟨ad, had, hj⟩ := h5 0 h0
    have hc0 := hj 0 hn0
    obtain ⟨g, off, spot⟩ := ad
    have hspot : spot = none := by simpa [Addr.add] using World.cell?_spot hc0
    subst hspot
    refine ⟨g, off, fun i hi => ⟨had, fun j hjn => ?_⟩⟩
    obtain ⟨ad, had', hj'⟩ := h5 i hi
    rw [had] at had'
    cases had'
    have := hj' j hjn
    rwa [Addr.add_lit, ← Nat.add_assoc] at this
end Go.Proofs.Ytboiogjklecpaaa
