/- Arguments of any make, opened part by part. No program in sight. -/
import Derived.Test.YtboiogjklecpaaaBase
import Derived.Deep.Slices
set_option linter.unusedVariables false
namespace Go.Proofs.Ytboiogjklecpaaa
open Go.ChangeShapes Go.WideShapes Go.ChangeAt Go.RowKit

/-- Cells that read as some datum of a type. -/
def Reads (P : Program) (w : World) (t : TypeId) (cs : List Value) : Prop :=
  ∃ (H : Type) (enc : TypeId × Value → H) (x : DataW H × List MemPlace) (fuel : Nat), DataW.trod enc P w 0 (fun _ => true) true fuel t cs = some x

theorem Arg.reads {P : Program} {w : World} {t : TypeId} {v : Value} (h : Arg P w t v) : Reads P w t v.cells.toList := by
  obtain ⟨_, _, H, enc, d, p, fuel, hf⟩ := h
  exact ⟨H, enc, _, fuel, hf⟩
theorem Reads.int {P : Program} {w : World} {t : TypeId} {cs : List Value} {k : IntKind} (h : Reads P w t cs) (ht : P.underlying t = some (.int k)) : ∃ n, cs = [.int k n] ∧ (Lit.int k n).wf = true := by
  obtain ⟨H, enc, x, fuel, hf⟩ := h
  obtain ⟨n, h1, _, h2⟩ := DataW.trod_int ht hf
  exact ⟨n, h1, h2⟩
theorem Reads.bool {P : Program} {w : World} {t : TypeId} {cs : List Value} (h : Reads P w t cs) (ht : P.underlying t = some .bool) : ∃ b, cs = [.bool b] := by
  obtain ⟨H, enc, x, fuel, hf⟩ := h
  obtain ⟨n, h1, _⟩ := DataW.trod_bool ht hf
  exact ⟨n, h1⟩
theorem Reads.string {P : Program} {w : World} {t : TypeId} {cs : List Value} (h : Reads P w t cs) (ht : P.underlying t = some .string) : ∃ l : List UInt8, cs = [.string ⟨l.toArray⟩] ∧ l.length ≤ maxLen := by
  obtain ⟨H, enc, x, fuel, hf⟩ := h
  obtain ⟨s, h1, _, h2⟩ := DataW.trod_string ht hf
  refine ⟨s.data.toList, ?_, by rw [Array.length_toList]; exact h2⟩
  rw [h1, Array.toArray_toList]
theorem Reads.array {P : Program} {w : World} {t e : TypeId} {cs : List Value} {n : Nat} (h : Reads P w t cs) (ht : P.underlying t = some (.array n e)) :
    cs.length = P.cellsOf t ∧ ∀ i, i < n → Reads P w e ((cs.drop (i * P.cellsOf e)).take (P.cellsOf e)) := by
  obtain ⟨H, enc, x, fuel, hf⟩ := h
  obtain ⟨xs, m, _, _, h1, h2, h3⟩ := DataW.trod_array ht hf
  refine ⟨h1, fun i hi => ⟨H, enc, xs[i]'(by omega), m, ?_⟩⟩
  rw [h3 i hi, List.getElem?_eq_getElem (by omega)]
theorem Reads.struct {P : Program} {w : World} {t : TypeId} {cs : List Value} {fs : Array Field} (h : Reads P w t cs) (ht : P.underlying t = some (.struct fs)) :
    cs.length = P.cellsOf t ∧ ∀ (i : Nat) (f : Field), fs[i]? = some f → Reads P w f.type ((cs.drop f.offset).take (P.cellsOf f.type)) := by
  obtain ⟨H, enc, x, fuel, hf⟩ := h
  obtain ⟨xs, m, _, _, h1, h2, h3⟩ := DataW.trod_struct ht hf
  refine ⟨h1, fun i f hi => ?_⟩
  have hil : i < fs.size := (Array.getElem?_eq_some_iff.1 hi).1
  exact ⟨H, enc, xs[i]'(by omega), m, by rw [h3 i f hi, List.getElem?_eq_getElem (by omega)]⟩
/-- A value of several cells is written out. -/
theorem agg_of {v : Value} {n : Nat} (h : v.cells.toList.length = n) (hn : n ≠ 1) : ∃ cs : Array Value, v = .agg cs ∧ cs.size = n := by
  cases v <;> simp [Value.cells] at h <;> first | exact ⟨_, rfl, h⟩ | omega
theorem Reads.slice {P : Program} {w : World} {t e : TypeId} {cs : List Value} (h : Reads P w t cs) (ht : P.underlying t = some (.slice e)) :
    cs = [.slice none 0 0] ∨ ∃ (a : Addr) (len cap : Nat), cs = [.slice (some a) len cap] ∧ len ≤ cap ∧ cap ≤ maxLen ∧
      ∀ i, i < len → ∃ cs', w.cells? 0 (a.add (i * P.cellsOf e)) (P.cellsOf e) = some cs' ∧ Reads P w e cs' := by
  obtain ⟨H, enc, x, fuel, hf⟩ := h
  rcases Go.Deep.open_slice ht hf with ⟨h0, _⟩ | ⟨a, len, cap, m, n, D, Pl, hcs, hb, hl, hm, hmm, hx, hi⟩
  · exact .inl h0
  · refine .inr ⟨a, len, cap, hcs, hl, hm, fun i hi' => ?_⟩
    obtain ⟨cs', hc, ht'⟩ := hi i (by have : len ≤ m := by (rw [hmm]; split <;> omega)
                                      omega)
    exact ⟨cs', hc, H, enc, _, n, ht'⟩
/-- The cells of an element, one by one. -/
theorem cells_get {w : World} {a : Addr} {n : Nat} {cs : List Value} (h : w.cells? 0 a n = some cs) : cs.length = n ∧ ∀ j, j < n → w.cell? (a.add j) = cs[j]? := by
  obtain ⟨_, h1, h2⟩ := World.cells?_some h
  exact ⟨h1, fun j hj => by simpa using h2 j hj⟩
end Go.Proofs.Ytboiogjklecpaaa
