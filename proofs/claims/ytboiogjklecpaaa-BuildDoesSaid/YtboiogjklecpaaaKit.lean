/- The frame's tools: blocks of known cells, rows that are read and written, appends and made slices, pieces picked out. No program in sight. -/
import Derived.Test.YtboiogjklecpaaaOwnInts
import Derived.Test.YtboiogjklecpaaaRegion
set_option linter.unusedVariables false
set_option linter.unusedSimpArgs false
namespace Go.Proofs.Ytboiogjklecpaaa
open Go.RowKit
/-- A block of known cells. -/
def cellsA (b : Nat) (cs : Array Value) (t : TypeId) : Ast where
  F k := k = b
  hold w := w.heap[b]? = some (.cells cs t (0, 0))
  loc h hb := (hb b rfl).trans h
  lt h k hk := by subst hk; exact lt_at h
theorem Own.box {w0 w : World} {l : List Ast} (h : Own w0 w l) (cs : Array Value) (t : TypeId) : Own w0 (w.alloc (.cells cs t)) (l ++ [cellsA w.heap.size cs t]) :=
  h.push (by go_grown) (cellsA w.heap.size cs t) (alloc_new _ _) (fun k hk => by cases hk; exact Nat.le_refl _)
theorem Own.cset {w0 w : World} {l : List Ast} (h : Own w0 w l) (i : Nat) {b : Nat} {cs : Array Value} {t : TypeId} (hi : l[i]? = some (cellsA b cs t)) (j : Nat) (v : Value) : Own w0 (w.setCell ⟨b, j, none⟩ v) (l.set i (cellsA b (cs.setIfInBounds j v) t)) :=
  h.move i hi ⟨set_at (h.at i hi) j v, (Touch.refl (cellsA b cs t).F w).setCell (p := ⟨b, j, none⟩) (.inr rfl) v, fun k hk => .inl hk⟩
theorem Own.cget {w0 w : World} {l : List Ast} (h : Own w0 w l) (i : Nat) {b : Nat} {cs : Array Value} {t : TypeId} (hi : l[i]? = some (cellsA b cs t)) (j : Nat) : w.cell? ⟨b, j, none⟩ = cs[j]? ∧ w.frozen? ⟨b, j, none⟩ = false :=
  ⟨cell_at (h.at i hi) j, free_at (h.at i hi) j⟩
theorem Own.clast {w0 w : World} {l : List Ast} {b : Nat} {cs : Array Value} {t : TypeId} (h : Own w0 w (l ++ [cellsA b cs t])) (j : Nat) (v : Value) : Own w0 (w.setCell ⟨b, j, none⟩ v) (l ++ [cellsA b (cs.setIfInBounds j v) t]) := by
  have := h.cset l.length (List.getElem?_concat_length) j v
  simpa using this
theorem Own.lastAt {w0 w : World} {l : List Ast} {b : Nat} {cs : Array Value} {t : TypeId} (h : Own w0 w (l ++ [cellsA b cs t])) : w.heap[b]? = some (.cells cs t (0, 0)) := h.at l.length (List.getElem?_concat_length)
theorem at_app {l l' : List Ast} {i : Nat} {A : Ast} (h : l[i]? = some A) : (l ++ l')[i]? = some A := by
  rw [List.getElem?_append_left (List.getElem?_eq_some_iff.1 h).1]; exact h
theorem set_app {l l' : List Ast} {i : Nat} {A B : Ast} (h : l[i]? = some A) : (l ++ l').set i B = l.set i B ++ l' := List.set_append_left _ _ (List.getElem?_eq_some_iff.1 h).1
/-- Pieces picked out of the list by their places. -/
theorem Own.sel {w0 w : World} {l : List Ast} (h : Own w0 w l) (f : List Nat) (hf : f.Nodup) : Own w0 w (f.filterMap fun i => l[i]?) := by
  refine ⟨h.below, fun A hA => ?_, fun A hA => ?_, ?_⟩
  · obtain ⟨i, _, hi⟩ := List.mem_filterMap.1 hA
    exact h.at i hi
  · obtain ⟨i, _, hi⟩ := List.mem_filterMap.1 hA
    exact h.own A (List.mem_of_getElem? hi)
  · refine List.Pairwise.filterMap (R := (· ≠ ·)) _ ?_ hf
    intro a b hab A hA B hB k hk hk'
    rcases Nat.lt_or_gt_of_ne hab with hh | hh
    · exact h.apart a b hh hA hB k hk hk'
    · exact h.apart b a hh hB hA k hk' hk
theorem Own.sub {w0 w : World} {l l' : List Ast} (h : Own w0 w l) (hs : l'.Sublist l) : Own w0 w l' :=
  ⟨h.below, fun A hA => h.all A (hs.subset hA), fun A hA => h.own A (hs.subset hA), h.sep.sublist hs⟩
theorem set_same {l : List Ast} {i : Nat} {A : Ast} (hi : l[i]? = some A) : l.set i A = l := by
  refine List.ext_getElem? fun j => ?_
  by_cases hj : i = j
  · subst hj
    rw [List.getElem?_set_self (List.getElem?_eq_some_iff.1 hi).1, hi]
  · rw [List.getElem?_set_ne hj]
theorem Own.row_get {w0 w : World} {l : List Ast} (h : Own w0 w l) (i : Nat) {e : TypeId} {size b n c : Nat} {xs : List Value} (hi : l[i]? = some (rowA e size (.slice (some ⟨b, 0, none⟩) n c) n xs)) {j : Nat} {u : Value} (hj : xs[j]? = some u) : w.cell? ⟨b, j, none⟩ = some u := by
  have := (h.row i hi).cells ⟨b, 0, none⟩ rfl j u hj
  rwa [Addr.add_lit, Nat.zero_add] at this
theorem Own.row_free {w0 w : World} {l : List Ast} (h : Own w0 w l) (i : Nat) {e : TypeId} {size b n c : Nat} {xs : List Value} (hi : l[i]? = some (rowA e size (.slice (some ⟨b, 0, none⟩) n c) n xs)) {j : Nat} (hj : j < n * size) : w.frozen? ⟨b, j, none⟩ = false := by
  have := (h.row i hi).free (j := j) hj
  rwa [Addr.add_lit, Nat.zero_add] at this
theorem Own.row_set {w0 w : World} {l : List Ast} (h : Own w0 w l) (i : Nat) {e : TypeId} {size b n c : Nat} {xs xs' : List Value} (hi : l[i]? = some (rowA e size (.slice (some ⟨b, 0, none⟩) n c) n xs)) (j : Nat) (u : Value) (hx : xs.set j u = xs') : Own w0 (w.setCell ⟨b, j, none⟩ u) (l.set i (rowA e size (.slice (some ⟨b, 0, none⟩) n c) n xs')) := by
  subst hx
  have := h.set i hi j u
  rwa [Addr.add_lit, Nat.zero_add] at this
theorem Own.row_made {w0 w : World} {l : List Ast} (h : Own w0 w l) (e : TypeId) (size : Nat) (cs : Array Value) (n : Nat) (hn : n ≤ maxLen) (hs : cs.size = n * size) : Own w0 (w.alloc (.cells cs e)) (l ++ [rowA e size (.slice (some ⟨w.heap.size, 0, none⟩) n n) n cs.toList]) :=
  h.push (by go_grown) (rowA e size (.slice (some ⟨w.heap.size, 0, none⟩) n n) n cs.toList) (Row.lit w e size cs n hn hs) (fun k hk => by simp [rowA, Value.ownBlock] at hk; omega)
theorem Own.rowset {w0 w : World} {l : List Ast} (h : Own w0 w l) (i : Nat) {e : TypeId} {size g off n c : Nat} {xs xs' : List Value} (hi : l[i]? = some (rowA e size (.slice (some ⟨g, off, none⟩) n c) n xs)) (j : Nat) (u : Value) (hx : xs.set j u = xs') : Own w0 (w.setCell ⟨g, off + j, none⟩ u) (l.set i (rowA e size (.slice (some ⟨g, off, none⟩) n c) n xs')) := by
  subst hx
  have := h.set i hi j u
  rwa [Addr.add_lit] at this
theorem getD_map {ms : List Int} {a : Nat} (ha : a < ms.length) : (ms.map (Value.int .i64))[a]? = some (.int .i64 (ms.getD a 0)) := by
  rw [List.getElem?_map, List.getElem?_eq_getElem ha, List.getD_eq_getElem?_getD, List.getElem?_eq_getElem ha]; rfl
theorem map_set_i {ms : List Int} {k : Nat} {n : Int} : (ms.map (Value.int .i64)).set k (.int .i64 n) = (ms.set k n).map (.int .i64) := by rw [List.map_set]
theorem wpList_append_copy' {P : Program} (w : World) {ops : Array Oper} {rest : List Oper} {o : Oper} {a : Act} {Q : Exit → Act → World → Prop}
    (hg : o.guard = none) (s x : Operand) (t : TypeId) (hop : o.op = Op.call { callee := Callee.builtin Builtin.append, args := #[s, x], argTypes := #[t, t] })
    (e : TypeId) (i : TypeInfo) (z : Value) (size bytes : Nat) (h1 : P.underlying t = some (.slice e)) (h2 : P.info? e = some i) (h3 : i.zero = some z) (h4 : i.size = size) (h5 : i.bytes = bytes) (h6 : z.cells.size = size) (h7 : 0 < size)
    (N : Nat) (hN : N = w.heap.size) (hs : a.eval s = .slice (some ⟨N, 0, none⟩) 0 0)
    (ao : Option Addr) (m c : Nat) (news : List Value) (hx : a.eval x = .slice ao m c) (hsrc : Src w ao m c size news) (h1c : ∀ u ∈ news, u.oneCell' = true)
    (b1 : m ≤ maxLen) (b2 : m * bytes ≤ 140737488355328)
    (hK : ∀ ao' cap' w', Row w' e size (.slice ao' m cap') m news → Below w.heap.size w w' → (∀ k, Value.ownBlock (.slice ao' m cap') = some k → w.heap.size ≤ k) → wpList P ops Q rest (a.put o.dst (.slice ao' m cap')) w') :
    wpList P ops Q (o :: rest) a (w.alloc (.cells #[] e)) := by
  subst hN
  exact wpList_append_copy w hg s x t hop e i z size bytes h1 h2 h3 h4 h5 h6 h7 hs ao m c news hx hsrc h1c b1 b2 hK
theorem Own.row_at {w0 w : World} {l : List Ast} (h : Own w0 w l) (i : Nat) {e : TypeId} {size g off n c : Nat} {xs : List Value} (hi : l[i]? = some (rowA e size (.slice (some ⟨g, off, none⟩) n c) n xs)) {j : Nat} {u : Value} (hj : xs[j]? = some u) : w.cell? ⟨g, off + j, none⟩ = some u := by
  have := (h.row i hi).cells ⟨g, off, none⟩ rfl j u hj
  rwa [Addr.add_lit] at this
/-- The same, where the new element's place is told in other words. -/
theorem wpList_append_lit' {P : Program} (w : World) {ops : Array Oper} {rest : List Oper} {o : Oper} {a : Act} {Q : Exit → Act → World → Prop}
    (hg : o.guard = none) (s x : Operand) (t : TypeId) (hop : o.op = Op.call { callee := Callee.builtin Builtin.append, args := #[s, x], argTypes := #[t, t] })
    (e : TypeId) (i : TypeInfo) (z : Value) (size bytes : Nat) (h1 : P.underlying t = some (.slice e)) (h2 : P.info? e = some i) (h3 : i.zero = some z) (h4 : i.size = size) (h5 : i.bytes = bytes) (h6 : z.cells.size = size) (h7 : 0 < size)
    (v : Value) (n : Nat) (xs : List Value) (hs : a.eval s = v) (hrow : Row w e size v n xs)
    (cs : Array Value) (e' : TypeId) (m N : Nat) (hN : N = w.heap.size) (hx : a.eval x = .slice (some ⟨N, 0, none⟩) m m) (hn : cs.size = m * size) (h1c : ∀ u ∈ cs.toList, u.oneCell' = true)
    (b1 : n + m ≤ maxLen) (b2 : (n + m) * bytes ≤ 140737488355328)
    (hK : ∀ ao' cap' w', Row w' e size (.slice ao' (n + m) cap') (n + m) (xs ++ cs.toList) → Touch (fun k => v.ownBlock = some k) w w' → (∀ k, Value.ownBlock (.slice ao' (n + m) cap') = some k → v.ownBlock = some k ∨ w.heap.size ≤ k) → wpList P ops Q rest (a.put o.dst (.slice ao' (n + m) cap')) w') :
    wpList P ops Q (o :: rest) a (w.alloc (.cells cs e')) := by
  subst hN
  exact wpList_append_lit w hg s x t hop e i z size bytes h1 h2 h3 h4 h5 h6 h7 v n xs hs hrow cs e' m hx hn h1c b1 b2 hK
theorem map_take_snoc {l : List Int} {n : Nat} (h : n < l.length) {x : Int} (hx : l.getD n 0 = x) : (l.take n).map (Value.int .i64) ++ [.int .i64 x] = (l.take (n + 1)).map (.int .i64) := by
  rw [List.take_succ_eq_append_getElem h, List.map_append]
  rw [List.getD_eq_getElem?_getD, List.getElem?_eq_getElem h] at hx
  simp at hx
  simp [hx]
theorem getD_set_self {l : List Int} {i : Nat} (h : i < l.length) (x : Int) : (l.set i x).getD i 0 = x := by
  rw [List.getD_eq_getElem?_getD, List.getElem?_set_self h]; rfl
theorem getD_set_other {l : List Int} {i j : Nat} (h : i ≠ j) (x : Int) : (l.set i x).getD j 0 = l.getD j 0 := by
  rw [List.getD_eq_getElem?_getD, List.getElem?_set_ne h, ← List.getD_eq_getElem?_getD]
theorem getD_app {l : List Int} {n : Nat} (h : n < l.length) (x : Int) : (l ++ [x]).getD n 0 = l.getD n 0 := by
  rw [List.getD_eq_getElem?_getD, List.getElem?_append_left h, ← List.getD_eq_getElem?_getD]
theorem Row.src' {w : World} {e : TypeId} {size : Nat} {ao : Option Addr} {n cap : Nat} {xs : List Value} (h : Row w e size (.slice ao n cap) n xs) : Src w ao n cap size xs := by
  refine ⟨h.1, fun h0 => ?_, h.cells⟩
  obtain ⟨ao', cap', hv, _, _, hno⟩ := h.shape
  simp only [Value.slice.injEq] at hv
  obtain ⟨rfl, _, rfl⟩ := hv
  exact hno h0
theorem Try.infoIntK : (Try.prog.info? 3).map (fun i => (i.zero, i.size, i.bytes)) = some (some (.int .i64 0), 1, 8) := by kernel_rfl
theorem madeK_one (v : Value) (m : Nat) : madeCells #[v] m = (List.replicate m v).toArray := by
  refine Array.ext (by simp [madeCells]) fun i h1 h2 => ?_
  simp [madeCells, Nat.mod_one]
/-- 'make([]T, n)'. -/
theorem wpList_make_any {P : Program} (w : World) {ops : Array Oper} {rest : List Oper} {o : Oper} {a : Act} {Q : Exit → Act → World → Prop}
    (hg : o.guard = none) (l c : Operand) (t : TypeId) (hop : o.op = Op.makeSlice t l c)
    (e : TypeId) (i : TypeInfo) (z : Value) (size bytes : Nat) (ht : P.underlying t = some (.slice e)) (hi : P.info? e = some i) (hz : i.zero = some z) (hsize : i.size = size) (hbs : i.bytes = bytes)
    (kl kc : IntKind) (n m : Int) (hl : a.eval l = .int kl n) (hc : a.eval c = .int kc m) (h0 : 0 ≤ n) (hnm : n ≤ m) (h1 : m ≤ 4294967296) (hb : bytes ≤ 256)
    (hK : wpList P ops Q rest (a.put o.dst (.slice (some ⟨w.heap.size, 0, none⟩) n.toNat m.toNat)) (w.alloc (.cells (madeCells z.cells (m.toNat * size)) e))) :
    wpList P ops Q (o :: rest) a w := by
  refine wpList_plain hg fun K hK' => ?_
  have hm : (i.bytes : Int) * m ≤ 281474976710656 := by
    rw [hbs]
    have := Int.mul_le_mul (a := (bytes : Int)) (b := m) (c := 256) (d := 4294967296) (by omega) h1 (by omega) (by omega)
    omega
  have hrun := run_make (P := P) w t e i z ht hi hz kl kc n m h0 hnm hm (by omega)
  rw [hsize] at hrun
  unfold Oper.wp
  simp [execOp, hop, hl, hc, hrun, Result.andThen]
  exact hK' _ _ hK
end Go.Proofs.Ytboiogjklecpaaa
