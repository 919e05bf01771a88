/- Slices as rows of cells: what they hold, what append makes of them. Plain facts, no program in sight. -/
import Derived.Test.YtboiogjklecpaaaBase
set_option linter.unusedVariables false
set_option linter.unusedSimpArgs false
namespace Go.Proofs.Ytboiogjklecpaaa
open Go.RowKit

/-- v is a slice of n elements of type e, each of 'size' cells: the cells xs; its spare room is there and may be written. -/
def Row (w : World) (e : TypeId) (size : Nat) (v : Value) (n : Nat) (xs : List Value) : Prop :=
  xs.length = n * size ∧
  ((v = .slice none 0 0 ∧ n = 0) ∨
   ∃ g off cap cur fr, v = .slice (some ⟨g, off, none⟩) n cap ∧ w.heap[g]? = some (.cells cur e fr) ∧ n ≤ cap ∧ cap ≤ maxLen ∧ off + cap * size ≤ cur.size ∧
     (∀ j, j < cap * size → ¬ (fr.1 ≤ off + j ∧ off + j < fr.2)) ∧ ∀ j, j < n * size → cur[off + j]? = xs[j]?)

theorem Row.cast {w : World} {e : TypeId} {size : Nat} {v : Value} {n n' : Nat} {xs xs' : List Value} (h : Row w e size v n xs) (hn : n = n') (hx : xs = xs') : Row w e size v n' xs' := by subst hn hx; exact h
theorem Row.nil (w : World) (e : TypeId) (size : Nat) : Row w e size (.slice none 0 0) 0 [] := ⟨by simp, .inl ⟨rfl, rfl⟩⟩
theorem Row.len {w : World} {e : TypeId} {size : Nat} {v : Value} {n : Nat} {xs : List Value} (h : Row w e size v n xs) : xs.length = n * size := h.1
theorem Row.lt {w : World} {e : TypeId} {size : Nat} {v : Value} {n : Nat} {xs : List Value} (h : Row w e size v n xs) {k : Nat} (hk : v.ownBlock = some k) : k < w.heap.size := by
  rcases h.2 with ⟨rfl, _⟩ | ⟨g, off, cap, cur, fr, rfl, hh, _⟩
  · cases hk
  · simp [Value.ownBlock] at hk; subst hk
    exact (Array.getElem?_eq_some_iff.1 hh).1
/-- A row of known shape. -/
theorem Row.shape {w : World} {e : TypeId} {size : Nat} {v : Value} {n : Nat} {xs : List Value} (h : Row w e size v n xs) : ∃ ao cap, v = .slice ao n cap ∧ n ≤ cap ∧ cap ≤ maxLen ∧ (ao = none → n = 0 ∧ cap = 0) := by
  rcases h.2 with ⟨rfl, rfl⟩ | ⟨g, off, cap, cur, fr, rfl, _, h1, h2, _⟩
  · exact ⟨none, 0, rfl, Nat.le_refl _, by simp [maxLen], fun _ => ⟨rfl, rfl⟩⟩
  · exact ⟨_, cap, rfl, h1, h2, fun h => by cases h⟩
/-- A row with an element in it lies somewhere. -/
theorem Row.addr {w : World} {e : TypeId} {size : Nat} {v : Value} {n : Nat} {xs : List Value} (h : Row w e size v n xs) (hn : 0 < n) :
    ∃ g off cap, v = .slice (some ⟨g, off, none⟩) n cap ∧ n ≤ cap ∧ cap ≤ maxLen ∧ (∀ j, j < n * size → w.cell? ⟨g, off + j, none⟩ = xs[j]?) ∧ (∀ j, j < n * size → w.frozen? ⟨g, off + j, none⟩ = false) := by
  rcases h.2 with ⟨_, rfl⟩ | ⟨g, off, cap, cur, fr, rfl, hh, h1, h2, h3, h4, h5⟩
  · omega
  · have hm := Nat.mul_le_mul_right size h1
    refine ⟨g, off, cap, rfl, h1, h2, fun j hj => by rw [cell_at hh]; exact h5 j hj, fun j hj => ?_⟩
    have := h4 j (by omega)
    obtain ⟨lo, hi⟩ := fr
    unfold World.frozen?; simp only [hh]
    simp at this ⊢; omega
theorem Row.cells {w : World} {e : TypeId} {size : Nat} {ao : Option Addr} {n cap : Nat} {xs : List Value} (h : Row w e size (.slice ao n cap) n xs) : ∀ ad, ao = some ad → ∀ j u, xs[j]? = some u → w.cell? (ad.add j) = some u := by
  rintro ad rfl j u hj
  rcases h.2 with ⟨h0, _⟩ | ⟨g, off, cap', cur, fr, hv, hh, h1, h2, h3, h4, h5⟩
  · simp at h0
  · simp only [Value.slice.injEq, Option.some.injEq] at hv
    obtain ⟨rfl, _, rfl⟩ := hv
    have hlt : j < n * size := by have := (List.getElem?_eq_some_iff.1 hj).1; rw [h.1] at this; exact this
    rw [Addr.add_lit, cell_at hh, h5 j hlt, hj]

theorem Row.same {w w' : World} {e : TypeId} {size : Nat} {v : Value} {n : Nat} {xs : List Value} (h : Row w e size v n xs) (hb : ∀ k, v.ownBlock = some k → w'.heap[k]? = w.heap[k]?) : Row w' e size v n xs := by
  refine ⟨h.1, ?_⟩
  rcases h.2 with h0 | ⟨g, off, cap, cur, fr, rfl, hh, r⟩
  · exact .inl h0
  · exact .inr ⟨g, off, cap, cur, fr, rfl, by rw [hb g rfl]; exact hh, r⟩
theorem Row.touch {S : Nat → Prop} {w w' : World} {e : TypeId} {size : Nat} {v : Value} {n : Nat} {xs : List Value} (h : Row w e size v n xs) (t : Touch S w w') (hs : ∀ k, v.ownBlock = some k → ¬ S k) : Row w' e size v n xs :=
  h.same fun k hk => t.block k (h.lt hk) (hs k hk)
theorem Row.alloc {w : World} {e : TypeId} {size : Nat} {v : Value} {n : Nat} {xs : List Value} (h : Row w e size v n xs) (o : Obj) : Row (w.alloc o) e size v n xs :=
  h.same fun _ hk => Below.heap_alloc _ _ _ (h.lt hk)
theorem Row.drew {w : World} {e : TypeId} {size : Nat} {v : Value} {n : Nat} {xs : List Value} (h : Row w e size v n xs) : Row w.drew e size v n xs := h
theorem Row.setCell {w : World} {e : TypeId} {size : Nat} {v : Value} {n : Nat} {xs : List Value} (h : Row w e size v n xs) {a : Addr} (ha : v.ownBlock ≠ some a.block) (u : Value) : Row (w.setCell a u) e size v n xs :=
  h.same fun k hk => Below.heap_setCell _ _ _ _ (by rintro rfl; exact ha hk)
theorem Row.below {B : Nat} {w w' : World} {e : TypeId} {size : Nat} {v : Value} {n : Nat} {xs : List Value} (h : Row w e size v n xs) (t : Below B w w') (hs : ∀ k, v.ownBlock = some k → k < B) : Row w' e size v n xs :=
  h.same fun k hk => t.block k (hs k hk)

theorem Row.of_owns {w : World} {base : Nat} {e : TypeId} {size : Nat} {v : Value} {n : Nat} {xs : List Value} (h : w.ownsRow base e size v n xs) : Row w e size v n xs := by
  refine ⟨h.1, ?_⟩
  rcases h.2 with h0 | ⟨g, cap, cur, hv, _, hh, h1, h2, h3, h4⟩
  · exact .inl h0
  · refine .inr ⟨g, 0, cap, cur, (0, 0), hv, hh, h1, h2, by omega, by simp, fun j hj => ?_⟩
    rw [← h4, Nat.zero_add, List.getElem?_take_of_lt hj]; simp

/-- A new block that holds just a row. -/
theorem Row.lit (w : World) (e : TypeId) (size : Nat) (cs : Array Value) (n : Nat) (hm : n ≤ maxLen) (hs : cs.size = n * size) :
    Row (w.alloc (.cells cs e)) e size (.slice (some ⟨w.heap.size, 0, none⟩) n n) n cs.toList := by
  refine ⟨by simp [hs], .inr ⟨w.heap.size, 0, n, cs, (0, 0), rfl, ?_, Nat.le_refl _, hm, by omega, by simp, fun j hj => by simp⟩⟩
  show (w.heap.push _)[_]? = _; simp

/-- What is behind: a cut of a row from i on. -/
theorem Row.take {w : World} {e : TypeId} {size : Nat} {a : Option Addr} {n cap : Nat} {xs : List Value} (h : Row w e size (.slice a n cap) n xs) {i : Nat} (hi : i ≤ n) : Row w e size (.slice a i cap) i (xs.take (i * size)) := by
  have hm := Nat.mul_le_mul_right size hi
  refine ⟨by rw [List.length_take, h.1]; omega, ?_⟩
  rcases h.2 with ⟨h0, h1⟩ | ⟨g, off, cap', cur, fr, hv, hh, h1, h2, h3, h4, h5⟩
  · simp at h0; obtain ⟨rfl, _, rfl⟩ := h0; exact .inl ⟨by simp; omega, by omega⟩
  · simp at hv; obtain ⟨rfl, rfl⟩ := hv
    exact .inr ⟨g, off, cap, cur, fr, rfl, hh, by omega, h2, h3, h4, fun j hj => by rw [h5 j (by omega), List.getElem?_take_of_lt hj]⟩
theorem Row.drop {w : World} {e : TypeId} {size : Nat} {g off : Nat} {n cap : Nat} {xs : List Value} (h : Row w e size (.slice (some ⟨g, off, none⟩) n cap) n xs) {i : Nat} (hi : i ≤ n) :
    Row w e size (.slice (some ⟨g, off + i * size, none⟩) (n - i) (cap - i)) (n - i) (xs.drop (i * size)) := by
  have hm := Nat.mul_le_mul_right size hi
  refine ⟨by rw [List.length_drop, h.1, Nat.sub_mul], ?_⟩
  rcases h.2 with ⟨h0, h1⟩ | ⟨g', off', cap', cur, fr, hv, hh, h1, h2, h3, h4, h5⟩
  · simp at h0
  · simp at hv; obtain ⟨⟨rfl, rfl⟩, rfl⟩ := hv
    have hm2 := Nat.mul_le_mul_right size (Nat.le_trans hi h1)
    refine .inr ⟨g, off + i * size, cap - i, cur, fr, rfl, hh, by omega, by omega, by rw [Nat.sub_mul]; omega, fun j hj => ?_, fun j hj => ?_⟩
    · rw [Nat.sub_mul] at hj; have := h4 (i * size + j) (by omega); rw [Nat.add_assoc]; exact this
    · rw [Nat.sub_mul] at hj; rw [Nat.add_assoc, h5 _ (by omega)]; simp

theorem setCells_heap (b : Nat) : ∀ (vs : List Value) (o : Nat) (w : World), (w.setCells b o vs).heap.size = w.heap.size ∧ (w.setCells b o vs).os = w.os ∧ (w.setCells b o vs).tape = w.tape ∧ (w.setCells b o vs).output = w.output ∧ ∀ k, k ≠ b → (w.setCells b o vs).heap[k]? = w.heap[k]?
  | [], _, w => ⟨rfl, rfl, rfl, rfl, fun _ _ => rfl⟩
  | v :: r, o, w => by
    obtain ⟨h1, h2, h3, h4, h5⟩ := setCells_heap b r (o + 1) (w.setCell ⟨b, o, none⟩ v)
    exact ⟨by rw [World.setCells, h1]; simp [World.setCell], h2, h3, h4, fun k hk => by rw [World.setCells, h5 k hk, Below.heap_setCell _ _ _ _ hk]⟩
theorem setCells_block (b : Nat) (e : TypeId) (fr : Nat × Nat) : ∀ (vs : List Value) (o : Nat) (w : World) (cur : Array Value), w.heap[b]? = some (.cells cur e fr) → o + vs.length ≤ cur.size →
    ∃ cur', (w.setCells b o vs).heap[b]? = some (.cells cur' e fr) ∧ cur'.size = cur.size ∧ ∀ j, cur'[j]? = if j < o then cur[j]? else if j < o + vs.length then vs[j - o]? else cur[j]?
  | [], o, w, cur, h, _ => ⟨cur, h, rfl, fun j => by simp; intro h1 h2; omega⟩
  | v :: r, o, w, cur, h, hl => by
    simp only [List.length_cons] at hl
    have h' : (w.setCell ⟨b, o, none⟩ v).heap[b]? = some (.cells (cur.setIfInBounds o v) e fr) := by
      simp only [World.setCell, Array.getElem?_modify, h]; rfl
    obtain ⟨cur', h1, h2, h3⟩ := setCells_block b e fr r (o + 1) _ _ h' (by simp; omega)
    refine ⟨cur', h1, by simpa using h2, fun j => ?_⟩
    rw [h3 j]
    by_cases a1 : j < o
    · rw [if_pos (by omega), if_pos a1, Array.getElem?_setIfInBounds]; rw [if_neg (by omega)]
    · by_cases a2 : j = o
      · subst a2
        rw [if_pos (by omega), if_neg a1, if_pos (by simp), Array.getElem?_setIfInBounds, if_pos rfl, if_pos (by omega)]; simp
      · rw [if_neg (by omega), if_neg a1]
        by_cases a3 : j < o + 1 + r.length
        · rw [if_pos a3, if_pos (by simp; omega)]
          have : j - o = (j - (o + 1)) + 1 := by omega
          rw [this]; simp
        · rw [if_neg a3, if_neg (by simp; omega), Array.getElem?_setIfInBounds, if_neg (by omega)]

/-- APPEND, whatever row it is appended to, whatever is appended (a row, or nothing). -/
theorem wpList_append_row {P : Program} (w : World) {ops : Array Oper} {rest : List Oper} {o : Oper} {a : Act} {Q : Exit → Act → World → Prop}
    (hg : o.guard = none) (s x : Operand) (t : TypeId) (hop : o.op = Op.call { callee := Callee.builtin Builtin.append, args := #[s, x], argTypes := #[t, t] })
    (e : TypeId) (i : TypeInfo) (z : Value) (size bytes : Nat) (h1 : P.underlying t = some (.slice e)) (h2 : P.info? e = some i) (h3 : i.zero = some z) (h4 : i.size = size) (h5 : i.bytes = bytes) (h6 : z.cells.size = size) (h7 : 0 < size)
    (v : Value) (n : Nat) (xs : List Value) (hs : a.eval s = v) (hrow : Row w e size v n xs)
    (ao : Option Addr) (m c : Nat) (news : List Value) (hx : a.eval x = .slice ao m c) (hn : news.length = m * size) (hnone : ao = none → m = 0 ∧ c = 0) (hc : ∀ ad, ao = some ad → ∀ j u, news[j]? = some u → w.cell? (ad.add j) = some u) (h1c : ∀ u ∈ news, u.oneCell' = true)
    (b1 : n + m ≤ maxLen) (b2 : (n + m) * bytes ≤ 140737488355328)
    (hK : ∀ v' w', Row w' e size v' (n + m) (xs ++ news) → Touch (fun k => v.ownBlock = some k) w w' → (∀ k, v'.ownBlock = some k → v.ownBlock = some k ∨ w.heap.size ≤ k) → wpList P ops Q rest (a.put o.dst v') w') :
    wpList P ops Q (o :: rest) a w := by
  have hnil : ao = none → wpList P ops Q (o :: rest) a w := by
    intro hao
    obtain ⟨rfl, rfl⟩ := hnone hao
    subst hao
    obtain rfl : news = [] := List.eq_nil_of_length_eq_zero (by simpa using hn)
    refine wpList_plain hg fun K hK' => ?_
    have hrun : (Builtin.append_ #[t, t] o.type #[v, .slice none 0 0]).run P w = .ok v w := by
      obtain ⟨ao, cap, rfl, hl, _, hno⟩ := hrow.shape
      cases ao with
      | none => obtain ⟨rfl, rfl⟩ := hno rfl; simp [Builtin.append_, run_underlying h1, sizeOf, typeInfo, h2, Builtin.lenOf, Builtin.firstCells]
      | some ad => simp [Builtin.append_, run_underlying h1, sizeOf, typeInfo, h2, Builtin.lenOf, Builtin.firstCells, hl, storeCells]
    unfold Oper.wp
    simp [execOp, hop, resolve, invoke, builtin, hs, hx, hrun, Result.andThen]
    exact hK' _ _ (hK v w (by simpa using hrow) (Touch.refl _ _) (fun k hk => .inl hk))
  cases hao : ao with
  | none => exact hnil hao
  | some ad =>
    subst hao
    obtain ⟨ao', cap, hv, hl, hcm, hno⟩ := hrow.shape
    by_cases hr : n + m ≤ cap ∧ 0 < cap
    · rcases hrow.2 with ⟨h0, hn0⟩ | ⟨g, off, cap', cur, fr, hv', hh, h8, h9, h10, h11, h12⟩
      · rw [hv] at h0; simp at h0; omega
      · rw [hv] at hv'; simp at hv'; obtain ⟨rfl, rfl⟩ := hv'
        have hmul : n * size + m * size ≤ cap * size := by rw [← Nat.add_mul]; exact Nat.mul_le_mul_right _ hr.1
        refine wpList_append_arg (P := P) w hg s x t hop e i z size bytes h1 h2 h3 h4 h5 h6 h7 g off n cap xs (by rw [hs, hv]) hrow.1 ?_ ad m c news hx hn (hc ad rfl) h1c ?_ b1 b2 ?_ ?_
        · intro j u hj
          have hlt : j < n * size := by have := (List.getElem?_eq_some_iff.1 hj).1; rw [hrow.1] at this; exact this
          rw [cell_at hh, h12 j hlt, hj]
        · intro _ j hj
          rw [hn] at hj
          refine ⟨?_, ?_⟩
          · rw [cell_at hh]; simp; omega
          · have := h11 (n * size + j) (by omega)
            obtain ⟨lo, hi⟩ := fr
            unfold World.frozen?; simp only [hh]
            simp at this ⊢; omega
        · intro _
          obtain ⟨cur', q1, q2, q3⟩ := setCells_block g e fr news (off + n * size) w cur hh (by rw [hn]; omega)
          obtain ⟨p1, p2, p3, p4, p5⟩ := setCells_heap g news (off + n * size) w
          refine hK _ _ ⟨by rw [List.length_append, hrow.1, hn, Nat.add_mul], .inr ⟨g, off, cap, cur', fr, rfl, q1, hr.1, h9, by omega, h11, fun j hj => ?_⟩⟩ ⟨p2, p3, p4, by omega, fun k hk hs' => p5 k (by rintro rfl; exact hs' (by rw [hv]; rfl))⟩ (fun k hk => .inl (by rw [hv]; exact hk))
          rw [Nat.add_mul] at hj
          rw [q3]
          by_cases a1 : j < n * size
          · rw [if_pos (by omega), h12 j a1, List.getElem?_append_left (by rw [hrow.1]; exact a1)]
          · rw [if_neg (by omega), if_pos (by rw [hn]; omega), List.getElem?_append_right (by rw [hrow.1]; omega), hrow.1]
            congr 1; omega
        · intro hgr; omega
    · by_cases hm0 : n + m ≤ cap
      · -- no room and nothing to put
        have hc0 : cap = 0 := by omega
        subst hc0
        obtain rfl : n = 0 := by omega
        obtain rfl : m = 0 := by omega
        obtain rfl : news = [] := List.eq_nil_of_length_eq_zero (by simpa using hn)
        refine wpList_plain hg fun K hK' => ?_
        have hrun : (Builtin.append_ #[t, t] o.type #[v, .slice (some ad) 0 c]).run P w = .ok v w := by
          rw [hv]
          have hfc := run_firstCells_some (P := P) w i.size 0 ad 0 c [] (by simp) (by simp)
          cases ao' with
          | none => simp [Builtin.append_, run_underlying h1, sizeOf, typeInfo, h2, Builtin.lenOf, hfc]
          | some ad' => simp [Builtin.append_, run_underlying h1, sizeOf, typeInfo, h2, Builtin.lenOf, hfc, storeCells]
        unfold Oper.wp
        simp [execOp, hop, resolve, invoke, builtin, hs, hx, hrun, Result.andThen]
        exact hK' _ _ (hK v w (by simpa using hrow) (Touch.refl _ _) (fun k hk => .inl hk))
      · refine wpList_append_grows (P := P) w hg s x t hop e i z size bytes h1 h2 h3 h4 h5 h6 h7 ao' n cap xs (by rw [hs, hv]) hno hrow.1 ?_ ad m c news hx hn (hc ad rfl) h1c (by omega) b1 b2 ?_
        · intro b hb j u hj
          subst hb
          exact (by rw [hv] at hrow; exact hrow.cells b rfl j u hj)
        · intro v' w' hown hgr
          refine hK v' w' (Row.of_owns hown) ⟨hgr.os, hgr.tape, hgr.output, hgr.size, fun k hk _ => hgr.block k hk (by simp)⟩ (fun k hk => .inr ?_)
          rcases hown.2 with ⟨rfl, _⟩ | ⟨g, cap', cur, rfl, hb, _⟩
          · cases hk
          · simp [Value.ownBlock] at hk; omega

/-- APPEND of what the statement itself has just laid into a block of its own: 'append(v, x)', 'append(v, x, y)'. -/
theorem wpList_append_lit {P : Program} (w : World) {ops : Array Oper} {rest : List Oper} {o : Oper} {a : Act} {Q : Exit → Act → World → Prop}
    (hg : o.guard = none) (s x : Operand) (t : TypeId) (hop : o.op = Op.call { callee := Callee.builtin Builtin.append, args := #[s, x], argTypes := #[t, t] })
    (e : TypeId) (i : TypeInfo) (z : Value) (size bytes : Nat) (h1 : P.underlying t = some (.slice e)) (h2 : P.info? e = some i) (h3 : i.zero = some z) (h4 : i.size = size) (h5 : i.bytes = bytes) (h6 : z.cells.size = size) (h7 : 0 < size)
    (v : Value) (n : Nat) (xs : List Value) (hs : a.eval s = v) (hrow : Row w e size v n xs)
    (cs : Array Value) (e' : TypeId) (m : Nat) (hx : a.eval x = .slice (some ⟨w.heap.size, 0, none⟩) m m) (hn : cs.size = m * size) (h1c : ∀ u ∈ cs.toList, u.oneCell' = true)
    (b1 : n + m ≤ maxLen) (b2 : (n + m) * bytes ≤ 140737488355328)
    (hK : ∀ ao' cap' w', Row w' e size (.slice ao' (n + m) cap') (n + m) (xs ++ cs.toList) → Touch (fun k => v.ownBlock = some k) w w' → (∀ k, Value.ownBlock (.slice ao' (n + m) cap') = some k → v.ownBlock = some k ∨ w.heap.size ≤ k) → wpList P ops Q rest (a.put o.dst (.slice ao' (n + m) cap')) w') :
    wpList P ops Q (o :: rest) a (w.alloc (.cells cs e')) := by
  refine wpList_append_row _ hg s x t hop e i z size bytes h1 h2 h3 h4 h5 h6 h7 v n xs hs (hrow.alloc _) (some ⟨w.heap.size, 0, none⟩) m m cs.toList hx (by simpa using hn) (fun h => by cases h) ?_ h1c b1 b2 ?_
  · rintro ad had j u hj
    simp only [Option.some.injEq] at had; subst had
    have hb : (w.alloc (.cells cs e')).heap[w.heap.size]? = some (.cells cs e' (0, 0)) := by show (w.heap.push _)[_]? = _; simp
    rw [Addr.add_lit, Nat.zero_add, cell_at hb]; simpa using hj
  · intro v' w' hr ht hf
    obtain ⟨ao', cap', rfl, _⟩ := hr.shape
    refine hK ao' cap' w' hr ?_ ?_
    · refine Touch.trans ((Touch.refl _ _).alloc (.cells cs e')) ht
    · intro k hk; rcases hf k hk with h | h
      · exact .inl h
      · right; simp at h; omega

/-- What is appended: so many elements, at an address where they lie. -/
def Src (w : World) (ao : Option Addr) (m c size : Nat) (news : List Value) : Prop :=
  news.length = m * size ∧ (ao = none → m = 0 ∧ c = 0) ∧ ∀ ad, ao = some ad → ∀ j u, news[j]? = some u → w.cell? (ad.add j) = some u
theorem Src.below {w w' : World} {ao : Option Addr} {m c size : Nat} {news : List Value} (h : Src w ao m c size news) (hb : Below w.heap.size w w') : Src w' ao m c size news :=
  ⟨h.1, h.2.1, fun ad had j u hu => by
    have h1 := h.2.2 ad had j u hu
    rw [hb.cell (World.block_lt_of_cell? _ _ h1)]; exact h1⟩
theorem Src.alloc {w : World} {ao : Option Addr} {m c size : Nat} {news : List Value} (h : Src w ao m c size news) (o : Obj) : Src (w.alloc o) ao m c size news :=
  h.below ((Below.refl _ _).alloc (Nat.le_refl _) o)
theorem Row.src {w : World} {e : TypeId} {size : Nat} {ao : Option Addr} {n cap : Nat} {xs : List Value} (h : Row w e size (.slice ao n cap) n xs) : Src w ao n cap size xs := by
  refine ⟨h.1, ?_, h.cells⟩
  obtain ⟨ao', cap', hv, _, _, hno⟩ := h.shape
  simp only [Value.slice.injEq] at hv
  obtain ⟨rfl, _, rfl⟩ := hv
  exact hno
theorem IsRow.src {k : IntKind} {w : World} {ao : Option Addr} {zs : List Int} {cap : Nat} (h : IsRow k w ao zs zs.length) (hc : ao = none → cap = 0) : Src w ao zs.length cap 1 (zs.map (Value.int k)) := by
  obtain ⟨_, _, h | ⟨x, rfl, hcell⟩⟩ := h
  · obtain ⟨rfl, rfl⟩ := h
    exact ⟨by simp, fun _ => ⟨rfl, hc rfl⟩, by simp⟩
  · refine ⟨by simp, by simp, ?_⟩
    rintro ad had j u hu
    simp only [Option.some.injEq] at had; subst had
    have hj : j < zs.length := by have := (List.getElem?_eq_some_iff.1 hu).1; simpa using this
    rw [hcell j hj]
    simp [hj] at hu ⊢; exact hu
/-- 'append([]T{}, l...)': a copy of one's own. -/
theorem wpList_append_copy {P : Program} (w : World) {ops : Array Oper} {rest : List Oper} {o : Oper} {a : Act} {Q : Exit → Act → World → Prop}
    (hg : o.guard = none) (s x : Operand) (t : TypeId) (hop : o.op = Op.call { callee := Callee.builtin Builtin.append, args := #[s, x], argTypes := #[t, t] })
    (e : TypeId) (i : TypeInfo) (z : Value) (size bytes : Nat) (h1 : P.underlying t = some (.slice e)) (h2 : P.info? e = some i) (h3 : i.zero = some z) (h4 : i.size = size) (h5 : i.bytes = bytes) (h6 : z.cells.size = size) (h7 : 0 < size)
    (hs : a.eval s = .slice (some ⟨w.heap.size, 0, none⟩) 0 0)
    (ao : Option Addr) (m c : Nat) (news : List Value) (hx : a.eval x = .slice ao m c) (hsrc : Src w ao m c size news) (h1c : ∀ u ∈ news, u.oneCell' = true)
    (b1 : m ≤ maxLen) (b2 : m * bytes ≤ 140737488355328)
    (hK : ∀ ao' cap' w', Row w' e size (.slice ao' m cap') m news → Below w.heap.size w w' → (∀ k, Value.ownBlock (.slice ao' m cap') = some k → w.heap.size ≤ k) → wpList P ops Q rest (a.put o.dst (.slice ao' m cap')) w') :
    wpList P ops Q (o :: rest) a (w.alloc (.cells #[] e)) := by
  have hl := (Row.lit w e size #[] 0 (by simp [maxLen]) (by simp))
  refine wpList_append_row _ hg s x t hop e i z size bytes h1 h2 h3 h4 h5 h6 h7 _ 0 [] hs (by simpa using hl) ao m c news hx hsrc.1 hsrc.2.1 (hsrc.alloc _).2.2 h1c (by omega) (by rw [Nat.zero_add]; exact b2) ?_
  intro v' w' hr ht hf
  have hr' := hr.cast (n' := m) (xs' := news) (by omega) (by simp)
  obtain ⟨ao', cap', rfl, _⟩ := hr'.shape
  refine hK ao' cap' w' hr' ?_ ?_
  · have ht' := Touch.trans (((Touch.refl (fun k => Value.ownBlock (.slice (some ⟨w.heap.size, 0, none⟩) 0 0) = some k) w)).alloc (.cells #[] e)) ht
    exact ht'.below (Below.refl _ _) (Nat.le_refl _) (fun k hk => by simp [Value.ownBlock] at hk; omega)
  · intro k hk
    rcases hf k hk with h | h
    · simp [Value.ownBlock] at h; omega
    · simp at h; omega
end Go.Proofs.Ytboiogjklecpaaa
