/- What a call has made for itself, piece by piece: pieces that share no block. No program in sight. -/
import Derived.Test.YtboiogjklecpaaaRow
set_option linter.unusedVariables false
set_option linter.unusedSimpArgs false
namespace Go.Proofs.Ytboiogjklecpaaa
open Go.RowKit
/-- A piece of memory: the blocks that it lies in, and what holds of them. -/
structure Ast where
  F : Nat → Prop
  hold : World → Prop
  loc : ∀ {w w' : World}, hold w → (∀ k, F k → w'.heap[k]? = w.heap[k]?) → hold w'
  lt : ∀ {w : World}, hold w → ∀ k, F k → k < w.heap.size
/-- One piece has become another one, in its own blocks and new ones; nothing else has turned. -/
structure Moves (A A' : Ast) (w w' : World) : Prop where
  hold : A'.hold w'
  touch : Touch A.F w w'
  new : ∀ k, A'.F k → A.F k ∨ w.heap.size ≤ k
/-- Since w0 these pieces have been made; nothing that there was is turned. -/
structure Own (w0 w : World) (l : List Ast) : Prop where
  below : Below w0.heap.size w0 w
  all : ∀ A ∈ l, A.hold w
  own : ∀ A ∈ l, ∀ k, A.F k → w0.heap.size ≤ k
  sep : l.Pairwise fun A B => ∀ k, A.F k → ¬ B.F k
theorem Own.nil {w0 w : World} (h : Below w0.heap.size w0 w) : Own w0 w [] := ⟨h, by simp, by simp, .nil⟩
theorem Own.at {w0 w : World} {l : List Ast} (h : Own w0 w l) (i : Nat) {A : Ast} (hi : l[i]? = some A) : A.hold w := h.all A (List.mem_of_getElem? hi)
theorem Own.old {w0 w : World} {l : List Ast} (h : Own w0 w l) {p : Addr} {v : Value} (hp : w0.cell? p = some v) : w.cell? p = some v := by
  rw [cell_old h.below p (by rw [hp]; rfl)]; exact hp
theorem Own.move {w0 w w' : World} {l : List Ast} (h : Own w0 w l) (i : Nat) {A A' : Ast} (hi : l[i]? = some A) (m : Moves A A' w w') : Own w0 w' (l.set i A') := by
  obtain ⟨h1, h2, h3, h4⟩ := h
  have hA := List.mem_of_getElem? hi
  obtain ⟨hlt, hAe⟩ := List.getElem?_eq_some_iff.1 hi
  have hz := h1.size
  -- any other piece stays
  have hsep : ∀ j, j ≠ i → ∀ B, l[j]? = some B → ∀ k, A.F k → ¬ B.F k := by
    intro j hj B hB k hk hk'
    obtain ⟨hjl, hBe⟩ := List.getElem?_eq_some_iff.1 hB
    rw [List.pairwise_iff_getElem] at h4
    subst hAe hBe
    rcases Nat.lt_or_gt_of_ne hj with hh | hh
    · exact h4 j i hjl hlt hh k hk' hk
    · exact h4 i j hlt hjl hh k hk hk'
  refine ⟨m.touch.below h1 hz (fun k hk => h3 A hA k hk), ?_, ?_, ?_⟩
  · intro B hB
    obtain ⟨j, hjB⟩ := List.mem_iff_getElem?.1 hB
    by_cases hj : i = j
    · subst hj
      rw [List.getElem?_set_self hlt] at hjB
      cases hjB
      exact m.hold
    · rw [List.getElem?_set_ne hj] at hjB
      have hBl := List.mem_of_getElem? hjB
      exact B.loc (h2 B hBl) fun k hk => m.touch.block k (B.lt (h2 B hBl) k hk) fun hAk => hsep j (Ne.symm hj) B hjB k hAk hk
  · intro B hB k hk
    obtain ⟨j, hjB⟩ := List.mem_iff_getElem?.1 hB
    by_cases hj : i = j
    · subst hj
      rw [List.getElem?_set_self hlt] at hjB
      cases hjB
      rcases m.new k hk with hh | hh
      · exact h3 A hA k hh
      · omega
    · rw [List.getElem?_set_ne hj] at hjB
      exact h3 B (List.mem_of_getElem? hjB) k hk
  · rw [List.pairwise_iff_getElem] at h4 ⊢
    intro a b ha hb hab k hka hkb
    have ha' : a < l.length := by simpa using ha
    have hb' : b < l.length := by simpa using hb
    have hx : ∀ j (hj : j ≠ i) (B : Ast), l[j]? = some B → B.F k → A'.F k → False := by
      intro j hj B hB hk hk'
      rcases m.new k hk' with hh | hh
      · exact hsep j hj B hB k hh hk
      · have := B.lt (h2 B (List.mem_of_getElem? hB)) k hk; omega
    by_cases hai : a = i
    · subst hai
      have hbi : b ≠ a := by omega
      rw [List.getElem_set_self] at hka
      rw [List.getElem_set_ne (Ne.symm hbi)] at hkb
      exact hx b hbi _ (List.getElem?_eq_getElem hb') hkb hka
    · rw [List.getElem_set_ne (Ne.symm hai)] at hka
      by_cases hbi : b = i
      · subst hbi
        rw [List.getElem_set_self] at hkb
        exact hx a hai _ (List.getElem?_eq_getElem ha') hka hkb
      · rw [List.getElem_set_ne (Ne.symm hbi)] at hkb
        exact h4 a b ha' hb' hab k hka hkb
/-- New memory besides. -/
theorem Own.grow {w0 w w' : World} {l : List Ast} (h : Own w0 w l) (hb : Below w.heap.size w w') : Own w0 w' l :=
  ⟨below_chain h.below hb, fun A hA => A.loc (h.all A hA) fun k hk => hb.block k (A.lt (h.all A hA) k hk), h.own, h.sep⟩
theorem Own.alloc {w0 w : World} {l : List Ast} (h : Own w0 w l) (o : Obj) : Own w0 (w.alloc o) l := h.grow (by go_grown)
theorem Own.drewN {w0 w : World} {l : List Ast} (h : Own w0 w l) (n : Nat) : Own w0 (w.drewN n) l := h.grow (below_drewN0 (Below.refl _ _) n)
  where below_drewN0 {B : Nat} {w0 w : World} (h : Below B w0 w) : ∀ n, Below B w0 (w.drewN n)
    | 0 => h
    | n + 1 => (below_drewN0 h n).drew
/-- One more piece, in new memory. -/
theorem Own.push {w0 w w' : World} {l : List Ast} (h : Own w0 w l) (hb : Below w.heap.size w w') (A : Ast) (hA : A.hold w') (hn : ∀ k, A.F k → w.heap.size ≤ k) : Own w0 w' (l ++ [A]) := by
  have h' := h.grow hb
  have hz := h.below.size
  refine ⟨h'.below, ?_, ?_, ?_⟩
  · intro B hB
    rcases List.mem_append.1 hB with hB | hB
    · exact h'.all B hB
    · simp at hB; subst hB; exact hA
  · intro B hB k hk
    rcases List.mem_append.1 hB with hB | hB
    · exact h.own B hB k hk
    · simp at hB; subst hB; have := hn k hk; omega
  · rw [List.pairwise_append]
    refine ⟨h.sep, by simp, ?_⟩
    intro B hB C hC k hk hk'
    simp at hC; subst hC
    have h1 := B.lt (h.all B hB) k hk
    have h2 := hn k hk'
    omega
theorem Own.cast {w0 w : World} {l l' : List Ast} (h : Own w0 w l) (e : l = l') : Own w0 w l' := e ▸ h
theorem Own.pop {w0 w : World} {l l' : List Ast} (h : Own w0 w (l ++ l')) : Own w0 w l :=
  ⟨h.below, fun A hA => h.all A (List.mem_append_left _ hA), fun A hA => h.own A (List.mem_append_left _ hA), (List.pairwise_append.1 h.sep).1⟩
/-- Two pieces of the list share no block. -/
theorem Own.apart {w0 w : World} {l : List Ast} (h : Own w0 w l) (i j : Nat) (hij : i < j) {A B : Ast} (hi : l[i]? = some A) (hj : l[j]? = some B) : ∀ k, A.F k → ¬ B.F k := by
  obtain ⟨hil, rfl⟩ := List.getElem?_eq_some_iff.1 hi
  obtain ⟨hjl, rfl⟩ := List.getElem?_eq_some_iff.1 hj
  exact List.pairwise_iff_getElem.1 h.sep i j hil hjl hij
/-- A slice of one's own. -/
def rowA (e : TypeId) (size : Nat) (v : Value) (n : Nat) (xs : List Value) : Ast where
  F k := v.ownBlock = some k
  hold w := Row w e size v n xs
  loc h hb := h.same fun k hk => hb k hk
  lt h k hk := h.lt hk
theorem Row.setc {w : World} {e : TypeId} {size : Nat} {ad : Addr} {n cap : Nat} {xs : List Value} (h : Row w e size (.slice (some ad) n cap) n xs) (j : Nat) (u : Value) : Row (w.setCell (ad.add j) u) e size (.slice (some ad) n cap) n (xs.set j u) := by
  refine ⟨by rw [List.length_set]; exact h.1, ?_⟩
  rcases h.2 with ⟨h0, _⟩ | ⟨g, off, cap', cur, fr, hv, hh, h1, h2, h3, h4, h5⟩
  · simp at h0
  · simp only [Value.slice.injEq, Option.some.injEq] at hv
    obtain ⟨rfl, _, rfl⟩ := hv
    refine .inr ⟨g, off, cap, cur.setIfInBounds (off + j) u, fr, rfl, ?_, h1, h2, by simpa using h3, h4, fun i hi => ?_⟩
    · rw [Addr.add_lit]; exact set_at hh _ _
    · have hlen := h.1
      have hm := Nat.mul_le_mul_right size h1
      by_cases hij : j = i
      · subst hij
        rw [Array.getElem?_setIfInBounds, if_pos rfl, if_pos (by omega), List.getElem?_set_self (by omega)]
      · rw [Array.getElem?_setIfInBounds, if_neg (by omega), List.getElem?_set_ne hij, h5 i hi]
theorem Row.free {w : World} {e : TypeId} {size : Nat} {ad : Addr} {n cap : Nat} {xs : List Value} (h : Row w e size (.slice (some ad) n cap) n xs) {j : Nat} (hj : j < n * size) : w.frozen? (ad.add j) = false := by
  rcases h.2 with ⟨h0, _⟩ | ⟨g, off, cap', cur, fr, hv, hh, h1, h2, h3, h4, h5⟩
  · simp at h0
  · simp only [Value.slice.injEq, Option.some.injEq] at hv
    obtain ⟨rfl, _, rfl⟩ := hv
    have hm := Nat.mul_le_mul_right size h1
    have := h4 j (by omega)
    rw [Addr.add_lit]
    obtain ⟨lo, hi⟩ := fr
    unfold World.frozen?; simp only [hh]
    simp at this ⊢; omega
theorem Row.moves {w : World} {e : TypeId} {size : Nat} {ad : Addr} {n cap : Nat} {xs : List Value} (h : Row w e size (.slice (some ad) n cap) n xs) (j : Nat) (u : Value) : Moves (rowA e size (.slice (some ad) n cap) n xs) (rowA e size (.slice (some ad) n cap) n (xs.set j u)) w (w.setCell (ad.add j) u) := by
  refine ⟨h.setc j u, ?_, fun k hk => .inl hk⟩
  rcases h.2 with ⟨h0, _⟩ | ⟨g, off, cap', cur, fr, hv, hh, h1, h2, h3, h4, h5⟩
  · simp at h0
  · simp only [Value.slice.injEq, Option.some.injEq] at hv
    obtain ⟨rfl, _, rfl⟩ := hv
    rw [Addr.add_lit]
    exact (Touch.refl (rowA e size (.slice (some ⟨g, off, none⟩) n cap) n xs).F w).setCell (p := ⟨g, off + j, none⟩) (.inr rfl) u
/-- A store into a row of the list. -/
theorem Own.set {w0 w : World} {l : List Ast} (h : Own w0 w l) (i : Nat) {e : TypeId} {size : Nat} {ad : Addr} {n cap : Nat} {xs : List Value} (hi : l[i]? = some (rowA e size (.slice (some ad) n cap) n xs)) (j : Nat) (u : Value) : Own w0 (w.setCell (ad.add j) u) (l.set i (rowA e size (.slice (some ad) n cap) n (xs.set j u))) :=
  h.move i hi ((h.at i hi : Row w e size _ n xs).moves j u)
theorem Own.row {w0 w : World} {l : List Ast} (h : Own w0 w l) (i : Nat) {e : TypeId} {size : Nat} {v : Value} {n : Nat} {xs : List Value} (hi : l[i]? = some (rowA e size v n xs)) : Row w e size v n xs := h.at i hi
theorem Moves.of_append {w w' : World} {e : TypeId} {size : Nat} {v v' : Value} {n n' : Nat} {xs xs' : List Value} (hr : Row w' e size v' n' xs') (ht : Touch (fun k => v.ownBlock = some k) w w') (hf : ∀ k, v'.ownBlock = some k → v.ownBlock = some k ∨ w.heap.size ≤ k) : Moves (rowA e size v n xs) (rowA e size v' n' xs') w w' := ⟨hr, ht, hf⟩
end Go.Proofs.Ytboiogjklecpaaa
