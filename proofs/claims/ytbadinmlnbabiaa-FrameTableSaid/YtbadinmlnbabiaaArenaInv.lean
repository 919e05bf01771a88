/- What holds of an arena, whatever is taken and given. No program in sight. -/
import Derived.Test.YtbadinmlnbabiaaArena2
set_option linter.unusedVariables false
set_option linter.unusedSimpArgs false
namespace Go.Proofs.Ytbadinmlnbabiaa
open Go.RowKit
theorem trues_count (hs : List Bool) : ∀ k, k ≤ hs.length → (trues hs k).length = (hs.take k).count true
  | 0, _ => by simp [trues]
  | k + 1, h => by
    rw [trues_succ, List.take_succ_eq_append_getElem (by omega), List.count_append, ← trues_count hs k (by omega)]
    rw [show hs.getD k false = hs[k] by rw [List.getD_eq_getElem?_getD, List.getElem?_eq_getElem (by omega)]; rfl]
    cases hs[k] <;> simp
theorem cnt_count (hs : List Bool) : cnt hs = (hs.count true : Nat) := by
  unfold cnt
  rw [trues_count hs hs.length (Nat.le_refl _), List.take_length]
theorem count_true {hs : List Bool} {i : Nat} (h : i < hs.length) (hf : hs.getD i false = false) : (hs.set i true).count true = hs.count true + 1 := by
  have e : hs[i] = false := by rw [List.getD_eq_getElem?_getD, List.getElem?_eq_getElem h] at hf; simpa using hf
  rw [List.count_set h, e]
  simp
theorem count_false {hs : List Bool} {i : Nat} (h : i < hs.length) (hf : hs.getD i false = true) : (hs.set i false).count true + 1 = hs.count true := by
  have e : hs[i] = true := by rw [List.getD_eq_getElem?_getD, List.getElem?_eq_getElem h] at hf; simpa using hf
  have hp : 0 < hs.count true := List.count_pos_iff.2 (by rw [← e]; exact List.getElem_mem h)
  rw [List.count_set h, e]
  simp
  omega
theorem bget_set {hs : List Bool} {i j : Nat} {b : Bool} (h : i < hs.length) : (hs.set i b).getD j false = if i = j then b else hs.getD j false := by
  by_cases hij : i = j
  · subst hij
    rw [if_pos rfl, List.getD_eq_getElem?_getD, List.getElem?_set_self h]; rfl
  · rw [if_neg hij, List.getD_eq_getElem?_getD, List.getElem?_set_ne hij, ← List.getD_eq_getElem?_getD]
structure AInv (N : Nat) (hs : List Bool) (bs : List Int) (fr : Nat) : Prop where
  len : hs.length = N + 1
  h0 : hs.getD 0 false = false
  frN : fr ≤ N
  hi : ∀ j, fr < j → hs.getD j false = false
  bk : ∀ x ∈ bs, ∃ j : Nat, x = j ∧ 1 ≤ j ∧ j ≤ fr ∧ hs.getD j false = false
  nd : bs.Nodup
  ct : hs.count true + bs.length = fr
  cv : ∀ j : Nat, 1 ≤ j → j ≤ fr → hs.getD j false = true ∨ (j : Int) ∈ bs
theorem AInv.new (N : Nat) : AInv N (List.replicate (N + 1) false) [] 0 := by
  have hg : ∀ j, (List.replicate (N + 1) false).getD j false = false := fun j => by
    rw [List.getD_eq_getElem?_getD, List.getElem?_replicate]; split <;> rfl
  exact ⟨by simp, hg 0, by omega, fun j _ => hg j, by simp, by simp, by simp [List.count_replicate], fun j h1 h2 => by omega⟩
theorem AInv.take {N : Nat} {hs : List Bool} {bs : List Int} {fr : Nat} (h : AInv N hs bs fr) {id : Int} {bs' : List Int} {fr' : Nat} (hn : nextA hs bs fr = some (id, bs', fr')) :
    ∃ i : Nat, id = i ∧ 1 ≤ i ∧ i ≤ N ∧ hs.getD i false = false ∧ AInv N (hs.set i true) bs' fr' ∧ hs.count true < N := by
  obtain ⟨h1, h2, h3, h4, h5, h6, h7, h8⟩ := h
  unfold nextA at hn
  by_cases hb : bs = []
  · subst hb
    rw [if_pos rfl] at hn
    by_cases hlt : hs.length ≤ fr + 1
    · rw [if_pos hlt] at hn; cases hn
    · rw [if_neg hlt] at hn
      simp only [Option.some.injEq, Prod.mk.injEq] at hn
      obtain ⟨rfl, rfl, rfl⟩ := hn
      have hf := h4 (fr + 1) (by omega)
      have hl : fr + 1 < hs.length := by omega
      simp at h7
      refine ⟨fr + 1, rfl, by omega, by omega, hf, ⟨by simp [h1], ?_, by omega, fun j hj => ?_, by simp, by simp, ?_, fun j j1 j2 => ?_⟩, by omega⟩
      · rw [bget_set hl, if_neg (by omega)]; exact h2
      · rw [bget_set hl, if_neg (by omega)]; exact h4 j (by omega)
      · rw [count_true hl hf]; simp; exact h7
      · rw [bget_set hl]
        by_cases hj : fr + 1 = j
        · rw [if_pos hj]; exact .inl rfl
        · rw [if_neg hj]; exact h8 j j1 (by omega)
  · rw [if_neg hb] at hn
    simp only [Option.some.injEq, Prod.mk.injEq] at hn
    obtain ⟨rfl, rfl, rfl⟩ := hn
    obtain ⟨l, x, rfl⟩ : ∃ l x, bs = l ++ [x] := ⟨bs.dropLast, bs.getLast hb, (List.dropLast_concat_getLast hb).symm⟩
    obtain ⟨j, rfl, j1, j2, j3⟩ := h5 x (by simp)
    have hl : j < hs.length := by omega
    simp only [List.getLast?_append, List.getLast?_singleton, Option.some_or, Option.getD_some, List.dropLast_concat]
    rw [List.nodup_append] at h6
    simp at h7
    refine ⟨j, rfl, j1, by omega, j3, ⟨by simp [h1], ?_, h3, fun i hi => ?_, fun y hy => ?_, h6.1, ?_, fun i i1 i2 => ?_⟩, by omega⟩
    · rw [bget_set hl, if_neg (by omega)]; exact h2
    · rw [bget_set hl, if_neg (by omega)]; exact h4 i hi
    · obtain ⟨i, rfl, i1, i2, i3⟩ := h5 y (by simp [hy])
      refine ⟨i, rfl, i1, i2, ?_⟩
      rw [bget_set hl, if_neg (fun e => h6.2.2 (i : Int) hy (j : Int) (by simp) (by omega))]
      exact i3
    · rw [count_true hl j3]; omega
    · rw [bget_set hl]
      by_cases hj : j = i
      · rw [if_pos hj]; exact .inl rfl
      · rw [if_neg hj]
        rcases h8 i i1 i2 with q | q
        · exact .inl q
        · simp at q
          rcases q with q | q
          · exact .inr q
          · omega
theorem AInv.full {N : Nat} {hs : List Bool} {bs : List Int} {fr : Nat} (h : AInv N hs bs fr) (hn : nextA hs bs fr = none) : hs.count true = N := by
  obtain ⟨h1, h2, h3, h4, h5, h6, h7, h8⟩ := h
  unfold nextA at hn
  by_cases hb : bs = []
  · subst hb
    rw [if_pos rfl] at hn
    by_cases hlt : hs.length ≤ fr + 1
    · simp at h7; omega
    · rw [if_neg hlt] at hn; cases hn
  · rw [if_neg hb] at hn; cases hn
theorem heldB_nat {hs : List Bool} {id : Int} (h : heldB hs id = true) : ∃ i : Nat, id = i ∧ 1 ≤ i ∧ i < hs.length ∧ hs.getD i false = true := by
  unfold heldB at h
  simp only [Bool.and_eq_true, decide_eq_true_eq] at h
  exact ⟨id.toNat, by omega, by omega, by omega, h.2.2⟩
theorem heldB_of {hs : List Bool} {i : Nat} (h1 : 1 ≤ i) (h2 : i < hs.length) (h3 : hs.getD i false = true) : heldB hs (i : Int) = true := by
  unfold heldB
  simp only [Bool.and_eq_true, decide_eq_true_eq, Int.toNat_natCast]
  exact ⟨by omega, by omega, h3⟩
theorem AInv.give {N : Nat} {hs : List Bool} {bs : List Int} {fr : Nat} (h : AInv N hs bs fr) {i : Nat} (hi : heldB hs (i : Int) = true) : AInv N (hs.set i false) (bs ++ [(i : Int)]) fr ∧ 0 < hs.count true ∧ (hs.set i false).count true + 1 = hs.count true := by
  obtain ⟨h1, h2, h3, h4, h5, h6, h7, h8⟩ := h
  obtain ⟨i', hii, q1, q2, q3⟩ := heldB_nat hi
  have : i' = i := by omega
  subst this
  have hfr : i' ≤ fr := by
    by_cases hc : i' ≤ fr
    · exact hc
    · have := h4 i' (by omega); rw [q3] at this; cases this
  have hcf := count_false q2 q3
  refine ⟨⟨by simp [h1], ?_, h3, fun j hj => ?_, fun x hx => ?_, ?_, ?_, fun j j1 j2 => ?_⟩, by omega, hcf⟩
  · rw [bget_set q2, if_neg (by omega)]; exact h2
  · rw [bget_set q2, if_neg (by omega)]; exact h4 j hj
  · rcases List.mem_append.1 hx with hx | hx
    · obtain ⟨j, rfl, j1, j2, j3⟩ := h5 x hx
      refine ⟨j, rfl, j1, j2, ?_⟩
      rw [bget_set q2]
      split
      · rfl
      · exact j3
    · simp at hx
      subst hx
      exact ⟨i', rfl, q1, hfr, by rw [bget_set q2, if_pos rfl]⟩
  · rw [List.nodup_append]
    refine ⟨h6, by simp, fun x hx y hy => ?_⟩
    simp at hy
    subst hy
    rintro rfl
    obtain ⟨j, hj, _, _, j3⟩ := h5 _ hx
    have : j = i' := by omega
    subst this
    rw [q3] at j3; cases j3
  · simp; omega
  · rw [bget_set q2]
    by_cases hj : i' = j
    · exact .inr (by simp [hj])
    · rw [if_neg hj]
      rcases h8 j j1 j2 with q | q
      · exact .inl q
      · exact .inr (by simp [q])
end Go.Proofs.Ytbadinmlnbabiaa
