/- An arena and the document's arena side by side. -/
import Derived.Test.YtbadinmlnbabiaaArenaAll
set_option linter.unusedVariables false
set_option linter.unusedSimpArgs false
namespace Go.Proofs.Ytbadinmlnbabiaa
open Go.RowKit
structure TkInv (hs : List Bool) (tk : List Int) : Prop where
  nd : tk.Nodup
  nat : ∀ x ∈ tk, ∃ j : Nat, x = j ∧ 1 ≤ j
  mem : ∀ j : Nat, (j : Int) ∈ tk ↔ hs.getD j false = true
  len : tk.length = hs.count true
theorem TkInv.new (N : Nat) : TkInv (List.replicate (N + 1) false) [] := by
  refine ⟨by simp, by simp, fun j => ?_, by simp [List.count_replicate]⟩
  have : (List.replicate (N + 1) false).getD j false = false := by
    rw [List.getD_eq_getElem?_getD, List.getElem?_replicate]; split <;> rfl
  rw [this]; simp
theorem TkInv.take {hs : List Bool} {tk : List Int} (h : TkInv hs tk) {i : Nat} (h1 : 1 ≤ i) (hl : i < hs.length) (hf : hs.getD i false = false) : TkInv (hs.set i true) (tk ++ [(i : Int)]) := by
  obtain ⟨a, b, c, d⟩ := h
  refine ⟨?_, fun x hx => ?_, fun j => ?_, ?_⟩
  · rw [List.nodup_append]
    refine ⟨a, by simp, fun x hx y hy => ?_⟩
    simp at hy
    subst hy
    rintro rfl
    have := (c i).1 hx
    rw [hf] at this; cases this
  · rcases List.mem_append.1 hx with hx | hx
    · exact b x hx
    · simp at hx; exact ⟨i, hx, h1⟩
  · rw [bget_set hl, List.mem_append]
    by_cases hij : i = j
    · subst hij; simp
    · rw [if_neg hij, ← c j]
      simp
      omega
  · rw [List.length_append, count_true hl hf, d]; rfl
theorem filter_once : ∀ (tk : List Int) (x : Int), tk.Nodup → x ∈ tk → (tk.filter fun y => y != x).length + 1 = tk.length
  | [], _, _, h => by cases h
  | y :: tk, x, hn, hm => by
    rw [List.nodup_cons] at hn
    by_cases hy : y = x
    · subst hy
      rw [List.filter_cons_of_neg (by simp), List.filter_eq_self.2 (fun z hz => by simp; rintro rfl; exact hn.1 hz)]
      rfl
    · have hm' : x ∈ tk := by
        rcases List.mem_cons.1 hm with e | e
        · exact absurd e.symm hy
        · exact e
      have := filter_once tk x hn.2 hm'
      rw [List.filter_cons_of_pos (by simp [hy])]
      simp; omega
theorem TkInv.give {hs : List Bool} {tk : List Int} (h : TkInv hs tk) {i : Nat} (hl : i < hs.length) (hf : hs.getD i false = true) : TkInv (hs.set i false) (without tk i) := by
  obtain ⟨a, b, c, d⟩ := h
  have hm := (c i).2 hf
  refine ⟨List.Nodup.sublist (List.filter_sublist) a, fun x hx => b x (List.mem_filter.1 hx).1, fun j => ?_, ?_⟩
  · unfold without
    rw [List.mem_filter, bget_set hl]
    by_cases hij : i = j
    · subst hij; simp
    · rw [if_neg hij, ← c j]
      simp
      intro _
      omega
  · have h1 := filter_once tk i a hm
    have h2 := count_false hl hf
    unfold without
    omega
theorem TkInv.has {hs : List Bool} {tk : List Int} (h : TkInv hs tk) (h0 : hs.getD 0 false = false) (x : Int) : decide (x ∈ tk) = heldB hs x := by
  obtain ⟨a, b, c, d⟩ := h
  cases q : heldB hs x with
  | true =>
    obtain ⟨i, rfl, i1, i2, i3⟩ := heldB_nat q
    exact decide_eq_true ((c i).2 i3)
  | false =>
    refine decide_eq_false fun hm => ?_
    obtain ⟨j, rfl, j1⟩ := b x hm
    have h3 := (c j).1 hm
    have hl : j < hs.length := by
      by_cases hc : j < hs.length
      · exact hc
      · rw [List.getD_eq_getElem?_getD, List.getElem?_eq_none (by omega)] at h3; cases h3
    rw [heldB_of j1 hl h3] at q
    cases q
theorem trues_stop {hs : List Bool} {f : Nat} (h : ∀ j, f < j → hs.getD j false = false) : ∀ n, f + 1 ≤ n → trues hs n = trues hs (f + 1)
  | 0, hn => by omega
  | n + 1, hn => by
    by_cases hnf : n = f
    · rw [hnf]
    · rw [trues_succ, h n (by omega), if_neg (by simp)]
      exact trues_stop h n (by omega)
def Duo (w0 w : World) (ga hb gr : Nat) (N : Int) (hs : List Bool) (bs rbs tk : List Int) (fr rfr : Nat) (pk rpk : Int) : Prop :=
  ∃ rbv rtv, AOwn w0 w ga hb hs bs fr pk (refL gr N rbv rbs rtv tk rfr rpk [])
section
variable {w0 w : World} {ga hb gr : Nat} {N : Int} {hs hs' : List Bool} {bs bs' rbs rbs' tk tk' : List Int} {fr fr' rfr rfr' : Nat} {pk pk' rpk rpk' : Int}
theorem Duo.ref (h : Duo w0 w ga hb gr N hs bs rbs tk fr rfr pk rpk) : ∃ bv, ROwn w0 w gr N rbs tk rfr rpk (arenaL ga hb bv hs bs fr pk []) := by
  obtain ⟨rbv, rtv, bv, h⟩ := h
  exact ⟨bv, rbv, rtv, h.perm (List.perm_append_comm (l₁ := arenaL ga hb bv hs bs fr pk []) (l₂ := refL gr N rbv rbs rtv tk rfr rpk []))⟩
theorem Duo.of_ref {bv : Value} (h : ROwn w0 w gr N rbs tk rfr rpk (arenaL ga hb bv hs bs fr pk [])) : Duo w0 w ga hb gr N hs bs rbs tk fr rfr pk rpk := by
  obtain ⟨rbv, rtv, h⟩ := h
  exact ⟨rbv, rtv, bv, h.perm (List.perm_append_comm (l₁ := refL gr N rbv rbs rtv tk rfr rpk []) (l₂ := arenaL ga hb bv hs bs fr pk []))⟩
theorem Duo.below (h : Duo w0 w ga hb gr N hs bs rbs tk fr rfr pk rpk) : Below w0.heap.size w0 w := by
  obtain ⟨rbv, rtv, h⟩ := h
  exact h.below
theorem Duo.old (h : Duo w0 w ga hb gr N hs bs rbs tk fr rfr pk rpk) {p : Addr} {v : Value} (hp : w0.cell? p = some v) : w.cell? p = some v := by
  obtain ⟨rbv, rtv, h⟩ := h
  exact h.old hp
variable {f : FuncId} {args : Array Value} {E : Ending}
theorem Duo.arena (h : Duo w0 w ga hb gr N hs bs rbs tk fr rfr pk rpk) (c : ∀ l, AOwn w0 w ga hb hs bs fr pk l → Calls Try.prog f args w fun e w' => e = E ∧ AOwn w0 w' ga hb hs' bs' fr' pk' l) :
    Calls Try.prog f args w fun e w' => e = E ∧ Duo w0 w' ga hb gr N hs' bs' rbs tk fr' rfr pk' rpk := by
  obtain ⟨rbv, rtv, h⟩ := h
  exact (c _ h).mono fun e w' ⟨he, hw⟩ => ⟨he, rbv, rtv, hw⟩
theorem Duo.refc (h : Duo w0 w ga hb gr N hs bs rbs tk fr rfr pk rpk) (c : ∀ l, ROwn w0 w gr N rbs tk rfr rpk l → Calls Try.prog f args w fun e w' => e = E ∧ ROwn w0 w' gr N rbs' tk' rfr' rpk' l) :
    Calls Try.prog f args w fun e w' => e = E ∧ Duo w0 w' ga hb gr N hs bs rbs' tk' fr rfr' pk rpk' := by
  obtain ⟨bv, h⟩ := h.ref
  exact (c _ h).mono fun e w' ⟨he, hw⟩ => ⟨he, .of_ref hw⟩
end
/-- A step that takes, of both. -/
theorem duo_take {w0 w : World} {ga hb gr N : Nat} {hs : List Bool} {bs tk : List Int} {fr : Nat} {pk : Int} {bs' : List Int} {fr' : Nat} {i : Nat} (hI : AInv N hs bs fr) (hT : TkInv hs tk) (hN : N ≤ 1000) (hn : nextA hs bs fr = some ((i : Int), bs', fr')) (hi : i ≤ N) :
    (∀ w, Duo w0 w ga hb gr N hs bs bs tk fr fr pk pk → Calls Try.prog 32 #[.pointer (some ⟨ga, 0, none⟩)] w fun e w' => e = .returned (.tuple #[.int .i64 i, .bool true]) ∧ Duo w0 w' ga hb gr N (hs.set i true) bs' bs tk fr' fr (max pk ((tk.length : Int) + 1)) pk) ∧
    (∀ w, Duo w0 w ga hb gr N (hs.set i true) bs' bs tk fr' fr (max pk ((tk.length : Int) + 1)) pk → Calls Try.prog 33 #[.pointer (some ⟨gr, 0, none⟩)] w fun e w' => e = .returned (.tuple #[.int .i64 i, .bool true]) ∧ Duo w0 w' ga hb gr N (hs.set i true) bs' bs' (tk ++ [(i : Int)]) fr' fr' (max pk ((tk.length : Int) + 1)) (max pk ((tk.length : Int) + 1))) := by
  have h1 := hI.len
  have h2 := hI.frN
  have h3 := hI.ct
  have h4 := hT.len
  obtain ⟨i', hi', i1, _, i3, _, _⟩ := hI.take hn
  have hii : i' = i := by omega
  subst hii
  have hc := count_true (hs := hs) (by omega) i3
  refine ⟨fun w h => h.arena fun l ho => take_yes ho (by omega) (by omega) (by omega) hn (by omega) _ _ rfl (by rw [cnt_count, hc, h4]; rfl), fun w h => h.refc fun l ho => ?_⟩
  unfold nextA at hn
  by_cases hb0 : bs = []
  · subst hb0
    rw [if_pos rfl] at hn
    by_cases hlt : hs.length ≤ fr + 1
    · rw [if_pos hlt] at hn; cases hn
    · rw [if_neg hlt] at hn
      simp only [Option.some.injEq, Prod.mk.injEq] at hn
      obtain ⟨e1, rfl, rfl⟩ := hn
      rw [← e1]
      exact rTake_fresh ho (by omega) (by omega) (by omega) _ rfl
  · rw [if_neg hb0] at hn
    simp only [Option.some.injEq, Prod.mk.injEq] at hn
    obtain ⟨e1, rfl, rfl⟩ := hn
    obtain ⟨l', x, rfl⟩ : ∃ l' x, bs = l' ++ [x] := ⟨bs.dropLast, bs.getLast hb0, (List.dropLast_concat_getLast hb0).symm⟩
    simp at e1
    subst e1
    rw [List.dropLast_concat]
    simp at h3
    exact rTake_back ho (by omega) (by omega) _ rfl
theorem duo_full {w0 : World} {ga hb gr N : Nat} {hs : List Bool} {bs tk : List Int} {fr : Nat} {pk : Int} (hI : AInv N hs bs fr) (hN : N ≤ 1000) (hn : nextA hs bs fr = none) :
    (∀ w, Duo w0 w ga hb gr N hs bs bs tk fr fr pk pk → Calls Try.prog 32 #[.pointer (some ⟨ga, 0, none⟩)] w fun e w' => e = .returned (.tuple #[.int .i64 0, .bool false]) ∧ Duo w0 w' ga hb gr N hs bs bs tk fr fr pk pk) ∧
    (∀ w, Duo w0 w ga hb gr N hs bs bs tk fr fr pk pk → Calls Try.prog 33 #[.pointer (some ⟨gr, 0, none⟩)] w fun e w' => e = .returned (.tuple #[.int .i64 0, .bool false]) ∧ Duo w0 w' ga hb gr N hs bs bs tk fr fr pk pk) := by
  have h1 := hI.len
  have h2 := hI.frN
  refine ⟨fun w h => h.arena fun l ho => take_no ho (by omega) (by omega) hn, fun w h => h.refc fun l ho => ?_⟩
  unfold nextA at hn
  by_cases hb0 : bs = []
  · subst hb0
    rw [if_pos rfl] at hn
    by_cases hlt : hs.length ≤ fr + 1
    · exact rTake_full ho (by omega)
    · rw [if_neg hlt] at hn; cases hn
  · rw [if_neg hb0] at hn; cases hn
theorem duo_give {w0 : World} {ga hb gr N : Nat} {hs : List Bool} {bs tk : List Int} {fr : Nat} {pk : Int} {i : Nat} (hI : AInv N hs bs fr) (hT : TkInv hs tk) (hN : N ≤ 1000) (hi : heldB hs (i : Int) = true) :
    (∀ w, Duo w0 w ga hb gr N hs bs bs tk fr fr pk pk → Calls Try.prog 34 #[.pointer (some ⟨ga, 0, none⟩), .int .i64 i] w fun e w' => e = .returned (.bool true) ∧ Duo w0 w' ga hb gr N (hs.set i false) (bs ++ [(i : Int)]) bs tk fr fr pk pk) ∧
    (∀ w, Duo w0 w ga hb gr N (hs.set i false) (bs ++ [(i : Int)]) bs tk fr fr pk pk → Calls Try.prog 35 #[.pointer (some ⟨gr, 0, none⟩), .int .i64 i] w fun e w' => e = .returned (.bool true) ∧ Duo w0 w' ga hb gr N (hs.set i false) (bs ++ [(i : Int)]) (bs ++ [(i : Int)]) (without tk i) fr fr pk pk) := by
  have h1 := hI.len
  have h2 := hI.frN
  have h3 := hI.ct
  have h4 := hT.len
  exact ⟨fun w h => h.arena fun l ho => give_yes ho (by omega) (by omega) i hi _ rfl, fun w h => h.refc fun l ho => rGive_yes ho (by omega) (by omega) i (by rw [hT.has hI.h0]; exact hi)⟩
theorem duo_giveno {w0 : World} {ga hb gr N : Nat} {hs : List Bool} {bs tk : List Int} {fr : Nat} {pk : Int} {x : Int} (hI : AInv N hs bs fr) (hT : TkInv hs tk) (hN : N ≤ 1000) (hi : heldB hs x = false) :
    (∀ w, Duo w0 w ga hb gr N hs bs bs tk fr fr pk pk → Calls Try.prog 34 #[.pointer (some ⟨ga, 0, none⟩), .int .i64 x] w fun e w' => e = .returned (.bool false) ∧ Duo w0 w' ga hb gr N hs bs bs tk fr fr pk pk) ∧
    (∀ w, Duo w0 w ga hb gr N hs bs bs tk fr fr pk pk → Calls Try.prog 35 #[.pointer (some ⟨gr, 0, none⟩), .int .i64 x] w fun e w' => e = .returned (.bool false) ∧ Duo w0 w' ga hb gr N hs bs bs tk fr fr pk pk) := by
  have h1 := hI.len
  exact ⟨fun w h => h.arena fun l ho => (give_no ho (by omega) x hi).mono fun e w' ⟨he, hw⟩ => ⟨he, hw ▸ ho⟩, fun w h => h.refc fun l ho => (rGive_no ho x (by rw [hT.has hI.h0]; exact hi)).mono fun e w' ⟨he, hw⟩ => ⟨he, hw ▸ ho⟩⟩
end Go.Proofs.Ytbadinmlnbabiaa
