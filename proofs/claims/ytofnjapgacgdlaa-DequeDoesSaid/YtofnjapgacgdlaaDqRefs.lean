/- Package deque: the document's walks as one row of four structs. -/
import Derived.Test.YtofnjapgacgdlaaRef13g
import Derived.Test.YtofnjapgacgdlaaDqMem
set_option linter.unusedVariables false
set_option linter.unusedSimpArgs false
namespace Go.Proofs.Ytofnjapgacgdlaa
open Go.RowKit
set_option maxRecDepth 100000
set_option maxHeartbeats 4000000
def rrL (R : Nat → Nat → Value) : List Value := (List.range 40).map fun q => R (q / 10) (q % 10)
def updR (R : Nat → Nat → Value) (K j : Nat) (v : Value) : Nat → Nat → Value := fun k i => if k = K ∧ i = j then v else R k i
def setR (R : Nat → Nat → Value) (K : Nat) (f : Nat → Value) : Nat → Nat → Value := fun k i => if k = K then f i else R k i
theorem rr_get (R : Nat → Nat → Value) {K j : Nat} (hK : K < 4) (hj : j < 10) : (rrL R)[K * 10 + j]? = some (R K j) := by
  unfold rrL
  rw [List.getElem?_map, List.getElem?_range (by omega)]
  simp only [Option.map_some]
  rw [show (K * 10 + j) / 10 = K by omega, show (K * 10 + j) % 10 = j by omega]
theorem rr_set (R : Nat → Nat → Value) {K j : Nat} (hK : K < 4) (hj : j < 10) (v : Value) : (rrL R).set (K * 10 + j) v = rrL (updR R K j v) := by
  refine List.ext_getElem? fun i => ?_
  unfold rrL
  by_cases hi : i < 40
  · by_cases e : K * 10 + j = i
    · subst e
      rw [List.getElem?_set_self (by simp; omega), List.getElem?_map, List.getElem?_range (by omega)]
      simp only [Option.map_some]
      rw [show (K * 10 + j) / 10 = K by omega, show (K * 10 + j) % 10 = j by omega]
      unfold updR
      rw [if_pos ⟨rfl, rfl⟩]
    · rw [List.getElem?_set_ne e, List.getElem?_map, List.getElem?_map, List.getElem?_range hi]
      simp only [Option.map_some]
      unfold updR
      rw [if_neg (by omega)]
  · rw [List.getElem?_eq_none (by simp; omega), List.getElem?_eq_none (by simp; omega)]
theorem setR_ten (R : Nat → Nat → Value) (K : Nat) (f : Nat → Value) : ∀ k i, i < 10 → updR (updR (updR (updR (updR (updR (updR (updR (updR (updR R K 0 (f 0)) K 1 (f 1)) K 2 (f 2)) K 3 (f 3)) K 4 (f 4)) K 5 (f 5)) K 6 (f 6)) K 7 (f 7)) K 8 (f 8)) K 9 (f 9) k i = setR R K f k i := by
  intro k i hi
  unfold updR setR
  by_cases hk : k = K
  · subst hk
    have : i = 0 ∨ i = 1 ∨ i = 2 ∨ i = 3 ∨ i = 4 ∨ i = 5 ∨ i = 6 ∨ i = 7 ∨ i = 8 ∨ i = 9 := by omega
    rcases this with rfl | rfl | rfl | rfl | rfl | rfl | rfl | rfl | rfl | rfl <;> simp
  · simp [hk]
theorem rrL_congr {R R' : Nat → Nat → Value} (h : ∀ k i, i < 10 → R k i = R' k i) : rrL R = rrL R' := by
  unfold rrL
  refine List.map_congr_left fun q _ => h _ _ (Nat.mod_lt _ (by omega))
def rrA (rfb : Nat) (R : Nat → Nat → Value) : Ast := rowA 68 10 (.slice (some ⟨rfb, 0, none⟩) 4 4) 4 (rrL R)
theorem Own.rr_get {w0 w : World} {l : List Ast} (h : Own w0 w l) (i : Nat) {rfb : Nat} {R : Nat → Nat → Value} (hi : l[i]? = some (rrA rfb R)) {K j : Nat} (hK : K < 4) (hj : j < 10) : w.cell? ⟨rfb, K * 10 + j, none⟩ = some (R K j) ∧ w.frozen? ⟨rfb, K * 10 + j, none⟩ = false :=
  ⟨h.row_get i hi (Go.Proofs.Ytofnjapgacgdlaa.rr_get R hK hj), h.row_free i hi (by omega)⟩
theorem Own.rr_set {w0 w : World} {l : List Ast} (h : Own w0 w l) (i : Nat) {rfb : Nat} {R : Nat → Nat → Value} (hi : l[i]? = some (rrA rfb R)) {K j : Nat} (hK : K < 4) (hj : j < 10) (v : Value) : Own w0 (w.setCell ⟨rfb, K * 10 + j, none⟩ v) (l.set i (rrA rfb (updR R K j v))) :=
  h.row_set i hi (K * 10 + j) v (Go.Proofs.Ytofnjapgacgdlaa.rr_set R hK hj v)
/-- A whole struct stored into the row (the row stands first). -/
theorem Own.rr_set10 {w0 w : World} {l : List Ast} {rfb : Nat} {R : Nat → Nat → Value} (h : Own w0 w (rrA rfb R :: l)) {K : Nat} (hK : K < 4) (f : Nat → Value) :
    Own w0 ((((((((((w.setCell ⟨rfb, K * 10 + 0, none⟩ (f 0)).setCell ⟨rfb, K * 10 + 1, none⟩ (f 1)).setCell ⟨rfb, K * 10 + 2, none⟩ (f 2)).setCell ⟨rfb, K * 10 + 3, none⟩ (f 3)).setCell ⟨rfb, K * 10 + 4, none⟩ (f 4)).setCell ⟨rfb, K * 10 + 5, none⟩ (f 5)).setCell ⟨rfb, K * 10 + 6, none⟩ (f 6)).setCell ⟨rfb, K * 10 + 7, none⟩ (f 7)).setCell ⟨rfb, K * 10 + 8, none⟩ (f 8)).setCell ⟨rfb, K * 10 + 9, none⟩ (f 9)) (rrA rfb (setR R K f) :: l) := by
  have h0 : Own w0 _ (rrA rfb (updR R K 0 (f 0)) :: l) := h.rr_set 0 rfl hK (by omega) (f 0)
  have h1 : Own w0 _ (rrA rfb (updR _ K 1 (f 1)) :: l) := h0.rr_set 0 rfl hK (by omega) (f 1)
  have h2 : Own w0 _ (rrA rfb (updR _ K 2 (f 2)) :: l) := h1.rr_set 0 rfl hK (by omega) (f 2)
  have h3 : Own w0 _ (rrA rfb (updR _ K 3 (f 3)) :: l) := h2.rr_set 0 rfl hK (by omega) (f 3)
  have h4 : Own w0 _ (rrA rfb (updR _ K 4 (f 4)) :: l) := h3.rr_set 0 rfl hK (by omega) (f 4)
  have h5 : Own w0 _ (rrA rfb (updR _ K 5 (f 5)) :: l) := h4.rr_set 0 rfl hK (by omega) (f 5)
  have h6 : Own w0 _ (rrA rfb (updR _ K 6 (f 6)) :: l) := h5.rr_set 0 rfl hK (by omega) (f 6)
  have h7 : Own w0 _ (rrA rfb (updR _ K 7 (f 7)) :: l) := h6.rr_set 0 rfl hK (by omega) (f 7)
  have h8 : Own w0 _ (rrA rfb (updR _ K 8 (f 8)) :: l) := h7.rr_set 0 rfl hK (by omega) (f 8)
  have h9 : Own w0 _ (rrA rfb (updR _ K 9 (f 9)) :: l) := h8.rr_set 0 rfl hK (by omega) (f 9)
  have e := rrL_congr (setR_ten R K f)
  unfold rrA at *
  rw [← e]
  exact h9
end Go.Proofs.Ytofnjapgacgdlaa
