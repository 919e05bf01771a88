/- CrossDoes: what the loop keeps in memory. -/
import Derived.Test.YtooofpplhedgcaaCrRef4
set_option linter.unusedVariables false
set_option linter.unusedSimpArgs false
namespace Go.Proofs.Ytooofpplhedgcaa
open Go.RowKit
set_option maxRecDepth 100000
set_option maxHeartbeats 4000000
def emptyA : Ast where
  F _ := False
  hold _ := True
  loc h _ := h
  lt _ k hk := hk.elim
theorem Own.empty {w0 w : World} {l : List Ast} (h : Own w0 w l) : Own w0 w (emptyA :: l) := by
  refine ⟨h.below, fun A hA => ?_, fun A hA k hk => ?_, ?_⟩
  · rcases List.mem_cons.1 hA with rfl | hA
    · trivial
    · exact h.all A hA
  · rcases List.mem_cons.1 hA with rfl | hA
    · exact hk.elim
    · exact h.own A hA k hk
  · rw [List.pairwise_cons]
    exact ⟨fun B hB k hk => hk.elim, h.sep⟩
def updV (P : Nat → Value) (k : Nat) (v : Value) : Nat → Value := fun j => if j = k then v else P j
def updA (As : Nat → Ast) (k : Nat) (A : Ast) : Nat → Ast := fun j => if j = k then A else As j
theorem three (K : Nat) (h : K < 3) : K = 0 ∨ K = 1 ∨ K = 2 := by omega
theorem three_set (P : Nat → Value) {K : Nat} (h : K < 3) (u : Value) : [P 0, P 1, P 2].set K u = [updV P K u 0, updV P K u 1, updV P K u 2] := by
  rcases three K h with rfl | rfl | rfl <;> rfl
theorem three_get (P : Nat → Value) {K : Nat} (h : K < 3) : [P 0, P 1, P 2][K]? = some (P K) := by
  rcases three K h with rfl | rfl | rfl <;> rfl
theorem updA_same (As : Nat → Ast) (k : Nat) : updA As k (As k) = As := by
  funext j
  unfold updA
  split
  · rename_i e; rw [e]
  · rfl
theorem three_pick (As : Nat → Ast) {K : Nat} (h : K < 3) : ∃ rest, ∀ A, (A :: rest).Perm [updA As K A 0, updA As K A 1, updA As K A 2] := by
  rcases three K h with rfl | rfl | rfl
  · exact ⟨[As 1, As 2], fun A => List.Perm.refl _⟩
  · exact ⟨[As 0, As 2], fun A => List.Perm.swap ..⟩
  · exact ⟨[As 0, As 1], fun A => (List.Perm.swap ..).trans (.cons _ (List.Perm.swap ..))⟩
theorem updV_ne {P : Nat → Value} {K : Nat} {v : Value} : ∀ i, i ≠ K → updV P K v i = P i := fun i h => by unfold updV; rw [if_neg h]
theorem updV_eq {P : Nat → Value} {K : Nat} {v : Value} : updV P K v K = v := by unfold updV; rw [if_pos rfl]
/-- Three structs of nine cells in a row. -/
def rrL (R : Nat → Nat → Value) : List Value := (List.range 27).map fun q => R (q / 9) (q % 9)
def updR (R : Nat → Nat → Value) (K j : Nat) (v : Value) : Nat → Nat → Value := fun k i => if k = K ∧ i = j then v else R k i
def setR (R : Nat → Nat → Value) (K : Nat) (f : Nat → Value) : Nat → Nat → Value := fun k i => if k = K then f i else R k i
theorem rr_get (R : Nat → Nat → Value) {K j : Nat} (hK : K < 3) (hj : j < 9) : (rrL R)[K * 9 + j]? = some (R K j) := by
  unfold rrL
  rw [List.getElem?_map, List.getElem?_range (by omega)]
  simp only [Option.map_some]
  rw [show (K * 9 + j) / 9 = K by omega, show (K * 9 + j) % 9 = j by omega]
theorem rr_set (R : Nat → Nat → Value) {K j : Nat} (hK : K < 3) (hj : j < 9) (v : Value) : (rrL R).set (K * 9 + j) v = rrL (updR R K j v) := by
  refine List.ext_getElem? fun i => ?_
  unfold rrL
  by_cases hi : i < 27
  · by_cases e : K * 9 + j = i
    · subst e
      rw [List.getElem?_set_self (by simp; omega), List.getElem?_map, List.getElem?_range (by omega)]
      simp only [Option.map_some]
      rw [show (K * 9 + j) / 9 = K by omega, show (K * 9 + j) % 9 = j by omega]
      unfold updR
      rw [if_pos ⟨rfl, rfl⟩]
    · rw [List.getElem?_set_ne e, List.getElem?_map, List.getElem?_map, List.getElem?_range hi]
      simp only [Option.map_some]
      unfold updR
      rw [if_neg (by omega)]
  · rw [List.getElem?_eq_none (by simp; omega), List.getElem?_eq_none (by simp; omega)]
theorem setR_nine (R : Nat → Nat → Value) (K : Nat) (f : Nat → Value) : ∀ k i, i < 9 → (updR (updR (updR (updR (updR (updR (updR (updR (updR R K 0 (f 0)) K 1 (f 1)) K 2 (f 2)) K 3 (f 3)) K 4 (f 4)) K 5 (f 5)) K 6 (f 6)) K 7 (f 7)) K 8 (f 8)) k i = setR R K f k i := by
  intro k i hi
  unfold updR setR
  by_cases hk : k = K
  · subst hk
    have : i = 0 ∨ i = 1 ∨ i = 2 ∨ i = 3 ∨ i = 4 ∨ i = 5 ∨ i = 6 ∨ i = 7 ∨ i = 8 := by omega
    rcases this with rfl | rfl | rfl | rfl | rfl | rfl | rfl | rfl | rfl <;> simp
  · simp [hk]
theorem rrL_congr {R R' : Nat → Nat → Value} (h : ∀ k i, i < 9 → R k i = R' k i) : rrL R = rrL R' := by
  unfold rrL
  refine List.map_congr_left fun q _ => h _ _ (Nat.mod_lt _ (by omega))
def rrA (fb : Nat) (R : Nat → Nat → Value) : Ast := rowA 75 9 (.slice (some ⟨fb, 0, none⟩) 3 3) 3 (rrL R)
theorem Own.rr_get {w0 w : World} {l : List Ast} (h : Own w0 w l) (i : Nat) {fb : Nat} {R : Nat → Nat → Value} (hi : l[i]? = some (rrA fb R)) {K j : Nat} (hK : K < 3) (hj : j < 9) : w.cell? ⟨fb, K * 9 + j, none⟩ = some (R K j) ∧ w.frozen? ⟨fb, K * 9 + j, none⟩ = false :=
  ⟨h.row_get i hi (Go.Proofs.Ytooofpplhedgcaa.rr_get R hK hj), h.row_free i hi (by omega)⟩
theorem Own.rr_set {w0 w : World} {l : List Ast} (h : Own w0 w l) (i : Nat) {fb : Nat} {R : Nat → Nat → Value} (hi : l[i]? = some (rrA fb R)) {K j : Nat} (hK : K < 3) (hj : j < 9) (v : Value) : Own w0 (w.setCell ⟨fb, K * 9 + j, none⟩ v) (l.set i (rrA fb (updR R K j v))) :=
  h.row_set i hi (K * 9 + j) v (Go.Proofs.Ytooofpplhedgcaa.rr_set R hK hj v)
theorem Own.rr_set9 {w0 w : World} {l : List Ast} {fb : Nat} {R : Nat → Nat → Value} (h : Own w0 w (rrA fb R :: l)) {K : Nat} (hK : K < 3) (f : Nat → Value) (c0 c1 c2 c3 c4 c5 c6 c7 c8 : Value) (e0 : f 0 = c0) (e1 : f 1 = c1) (e2 : f 2 = c2) (e3 : f 3 = c3) (e4 : f 4 = c4) (e5 : f 5 = c5) (e6 : f 6 = c6) (e7 : f 7 = c7) (e8 : f 8 = c8) :
    Own w0 (((((((((w.setCell ⟨fb, K * 9, none⟩ c0).setCell ⟨fb, K * 9 + 1, none⟩ c1).setCell ⟨fb, K * 9 + 2, none⟩ c2).setCell ⟨fb, K * 9 + 3, none⟩ c3).setCell ⟨fb, K * 9 + 4, none⟩ c4).setCell ⟨fb, K * 9 + 5, none⟩ c5).setCell ⟨fb, K * 9 + 6, none⟩ c6).setCell ⟨fb, K * 9 + 7, none⟩ c7).setCell ⟨fb, K * 9 + 8, none⟩ c8) (rrA fb (setR R K f) :: l) := by
  subst e0 e1 e2 e3 e4 e5 e6 e7 e8
  have h0 : Own w0 _ (rrA fb (updR R K 0 (f 0)) :: l) := h.rr_set 0 rfl hK (by omega) (f 0)
  have h1 : Own w0 _ (rrA fb (updR _ K 1 (f 1)) :: l) := h0.rr_set 0 rfl hK (by omega) (f 1)
  have h2 : Own w0 _ (rrA fb (updR _ K 2 (f 2)) :: l) := h1.rr_set 0 rfl hK (by omega) (f 2)
  have h3 : Own w0 _ (rrA fb (updR _ K 3 (f 3)) :: l) := h2.rr_set 0 rfl hK (by omega) (f 3)
  have h4 : Own w0 _ (rrA fb (updR _ K 4 (f 4)) :: l) := h3.rr_set 0 rfl hK (by omega) (f 4)
  have h5 : Own w0 _ (rrA fb (updR _ K 5 (f 5)) :: l) := h4.rr_set 0 rfl hK (by omega) (f 5)
  have h6 : Own w0 _ (rrA fb (updR _ K 6 (f 6)) :: l) := h5.rr_set 0 rfl hK (by omega) (f 6)
  have h7 : Own w0 _ (rrA fb (updR _ K 7 (f 7)) :: l) := h6.rr_set 0 rfl hK (by omega) (f 7)
  have h8 : Own w0 _ (rrA fb (updR _ K 8 (f 8)) :: l) := h7.rr_set 0 rfl hK (by omega) (f 8)
  have e := rrL_congr (setR_nine R K f)
  unfold rrA at *
  rw [← e]
  exact h8
def refFC (s : CS) : Nat → Value
  | 0 => .bool s.parks
  | 1 => .int .i64 2
  | 2 => .int .i64 s.se
  | 3 => .int .i64 s.it
  | 4 => .int .i64 s.n
  | 5 => .int .i64 (s.at_ : Int)
  | 6 => .int .i64 s.st
  | 7 => .int .i64 s.fr
  | _ => .bool s.got
/-- One of the three: none yet, a Right, or a Park, with the document's beside it. -/
def CWD (rv pv : Value) (A : Ast) (f : Nat → Value) : Prop :=
  (rv = .pointer none ∧ pv = .pointer none ∧ A = emptyA) ∨ ∃ s nb, OkC s ∧ A = objC nb s ∧ (∀ j, j < 9 → f j = refFC s j) ∧ ((s.parks = false ∧ rv = .pointer (some ⟨nb, 0, none⟩) ∧ pv = .pointer none) ∨ (s.parks = true ∧ rv = .pointer none ∧ pv = .pointer (some ⟨nb, 0, none⟩)))
def planC19 (pb : Nat) : Ast := cellsA pb #[.int .i64 1, .int .i64 3, .int .i64 3, .int .i64 3] 26
def planR19 (qb : Nat) : Ast := cellsA qb #[.int .i64 1, .int .i64 3, .int .i64 3, .int .i64 3] 66
def rrow (rb : Nat) (P : Nat → Value) : Ast := rowA 56 1 (.slice (some ⟨rb, 0, none⟩) 3 3) 3 [P 0, P 1, P 2]
def prow (kb : Nat) (P : Nat → Value) : Ast := rowA 60 1 (.slice (some ⟨kb, 0, none⟩) 3 3) 3 [P 0, P 1, P 2]
def CB (pb qb rb kb fb : Nat) (Rv Pv : Nat → Value) (F : Nat → Nat → Value) (mv : Value) (m : List Int) (rest : List Ast) : List Ast :=
  planC19 pb :: planR19 qb :: rrow rb Rv :: prow kb Pv :: mRow mv m :: rrA fb F :: rest
theorem CB.perm {pb qb rb kb fb : Nat} {Rv Pv : Nat → Value} {F : Nat → Nat → Value} {mv : Value} {m : List Int} {S A : Ast} {rest l : List Ast} (h : (A :: rest).Perm l) : (S :: A :: CB pb qb rb kb fb Rv Pv F mv m rest).Perm (S :: CB pb qb rb kb fb Rv Pv F mv m l) := by
  refine .cons _ ?_
  unfold CB
  have h1 : (A :: ([planC19 pb, planR19 qb, rrow rb Rv, prow kb Pv, mRow mv m, rrA fb F] ++ rest)).Perm ([planC19 pb, planR19 qb, rrow rb Rv, prow kb Pv, mRow mv m, rrA fb F] ++ A :: rest) := List.perm_middle.symm
  exact h1.trans (List.Perm.append_left _ h)
def CState (w0 w : World) (g sb pb qb rb kb fb : Nat) (mv : Value) (m : List Int) : Prop :=
  ∃ (Rv Pv : Nat → Value) (As : Nat → Ast) (F : Nat → Nat → Value), (∀ i, i < 3 → CWD (Rv i) (Pv i) (As i) (F i)) ∧ Own w0 w (storeA g sb m :: CB pb qb rb kb fb Rv Pv F mv m [As 0, As 1, As 2])
theorem CState.pick {w0 w : World} {g sb pb qb rb kb fb : Nat} {mv : Value} {m : List Int} (h : CState w0 w g sb pb qb rb kb fb mv m) {K : Nat} (hK : K < 3) :
    ∃ (Rv Pv : Nat → Value) (As : Nat → Ast) (F : Nat → Nat → Value) (rest : List Ast), (∀ i, i < 3 → CWD (Rv i) (Pv i) (As i) (F i)) ∧ (∀ A, (A :: rest).Perm [updA As K A 0, updA As K A 1, updA As K A 2]) ∧ Own w0 w (storeA g sb m :: As K :: CB pb qb rb kb fb Rv Pv F mv m rest) := by
  obtain ⟨Rv, Pv, As, F, h1, hO⟩ := h
  obtain ⟨rest, hr⟩ := three_pick As hK
  have h2 := hr (As K)
  rw [updA_same] at h2
  exact ⟨Rv, Pv, As, F, rest, h1, hr, hO.pm (CB.perm h2).symm⟩
theorem CState.put {w0 w : World} {g sb pb qb rb kb fb : Nat} {mv : Value} {m : List Int} {Rv Pv Rv' Pv' : Nat → Value} {As : Nat → Ast} {F F' : Nat → Nat → Value} {rest extra : List Ast} {K : Nat} (hw : ∀ i, i < 3 → CWD (Rv i) (Pv i) (As i) (F i)) (hr : ∀ A, (A :: rest).Perm [updA As K A 0, updA As K A 1, updA As K A 2])
    (e1 : ∀ i, i ≠ K → Rv' i = Rv i) (e2 : ∀ i, i ≠ K → Pv' i = Pv i) (e3 : ∀ i, i ≠ K → F' i = F i) {A : Ast} (hk : CWD (Rv' K) (Pv' K) A (F' K)) (hO : Own w0 w (storeA g sb m :: A :: CB pb qb rb kb fb Rv' Pv' F' mv m (rest ++ extra))) : CState w0 w g sb pb qb rb kb fb mv m := by
  refine ⟨Rv', Pv', updA As K A, F', fun i hi => ?_, ?_⟩
  · unfold updA
    by_cases e : i = K
    · subst e; rw [if_pos rfl]; exact hk
    · rw [if_neg e, e1 i e, e2 i e, e3 i e]; exact hw i hi
  · refine (hO.sub (l' := storeA g sb m :: A :: CB pb qb rb kb fb Rv' Pv' F' mv m rest) ?_).pm (CB.perm (hr A))
    exact .cons_cons _ (.cons_cons _ (.cons_cons _ (.cons_cons _ (.cons_cons _ (.cons_cons _ (.cons_cons _ (.cons_cons _ (List.sublist_append_left _ _))))))))
theorem setR_ne {R : Nat → Nat → Value} {K : Nat} {f : Nat → Value} : ∀ i, i ≠ K → setR R K f i = R i := fun i h => by funext j; unfold setR; rw [if_neg h]
theorem setR_eq {R : Nat → Nat → Value} {K : Nat} {f : Nat → Value} : setR R K f K = f := by funext j; unfold setR; rw [if_pos rfl]
section
variable {w0 w : World} {g sb pb qb rb kb fb : Nat} {mv : Value} {m m' : List Int} {Rv Pv : Nat → Value} {F : Nat → Nat → Value} {A : Ast} {rest : List Ast} {K : Nat}
theorem CB.plan (h : Own w0 w (storeA g sb m :: A :: CB pb qb rb kb fb Rv Pv F mv m' rest)) : (w.cell? ⟨pb, 0, none⟩ = some (.int .i64 1) ∧ w.cell? ⟨pb, 1, none⟩ = some (.int .i64 3) ∧ w.cell? ⟨pb, 2, none⟩ = some (.int .i64 3) ∧ w.cell? ⟨pb, 3, none⟩ = some (.int .i64 3)) ∧ (w.cell? ⟨qb, 0, none⟩ = some (.int .i64 1) ∧ w.cell? ⟨qb, 1, none⟩ = some (.int .i64 3) ∧ w.cell? ⟨qb, 2, none⟩ = some (.int .i64 3) ∧ w.cell? ⟨qb, 3, none⟩ = some (.int .i64 3)) :=
  ⟨⟨(h.cget 2 rfl 0).1, (h.cget 2 rfl 1).1, (h.cget 2 rfl 2).1, (h.cget 2 rfl 3).1⟩, (h.cget 3 rfl 0).1, (h.cget 3 rfl 1).1, (h.cget 3 rfl 2).1, (h.cget 3 rfl 3).1⟩
theorem CB.rt (h : Own w0 w (storeA g sb m :: A :: CB pb qb rb kb fb Rv Pv F mv m' rest)) (hK : K < 3) : w.cell? ⟨rb, K, none⟩ = some (Rv K) ∧ w.frozen? ⟨rb, K, none⟩ = false := ⟨h.row_get 4 rfl (three_get Rv hK), h.row_free 4 rfl hK⟩
theorem CB.pk (h : Own w0 w (storeA g sb m :: A :: CB pb qb rb kb fb Rv Pv F mv m' rest)) (hK : K < 3) : w.cell? ⟨kb, K, none⟩ = some (Pv K) ∧ w.frozen? ⟨kb, K, none⟩ = false := ⟨h.row_get 5 rfl (three_get Pv hK), h.row_free 5 rfl hK⟩
theorem CB.ref (h : Own w0 w (storeA g sb m :: A :: CB pb qb rb kb fb Rv Pv F mv m' rest)) (hK : K < 3) {j : Nat} (hj : j < 9) : w.cell? ⟨fb, K * 9 + j, none⟩ = some (F K j) ∧ w.frozen? ⟨fb, K * 9 + j, none⟩ = false := h.rr_get 7 rfl hK hj
theorem CB.setRt (h : Own w0 w (storeA g sb m :: A :: CB pb qb rb kb fb Rv Pv F mv m' rest)) (hK : K < 3) (u : Value) : Own w0 (w.setCell ⟨rb, K, none⟩ u) (storeA g sb m :: A :: CB pb qb rb kb fb (updV Rv K u) Pv F mv m' rest) := h.row_set 4 rfl K u (three_set Rv hK u)
theorem CB.setPk (h : Own w0 w (storeA g sb m :: A :: CB pb qb rb kb fb Rv Pv F mv m' rest)) (hK : K < 3) (u : Value) : Own w0 (w.setCell ⟨kb, K, none⟩ u) (storeA g sb m :: A :: CB pb qb rb kb fb Rv (updV Pv K u) F mv m' rest) := h.row_set 5 rfl K u (three_set Pv hK u)
theorem CB.set9 (h : Own w0 w (storeA g sb m :: A :: CB pb qb rb kb fb Rv Pv F mv m' rest)) (hK : K < 3) (f : Nat → Value) (c0 c1 c2 c3 c4 c5 c6 c7 c8 : Value) (e0 : f 0 = c0) (e1 : f 1 = c1) (e2 : f 2 = c2) (e3 : f 3 = c3) (e4 : f 4 = c4) (e5 : f 5 = c5) (e6 : f 6 = c6) (e7 : f 7 = c7) (e8 : f 8 = c8) : Own w0 (((((((((w.setCell ⟨fb, K * 9, none⟩ c0).setCell ⟨fb, K * 9 + 1, none⟩ c1).setCell ⟨fb, K * 9 + 2, none⟩ c2).setCell ⟨fb, K * 9 + 3, none⟩ c3).setCell ⟨fb, K * 9 + 4, none⟩ c4).setCell ⟨fb, K * 9 + 5, none⟩ c5).setCell ⟨fb, K * 9 + 6, none⟩ c6).setCell ⟨fb, K * 9 + 7, none⟩ c7).setCell ⟨fb, K * 9 + 8, none⟩ c8) (storeA g sb m :: A :: CB pb qb rb kb fb Rv Pv (setR F K f) mv m' rest) := by
  have e : ∀ G : Nat → Nat → Value, (storeA g sb m :: A :: CB pb qb rb kb fb Rv Pv G mv m' rest).Perm (rrA fb G :: storeA g sb m :: A :: planC19 pb :: planR19 qb :: rrow rb Rv :: prow kb Pv :: mRow mv m' :: rest) := fun G => List.perm_middle (l₁ := [storeA g sb m, A, planC19 pb, planR19 qb, rrow rb Rv, prow kb Pv, mRow mv m'])
  exact ((h.pm (e F)).rr_set9 hK f c0 c1 c2 c3 c4 c5 c6 c7 c8 e0 e1 e2 e3 e4 e5 e6 e7 e8).pm (e _).symm
theorem CB.mfirst : (storeA g sb m :: A :: CB pb qb rb kb fb Rv Pv F mv m' rest).Perm (mRow mv m' :: storeA g sb m :: A :: planC19 pb :: planR19 qb :: rrow rb Rv :: prow kb Pv :: rrA fb F :: rest) := List.perm_middle (l₁ := [storeA g sb m, A, planC19 pb, planR19 qb, rrow rb Rv, prow kb Pv])
theorem CB.box (h : Own w0 w (storeA g sb m :: A :: CB pb qb rb kb fb Rv Pv F mv m' rest)) (cs : Array Value) (t : TypeId) : Own w0 (w.alloc (.cells cs t)) (storeA g sb m :: A :: CB pb qb rb kb fb Rv Pv F mv m' (rest ++ [cellsA w.heap.size cs t])) := h.box cs t
theorem CB.get (h : Own w0 w (storeA g sb m :: A :: CB pb qb rb kb fb Rv Pv F mv m' rest)) {nb : Nat} {cs : Array Value} {t : TypeId} (hm : cellsA nb cs t ∈ rest) (j : Nat) : w.cell? ⟨nb, j, none⟩ = cs[j]? := cell_at (h.all (cellsA nb cs t) (by simp [CB, hm])) j
theorem CB.lies {mo : Option Addr} {mc : Nat} (h : Own w0 w (storeA g sb m :: A :: CB pb qb rb kb fb Rv Pv F (.slice mo m'.length mc) m' rest)) : Lies w mo mc m' := Lies.of_row (h.row 6 rfl) rfl
theorem CB.drop (h : Own w0 w (storeA g sb m :: A :: CB pb qb rb kb fb Rv Pv F mv m' rest)) : Own w0 w (storeA g sb m :: CB pb qb rb kb fb Rv Pv F mv m' rest) := h.sub (.cons_cons _ (.cons _ (List.Sublist.refl _)))
/-- The document's step, the row standing where it stands. -/
theorem CB.step {mo : Option Addr} {mc : Nat} {s : CS} (hm61 : m'.length = 61) (h : Own w0 w (storeA g sb m :: A :: CB pb qb rb kb fb Rv Pv F (.slice mo m'.length mc) m' rest)) (ho : OkC s) :
    Calls Try.prog 43 #[.agg #[.int .i64 1, .int .i64 3, .int .i64 3, .int .i64 3], .agg (refCC s), .slice mo m'.length mc] w fun e w' => ∃ ao' c', e = .returned (.tuple #[.agg (refCC (stepC s m').1), .slice ao' (stepC s m').2.length c']) ∧ Own w0 w' (storeA g sb m :: A :: CB pb qb rb kb fb Rv Pv F (.slice ao' (stepC s m').2.length c') (stepC s m').2 rest) := by
  refine (rcstep hm61 (h.pm CB.mfirst) ho).mono ?_
  rintro e w' ⟨ao', c', rfl, h'⟩
  exact ⟨ao', c', rfl, h'.pm CB.mfirst.symm⟩
theorem CB.boxUp (B : Ast) : (storeA g sb m :: A :: CB pb qb rb kb fb Rv Pv F mv m' (rest ++ [B])).Perm (storeA g sb m :: B :: A :: CB pb qb rb kb fb Rv Pv F mv m' rest) := by
  have h : (([A, planC19 pb, planR19 qb, rrow rb Rv, prow kb Pv, mRow mv m', rrA fb F] ++ rest) ++ [B]).Perm ([B] ++ ([A, planC19 pb, planR19 qb, rrow rb Rv, prow kb Pv, mRow mv m', rrA fb F] ++ rest)) := List.perm_append_comm
  refine .cons _ ?_
  unfold CB
  simpa using h
theorem CB.unbox {B : Ast} (h : Own w0 w (storeA g sb m :: A :: CB pb qb rb kb fb Rv Pv F mv m' (rest ++ [B]))) : Own w0 w (storeA g sb m :: A :: CB pb qb rb kb fb Rv Pv F mv m' rest) :=
  (h.pm (CB.boxUp B)).sub (.cons_cons _ (.cons _ (List.Sublist.refl _)))
theorem CB.newobj {X : Ast} (h : Own w0 w ((storeA g sb m :: A :: CB pb qb rb kb fb Rv Pv F mv m' rest) ++ [X])) : Own w0 w (storeA g sb m :: X :: CB pb qb rb kb fb Rv Pv F mv m' rest) := by
  have e : ((storeA g sb m :: A :: CB pb qb rb kb fb Rv Pv F mv m' rest) ++ [X]).Perm (storeA g sb m :: X :: A :: CB pb qb rb kb fb Rv Pv F mv m' rest) := by
    have h : ((A :: CB pb qb rb kb fb Rv Pv F mv m' rest) ++ [X]).Perm ([X] ++ (A :: CB pb qb rb kb fb Rv Pv F mv m' rest)) := List.perm_append_comm
    exact .cons _ h
  exact (h.pm e).sub (.cons_cons _ (.cons_cons _ (.cons _ (List.Sublist.refl _))))
theorem CB.mset {g3 o3 mc : Nat} (h : Own w0 w (storeA g sb m :: A :: CB pb qb rb kb fb Rv Pv F (.slice (some ⟨g3, o3, none⟩) 61 mc) m' rest)) (hm : m'.length = 61) {k : Nat} (n : Int) (m2 : List Int) (h2 : m'.set k n = m2) : Own w0 (w.setCell ⟨g3, o3 + k, none⟩ (.int .i64 n)) (storeA g sb m :: A :: CB pb qb rb kb fb Rv Pv F (.slice (some ⟨g3, o3, none⟩) 61 mc) m2 rest) := by
  have hl : m2.length = 61 := by rw [← h2]; simpa using hm
  have hs := h.rowset 6 (e := 3) (size := 1) (g := g3) (off := o3) (n := 61) (c := mc) (xs := m'.map (.int .i64)) (by show some (mRow _ _) = _; unfold mRow; rw [hm]) k (.int .i64 n) (xs' := m2.map (.int .i64)) (by rw [map_set_i, h2])
  refine hs.cast ?_
  simp [CB, mRow, hl]
end
end Go.Proofs.Ytooofpplhedgcaa
