/- DequeDoes: one step of a walk beside the document's. -/
import Derived.Test.YtofnjapgacgdlaaDqDoesMem
set_option linter.unusedVariables false
set_option linter.unusedSimpArgs false
namespace Go.Proofs.Ytofnjapgacgdlaa
open Go.RowKit
set_option maxRecDepth 100000
set_option maxHeartbeats 4000000
theorem refKind_step (B : Nat) (D : Int) (s : WS) (m : List Int) (h : pcOk s.pc) : (stepW B D s m).1.pc = 99 ∨ refKind (stepW B D s m).1.pc = refKind s.pc := by
  obtain ⟨pc, t, x, h', n, got, full⟩ := s
  rcases pc_cases h with rfl | rfl | rfl | rfl | rfl | rfl | rfl | rfl | rfl | rfl | rfl | rfl | rfl | rfl | rfl | rfl | rfl | rfl | rfl | rfl | rfl | rfl
  · by_cases c : D - 1 ≤ wrap64 (t - m.getD B 0)
    · rw [st0y _ _ _ _ _ _ _ _ _ c]; exact .inl rfl
    · rw [st0n _ _ _ _ _ _ _ _ _ c]; exact .inr rfl
  · rw [st1 _ _ _ _ _ _ _ _ _]; exact .inr rfl
  · rw [st2 _ _ _ _ _ _ _ _ _]; exact .inl rfl
  · rw [st10 _ _ _ _ _ _ _ _ _]; exact .inr rfl
  · by_cases c : m.getD B 0 ≤ wrap64 (t - 1)
    · rw [st11y _ _ _ _ _ _ _ _ _ c]; exact .inr rfl
    · rw [st11n _ _ _ _ _ _ _ _ _ c]; exact .inr rfl
  · rw [st12 _ _ _ _ _ _ _ _ _]; exact .inr rfl
  · rw [st13 _ _ _ _ _ _ _ _ _]; exact .inr rfl
  · by_cases c : m.getD (B + 3) 0 = n
    · rw [st14y _ _ _ _ _ _ _ _ _ c]; exact .inr rfl
    · rw [st14n _ _ _ _ _ _ _ _ _ c]; exact .inr rfl
  · rw [st15 _ _ _ _ _ _ _ _ _]; exact .inr rfl
  · by_cases c : m.getD B 0 ≤ wrap64 (t - 1)
    · rw [st16y _ _ _ _ _ _ _ _ _ c]; exact .inr rfl
    · rw [st16n _ _ _ _ _ _ _ _ _ c]; exact .inr rfl
  · rw [st17 _ _ _ _ _ _ _ _ _]; exact .inr rfl
  · rw [st18 _ _ _ _ _ _ _ _ _]; exact .inr rfl
  · rw [st19 _ _ _ _ _ _ _ _ _]; exact .inl rfl
  · rw [st20 _ _ _ _ _ _ _ _ _]; exact .inl rfl
  · rw [st30 _ _ _ _ _ _ _ _ _]; exact .inr rfl
  · by_cases c : m.getD (B + 3) 0 = n
    · rw [st31y _ _ _ _ _ _ _ _ _ c]; exact .inr rfl
    · rw [st31n _ _ _ _ _ _ _ _ _ c]; exact .inr rfl
  · rw [st32 _ _ _ _ _ _ _ _ _]; exact .inr rfl
  · rw [st33 _ _ _ _ _ _ _ _ _]; exact .inr rfl
  · by_cases c : wrap64 (h' + 1) ≤ m.getD (B + 1) 0
    · rw [st34y _ _ _ _ _ _ _ _ _ c]; exact .inr rfl
    · rw [st34n _ _ _ _ _ _ _ _ _ c]; exact .inr rfl
  · rw [st35 _ _ _ _ _ _ _ _ _]; exact .inr rfl
  · rw [st36 _ _ _ _ _ _ _ _ _]; exact .inl rfl
  · rw [st37 _ _ _ _ _ _ _ _ _]; exact .inr rfl
theorem refAt_neg {p : Nat} (h : pcOk p ∨ p = 99) : decide (refAt p < 0) = (p == 99) := by
  rcases h with h | rfl
  · rcases pc_cases h with rfl | rfl | rfl | rfl | rfl | rfl | rfl | rfl | rfl | rfl | rfl | rfl | rfl | rfl | rfl | rfl | rfl | rfl | rfl | rfl | rfl | rfl <;> rfl
  · rfl
/-- All walks but one. -/
def DOthers (D k : Int) (B : Nat) (ws : Nat → Option WS) (P : Nat → Value) (As : Nat → Ast) (R : Nat → Nat → Value) (K : Nat) : Prop := ∀ i, i < 4 → i ≠ K → WD D k B (ws i) (P i) (As i) (R i)
theorem WD.turn' {D k : Int} {B : Nat} {ws : Nat → Option WS} {P : Nat → Value} {As : Nat → Ast} {R : Nat → Nat → Value} {K : Nat} (h : DOthers D k B ws P As R K) {o : Option WS} {A : Ast} (hk : WD D k B o (P K) A (R K)) : ∀ i, i < 4 → WD D k B (upd ws K o i) (P i) (updA As K A i) (R i) := by
  intro i hi
  unfold updA upd
  by_cases e : i = K
  · subst e
    rw [if_pos rfl, if_pos rfl]
    exact hk
  · rw [if_neg e, if_neg e]
    exact h i hi e
/-- A walk that is to step, with the document's beside it. -/
def DReady (w0 w : World) (g sb pb wkb rfb : Nat) (mv : Value) (D k : Int) (B : Nat) (m : List Int) (ws : Nat → Option WS) (K : Nat) : Prop :=
  ∃ (P : Nat → Value) (As : Nat → Ast) (R : Nat → Nat → Value) (rest : List Ast) (wb : Nat) (s : WS) (y : Int), DOthers D k B ws P As R K ∧ (∀ A, (A :: rest).Perm [updA As K A 0, updA As K A 1, updA As K A 2, updA As K A 3]) ∧ P K = .pointer (some ⟨wb, 0, none⟩) ∧ pcOk s.pc ∧ RefX s y ∧ (∀ j, j < 10 → R K j = refF (refKind s.pc) B D { s with x := y } j) ∧ DW 2 D k B w0 w g sb wb m s (DB pb wkb rfb D P R mv m rest)
theorem DState.ready {w0 w : World} {g sb pb wkb rfb : Nat} {mv : Value} {D k : Int} {B : Nat} {m : List Int} {ws : Nat → Option WS} {P : Nat → Value} {As : Nat → Ast} {R : Nat → Nat → Value} {rest : List Ast} {K : Nat} (hK : K < 4) (hw : ∀ i, i < 4 → WD D k B (ws i) (P i) (As i) (R i))
    (hr : ∀ A, (A :: rest).Perm [updA As K A 0, updA As K A 1, updA As K A 2, updA As K A 3]) (hO : Own w0 w (storeA g sb m :: As K :: DB pb wkb rfb D P R mv m rest)) {s : WS} {wb : Nat} {cs : Array Value} {bx : List (Nat × Value × TypeId)} (e1 : P K = .pointer (some ⟨wb, 0, none⟩)) (e2 : WkIs 2 D k B wb s cs bx) (e3 : As K = walkA wb cs bx) (hp : pcOk s.pc) {y : Int} (hy : RefX s y) (hj : ∀ j, j < 10 → R K j = refF (refKind s.pc) B D { s with x := y } j) : DReady w0 w g sb pb wkb rfb mv D k B m ws K :=
  ⟨P, As, R, rest, wb, s, y, fun i hi _ => hw i hi, hr, e1, hp, hy, hj, .inl hp, cs, bx, e2, e3 ▸ hO⟩
/-- The pieces of the walks' row and of the document's walks. -/
theorem DWD.perm {g sb : Nat} {m m' : List Int} {A : Ast} {pb wkb rfb : Nat} {D : Int} {P : Nat → Value} {R : Nat → Nat → Value} {mv : Value} {rest : List Ast} : (storeA g sb m :: A :: DB pb wkb rfb D P R mv m' rest).Perm (mRow mv m' :: storeA g sb m :: A :: planA pb 2 D :: wrow wkb P :: rrA rfb R :: rest) := by
  unfold DB
  have h : ([storeA g sb m, A, planA pb 2 D, wrow wkb P] ++ mRow mv m' :: (rrA rfb R :: rest)).Perm (mRow mv m' :: ([storeA g sb m, A, planA pb 2 D, wrow wkb P] ++ (rrA rfb R :: rest))) := List.perm_middle
  exact h
theorem DWD.row {W D D' k : Int} {B : Nat} {w0 w : World} {g sb wb : Nat} {m m' : List Int} {s : WS} {pb wkb rfb : Nat} {P : Nat → Value} {R : Nat → Nat → Value} {mv : Value} {rest : List Ast} (h : DW W D k B w0 w g sb wb m s (DB pb wkb rfb D' P R mv m' rest)) {K : Nat} (hK : K < 4) : w.cell? ⟨wkb, K, none⟩ = some (P K) ∧ w.frozen? ⟨wkb, K, none⟩ = false :=
  ⟨h.drop.row_get 2 rfl (four_get P hK), h.drop.row_free 2 rfl hK⟩
theorem DWD.ref {W D D' k : Int} {B : Nat} {w0 w : World} {g sb wb : Nat} {m m' : List Int} {s : WS} {pb wkb rfb : Nat} {P : Nat → Value} {R : Nat → Nat → Value} {mv : Value} {rest : List Ast} (h : DW W D k B w0 w g sb wb m s (DB pb wkb rfb D' P R mv m' rest)) {K j : Nat} (hK : K < 4) (hj : j < 10) : w.cell? ⟨rfb, K * 10 + j, none⟩ = some (R K j) ∧ w.frozen? ⟨rfb, K * 10 + j, none⟩ = false :=
  h.drop.rr_get 4 rfl hK hj
theorem DWD.set10 {W D D' k : Int} {B : Nat} {w0 w : World} {g sb wb : Nat} {m m' : List Int} {s : WS} {pb wkb rfb : Nat} {P : Nat → Value} {R : Nat → Nat → Value} {mv : Value} {rest : List Ast} (h : DW W D k B w0 w g sb wb m s (DB pb wkb rfb D' P R mv m' rest)) {K : Nat} (hK : K < 4) (f : Nat → Value) :
    DW W D k B w0 ((((((((((w.setCell ⟨rfb, K * 10 + 0, none⟩ (f 0)).setCell ⟨rfb, K * 10 + 1, none⟩ (f 1)).setCell ⟨rfb, K * 10 + 2, none⟩ (f 2)).setCell ⟨rfb, K * 10 + 3, none⟩ (f 3)).setCell ⟨rfb, K * 10 + 4, none⟩ (f 4)).setCell ⟨rfb, K * 10 + 5, none⟩ (f 5)).setCell ⟨rfb, K * 10 + 6, none⟩ (f 6)).setCell ⟨rfb, K * 10 + 7, none⟩ (f 7)).setCell ⟨rfb, K * 10 + 8, none⟩ (f 8)).setCell ⟨rfb, K * 10 + 9, none⟩ (f 9)) g sb wb m s (DB pb wkb rfb D' P (setR R K f) mv m' rest) := by
  obtain ⟨hp, cs, bx, hk, hO⟩ := h
  have e : ∀ R, (storeA g sb m :: walkA wb cs bx :: DB pb wkb rfb D' P R mv m' rest).Perm (rrA rfb R :: storeA g sb m :: walkA wb cs bx :: planA pb 2 D' :: wrow wkb P :: mRow mv m' :: rest) := fun R => by
    have h : ([storeA g sb m, walkA wb cs bx, planA pb 2 D', wrow wkb P, mRow mv m'] ++ rrA rfb R :: rest).Perm (rrA rfb R :: ([storeA g sb m, walkA wb cs bx, planA pb 2 D', wrow wkb P, mRow mv m'] ++ rest)) := List.perm_middle
    exact h
  exact ⟨hp, cs, bx, hk, ((hO.pm (e R)).rr_set10 hK f).pm (e _).symm⟩
theorem DWD.setRow {W D D' k : Int} {B : Nat} {w0 w : World} {g sb wb : Nat} {m m' : List Int} {s : WS} {pb wkb rfb : Nat} {P : Nat → Value} {R : Nat → Nat → Value} {mv : Value} {rest : List Ast} (h : DW W D k B w0 w g sb wb m s (DB pb wkb rfb D' P R mv m' rest)) {K : Nat} (hK : K < 4) (u : Value) : DW W D k B w0 (w.setCell ⟨wkb, K, none⟩ u) g sb wb m s (DB pb wkb rfb D' (updV P K u) R mv m' rest) := by
  obtain ⟨hp, cs, bx, hk, hO⟩ := h
  exact ⟨hp, cs, bx, hk, hO.row_set 3 rfl K u (four_set P hK u)⟩
/-- The document's step beside the walk's that has been done. -/
def RefGot (D k : Int) (B : Nat) (w0 : World) (g sb pb wkb rfb wb N : Nat) (m : List Int) (s : WS) (P : Nat → Value) (R : Nat → Nat → Value) (rest : List Ast) (e : Ending) (w' : World) : Prop :=
  ∃ ao' c' y', e = .returned (.tuple #[.agg (refC (refKind s.pc) B D { (stepW B D s m).1 with x := y' }), .slice ao' N c']) ∧ RefX (stepW B D s m).1 y' ∧ DW 2 D k B w0 w' g sb wb (stepW B D s m).2 (stepW B D s m).1 (DB pb wkb rfb D P R (.slice ao' N c') (stepW B D s m).2 rest)
theorem dref {D : Int} {k : Int} {B : Nat} {w0 w : World} {g sb pb wkb rfb wb N : Nat} {m : List Int} {s : WS} {P : Nat → Value} {R : Nat → Nat → Value} {rest : List Ast} {mo : Option Addr} {mc : Nat} (hN : m.length = N) (hr : (B : Int) + 4 + D ≤ N ∧ N ≤ 100000) (hD : 2 ≤ D ∧ D ≤ 256) (hp : pcOk s.pc) {y : Int} (hy : RefX s y)
    (h : DW 2 D k B w0 w g sb wb (stepW B D s m).2 (stepW B D s m).1 (DB pb wkb rfb D P R (.slice mo N mc) m rest)) :
    Calls Try.prog 39 #[.agg (refC (refKind s.pc) B D { s with x := y }), .slice mo N mc] w (RefGot D k B w0 g sb pb wkb rfb wb N m s P R rest) := by
  obtain ⟨y', e1, hy'⟩ := rel_step B D s m y hy hp
  have hl := stepW_len B D s m
  subst hN
  obtain ⟨hp9, cs, bx, hk, hO⟩ := h
  refine (rstep_any hr hD (hO.pm DWD.perm) (s := { s with x := y }) hp).mono ?_
  rintro e w' ⟨ao', c', rfl, hO'⟩
  rw [e1] at hO' ⊢
  dsimp only at hO' ⊢
  rw [hl] at hO' ⊢
  exact ⟨ao', c', y', rfl, hy', hp9, cs, bx, hk, hO'.pm DWD.perm.symm⟩
theorem drefx {D : Int} {k : Int} {B : Nat} {w0 w : World} {g sb pb wkb rfb wb N : Nat} {m : List Int} {s : WS} {P : Nat → Value} {R : Nat → Nat → Value} {rest : List Ast} {mo : Option Addr} {mc : Nat} (hN : m.length = N) (hr : (B : Int) + 4 + D ≤ N ∧ N ≤ 100000) (hD : 2 ≤ D ∧ D ≤ 256) (hp : pcOk s.pc) {y : Int} (hy : RefX s y)
    (h : DW 2 D k B w0 w g sb wb (stepW B D s m).2 (stepW B D s m).1 (DB pb wkb rfb D P R (.slice mo N mc) m rest)) :
    Calls Try.prog 39 #[.agg #[.int .i64 (refKind s.pc), .int .i64 (B : Int), .int .i64 D, .int .i64 (refAt s.pc), .int .i64 s.t, .int .i64 y, .int .i64 s.n, .int .i64 s.h, .bool s.got, .bool s.full], .slice mo N mc] w fun e w' => ∃ ao' c' y', e = .returned (.tuple #[.agg #[.int .i64 (refKind s.pc), .int .i64 (B : Int), .int .i64 D, .int .i64 (refAt (stepW B D s m).1.pc), .int .i64 (stepW B D s m).1.t, .int .i64 y', .int .i64 (stepW B D s m).1.n, .int .i64 (stepW B D s m).1.h, .bool (stepW B D s m).1.got, .bool (stepW B D s m).1.full], .slice ao' N c']) ∧ RefX (stepW B D s m).1 y' ∧ DW 2 D k B w0 w' g sb wb (stepW B D s m).2 (stepW B D s m).1 (DB pb wkb rfb D P R (.slice ao' N c') (stepW B D s m).2 rest) := by
  have h' := dref hN hr hD hp hy h
  unfold RefGot at h'
  dsimp only [refC] at h'
  exact h'
/-- Behind the step. -/
theorem DState.again {w0 w : World} {g sb pb wkb rfb wb : Nat} {mv : Value} {D k : Int} {B : Nat} {m : List Int} {s : WS} {ws : Nat → Option WS} {P : Nat → Value} {As : Nat → Ast} {R : Nat → Nat → Value} {rest : List Ast} {K : Nat} (ho : DOthers D k B ws P As R K) (hr : ∀ A, (A :: rest).Perm [updA As K A 0, updA As K A 1, updA As K A 2, updA As K A 3]) (e1 : P K = .pointer (some ⟨wb, 0, none⟩)) (hp : pcOk s.pc)
    {y' : Int} (hy : RefX (stepW B D s m).1 y') (h : DW 2 D k B w0 w g sb wb (stepW B D s m).2 (stepW B D s m).1 (DB pb wkb rfb D P (setR R K (refF (refKind s.pc) B D { (stepW B D s m).1 with x := y' })) mv (stepW B D s m).2 rest)) : ∃ ws', DState w0 w g sb pb wkb rfb mv D k B (stepW B D s m).2 ws' := by
  obtain ⟨hp9, cs, bx, hk, hO⟩ := h
  have hs : ∀ f, setR R K f K = f := fun f => by funext j; unfold setR; rw [if_pos rfl]
  have ho' : DOthers D k B ws P As (setR R K (refF (refKind s.pc) B D { (stepW B D s m).1 with x := y' })) K := fun i hi hne => by
    rw [show setR R K (refF (refKind s.pc) B D { (stepW B D s m).1 with x := y' }) i = R i by funext j; unfold setR; rw [if_neg hne]]
    exact ho i hi hne
  refine ⟨upd ws K (some (stepW B D s m).1), P, updA As K (walkA wb cs bx), _, WD.turn' ho' (.inr ⟨_, wb, cs, bx, rfl, e1, hk, rfl, ?_⟩), hO.pm (DB.perm (hr _))⟩
  rcases refKind_step B D s m hp with h9 | h9
  · exact .inl h9
  · by_cases h99 : (stepW B D s m).1.pc = 99
    · exact .inl h99
    · refine .inr ⟨(stepW_pc B D s m hp).resolve_right h99, y', hy, fun j _ => ?_⟩
      rw [hs, h9]
/-- A walk that begins anew: what is stored ahead of it. -/
theorem DB.permR {g sb : Nat} {m m' : List Int} {pb wkb rfb : Nat} {D : Int} {P : Nat → Value} {mv : Value} {rest : List Ast} (R : Nat → Nat → Value) : (storeA g sb m :: DB pb wkb rfb D P R mv m' rest).Perm (rrA rfb R :: storeA g sb m :: planA pb 2 D :: wrow wkb P :: mRow mv m' :: rest) := by
  have h : ([storeA g sb m, planA pb 2 D, wrow wkb P, mRow mv m'] ++ rrA rfb R :: rest).Perm (rrA rfb R :: ([storeA g sb m, planA pb 2 D, wrow wkb P, mRow mv m'] ++ rest)) := List.perm_middle
  exact h
theorem DB.set10 {w0 w : World} {g sb : Nat} {m m' : List Int} {pb wkb rfb : Nat} {D : Int} {P : Nat → Value} {R : Nat → Nat → Value} {mv : Value} {rest : List Ast} (h : Own w0 w (storeA g sb m :: DB pb wkb rfb D P R mv m' rest)) {K : Nat} (hK : K < 4) (f : Nat → Value) :
    Own w0 ((((((((((w.setCell ⟨rfb, K * 10 + 0, none⟩ (f 0)).setCell ⟨rfb, K * 10 + 1, none⟩ (f 1)).setCell ⟨rfb, K * 10 + 2, none⟩ (f 2)).setCell ⟨rfb, K * 10 + 3, none⟩ (f 3)).setCell ⟨rfb, K * 10 + 4, none⟩ (f 4)).setCell ⟨rfb, K * 10 + 5, none⟩ (f 5)).setCell ⟨rfb, K * 10 + 6, none⟩ (f 6)).setCell ⟨rfb, K * 10 + 7, none⟩ (f 7)).setCell ⟨rfb, K * 10 + 8, none⟩ (f 8)).setCell ⟨rfb, K * 10 + 9, none⟩ (f 9)) (storeA g sb m :: DB pb wkb rfb D P (setR R K f) mv m' rest) :=
  ((h.pm (DB.permR R)).rr_set10 hK f).pm (DB.permR _).symm
theorem DB.set10v {w0 w : World} {g sb : Nat} {m m' : List Int} {pb wkb rfb : Nat} {D : Int} {P : Nat → Value} {R : Nat → Nat → Value} {mv : Value} {rest : List Ast} (h : Own w0 w (storeA g sb m :: DB pb wkb rfb D P R mv m' rest)) {K : Nat} (hK : K < 4) (f : Nat → Value) (c0 c1 c2 c3 c4 c5 c6 c7 c8 c9 : Value) (e0 : f 0 = c0) (e1 : f 1 = c1) (e2 : f 2 = c2) (e3 : f 3 = c3) (e4 : f 4 = c4) (e5 : f 5 = c5) (e6 : f 6 = c6) (e7 : f 7 = c7) (e8 : f 8 = c8) (e9 : f 9 = c9) :
    Own w0 ((((((((((w.setCell ⟨rfb, K * 10, none⟩ c0).setCell ⟨rfb, K * 10 + 1, none⟩ c1).setCell ⟨rfb, K * 10 + 2, none⟩ c2).setCell ⟨rfb, K * 10 + 3, none⟩ c3).setCell ⟨rfb, K * 10 + 4, none⟩ c4).setCell ⟨rfb, K * 10 + 5, none⟩ c5).setCell ⟨rfb, K * 10 + 6, none⟩ c6).setCell ⟨rfb, K * 10 + 7, none⟩ c7).setCell ⟨rfb, K * 10 + 8, none⟩ c8).setCell ⟨rfb, K * 10 + 9, none⟩ c9) (storeA g sb m :: DB pb wkb rfb D P (setR R K f) mv m' rest) := by
  subst e0 e1 e2 e3 e4 e5 e6 e7 e8 e9
  exact DB.set10 h hK f
theorem DWD.set10v {W D D' k : Int} {B : Nat} {w0 w : World} {g sb wb : Nat} {m m' : List Int} {s : WS} {pb wkb rfb : Nat} {P : Nat → Value} {R : Nat → Nat → Value} {mv : Value} {rest : List Ast} (h : DW W D k B w0 w g sb wb m s (DB pb wkb rfb D' P R mv m' rest)) {K : Nat} (hK : K < 4) (f : Nat → Value) (c0 c1 c2 c3 c4 c5 c6 c7 c8 c9 : Value) (e0 : f 0 = c0) (e1 : f 1 = c1) (e2 : f 2 = c2) (e3 : f 3 = c3) (e4 : f 4 = c4) (e5 : f 5 = c5) (e6 : f 6 = c6) (e7 : f 7 = c7) (e8 : f 8 = c8) (e9 : f 9 = c9) :
    DW W D k B w0 ((((((((((w.setCell ⟨rfb, K * 10, none⟩ c0).setCell ⟨rfb, K * 10 + 1, none⟩ c1).setCell ⟨rfb, K * 10 + 2, none⟩ c2).setCell ⟨rfb, K * 10 + 3, none⟩ c3).setCell ⟨rfb, K * 10 + 4, none⟩ c4).setCell ⟨rfb, K * 10 + 5, none⟩ c5).setCell ⟨rfb, K * 10 + 6, none⟩ c6).setCell ⟨rfb, K * 10 + 7, none⟩ c7).setCell ⟨rfb, K * 10 + 8, none⟩ c8).setCell ⟨rfb, K * 10 + 9, none⟩ c9) g sb wb m s (DB pb wkb rfb D' P (setR R K f) mv m' rest) := by
  subst e0 e1 e2 e3 e4 e5 e6 e7 e8 e9
  exact DWD.set10 h hK f
theorem DB.set1 {w0 w : World} {g sb : Nat} {m m' : List Int} {pb wkb rfb : Nat} {D : Int} {P : Nat → Value} {R : Nat → Nat → Value} {mv : Value} {rest : List Ast} (h : Own w0 w (storeA g sb m :: DB pb wkb rfb D P R mv m' rest)) {K j : Nat} (hK : K < 4) (hj : j < 10) (v : Value) :
    Own w0 (w.setCell ⟨rfb, K * 10 + j, none⟩ v) (storeA g sb m :: DB pb wkb rfb D P (updR R K j v) mv m' rest) := h.rr_set 4 rfl hK hj v
theorem DB.ref {w0 w : World} {g sb : Nat} {m m' : List Int} {pb wkb rfb : Nat} {D : Int} {P : Nat → Value} {R : Nat → Nat → Value} {mv : Value} {rest : List Ast} (h : Own w0 w (storeA g sb m :: DB pb wkb rfb D P R mv m' rest)) {K j : Nat} (hK : K < 4) (hj : j < 10) : w.cell? ⟨rfb, K * 10 + j, none⟩ = some (R K j) ∧ w.frozen? ⟨rfb, K * 10 + j, none⟩ = false := h.rr_get 4 rfl hK hj
theorem DB.row {w0 w : World} {g sb : Nat} {m m' : List Int} {pb wkb rfb : Nat} {D : Int} {P : Nat → Value} {R : Nat → Nat → Value} {mv : Value} {rest : List Ast} (h : Own w0 w (storeA g sb m :: DB pb wkb rfb D P R mv m' rest)) {K : Nat} (hK : K < 4) : w.cell? ⟨wkb, K, none⟩ = some (P K) ∧ w.frozen? ⟨wkb, K, none⟩ = false :=
  ⟨h.row_get 2 rfl (four_get P hK), h.row_free 2 rfl hK⟩
theorem DState.begin {w0 w : World} {g sb pb wkb rfb wb : Nat} {mv : Value} {D k : Int} {B : Nat} {m : List Int} {s : WS} {ws : Nat → Option WS} {P P' : Nat → Value} {As : Nat → Ast} {R R' : Nat → Nat → Value} {rest : List Ast} {K : Nat} (hw : ∀ i, i < 4 → WD D k B (ws i) (P i) (As i) (R i)) (hr : ∀ A, (A :: rest).Perm [updA As K A 0, updA As K A 1, updA As K A 2, updA As K A 3])
    (hP : ∀ i, i ≠ K → P' i = P i) (hR : ∀ i, i ≠ K → R' i = R i) (e1 : P' K = .pointer (some ⟨wb, 0, none⟩)) (hp : pcOk s.pc) {y : Int} (hy : RefX s y) (hj : ∀ j, j < 10 → R' K j = refF (refKind s.pc) B D { s with x := y } j) (h : DW 2 D k B w0 w g sb wb m s (DB pb wkb rfb D P' R' mv m rest)) : DReady w0 w g sb pb wkb rfb mv D k B m ws K :=
  ⟨P', As, R', rest, wb, s, y, fun i hi hne => by rw [hP i hne, hR i hne]; exact hw i hi, hr, e1, hp, hy, hj, h⟩
theorem updV_ne {P : Nat → Value} {K : Nat} {v : Value} : ∀ i, i ≠ K → updV P K v i = P i := fun i h => by unfold updV; rw [if_neg h]
theorem updV_eq {P : Nat → Value} {K : Nat} {v : Value} : updV P K v K = v := by unfold updV; rw [if_pos rfl]
theorem setR_ne {R : Nat → Nat → Value} {K : Nat} {f : Nat → Value} : ∀ i, i ≠ K → setR R K f i = R i := fun i h => by funext j; unfold setR; rw [if_neg h]
theorem setR_eq {R : Nat → Nat → Value} {K : Nat} {f : Nat → Value} : setR R K f K = f := by funext j; unfold setR; rw [if_pos rfl]
theorem updR_ne {R : Nat → Nat → Value} {K j : Nat} {v : Value} : ∀ i, i ≠ K → updR R K j v i = R i := fun i h => by funext q; unfold updR; rw [if_neg (fun e => h e.1)]
/-- What New leaves. -/
def newF (kd : Int) (B : Nat) (D t x : Int) : Nat → Value := refF kd B D ⟨0, furthest t, x, 0, 0, false, false⟩
theorem ten {p : Nat → Prop} (h0 : p 0) (h1 : p 1) (h2 : p 2) (h3 : p 3) (h4 : p 4) (h5 : p 5) (h6 : p 6) (h7 : p 7) (h8 : p 8) (h9 : p 9) : ∀ j, j < 10 → p j := by
  intro j hj
  have : j = 0 ∨ j = 1 ∨ j = 2 ∨ j = 3 ∨ j = 4 ∨ j = 5 ∨ j = 6 ∨ j = 7 ∨ j = 8 ∨ j = 9 := by omega
  rcases this with rfl | rfl | rfl | rfl | rfl | rfl | rfl | rfl | rfl | rfl <;> assumption
theorem new_push (B : Nat) (D t x : Int) (R : Nat → Nat → Value) (K : Nat) : ∀ j, j < 10 → setR R K (newF 0 B D t x) K j = refF (refKind (push0 t x).pc) B D { push0 t x with x := x } j := by
  rw [setR_eq]
  exact ten rfl rfl rfl rfl rfl rfl rfl rfl rfl rfl
theorem new_pop (B : Nat) (D t x : Int) (R : Nat → Nat → Value) (K : Nat) : ∀ j, j < 10 → setR R K (newF 1 B D t x) K j = refF (refKind (pop0 t).pc) B D { pop0 t with x := x } j := by
  rw [setR_eq]
  exact ten rfl rfl rfl rfl rfl rfl rfl rfl rfl rfl
theorem new_steal (B : Nat) (D t x : Int) (R : Nat → Nat → Value) (K : Nat) : ∀ j, j < 10 → updR (setR R K (newF 2 B D t x)) K 4 (.int .i64 0) K j = refF (refKind steal0.pc) B D { steal0 with x := x } j := by
  have e : ∀ j, updR (setR R K (newF 2 B D t x)) K 4 (.int .i64 0) K j = if j = 4 then .int .i64 0 else newF 2 B D t x j := fun j => by
    unfold updR
    rw [setR_eq]
    by_cases h : j = 4
    · rw [if_pos ⟨rfl, h⟩, if_pos h]
    · rw [if_neg (fun q => h q.2), if_neg h]
  intro j hj
  rw [e]
  revert j
  exact ten rfl rfl rfl rfl rfl rfl rfl rfl rfl rfl
theorem DW.box {W D k : Int} {B : Nat} {w0 w : World} {g b wb : Nat} {ms : List Int} {s : WS} {l : List Ast} (h : DW W D k B w0 w g b wb ms s l) (cs : Array Value) (t : TypeId) : DW W D k B w0 (w.alloc (.cells cs t)) g b wb ms s (l ++ [cellsA w.heap.size cs t]) := by
  obtain ⟨h1, cs', bx, h2, hO⟩ := h
  exact ⟨h1, cs', bx, h2, hO.box cs t⟩
theorem DWD.boxGet {W D D' k : Int} {B : Nat} {w0 w : World} {g sb wb : Nat} {m m' : List Int} {s : WS} {pb wkb rfb : Nat} {P : Nat → Value} {R : Nat → Nat → Value} {mv : Value} {rest : List Ast} {nb : Nat} {cs : Array Value} {t : TypeId} (h : DW W D k B w0 w g sb wb m s (DB pb wkb rfb D' P R mv m' (rest ++ [cellsA nb cs t]))) (j : Nat) : w.cell? ⟨nb, j, none⟩ = cs[j]? := by
  have hm : (cellsA nb cs t).hold w := h.drop.all _ (by simp [DB])
  exact cell_at hm j
theorem DWD.unbox {W D D' k : Int} {B : Nat} {w0 w : World} {g sb wb : Nat} {m m' : List Int} {s : WS} {pb wkb rfb : Nat} {P : Nat → Value} {R : Nat → Nat → Value} {mv : Value} {rest : List Ast} {A : Ast} (h : DW W D k B w0 w g sb wb m s (DB pb wkb rfb D' P R mv m' (rest ++ [A]))) : DW W D k B w0 w g sb wb m s (DB pb wkb rfb D' P R mv m' rest) := by
  obtain ⟨h1, cs', bx, h2, hO⟩ := h
  refine ⟨h1, cs', bx, h2, hO.sub (.cons_cons _ (.cons_cons _ ?_))⟩
  exact .cons_cons _ (.cons_cons _ (.cons_cons _ (.cons_cons _ (List.sublist_append_left _ _))))
theorem DW.all {W D k : Int} {B : Nat} {w0 w : World} {g b wb : Nat} {ms : List Int} {s : WS} {l : List Ast} (h : DW W D k B w0 w g b wb ms s l) : Calls Try.prog 40 #[.pointer (some ⟨g, 0, none⟩)] w fun e w' => ∃ ao cap, e = .returned (.slice ao ms.length cap) ∧ DW W D k B w0 w' g b wb ms s l ∧ Lies w' ao cap ms := by
  obtain ⟨h1, cs', bx, h2, hO⟩ := h
  refine (own_all hO 0 rfl).mono ?_
  rintro e w' ⟨ao, cap, rfl, hO', hl, _⟩
  exact ⟨ao, cap, rfl, ⟨h1, cs', bx, h2, hO'⟩, hl⟩
theorem DWD.lies {W D D' k : Int} {B : Nat} {w0 w : World} {g sb wb : Nat} {m m' : List Int} {s : WS} {pb wkb rfb : Nat} {P : Nat → Value} {R : Nat → Nat → Value} {mo : Option Addr} {mc : Nat} {rest : List Ast} (h : DW W D k B w0 w g sb wb m s (DB pb wkb rfb D' P R (.slice mo m'.length mc) m' rest)) : Lies w mo mc m' := Lies.of_row (h.drop.row 3 rfl) rfl
theorem gotV_no {s : WS} (h : s.got = false) : gotV s = (0, false) := by unfold gotV; rw [if_neg (fun q => by rw [h] at q; cases q.2)]
theorem gotV_not {s : WS} (h : ¬ s.pc = 99) : gotV s = (0, false) := by unfold gotV; rw [if_neg (fun q => h q.1)]
theorem gotV_yes {s : WS} (h : s.pc = 99) (h2 : s.got = true) : gotV s = (s.x, true) := by unfold gotV; rw [if_pos ⟨h, h2⟩]
end Go.Proofs.Ytofnjapgacgdlaa
