/- A table of frames, the document's arena, the plan, the words and the counters side by side. -/
import Derived.Test.YtbadinmlnbabiaaTableFree
import Derived.Test.YtbadinmlnbabiaaArenaDuo
set_option linter.unusedVariables false
set_option linter.unusedSimpArgs false
namespace Go.Proofs.Ytbadinmlnbabiaa
open Go.RowKit
def L3 (pb wb cb N S : Nat) (wds pcs : List Int) (ol : List Ast) : List Ast := cellsA pb #[.int .i64 1, .int .i64 N, .int .i64 2, .int .i64 3] 24 :: intsA wb S wds :: intsA cb 10 pcs :: ol
def fdL (tb gs sb ag hb rb gr pb wb cb N S : Nat) (bv rbv rtv : Value) (ms : List Int) (xs : List Value) (hs : List Bool) (bs rbs tk : List Int) (fr rfr : Nat) (pk rpk : Int) (wds pcs : List Int) (ol : List Ast) : List Ast :=
  arenaL ag hb bv hs bs fr pk (tabL tb gs sb ag rb (N + 1) 1 N 2 3 ms xs (refL gr N rbv rbs rtv tk rfr rpk (L3 pb wb cb N S wds pcs ol)))
def FDuo (w0 w : World) (tb gs sb ag hb rb gr pb wb cb N S : Nat) (ms : List Int) (xs : List Value) (hs : List Bool) (bs rbs tk : List Int) (fr rfr : Nat) (pk rpk : Int) (wds pcs : List Int) (ol : List Ast) : Prop :=
  ∃ bv rbv rtv, Own w0 w (fdL tb gs sb ag hb rb gr pb wb cb N S bv rbv rtv ms xs hs bs rbs tk fr rfr pk rpk wds pcs ol)
section
variable {w0 w : World} {tb gs sb ag hb rb gr pb wb cb N S : Nat} {ms ms' : List Int} {xs xs' : List Value} {hs hs' : List Bool} {bs bs' rbs rbs' tk tk' : List Int} {fr fr' rfr rfr' : Nat} {pk pk' rpk rpk' : Int} {wds wds' pcs pcs' : List Int} {ol : List Ast}
theorem FDuo.below (h : FDuo w0 w tb gs sb ag hb rb gr pb wb cb N S ms xs hs bs rbs tk fr rfr pk rpk wds pcs ol) : Below w0.heap.size w0 w := by
  obtain ⟨_, _, _, h⟩ := h; exact h.below
theorem FDuo.old (h : FDuo w0 w tb gs sb ag hb rb gr pb wb cb N S ms xs hs bs rbs tk fr rfr pk rpk wds pcs ol) {p : Addr} {v : Value} (hp : w0.cell? p = some v) : w.cell? p = some v := by
  obtain ⟨_, _, _, h⟩ := h; exact h.old hp
theorem FDuo.grow {w' : World} (h : FDuo w0 w tb gs sb ag hb rb gr pb wb cb N S ms xs hs bs rbs tk fr rfr pk rpk wds pcs ol) (hb' : Below w.heap.size w w') : FDuo w0 w' tb gs sb ag hb rb gr pb wb cb N S ms xs hs bs rbs tk fr rfr pk rpk wds pcs ol := by
  obtain ⟨a, b, c, h⟩ := h; exact ⟨a, b, c, h.grow hb'⟩
theorem FDuo.drewN (h : FDuo w0 w tb gs sb ag hb rb gr pb wb cb N S ms xs hs bs rbs tk fr rfr pk rpk wds pcs ol) (n : Nat) : FDuo w0 (w.drewN n) tb gs sb ag hb rb gr pb wb cb N S ms xs hs bs rbs tk fr rfr pk rpk wds pcs ol := by
  obtain ⟨a, b, c, h⟩ := h; exact ⟨a, b, c, h.drewN n⟩
theorem FDuo.plan (h : FDuo w0 w tb gs sb ag hb rb gr pb wb cb N S ms xs hs bs rbs tk fr rfr pk rpk wds pcs ol) : w.cell? ⟨pb, 0, none⟩ = some (.int .i64 1) ∧ w.cell? ⟨pb, 1, none⟩ = some (.int .i64 N) ∧ w.cell? ⟨pb, 2, none⟩ = some (.int .i64 2) ∧ w.cell? ⟨pb, 3, none⟩ = some (.int .i64 3) := by
  obtain ⟨_, _, _, h⟩ := h
  exact ⟨(h.cget 9 rfl 0).1, (h.cget 9 rfl 1).1, (h.cget 9 rfl 2).1, (h.cget 9 rfl 3).1⟩
theorem FDuo.wset (h : FDuo w0 w tb gs sb ag hb rb gr pb wb cb N S ms xs hs bs rbs tk fr rfr pk rpk wds pcs ol) (j : Nat) (n : Int) : FDuo w0 (w.setCell ⟨wb, j, none⟩ (.int .i64 n)) tb gs sb ag hb rb gr pb wb cb N S ms xs hs bs rbs tk fr rfr pk rpk (wds.set j n) pcs ol := by
  obtain ⟨a, b, c, h⟩ := h
  exact ⟨a, b, c, h.ints_set 10 rfl j n rfl⟩
theorem FDuo.wfree (h : FDuo w0 w tb gs sb ag hb rb gr pb wb cb N S ms xs hs bs rbs tk fr rfr pk rpk wds pcs ol) {j : Nat} (hj : j < S) (hl : wds.length = S) : (w.cell? ⟨wb, j, none⟩ = some (.int .i64 (wds.getD j 0))) ∧ w.frozen? ⟨wb, j, none⟩ = false := by
  obtain ⟨a, b, c, h⟩ := h
  exact ⟨h.ints_get 10 rfl (j := j) (by omega), h.ints_free 10 rfl hj⟩
theorem FDuo.pset (h : FDuo w0 w tb gs sb ag hb rb gr pb wb cb N S ms xs hs bs rbs tk fr rfr pk rpk wds pcs ol) (j : Nat) (n : Int) : FDuo w0 (w.setCell ⟨cb, j, none⟩ (.int .i64 n)) tb gs sb ag hb rb gr pb wb cb N S ms xs hs bs rbs tk fr rfr pk rpk wds (pcs.set j n) ol := by
  obtain ⟨a, b, c, h⟩ := h
  exact ⟨a, b, c, h.ints_set 11 rfl j n rfl⟩
theorem FDuo.pfree (h : FDuo w0 w tb gs sb ag hb rb gr pb wb cb N S ms xs hs bs rbs tk fr rfr pk rpk wds pcs ol) {j : Nat} (hj : j < 10) (hl : pcs.length = 10) : (w.cell? ⟨cb, j, none⟩ = some (.int .i64 (pcs.getD j 0))) ∧ w.frozen? ⟨cb, j, none⟩ = false := by
  obtain ⟨a, b, c, h⟩ := h
  exact ⟨h.ints_get 11 rfl (j := j) (by omega), h.ints_free 11 rfl hj⟩
theorem FDuo.xset (h : FDuo w0 w tb gs sb ag hb rb gr pb wb cb N S ms xs hs bs rbs tk fr rfr pk rpk wds pcs ol) (j : Nat) (u : Value) : FDuo w0 (w.setCell ⟨rb, j, none⟩ u) tb gs sb ag hb rb gr pb wb cb N S ms (xs.set j u) hs bs rbs tk fr rfr pk rpk wds pcs ol := by
  obtain ⟨a, b, c, h⟩ := h
  exact ⟨a, b, c, h.row_set 5 rfl j u rfl⟩
theorem FDuo.xfree (h : FDuo w0 w tb gs sb ag hb rb gr pb wb cb N S ms xs hs bs rbs tk fr rfr pk rpk wds pcs ol) {j : Nat} {u : Value} (hx : xs[j]? = some u) (hj : j < (N + 1) * 19) : w.cell? ⟨rb, j, none⟩ = some u ∧ w.frozen? ⟨rb, j, none⟩ = false := by
  obtain ⟨a, b, c, h⟩ := h
  exact ⟨h.row_get 5 rfl hx, h.row_free 5 rfl hj⟩
variable {f : FuncId} {args : Array Value} {E : Ending}
theorem FDuo.tab (h : FDuo w0 w tb gs sb ag hb rb gr pb wb cb N S ms xs hs bs rbs tk fr rfr pk rpk wds pcs ol)
    (c : ∀ l, TOwn w0 w tb gs sb ag hb rb (N + 1) 1 N 2 3 ms xs hs bs fr pk l → Calls Try.prog f args w fun e w' => e = E ∧ TOwn w0 w' tb gs sb ag hb rb (N + 1) 1 N 2 3 ms' xs' hs' bs' fr' pk' l) :
    Calls Try.prog f args w fun e w' => e = E ∧ FDuo w0 w' tb gs sb ag hb rb gr pb wb cb N S ms' xs' hs' bs' rbs tk fr' rfr pk' rpk wds pcs ol := by
  obtain ⟨bv, rbv, rtv, h⟩ := h
  exact (c _ ⟨bv, h⟩).mono fun e w' ⟨he, bv', hw⟩ => ⟨he, bv', rbv, rtv, hw⟩
theorem fd_perm {α : Type} (a1 a2 a3 t1 t2 t3 r1 r2 r3 : α) (L : List α) : ([a1, a2, a3, t1, t2, t3] ++ ([r1, r2, r3] ++ L)).Perm ([r1, r2, r3] ++ ([a1, a2, a3, t1, t2, t3] ++ L)) := by
  rw [← List.append_assoc, ← List.append_assoc]
  exact List.Perm.append_right _ List.perm_append_comm
theorem FDuo.refc (h : FDuo w0 w tb gs sb ag hb rb gr pb wb cb N S ms xs hs bs rbs tk fr rfr pk rpk wds pcs ol)
    (c : ∀ l, ROwn w0 w gr N rbs tk rfr rpk l → Calls Try.prog f args w fun e w' => e = E ∧ ROwn w0 w' gr N rbs' tk' rfr' rpk' l) :
    Calls Try.prog f args w fun e w' => e = E ∧ FDuo w0 w' tb gs sb ag hb rb gr pb wb cb N S ms xs hs bs rbs' tk' fr rfr' pk rpk' wds pcs ol := by
  obtain ⟨bv, rbv, rtv, h⟩ := h
  refine (c (arenaL ag hb bv hs bs fr pk (tabL tb gs sb ag rb (N + 1) 1 N 2 3 ms xs (L3 pb wb cb N S wds pcs ol))) ⟨rbv, rtv, h.perm (fd_perm _ _ _ _ _ _ _ _ _ _)⟩).mono fun e w' ⟨he, rbv', rtv', hw⟩ => ⟨he, bv, rbv', rtv', hw.perm (fd_perm _ _ _ _ _ _ _ _ _ _).symm⟩
theorem FDuo.box (h : FDuo w0 w tb gs sb ag hb rb gr pb wb cb N S ms xs hs bs rbs tk fr rfr pk rpk wds pcs []) (cs : Array Value) (t : TypeId) : FDuo w0 (w.alloc (.cells cs t)) tb gs sb ag hb rb gr pb wb cb N S ms xs hs bs rbs tk fr rfr pk rpk wds pcs [cellsA w.heap.size cs t] := by
  obtain ⟨a, b, c, h⟩ := h; exact ⟨a, b, c, h.box cs t⟩
theorem FDuo.unbox {A : Ast} (h : FDuo w0 w tb gs sb ag hb rb gr pb wb cb N S ms xs hs bs rbs tk fr rfr pk rpk wds pcs [A]) : FDuo w0 w tb gs sb ag hb rb gr pb wb cb N S ms xs hs bs rbs tk fr rfr pk rpk wds pcs [] := by
  obtain ⟨a, b, c, h⟩ := h; exact ⟨a, b, c, h.sel [0, 1, 2, 3, 4, 5, 6, 7, 8, 9, 10, 11] (by decide)⟩
theorem FDuo.o3 {ob : Nat} {v0 v1 v2 : Value} {t : TypeId} (h : FDuo w0 w tb gs sb ag hb rb gr pb wb cb N S ms xs hs bs rbs tk fr rfr pk rpk wds pcs [cellsA ob #[v0, v1, v2] t]) : w.cell? ⟨ob, 0, none⟩ = some v0 ∧ w.cell? ⟨ob, 1, none⟩ = some v1 ∧ w.cell? ⟨ob, 2, none⟩ = some v2 := by
  obtain ⟨_, _, _, h⟩ := h
  exact ⟨(h.cget 12 rfl 0).1, (h.cget 12 rfl 1).1, (h.cget 12 rfl 2).1⟩
theorem FDuo.lift (h : FDuo w0 w tb gs sb ag hb rb gr pb wb cb N S ms xs hs bs rbs tk fr rfr pk rpk wds pcs ol) {v : Value} (c : Calls Try.prog f args w fun e w' => e = .returned v ∧ Below w.heap.size w w') (v' : Value) (hv : v = v') :
    Calls Try.prog f args w fun e w' => e = .returned v' ∧ FDuo w0 w' tb gs sb ag hb rb gr pb wb cb N S ms xs hs bs rbs tk fr rfr pk rpk wds pcs ol := by
  subst hv
  exact c.mono fun e w' ⟨he, hb'⟩ => ⟨he, h.grow hb'⟩
end
/-- A step that makes, of both. -/
theorem fduo_take {w0 : World} {tb gs sb ag hb rb gr pb wb cb N S : Nat} {ms wds pcs : List Int} {ol : List Ast} {xs : List Value} {hs : List Bool} {bs tk : List Int} {fr : Nat} {pk : Int} {bs' : List Int} {fr' i : Nat} (hI : AInv N hs bs fr) (hT : TkInv hs tk) (hN : N ≤ 6) (hN1 : 1 ≤ N) (hn : nextA hs bs fr = some ((i : Int), bs', fr')) (hi : i ≤ N)
    (hx : xs.length = (N + 1) * 19) (FV : Array Value) (hF : FV.size = 19) (hF1 : FV.all (·.oneCell') = true) (F : Nat) (hFr : frameV 1 N 2 3 i = F) (ms2 : List Int) (hm2 : fillL (fillL ms F 14 0 ms.length) F 1 1 ms.length = ms2) :
    (∀ w, FDuo w0 w tb gs sb ag hb rb gr pb wb cb N S ms xs hs bs bs tk fr fr pk pk wds pcs ol → Calls Try.prog 50 #[.pointer (some ⟨tb, 0, none⟩), .agg FV] w fun e w' => e = .returned (.tuple #[.int .i64 i, .bool true]) ∧ FDuo w0 w' tb gs sb ag hb rb gr pb wb cb N S ms2 (setsL xs (i * 19) FV.toList) (hs.set i true) bs' bs tk fr' fr (max pk ((tk.length : Int) + 1)) pk wds pcs ol) ∧
    (∀ w ms xs wds pcs ol, FDuo w0 w tb gs sb ag hb rb gr pb wb cb N S ms xs (hs.set i true) bs' bs tk fr' fr (max pk ((tk.length : Int) + 1)) pk wds pcs ol → Calls Try.prog 33 #[.pointer (some ⟨gr, 0, none⟩)] w fun e w' => e = .returned (.tuple #[.int .i64 i, .bool true]) ∧ FDuo w0 w' tb gs sb ag hb rb gr pb wb cb N S ms xs (hs.set i true) bs' bs' (tk ++ [(i : Int)]) fr' fr' (max pk ((tk.length : Int) + 1)) (max pk ((tk.length : Int) + 1)) wds pcs ol) := by
  have h1 := hI.len
  have h2 := hI.frN
  have h3 := hI.ct
  have h4 := hT.len
  have hok : okPlan 1 N 2 3 = true := by unfold okPlan; simp; omega
  obtain ⟨i', hi', i1, _, i3, _, _⟩ := hI.take hn
  have hii : i' = i := by omega
  subst hii
  have hc := count_true (hs := hs) (by omega) i3
  have hFb := (frameV_bd hok i').2.2.2.2
  refine ⟨fun w h => h.tab fun l ho => ?_, fun w ms xs wds pcs ol h => h.refc fun l ho => ?_⟩
  · exact make_yes ho hok hx h1 (by omega) (by omega) (by omega) hn (by omega) _ _ rfl (by rw [cnt_count, hc, h4]; rfl) FV hF hF1 (fillL ms F 14 0 ms.length) ms2 (by rw [hFr]; rfl) (by rw [hFr, fillL_length]; exact hm2) (by omega) (by decide)
  unfold nextA at hn
  by_cases hb0 : bs = []
  · subst hb0
    rw [if_pos rfl] at hn
    by_cases hlt : hs.length ≤ fr + 1
    · rw [if_pos hlt] at hn; cases hn
    · rw [if_neg hlt] at hn
      simp only [Option.some.injEq, Prod.mk.injEq] at hn
      obtain ⟨e1, rfl, rfl⟩ := hn
      rw [← e1]
      exact rTake_fresh ho (by omega) (by omega) (by omega) _ rfl
  · rw [if_neg hb0] at hn
    simp only [Option.some.injEq, Prod.mk.injEq] at hn
    obtain ⟨e1, rfl, rfl⟩ := hn
    obtain ⟨l', x, rfl⟩ : ∃ l' x, bs = l' ++ [x] := ⟨bs.dropLast, bs.getLast hb0, (List.dropLast_concat_getLast hb0).symm⟩
    simp at e1
    subst e1
    rw [List.dropLast_concat]
    simp at h3
    exact rTake_back ho (by omega) (by omega) _ rfl
theorem fduo_full {w0 : World} {tb gs sb ag hb rb gr pb wb cb N S : Nat} {ms wds pcs : List Int} {ol : List Ast} {xs : List Value} {hs : List Bool} {bs tk : List Int} {fr : Nat} {pk : Int} (hI : AInv N hs bs fr) (hN : N ≤ 6) (hn : nextA hs bs fr = none) (FV : Array Value) :
    (∀ w, FDuo w0 w tb gs sb ag hb rb gr pb wb cb N S ms xs hs bs bs tk fr fr pk pk wds pcs ol → Calls Try.prog 50 #[.pointer (some ⟨tb, 0, none⟩), .agg FV] w fun e w' => e = .returned (.tuple #[.int .i64 0, .bool false]) ∧ FDuo w0 w' tb gs sb ag hb rb gr pb wb cb N S ms xs hs bs bs tk fr fr pk pk wds pcs ol) ∧
    (∀ w, FDuo w0 w tb gs sb ag hb rb gr pb wb cb N S ms xs hs bs bs tk fr fr pk pk wds pcs ol → Calls Try.prog 33 #[.pointer (some ⟨gr, 0, none⟩)] w fun e w' => e = .returned (.tuple #[.int .i64 0, .bool false]) ∧ FDuo w0 w' tb gs sb ag hb rb gr pb wb cb N S ms xs hs bs bs tk fr fr pk pk wds pcs ol) := by
  have h1 := hI.len
  have h2 := hI.frN
  refine ⟨fun w h => h.tab fun l ho => make_no ho (by omega) (by omega) hn FV, fun w h => h.refc fun l ho => ?_⟩
  unfold nextA at hn
  by_cases hb0 : bs = []
  · subst hb0
    rw [if_pos rfl] at hn
    by_cases hlt : hs.length ≤ fr + 1
    · exact rTake_full ho (by omega)
    · rw [if_neg hlt] at hn; cases hn
  · rw [if_neg hb0] at hn; cases hn
theorem fduo_give {w0 : World} {tb gs sb ag hb rb gr pb wb cb N S : Nat} {ms wds pcs : List Int} {ol : List Ast} {xs : List Value} {hs : List Bool} {bs tk : List Int} {fr : Nat} {pk : Int} {i : Nat} (hI : AInv N hs bs fr) (hT : TkInv hs tk) (hN : N ≤ 6) (hi : heldB hs (i : Int) = true) :
    (∀ w, FDuo w0 w tb gs sb ag hb rb gr pb wb cb N S ms xs hs bs bs tk fr fr pk pk wds pcs ol → Calls Try.prog 55 #[.pointer (some ⟨tb, 0, none⟩), .int .i64 i] w fun e w' => e = .returned (.bool true) ∧ FDuo w0 w' tb gs sb ag hb rb gr pb wb cb N S ms xs (hs.set i false) (bs ++ [(i : Int)]) bs tk fr fr pk pk wds pcs ol) ∧
    (∀ w, FDuo w0 w tb gs sb ag hb rb gr pb wb cb N S ms xs (hs.set i false) (bs ++ [(i : Int)]) bs tk fr fr pk pk wds pcs ol → Calls Try.prog 35 #[.pointer (some ⟨gr, 0, none⟩), .int .i64 i] w fun e w' => e = .returned (.bool true) ∧ FDuo w0 w' tb gs sb ag hb rb gr pb wb cb N S ms xs (hs.set i false) (bs ++ [(i : Int)]) (bs ++ [(i : Int)]) (without tk i) fr fr pk pk wds pcs ol) := by
  have h1 := hI.len
  have h2 := hI.frN
  have h3 := hI.ct
  have h4 := hT.len
  exact ⟨fun w h => h.tab fun l ho => tfree_yes ho (by omega) (by omega) i hi _ rfl, fun w h => h.refc fun l ho => rGive_yes ho (by omega) (by omega) i (by rw [hT.has hI.h0]; exact hi)⟩
theorem fduo_giveno {w0 : World} {tb gs sb ag hb rb gr pb wb cb N S : Nat} {ms wds pcs : List Int} {ol : List Ast} {xs : List Value} {hs : List Bool} {bs tk : List Int} {fr : Nat} {pk : Int} {x : Int} (hI : AInv N hs bs fr) (hT : TkInv hs tk) (hN : N ≤ 6) (hi : heldB hs x = false) :
    (∀ w, FDuo w0 w tb gs sb ag hb rb gr pb wb cb N S ms xs hs bs bs tk fr fr pk pk wds pcs ol → Calls Try.prog 55 #[.pointer (some ⟨tb, 0, none⟩), .int .i64 x] w fun e w' => e = .returned (.bool false) ∧ FDuo w0 w' tb gs sb ag hb rb gr pb wb cb N S ms xs hs bs bs tk fr fr pk pk wds pcs ol) ∧
    (∀ w, FDuo w0 w tb gs sb ag hb rb gr pb wb cb N S ms xs hs bs bs tk fr fr pk pk wds pcs ol → Calls Try.prog 35 #[.pointer (some ⟨gr, 0, none⟩), .int .i64 x] w fun e w' => e = .returned (.bool false) ∧ FDuo w0 w' tb gs sb ag hb rb gr pb wb cb N S ms xs hs bs bs tk fr fr pk pk wds pcs ol) := by
  have h1 := hI.len
  exact ⟨fun w h => h.tab fun l ho => (tfree_no ho (by omega) x hi).mono fun e w' ⟨he, hw⟩ => ⟨he, hw ▸ ho⟩, fun w h => h.refc fun l ho => (rGive_no ho x (by rw [hT.has hI.h0]; exact hi)).mono fun e w' ⟨he, hw⟩ => ⟨he, hw ▸ ho⟩⟩
end Go.Proofs.Ytbadinmlnbabiaa
