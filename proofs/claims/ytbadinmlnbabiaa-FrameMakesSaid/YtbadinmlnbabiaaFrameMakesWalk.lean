/- The walk through the law FrameMakes. The region that draws is told by its states: which calls are through, which blocks are made. -/
import Derived.Test.YtbadinmlnbabiaaWorks16b
import Derived.Test.YtbadinmlnbabiaaFrameKin
import Derived.Test.YtbadinmlnbabiaaLin
import Derived.Test.YtbadinmlnbabiaaArgs
import Derived.Test.YtbadinmlnbabiaaFrameEq
set_option linter.unusedVariables false
set_option linter.unusedSimpArgs false
namespace Go.Proofs.Ytbadinmlnbabiaa
open Go.RowKit
set_option maxRecDepth 100000
set_option maxHeartbeats 8000000
theorem wpList_run {P : Program} {ops : Array Oper} {rest : List Oper} {o : Oper} {a : Act} {w w' : World} {Q : Exit → Act → World → Prop} (hg : o.guard = none) (v : Value)
    (hrun : (execOp a.eval o).run P w = .ok (.value v) w') (h : wpList P ops Q rest (a.put o.dst v) w') : wpList P ops Q (o :: rest) a w :=
  wpList_plain hg fun K hK => by
    unfold Oper.wp
    rw [hrun]
    exact hK _ _ h
theorem wpList_value_g {P : Program} {ops : Array Oper} {rest : List Oper} {o : Oper} {a : Act} {w : World} {Q : Exit → Act → World → Prop} (hw : Region.wanted o (yielded ops a.tmps) = true) (v : Value)
    (hrun : (execOp a.eval o).run P w = .ok (.value v) w) (h : wpList P ops Q rest (a.put o.dst v) w) : wpList P ops Q (o :: rest) a w :=
  wpList_step fun K hK => by
    rw [if_pos hw]
    unfold Oper.wp
    rw [hrun]
    exact hK _ _ h
theorem wpList_call {P : Program} {ops : Array Oper} {rest : List Oper} {o : Oper} {a : Act} {w : World} {Q : Exit → Act → World → Prop} (hg : o.guard = none) {f : FuncId} {args : Array Value} {v : Value} {R : World → Prop}
    (he : (execOp a.eval o).run P w = .ok (.enter f args) w) (hc : Calls P f args w fun e w' => e = .returned v ∧ R w') (h : ∀ w', R w' → wpList P ops Q rest (a.put o.dst v) w') : wpList P ops Q (o :: rest) a w :=
  wpList_plain hg fun K hK => by
    unfold Oper.wp
    rw [he, Oper.upon_enter]
    refine hc.mono ?_
    rintro e w' ⟨rfl, hr⟩
    exact hK _ _ (h w' hr)
theorem run_load_row' {P : Program} {o : Oper} {a : Act} {w : World} (ty : TypeId) (x : Operand) (ho : o.op = .load ty x) (g : Nat) (hx : a.eval x = .pointer (some ⟨g, 0, none⟩)) (t : TypeId) (cs : Array Value) (fr : Nat × Nat) (d : TypeDesc) (hg : w.heap[g]? = some (.cells cs t fr))
    (hu : P.underlying ty = some d) (hd : (match d with | .struct _ | .array _ _ => true | _ => false) = true) (hi : (P.info? ty).map (·.size) = some cs.size) : (execOp a.eval o).run P w = .ok (.value (.agg cs)) w := by
  unfold execOp
  simp only [ho, hx, Instr.loadAt, Instr.sureAddr, Sem.run_bind, Sem.run_pure, Result.andThen_ok, run_loadVar_row w g t ty cs fr d hg hu hd hi]
theorem run_load_mid' {P : Program} {o : Oper} {a : Act} {w : World} (ty : TypeId) (x : Operand) (ho : o.op = .load ty x) (b off : Nat) (hx : a.eval x = .pointer (some ⟨b, off, none⟩)) (cs : List Value) (d : TypeDesc) (hc : w.rangeAt b off cs)
    (hu : P.underlying ty = some d) (hd : d.isRow = true) (hi : (P.info? ty).map (·.size) = some cs.length) : (execOp a.eval o).run P w = .ok (.value (.agg cs.toArray)) w := by
  unfold execOp
  simp only [ho, hx, Instr.loadAt, Instr.sureAddr, Sem.run_bind, Sem.run_pure, Result.andThen_ok, run_loadVar_mid w b off ty cs d hc hu hd hi]
def opsM : Array Oper := #[{ dst := some 16, op := Op.load 65 (Operand.tmp 4), type := 65, pos := "law.go:33", after := #[], guard := none }, { dst := some 17, op := Op.move (Operand.tmp 1), type := 3, pos := "law.go:33", after := #[], guard := none }, { dst := some 18, op := Op.move (Operand.tmp 2), type := 3, pos := "law.go:33", after := #[], guard := none }, { dst := some 19, op := Op.call { callee := Callee.value (Operand.func 44), args := #[Operand.tmp 16, Operand.tmp 17, Operand.tmp 18], argTypes := #[65, 3, 3] }, type := 65, pos := "law.go:33", after := #[{ on := 0, ground := Ground.data }, { on := 1, ground := Ground.data }, { on := 2, ground := Ground.data }], guard := none }, { dst := some 20, op := Op.load 65 (Operand.tmp 4), type := 65, pos := "law.go:33", after := #[], guard := none }, { dst := some 21, op := Op.move (Operand.tmp 1), type := 3, pos := "law.go:33", after := #[], guard := none }, { dst := some 22, op := Op.move (Operand.tmp 2), type := 3, pos := "law.go:33", after := #[], guard := none }, { dst := some 23, op := Op.move (Operand.tmp 3), type := 3, pos := "law.go:33", after := #[], guard := none }, { dst := some 24, op := Op.call { callee := Callee.value (Operand.func 45), args := #[Operand.tmp 20, Operand.tmp 21, Operand.tmp 22, Operand.tmp 23], argTypes := #[65, 3, 3, 3] }, type := 65, pos := "law.go:33", after := #[{ on := 4, ground := Ground.data }, { on := 5, ground := Ground.data }, { on := 6, ground := Ground.data }, { on := 7, ground := Ground.data }, { on := 3, ground := Ground.chain }], guard := none }, { dst := some 25, op := Op.load 65 (Operand.tmp 4), type := 65, pos := "law.go:33", after := #[], guard := none }, { dst := some 26, op := Op.move (Operand.tmp 1), type := 3, pos := "law.go:33", after := #[], guard := none }, { dst := some 27, op := Op.call { callee := Callee.value (Operand.func 46), args := #[Operand.tmp 25, Operand.tmp 26], argTypes := #[65, 3] }, type := 65, pos := "law.go:33", after := #[{ on := 9, ground := Ground.data }, { on := 10, ground := Ground.data }, { on := 8, ground := Ground.chain }], guard := none }, { dst := some 10, op := Op.alloc 65, type := 0, pos := "law.go:33", after := #[], guard := none }, { dst := some 11, op := Op.alloc 65, type := 0, pos := "law.go:33", after := #[], guard := none }, { dst := some 12, op := Op.alloc 65, type := 0, pos := "law.go:33", after := #[], guard := none }, { dst := none, op := Op.store 65 (Operand.tmp 10) (Operand.tmp 19), type := 0, pos := "law.go:33", after := #[{ on := 12, ground := Ground.data }, { on := 3, ground := Ground.data }, { on := 11, ground := Ground.chain }, { on := 0, ground := Ground.phase }, { on := 1, ground := Ground.phase }, { on := 2, ground := Ground.phase }, { on := 3, ground := Ground.phase }, { on := 4, ground := Ground.textOnly Departure.lateStores }, { on := 5, ground := Ground.textOnly Departure.lateStores }, { on := 6, ground := Ground.textOnly Departure.lateStores }, { on := 7, ground := Ground.textOnly Departure.lateStores }, { on := 8, ground := Ground.textOnly Departure.lateStoresUnsure }, { on := 9, ground := Ground.textOnly Departure.lateStores }, { on := 10, ground := Ground.textOnly Departure.lateStores }, { on := 11, ground := Ground.textOnly Departure.lateStoresUnsure }, { on := 12, ground := Ground.phase }, { on := 13, ground := Ground.phase }, { on := 14, ground := Ground.phase }], guard := none }, { dst := none, op := Op.store 65 (Operand.tmp 11) (Operand.tmp 24), type := 0, pos := "law.go:33", after := #[{ on := 13, ground := Ground.data }, { on := 8, ground := Ground.data }, { on := 15, ground := Ground.chain }, { on := 0, ground := Ground.phase }, { on := 1, ground := Ground.phase }, { on := 2, ground := Ground.phase }, { on := 3, ground := Ground.phase }, { on := 4, ground := Ground.phase }, { on := 5, ground := Ground.phase }, { on := 6, ground := Ground.phase }, { on := 7, ground := Ground.phase }, { on := 8, ground := Ground.phase }, { on := 9, ground := Ground.textOnly Departure.lateStores }, { on := 10, ground := Ground.textOnly Departure.lateStores }, { on := 11, ground := Ground.textOnly Departure.lateStoresUnsure }, { on := 12, ground := Ground.phase }, { on := 13, ground := Ground.phase }, { on := 14, ground := Ground.phase }, { on := 15, ground := Ground.phase }], guard := none }, { dst := none, op := Op.store 65 (Operand.tmp 12) (Operand.tmp 27), type := 0, pos := "law.go:33", after := #[{ on := 14, ground := Ground.data }, { on := 11, ground := Ground.data }, { on := 16, ground := Ground.chain }, { on := 0, ground := Ground.phase }, { on := 1, ground := Ground.phase }, { on := 2, ground := Ground.phase }, { on := 3, ground := Ground.phase }, { on := 4, ground := Ground.phase }, { on := 5, ground := Ground.phase }, { on := 6, ground := Ground.phase }, { on := 7, ground := Ground.phase }, { on := 8, ground := Ground.phase }, { on := 9, ground := Ground.phase }, { on := 10, ground := Ground.phase }, { on := 11, ground := Ground.phase }, { on := 12, ground := Ground.phase }, { on := 13, ground := Ground.phase }, { on := 14, ground := Ground.phase }, { on := 15, ground := Ground.phase }, { on := 16, ground := Ground.phase }], guard := none }]
def actM (FV : Array Value) (own f2 s2 : Int) (pb wb : Nat) (t19 t24 t27 p10 p11 p12 : Value) : Act := ⟨#[.agg FV, .int .i64 own, .int .i64 f2, .int .i64 s2, .pointer (some ⟨pb, 0, none⟩), undef, undef, undef, .bool false, .pointer (some ⟨wb, 0, none⟩), p10, p11, p12, .bool true, .bool false, .agg FV, .agg FV, .int .i64 own, .int .i64 f2, t19, .agg FV, .int .i64 own, .int .i64 f2, .int .i64 s2, t24, .agg FV, .int .i64 own, t27, undef, undef, undef, undef, undef, undef, undef, undef, undef, undef, undef, undef, undef, undef, undef, undef, undef, undef, undef, undef, undef, undef, undef, undef, undef, undef, undef, undef, undef, undef, undef, undef, undef, undef, undef, undef, undef, undef, undef], []⟩
def bx (d : Bool) (b : Nat) : List Ast := if d = true then [cellsA b zeroF 65] else []
def pv (d : Bool) (b : Nat) : Value := if d = true then .pointer (some ⟨b, 0, none⟩) else undef
def cv (d : Bool) (V : Array Value) : Value := if d = true then .agg V else undef
/-- What holds when the calls c1, c2, c3 are through and the blocks d1, d2, d3 are made. -/
def InvM (w0 : World) (FV CV LV IV : Array Value) (own f2 s2 : Int) (pb wb : Nat) (c1 c2 c3 d1 d2 d3 : Bool) (a : Act) (w : World) : Prop :=
  ∃ b1 b2 b3, a = actM FV own f2 s2 pb wb (cv c1 CV) (cv c2 LV) (cv c3 IV) (pv d1 b1) (pv d2 b2) (pv d3 b3) ∧ Own w0 w ([cellsA wb FV 65, cellsA pb FV 65] ++ (bx d1 b1 ++ (bx d2 b2 ++ bx d3 b3)))
theorem pm1 {α : Type} (P X Y : List α) (a : α) : ((P ++ ([] ++ (X ++ Y))) ++ [a]).Perm (P ++ ([a] ++ (X ++ Y))) := by
  rw [List.nil_append, List.append_assoc]; exact List.Perm.append_left _ List.perm_append_comm
theorem pm2 {α : Type} (P X Y : List α) (a : α) : ((P ++ (X ++ ([] ++ Y))) ++ [a]).Perm (P ++ (X ++ ([a] ++ Y))) := by
  rw [List.nil_append, List.append_assoc, List.append_assoc]; exact List.Perm.append_left _ (List.Perm.append_left _ List.perm_append_comm)
theorem pm3 {α : Type} (P X Y : List α) (a : α) : ((P ++ (X ++ (Y ++ []))) ++ [a]).Perm (P ++ (X ++ (Y ++ [a]))) := by
  rw [List.append_nil, List.append_assoc, List.append_assoc]
theorem to_lin {P : Program} {ops : Array Oper} {Q : Exit → Act → World → Prop} {S : World → Prop} {listed : List Bool} {rest : List (Nat × Oper)} {a : Act} {w : World} {n : Nat} (hn : rest.length = n) (hd : ∀ p ∈ rest, ops[p.1]? = some p.2) (h : wpLin P ops Q S listed rest a w) : wpAnyH P .any ops Q S n listed.toArray a w := by
  subst hn
  exact h hd
def SM (FV : Array Value) (pb : Nat) (w : World) : Prop := w.rangeAt pb 0 FV.toList
theorem own_range {w0 w : World} {l : List Ast} {FV : Array Value} {pb : Nat} {A : Ast} {t : TypeId} (h : Own w0 w (A :: cellsA pb FV t :: l)) : SM FV pb w := by
  intro j v hv
  have := (h.cget 1 rfl j).1
  rw [show (0 : Nat) + j = j by omega, this, ← Array.getElem?_toList]
  exact hv
theorem InvM.s {w0 w : World} {FV CV LV IV : Array Value} {own f2 s2 : Int} {pb wb : Nat} {c1 c2 c3 d1 d2 d3 : Bool} {a : Act} (h : InvM w0 FV CV LV IV own f2 s2 pb wb c1 c2 c3 d1 d2 d3 a w) : SM FV pb w := by
  obtain ⟨b1, b2, b3, _, hO⟩ := h
  exact own_range hO
section
variable (k fn pc r0 r1 r2 r3 r4 r5 r6 r7 pa : Int) (di du : Bool) (ix st fo sd se own f2 s2 : Int)
theorem m_child {w0 w : World} {pb wb : Nat} {d1 d2 d3 : Bool} {a : Act} {K : Act → World → Prop} {Q : Exit → Act → World → Prop} (hI : InvM w0 (frV k fn pc r0 r1 r2 r3 r4 r5 r6 r7 pa di du ix st fo sd se) (frV 1 f2 0 r0 r1 r2 r3 r4 r5 r6 r7 own false false 0 0 0 0 0) (frV 3 f2 0 r0 r1 r2 r3 r4 r5 r6 r7 own false false 0 0 0 0 s2) (frV 2 fn 0 r0 r1 r2 r3 r4 r5 r6 r7 own false false sd 0 0 0 0) own f2 s2 pb wb false false false d1 d2 d3 a w)
    (hK : ∀ a' w', InvM w0 (frV k fn pc r0 r1 r2 r3 r4 r5 r6 r7 pa di du ix st fo sd se) (frV 1 f2 0 r0 r1 r2 r3 r4 r5 r6 r7 own false false 0 0 0 0 0) (frV 3 f2 0 r0 r1 r2 r3 r4 r5 r6 r7 own false false 0 0 0 0 s2) (frV 2 fn 0 r0 r1 r2 r3 r4 r5 r6 r7 own false false sd 0 0 0 0) own f2 s2 pb wb true false false d1 d2 d3 a' w' → K a' w') : if Region.wanted (opsM[3]'(by decide)) (yielded opsM a.tmps) = true then Oper.wp Try.prog (opsM[3]'(by decide)) a w K Q else K (a.put (opsM[3]'(by decide)).dst undef) w := by
  obtain ⟨b1, b2, b3, rfl, hO⟩ := hI
  rw [if_pos (by rfl)]
  unfold Oper.wp
  have he : (execOp (actM (frV k fn pc r0 r1 r2 r3 r4 r5 r6 r7 pa di du ix st fo sd se) own f2 s2 pb wb (cv false (frV 1 f2 0 r0 r1 r2 r3 r4 r5 r6 r7 own false false 0 0 0 0 0)) (cv false (frV 3 f2 0 r0 r1 r2 r3 r4 r5 r6 r7 own false false 0 0 0 0 s2)) (cv false (frV 2 fn 0 r0 r1 r2 r3 r4 r5 r6 r7 own false false sd 0 0 0 0)) (pv d1 b1) (pv d2 b2) (pv d3 b3)).eval (opsM[3]'(by decide))).run Try.prog w = .ok (.enter 44 #[.agg (frV k fn pc r0 r1 r2 r3 r4 r5 r6 r7 pa di du ix st fo sd se), .int .i64 own, .int .i64 f2]) w := by kernel_rfl
  rw [he, Oper.upon_enter]
  refine (child_any k fn pc r0 r1 r2 r3 r4 r5 r6 r7 pa di du ix st fo sd se own f2 w).mono ?_
  rintro e w' ⟨rfl, hb⟩
  exact hK _ _ ⟨b1, b2, b3, by kernel_rfl, hO.grow hb⟩
theorem m_loop {w0 w : World} {pb wb : Nat} {d1 d2 d3 : Bool} {a : Act} {K : Act → World → Prop} {Q : Exit → Act → World → Prop} (hI : InvM w0 (frV k fn pc r0 r1 r2 r3 r4 r5 r6 r7 pa di du ix st fo sd se) (frV 1 f2 0 r0 r1 r2 r3 r4 r5 r6 r7 own false false 0 0 0 0 0) (frV 3 f2 0 r0 r1 r2 r3 r4 r5 r6 r7 own false false 0 0 0 0 s2) (frV 2 fn 0 r0 r1 r2 r3 r4 r5 r6 r7 own false false sd 0 0 0 0) own f2 s2 pb wb true false false d1 d2 d3 a w)
    (hK : ∀ a' w', InvM w0 (frV k fn pc r0 r1 r2 r3 r4 r5 r6 r7 pa di du ix st fo sd se) (frV 1 f2 0 r0 r1 r2 r3 r4 r5 r6 r7 own false false 0 0 0 0 0) (frV 3 f2 0 r0 r1 r2 r3 r4 r5 r6 r7 own false false 0 0 0 0 s2) (frV 2 fn 0 r0 r1 r2 r3 r4 r5 r6 r7 own false false sd 0 0 0 0) own f2 s2 pb wb true true false d1 d2 d3 a' w' → K a' w') : if Region.wanted (opsM[8]'(by decide)) (yielded opsM a.tmps) = true then Oper.wp Try.prog (opsM[8]'(by decide)) a w K Q else K (a.put (opsM[8]'(by decide)).dst undef) w := by
  obtain ⟨b1, b2, b3, rfl, hO⟩ := hI
  rw [if_pos (by rfl)]
  unfold Oper.wp
  have he : (execOp (actM (frV k fn pc r0 r1 r2 r3 r4 r5 r6 r7 pa di du ix st fo sd se) own f2 s2 pb wb (cv true (frV 1 f2 0 r0 r1 r2 r3 r4 r5 r6 r7 own false false 0 0 0 0 0)) (cv false (frV 3 f2 0 r0 r1 r2 r3 r4 r5 r6 r7 own false false 0 0 0 0 s2)) (cv false (frV 2 fn 0 r0 r1 r2 r3 r4 r5 r6 r7 own false false sd 0 0 0 0)) (pv d1 b1) (pv d2 b2) (pv d3 b3)).eval (opsM[8]'(by decide))).run Try.prog w = .ok (.enter 45 #[.agg (frV k fn pc r0 r1 r2 r3 r4 r5 r6 r7 pa di du ix st fo sd se), .int .i64 own, .int .i64 f2, .int .i64 s2]) w := by kernel_rfl
  rw [he, Oper.upon_enter]
  refine (loop_any k fn pc r0 r1 r2 r3 r4 r5 r6 r7 pa di du ix st fo sd se own f2 s2 w).mono ?_
  rintro e w' ⟨rfl, hb⟩
  exact hK _ _ ⟨b1, b2, b3, by kernel_rfl, hO.grow hb⟩
theorem m_iter {w0 w : World} {pb wb : Nat} {d1 d2 d3 : Bool} {a : Act} {K : Act → World → Prop} {Q : Exit → Act → World → Prop} (hI : InvM w0 (frV k fn pc r0 r1 r2 r3 r4 r5 r6 r7 pa di du ix st fo sd se) (frV 1 f2 0 r0 r1 r2 r3 r4 r5 r6 r7 own false false 0 0 0 0 0) (frV 3 f2 0 r0 r1 r2 r3 r4 r5 r6 r7 own false false 0 0 0 0 s2) (frV 2 fn 0 r0 r1 r2 r3 r4 r5 r6 r7 own false false sd 0 0 0 0) own f2 s2 pb wb true true false d1 d2 d3 a w)
    (hK : ∀ a' w', InvM w0 (frV k fn pc r0 r1 r2 r3 r4 r5 r6 r7 pa di du ix st fo sd se) (frV 1 f2 0 r0 r1 r2 r3 r4 r5 r6 r7 own false false 0 0 0 0 0) (frV 3 f2 0 r0 r1 r2 r3 r4 r5 r6 r7 own false false 0 0 0 0 s2) (frV 2 fn 0 r0 r1 r2 r3 r4 r5 r6 r7 own false false sd 0 0 0 0) own f2 s2 pb wb true true true d1 d2 d3 a' w' → K a' w') : if Region.wanted (opsM[11]'(by decide)) (yielded opsM a.tmps) = true then Oper.wp Try.prog (opsM[11]'(by decide)) a w K Q else K (a.put (opsM[11]'(by decide)).dst undef) w := by
  obtain ⟨b1, b2, b3, rfl, hO⟩ := hI
  rw [if_pos (by rfl)]
  unfold Oper.wp
  have he : (execOp (actM (frV k fn pc r0 r1 r2 r3 r4 r5 r6 r7 pa di du ix st fo sd se) own f2 s2 pb wb (cv true (frV 1 f2 0 r0 r1 r2 r3 r4 r5 r6 r7 own false false 0 0 0 0 0)) (cv true (frV 3 f2 0 r0 r1 r2 r3 r4 r5 r6 r7 own false false 0 0 0 0 s2)) (cv false (frV 2 fn 0 r0 r1 r2 r3 r4 r5 r6 r7 own false false sd 0 0 0 0)) (pv d1 b1) (pv d2 b2) (pv d3 b3)).eval (opsM[11]'(by decide))).run Try.prog w = .ok (.enter 46 #[.agg (frV k fn pc r0 r1 r2 r3 r4 r5 r6 r7 pa di du ix st fo sd se), .int .i64 own]) w := by kernel_rfl
  rw [he, Oper.upon_enter]
  refine (iter_any k fn pc r0 r1 r2 r3 r4 r5 r6 r7 pa di du ix st fo sd se own w).mono ?_
  rintro e w' ⟨rfl, hb⟩
  exact hK _ _ ⟨b1, b2, b3, by kernel_rfl, hO.grow hb⟩
theorem m_make1 {w0 w : World} {pb wb : Nat} {c1 c2 c3 d2 d3 : Bool} {a : Act} {K : Act → World → Prop} {Q : Exit → Act → World → Prop} (hI : InvM w0 (frV k fn pc r0 r1 r2 r3 r4 r5 r6 r7 pa di du ix st fo sd se) (frV 1 f2 0 r0 r1 r2 r3 r4 r5 r6 r7 own false false 0 0 0 0 0) (frV 3 f2 0 r0 r1 r2 r3 r4 r5 r6 r7 own false false 0 0 0 0 s2) (frV 2 fn 0 r0 r1 r2 r3 r4 r5 r6 r7 own false false sd 0 0 0 0) own f2 s2 pb wb c1 c2 c3 false d2 d3 a w)
    (hK : ∀ a' w', InvM w0 (frV k fn pc r0 r1 r2 r3 r4 r5 r6 r7 pa di du ix st fo sd se) (frV 1 f2 0 r0 r1 r2 r3 r4 r5 r6 r7 own false false 0 0 0 0 0) (frV 3 f2 0 r0 r1 r2 r3 r4 r5 r6 r7 own false false 0 0 0 0 s2) (frV 2 fn 0 r0 r1 r2 r3 r4 r5 r6 r7 own false false sd 0 0 0 0) own f2 s2 pb wb c1 c2 c3 true d2 d3 a' w' → K a' w') : if Region.wanted (opsM[12]'(by decide)) (yielded opsM a.tmps) = true then Oper.wp Try.prog (opsM[12]'(by decide)) a w K Q else K (a.put (opsM[12]'(by decide)).dst undef) w := by
  obtain ⟨b1, b2, b3, rfl, hO⟩ := hI
  rw [if_pos (by rfl)]
  unfold Oper.wp
  have he : (execOp (actM (frV k fn pc r0 r1 r2 r3 r4 r5 r6 r7 pa di du ix st fo sd se) own f2 s2 pb wb (cv c1 (frV 1 f2 0 r0 r1 r2 r3 r4 r5 r6 r7 own false false 0 0 0 0 0)) (cv c2 (frV 3 f2 0 r0 r1 r2 r3 r4 r5 r6 r7 own false false 0 0 0 0 s2)) (cv c3 (frV 2 fn 0 r0 r1 r2 r3 r4 r5 r6 r7 own false false sd 0 0 0 0)) (pv false b1) (pv d2 b2) (pv d3 b3)).eval (opsM[12]'(by decide))).run Try.prog w = .ok (.value (.pointer (some ⟨w.heap.size, 0, none⟩))) (w.alloc (.cells zeroF 65)) := by kernel_rfl
  rw [he]
  exact hK _ _ ⟨w.heap.size, b2, b3, by kernel_rfl, (hO.box zeroF 65).pm (pm1 _ _ _ _)⟩
theorem m_make2 {w0 w : World} {pb wb : Nat} {c1 c2 c3 d1 d3 : Bool} {a : Act} {K : Act → World → Prop} {Q : Exit → Act → World → Prop} (hI : InvM w0 (frV k fn pc r0 r1 r2 r3 r4 r5 r6 r7 pa di du ix st fo sd se) (frV 1 f2 0 r0 r1 r2 r3 r4 r5 r6 r7 own false false 0 0 0 0 0) (frV 3 f2 0 r0 r1 r2 r3 r4 r5 r6 r7 own false false 0 0 0 0 s2) (frV 2 fn 0 r0 r1 r2 r3 r4 r5 r6 r7 own false false sd 0 0 0 0) own f2 s2 pb wb c1 c2 c3 d1 false d3 a w)
    (hK : ∀ a' w', InvM w0 (frV k fn pc r0 r1 r2 r3 r4 r5 r6 r7 pa di du ix st fo sd se) (frV 1 f2 0 r0 r1 r2 r3 r4 r5 r6 r7 own false false 0 0 0 0 0) (frV 3 f2 0 r0 r1 r2 r3 r4 r5 r6 r7 own false false 0 0 0 0 s2) (frV 2 fn 0 r0 r1 r2 r3 r4 r5 r6 r7 own false false sd 0 0 0 0) own f2 s2 pb wb c1 c2 c3 d1 true d3 a' w' → K a' w') : if Region.wanted (opsM[13]'(by decide)) (yielded opsM a.tmps) = true then Oper.wp Try.prog (opsM[13]'(by decide)) a w K Q else K (a.put (opsM[13]'(by decide)).dst undef) w := by
  obtain ⟨b1, b2, b3, rfl, hO⟩ := hI
  rw [if_pos (by rfl)]
  unfold Oper.wp
  have he : (execOp (actM (frV k fn pc r0 r1 r2 r3 r4 r5 r6 r7 pa di du ix st fo sd se) own f2 s2 pb wb (cv c1 (frV 1 f2 0 r0 r1 r2 r3 r4 r5 r6 r7 own false false 0 0 0 0 0)) (cv c2 (frV 3 f2 0 r0 r1 r2 r3 r4 r5 r6 r7 own false false 0 0 0 0 s2)) (cv c3 (frV 2 fn 0 r0 r1 r2 r3 r4 r5 r6 r7 own false false sd 0 0 0 0)) (pv d1 b1) (pv false b2) (pv d3 b3)).eval (opsM[13]'(by decide))).run Try.prog w = .ok (.value (.pointer (some ⟨w.heap.size, 0, none⟩))) (w.alloc (.cells zeroF 65)) := by kernel_rfl
  rw [he]
  exact hK _ _ ⟨b1, w.heap.size, b3, by kernel_rfl, (hO.box zeroF 65).pm (pm2 _ _ _ _)⟩
theorem m_make3 {w0 w : World} {pb wb : Nat} {c1 c2 c3 d1 d2 : Bool} {a : Act} {K : Act → World → Prop} {Q : Exit → Act → World → Prop} (hI : InvM w0 (frV k fn pc r0 r1 r2 r3 r4 r5 r6 r7 pa di du ix st fo sd se) (frV 1 f2 0 r0 r1 r2 r3 r4 r5 r6 r7 own false false 0 0 0 0 0) (frV 3 f2 0 r0 r1 r2 r3 r4 r5 r6 r7 own false false 0 0 0 0 s2) (frV 2 fn 0 r0 r1 r2 r3 r4 r5 r6 r7 own false false sd 0 0 0 0) own f2 s2 pb wb c1 c2 c3 d1 d2 false a w)
    (hK : ∀ a' w', InvM w0 (frV k fn pc r0 r1 r2 r3 r4 r5 r6 r7 pa di du ix st fo sd se) (frV 1 f2 0 r0 r1 r2 r3 r4 r5 r6 r7 own false false 0 0 0 0 0) (frV 3 f2 0 r0 r1 r2 r3 r4 r5 r6 r7 own false false 0 0 0 0 s2) (frV 2 fn 0 r0 r1 r2 r3 r4 r5 r6 r7 own false false sd 0 0 0 0) own f2 s2 pb wb c1 c2 c3 d1 d2 true a' w' → K a' w') : if Region.wanted (opsM[14]'(by decide)) (yielded opsM a.tmps) = true then Oper.wp Try.prog (opsM[14]'(by decide)) a w K Q else K (a.put (opsM[14]'(by decide)).dst undef) w := by
  obtain ⟨b1, b2, b3, rfl, hO⟩ := hI
  rw [if_pos (by rfl)]
  unfold Oper.wp
  have he : (execOp (actM (frV k fn pc r0 r1 r2 r3 r4 r5 r6 r7 pa di du ix st fo sd se) own f2 s2 pb wb (cv c1 (frV 1 f2 0 r0 r1 r2 r3 r4 r5 r6 r7 own false false 0 0 0 0 0)) (cv c2 (frV 3 f2 0 r0 r1 r2 r3 r4 r5 r6 r7 own false false 0 0 0 0 s2)) (cv c3 (frV 2 fn 0 r0 r1 r2 r3 r4 r5 r6 r7 own false false sd 0 0 0 0)) (pv d1 b1) (pv d2 b2) (pv false b3)).eval (opsM[14]'(by decide))).run Try.prog w = .ok (.value (.pointer (some ⟨w.heap.size, 0, none⟩))) (w.alloc (.cells zeroF 65)) := by kernel_rfl
  rw [he]
  exact hK _ _ ⟨b1, b2, w.heap.size, by kernel_rfl, (hO.box zeroF 65).pm (pm3 _ _ _ _)⟩
theorem m_nodes {w0 : World} {pb wb : Nat} {Q : Exit → Act → World → Prop} (W3111 : ∀ a w, InvM w0 (frV k fn pc r0 r1 r2 r3 r4 r5 r6 r7 pa di du ix st fo sd se) (frV 1 f2 0 r0 r1 r2 r3 r4 r5 r6 r7 own false false 0 0 0 0 0) (frV 3 f2 0 r0 r1 r2 r3 r4 r5 r6 r7 own false false 0 0 0 0 s2) (frV 2 fn 0 r0 r1 r2 r3 r4 r5 r6 r7 own false false sd 0 0 0 0) own f2 s2 pb wb true true true true true true a w → wpAnyH Try.prog .any opsM Q (SM (frV k fn pc r0 r1 r2 r3 r4 r5 r6 r7 pa di du ix st fo sd se) pb) 3 #[true, true, true, true, true, true, true, true, true, true, true, true, true, true, true, false, false, false] a w) : ∀ a w, InvM w0 (frV k fn pc r0 r1 r2 r3 r4 r5 r6 r7 pa di du ix st fo sd se) (frV 1 f2 0 r0 r1 r2 r3 r4 r5 r6 r7 own false false 0 0 0 0 0) (frV 3 f2 0 r0 r1 r2 r3 r4 r5 r6 r7 own false false 0 0 0 0 s2) (frV 2 fn 0 r0 r1 r2 r3 r4 r5 r6 r7 own false false sd 0 0 0 0) own f2 s2 pb wb false false false false false false a w → wpAnyH Try.prog .any opsM Q (SM (frV k fn pc r0 r1 r2 r3 r4 r5 r6 r7 pa di du ix st fo sd se) pb) 9 #[true, true, true, false, true, true, true, true, false, true, true, false, false, false, false, false, false, false] a w := by
  have W2111 : ∀ a w, InvM w0 (frV k fn pc r0 r1 r2 r3 r4 r5 r6 r7 pa di du ix st fo sd se) (frV 1 f2 0 r0 r1 r2 r3 r4 r5 r6 r7 own false false 0 0 0 0 0) (frV 3 f2 0 r0 r1 r2 r3 r4 r5 r6 r7 own false false 0 0 0 0 s2) (frV 2 fn 0 r0 r1 r2 r3 r4 r5 r6 r7 own false false sd 0 0 0 0) own f2 s2 pb wb true true false true true true a w → wpAnyH Try.prog .any opsM Q (SM (frV k fn pc r0 r1 r2 r3 r4 r5 r6 r7 pa di du ix st fo sd se) pb) 4 #[true, true, true, true, true, true, true, true, true, true, true, false, true, true, true, false, false, false] a w := by
    intro a w hI
    refine wpAnyH_ready (rs := [11]) (by kernel_rfl) (by simp) ?_
    refine AllReadyH.cons (show opsM[11]? = some (opsM[11]'(by decide)) by rfl) (fun K hK => m_iter k fn pc r0 r1 r2 r3 r4 r5 r6 r7 pa di du ix st fo sd se own f2 s2 hI fun a' w' h' => hK.out a' w' h'.s fun _ => W3111 a' w' h') ?_
    exact AllReadyH.nil
  have W3011 : ∀ a w, InvM w0 (frV k fn pc r0 r1 r2 r3 r4 r5 r6 r7 pa di du ix st fo sd se) (frV 1 f2 0 r0 r1 r2 r3 r4 r5 r6 r7 own false false 0 0 0 0 0) (frV 3 f2 0 r0 r1 r2 r3 r4 r5 r6 r7 own false false 0 0 0 0 s2) (frV 2 fn 0 r0 r1 r2 r3 r4 r5 r6 r7 own false false sd 0 0 0 0) own f2 s2 pb wb true true true false true true a w → wpAnyH Try.prog .any opsM Q (SM (frV k fn pc r0 r1 r2 r3 r4 r5 r6 r7 pa di du ix st fo sd se) pb) 4 #[true, true, true, true, true, true, true, true, true, true, true, true, false, true, true, false, false, false] a w := by
    intro a w hI
    refine wpAnyH_ready (rs := [12]) (by kernel_rfl) (by simp) ?_
    refine AllReadyH.cons (show opsM[12]? = some (opsM[12]'(by decide)) by rfl) (fun K hK => m_make1 k fn pc r0 r1 r2 r3 r4 r5 r6 r7 pa di du ix st fo sd se own f2 s2 hI fun a' w' h' => hK.out a' w' h'.s fun _ => W3111 a' w' h') ?_
    exact AllReadyH.nil
  have W3101 : ∀ a w, InvM w0 (frV k fn pc r0 r1 r2 r3 r4 r5 r6 r7 pa di du ix st fo sd se) (frV 1 f2 0 r0 r1 r2 r3 r4 r5 r6 r7 own false false 0 0 0 0 0) (frV 3 f2 0 r0 r1 r2 r3 r4 r5 r6 r7 own false false 0 0 0 0 s2) (frV 2 fn 0 r0 r1 r2 r3 r4 r5 r6 r7 own false false sd 0 0 0 0) own f2 s2 pb wb true true true true false true a w → wpAnyH Try.prog .any opsM Q (SM (frV k fn pc r0 r1 r2 r3 r4 r5 r6 r7 pa di du ix st fo sd se) pb) 4 #[true, true, true, true, true, true, true, true, true, true, true, true, true, false, true, false, false, false] a w := by
    intro a w hI
    refine wpAnyH_ready (rs := [13]) (by kernel_rfl) (by simp) ?_
    refine AllReadyH.cons (show opsM[13]? = some (opsM[13]'(by decide)) by rfl) (fun K hK => m_make2 k fn pc r0 r1 r2 r3 r4 r5 r6 r7 pa di du ix st fo sd se own f2 s2 hI fun a' w' h' => hK.out a' w' h'.s fun _ => W3111 a' w' h') ?_
    exact AllReadyH.nil
  have W3110 : ∀ a w, InvM w0 (frV k fn pc r0 r1 r2 r3 r4 r5 r6 r7 pa di du ix st fo sd se) (frV 1 f2 0 r0 r1 r2 r3 r4 r5 r6 r7 own false false 0 0 0 0 0) (frV 3 f2 0 r0 r1 r2 r3 r4 r5 r6 r7 own false false 0 0 0 0 s2) (frV 2 fn 0 r0 r1 r2 r3 r4 r5 r6 r7 own false false sd 0 0 0 0) own f2 s2 pb wb true true true true true false a w → wpAnyH Try.prog .any opsM Q (SM (frV k fn pc r0 r1 r2 r3 r4 r5 r6 r7 pa di du ix st fo sd se) pb) 4 #[true, true, true, true, true, true, true, true, true, true, true, true, true, true, false, false, false, false] a w := by
    intro a w hI
    refine wpAnyH_ready (rs := [14]) (by kernel_rfl) (by simp) ?_
    refine AllReadyH.cons (show opsM[14]? = some (opsM[14]'(by decide)) by rfl) (fun K hK => m_make3 k fn pc r0 r1 r2 r3 r4 r5 r6 r7 pa di du ix st fo sd se own f2 s2 hI fun a' w' h' => hK.out a' w' h'.s fun _ => W3111 a' w' h') ?_
    exact AllReadyH.nil
  have W1111 : ∀ a w, InvM w0 (frV k fn pc r0 r1 r2 r3 r4 r5 r6 r7 pa di du ix st fo sd se) (frV 1 f2 0 r0 r1 r2 r3 r4 r5 r6 r7 own false false 0 0 0 0 0) (frV 3 f2 0 r0 r1 r2 r3 r4 r5 r6 r7 own false false 0 0 0 0 s2) (frV 2 fn 0 r0 r1 r2 r3 r4 r5 r6 r7 own false false sd 0 0 0 0) own f2 s2 pb wb true false false true true true a w → wpAnyH Try.prog .any opsM Q (SM (frV k fn pc r0 r1 r2 r3 r4 r5 r6 r7 pa di du ix st fo sd se) pb) 5 #[true, true, true, true, true, true, true, true, false, true, true, false, true, true, true, false, false, false] a w := by
    intro a w hI
    refine wpAnyH_ready (rs := [8]) (by kernel_rfl) (by simp) ?_
    refine AllReadyH.cons (show opsM[8]? = some (opsM[8]'(by decide)) by rfl) (fun K hK => m_loop k fn pc r0 r1 r2 r3 r4 r5 r6 r7 pa di du ix st fo sd se own f2 s2 hI fun a' w' h' => hK.out a' w' h'.s fun _ => W2111 a' w' h') ?_
    exact AllReadyH.nil
  have W2011 : ∀ a w, InvM w0 (frV k fn pc r0 r1 r2 r3 r4 r5 r6 r7 pa di du ix st fo sd se) (frV 1 f2 0 r0 r1 r2 r3 r4 r5 r6 r7 own false false 0 0 0 0 0) (frV 3 f2 0 r0 r1 r2 r3 r4 r5 r6 r7 own false false 0 0 0 0 s2) (frV 2 fn 0 r0 r1 r2 r3 r4 r5 r6 r7 own false false sd 0 0 0 0) own f2 s2 pb wb true true false false true true a w → wpAnyH Try.prog .any opsM Q (SM (frV k fn pc r0 r1 r2 r3 r4 r5 r6 r7 pa di du ix st fo sd se) pb) 5 #[true, true, true, true, true, true, true, true, true, true, true, false, false, true, true, false, false, false] a w := by
    intro a w hI
    refine wpAnyH_ready (rs := [11, 12]) (by kernel_rfl) (by simp) ?_
    refine AllReadyH.cons (show opsM[11]? = some (opsM[11]'(by decide)) by rfl) (fun K hK => m_iter k fn pc r0 r1 r2 r3 r4 r5 r6 r7 pa di du ix st fo sd se own f2 s2 hI fun a' w' h' => hK.out a' w' h'.s fun _ => W3011 a' w' h') ?_
    refine AllReadyH.cons (show opsM[12]? = some (opsM[12]'(by decide)) by rfl) (fun K hK => m_make1 k fn pc r0 r1 r2 r3 r4 r5 r6 r7 pa di du ix st fo sd se own f2 s2 hI fun a' w' h' => hK.out a' w' h'.s fun _ => W2111 a' w' h') ?_
    exact AllReadyH.nil
  have W2101 : ∀ a w, InvM w0 (frV k fn pc r0 r1 r2 r3 r4 r5 r6 r7 pa di du ix st fo sd se) (frV 1 f2 0 r0 r1 r2 r3 r4 r5 r6 r7 own false false 0 0 0 0 0) (frV 3 f2 0 r0 r1 r2 r3 r4 r5 r6 r7 own false false 0 0 0 0 s2) (frV 2 fn 0 r0 r1 r2 r3 r4 r5 r6 r7 own false false sd 0 0 0 0) own f2 s2 pb wb true true false true false true a w → wpAnyH Try.prog .any opsM Q (SM (frV k fn pc r0 r1 r2 r3 r4 r5 r6 r7 pa di du ix st fo sd se) pb) 5 #[true, true, true, true, true, true, true, true, true, true, true, false, true, false, true, false, false, false] a w := by
    intro a w hI
    refine wpAnyH_ready (rs := [11, 13]) (by kernel_rfl) (by simp) ?_
    refine AllReadyH.cons (show opsM[11]? = some (opsM[11]'(by decide)) by rfl) (fun K hK => m_iter k fn pc r0 r1 r2 r3 r4 r5 r6 r7 pa di du ix st fo sd se own f2 s2 hI fun a' w' h' => hK.out a' w' h'.s fun _ => W3101 a' w' h') ?_
    refine AllReadyH.cons (show opsM[13]? = some (opsM[13]'(by decide)) by rfl) (fun K hK => m_make2 k fn pc r0 r1 r2 r3 r4 r5 r6 r7 pa di du ix st fo sd se own f2 s2 hI fun a' w' h' => hK.out a' w' h'.s fun _ => W2111 a' w' h') ?_
    exact AllReadyH.nil
  have W2110 : ∀ a w, InvM w0 (frV k fn pc r0 r1 r2 r3 r4 r5 r6 r7 pa di du ix st fo sd se) (frV 1 f2 0 r0 r1 r2 r3 r4 r5 r6 r7 own false false 0 0 0 0 0) (frV 3 f2 0 r0 r1 r2 r3 r4 r5 r6 r7 own false false 0 0 0 0 s2) (frV 2 fn 0 r0 r1 r2 r3 r4 r5 r6 r7 own false false sd 0 0 0 0) own f2 s2 pb wb true true false true true false a w → wpAnyH Try.prog .any opsM Q (SM (frV k fn pc r0 r1 r2 r3 r4 r5 r6 r7 pa di du ix st fo sd se) pb) 5 #[true, true, true, true, true, true, true, true, true, true, true, false, true, true, false, false, false, false] a w := by
    intro a w hI
    refine wpAnyH_ready (rs := [11, 14]) (by kernel_rfl) (by simp) ?_
    refine AllReadyH.cons (show opsM[11]? = some (opsM[11]'(by decide)) by rfl) (fun K hK => m_iter k fn pc r0 r1 r2 r3 r4 r5 r6 r7 pa di du ix st fo sd se own f2 s2 hI fun a' w' h' => hK.out a' w' h'.s fun _ => W3110 a' w' h') ?_
    refine AllReadyH.cons (show opsM[14]? = some (opsM[14]'(by decide)) by rfl) (fun K hK => m_make3 k fn pc r0 r1 r2 r3 r4 r5 r6 r7 pa di du ix st fo sd se own f2 s2 hI fun a' w' h' => hK.out a' w' h'.s fun _ => W2111 a' w' h') ?_
    exact AllReadyH.nil
  have W3001 : ∀ a w, InvM w0 (frV k fn pc r0 r1 r2 r3 r4 r5 r6 r7 pa di du ix st fo sd se) (frV 1 f2 0 r0 r1 r2 r3 r4 r5 r6 r7 own false false 0 0 0 0 0) (frV 3 f2 0 r0 r1 r2 r3 r4 r5 r6 r7 own false false 0 0 0 0 s2) (frV 2 fn 0 r0 r1 r2 r3 r4 r5 r6 r7 own false false sd 0 0 0 0) own f2 s2 pb wb true true true false false true a w → wpAnyH Try.prog .any opsM Q (SM (frV k fn pc r0 r1 r2 r3 r4 r5 r6 r7 pa di du ix st fo sd se) pb) 5 #[true, true, true, true, true, true, true, true, true, true, true, true, false, false, true, false, false, false] a w := by
    intro a w hI
    refine wpAnyH_ready (rs := [12, 13]) (by kernel_rfl) (by simp) ?_
    refine AllReadyH.cons (show opsM[12]? = some (opsM[12]'(by decide)) by rfl) (fun K hK => m_make1 k fn pc r0 r1 r2 r3 r4 r5 r6 r7 pa di du ix st fo sd se own f2 s2 hI fun a' w' h' => hK.out a' w' h'.s fun _ => W3101 a' w' h') ?_
    refine AllReadyH.cons (show opsM[13]? = some (opsM[13]'(by decide)) by rfl) (fun K hK => m_make2 k fn pc r0 r1 r2 r3 r4 r5 r6 r7 pa di du ix st fo sd se own f2 s2 hI fun a' w' h' => hK.out a' w' h'.s fun _ => W3011 a' w' h') ?_
    exact AllReadyH.nil
  have W3010 : ∀ a w, InvM w0 (frV k fn pc r0 r1 r2 r3 r4 r5 r6 r7 pa di du ix st fo sd se) (frV 1 f2 0 r0 r1 r2 r3 r4 r5 r6 r7 own false false 0 0 0 0 0) (frV 3 f2 0 r0 r1 r2 r3 r4 r5 r6 r7 own false false 0 0 0 0 s2) (frV 2 fn 0 r0 r1 r2 r3 r4 r5 r6 r7 own false false sd 0 0 0 0) own f2 s2 pb wb true true true false true false a w → wpAnyH Try.prog .any opsM Q (SM (frV k fn pc r0 r1 r2 r3 r4 r5 r6 r7 pa di du ix st fo sd se) pb) 5 #[true, true, true, true, true, true, true, true, true, true, true, true, false, true, false, false, false, false] a w := by
    intro a w hI
    refine wpAnyH_ready (rs := [12, 14]) (by kernel_rfl) (by simp) ?_
    refine AllReadyH.cons (show opsM[12]? = some (opsM[12]'(by decide)) by rfl) (fun K hK => m_make1 k fn pc r0 r1 r2 r3 r4 r5 r6 r7 pa di du ix st fo sd se own f2 s2 hI fun a' w' h' => hK.out a' w' h'.s fun _ => W3110 a' w' h') ?_
    refine AllReadyH.cons (show opsM[14]? = some (opsM[14]'(by decide)) by rfl) (fun K hK => m_make3 k fn pc r0 r1 r2 r3 r4 r5 r6 r7 pa di du ix st fo sd se own f2 s2 hI fun a' w' h' => hK.out a' w' h'.s fun _ => W3011 a' w' h') ?_
    exact AllReadyH.nil
  have W3100 : ∀ a w, InvM w0 (frV k fn pc r0 r1 r2 r3 r4 r5 r6 r7 pa di du ix st fo sd se) (frV 1 f2 0 r0 r1 r2 r3 r4 r5 r6 r7 own false false 0 0 0 0 0) (frV 3 f2 0 r0 r1 r2 r3 r4 r5 r6 r7 own false false 0 0 0 0 s2) (frV 2 fn 0 r0 r1 r2 r3 r4 r5 r6 r7 own false false sd 0 0 0 0) own f2 s2 pb wb true true true true false false a w → wpAnyH Try.prog .any opsM Q (SM (frV k fn pc r0 r1 r2 r3 r4 r5 r6 r7 pa di du ix st fo sd se) pb) 5 #[true, true, true, true, true, true, true, true, true, true, true, true, true, false, false, false, false, false] a w := by
    intro a w hI
    refine wpAnyH_ready (rs := [13, 14]) (by kernel_rfl) (by simp) ?_
    refine AllReadyH.cons (show opsM[13]? = some (opsM[13]'(by decide)) by rfl) (fun K hK => m_make2 k fn pc r0 r1 r2 r3 r4 r5 r6 r7 pa di du ix st fo sd se own f2 s2 hI fun a' w' h' => hK.out a' w' h'.s fun _ => W3110 a' w' h') ?_
    refine AllReadyH.cons (show opsM[14]? = some (opsM[14]'(by decide)) by rfl) (fun K hK => m_make3 k fn pc r0 r1 r2 r3 r4 r5 r6 r7 pa di du ix st fo sd se own f2 s2 hI fun a' w' h' => hK.out a' w' h'.s fun _ => W3101 a' w' h') ?_
    exact AllReadyH.nil
  have W0111 : ∀ a w, InvM w0 (frV k fn pc r0 r1 r2 r3 r4 r5 r6 r7 pa di du ix st fo sd se) (frV 1 f2 0 r0 r1 r2 r3 r4 r5 r6 r7 own false false 0 0 0 0 0) (frV 3 f2 0 r0 r1 r2 r3 r4 r5 r6 r7 own false false 0 0 0 0 s2) (frV 2 fn 0 r0 r1 r2 r3 r4 r5 r6 r7 own false false sd 0 0 0 0) own f2 s2 pb wb false false false true true true a w → wpAnyH Try.prog .any opsM Q (SM (frV k fn pc r0 r1 r2 r3 r4 r5 r6 r7 pa di du ix st fo sd se) pb) 6 #[true, true, true, false, true, true, true, true, false, true, true, false, true, true, true, false, false, false] a w := by
    intro a w hI
    refine wpAnyH_ready (rs := [3]) (by kernel_rfl) (by simp) ?_
    refine AllReadyH.cons (show opsM[3]? = some (opsM[3]'(by decide)) by rfl) (fun K hK => m_child k fn pc r0 r1 r2 r3 r4 r5 r6 r7 pa di du ix st fo sd se own f2 s2 hI fun a' w' h' => hK.out a' w' h'.s fun _ => W1111 a' w' h') ?_
    exact AllReadyH.nil
  have W1011 : ∀ a w, InvM w0 (frV k fn pc r0 r1 r2 r3 r4 r5 r6 r7 pa di du ix st fo sd se) (frV 1 f2 0 r0 r1 r2 r3 r4 r5 r6 r7 own false false 0 0 0 0 0) (frV 3 f2 0 r0 r1 r2 r3 r4 r5 r6 r7 own false false 0 0 0 0 s2) (frV 2 fn 0 r0 r1 r2 r3 r4 r5 r6 r7 own false false sd 0 0 0 0) own f2 s2 pb wb true false false false true true a w → wpAnyH Try.prog .any opsM Q (SM (frV k fn pc r0 r1 r2 r3 r4 r5 r6 r7 pa di du ix st fo sd se) pb) 6 #[true, true, true, true, true, true, true, true, false, true, true, false, false, true, true, false, false, false] a w := by
    intro a w hI
    refine wpAnyH_ready (rs := [8, 12]) (by kernel_rfl) (by simp) ?_
    refine AllReadyH.cons (show opsM[8]? = some (opsM[8]'(by decide)) by rfl) (fun K hK => m_loop k fn pc r0 r1 r2 r3 r4 r5 r6 r7 pa di du ix st fo sd se own f2 s2 hI fun a' w' h' => hK.out a' w' h'.s fun _ => W2011 a' w' h') ?_
    refine AllReadyH.cons (show opsM[12]? = some (opsM[12]'(by decide)) by rfl) (fun K hK => m_make1 k fn pc r0 r1 r2 r3 r4 r5 r6 r7 pa di du ix st fo sd se own f2 s2 hI fun a' w' h' => hK.out a' w' h'.s fun _ => W1111 a' w' h') ?_
    exact AllReadyH.nil
  have W1101 : ∀ a w, InvM w0 (frV k fn pc r0 r1 r2 r3 r4 r5 r6 r7 pa di du ix st fo sd se) (frV 1 f2 0 r0 r1 r2 r3 r4 r5 r6 r7 own false false 0 0 0 0 0) (frV 3 f2 0 r0 r1 r2 r3 r4 r5 r6 r7 own false false 0 0 0 0 s2) (frV 2 fn 0 r0 r1 r2 r3 r4 r5 r6 r7 own false false sd 0 0 0 0) own f2 s2 pb wb true false false true false true a w → wpAnyH Try.prog .any opsM Q (SM (frV k fn pc r0 r1 r2 r3 r4 r5 r6 r7 pa di du ix st fo sd se) pb) 6 #[true, true, true, true, true, true, true, true, false, true, true, false, true, false, true, false, false, false] a w := by
    intro a w hI
    refine wpAnyH_ready (rs := [8, 13]) (by kernel_rfl) (by simp) ?_
    refine AllReadyH.cons (show opsM[8]? = some (opsM[8]'(by decide)) by rfl) (fun K hK => m_loop k fn pc r0 r1 r2 r3 r4 r5 r6 r7 pa di du ix st fo sd se own f2 s2 hI fun a' w' h' => hK.out a' w' h'.s fun _ => W2101 a' w' h') ?_
    refine AllReadyH.cons (show opsM[13]? = some (opsM[13]'(by decide)) by rfl) (fun K hK => m_make2 k fn pc r0 r1 r2 r3 r4 r5 r6 r7 pa di du ix st fo sd se own f2 s2 hI fun a' w' h' => hK.out a' w' h'.s fun _ => W1111 a' w' h') ?_
    exact AllReadyH.nil
  have W1110 : ∀ a w, InvM w0 (frV k fn pc r0 r1 r2 r3 r4 r5 r6 r7 pa di du ix st fo sd se) (frV 1 f2 0 r0 r1 r2 r3 r4 r5 r6 r7 own false false 0 0 0 0 0) (frV 3 f2 0 r0 r1 r2 r3 r4 r5 r6 r7 own false false 0 0 0 0 s2) (frV 2 fn 0 r0 r1 r2 r3 r4 r5 r6 r7 own false false sd 0 0 0 0) own f2 s2 pb wb true false false true true false a w → wpAnyH Try.prog .any opsM Q (SM (frV k fn pc r0 r1 r2 r3 r4 r5 r6 r7 pa di du ix st fo sd se) pb) 6 #[true, true, true, true, true, true, true, true, false, true, true, false, true, true, false, false, false, false] a w := by
    intro a w hI
    refine wpAnyH_ready (rs := [8, 14]) (by kernel_rfl) (by simp) ?_
    refine AllReadyH.cons (show opsM[8]? = some (opsM[8]'(by decide)) by rfl) (fun K hK => m_loop k fn pc r0 r1 r2 r3 r4 r5 r6 r7 pa di du ix st fo sd se own f2 s2 hI fun a' w' h' => hK.out a' w' h'.s fun _ => W2110 a' w' h') ?_
    refine AllReadyH.cons (show opsM[14]? = some (opsM[14]'(by decide)) by rfl) (fun K hK => m_make3 k fn pc r0 r1 r2 r3 r4 r5 r6 r7 pa di du ix st fo sd se own f2 s2 hI fun a' w' h' => hK.out a' w' h'.s fun _ => W1111 a' w' h') ?_
    exact AllReadyH.nil
  have W2001 : ∀ a w, InvM w0 (frV k fn pc r0 r1 r2 r3 r4 r5 r6 r7 pa di du ix st fo sd se) (frV 1 f2 0 r0 r1 r2 r3 r4 r5 r6 r7 own false false 0 0 0 0 0) (frV 3 f2 0 r0 r1 r2 r3 r4 r5 r6 r7 own false false 0 0 0 0 s2) (frV 2 fn 0 r0 r1 r2 r3 r4 r5 r6 r7 own false false sd 0 0 0 0) own f2 s2 pb wb true true false false false true a w → wpAnyH Try.prog .any opsM Q (SM (frV k fn pc r0 r1 r2 r3 r4 r5 r6 r7 pa di du ix st fo sd se) pb) 6 #[true, true, true, true, true, true, true, true, true, true, true, false, false, false, true, false, false, false] a w := by
    intro a w hI
    refine wpAnyH_ready (rs := [11, 12, 13]) (by kernel_rfl) (by simp) ?_
    refine AllReadyH.cons (show opsM[11]? = some (opsM[11]'(by decide)) by rfl) (fun K hK => m_iter k fn pc r0 r1 r2 r3 r4 r5 r6 r7 pa di du ix st fo sd se own f2 s2 hI fun a' w' h' => hK.out a' w' h'.s fun _ => W3001 a' w' h') ?_
    refine AllReadyH.cons (show opsM[12]? = some (opsM[12]'(by decide)) by rfl) (fun K hK => m_make1 k fn pc r0 r1 r2 r3 r4 r5 r6 r7 pa di du ix st fo sd se own f2 s2 hI fun a' w' h' => hK.out a' w' h'.s fun _ => W2101 a' w' h') ?_
    refine AllReadyH.cons (show opsM[13]? = some (opsM[13]'(by decide)) by rfl) (fun K hK => m_make2 k fn pc r0 r1 r2 r3 r4 r5 r6 r7 pa di du ix st fo sd se own f2 s2 hI fun a' w' h' => hK.out a' w' h'.s fun _ => W2011 a' w' h') ?_
    exact AllReadyH.nil
  have W2010 : ∀ a w, InvM w0 (frV k fn pc r0 r1 r2 r3 r4 r5 r6 r7 pa di du ix st fo sd se) (frV 1 f2 0 r0 r1 r2 r3 r4 r5 r6 r7 own false false 0 0 0 0 0) (frV 3 f2 0 r0 r1 r2 r3 r4 r5 r6 r7 own false false 0 0 0 0 s2) (frV 2 fn 0 r0 r1 r2 r3 r4 r5 r6 r7 own false false sd 0 0 0 0) own f2 s2 pb wb true true false false true false a w → wpAnyH Try.prog .any opsM Q (SM (frV k fn pc r0 r1 r2 r3 r4 r5 r6 r7 pa di du ix st fo sd se) pb) 6 #[true, true, true, true, true, true, true, true, true, true, true, false, false, true, false, false, false, false] a w := by
    intro a w hI
    refine wpAnyH_ready (rs := [11, 12, 14]) (by kernel_rfl) (by simp) ?_
    refine AllReadyH.cons (show opsM[11]? = some (opsM[11]'(by decide)) by rfl) (fun K hK => m_iter k fn pc r0 r1 r2 r3 r4 r5 r6 r7 pa di du ix st fo sd se own f2 s2 hI fun a' w' h' => hK.out a' w' h'.s fun _ => W3010 a' w' h') ?_
    refine AllReadyH.cons (show opsM[12]? = some (opsM[12]'(by decide)) by rfl) (fun K hK => m_make1 k fn pc r0 r1 r2 r3 r4 r5 r6 r7 pa di du ix st fo sd se own f2 s2 hI fun a' w' h' => hK.out a' w' h'.s fun _ => W2110 a' w' h') ?_
    refine AllReadyH.cons (show opsM[14]? = some (opsM[14]'(by decide)) by rfl) (fun K hK => m_make3 k fn pc r0 r1 r2 r3 r4 r5 r6 r7 pa di du ix st fo sd se own f2 s2 hI fun a' w' h' => hK.out a' w' h'.s fun _ => W2011 a' w' h') ?_
    exact AllReadyH.nil
  have W2100 : ∀ a w, InvM w0 (frV k fn pc r0 r1 r2 r3 r4 r5 r6 r7 pa di du ix st fo sd se) (frV 1 f2 0 r0 r1 r2 r3 r4 r5 r6 r7 own false false 0 0 0 0 0) (frV 3 f2 0 r0 r1 r2 r3 r4 r5 r6 r7 own false false 0 0 0 0 s2) (frV 2 fn 0 r0 r1 r2 r3 r4 r5 r6 r7 own false false sd 0 0 0 0) own f2 s2 pb wb true true false true false false a w → wpAnyH Try.prog .any opsM Q (SM (frV k fn pc r0 r1 r2 r3 r4 r5 r6 r7 pa di du ix st fo sd se) pb) 6 #[true, true, true, true, true, true, true, true, true, true, true, false, true, false, false, false, false, false] a w := by
    intro a w hI
    refine wpAnyH_ready (rs := [11, 13, 14]) (by kernel_rfl) (by simp) ?_
    refine AllReadyH.cons (show opsM[11]? = some (opsM[11]'(by decide)) by rfl) (fun K hK => m_iter k fn pc r0 r1 r2 r3 r4 r5 r6 r7 pa di du ix st fo sd se own f2 s2 hI fun a' w' h' => hK.out a' w' h'.s fun _ => W3100 a' w' h') ?_
    refine AllReadyH.cons (show opsM[13]? = some (opsM[13]'(by decide)) by rfl) (fun K hK => m_make2 k fn pc r0 r1 r2 r3 r4 r5 r6 r7 pa di du ix st fo sd se own f2 s2 hI fun a' w' h' => hK.out a' w' h'.s fun _ => W2110 a' w' h') ?_
    refine AllReadyH.cons (show opsM[14]? = some (opsM[14]'(by decide)) by rfl) (fun K hK => m_make3 k fn pc r0 r1 r2 r3 r4 r5 r6 r7 pa di du ix st fo sd se own f2 s2 hI fun a' w' h' => hK.out a' w' h'.s fun _ => W2101 a' w' h') ?_
    exact AllReadyH.nil
  have W3000 : ∀ a w, InvM w0 (frV k fn pc r0 r1 r2 r3 r4 r5 r6 r7 pa di du ix st fo sd se) (frV 1 f2 0 r0 r1 r2 r3 r4 r5 r6 r7 own false false 0 0 0 0 0) (frV 3 f2 0 r0 r1 r2 r3 r4 r5 r6 r7 own false false 0 0 0 0 s2) (frV 2 fn 0 r0 r1 r2 r3 r4 r5 r6 r7 own false false sd 0 0 0 0) own f2 s2 pb wb true true true false false false a w → wpAnyH Try.prog .any opsM Q (SM (frV k fn pc r0 r1 r2 r3 r4 r5 r6 r7 pa di du ix st fo sd se) pb) 6 #[true, true, true, true, true, true, true, true, true, true, true, true, false, false, false, false, false, false] a w := by
    intro a w hI
    refine wpAnyH_ready (rs := [12, 13, 14]) (by kernel_rfl) (by simp) ?_
    refine AllReadyH.cons (show opsM[12]? = some (opsM[12]'(by decide)) by rfl) (fun K hK => m_make1 k fn pc r0 r1 r2 r3 r4 r5 r6 r7 pa di du ix st fo sd se own f2 s2 hI fun a' w' h' => hK.out a' w' h'.s fun _ => W3100 a' w' h') ?_
    refine AllReadyH.cons (show opsM[13]? = some (opsM[13]'(by decide)) by rfl) (fun K hK => m_make2 k fn pc r0 r1 r2 r3 r4 r5 r6 r7 pa di du ix st fo sd se own f2 s2 hI fun a' w' h' => hK.out a' w' h'.s fun _ => W3010 a' w' h') ?_
    refine AllReadyH.cons (show opsM[14]? = some (opsM[14]'(by decide)) by rfl) (fun K hK => m_make3 k fn pc r0 r1 r2 r3 r4 r5 r6 r7 pa di du ix st fo sd se own f2 s2 hI fun a' w' h' => hK.out a' w' h'.s fun _ => W3001 a' w' h') ?_
    exact AllReadyH.nil
  have W0011 : ∀ a w, InvM w0 (frV k fn pc r0 r1 r2 r3 r4 r5 r6 r7 pa di du ix st fo sd se) (frV 1 f2 0 r0 r1 r2 r3 r4 r5 r6 r7 own false false 0 0 0 0 0) (frV 3 f2 0 r0 r1 r2 r3 r4 r5 r6 r7 own false false 0 0 0 0 s2) (frV 2 fn 0 r0 r1 r2 r3 r4 r5 r6 r7 own false false sd 0 0 0 0) own f2 s2 pb wb false false false false true true a w → wpAnyH Try.prog .any opsM Q (SM (frV k fn pc r0 r1 r2 r3 r4 r5 r6 r7 pa di du ix st fo sd se) pb) 7 #[true, true, true, false, true, true, true, true, false, true, true, false, false, true, true, false, false, false] a w := by
    intro a w hI
    refine wpAnyH_ready (rs := [3, 12]) (by kernel_rfl) (by simp) ?_
    refine AllReadyH.cons (show opsM[3]? = some (opsM[3]'(by decide)) by rfl) (fun K hK => m_child k fn pc r0 r1 r2 r3 r4 r5 r6 r7 pa di du ix st fo sd se own f2 s2 hI fun a' w' h' => hK.out a' w' h'.s fun _ => W1011 a' w' h') ?_
    refine AllReadyH.cons (show opsM[12]? = some (opsM[12]'(by decide)) by rfl) (fun K hK => m_make1 k fn pc r0 r1 r2 r3 r4 r5 r6 r7 pa di du ix st fo sd se own f2 s2 hI fun a' w' h' => hK.out a' w' h'.s fun _ => W0111 a' w' h') ?_
    exact AllReadyH.nil
  have W0101 : ∀ a w, InvM w0 (frV k fn pc r0 r1 r2 r3 r4 r5 r6 r7 pa di du ix st fo sd se) (frV 1 f2 0 r0 r1 r2 r3 r4 r5 r6 r7 own false false 0 0 0 0 0) (frV 3 f2 0 r0 r1 r2 r3 r4 r5 r6 r7 own false false 0 0 0 0 s2) (frV 2 fn 0 r0 r1 r2 r3 r4 r5 r6 r7 own false false sd 0 0 0 0) own f2 s2 pb wb false false false true false true a w → wpAnyH Try.prog .any opsM Q (SM (frV k fn pc r0 r1 r2 r3 r4 r5 r6 r7 pa di du ix st fo sd se) pb) 7 #[true, true, true, false, true, true, true, true, false, true, true, false, true, false, true, false, false, false] a w := by
    intro a w hI
    refine wpAnyH_ready (rs := [3, 13]) (by kernel_rfl) (by simp) ?_
    refine AllReadyH.cons (show opsM[3]? = some (opsM[3]'(by decide)) by rfl) (fun K hK => m_child k fn pc r0 r1 r2 r3 r4 r5 r6 r7 pa di du ix st fo sd se own f2 s2 hI fun a' w' h' => hK.out a' w' h'.s fun _ => W1101 a' w' h') ?_
    refine AllReadyH.cons (show opsM[13]? = some (opsM[13]'(by decide)) by rfl) (fun K hK => m_make2 k fn pc r0 r1 r2 r3 r4 r5 r6 r7 pa di du ix st fo sd se own f2 s2 hI fun a' w' h' => hK.out a' w' h'.s fun _ => W0111 a' w' h') ?_
    exact AllReadyH.nil
  have W0110 : ∀ a w, InvM w0 (frV k fn pc r0 r1 r2 r3 r4 r5 r6 r7 pa di du ix st fo sd se) (frV 1 f2 0 r0 r1 r2 r3 r4 r5 r6 r7 own false false 0 0 0 0 0) (frV 3 f2 0 r0 r1 r2 r3 r4 r5 r6 r7 own false false 0 0 0 0 s2) (frV 2 fn 0 r0 r1 r2 r3 r4 r5 r6 r7 own false false sd 0 0 0 0) own f2 s2 pb wb false false false true true false a w → wpAnyH Try.prog .any opsM Q (SM (frV k fn pc r0 r1 r2 r3 r4 r5 r6 r7 pa di du ix st fo sd se) pb) 7 #[true, true, true, false, true, true, true, true, false, true, true, false, true, true, false, false, false, false] a w := by
    intro a w hI
    refine wpAnyH_ready (rs := [3, 14]) (by kernel_rfl) (by simp) ?_
    refine AllReadyH.cons (show opsM[3]? = some (opsM[3]'(by decide)) by rfl) (fun K hK => m_child k fn pc r0 r1 r2 r3 r4 r5 r6 r7 pa di du ix st fo sd se own f2 s2 hI fun a' w' h' => hK.out a' w' h'.s fun _ => W1110 a' w' h') ?_
    refine AllReadyH.cons (show opsM[14]? = some (opsM[14]'(by decide)) by rfl) (fun K hK => m_make3 k fn pc r0 r1 r2 r3 r4 r5 r6 r7 pa di du ix st fo sd se own f2 s2 hI fun a' w' h' => hK.out a' w' h'.s fun _ => W0111 a' w' h') ?_
    exact AllReadyH.nil
  have W1001 : ∀ a w, InvM w0 (frV k fn pc r0 r1 r2 r3 r4 r5 r6 r7 pa di du ix st fo sd se) (frV 1 f2 0 r0 r1 r2 r3 r4 r5 r6 r7 own false false 0 0 0 0 0) (frV 3 f2 0 r0 r1 r2 r3 r4 r5 r6 r7 own false false 0 0 0 0 s2) (frV 2 fn 0 r0 r1 r2 r3 r4 r5 r6 r7 own false false sd 0 0 0 0) own f2 s2 pb wb true false false false false true a w → wpAnyH Try.prog .any opsM Q (SM (frV k fn pc r0 r1 r2 r3 r4 r5 r6 r7 pa di du ix st fo sd se) pb) 7 #[true, true, true, true, true, true, true, true, false, true, true, false, false, false, true, false, false, false] a w := by
    intro a w hI
    refine wpAnyH_ready (rs := [8, 12, 13]) (by kernel_rfl) (by simp) ?_
    refine AllReadyH.cons (show opsM[8]? = some (opsM[8]'(by decide)) by rfl) (fun K hK => m_loop k fn pc r0 r1 r2 r3 r4 r5 r6 r7 pa di du ix st fo sd se own f2 s2 hI fun a' w' h' => hK.out a' w' h'.s fun _ => W2001 a' w' h') ?_
    refine AllReadyH.cons (show opsM[12]? = some (opsM[12]'(by decide)) by rfl) (fun K hK => m_make1 k fn pc r0 r1 r2 r3 r4 r5 r6 r7 pa di du ix st fo sd se own f2 s2 hI fun a' w' h' => hK.out a' w' h'.s fun _ => W1101 a' w' h') ?_
    refine AllReadyH.cons (show opsM[13]? = some (opsM[13]'(by decide)) by rfl) (fun K hK => m_make2 k fn pc r0 r1 r2 r3 r4 r5 r6 r7 pa di du ix st fo sd se own f2 s2 hI fun a' w' h' => hK.out a' w' h'.s fun _ => W1011 a' w' h') ?_
    exact AllReadyH.nil
  have W1010 : ∀ a w, InvM w0 (frV k fn pc r0 r1 r2 r3 r4 r5 r6 r7 pa di du ix st fo sd se) (frV 1 f2 0 r0 r1 r2 r3 r4 r5 r6 r7 own false false 0 0 0 0 0) (frV 3 f2 0 r0 r1 r2 r3 r4 r5 r6 r7 own false false 0 0 0 0 s2) (frV 2 fn 0 r0 r1 r2 r3 r4 r5 r6 r7 own false false sd 0 0 0 0) own f2 s2 pb wb true false false false true false a w → wpAnyH Try.prog .any opsM Q (SM (frV k fn pc r0 r1 r2 r3 r4 r5 r6 r7 pa di du ix st fo sd se) pb) 7 #[true, true, true, true, true, true, true, true, false, true, true, false, false, true, false, false, false, false] a w := by
    intro a w hI
    refine wpAnyH_ready (rs := [8, 12, 14]) (by kernel_rfl) (by simp) ?_
    refine AllReadyH.cons (show opsM[8]? = some (opsM[8]'(by decide)) by rfl) (fun K hK => m_loop k fn pc r0 r1 r2 r3 r4 r5 r6 r7 pa di du ix st fo sd se own f2 s2 hI fun a' w' h' => hK.out a' w' h'.s fun _ => W2010 a' w' h') ?_
    refine AllReadyH.cons (show opsM[12]? = some (opsM[12]'(by decide)) by rfl) (fun K hK => m_make1 k fn pc r0 r1 r2 r3 r4 r5 r6 r7 pa di du ix st fo sd se own f2 s2 hI fun a' w' h' => hK.out a' w' h'.s fun _ => W1110 a' w' h') ?_
    refine AllReadyH.cons (show opsM[14]? = some (opsM[14]'(by decide)) by rfl) (fun K hK => m_make3 k fn pc r0 r1 r2 r3 r4 r5 r6 r7 pa di du ix st fo sd se own f2 s2 hI fun a' w' h' => hK.out a' w' h'.s fun _ => W1011 a' w' h') ?_
    exact AllReadyH.nil
  have W1100 : ∀ a w, InvM w0 (frV k fn pc r0 r1 r2 r3 r4 r5 r6 r7 pa di du ix st fo sd se) (frV 1 f2 0 r0 r1 r2 r3 r4 r5 r6 r7 own false false 0 0 0 0 0) (frV 3 f2 0 r0 r1 r2 r3 r4 r5 r6 r7 own false false 0 0 0 0 s2) (frV 2 fn 0 r0 r1 r2 r3 r4 r5 r6 r7 own false false sd 0 0 0 0) own f2 s2 pb wb true false false true false false a w → wpAnyH Try.prog .any opsM Q (SM (frV k fn pc r0 r1 r2 r3 r4 r5 r6 r7 pa di du ix st fo sd se) pb) 7 #[true, true, true, true, true, true, true, true, false, true, true, false, true, false, false, false, false, false] a w := by
    intro a w hI
    refine wpAnyH_ready (rs := [8, 13, 14]) (by kernel_rfl) (by simp) ?_
    refine AllReadyH.cons (show opsM[8]? = some (opsM[8]'(by decide)) by rfl) (fun K hK => m_loop k fn pc r0 r1 r2 r3 r4 r5 r6 r7 pa di du ix st fo sd se own f2 s2 hI fun a' w' h' => hK.out a' w' h'.s fun _ => W2100 a' w' h') ?_
    refine AllReadyH.cons (show opsM[13]? = some (opsM[13]'(by decide)) by rfl) (fun K hK => m_make2 k fn pc r0 r1 r2 r3 r4 r5 r6 r7 pa di du ix st fo sd se own f2 s2 hI fun a' w' h' => hK.out a' w' h'.s fun _ => W1110 a' w' h') ?_
    refine AllReadyH.cons (show opsM[14]? = some (opsM[14]'(by decide)) by rfl) (fun K hK => m_make3 k fn pc r0 r1 r2 r3 r4 r5 r6 r7 pa di du ix st fo sd se own f2 s2 hI fun a' w' h' => hK.out a' w' h'.s fun _ => W1101 a' w' h') ?_
    exact AllReadyH.nil
  have W2000 : ∀ a w, InvM w0 (frV k fn pc r0 r1 r2 r3 r4 r5 r6 r7 pa di du ix st fo sd se) (frV 1 f2 0 r0 r1 r2 r3 r4 r5 r6 r7 own false false 0 0 0 0 0) (frV 3 f2 0 r0 r1 r2 r3 r4 r5 r6 r7 own false false 0 0 0 0 s2) (frV 2 fn 0 r0 r1 r2 r3 r4 r5 r6 r7 own false false sd 0 0 0 0) own f2 s2 pb wb true true false false false false a w → wpAnyH Try.prog .any opsM Q (SM (frV k fn pc r0 r1 r2 r3 r4 r5 r6 r7 pa di du ix st fo sd se) pb) 7 #[true, true, true, true, true, true, true, true, true, true, true, false, false, false, false, false, false, false] a w := by
    intro a w hI
    refine wpAnyH_ready (rs := [11, 12, 13, 14]) (by kernel_rfl) (by simp) ?_
    refine AllReadyH.cons (show opsM[11]? = some (opsM[11]'(by decide)) by rfl) (fun K hK => m_iter k fn pc r0 r1 r2 r3 r4 r5 r6 r7 pa di du ix st fo sd se own f2 s2 hI fun a' w' h' => hK.out a' w' h'.s fun _ => W3000 a' w' h') ?_
    refine AllReadyH.cons (show opsM[12]? = some (opsM[12]'(by decide)) by rfl) (fun K hK => m_make1 k fn pc r0 r1 r2 r3 r4 r5 r6 r7 pa di du ix st fo sd se own f2 s2 hI fun a' w' h' => hK.out a' w' h'.s fun _ => W2100 a' w' h') ?_
    refine AllReadyH.cons (show opsM[13]? = some (opsM[13]'(by decide)) by rfl) (fun K hK => m_make2 k fn pc r0 r1 r2 r3 r4 r5 r6 r7 pa di du ix st fo sd se own f2 s2 hI fun a' w' h' => hK.out a' w' h'.s fun _ => W2010 a' w' h') ?_
    refine AllReadyH.cons (show opsM[14]? = some (opsM[14]'(by decide)) by rfl) (fun K hK => m_make3 k fn pc r0 r1 r2 r3 r4 r5 r6 r7 pa di du ix st fo sd se own f2 s2 hI fun a' w' h' => hK.out a' w' h'.s fun _ => W2001 a' w' h') ?_
    exact AllReadyH.nil
  have W0001 : ∀ a w, InvM w0 (frV k fn pc r0 r1 r2 r3 r4 r5 r6 r7 pa di du ix st fo sd se) (frV 1 f2 0 r0 r1 r2 r3 r4 r5 r6 r7 own false false 0 0 0 0 0) (frV 3 f2 0 r0 r1 r2 r3 r4 r5 r6 r7 own false false 0 0 0 0 s2) (frV 2 fn 0 r0 r1 r2 r3 r4 r5 r6 r7 own false false sd 0 0 0 0) own f2 s2 pb wb false false false false false true a w → wpAnyH Try.prog .any opsM Q (SM (frV k fn pc r0 r1 r2 r3 r4 r5 r6 r7 pa di du ix st fo sd se) pb) 8 #[true, true, true, false, true, true, true, true, false, true, true, false, false, false, true, false, false, false] a w := by
    intro a w hI
    refine wpAnyH_ready (rs := [3, 12, 13]) (by kernel_rfl) (by simp) ?_
    refine AllReadyH.cons (show opsM[3]? = some (opsM[3]'(by decide)) by rfl) (fun K hK => m_child k fn pc r0 r1 r2 r3 r4 r5 r6 r7 pa di du ix st fo sd se own f2 s2 hI fun a' w' h' => hK.out a' w' h'.s fun _ => W1001 a' w' h') ?_
    refine AllReadyH.cons (show opsM[12]? = some (opsM[12]'(by decide)) by rfl) (fun K hK => m_make1 k fn pc r0 r1 r2 r3 r4 r5 r6 r7 pa di du ix st fo sd se own f2 s2 hI fun a' w' h' => hK.out a' w' h'.s fun _ => W0101 a' w' h') ?_
    refine AllReadyH.cons (show opsM[13]? = some (opsM[13]'(by decide)) by rfl) (fun K hK => m_make2 k fn pc r0 r1 r2 r3 r4 r5 r6 r7 pa di du ix st fo sd se own f2 s2 hI fun a' w' h' => hK.out a' w' h'.s fun _ => W0011 a' w' h') ?_
    exact AllReadyH.nil
  have W0010 : ∀ a w, InvM w0 (frV k fn pc r0 r1 r2 r3 r4 r5 r6 r7 pa di du ix st fo sd se) (frV 1 f2 0 r0 r1 r2 r3 r4 r5 r6 r7 own false false 0 0 0 0 0) (frV 3 f2 0 r0 r1 r2 r3 r4 r5 r6 r7 own false false 0 0 0 0 s2) (frV 2 fn 0 r0 r1 r2 r3 r4 r5 r6 r7 own false false sd 0 0 0 0) own f2 s2 pb wb false false false false true false a w → wpAnyH Try.prog .any opsM Q (SM (frV k fn pc r0 r1 r2 r3 r4 r5 r6 r7 pa di du ix st fo sd se) pb) 8 #[true, true, true, false, true, true, true, true, false, true, true, false, false, true, false, false, false, false] a w := by
    intro a w hI
    refine wpAnyH_ready (rs := [3, 12, 14]) (by kernel_rfl) (by simp) ?_
    refine AllReadyH.cons (show opsM[3]? = some (opsM[3]'(by decide)) by rfl) (fun K hK => m_child k fn pc r0 r1 r2 r3 r4 r5 r6 r7 pa di du ix st fo sd se own f2 s2 hI fun a' w' h' => hK.out a' w' h'.s fun _ => W1010 a' w' h') ?_
    refine AllReadyH.cons (show opsM[12]? = some (opsM[12]'(by decide)) by rfl) (fun K hK => m_make1 k fn pc r0 r1 r2 r3 r4 r5 r6 r7 pa di du ix st fo sd se own f2 s2 hI fun a' w' h' => hK.out a' w' h'.s fun _ => W0110 a' w' h') ?_
    refine AllReadyH.cons (show opsM[14]? = some (opsM[14]'(by decide)) by rfl) (fun K hK => m_make3 k fn pc r0 r1 r2 r3 r4 r5 r6 r7 pa di du ix st fo sd se own f2 s2 hI fun a' w' h' => hK.out a' w' h'.s fun _ => W0011 a' w' h') ?_
    exact AllReadyH.nil
  have W0100 : ∀ a w, InvM w0 (frV k fn pc r0 r1 r2 r3 r4 r5 r6 r7 pa di du ix st fo sd se) (frV 1 f2 0 r0 r1 r2 r3 r4 r5 r6 r7 own false false 0 0 0 0 0) (frV 3 f2 0 r0 r1 r2 r3 r4 r5 r6 r7 own false false 0 0 0 0 s2) (frV 2 fn 0 r0 r1 r2 r3 r4 r5 r6 r7 own false false sd 0 0 0 0) own f2 s2 pb wb false false false true false false a w → wpAnyH Try.prog .any opsM Q (SM (frV k fn pc r0 r1 r2 r3 r4 r5 r6 r7 pa di du ix st fo sd se) pb) 8 #[true, true, true, false, true, true, true, true, false, true, true, false, true, false, false, false, false, false] a w := by
    intro a w hI
    refine wpAnyH_ready (rs := [3, 13, 14]) (by kernel_rfl) (by simp) ?_
    refine AllReadyH.cons (show opsM[3]? = some (opsM[3]'(by decide)) by rfl) (fun K hK => m_child k fn pc r0 r1 r2 r3 r4 r5 r6 r7 pa di du ix st fo sd se own f2 s2 hI fun a' w' h' => hK.out a' w' h'.s fun _ => W1100 a' w' h') ?_
    refine AllReadyH.cons (show opsM[13]? = some (opsM[13]'(by decide)) by rfl) (fun K hK => m_make2 k fn pc r0 r1 r2 r3 r4 r5 r6 r7 pa di du ix st fo sd se own f2 s2 hI fun a' w' h' => hK.out a' w' h'.s fun _ => W0110 a' w' h') ?_
    refine AllReadyH.cons (show opsM[14]? = some (opsM[14]'(by decide)) by rfl) (fun K hK => m_make3 k fn pc r0 r1 r2 r3 r4 r5 r6 r7 pa di du ix st fo sd se own f2 s2 hI fun a' w' h' => hK.out a' w' h'.s fun _ => W0101 a' w' h') ?_
    exact AllReadyH.nil
  have W1000 : ∀ a w, InvM w0 (frV k fn pc r0 r1 r2 r3 r4 r5 r6 r7 pa di du ix st fo sd se) (frV 1 f2 0 r0 r1 r2 r3 r4 r5 r6 r7 own false false 0 0 0 0 0) (frV 3 f2 0 r0 r1 r2 r3 r4 r5 r6 r7 own false false 0 0 0 0 s2) (frV 2 fn 0 r0 r1 r2 r3 r4 r5 r6 r7 own false false sd 0 0 0 0) own f2 s2 pb wb true false false false false false a w → wpAnyH Try.prog .any opsM Q (SM (frV k fn pc r0 r1 r2 r3 r4 r5 r6 r7 pa di du ix st fo sd se) pb) 8 #[true, true, true, true, true, true, true, true, false, true, true, false, false, false, false, false, false, false] a w := by
    intro a w hI
    refine wpAnyH_ready (rs := [8, 12, 13, 14]) (by kernel_rfl) (by simp) ?_
    refine AllReadyH.cons (show opsM[8]? = some (opsM[8]'(by decide)) by rfl) (fun K hK => m_loop k fn pc r0 r1 r2 r3 r4 r5 r6 r7 pa di du ix st fo sd se own f2 s2 hI fun a' w' h' => hK.out a' w' h'.s fun _ => W2000 a' w' h') ?_
    refine AllReadyH.cons (show opsM[12]? = some (opsM[12]'(by decide)) by rfl) (fun K hK => m_make1 k fn pc r0 r1 r2 r3 r4 r5 r6 r7 pa di du ix st fo sd se own f2 s2 hI fun a' w' h' => hK.out a' w' h'.s fun _ => W1100 a' w' h') ?_
    refine AllReadyH.cons (show opsM[13]? = some (opsM[13]'(by decide)) by rfl) (fun K hK => m_make2 k fn pc r0 r1 r2 r3 r4 r5 r6 r7 pa di du ix st fo sd se own f2 s2 hI fun a' w' h' => hK.out a' w' h'.s fun _ => W1010 a' w' h') ?_
    refine AllReadyH.cons (show opsM[14]? = some (opsM[14]'(by decide)) by rfl) (fun K hK => m_make3 k fn pc r0 r1 r2 r3 r4 r5 r6 r7 pa di du ix st fo sd se own f2 s2 hI fun a' w' h' => hK.out a' w' h'.s fun _ => W1001 a' w' h') ?_
    exact AllReadyH.nil
  have W0000 : ∀ a w, InvM w0 (frV k fn pc r0 r1 r2 r3 r4 r5 r6 r7 pa di du ix st fo sd se) (frV 1 f2 0 r0 r1 r2 r3 r4 r5 r6 r7 own false false 0 0 0 0 0) (frV 3 f2 0 r0 r1 r2 r3 r4 r5 r6 r7 own false false 0 0 0 0 s2) (frV 2 fn 0 r0 r1 r2 r3 r4 r5 r6 r7 own false false sd 0 0 0 0) own f2 s2 pb wb false false false false false false a w → wpAnyH Try.prog .any opsM Q (SM (frV k fn pc r0 r1 r2 r3 r4 r5 r6 r7 pa di du ix st fo sd se) pb) 9 #[true, true, true, false, true, true, true, true, false, true, true, false, false, false, false, false, false, false] a w := by
    intro a w hI
    refine wpAnyH_ready (rs := [3, 12, 13, 14]) (by kernel_rfl) (by simp) ?_
    refine AllReadyH.cons (show opsM[3]? = some (opsM[3]'(by decide)) by rfl) (fun K hK => m_child k fn pc r0 r1 r2 r3 r4 r5 r6 r7 pa di du ix st fo sd se own f2 s2 hI fun a' w' h' => hK.out a' w' h'.s fun _ => W1000 a' w' h') ?_
    refine AllReadyH.cons (show opsM[12]? = some (opsM[12]'(by decide)) by rfl) (fun K hK => m_make1 k fn pc r0 r1 r2 r3 r4 r5 r6 r7 pa di du ix st fo sd se own f2 s2 hI fun a' w' h' => hK.out a' w' h'.s fun _ => W0100 a' w' h') ?_
    refine AllReadyH.cons (show opsM[13]? = some (opsM[13]'(by decide)) by rfl) (fun K hK => m_make2 k fn pc r0 r1 r2 r3 r4 r5 r6 r7 pa di du ix st fo sd se own f2 s2 hI fun a' w' h' => hK.out a' w' h'.s fun _ => W0010 a' w' h') ?_
    refine AllReadyH.cons (show opsM[14]? = some (opsM[14]'(by decide)) by rfl) (fun K hK => m_make3 k fn pc r0 r1 r2 r3 r4 r5 r6 r7 pa di du ix st fo sd se own f2 s2 hI fun a' w' h' => hK.out a' w' h'.s fun _ => W0001 a' w' h') ?_
    exact AllReadyH.nil
  exact W0000
theorem fmakes_core (w : World) : Calls Try.prog 10 #[.agg (frV k fn pc r0 r1 r2 r3 r4 r5 r6 r7 pa di du ix st fo sd se), .int .i64 own, .int .i64 f2, .int .i64 s2] w fun e w' => e = .returned (.bool true) ∧ Below w.heap.size w w' := by
  obtain ⟨d0, hd1, hd2⟩ := Option.map_eq_some_iff.1 Try.rowFrame
  obtain ⟨d1, hd3, hd4⟩ := Option.map_eq_some_iff.1 Try.rowRegs
  have hsz := Try.sizeFrame
  have hsz1 := Try.sizeRegs
  have hO := (Own.nil (Below.refl _ w)).box (frV k fn pc r0 r1 r2 r3 r4 r5 r6 r7 pa di du ix st fo sd se) 65
  go_enter Try.func10, Try.ntmps10
  go_wp2_with fail
  go_at_call 43
  refine (works16_any _).mono ?_
  rintro e w1 ⟨rfl, hb1⟩
  have hO1 := hO.grow hb1
  generalize w.alloc (.cells (frV k fn pc r0 r1 r2 r3 r4 r5 r6 r7 pa di du ix st fo sd se) 65) = u at *
  generalize hpb : w.heap.size = pb at hO1 ⊢
  clear hpb hO hb1
  go_upto_region 3 with fail
  have hO2 : Own w (w1.alloc (.cells zeroF 65)) [cellsA w1.heap.size zeroF 65, cellsA pb (frV k fn pc r0 r1 r2 r3 r4 r5 r6 r7 pa di du ix st fo sd se) 65] := (hO1.box zeroF 65).sel [1, 0] (by decide)
  have ht := cells_there hO2 (n := 19) rfl
  have hO3 := hO2.csets (frV k fn pc r0 r1 r2 r3 r4 r5 r6 r7 pa di du ix st fo sd se).toList 0 zeroF _
  rw [show setsA zeroF 0 (frV k fn pc r0 r1 r2 r3 r4 r5 r6 r7 pa di du ix st fo sd se).toList = frV k fn pc r0 r1 r2 r3 r4 r5 r6 r7 pa di du ix st fo sd se by kernel_rfl] at hO3
  refine wp_region_lit ?_
  refine wpList_load_row rfl 65 (.tmp 4) rfl pb rfl 65 (frV k fn pc r0 r1 r2 r3 r4 r5 r6 r7 pa di du ix st fo sd se) (0, 0) d0 (hO1.at 0 rfl) hd1 (by cases d0 <;> exact hd2) hsz ?_
  refine wpList_run rfl (.pointer (some ⟨w1.heap.size, 0, none⟩)) (w' := w1.alloc (.cells zeroF 65)) (by kernel_rfl) ?_
  refine wpList_store_mid rfl 65 (.tmp 9) (.tmp 15) rfl w1.heap.size 0 (frV k fn pc r0 r1 r2 r3 r4 r5 r6 r7 pa di du ix st fo sd se) rfl rfl ht hsz (by simp [frV, Value.oneCell']) ?_
  refine wpList_nil ?_
  generalize (w1.alloc (.cells zeroF 65)).setCells w1.heap.size 0 (frV k fn pc r0 r1 r2 r3 r4 r5 r6 r7 pa di du ix st fo sd se).toList = w2 at *
  generalize w1.heap.size = wb at *
  clear hO1 hO2 ht
  simp only [Act.put, List.setIfInBounds_toArray, List.set_cons_zero, List.set_cons_succ]
  go_upto_region 4 with fail
  have hS0 : (SM (frV k fn pc r0 r1 r2 r3 r4 r5 r6 r7 pa di du ix st fo sd se) pb) w2.drew := own_range (hO3.drewN 1)
  refine lin_start (S := (SM (frV k fn pc r0 r1 r2 r3 r4 r5 r6 r7 pa di du ix st fo sd se) pb)) rfl 18 rfl hS0 ?_
  simp only [numbered, Nat.zero_add, Nat.reduceAdd]
  refine lin_take (v := .agg (frV k fn pc r0 r1 r2 r3 r4 r5 r6 r7 pa di du ix st fo sd se)) (by kernel_rfl) (by kernel_rfl) (fun _ _ _ h => h) (yieldsIf_load_mid (P := Try.prog) (S := (SM (frV k fn pc r0 r1 r2 r3 r4 r5 r6 r7 pa di du ix st fo sd se) pb)) rfl 65 (.tmp 4) rfl pb 0 rfl (frV k fn pc r0 r1 r2 r3 r4 r5 r6 r7 pa di du ix st fo sd se).toList d0 (fun w h => h) hd1 hd2 hsz) hS0 ?_; simp only [Act.put, List.setIfInBounds_toArray, List.set_cons_zero, List.set_cons_succ]
  refine lin_take (v := ?_) (by kernel_rfl) (by kernel_rfl) (fun _ _ _ h => h) (Or.inl ⟨by rfl, ?_⟩) hS0 ?_; (rotate_left; (intro wS hSw; clear hSw; go_simp; (try with_reducible rfl)); rotate_left); simp only [Act.put, List.setIfInBounds_toArray, List.set_cons_zero, List.set_cons_succ]
  refine lin_take (v := ?_) (by kernel_rfl) (by kernel_rfl) (fun _ _ _ h => h) (Or.inl ⟨by rfl, ?_⟩) hS0 ?_; (rotate_left; (intro wS hSw; clear hSw; go_simp; (try with_reducible rfl)); rotate_left); simp only [Act.put, List.setIfInBounds_toArray, List.set_cons_zero, List.set_cons_succ]
  refine lin_rot ?_; simp only [List.cons_append, List.nil_append]
  refine lin_take (v := .agg (frV k fn pc r0 r1 r2 r3 r4 r5 r6 r7 pa di du ix st fo sd se)) (by kernel_rfl) (by kernel_rfl) (fun _ _ _ h => h) (yieldsIf_load_mid (P := Try.prog) (S := (SM (frV k fn pc r0 r1 r2 r3 r4 r5 r6 r7 pa di du ix st fo sd se) pb)) rfl 65 (.tmp 4) rfl pb 0 rfl (frV k fn pc r0 r1 r2 r3 r4 r5 r6 r7 pa di du ix st fo sd se).toList d0 (fun w h => h) hd1 hd2 hsz) hS0 ?_; simp only [Act.put, List.setIfInBounds_toArray, List.set_cons_zero, List.set_cons_succ]
  refine lin_take (v := ?_) (by kernel_rfl) (by kernel_rfl) (fun _ _ _ h => h) (Or.inl ⟨by rfl, ?_⟩) hS0 ?_; (rotate_left; (intro wS hSw; clear hSw; go_simp; (try with_reducible rfl)); rotate_left); simp only [Act.put, List.setIfInBounds_toArray, List.set_cons_zero, List.set_cons_succ]
  refine lin_take (v := ?_) (by kernel_rfl) (by kernel_rfl) (fun _ _ _ h => h) (Or.inl ⟨by rfl, ?_⟩) hS0 ?_; (rotate_left; (intro wS hSw; clear hSw; go_simp; (try with_reducible rfl)); rotate_left); simp only [Act.put, List.setIfInBounds_toArray, List.set_cons_zero, List.set_cons_succ]
  refine lin_take (v := ?_) (by kernel_rfl) (by kernel_rfl) (fun _ _ _ h => h) (Or.inl ⟨by rfl, ?_⟩) hS0 ?_; (rotate_left; (intro wS hSw; clear hSw; go_simp; (try with_reducible rfl)); rotate_left); simp only [Act.put, List.setIfInBounds_toArray, List.set_cons_zero, List.set_cons_succ]
  refine lin_rot ?_; simp only [List.cons_append, List.nil_append]
  refine lin_take (v := .agg (frV k fn pc r0 r1 r2 r3 r4 r5 r6 r7 pa di du ix st fo sd se)) (by kernel_rfl) (by kernel_rfl) (fun _ _ _ h => h) (yieldsIf_load_mid (P := Try.prog) (S := (SM (frV k fn pc r0 r1 r2 r3 r4 r5 r6 r7 pa di du ix st fo sd se) pb)) rfl 65 (.tmp 4) rfl pb 0 rfl (frV k fn pc r0 r1 r2 r3 r4 r5 r6 r7 pa di du ix st fo sd se).toList d0 (fun w h => h) hd1 hd2 hsz) hS0 ?_; simp only [Act.put, List.setIfInBounds_toArray, List.set_cons_zero, List.set_cons_succ]
  refine lin_take (v := ?_) (by kernel_rfl) (by kernel_rfl) (fun _ _ _ h => h) (Or.inl ⟨by rfl, ?_⟩) hS0 ?_; (rotate_left; (intro wS hSw; clear hSw; go_simp; (try with_reducible rfl)); rotate_left); simp only [Act.put, List.setIfInBounds_toArray, List.set_cons_zero, List.set_cons_succ]
  refine lin_rot ?_; simp only [List.cons_append, List.nil_append]
  refine lin_rot ?_; simp only [List.cons_append, List.nil_append]
  refine lin_rot ?_; simp only [List.cons_append, List.nil_append]
  refine lin_rot ?_; simp only [List.cons_append, List.nil_append]
  refine lin_rot ?_; simp only [List.cons_append, List.nil_append]
  refine lin_rot ?_; simp only [List.cons_append, List.nil_append]
  refine lin_rot ?_; simp only [List.cons_append, List.nil_append]
  intro hd
  refine m_nodes k fn pc r0 r1 r2 r3 r4 r5 r6 r7 pa di du ix st fo sd se own f2 s2 (w0 := w) (wb := wb) ?_ _ _ ⟨0, 0, 0, by kernel_rfl, hO3.drewN 1⟩
  clear hd hS0 hO3
  intro a w5 hI
  obtain ⟨b1, b2, b3, rfl, hO5⟩ := hI
  replace hO5 : Own w w5 [cellsA wb (frV k fn pc r0 r1 r2 r3 r4 r5 r6 r7 pa di du ix st fo sd se) 65, cellsA pb (frV k fn pc r0 r1 r2 r3 r4 r5 r6 r7 pa di du ix st fo sd se) 65, cellsA b1 zeroF 65, cellsA b2 zeroF 65, cellsA b3 zeroF 65] := hO5
  refine to_lin (listed := [true, true, true, true, true, true, true, true, true, true, true, true, true, true, true, false, false, false]) (rest := [(15, opsM[15]'(by decide)), (16, opsM[16]'(by decide)), (17, opsM[17]'(by decide))]) rfl (by intro p hp; simp only [List.mem_cons, List.not_mem_nil, or_false] at hp; rcases hp with rfl | rfl | rfl <;> rfl) ?_
  · skip
    have hO6 := hO5.sel [2, 0, 1, 3, 4] (by decide)
    replace hO6 : Own w w5 [cellsA b1 zeroF 65, cellsA wb (frV k fn pc r0 r1 r2 r3 r4 r5 r6 r7 pa di du ix st fo sd se) 65, cellsA pb (frV k fn pc r0 r1 r2 r3 r4 r5 r6 r7 pa di du ix st fo sd se) 65, cellsA b2 zeroF 65, cellsA b3 zeroF 65] := hO6
    have ht := cells_there hO6 (n := 19) rfl
    have hO6 := hO6.csets (frV 1 f2 0 r0 r1 r2 r3 r4 r5 r6 r7 own false false 0 0 0 0 0).toList 0 zeroF _
    rw [show setsA zeroF 0 (frV 1 f2 0 r0 r1 r2 r3 r4 r5 r6 r7 own false false 0 0 0 0 0).toList = frV 1 f2 0 r0 r1 r2 r3 r4 r5 r6 r7 own false false 0 0 0 0 0 by kernel_rfl] at hO6
    refine lin_sole (by kernel_rfl) (fun K hK => ?_)
    rw [if_pos (by rfl)]
    refine wp_store_mid 65 (.tmp 10) (.tmp 19) rfl b1 0 (frV 1 f2 0 r0 r1 r2 r3 r4 r5 r6 r7 own false false 0 0 0 0 0) rfl rfl ht hsz (by simp [frV, Value.oneCell']) ?_
    refine hK.out _ _ (own_range (pb := pb) (hO6.sel [1, 2] (by decide))) (fun _ => ?_)
    clear hK ht
    generalize w5.setCells b1 0 (frV 1 f2 0 r0 r1 r2 r3 r4 r5 r6 r7 own false false 0 0 0 0 0).toList = w5 at *
    have hO7 := hO6.sel [3, 1, 2, 0, 4] (by decide)
    replace hO7 : Own w w5 [cellsA b2 zeroF 65, cellsA wb (frV k fn pc r0 r1 r2 r3 r4 r5 r6 r7 pa di du ix st fo sd se) 65, cellsA pb (frV k fn pc r0 r1 r2 r3 r4 r5 r6 r7 pa di du ix st fo sd se) 65, cellsA b1 (frV 1 f2 0 r0 r1 r2 r3 r4 r5 r6 r7 own false false 0 0 0 0 0) 65, cellsA b3 zeroF 65] := hO7
    have ht := cells_there hO7 (n := 19) rfl
    have hO7 := hO7.csets (frV 3 f2 0 r0 r1 r2 r3 r4 r5 r6 r7 own false false 0 0 0 0 s2).toList 0 zeroF _
    rw [show setsA zeroF 0 (frV 3 f2 0 r0 r1 r2 r3 r4 r5 r6 r7 own false false 0 0 0 0 s2).toList = frV 3 f2 0 r0 r1 r2 r3 r4 r5 r6 r7 own false false 0 0 0 0 s2 by kernel_rfl] at hO7
    refine lin_sole (by kernel_rfl) (fun K hK => ?_)
    rw [if_pos (by rfl)]
    refine wp_store_mid 65 (.tmp 11) (.tmp 24) rfl b2 0 (frV 3 f2 0 r0 r1 r2 r3 r4 r5 r6 r7 own false false 0 0 0 0 s2) rfl rfl ht hsz (by simp [frV, Value.oneCell']) ?_
    refine hK.out _ _ (own_range (pb := pb) (hO7.sel [1, 2] (by decide))) (fun _ => ?_)
    clear hK ht
    generalize w5.setCells b2 0 (frV 3 f2 0 r0 r1 r2 r3 r4 r5 r6 r7 own false false 0 0 0 0 s2).toList = w5 at *
    have hO8 := hO7.sel [4, 1, 2, 3, 0] (by decide)
    replace hO8 : Own w w5 [cellsA b3 zeroF 65, cellsA wb (frV k fn pc r0 r1 r2 r3 r4 r5 r6 r7 pa di du ix st fo sd se) 65, cellsA pb (frV k fn pc r0 r1 r2 r3 r4 r5 r6 r7 pa di du ix st fo sd se) 65, cellsA b1 (frV 1 f2 0 r0 r1 r2 r3 r4 r5 r6 r7 own false false 0 0 0 0 0) 65, cellsA b2 (frV 3 f2 0 r0 r1 r2 r3 r4 r5 r6 r7 own false false 0 0 0 0 s2) 65] := hO8
    have ht := cells_there hO8 (n := 19) rfl
    have hO8 := hO8.csets (frV 2 fn 0 r0 r1 r2 r3 r4 r5 r6 r7 own false false sd 0 0 0 0).toList 0 zeroF _
    rw [show setsA zeroF 0 (frV 2 fn 0 r0 r1 r2 r3 r4 r5 r6 r7 own false false sd 0 0 0 0).toList = frV 2 fn 0 r0 r1 r2 r3 r4 r5 r6 r7 own false false sd 0 0 0 0 by kernel_rfl] at hO8
    refine lin_sole (by kernel_rfl) (fun K hK => ?_)
    rw [if_pos (by rfl)]
    refine wp_store_mid 65 (.tmp 12) (.tmp 27) rfl b3 0 (frV 2 fn 0 r0 r1 r2 r3 r4 r5 r6 r7 own false false sd 0 0 0 0) rfl rfl ht hsz (by simp [frV, Value.oneCell']) ?_
    refine hK.out _ _ (own_range (pb := pb) (hO8.sel [1, 2] (by decide))) (fun _ => ?_)
    clear hK ht
    generalize w5.setCells b3 0 (frV 2 fn 0 r0 r1 r2 r3 r4 r5 r6 r7 own false false sd 0 0 0 0).toList = w5 at *
    refine lin_done (by kernel_rfl) ?_
    show Exit.then _ _ _ ⟨#[.agg (frV k fn pc r0 r1 r2 r3 r4 r5 r6 r7 pa di du ix st fo sd se), .int .i64 own, .int .i64 f2, .int .i64 s2, .pointer (some ⟨pb, 0, none⟩), undef, undef, undef, .bool false, .pointer (some ⟨wb, 0, none⟩), .pointer (some ⟨b1, 0, none⟩), .pointer (some ⟨b2, 0, none⟩), .pointer (some ⟨b3, 0, none⟩), .bool true, .bool false, .agg (frV k fn pc r0 r1 r2 r3 r4 r5 r6 r7 pa di du ix st fo sd se), .agg (frV k fn pc r0 r1 r2 r3 r4 r5 r6 r7 pa di du ix st fo sd se), .int .i64 own, .int .i64 f2, .agg (frV 1 f2 0 r0 r1 r2 r3 r4 r5 r6 r7 own false false 0 0 0 0 0), .agg (frV k fn pc r0 r1 r2 r3 r4 r5 r6 r7 pa di du ix st fo sd se), .int .i64 own, .int .i64 f2, .int .i64 s2, .agg (frV 3 f2 0 r0 r1 r2 r3 r4 r5 r6 r7 own false false 0 0 0 0 s2), .agg (frV k fn pc r0 r1 r2 r3 r4 r5 r6 r7 pa di du ix st fo sd se), .int .i64 own, .agg (frV 2 fn 0 r0 r1 r2 r3 r4 r5 r6 r7 own false false sd 0 0 0 0), undef, undef, undef, undef, undef, undef, undef, undef, undef, undef, undef, undef, undef, undef, undef, undef, undef, undef, undef, undef, undef, undef, undef, undef, undef, undef, undef, undef, undef, undef, undef, undef, undef, undef, undef, undef, undef, undef, undef], []⟩ w5
    go_upto_region 5 with fail
    refine wp_region_lit ?_
    refine wpList_call rfl (f := 47) (args := #[]) (by kernel_rfl) (root_any w5) fun w6 hb6 => ?_
    have hO9 := hO8.grow hb6
    clear hO5 hO6 hO7 hO8 hb6
    have f1 : w6.cell? ⟨pb, 1, none⟩ = some (.int .i64 fn) := (hO9.cget 2 rfl 1).1
    have f17 : w6.cell? ⟨pb, 17, none⟩ = some (.int .i64 sd) := (hO9.cget 2 rfl 17).1
    have hrg : w6.rangeAt pb 3 [.int .i64 r0, .int .i64 r1, .int .i64 r2, .int .i64 r3, .int .i64 r4, .int .i64 r5, .int .i64 r6, .int .i64 r7] := by
      intro j v hv
      have := (hO9.cget 2 rfl (3 + j)).1
      rw [this, ← hv]
      match j, hv with
      | 0, _ => rfl
      | 1, _ => rfl
      | 2, _ => rfl
      | 3, _ => rfl
      | 4, _ => rfl
      | 5, _ => rfl
      | 6, _ => rfl
      | 7, _ => rfl
      | n + 8, h => simp at h
    refine wpList_value_g (by rfl) (.agg rootV) (by kernel_rfl) ?_; simp only [Act.put, List.setIfInBounds_toArray, List.set_cons_zero, List.set_cons_succ]
    refine wpList_value_g (by rfl) (.bool true) (by clear hO9 hrg f1 f17; have hq : ∀ w, (Op.equalIn 10000 65 (.agg rootV) (.agg rootV)).run Try.prog w = .ok true w := fun w => eq_frame 1 0 0 0 0 0 0 0 0 0 0 0 false false 0 0 0 0 0 w; go_simp) ?_; simp only [Act.put, List.setIfInBounds_toArray, List.set_cons_zero, List.set_cons_succ]
    refine wpList_value_g (by rfl) (.bool true) (by kernel_rfl) ?_; simp only [Act.put, List.setIfInBounds_toArray, List.set_cons_zero, List.set_cons_succ]
    refine wpList_value_g (by rfl) (.agg (frV 1 f2 0 r0 r1 r2 r3 r4 r5 r6 r7 own false false 0 0 0 0 0)) (run_load_row' 65 (.tmp 10) rfl b1 rfl 65 (frV 1 f2 0 r0 r1 r2 r3 r4 r5 r6 r7 own false false 0 0 0 0 0) (0, 0) d0 (hO9.at 3 rfl) hd1 (by cases d0 <;> exact hd2) hsz) ?_; simp only [Act.put, List.setIfInBounds_toArray, List.set_cons_zero, List.set_cons_succ]
    refine wpList_value_g (by rfl) (.int .i64 f2) (by kernel_rfl) ?_; simp only [Act.put, List.setIfInBounds_toArray, List.set_cons_zero, List.set_cons_succ]
    refine wpList_value_g (by rfl) (.pointer (some ⟨pb, 3, none⟩)) (by kernel_rfl) ?_; simp only [Act.put, List.setIfInBounds_toArray, List.set_cons_zero, List.set_cons_succ]
    refine wpList_value_g (by rfl) (.agg (regV r0 r1 r2 r3 r4 r5 r6 r7)) (run_load_mid' 63 (.tmp 34) rfl pb 3 rfl _ d1 hrg hd3 hd4 hsz1) ?_; simp only [Act.put, List.setIfInBounds_toArray, List.set_cons_zero, List.set_cons_succ]
    refine wpList_value_g (by rfl) (.int .i64 own) (by kernel_rfl) ?_; simp only [Act.put, List.setIfInBounds_toArray, List.set_cons_zero, List.set_cons_succ]
    refine wpList_value_g (by rfl) (.agg (frV 1 f2 0 r0 r1 r2 r3 r4 r5 r6 r7 own false false 0 0 0 0 0)) (by kernel_rfl) ?_; simp only [Act.put, List.setIfInBounds_toArray, List.set_cons_zero, List.set_cons_succ]
    refine wpList_value_g (by rfl) (.bool true) (by clear hO9 hrg f1 f17; have hq := fun w => eq_frame 1 f2 0 r0 r1 r2 r3 r4 r5 r6 r7 own false false 0 0 0 0 0 w; go_simp) ?_; simp only [Act.put, List.setIfInBounds_toArray, List.set_cons_zero, List.set_cons_succ]
    refine wpList_value_g (by rfl) (.bool true) (by kernel_rfl) ?_; simp only [Act.put, List.setIfInBounds_toArray, List.set_cons_zero, List.set_cons_succ]
    refine wpList_value_g (by rfl) (.bool true) (by kernel_rfl) ?_; simp only [Act.put, List.setIfInBounds_toArray, List.set_cons_zero, List.set_cons_succ]
    refine wpList_value_g (by rfl) (.agg (frV 3 f2 0 r0 r1 r2 r3 r4 r5 r6 r7 own false false 0 0 0 0 s2)) (run_load_row' 65 (.tmp 11) rfl b2 rfl 65 (frV 3 f2 0 r0 r1 r2 r3 r4 r5 r6 r7 own false false 0 0 0 0 s2) (0, 0) d0 (hO9.at 4 rfl) hd1 (by cases d0 <;> exact hd2) hsz) ?_; simp only [Act.put, List.setIfInBounds_toArray, List.set_cons_zero, List.set_cons_succ]
    refine wpList_value_g (by rfl) (.int .i64 f2) (by kernel_rfl) ?_; simp only [Act.put, List.setIfInBounds_toArray, List.set_cons_zero, List.set_cons_succ]
    refine wpList_value_g (by rfl) (.pointer (some ⟨pb, 3, none⟩)) (by kernel_rfl) ?_; simp only [Act.put, List.setIfInBounds_toArray, List.set_cons_zero, List.set_cons_succ]
    refine wpList_value_g (by rfl) (.agg (regV r0 r1 r2 r3 r4 r5 r6 r7)) (run_load_mid' 63 (.tmp 43) rfl pb 3 rfl _ d1 hrg hd3 hd4 hsz1) ?_; simp only [Act.put, List.setIfInBounds_toArray, List.set_cons_zero, List.set_cons_succ]
    refine wpList_value_g (by rfl) (.int .i64 own) (by kernel_rfl) ?_; simp only [Act.put, List.setIfInBounds_toArray, List.set_cons_zero, List.set_cons_succ]
    refine wpList_value_g (by rfl) (.int .i64 s2) (by kernel_rfl) ?_; simp only [Act.put, List.setIfInBounds_toArray, List.set_cons_zero, List.set_cons_succ]
    refine wpList_value_g (by rfl) (.agg (frV 3 f2 0 r0 r1 r2 r3 r4 r5 r6 r7 own false false 0 0 0 0 s2)) (by kernel_rfl) ?_; simp only [Act.put, List.setIfInBounds_toArray, List.set_cons_zero, List.set_cons_succ]
    refine wpList_value_g (by rfl) (.bool true) (by clear hO9 hrg f1 f17; have hq := fun w => eq_frame 3 f2 0 r0 r1 r2 r3 r4 r5 r6 r7 own false false 0 0 0 0 s2 w; go_simp) ?_; simp only [Act.put, List.setIfInBounds_toArray, List.set_cons_zero, List.set_cons_succ]
    refine wpList_value_g (by rfl) (.bool true) (by kernel_rfl) ?_; simp only [Act.put, List.setIfInBounds_toArray, List.set_cons_zero, List.set_cons_succ]
    refine wpList_value_g (by rfl) (.bool true) (by kernel_rfl) ?_; simp only [Act.put, List.setIfInBounds_toArray, List.set_cons_zero, List.set_cons_succ]
    refine wpList_value_g (by rfl) (.agg (frV 2 fn 0 r0 r1 r2 r3 r4 r5 r6 r7 own false false sd 0 0 0 0)) (run_load_row' 65 (.tmp 12) rfl b3 rfl 65 (frV 2 fn 0 r0 r1 r2 r3 r4 r5 r6 r7 own false false sd 0 0 0 0) (0, 0) d0 (hO9.at 0 rfl) hd1 (by cases d0 <;> exact hd2) hsz) ?_; simp only [Act.put, List.setIfInBounds_toArray, List.set_cons_zero, List.set_cons_succ]
    refine wpList_value_g (by rfl) (.pointer (some ⟨pb, 1, none⟩)) (by kernel_rfl) ?_; simp only [Act.put, List.setIfInBounds_toArray, List.set_cons_zero, List.set_cons_succ]
    refine wpList_value_g (by rfl) (.int .i64 fn) (by clear hO9 hrg; go_simp) ?_; simp only [Act.put, List.setIfInBounds_toArray, List.set_cons_zero, List.set_cons_succ]
    refine wpList_value_g (by rfl) (.pointer (some ⟨pb, 3, none⟩)) (by kernel_rfl) ?_; simp only [Act.put, List.setIfInBounds_toArray, List.set_cons_zero, List.set_cons_succ]
    refine wpList_value_g (by rfl) (.agg (regV r0 r1 r2 r3 r4 r5 r6 r7)) (run_load_mid' 63 (.tmp 54) rfl pb 3 rfl _ d1 hrg hd3 hd4 hsz1) ?_; simp only [Act.put, List.setIfInBounds_toArray, List.set_cons_zero, List.set_cons_succ]
    refine wpList_value_g (by rfl) (.int .i64 own) (by kernel_rfl) ?_; simp only [Act.put, List.setIfInBounds_toArray, List.set_cons_zero, List.set_cons_succ]
    refine wpList_value_g (by rfl) (.pointer (some ⟨pb, 17, none⟩)) (by kernel_rfl) ?_; simp only [Act.put, List.setIfInBounds_toArray, List.set_cons_zero, List.set_cons_succ]
    refine wpList_value_g (by rfl) (.int .i64 sd) (by clear hO9 hrg; go_simp) ?_; simp only [Act.put, List.setIfInBounds_toArray, List.set_cons_zero, List.set_cons_succ]
    refine wpList_value_g (by rfl) (.agg (frV 2 fn 0 r0 r1 r2 r3 r4 r5 r6 r7 own false false sd 0 0 0 0)) (by kernel_rfl) ?_; simp only [Act.put, List.setIfInBounds_toArray, List.set_cons_zero, List.set_cons_succ]
    refine wpList_value_g (by rfl) (.bool true) (by clear hO9 hrg f1 f17; have hq := fun w => eq_frame 2 fn 0 r0 r1 r2 r3 r4 r5 r6 r7 own false false sd 0 0 0 0 w; go_simp) ?_; simp only [Act.put, List.setIfInBounds_toArray, List.set_cons_zero, List.set_cons_succ]
    refine wpList_value_g (by rfl) (.bool true) (by kernel_rfl) ?_; simp only [Act.put, List.setIfInBounds_toArray, List.set_cons_zero, List.set_cons_succ]
    refine wpList_value_g (by rfl) (.bool true) (by kernel_rfl) ?_; simp only [Act.put, List.setIfInBounds_toArray, List.set_cons_zero, List.set_cons_succ]
    refine wpList_value_g (by rfl) (.agg (frV k fn pc r0 r1 r2 r3 r4 r5 r6 r7 pa di du ix st fo sd se)) (run_load_row' 65 (.tmp 4) rfl pb rfl 65 (frV k fn pc r0 r1 r2 r3 r4 r5 r6 r7 pa di du ix st fo sd se) (0, 0) d0 (hO9.at 2 rfl) hd1 (by cases d0 <;> exact hd2) hsz) ?_; simp only [Act.put, List.setIfInBounds_toArray, List.set_cons_zero, List.set_cons_succ]
    refine wpList_value_g (by rfl) (.agg (frV k fn pc r0 r1 r2 r3 r4 r5 r6 r7 pa di du ix st fo sd se)) (run_load_row' 65 (.tmp 9) rfl wb rfl 65 (frV k fn pc r0 r1 r2 r3 r4 r5 r6 r7 pa di du ix st fo sd se) (0, 0) d0 (hO9.at 1 rfl) hd1 (by cases d0 <;> exact hd2) hsz) ?_; simp only [Act.put, List.setIfInBounds_toArray, List.set_cons_zero, List.set_cons_succ]
    refine wpList_value_g (by rfl) (.bool true) (by clear hO9 hrg f1 f17; have hq := fun w => eq_frame k fn pc r0 r1 r2 r3 r4 r5 r6 r7 pa di du ix st fo sd se w; go_simp) ?_; simp only [Act.put, List.setIfInBounds_toArray, List.set_cons_zero, List.set_cons_succ]
    refine wpList_value_g (by rfl) (.bool true) (by kernel_rfl) ?_; simp only [Act.put, List.setIfInBounds_toArray, List.set_cons_zero, List.set_cons_succ]
    refine wpList_value_g (by rfl) (.bool true) (by kernel_rfl) ?_; simp only [Act.put, List.setIfInBounds_toArray, List.set_cons_zero, List.set_cons_succ]
    refine wpList_nil ?_
    go_wp2
    go_ret
    exact ⟨rfl, hO9.below⟩
end
theorem Try.fieldsFrameL : fieldsOf Try.prog 65 = some [(3, 0), (3, 1), (3, 2), (63, 3), (3, 11), (4, 12), (4, 13), (3, 14), (3, 15), (3, 16), (3, 17), (3, 18)] := by kernel_rfl
theorem list19 {l : List Value} (h : l.length = 19) : ∃ c0 c1 c2 c3 c4 c5 c6 c7 c8 c9 c10 c11 c12 c13 c14 c15 c16 c17 c18, l = [c0, c1, c2, c3, c4, c5, c6, c7, c8, c9, c10, c11, c12, c13, c14, c15, c16, c17, c18] := by
  match l, h with
  | [c0, c1, c2, c3, c4, c5, c6, c7, c8, c9, c10, c11, c12, c13, c14, c15, c16, c17, c18], _ => exact ⟨c0, c1, c2, c3, c4, c5, c6, c7, c8, c9, c10, c11, c12, c13, c14, c15, c16, c17, c18, rfl⟩
theorem Arg.frame {w : World} {v : Value} (h : Arg Try.prog w 65 v) : ∃ (k fn pc r0 r1 r2 r3 r4 r5 r6 r7 pa : Int) (di du : Bool) (ix st fo sd se : Int), v = .agg (frV k fn pc r0 r1 r2 r3 r4 r5 r6 r7 pa di du ix st fo sd se) := by
  have hr := h.reads
  obtain ⟨h1, h2⟩ := hr.fields Try.fieldsFrameL
  rw [show Try.prog.cellsOf 65 = 19 by kernel_rfl] at h1
  obtain ⟨cs, rfl, hcs⟩ := agg_of h1 (by decide)
  obtain ⟨c0, c1, c2, c3, c4, c5, c6, c7, c8, c9, c10, c11, c12, c13, c14, c15, c16, c17, c18, hl⟩ := list19 h1
  have ei : Try.prog.cellsOf 3 = 1 := by kernel_rfl
  have eb : Try.prog.cellsOf 4 = 1 := by kernel_rfl
  have ea : Try.prog.cellsOf 63 = 8 := by kernel_rfl
  have hu : Try.prog.underlying 63 = some (.array 8 3) := by kernel_rfl
  have q0 := h2 0 _ _ rfl
  rw [ei, hl] at q0
  obtain ⟨k, e0, _⟩ := q0.int Try.underlying3
  simp at e0
  have q1 := h2 1 _ _ rfl
  rw [ei, hl] at q1
  obtain ⟨fn, e1, _⟩ := q1.int Try.underlying3
  simp at e1
  have q2 := h2 2 _ _ rfl
  rw [ei, hl] at q2
  obtain ⟨pc, e2, _⟩ := q2.int Try.underlying3
  simp at e2
  have q11 := h2 4 _ _ rfl
  rw [ei, hl] at q11
  obtain ⟨pa, e11, _⟩ := q11.int Try.underlying3
  simp at e11
  have q12 := h2 5 _ _ rfl
  rw [eb, hl] at q12
  obtain ⟨di, e12⟩ := q12.bool Try.underlying4
  simp at e12
  have q13 := h2 6 _ _ rfl
  rw [eb, hl] at q13
  obtain ⟨du, e13⟩ := q13.bool Try.underlying4
  simp at e13
  have q14 := h2 7 _ _ rfl
  rw [ei, hl] at q14
  obtain ⟨ix, e14, _⟩ := q14.int Try.underlying3
  simp at e14
  have q15 := h2 8 _ _ rfl
  rw [ei, hl] at q15
  obtain ⟨st, e15, _⟩ := q15.int Try.underlying3
  simp at e15
  have q16 := h2 9 _ _ rfl
  rw [ei, hl] at q16
  obtain ⟨fo, e16, _⟩ := q16.int Try.underlying3
  simp at e16
  have q17 := h2 10 _ _ rfl
  rw [ei, hl] at q17
  obtain ⟨sd, e17, _⟩ := q17.int Try.underlying3
  simp at e17
  have q18 := h2 11 _ _ rfl
  rw [ei, hl] at q18
  obtain ⟨se, e18, _⟩ := q18.int Try.underlying3
  simp at e18
  have qa := h2 3 _ _ rfl
  rw [ea, hl] at qa
  obtain ⟨_, qa⟩ := qa.array hu
  rw [ei] at qa
  obtain ⟨r0, e3, _⟩ := (qa 0 (by decide)).int Try.underlying3
  simp at e3
  obtain ⟨r1, e4, _⟩ := (qa 1 (by decide)).int Try.underlying3
  simp at e4
  obtain ⟨r2, e5, _⟩ := (qa 2 (by decide)).int Try.underlying3
  simp at e5
  obtain ⟨r3, e6, _⟩ := (qa 3 (by decide)).int Try.underlying3
  simp at e6
  obtain ⟨r4, e7, _⟩ := (qa 4 (by decide)).int Try.underlying3
  simp at e7
  obtain ⟨r5, e8, _⟩ := (qa 5 (by decide)).int Try.underlying3
  simp at e8
  obtain ⟨r6, e9, _⟩ := (qa 6 (by decide)).int Try.underlying3
  simp at e9
  obtain ⟨r7, e10, _⟩ := (qa 7 (by decide)).int Try.underlying3
  simp at e10
  refine ⟨k, fn, pc, r0, r1, r2, r3, r4, r5, r6, r7, pa, di, du, ix, st, fo, sd, se, ?_⟩
  have hcl : cs = #[c0, c1, c2, c3, c4, c5, c6, c7, c8, c9, c10, c11, c12, c13, c14, c15, c16, c17, c18] := Array.toList_inj.1 hl
  rw [hcl, e0, e1, e2, e3, e4, e5, e6, e7, e8, e9, e10, e11, e12, e13, e14, e15, e16, e17, e18]
  rfl
theorem walkFrameMakes (v0 v1 v2 v3 : Value) (w : World) (h0 : Arg Try.prog w 65 v0) (h1 : Arg Try.prog w 3 v1) (h2 : Arg Try.prog w 3 v2) (h3 : Arg Try.prog w 3 v3) :
    Calls Try.prog 10 #[v0, v1, v2, v3] w fun e w' => e = .returned (.bool true) ∧ Below w.heap.size w w' := by
  obtain ⟨k, fn, pc, r0, r1, r2, r3, r4, r5, r6, r7, pa, di, du, ix, st, fo, sd, se, rfl⟩ := h0.frame
  obtain ⟨own, rfl, _⟩ := h1.int Try.underlying3
  obtain ⟨f2, rfl, _⟩ := h2.int Try.underlying3
  obtain ⟨s2, rfl, _⟩ := h3.int Try.underlying3
  exact fmakes_core k fn pc r0 r1 r2 r3 r4 r5 r6 r7 pa di du ix st fo sd se own f2 s2 w
end Go.Proofs.Ytbadinmlnbabiaa
