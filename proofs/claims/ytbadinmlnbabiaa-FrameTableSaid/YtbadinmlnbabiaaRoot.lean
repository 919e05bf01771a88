/- frame.Root, and forebaylaw16.works. -/
import Derived.Test.YtbadinmlnbabiaaWorks16
import Derived.Deep.MidRow
set_option linter.unusedVariables false
set_option linter.unusedSimpArgs false
namespace Go.Proofs.Ytbadinmlnbabiaa
open Go.RowKit
set_option maxRecDepth 100000
set_option maxHeartbeats 8000000
def rootV : Array Value := #[.int .i64 1, .int .i64 0, .int .i64 0, .int .i64 0, .int .i64 0, .int .i64 0, .int .i64 0, .int .i64 0, .int .i64 0, .int .i64 0, .int .i64 0, .int .i64 0, .bool false, .bool false, .int .i64 0, .int .i64 0, .int .i64 0, .int .i64 0, .int .i64 0]
theorem wpList_build {P : Program} {ops : Array Oper} {rest : List Oper} {o : Oper} {a : Act} {w : World} {Q : Exit → Act → World → Prop} (hg : o.guard = none) (ty : TypeId) (parts : Array (Nat × Operand)) (ho : o.op = .build ty parts) (v : Value)
    (hrun : (Instr.build ty (parts.map fun x => (x.fst, a.eval x.snd))).run P w = .ok v w) (h : wpList P ops Q rest (a.put o.dst v) w) : wpList P ops Q (o :: rest) a w :=
  wpList_plain hg fun K hK => by
    unfold Oper.wp execOp
    simp only [ho]
    rw [Sem.run_bind, hrun]
    exact hK _ _ h
def setsA (cs : Array Value) (o : Nat) : List Value → Array Value
  | [] => cs
  | v :: r => setsA (cs.setIfInBounds o v) (o + 1) r
theorem Own.csets {w0 : World} {l : List Ast} {b : Nat} {t : TypeId} : ∀ (vs : List Value) (o : Nat) (cs : Array Value) (w : World), Own w0 w (cellsA b cs t :: l) → Own w0 (w.setCells b o vs) (cellsA b (setsA cs o vs) t :: l)
  | [], _, _, _, h => h
  | v :: r, o, cs, w, h => by
    rw [World.setCells]
    exact Own.csets r (o + 1) _ _ (h.cset 0 rfl o v)
def zeroF : Array Value := #[.int .i64 0, .int .i64 0, .int .i64 0, .int .i64 0, .int .i64 0, .int .i64 0, .int .i64 0, .int .i64 0, .int .i64 0, .int .i64 0, .int .i64 0, .int .i64 0, .bool false, .bool false, .int .i64 0, .int .i64 0, .int .i64 0, .int .i64 0, .int .i64 0]
theorem cells_there {w0 w : World} {l : List Ast} {b n : Nat} {cs : Array Value} {t : TypeId} (h : Own w0 w (cellsA b cs t :: l)) (hn : cs.size = n) : w.there b 0 n := by
  intro j hj
  have h1 := h.cget 0 rfl j
  have h2 : cs[j]? = some cs[j] := Array.getElem?_eq_getElem (by omega)
  rw [Nat.zero_add]
  exact ⟨by rw [h1.1, h2]; rfl, h1.2⟩
theorem root_any (w : World) : Calls Try.prog 47 #[] w fun e w' => e = .returned (.agg rootV) ∧ Below w.heap.size w w' := by
  obtain ⟨d0, hd1, hd2⟩ := Option.map_eq_some_iff.1 Try.rowFrame
  have hsz := Try.sizeFrame
  have hbd : ∀ w, (Instr.build 65 #[(0, .int .i64 1)]).run Try.prog w = .ok (.agg rootV) w := fun _ => by kernel_rfl
  have hO : Own w (w.alloc (.cells zeroF 65)) [cellsA w.heap.size zeroF 65] := (Own.nil (Below.refl _ w)).box zeroF 65
  have ht := cells_there hO (n := 19) rfl
  have hO2 := hO.csets rootV.toList 0 zeroF _
  rw [show setsA zeroF 0 rootV.toList = rootV by kernel_rfl] at hO2
  go_enter Try.func47, Try.ntmps47
  go_upto_region 1 with fail
  refine wp_region_lit ?_
  refine wpList_build rfl 65 #[(0, .const (.int .i64 1))] rfl (.agg rootV) (by simpa [Act.eval] using hbd _) ?_
  refine wpList_store_mid rfl 65 (.tmp 0) (.tmp 1) rfl w.heap.size 0 rootV rfl rfl ht hsz (by simp [rootV, Value.oneCell']) ?_
  refine wpList_nil ?_
  show Exit.then _ _ _ _ ((w.alloc (.cells zeroF 65)).setCells w.heap.size 0 rootV.toList)
  generalize (w.alloc (.cells zeroF 65)).setCells w.heap.size 0 rootV.toList = w2 at *
  generalize hg : w.heap.size = g at hO2 ⊢
  go_wp2
  exact bodyPost_ret (results_cell_row rfl _ _ _ _ _ _ d0 rfl (hO2.at 0 rfl) hd1 (by cases d0 <;> exact hd2) hsz) rfl ⟨rfl, hg ▸ hO2.below⟩
end Go.Proofs.Ytbadinmlnbabiaa
