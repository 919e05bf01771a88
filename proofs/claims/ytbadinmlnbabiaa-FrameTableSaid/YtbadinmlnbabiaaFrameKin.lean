/- frame.Frame.Child, Loop and Iter. -/
import Derived.Test.YtbadinmlnbabiaaRoot
set_option linter.unusedVariables false
set_option linter.unusedSimpArgs false
namespace Go.Proofs.Ytbadinmlnbabiaa
open Go.RowKit
set_option maxRecDepth 100000
set_option maxHeartbeats 8000000
theorem wpList_value {P : Program} {ops : Array Oper} {rest : List Oper} {o : Oper} {a : Act} {w : World} {Q : Exit → Act → World → Prop} (hg : o.guard = none) (v : Value)
    (hrun : (execOp a.eval o).run P w = .ok (.value v) w) (h : wpList P ops Q rest (a.put o.dst v) w) : wpList P ops Q (o :: rest) a w :=
  wpList_plain hg fun K hK => by
    unfold Oper.wp
    rw [hrun]
    exact hK _ _ h
/-- A frame's cells. -/
def frV (k fn pc r0 r1 r2 r3 r4 r5 r6 r7 pa : Int) (di du : Bool) (ix st fo sd se : Int) : Array Value := #[.int .i64 k, .int .i64 fn, .int .i64 pc, .int .i64 r0, .int .i64 r1, .int .i64 r2, .int .i64 r3, .int .i64 r4, .int .i64 r5, .int .i64 r6, .int .i64 r7, .int .i64 pa, .bool di, .bool du, .int .i64 ix, .int .i64 st, .int .i64 fo, .int .i64 sd, .int .i64 se]
def regV (r0 r1 r2 r3 r4 r5 r6 r7 : Int) : Array Value := #[.int .i64 r0, .int .i64 r1, .int .i64 r2, .int .i64 r3, .int .i64 r4, .int .i64 r5, .int .i64 r6, .int .i64 r7]
theorem Try.sizeRegs : (Try.prog.info? 63).map (·.size) = some 8 := by kernel_rfl
theorem Try.rowRegs : (Try.prog.underlying 63).map (·.isRow) = some true := by kernel_rfl
variable (k fn pc r0 r1 r2 r3 r4 r5 r6 r7 pa : Int) (di du : Bool) (ix st fo sd se own f2 s2 : Int)
theorem child_any (w : World) : Calls Try.prog 44 #[.agg (frV k fn pc r0 r1 r2 r3 r4 r5 r6 r7 pa di du ix st fo sd se), .int .i64 own, .int .i64 f2] w fun e w' => e = .returned (.agg (frV 1 f2 0 r0 r1 r2 r3 r4 r5 r6 r7 own false false 0 0 0 0 0)) ∧ Below w.heap.size w w' := by
  obtain ⟨d0, hd1, hd2⟩ := Option.map_eq_some_iff.1 Try.rowFrame
  obtain ⟨d1, hd3, hd4⟩ := Option.map_eq_some_iff.1 Try.rowRegs
  have hsz := Try.sizeFrame
  have hsz1 := Try.sizeRegs
  have hO := ((Own.nil (Below.refl _ w)).box (frV k fn pc r0 r1 r2 r3 r4 r5 r6 r7 pa di du ix st fo sd se) 65).box zeroF 65
  go_enter Try.func44, Try.ntmps44
  go_upto_region 1 with fail
  replace hO : Own w ((w.alloc (.cells (frV k fn pc r0 r1 r2 r3 r4 r5 r6 r7 pa di du ix st fo sd se) 65)).alloc (.cells zeroF 65)) [cellsA (w.heap.size + 1) zeroF 65, cellsA w.heap.size (frV k fn pc r0 r1 r2 r3 r4 r5 r6 r7 pa di du ix st fo sd se) 65] := by
    have := hO.sel [1, 0] (by decide)
    simpa using this
  refine wp_region_lit ?_
  show wpList _ _ _ _ _ ((w.alloc (.cells (frV k fn pc r0 r1 r2 r3 r4 r5 r6 r7 pa di du ix st fo sd se) 65)).alloc (.cells zeroF 65))
  generalize (w.alloc (.cells (frV k fn pc r0 r1 r2 r3 r4 r5 r6 r7 pa di du ix st fo sd se) 65)).alloc (.cells zeroF 65) = w1 at *
  generalize hob : w.heap.size + 1 = ob at *
  generalize hfb : w.heap.size = fb at hO ⊢
  have ht := cells_there hO (n := 19) rfl
  have hrg : w1.rangeAt fb 3 [.int .i64 r0, .int .i64 r1, .int .i64 r2, .int .i64 r3, .int .i64 r4, .int .i64 r5, .int .i64 r6, .int .i64 r7] := by
    intro j v hv
    have := (hO.cget 1 rfl (3 + j)).1
    rw [this, ← hv]
    match j, hv with
    | 0, _ => rfl
    | 1, _ => rfl
    | 2, _ => rfl
    | 3, _ => rfl
    | 4, _ => rfl
    | 5, _ => rfl
    | 6, _ => rfl
    | 7, _ => rfl
    | n + 8, h => simp at h
  have f1 : w1.cell? ⟨fb, 1, none⟩ = some (.int .i64 fn) := (hO.cget 1 rfl 1).1
  have f17 : w1.cell? ⟨fb, 17, none⟩ = some (.int .i64 sd) := (hO.cget 1 rfl 17).1
  have hO2 := hO.csets (frV 1 f2 0 r0 r1 r2 r3 r4 r5 r6 r7 own false false 0 0 0 0 0).toList 0 zeroF _
  rw [show setsA zeroF 0 (frV 1 f2 0 r0 r1 r2 r3 r4 r5 r6 r7 own false false 0 0 0 0 0).toList = frV 1 f2 0 r0 r1 r2 r3 r4 r5 r6 r7 own false false 0 0 0 0 0 by kernel_rfl] at hO2
  refine wpList_value rfl (.int .i64 f2) rfl ?_
  refine wpList_value rfl (.pointer (some ⟨fb, 3, none⟩)) (by kernel_rfl) ?_
  refine wpList_load_mid rfl 63 (.tmp 8) rfl fb 3 rfl _ d1 hrg hd3 hd4 hsz1 ?_
  refine wpList_value rfl (.int .i64 own) rfl ?_
  refine wpList_build rfl 65 #[(0, .const (.int .i64 1)), (1, .tmp 7), (3, .tmp 9), (4, .tmp 10)] rfl (.agg (frV 1 f2 0 r0 r1 r2 r3 r4 r5 r6 r7 own false false 0 0 0 0 0)) (by kernel_rfl) ?_
  refine wpList_store_mid rfl 65 (.tmp 6) (.tmp 11) rfl ob 0 (frV 1 f2 0 r0 r1 r2 r3 r4 r5 r6 r7 own false false 0 0 0 0 0) rfl rfl ht hsz (by simp [frV, Value.oneCell']) ?_
  refine wpList_nil ?_
  generalize w1.setCells ob 0 (frV 1 f2 0 r0 r1 r2 r3 r4 r5 r6 r7 own false false 0 0 0 0 0).toList = w2 at *
  go_wp2
  exact bodyPost_ret (results_cell_row rfl _ _ _ _ _ _ d0 rfl (hO2.at 0 rfl) hd1 (by cases d0 <;> exact hd2) hsz) rfl ⟨rfl, hfb ▸ hO2.below⟩
theorem loop_any (w : World) : Calls Try.prog 45 #[.agg (frV k fn pc r0 r1 r2 r3 r4 r5 r6 r7 pa di du ix st fo sd se), .int .i64 own, .int .i64 f2, .int .i64 s2] w fun e w' => e = .returned (.agg (frV 3 f2 0 r0 r1 r2 r3 r4 r5 r6 r7 own false false 0 0 0 0 s2)) ∧ Below w.heap.size w w' := by
  obtain ⟨d0, hd1, hd2⟩ := Option.map_eq_some_iff.1 Try.rowFrame
  obtain ⟨d1, hd3, hd4⟩ := Option.map_eq_some_iff.1 Try.rowRegs
  have hsz := Try.sizeFrame
  have hsz1 := Try.sizeRegs
  have hO := ((Own.nil (Below.refl _ w)).box (frV k fn pc r0 r1 r2 r3 r4 r5 r6 r7 pa di du ix st fo sd se) 65).box zeroF 65
  go_enter Try.func45, Try.ntmps45
  go_upto_region 1 with fail
  replace hO : Own w ((w.alloc (.cells (frV k fn pc r0 r1 r2 r3 r4 r5 r6 r7 pa di du ix st fo sd se) 65)).alloc (.cells zeroF 65)) [cellsA (w.heap.size + 1) zeroF 65, cellsA w.heap.size (frV k fn pc r0 r1 r2 r3 r4 r5 r6 r7 pa di du ix st fo sd se) 65] := by
    have := hO.sel [1, 0] (by decide)
    simpa using this
  refine wp_region_lit ?_
  show wpList _ _ _ _ _ ((w.alloc (.cells (frV k fn pc r0 r1 r2 r3 r4 r5 r6 r7 pa di du ix st fo sd se) 65)).alloc (.cells zeroF 65))
  generalize (w.alloc (.cells (frV k fn pc r0 r1 r2 r3 r4 r5 r6 r7 pa di du ix st fo sd se) 65)).alloc (.cells zeroF 65) = w1 at *
  generalize hob : w.heap.size + 1 = ob at *
  generalize hfb : w.heap.size = fb at hO ⊢
  have ht := cells_there hO (n := 19) rfl
  have hrg : w1.rangeAt fb 3 [.int .i64 r0, .int .i64 r1, .int .i64 r2, .int .i64 r3, .int .i64 r4, .int .i64 r5, .int .i64 r6, .int .i64 r7] := by
    intro j v hv
    have := (hO.cget 1 rfl (3 + j)).1
    rw [this, ← hv]
    match j, hv with
    | 0, _ => rfl
    | 1, _ => rfl
    | 2, _ => rfl
    | 3, _ => rfl
    | 4, _ => rfl
    | 5, _ => rfl
    | 6, _ => rfl
    | 7, _ => rfl
    | n + 8, h => simp at h
  have f1 : w1.cell? ⟨fb, 1, none⟩ = some (.int .i64 fn) := (hO.cget 1 rfl 1).1
  have f17 : w1.cell? ⟨fb, 17, none⟩ = some (.int .i64 sd) := (hO.cget 1 rfl 17).1
  have hO2 := hO.csets (frV 3 f2 0 r0 r1 r2 r3 r4 r5 r6 r7 own false false 0 0 0 0 s2).toList 0 zeroF _
  rw [show setsA zeroF 0 (frV 3 f2 0 r0 r1 r2 r3 r4 r5 r6 r7 own false false 0 0 0 0 s2).toList = frV 3 f2 0 r0 r1 r2 r3 r4 r5 r6 r7 own false false 0 0 0 0 s2 by kernel_rfl] at hO2
  refine wpList_value rfl (.int .i64 f2) rfl ?_
  refine wpList_value rfl (.pointer (some ⟨fb, 3, none⟩)) (by kernel_rfl) ?_
  refine wpList_load_mid rfl 63 (.tmp 10) rfl fb 3 rfl _ d1 hrg hd3 hd4 hsz1 ?_
  refine wpList_value rfl (.int .i64 own) rfl ?_
  refine wpList_value rfl (.int .i64 s2) rfl ?_
  refine wpList_build rfl 65 #[(0, .const (.int .i64 3)), (1, .tmp 9), (3, .tmp 11), (4, .tmp 12), (11, .tmp 13)] rfl (.agg (frV 3 f2 0 r0 r1 r2 r3 r4 r5 r6 r7 own false false 0 0 0 0 s2)) (by kernel_rfl) ?_
  refine wpList_store_mid rfl 65 (.tmp 8) (.tmp 14) rfl ob 0 (frV 3 f2 0 r0 r1 r2 r3 r4 r5 r6 r7 own false false 0 0 0 0 s2) rfl rfl ht hsz (by simp [frV, Value.oneCell']) ?_
  refine wpList_nil ?_
  generalize w1.setCells ob 0 (frV 3 f2 0 r0 r1 r2 r3 r4 r5 r6 r7 own false false 0 0 0 0 s2).toList = w2 at *
  go_wp2
  exact bodyPost_ret (results_cell_row rfl _ _ _ _ _ _ d0 rfl (hO2.at 0 rfl) hd1 (by cases d0 <;> exact hd2) hsz) rfl ⟨rfl, hfb ▸ hO2.below⟩
theorem iter_any (w : World) : Calls Try.prog 46 #[.agg (frV k fn pc r0 r1 r2 r3 r4 r5 r6 r7 pa di du ix st fo sd se), .int .i64 own] w fun e w' => e = .returned (.agg (frV 2 fn 0 r0 r1 r2 r3 r4 r5 r6 r7 own false false sd 0 0 0 0)) ∧ Below w.heap.size w w' := by
  obtain ⟨d0, hd1, hd2⟩ := Option.map_eq_some_iff.1 Try.rowFrame
  obtain ⟨d1, hd3, hd4⟩ := Option.map_eq_some_iff.1 Try.rowRegs
  have hsz := Try.sizeFrame
  have hsz1 := Try.sizeRegs
  have hO := ((Own.nil (Below.refl _ w)).box (frV k fn pc r0 r1 r2 r3 r4 r5 r6 r7 pa di du ix st fo sd se) 65).box zeroF 65
  go_enter Try.func46, Try.ntmps46
  go_upto_region 1 with fail
  replace hO : Own w ((w.alloc (.cells (frV k fn pc r0 r1 r2 r3 r4 r5 r6 r7 pa di du ix st fo sd se) 65)).alloc (.cells zeroF 65)) [cellsA (w.heap.size + 1) zeroF 65, cellsA w.heap.size (frV k fn pc r0 r1 r2 r3 r4 r5 r6 r7 pa di du ix st fo sd se) 65] := by
    have := hO.sel [1, 0] (by decide)
    simpa using this
  refine wp_region_lit ?_
  show wpList _ _ _ _ _ ((w.alloc (.cells (frV k fn pc r0 r1 r2 r3 r4 r5 r6 r7 pa di du ix st fo sd se) 65)).alloc (.cells zeroF 65))
  generalize (w.alloc (.cells (frV k fn pc r0 r1 r2 r3 r4 r5 r6 r7 pa di du ix st fo sd se) 65)).alloc (.cells zeroF 65) = w1 at *
  generalize hob : w.heap.size + 1 = ob at *
  generalize hfb : w.heap.size = fb at hO ⊢
  have ht := cells_there hO (n := 19) rfl
  have hrg : w1.rangeAt fb 3 [.int .i64 r0, .int .i64 r1, .int .i64 r2, .int .i64 r3, .int .i64 r4, .int .i64 r5, .int .i64 r6, .int .i64 r7] := by
    intro j v hv
    have := (hO.cget 1 rfl (3 + j)).1
    rw [this, ← hv]
    match j, hv with
    | 0, _ => rfl
    | 1, _ => rfl
    | 2, _ => rfl
    | 3, _ => rfl
    | 4, _ => rfl
    | 5, _ => rfl
    | 6, _ => rfl
    | 7, _ => rfl
    | n + 8, h => simp at h
  have f1 : w1.cell? ⟨fb, 1, none⟩ = some (.int .i64 fn) := (hO.cget 1 rfl 1).1
  have f17 : w1.cell? ⟨fb, 17, none⟩ = some (.int .i64 sd) := (hO.cget 1 rfl 17).1
  have hO2 := hO.csets (frV 2 fn 0 r0 r1 r2 r3 r4 r5 r6 r7 own false false sd 0 0 0 0).toList 0 zeroF _
  rw [show setsA zeroF 0 (frV 2 fn 0 r0 r1 r2 r3 r4 r5 r6 r7 own false false sd 0 0 0 0).toList = frV 2 fn 0 r0 r1 r2 r3 r4 r5 r6 r7 own false false sd 0 0 0 0 by kernel_rfl] at hO2
  refine wpList_value rfl (.pointer (some ⟨fb, 1, none⟩)) (by kernel_rfl) ?_
  simp only [Act.put, List.setIfInBounds_toArray, List.set_cons_zero, List.set_cons_succ]
  refine wpList_value rfl (.int .i64 fn) (by clear ht hrg hO hO2; go_simp) ?_
  refine wpList_value rfl (.pointer (some ⟨fb, 3, none⟩)) (by kernel_rfl) ?_
  refine wpList_load_mid rfl 63 (.tmp 7) rfl fb 3 rfl _ d1 hrg hd3 hd4 hsz1 ?_
  refine wpList_value rfl (.int .i64 own) rfl ?_
  refine wpList_value rfl (.pointer (some ⟨fb, 17, none⟩)) (by kernel_rfl) ?_
  simp only [Act.put, List.setIfInBounds_toArray, List.set_cons_zero, List.set_cons_succ]
  refine wpList_value rfl (.int .i64 sd) (by clear ht hrg hO hO2; go_simp) ?_
  refine wpList_build rfl 65 #[(0, .const (.int .i64 2)), (1, .tmp 6), (3, .tmp 8), (4, .tmp 9), (7, .tmp 11)] rfl (.agg (frV 2 fn 0 r0 r1 r2 r3 r4 r5 r6 r7 own false false sd 0 0 0 0)) (by kernel_rfl) ?_
  refine wpList_store_mid rfl 65 (.tmp 4) (.tmp 12) rfl ob 0 (frV 2 fn 0 r0 r1 r2 r3 r4 r5 r6 r7 own false false sd 0 0 0 0) rfl rfl ht hsz (by simp [frV, Value.oneCell']) ?_
  refine wpList_nil ?_
  generalize w1.setCells ob 0 (frV 2 fn 0 r0 r1 r2 r3 r4 r5 r6 r7 own false false sd 0 0 0 0).toList = w2 at *
  go_wp2
  exact bodyPost_ret (results_cell_row rfl _ _ _ _ _ _ d0 rfl (hO2.at 0 rfl) hd1 (by cases d0 <;> exact hd2) hsz) rfl ⟨rfl, hfb ▸ hO2.below⟩
end Go.Proofs.Ytbadinmlnbabiaa
