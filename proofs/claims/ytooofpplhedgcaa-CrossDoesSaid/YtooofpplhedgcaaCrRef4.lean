/- CrossDoes: the document's side: forebayref19.Step is stepC. -/
import Derived.Test.YtooofpplhedgcaaCrRef3
set_option linter.unusedVariables false
set_option linter.unusedSimpArgs false
namespace Go.Proofs.Ytooofpplhedgcaa
open Go.RowKit
set_option maxRecDepth 100000
set_option maxHeartbeats 2000000
theorem rcR0y {w0 w : World} {mo : Option Addr} {mc : Nat} {m : List Int} {l : List Ast} (hm61 : m.length = 61) (hO : Own w0 w (mRow (.slice mo m.length mc) m :: l)) (se it n st fr : Int) (got : Bool) (hit : -1099511627776 ≤ it ∧ it ≤ 1099511627776) (X S T : Int) (hX : m.getD (ixC (it + 1) 1) 0 = X) (hS : wT X % 1048576 = S) (hT : tokV se (it + 1) S = T) (a : 1099511627776 ≤ X) (b : X = T) (c : S < n) : Calls Try.prog 43 #[.agg #[.int .i64 1, .int .i64 3, .int .i64 3, .int .i64 3], .agg #[.bool false, .int .i64 2, .int .i64 se, .int .i64 it, .int .i64 n, .int .i64 0, .int .i64 st, .int .i64 fr, .bool got], .slice mo m.length mc] w fun e w' => ∃ ao' c', e = .returned (.tuple #[.agg #[.bool false, .int .i64 2, .int .i64 se, .int .i64 it, .int .i64 n, .int .i64 1, .int .i64 S, .int .i64 fr, .bool got], .slice ao' m.length c']) ∧ Own w0 w' (mRow (.slice ao' m.length c') m :: l) := by
  have h1 := ((hO.box #[.int .i64 1, .int .i64 3, .int .i64 3, .int .i64 3] 66).box #[.bool false, .int .i64 2, .int .i64 se, .int .i64 it, .int .i64 n, .int .i64 0, .int .i64 st, .int .i64 fr, .bool got] 75).box #[.bool false, .int .i64 0, .int .i64 0, .int .i64 0, .int .i64 0, .int .i64 0, .int .i64 0, .int .i64 0, .bool false] 75
  rw [alloc_szC, alloc_szC, alloc_szC] at h1
  replace h1 := h1.pm (show (_ : List Ast).Perm (cellsA (w.heap.size + 1) #[.bool false, .int .i64 2, .int .i64 se, .int .i64 it, .int .i64 n, .int .i64 0, .int .i64 st, .int .i64 fr, .bool got] 75 :: cellsA (w.heap.size + 1 + 1) #[.bool false, .int .i64 0, .int .i64 0, .int .i64 0, .int .i64 0, .int .i64 0, .int .i64 0, .int .i64 0, .bool false] 75 :: cellsA w.heap.size #[.int .i64 1, .int .i64 3, .int .i64 3, .int .i64 3] 66 :: mRow (.slice mo m.length mc) m :: l) from by
    simp only [List.cons_append, List.append_assoc, List.nil_append]
    refine (List.perm_append_comm (l₁ := mRow (.slice mo m.length mc) m :: l) (l₂ := [_, _, _])).trans ?_
    refine List.Perm.trans (l₂ := _ :: _ :: _ :: _) (List.Perm.swap _ _ _) (.cons _ (List.Perm.swap _ _ _)))
  clear hO
  replace hm61 := Lib.hid hm61
  go_enter Try.func43, Try.ntmps43
  go_upto_region 19 with fail
  generalize ((w.alloc (.cells #[.int .i64 1, .int .i64 3, .int .i64 3, .int .i64 3] 66)).alloc (.cells #[.bool false, .int .i64 2, .int .i64 se, .int .i64 it, .int .i64 n, .int .i64 0, .int .i64 st, .int .i64 fr, .bool got] 75)).alloc (.cells #[.bool false, .int .i64 0, .int .i64 0, .int .i64 0, .int .i64 0, .int .i64 0, .int .i64 0, .int .i64 0, .bool false] 75) = u at *
  generalize w.heap.size + 1 + 1 = zb at *
  generalize w.heap.size + 1 = wb at *
  generalize w.heap.size = pb at *
  have h2 : Own w0 u (cellsA wb #[.bool false, .int .i64 2, .int .i64 se, .int .i64 it, .int .i64 n, .int .i64 0, .int .i64 st, .int .i64 fr, .bool got] 75 :: cellsA zb #[.bool false, .int .i64 0, .int .i64 0, .int .i64 0, .int .i64 0, .int .i64 0, .int .i64 0, .int .i64 0, .bool false] 75 :: cellsA pb #[.int .i64 1, .int .i64 3, .int .i64 3, .int .i64 3] 66 :: mRow (.slice mo m.length mc) m :: l) := h1
  clear h1
  obtain ⟨r0, r1, r2, r3, r4, r5, r6, r7, r8⟩ := get9a h2
  obtain ⟨e0, e1, e2, e3⟩ : _ ∧ _ ∧ _ ∧ _ := ⟨(h2.cget 2 rfl 0).1, (h2.cget 2 rfl 1).1, (h2.cget 2 rfl 2).1, (h2.cget 2 rfl 3).1⟩
  simp at e0 e1 e2 e3
  have DO := Lib.hid (fun (w1 : World) (h : Own w0 w1 (cellsA wb #[.bool false, .int .i64 2, .int .i64 se, .int .i64 it, .int .i64 n, .int .i64 0, .int .i64 st, .int .i64 fr, .bool got] 75 :: cellsA zb #[.bool false, .int .i64 0, .int .i64 0, .int .i64 0, .int .i64 0, .int .i64 0, .int .i64 0, .int .i64 0, .bool false] 75 :: cellsA pb #[.int .i64 1, .int .i64 3, .int .i64 3, .int .i64 3] 66 :: mRow (.slice mo m.length mc) m :: l)) => rdo' hm61.out h false got se it n 0 st fr 2 (it + 1) 0 1 (by unfold kindK; omega) (by omega) X X (by rw [hX]; simp [dof]) m (set_sameI hX (by rw [hm61.out]; exact ixC_lt _ (by omega))))
  have i1 : IntKind.i64.wrap (it + 1) = it + 1 := IntWalk.i64_in _ (by omega)
  have PT := Lib.hid (fun w1 => hS ▸ parts_any X w1)
  have OF := Lib.hid (fun w1 => hT ▸ rof_any se (it + 1) S w1)
  clear hX hS hT
  have IX := fun (a b c : Value) (w : World) => show (Instr.index 39 (.agg #[a, b, c]) (.int .i64 2)).run Try.prog w = .ok c w from by kernel_rfl
  have d1 : decide (1099511627776 ≤ X) = true := decide_eq_true a
  clear a
  have d2 : (X == T) = true := by simpa using b
  clear b
  have d3 : decide (S < n) = true := decide_eq_true c
  clear c
  go_upto_region 20 with (go_at_call 71; refine (DO.out _ h2).mono ?_; rintro e w3 ⟨ao2, c2, rfl, h3⟩)
  clear r0 r1 r2 r3 r4 r5 r6 r7 r8 e0 e1 e2 e3
  clear h2 DO
  replace h3 : Own w0 w3 (cellsA wb #[.bool false, .int .i64 2, .int .i64 se, .int .i64 it, .int .i64 n, .int .i64 0, .int .i64 st, .int .i64 fr, .bool got] 75 :: cellsA zb #[.bool false, .int .i64 0, .int .i64 0, .int .i64 0, .int .i64 0, .int .i64 0, .int .i64 0, .int .i64 0, .bool false] 75 :: cellsA pb #[.int .i64 1, .int .i64 3, .int .i64 3, .int .i64 3] 66 :: mRow (.slice ao2 m.length c2) m :: l) := h3
  go_upto_region 21 with (go_at_call 21; refine (PT.out _).mono ?_; rintro e w4 ⟨rfl, hb4⟩)
  have h4 := h3.grow hb4
  clear h3 hb4 PT
  obtain ⟨r0, r1, r2, r3, r4, r5, r6, r7, r8⟩ := get9a h4
  obtain ⟨e0, e1, e2, e3⟩ : _ ∧ _ ∧ _ ∧ _ := ⟨(h4.cget 2 rfl 0).1, (h4.cget 2 rfl 1).1, (h4.cget 2 rfl 2).1, (h4.cget 2 rfl 3).1⟩
  simp at e0 e1 e2 e3
  have f5 := (h4.cget 0 rfl 5).2
  have h5 := Lib.hid (h4.cset 0 rfl 5 (.int .i64 3))
  go_upto_region 22 with fail
  replace h5 := h5.out
  clear h4 f5
  clear r0 r1 r2 r3 r4 r5 r6 r7 r8 e0 e1 e2 e3
  generalize w4.setCell ⟨wb, 5, none⟩ (.int .i64 3) = w5 at *
  replace h5 : Own w0 w5 (cellsA wb #[.bool false, .int .i64 2, .int .i64 se, .int .i64 it, .int .i64 n, .int .i64 3, .int .i64 st, .int .i64 fr, .bool got] 75 :: cellsA zb #[.bool false, .int .i64 0, .int .i64 0, .int .i64 0, .int .i64 0, .int .i64 0, .int .i64 0, .int .i64 0, .bool false] 75 :: cellsA pb #[.int .i64 1, .int .i64 3, .int .i64 3, .int .i64 3] 66 :: mRow (.slice ao2 m.length c2) m :: l) := h5
  obtain ⟨r0, r1, r2, r3, r4, r5, r6, r7, r8⟩ := get9a h5
  obtain ⟨e0, e1, e2, e3⟩ : _ ∧ _ ∧ _ ∧ _ := ⟨(h5.cget 2 rfl 0).1, (h5.cget 2 rfl 1).1, (h5.cget 2 rfl 2).1, (h5.cget 2 rfl 3).1⟩
  simp at e0 e1 e2 e3
  go_upto_region 23 with (go_at_call 22; refine (OF.out _).mono ?_; rintro e w6 ⟨rfl, rfl⟩)
  have f5 := (h5.cget 0 rfl 5).2
  have h6 := Lib.hid (h5.cset 0 rfl 5 (.int .i64 1))
  go_upto_region 24 with fail
  replace h6 := h6.out
  clear h5 f5
  clear r0 r1 r2 r3 r4 r5 r6 r7 r8 e0 e1 e2 e3
  generalize w5.setCell ⟨wb, 5, none⟩ (.int .i64 1) = w6 at *
  replace h6 : Own w0 w6 (cellsA wb #[.bool false, .int .i64 2, .int .i64 se, .int .i64 it, .int .i64 n, .int .i64 1, .int .i64 st, .int .i64 fr, .bool got] 75 :: cellsA zb #[.bool false, .int .i64 0, .int .i64 0, .int .i64 0, .int .i64 0, .int .i64 0, .int .i64 0, .int .i64 0, .bool false] 75 :: cellsA pb #[.int .i64 1, .int .i64 3, .int .i64 3, .int .i64 3] 66 :: mRow (.slice ao2 m.length c2) m :: l) := h6
  obtain ⟨r0, r1, r2, r3, r4, r5, r6, r7, r8⟩ := get9a h6
  obtain ⟨e0, e1, e2, e3⟩ : _ ∧ _ ∧ _ ∧ _ := ⟨(h6.cget 2 rfl 0).1, (h6.cget 2 rfl 1).1, (h6.cget 2 rfl 2).1, (h6.cget 2 rfl 3).1⟩
  simp at e0 e1 e2 e3
  have f6 := (h6.cget 0 rfl 6).2
  have h7 := Lib.hid (h6.cset 0 rfl 6 (.int .i64 S))
  go_upto_region 25 with fail
  replace h7 := h7.out
  clear h6 f6
  clear r0 r1 r2 r3 r4 r5 r6 r7 r8 e0 e1 e2 e3
  generalize w6.setCell ⟨wb, 6, none⟩ (.int .i64 S) = w7 at *
  replace h7 : Own w0 w7 (cellsA wb #[.bool false, .int .i64 2, .int .i64 se, .int .i64 it, .int .i64 n, .int .i64 1, .int .i64 S, .int .i64 fr, .bool got] 75 :: cellsA zb #[.bool false, .int .i64 0, .int .i64 0, .int .i64 0, .int .i64 0, .int .i64 0, .int .i64 0, .int .i64 0, .bool false] 75 :: cellsA pb #[.int .i64 1, .int .i64 3, .int .i64 3, .int .i64 3] 66 :: mRow (.slice ao2 m.length c2) m :: l) := h7
  obtain ⟨r0, r1, r2, r3, r4, r5, r6, r7, r8⟩ := get9a h7
  obtain ⟨f0, f1, f2, f3, f4, f5, f6, f7, f8⟩ := get9f h7
  obtain ⟨z0, z1, z2, z3, z4, z5, z6, z7, z8⟩ := get9 h7
  have hF := set9 h7 (.bool false) (.int .i64 2) (.int .i64 se) (.int .i64 it) (.int .i64 n) (.int .i64 1) (.int .i64 S) (.int .i64 fr) (.bool got)
  replace hF := Lib.hid hF
  clear h7
  go_wp2_with fail
  replace hF := hF.out
  clear r0 f0 z0 r1 f1 z1 r2 f2 z2 r3 f3 z3 r4 f4 z4 r5 f5 z5 r6 f6 z6 r7 f7 z7 r8 f8 z8
  obtain ⟨z0, z1, z2, z3, z4, z5, z6, z7, z8⟩ := get9 hF
  generalize ((((((((w7.setCell ⟨zb, 0, none⟩ (.bool false)).setCell ⟨zb, 1, none⟩ (.int .i64 2)).setCell ⟨zb, 2, none⟩ (.int .i64 se)).setCell ⟨zb, 3, none⟩ (.int .i64 it)).setCell ⟨zb, 4, none⟩ (.int .i64 n)).setCell ⟨zb, 5, none⟩ (.int .i64 1)).setCell ⟨zb, 6, none⟩ (.int .i64 S)).setCell ⟨zb, 7, none⟩ (.int .i64 fr)).setCell ⟨zb, 8, none⟩ (.bool got) = u10 at *
  have hEnd := hF.sub (.cons _ (.cons _ (.cons _ (List.Sublist.refl _))))
  exact bodyPost_ret (v := .tuple #[.agg #[.bool false, .int .i64 2, .int .i64 se, .int .i64 it, .int .i64 n, .int .i64 1, .int .i64 S, .int .i64 fr, .bool got], .slice ao2 m.length c2]) (by simp [results, Try.results43, go_sem, z0, z1, z2, z3, z4, z5, z6, z7, z8]) rfl ⟨_, _, rfl, hEnd⟩
theorem rcR0a {w0 w : World} {mo : Option Addr} {mc : Nat} {m : List Int} {l : List Ast} (hm61 : m.length = 61) (hO : Own w0 w (mRow (.slice mo m.length mc) m :: l)) (se it n st fr : Int) (got : Bool) (hit : -1099511627776 ≤ it ∧ it ≤ 1099511627776) (X S T : Int) (hX : m.getD (ixC (it + 1) 1) 0 = X) (hS : wT X % 1048576 = S) (hT : tokV se (it + 1) S = T) (a : ¬ 1099511627776 ≤ X) : Calls Try.prog 43 #[.agg #[.int .i64 1, .int .i64 3, .int .i64 3, .int .i64 3], .agg #[.bool false, .int .i64 2, .int .i64 se, .int .i64 it, .int .i64 n, .int .i64 0, .int .i64 st, .int .i64 fr, .bool got], .slice mo m.length mc] w fun e w' => ∃ ao' c', e = .returned (.tuple #[.agg #[.bool false, .int .i64 2, .int .i64 se, .int .i64 it, .int .i64 n, .int .i64 3, .int .i64 st, .int .i64 fr, .bool got], .slice ao' m.length c']) ∧ Own w0 w' (mRow (.slice ao' m.length c') m :: l) := by
  have h1 := ((hO.box #[.int .i64 1, .int .i64 3, .int .i64 3, .int .i64 3] 66).box #[.bool false, .int .i64 2, .int .i64 se, .int .i64 it, .int .i64 n, .int .i64 0, .int .i64 st, .int .i64 fr, .bool got] 75).box #[.bool false, .int .i64 0, .int .i64 0, .int .i64 0, .int .i64 0, .int .i64 0, .int .i64 0, .int .i64 0, .bool false] 75
  rw [alloc_szC, alloc_szC, alloc_szC] at h1
  replace h1 := h1.pm (show (_ : List Ast).Perm (cellsA (w.heap.size + 1) #[.bool false, .int .i64 2, .int .i64 se, .int .i64 it, .int .i64 n, .int .i64 0, .int .i64 st, .int .i64 fr, .bool got] 75 :: cellsA (w.heap.size + 1 + 1) #[.bool false, .int .i64 0, .int .i64 0, .int .i64 0, .int .i64 0, .int .i64 0, .int .i64 0, .int .i64 0, .bool false] 75 :: cellsA w.heap.size #[.int .i64 1, .int .i64 3, .int .i64 3, .int .i64 3] 66 :: mRow (.slice mo m.length mc) m :: l) from by
    simp only [List.cons_append, List.append_assoc, List.nil_append]
    refine (List.perm_append_comm (l₁ := mRow (.slice mo m.length mc) m :: l) (l₂ := [_, _, _])).trans ?_
    refine List.Perm.trans (l₂ := _ :: _ :: _ :: _) (List.Perm.swap _ _ _) (.cons _ (List.Perm.swap _ _ _)))
  clear hO
  replace hm61 := Lib.hid hm61
  go_enter Try.func43, Try.ntmps43
  go_upto_region 19 with fail
  generalize ((w.alloc (.cells #[.int .i64 1, .int .i64 3, .int .i64 3, .int .i64 3] 66)).alloc (.cells #[.bool false, .int .i64 2, .int .i64 se, .int .i64 it, .int .i64 n, .int .i64 0, .int .i64 st, .int .i64 fr, .bool got] 75)).alloc (.cells #[.bool false, .int .i64 0, .int .i64 0, .int .i64 0, .int .i64 0, .int .i64 0, .int .i64 0, .int .i64 0, .bool false] 75) = u at *
  generalize w.heap.size + 1 + 1 = zb at *
  generalize w.heap.size + 1 = wb at *
  generalize w.heap.size = pb at *
  have h2 : Own w0 u (cellsA wb #[.bool false, .int .i64 2, .int .i64 se, .int .i64 it, .int .i64 n, .int .i64 0, .int .i64 st, .int .i64 fr, .bool got] 75 :: cellsA zb #[.bool false, .int .i64 0, .int .i64 0, .int .i64 0, .int .i64 0, .int .i64 0, .int .i64 0, .int .i64 0, .bool false] 75 :: cellsA pb #[.int .i64 1, .int .i64 3, .int .i64 3, .int .i64 3] 66 :: mRow (.slice mo m.length mc) m :: l) := h1
  clear h1
  obtain ⟨r0, r1, r2, r3, r4, r5, r6, r7, r8⟩ := get9a h2
  obtain ⟨e0, e1, e2, e3⟩ : _ ∧ _ ∧ _ ∧ _ := ⟨(h2.cget 2 rfl 0).1, (h2.cget 2 rfl 1).1, (h2.cget 2 rfl 2).1, (h2.cget 2 rfl 3).1⟩
  simp at e0 e1 e2 e3
  have DO := Lib.hid (fun (w1 : World) (h : Own w0 w1 (cellsA wb #[.bool false, .int .i64 2, .int .i64 se, .int .i64 it, .int .i64 n, .int .i64 0, .int .i64 st, .int .i64 fr, .bool got] 75 :: cellsA zb #[.bool false, .int .i64 0, .int .i64 0, .int .i64 0, .int .i64 0, .int .i64 0, .int .i64 0, .int .i64 0, .bool false] 75 :: cellsA pb #[.int .i64 1, .int .i64 3, .int .i64 3, .int .i64 3] 66 :: mRow (.slice mo m.length mc) m :: l)) => rdo' hm61.out h false got se it n 0 st fr 2 (it + 1) 0 1 (by unfold kindK; omega) (by omega) X X (by rw [hX]; simp [dof]) m (set_sameI hX (by rw [hm61.out]; exact ixC_lt _ (by omega))))
  have i1 : IntKind.i64.wrap (it + 1) = it + 1 := IntWalk.i64_in _ (by omega)
  have PT := Lib.hid (fun w1 => hS ▸ parts_any X w1)
  have OF := Lib.hid (fun w1 => hT ▸ rof_any se (it + 1) S w1)
  clear hX hS hT
  have IX := fun (a b c : Value) (w : World) => show (Instr.index 39 (.agg #[a, b, c]) (.int .i64 2)).run Try.prog w = .ok c w from by kernel_rfl
  have d1 : decide (1099511627776 ≤ X) = false := decide_eq_false a
  clear a
  go_upto_region 20 with (go_at_call 71; refine (DO.out _ h2).mono ?_; rintro e w3 ⟨ao2, c2, rfl, h3⟩)
  clear r0 r1 r2 r3 r4 r5 r6 r7 r8 e0 e1 e2 e3
  clear h2 DO
  replace h3 : Own w0 w3 (cellsA wb #[.bool false, .int .i64 2, .int .i64 se, .int .i64 it, .int .i64 n, .int .i64 0, .int .i64 st, .int .i64 fr, .bool got] 75 :: cellsA zb #[.bool false, .int .i64 0, .int .i64 0, .int .i64 0, .int .i64 0, .int .i64 0, .int .i64 0, .int .i64 0, .bool false] 75 :: cellsA pb #[.int .i64 1, .int .i64 3, .int .i64 3, .int .i64 3] 66 :: mRow (.slice ao2 m.length c2) m :: l) := h3
  go_upto_region 21 with (go_at_call 21; refine (PT.out _).mono ?_; rintro e w4 ⟨rfl, hb4⟩)
  have h4 := h3.grow hb4
  clear h3 hb4 PT
  obtain ⟨r0, r1, r2, r3, r4, r5, r6, r7, r8⟩ := get9a h4
  obtain ⟨e0, e1, e2, e3⟩ : _ ∧ _ ∧ _ ∧ _ := ⟨(h4.cget 2 rfl 0).1, (h4.cget 2 rfl 1).1, (h4.cget 2 rfl 2).1, (h4.cget 2 rfl 3).1⟩
  simp at e0 e1 e2 e3
  have f5 := (h4.cget 0 rfl 5).2
  have h5 := Lib.hid (h4.cset 0 rfl 5 (.int .i64 3))
  go_upto_region 22 with fail
  replace h5 := h5.out
  clear h4 f5
  clear r0 r1 r2 r3 r4 r5 r6 r7 r8 e0 e1 e2 e3
  generalize w4.setCell ⟨wb, 5, none⟩ (.int .i64 3) = w5 at *
  replace h5 : Own w0 w5 (cellsA wb #[.bool false, .int .i64 2, .int .i64 se, .int .i64 it, .int .i64 n, .int .i64 3, .int .i64 st, .int .i64 fr, .bool got] 75 :: cellsA zb #[.bool false, .int .i64 0, .int .i64 0, .int .i64 0, .int .i64 0, .int .i64 0, .int .i64 0, .int .i64 0, .bool false] 75 :: cellsA pb #[.int .i64 1, .int .i64 3, .int .i64 3, .int .i64 3] 66 :: mRow (.slice ao2 m.length c2) m :: l) := h5
  obtain ⟨r0, r1, r2, r3, r4, r5, r6, r7, r8⟩ := get9a h5
  obtain ⟨e0, e1, e2, e3⟩ : _ ∧ _ ∧ _ ∧ _ := ⟨(h5.cget 2 rfl 0).1, (h5.cget 2 rfl 1).1, (h5.cget 2 rfl 2).1, (h5.cget 2 rfl 3).1⟩
  simp at e0 e1 e2 e3
  go_upto_region 25 with (go_at_call 22; refine (OF.out _).mono ?_; rintro e w6 ⟨rfl, rfl⟩)
  clear r0 r1 r2 r3 r4 r5 r6 r7 r8 e0 e1 e2 e3
  obtain ⟨r0, r1, r2, r3, r4, r5, r6, r7, r8⟩ := get9a h5
  obtain ⟨f0, f1, f2, f3, f4, f5, f6, f7, f8⟩ := get9f h5
  obtain ⟨z0, z1, z2, z3, z4, z5, z6, z7, z8⟩ := get9 h5
  have hF := set9 h5 (.bool false) (.int .i64 2) (.int .i64 se) (.int .i64 it) (.int .i64 n) (.int .i64 3) (.int .i64 st) (.int .i64 fr) (.bool got)
  replace hF := Lib.hid hF
  clear h5
  go_wp2_with fail
  replace hF := hF.out
  clear r0 f0 z0 r1 f1 z1 r2 f2 z2 r3 f3 z3 r4 f4 z4 r5 f5 z5 r6 f6 z6 r7 f7 z7 r8 f8 z8
  obtain ⟨z0, z1, z2, z3, z4, z5, z6, z7, z8⟩ := get9 hF
  generalize ((((((((w5.setCell ⟨zb, 0, none⟩ (.bool false)).setCell ⟨zb, 1, none⟩ (.int .i64 2)).setCell ⟨zb, 2, none⟩ (.int .i64 se)).setCell ⟨zb, 3, none⟩ (.int .i64 it)).setCell ⟨zb, 4, none⟩ (.int .i64 n)).setCell ⟨zb, 5, none⟩ (.int .i64 3)).setCell ⟨zb, 6, none⟩ (.int .i64 st)).setCell ⟨zb, 7, none⟩ (.int .i64 fr)).setCell ⟨zb, 8, none⟩ (.bool got) = u10 at *
  have hEnd := hF.sub (.cons _ (.cons _ (.cons _ (List.Sublist.refl _))))
  exact bodyPost_ret (v := .tuple #[.agg #[.bool false, .int .i64 2, .int .i64 se, .int .i64 it, .int .i64 n, .int .i64 3, .int .i64 st, .int .i64 fr, .bool got], .slice ao2 m.length c2]) (by simp [results, Try.results43, go_sem, z0, z1, z2, z3, z4, z5, z6, z7, z8]) rfl ⟨_, _, rfl, hEnd⟩
theorem rcR0b {w0 w : World} {mo : Option Addr} {mc : Nat} {m : List Int} {l : List Ast} (hm61 : m.length = 61) (hO : Own w0 w (mRow (.slice mo m.length mc) m :: l)) (se it n st fr : Int) (got : Bool) (hit : -1099511627776 ≤ it ∧ it ≤ 1099511627776) (X S T : Int) (hX : m.getD (ixC (it + 1) 1) 0 = X) (hS : wT X % 1048576 = S) (hT : tokV se (it + 1) S = T) (a : 1099511627776 ≤ X) (b : ¬ X = T) : Calls Try.prog 43 #[.agg #[.int .i64 1, .int .i64 3, .int .i64 3, .int .i64 3], .agg #[.bool false, .int .i64 2, .int .i64 se, .int .i64 it, .int .i64 n, .int .i64 0, .int .i64 st, .int .i64 fr, .bool got], .slice mo m.length mc] w fun e w' => ∃ ao' c', e = .returned (.tuple #[.agg #[.bool false, .int .i64 2, .int .i64 se, .int .i64 it, .int .i64 n, .int .i64 3, .int .i64 st, .int .i64 fr, .bool got], .slice ao' m.length c']) ∧ Own w0 w' (mRow (.slice ao' m.length c') m :: l) := by
  have h1 := ((hO.box #[.int .i64 1, .int .i64 3, .int .i64 3, .int .i64 3] 66).box #[.bool false, .int .i64 2, .int .i64 se, .int .i64 it, .int .i64 n, .int .i64 0, .int .i64 st, .int .i64 fr, .bool got] 75).box #[.bool false, .int .i64 0, .int .i64 0, .int .i64 0, .int .i64 0, .int .i64 0, .int .i64 0, .int .i64 0, .bool false] 75
  rw [alloc_szC, alloc_szC, alloc_szC] at h1
  replace h1 := h1.pm (show (_ : List Ast).Perm (cellsA (w.heap.size + 1) #[.bool false, .int .i64 2, .int .i64 se, .int .i64 it, .int .i64 n, .int .i64 0, .int .i64 st, .int .i64 fr, .bool got] 75 :: cellsA (w.heap.size + 1 + 1) #[.bool false, .int .i64 0, .int .i64 0, .int .i64 0, .int .i64 0, .int .i64 0, .int .i64 0, .int .i64 0, .bool false] 75 :: cellsA w.heap.size #[.int .i64 1, .int .i64 3, .int .i64 3, .int .i64 3] 66 :: mRow (.slice mo m.length mc) m :: l) from by
    simp only [List.cons_append, List.append_assoc, List.nil_append]
    refine (List.perm_append_comm (l₁ := mRow (.slice mo m.length mc) m :: l) (l₂ := [_, _, _])).trans ?_
    refine List.Perm.trans (l₂ := _ :: _ :: _ :: _) (List.Perm.swap _ _ _) (.cons _ (List.Perm.swap _ _ _)))
  clear hO
  replace hm61 := Lib.hid hm61
  go_enter Try.func43, Try.ntmps43
  go_upto_region 19 with fail
  generalize ((w.alloc (.cells #[.int .i64 1, .int .i64 3, .int .i64 3, .int .i64 3] 66)).alloc (.cells #[.bool false, .int .i64 2, .int .i64 se, .int .i64 it, .int .i64 n, .int .i64 0, .int .i64 st, .int .i64 fr, .bool got] 75)).alloc (.cells #[.bool false, .int .i64 0, .int .i64 0, .int .i64 0, .int .i64 0, .int .i64 0, .int .i64 0, .int .i64 0, .bool false] 75) = u at *
  generalize w.heap.size + 1 + 1 = zb at *
  generalize w.heap.size + 1 = wb at *
  generalize w.heap.size = pb at *
  have h2 : Own w0 u (cellsA wb #[.bool false, .int .i64 2, .int .i64 se, .int .i64 it, .int .i64 n, .int .i64 0, .int .i64 st, .int .i64 fr, .bool got] 75 :: cellsA zb #[.bool false, .int .i64 0, .int .i64 0, .int .i64 0, .int .i64 0, .int .i64 0, .int .i64 0, .int .i64 0, .bool false] 75 :: cellsA pb #[.int .i64 1, .int .i64 3, .int .i64 3, .int .i64 3] 66 :: mRow (.slice mo m.length mc) m :: l) := h1
  clear h1
  obtain ⟨r0, r1, r2, r3, r4, r5, r6, r7, r8⟩ := get9a h2
  obtain ⟨e0, e1, e2, e3⟩ : _ ∧ _ ∧ _ ∧ _ := ⟨(h2.cget 2 rfl 0).1, (h2.cget 2 rfl 1).1, (h2.cget 2 rfl 2).1, (h2.cget 2 rfl 3).1⟩
  simp at e0 e1 e2 e3
  have DO := Lib.hid (fun (w1 : World) (h : Own w0 w1 (cellsA wb #[.bool false, .int .i64 2, .int .i64 se, .int .i64 it, .int .i64 n, .int .i64 0, .int .i64 st, .int .i64 fr, .bool got] 75 :: cellsA zb #[.bool false, .int .i64 0, .int .i64 0, .int .i64 0, .int .i64 0, .int .i64 0, .int .i64 0, .int .i64 0, .bool false] 75 :: cellsA pb #[.int .i64 1, .int .i64 3, .int .i64 3, .int .i64 3] 66 :: mRow (.slice mo m.length mc) m :: l)) => rdo' hm61.out h false got se it n 0 st fr 2 (it + 1) 0 1 (by unfold kindK; omega) (by omega) X X (by rw [hX]; simp [dof]) m (set_sameI hX (by rw [hm61.out]; exact ixC_lt _ (by omega))))
  have i1 : IntKind.i64.wrap (it + 1) = it + 1 := IntWalk.i64_in _ (by omega)
  have PT := Lib.hid (fun w1 => hS ▸ parts_any X w1)
  have OF := Lib.hid (fun w1 => hT ▸ rof_any se (it + 1) S w1)
  clear hX hS hT
  have IX := fun (a b c : Value) (w : World) => show (Instr.index 39 (.agg #[a, b, c]) (.int .i64 2)).run Try.prog w = .ok c w from by kernel_rfl
  have d1 : decide (1099511627776 ≤ X) = true := decide_eq_true a
  clear a
  have d2 : (X == T) = false := by simpa using b
  clear b
  go_upto_region 20 with (go_at_call 71; refine (DO.out _ h2).mono ?_; rintro e w3 ⟨ao2, c2, rfl, h3⟩)
  clear r0 r1 r2 r3 r4 r5 r6 r7 r8 e0 e1 e2 e3
  clear h2 DO
  replace h3 : Own w0 w3 (cellsA wb #[.bool false, .int .i64 2, .int .i64 se, .int .i64 it, .int .i64 n, .int .i64 0, .int .i64 st, .int .i64 fr, .bool got] 75 :: cellsA zb #[.bool false, .int .i64 0, .int .i64 0, .int .i64 0, .int .i64 0, .int .i64 0, .int .i64 0, .int .i64 0, .bool false] 75 :: cellsA pb #[.int .i64 1, .int .i64 3, .int .i64 3, .int .i64 3] 66 :: mRow (.slice ao2 m.length c2) m :: l) := h3
  go_upto_region 21 with (go_at_call 21; refine (PT.out _).mono ?_; rintro e w4 ⟨rfl, hb4⟩)
  have h4 := h3.grow hb4
  clear h3 hb4 PT
  obtain ⟨r0, r1, r2, r3, r4, r5, r6, r7, r8⟩ := get9a h4
  obtain ⟨e0, e1, e2, e3⟩ : _ ∧ _ ∧ _ ∧ _ := ⟨(h4.cget 2 rfl 0).1, (h4.cget 2 rfl 1).1, (h4.cget 2 rfl 2).1, (h4.cget 2 rfl 3).1⟩
  simp at e0 e1 e2 e3
  have f5 := (h4.cget 0 rfl 5).2
  have h5 := Lib.hid (h4.cset 0 rfl 5 (.int .i64 3))
  go_upto_region 22 with fail
  replace h5 := h5.out
  clear h4 f5
  clear r0 r1 r2 r3 r4 r5 r6 r7 r8 e0 e1 e2 e3
  generalize w4.setCell ⟨wb, 5, none⟩ (.int .i64 3) = w5 at *
  replace h5 : Own w0 w5 (cellsA wb #[.bool false, .int .i64 2, .int .i64 se, .int .i64 it, .int .i64 n, .int .i64 3, .int .i64 st, .int .i64 fr, .bool got] 75 :: cellsA zb #[.bool false, .int .i64 0, .int .i64 0, .int .i64 0, .int .i64 0, .int .i64 0, .int .i64 0, .int .i64 0, .bool false] 75 :: cellsA pb #[.int .i64 1, .int .i64 3, .int .i64 3, .int .i64 3] 66 :: mRow (.slice ao2 m.length c2) m :: l) := h5
  obtain ⟨r0, r1, r2, r3, r4, r5, r6, r7, r8⟩ := get9a h5
  obtain ⟨e0, e1, e2, e3⟩ : _ ∧ _ ∧ _ ∧ _ := ⟨(h5.cget 2 rfl 0).1, (h5.cget 2 rfl 1).1, (h5.cget 2 rfl 2).1, (h5.cget 2 rfl 3).1⟩
  simp at e0 e1 e2 e3
  go_upto_region 25 with (go_at_call 22; refine (OF.out _).mono ?_; rintro e w6 ⟨rfl, rfl⟩)
  clear r0 r1 r2 r3 r4 r5 r6 r7 r8 e0 e1 e2 e3
  obtain ⟨r0, r1, r2, r3, r4, r5, r6, r7, r8⟩ := get9a h5
  obtain ⟨f0, f1, f2, f3, f4, f5, f6, f7, f8⟩ := get9f h5
  obtain ⟨z0, z1, z2, z3, z4, z5, z6, z7, z8⟩ := get9 h5
  have hF := set9 h5 (.bool false) (.int .i64 2) (.int .i64 se) (.int .i64 it) (.int .i64 n) (.int .i64 3) (.int .i64 st) (.int .i64 fr) (.bool got)
  replace hF := Lib.hid hF
  clear h5
  go_wp2_with fail
  replace hF := hF.out
  clear r0 f0 z0 r1 f1 z1 r2 f2 z2 r3 f3 z3 r4 f4 z4 r5 f5 z5 r6 f6 z6 r7 f7 z7 r8 f8 z8
  obtain ⟨z0, z1, z2, z3, z4, z5, z6, z7, z8⟩ := get9 hF
  generalize ((((((((w5.setCell ⟨zb, 0, none⟩ (.bool false)).setCell ⟨zb, 1, none⟩ (.int .i64 2)).setCell ⟨zb, 2, none⟩ (.int .i64 se)).setCell ⟨zb, 3, none⟩ (.int .i64 it)).setCell ⟨zb, 4, none⟩ (.int .i64 n)).setCell ⟨zb, 5, none⟩ (.int .i64 3)).setCell ⟨zb, 6, none⟩ (.int .i64 st)).setCell ⟨zb, 7, none⟩ (.int .i64 fr)).setCell ⟨zb, 8, none⟩ (.bool got) = u10 at *
  have hEnd := hF.sub (.cons _ (.cons _ (.cons _ (List.Sublist.refl _))))
  exact bodyPost_ret (v := .tuple #[.agg #[.bool false, .int .i64 2, .int .i64 se, .int .i64 it, .int .i64 n, .int .i64 3, .int .i64 st, .int .i64 fr, .bool got], .slice ao2 m.length c2]) (by simp [results, Try.results43, go_sem, z0, z1, z2, z3, z4, z5, z6, z7, z8]) rfl ⟨_, _, rfl, hEnd⟩
theorem rcR0c {w0 w : World} {mo : Option Addr} {mc : Nat} {m : List Int} {l : List Ast} (hm61 : m.length = 61) (hO : Own w0 w (mRow (.slice mo m.length mc) m :: l)) (se it n st fr : Int) (got : Bool) (hit : -1099511627776 ≤ it ∧ it ≤ 1099511627776) (X S T : Int) (hX : m.getD (ixC (it + 1) 1) 0 = X) (hS : wT X % 1048576 = S) (hT : tokV se (it + 1) S = T) (a : 1099511627776 ≤ X) (b : X = T) (c : ¬ S < n) : Calls Try.prog 43 #[.agg #[.int .i64 1, .int .i64 3, .int .i64 3, .int .i64 3], .agg #[.bool false, .int .i64 2, .int .i64 se, .int .i64 it, .int .i64 n, .int .i64 0, .int .i64 st, .int .i64 fr, .bool got], .slice mo m.length mc] w fun e w' => ∃ ao' c', e = .returned (.tuple #[.agg #[.bool false, .int .i64 2, .int .i64 se, .int .i64 it, .int .i64 n, .int .i64 3, .int .i64 st, .int .i64 fr, .bool got], .slice ao' m.length c']) ∧ Own w0 w' (mRow (.slice ao' m.length c') m :: l) := by
  have h1 := ((hO.box #[.int .i64 1, .int .i64 3, .int .i64 3, .int .i64 3] 66).box #[.bool false, .int .i64 2, .int .i64 se, .int .i64 it, .int .i64 n, .int .i64 0, .int .i64 st, .int .i64 fr, .bool got] 75).box #[.bool false, .int .i64 0, .int .i64 0, .int .i64 0, .int .i64 0, .int .i64 0, .int .i64 0, .int .i64 0, .bool false] 75
  rw [alloc_szC, alloc_szC, alloc_szC] at h1
  replace h1 := h1.pm (show (_ : List Ast).Perm (cellsA (w.heap.size + 1) #[.bool false, .int .i64 2, .int .i64 se, .int .i64 it, .int .i64 n, .int .i64 0, .int .i64 st, .int .i64 fr, .bool got] 75 :: cellsA (w.heap.size + 1 + 1) #[.bool false, .int .i64 0, .int .i64 0, .int .i64 0, .int .i64 0, .int .i64 0, .int .i64 0, .int .i64 0, .bool false] 75 :: cellsA w.heap.size #[.int .i64 1, .int .i64 3, .int .i64 3, .int .i64 3] 66 :: mRow (.slice mo m.length mc) m :: l) from by
    simp only [List.cons_append, List.append_assoc, List.nil_append]
    refine (List.perm_append_comm (l₁ := mRow (.slice mo m.length mc) m :: l) (l₂ := [_, _, _])).trans ?_
    refine List.Perm.trans (l₂ := _ :: _ :: _ :: _) (List.Perm.swap _ _ _) (.cons _ (List.Perm.swap _ _ _)))
  clear hO
  replace hm61 := Lib.hid hm61
  go_enter Try.func43, Try.ntmps43
  go_upto_region 19 with fail
  generalize ((w.alloc (.cells #[.int .i64 1, .int .i64 3, .int .i64 3, .int .i64 3] 66)).alloc (.cells #[.bool false, .int .i64 2, .int .i64 se, .int .i64 it, .int .i64 n, .int .i64 0, .int .i64 st, .int .i64 fr, .bool got] 75)).alloc (.cells #[.bool false, .int .i64 0, .int .i64 0, .int .i64 0, .int .i64 0, .int .i64 0, .int .i64 0, .int .i64 0, .bool false] 75) = u at *
  generalize w.heap.size + 1 + 1 = zb at *
  generalize w.heap.size + 1 = wb at *
  generalize w.heap.size = pb at *
  have h2 : Own w0 u (cellsA wb #[.bool false, .int .i64 2, .int .i64 se, .int .i64 it, .int .i64 n, .int .i64 0, .int .i64 st, .int .i64 fr, .bool got] 75 :: cellsA zb #[.bool false, .int .i64 0, .int .i64 0, .int .i64 0, .int .i64 0, .int .i64 0, .int .i64 0, .int .i64 0, .bool false] 75 :: cellsA pb #[.int .i64 1, .int .i64 3, .int .i64 3, .int .i64 3] 66 :: mRow (.slice mo m.length mc) m :: l) := h1
  clear h1
  obtain ⟨r0, r1, r2, r3, r4, r5, r6, r7, r8⟩ := get9a h2
  obtain ⟨e0, e1, e2, e3⟩ : _ ∧ _ ∧ _ ∧ _ := ⟨(h2.cget 2 rfl 0).1, (h2.cget 2 rfl 1).1, (h2.cget 2 rfl 2).1, (h2.cget 2 rfl 3).1⟩
  simp at e0 e1 e2 e3
  have DO := Lib.hid (fun (w1 : World) (h : Own w0 w1 (cellsA wb #[.bool false, .int .i64 2, .int .i64 se, .int .i64 it, .int .i64 n, .int .i64 0, .int .i64 st, .int .i64 fr, .bool got] 75 :: cellsA zb #[.bool false, .int .i64 0, .int .i64 0, .int .i64 0, .int .i64 0, .int .i64 0, .int .i64 0, .int .i64 0, .bool false] 75 :: cellsA pb #[.int .i64 1, .int .i64 3, .int .i64 3, .int .i64 3] 66 :: mRow (.slice mo m.length mc) m :: l)) => rdo' hm61.out h false got se it n 0 st fr 2 (it + 1) 0 1 (by unfold kindK; omega) (by omega) X X (by rw [hX]; simp [dof]) m (set_sameI hX (by rw [hm61.out]; exact ixC_lt _ (by omega))))
  have i1 : IntKind.i64.wrap (it + 1) = it + 1 := IntWalk.i64_in _ (by omega)
  have PT := Lib.hid (fun w1 => hS ▸ parts_any X w1)
  have OF := Lib.hid (fun w1 => hT ▸ rof_any se (it + 1) S w1)
  clear hX hS hT
  have IX := fun (a b c : Value) (w : World) => show (Instr.index 39 (.agg #[a, b, c]) (.int .i64 2)).run Try.prog w = .ok c w from by kernel_rfl
  have d1 : decide (1099511627776 ≤ X) = true := decide_eq_true a
  clear a
  have d2 : (X == T) = true := by simpa using b
  clear b
  have d3 : decide (S < n) = false := decide_eq_false c
  clear c
  go_upto_region 20 with (go_at_call 71; refine (DO.out _ h2).mono ?_; rintro e w3 ⟨ao2, c2, rfl, h3⟩)
  clear r0 r1 r2 r3 r4 r5 r6 r7 r8 e0 e1 e2 e3
  clear h2 DO
  replace h3 : Own w0 w3 (cellsA wb #[.bool false, .int .i64 2, .int .i64 se, .int .i64 it, .int .i64 n, .int .i64 0, .int .i64 st, .int .i64 fr, .bool got] 75 :: cellsA zb #[.bool false, .int .i64 0, .int .i64 0, .int .i64 0, .int .i64 0, .int .i64 0, .int .i64 0, .int .i64 0, .bool false] 75 :: cellsA pb #[.int .i64 1, .int .i64 3, .int .i64 3, .int .i64 3] 66 :: mRow (.slice ao2 m.length c2) m :: l) := h3
  go_upto_region 21 with (go_at_call 21; refine (PT.out _).mono ?_; rintro e w4 ⟨rfl, hb4⟩)
  have h4 := h3.grow hb4
  clear h3 hb4 PT
  obtain ⟨r0, r1, r2, r3, r4, r5, r6, r7, r8⟩ := get9a h4
  obtain ⟨e0, e1, e2, e3⟩ : _ ∧ _ ∧ _ ∧ _ := ⟨(h4.cget 2 rfl 0).1, (h4.cget 2 rfl 1).1, (h4.cget 2 rfl 2).1, (h4.cget 2 rfl 3).1⟩
  simp at e0 e1 e2 e3
  have f5 := (h4.cget 0 rfl 5).2
  have h5 := Lib.hid (h4.cset 0 rfl 5 (.int .i64 3))
  go_upto_region 22 with fail
  replace h5 := h5.out
  clear h4 f5
  clear r0 r1 r2 r3 r4 r5 r6 r7 r8 e0 e1 e2 e3
  generalize w4.setCell ⟨wb, 5, none⟩ (.int .i64 3) = w5 at *
  replace h5 : Own w0 w5 (cellsA wb #[.bool false, .int .i64 2, .int .i64 se, .int .i64 it, .int .i64 n, .int .i64 3, .int .i64 st, .int .i64 fr, .bool got] 75 :: cellsA zb #[.bool false, .int .i64 0, .int .i64 0, .int .i64 0, .int .i64 0, .int .i64 0, .int .i64 0, .int .i64 0, .bool false] 75 :: cellsA pb #[.int .i64 1, .int .i64 3, .int .i64 3, .int .i64 3] 66 :: mRow (.slice ao2 m.length c2) m :: l) := h5
  obtain ⟨r0, r1, r2, r3, r4, r5, r6, r7, r8⟩ := get9a h5
  obtain ⟨e0, e1, e2, e3⟩ : _ ∧ _ ∧ _ ∧ _ := ⟨(h5.cget 2 rfl 0).1, (h5.cget 2 rfl 1).1, (h5.cget 2 rfl 2).1, (h5.cget 2 rfl 3).1⟩
  simp at e0 e1 e2 e3
  go_upto_region 25 with (go_at_call 22; refine (OF.out _).mono ?_; rintro e w6 ⟨rfl, rfl⟩)
  clear r0 r1 r2 r3 r4 r5 r6 r7 r8 e0 e1 e2 e3
  obtain ⟨r0, r1, r2, r3, r4, r5, r6, r7, r8⟩ := get9a h5
  obtain ⟨f0, f1, f2, f3, f4, f5, f6, f7, f8⟩ := get9f h5
  obtain ⟨z0, z1, z2, z3, z4, z5, z6, z7, z8⟩ := get9 h5
  have hF := set9 h5 (.bool false) (.int .i64 2) (.int .i64 se) (.int .i64 it) (.int .i64 n) (.int .i64 3) (.int .i64 st) (.int .i64 fr) (.bool got)
  replace hF := Lib.hid hF
  clear h5
  go_wp2_with fail
  replace hF := hF.out
  clear r0 f0 z0 r1 f1 z1 r2 f2 z2 r3 f3 z3 r4 f4 z4 r5 f5 z5 r6 f6 z6 r7 f7 z7 r8 f8 z8
  obtain ⟨z0, z1, z2, z3, z4, z5, z6, z7, z8⟩ := get9 hF
  generalize ((((((((w5.setCell ⟨zb, 0, none⟩ (.bool false)).setCell ⟨zb, 1, none⟩ (.int .i64 2)).setCell ⟨zb, 2, none⟩ (.int .i64 se)).setCell ⟨zb, 3, none⟩ (.int .i64 it)).setCell ⟨zb, 4, none⟩ (.int .i64 n)).setCell ⟨zb, 5, none⟩ (.int .i64 3)).setCell ⟨zb, 6, none⟩ (.int .i64 st)).setCell ⟨zb, 7, none⟩ (.int .i64 fr)).setCell ⟨zb, 8, none⟩ (.bool got) = u10 at *
  have hEnd := hF.sub (.cons _ (.cons _ (.cons _ (List.Sublist.refl _))))
  exact bodyPost_ret (v := .tuple #[.agg #[.bool false, .int .i64 2, .int .i64 se, .int .i64 it, .int .i64 n, .int .i64 3, .int .i64 st, .int .i64 fr, .bool got], .slice ao2 m.length c2]) (by simp [results, Try.results43, go_sem, z0, z1, z2, z3, z4, z5, z6, z7, z8]) rfl ⟨_, _, rfl, hEnd⟩
theorem may_iff {se it n : Int} {at_ : Nat} {st fr : Int} {got : Bool} {t : Int} (b : t = tokV se (it + 1) (stgT t)) (a : 1099511627776 ≤ t) (c : stgT t < n) : mayC ⟨false, se, it, n, at_, st, fr, got⟩ t = true := by
  have hb : t ≤ 1152921504606846975 := by
    have h1 := hT_bd se
    have h2 := hT_bd (it + 1)
    have h3 := hT_bd (stgT t)
    rw [b]; unfold tokV; omega
  unfold mayC nextT isTok
  rw [show (t == tokV se (it + 1) (stgT t)) = true by simpa using b]
  unfold stgT at c
  simp [a, hb, c]
theorem may_no {se it n : Int} {at_ : Nat} {st fr : Int} {got : Bool} {t : Int} (h : ¬ (1099511627776 ≤ t ∧ t = tokV se (it + 1) (stgT t) ∧ stgT t < n)) : mayC ⟨false, se, it, n, at_, st, fr, got⟩ t = false := by
  cases hm : mayC ⟨false, se, it, n, at_, st, fr, got⟩ t with
  | false => rfl
  | true =>
    exfalso
    apply h
    unfold mayC nextT isTok at hm
    simp at hm
    exact ⟨hm.1.1.1, hm.2, hm.1.2⟩
theorem rcstep {w0 w : World} {mo : Option Addr} {mc : Nat} {m : List Int} {l : List Ast} (hm61 : m.length = 61) (hO : Own w0 w (mRow (.slice mo m.length mc) m :: l)) {s : CS} (ho : OkC s) :
    Calls Try.prog 43 #[.agg #[.int .i64 1, .int .i64 3, .int .i64 3, .int .i64 3], .agg (refCC s), .slice mo m.length mc] w fun e w' => ∃ ao' c', e = .returned (.tuple #[.agg (refCC (stepC s m).1), .slice ao' (stepC s m).2.length c']) ∧ Own w0 w' (mRow (.slice ao' (stepC s m).2.length c') (stepC s m).2 :: l) := by
  obtain ⟨pk, se, it, n, at_, st, fr, got⟩ := s
  obtain ⟨h1, hit, h3⟩ := ho
  dsimp only at h1 hit h3
  have key : ∀ s' m', stepC ⟨pk, se, it, n, at_, st, fr, got⟩ m = (s', m') → (Calls Try.prog 43 #[.agg #[.int .i64 1, .int .i64 3, .int .i64 3, .int .i64 3], .agg (refCC ⟨pk, se, it, n, at_, st, fr, got⟩), .slice mo m.length mc] w fun e w' => ∃ ao' c', e = .returned (.tuple #[.agg (refCC s'), .slice ao' m'.length c']) ∧ Own w0 w' (mRow (.slice ao' m'.length c') m' :: l)) → Calls Try.prog 43 #[.agg #[.int .i64 1, .int .i64 3, .int .i64 3, .int .i64 3], .agg (refCC ⟨pk, se, it, n, at_, st, fr, got⟩), .slice mo m.length mc] w fun e w' => ∃ ao' c', e = .returned (.tuple #[.agg (refCC (stepC ⟨pk, se, it, n, at_, st, fr, got⟩ m).1), .slice ao' (stepC ⟨pk, se, it, n, at_, st, fr, got⟩ m).2.length c']) ∧ Own w0 w' (mRow (.slice ao' (stepC ⟨pk, se, it, n, at_, st, fr, got⟩ m).2.length c') (stepC ⟨pk, se, it, n, at_, st, fr, got⟩ m).2 :: l) := by
    intro s' m' e h
    rw [e]
    exact h
  have h4 : at_ = 0 ∨ at_ = 1 ∨ at_ = 2 ∨ at_ = 3 := by omega
  cases pk with
  | true =>
    have e0 : stepC ⟨true, se, it, n, at_, st, fr, got⟩ m = stepP ⟨true, se, it, n, at_, st, fr, got⟩ m := rfl
    rcases h4 with rfl | rfl | rfl | rfl
    · refine key ⟨true, se, it, n, 1, st, fr, got⟩ (m.set (ixC it 1) (tokV se it n)) ?_ ?_
      · rw [e0]; unfold stepP; dsimp only; rw [if_pos rfl]
      · exact rcP0 hm61 hO se it n st fr got hit _ rfl
    · by_cases c : n < m.getD (ixC (it - 1) 0) 0
      · refine key ⟨true, se, it, n, 2, st, fr, got⟩ m ?_ ?_
        · rw [e0]; unfold stepP; dsimp only; rw [if_neg (by decide), if_pos rfl, if_pos c]
        · exact rcP1y hm61 hO se it n st fr got hit _ rfl c
      · refine key ⟨true, se, it, n, 3, st, fr, got⟩ m ?_ ?_
        · rw [e0]; unfold stepP; dsimp only; rw [if_neg (by decide), if_pos rfl, if_neg c]
        · exact rcP1n hm61 hO se it n st fr got hit _ rfl c
    · by_cases c : m.getD (ixC it 1) 0 = tokV se it n
      · refine key ⟨true, se, it, n, 3, st, fr, true⟩ (m.set (ixC it 1) 0) ?_ ?_
        · rw [e0]; unfold stepP; dsimp only; rw [if_neg (by decide), if_neg (by decide), if_pos rfl, if_pos c]
        · exact rcP2y hm61 hO se it n st fr got hit c _ rfl
      · refine key ⟨true, se, it, n, 3, st, fr, false⟩ m ?_ ?_
        · rw [e0]; unfold stepP; dsimp only; rw [if_neg (by decide), if_neg (by decide), if_pos rfl, if_neg c]
        · exact rcP2n hm61 hO se it n st fr got hit _ rfl c
    · refine key ⟨true, se, it, n, 3, st, fr, got⟩ m ?_ ?_
      · rw [e0]; unfold stepP; dsimp only; rw [if_neg (by decide), if_neg (by decide), if_neg (by decide)]
      · exact rc3_true hm61 hO se it n st fr got hit
  | false =>
    have e0 : stepC ⟨false, se, it, n, at_, st, fr, got⟩ m = stepR ⟨false, se, it, n, at_, st, fr, got⟩ m := rfl
    rcases h4 with rfl | rfl | rfl | rfl
    · by_cases q : 1099511627776 ≤ m.getD (ixC (it + 1) 1) 0 ∧ m.getD (ixC (it + 1) 1) 0 = tokV se (it + 1) (stgT (m.getD (ixC (it + 1) 1) 0)) ∧ stgT (m.getD (ixC (it + 1) 1) 0) < n
      · obtain ⟨a, b, c⟩ := q
        refine key ⟨false, se, it, n, 1, stgT (m.getD (ixC (it + 1) 1) 0), fr, got⟩ m ?_ ?_
        · rw [e0]; unfold stepR; dsimp only; rw [if_pos rfl, if_pos (may_iff b a c)]
        · exact rcR0y hm61 hO se it n st fr got hit _ _ _ rfl rfl rfl a b c
      · refine key ⟨false, se, it, n, 3, st, fr, got⟩ m ?_ ?_
        · rw [e0]; unfold stepR; dsimp only; rw [if_pos rfl, if_neg (by rw [may_no q]; decide)]
        · by_cases a : 1099511627776 ≤ m.getD (ixC (it + 1) 1) 0
          · by_cases b : m.getD (ixC (it + 1) 1) 0 = tokV se (it + 1) (stgT (m.getD (ixC (it + 1) 1) 0))
            · exact rcR0c hm61 hO se it n st fr got hit _ _ _ rfl rfl rfl a b (fun c => q ⟨a, b, c⟩)
            · exact rcR0b hm61 hO se it n st fr got hit _ _ _ rfl rfl rfl a b
          · exact rcR0a hm61 hO se it n st fr got hit _ _ _ rfl rfl rfl a
    · by_cases c : m.getD (ixC (it + 1) 1) 0 = tokV se (it + 1) st
      · refine key ⟨false, se, it, n, 2, st, fr, got⟩ (m.set (ixC (it + 1) 1) 0) ?_ ?_
        · rw [e0]; unfold stepR; dsimp only; rw [if_neg (by decide), if_pos rfl, if_pos c]
        · exact rcR1y hm61 hO se it n st fr got hit c _ rfl
      · refine key ⟨false, se, it, n, 3, st, fr, got⟩ m ?_ ?_
        · rw [e0]; unfold stepR; dsimp only; rw [if_neg (by decide), if_pos rfl, if_neg c]
        · exact rcR1n hm61 hO se it n st fr got hit _ rfl c
    · refine key ⟨false, se, it, n, 3, st, m.getD (ixC (it + 1) 2) 0, true⟩ m ?_ ?_
      · rw [e0]; unfold stepR; dsimp only; rw [if_neg (by decide), if_neg (by decide), if_pos rfl]
      · exact rcR2 hm61 hO se it n st fr got hit _ rfl
    · refine key ⟨false, se, it, n, 3, st, fr, got⟩ m ?_ ?_
      · rw [e0]; unfold stepR; dsimp only; rw [if_neg (by decide), if_neg (by decide), if_neg (by decide)]
      · exact rc3_false hm61 hO se it n st fr got hit
end Go.Proofs.Ytooofpplhedgcaa
