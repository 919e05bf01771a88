/- CrossDoes: the document's side: forebayref19.Step. -/
import Derived.Test.YtooofpplhedgcaaCrRef2
set_option linter.unusedVariables false
set_option linter.unusedSimpArgs false
namespace Go.Proofs.Ytooofpplhedgcaa
open Go.RowKit
set_option maxRecDepth 100000
set_option maxHeartbeats 2000000
theorem set9 {w0 u : World} {A : Ast} {zb : Nat} {z0 z1 z2 z3 z4 z5 z6 z7 z8 : Value} {t : TypeId} {l : List Ast} (h : Own w0 u (A :: cellsA zb #[z0, z1, z2, z3, z4, z5, z6, z7, z8] t :: l)) (c0 c1 c2 c3 c4 c5 c6 c7 c8 : Value) :
    Own w0 (((((((((u.setCell ⟨zb, 0, none⟩ c0).setCell ⟨zb, 1, none⟩ c1).setCell ⟨zb, 2, none⟩ c2).setCell ⟨zb, 3, none⟩ c3).setCell ⟨zb, 4, none⟩ c4).setCell ⟨zb, 5, none⟩ c5).setCell ⟨zb, 6, none⟩ c6).setCell ⟨zb, 7, none⟩ c7).setCell ⟨zb, 8, none⟩ c8) (A :: cellsA zb #[c0, c1, c2, c3, c4, c5, c6, c7, c8] t :: l) := by
  have h0 : Own w0 _ (A :: cellsA zb #[c0, z1, z2, z3, z4, z5, z6, z7, z8] t :: l) := h.cset 1 rfl 0 c0
  have h1 : Own w0 _ (A :: cellsA zb #[c0, c1, z2, z3, z4, z5, z6, z7, z8] t :: l) := h0.cset 1 rfl 1 c1
  have h2 : Own w0 _ (A :: cellsA zb #[c0, c1, c2, z3, z4, z5, z6, z7, z8] t :: l) := h1.cset 1 rfl 2 c2
  have h3 : Own w0 _ (A :: cellsA zb #[c0, c1, c2, c3, z4, z5, z6, z7, z8] t :: l) := h2.cset 1 rfl 3 c3
  have h4 : Own w0 _ (A :: cellsA zb #[c0, c1, c2, c3, c4, z5, z6, z7, z8] t :: l) := h3.cset 1 rfl 4 c4
  have h5 : Own w0 _ (A :: cellsA zb #[c0, c1, c2, c3, c4, c5, z6, z7, z8] t :: l) := h4.cset 1 rfl 5 c5
  have h6 : Own w0 _ (A :: cellsA zb #[c0, c1, c2, c3, c4, c5, c6, z7, z8] t :: l) := h5.cset 1 rfl 6 c6
  have h7 : Own w0 _ (A :: cellsA zb #[c0, c1, c2, c3, c4, c5, c6, c7, z8] t :: l) := h6.cset 1 rfl 7 c7
  have h8 : Own w0 _ (A :: cellsA zb #[c0, c1, c2, c3, c4, c5, c6, c7, c8] t :: l) := h7.cset 1 rfl 8 c8
  exact h8
theorem get9 {w0 u : World} {A : Ast} {zb : Nat} {c0 c1 c2 c3 c4 c5 c6 c7 c8 : Value} {t : TypeId} {l : List Ast} (h : Own w0 u (A :: cellsA zb #[c0, c1, c2, c3, c4, c5, c6, c7, c8] t :: l)) : u.cell? ⟨zb, 0, none⟩ = some c0 ∧ u.cell? ⟨zb, 1, none⟩ = some c1 ∧ u.cell? ⟨zb, 2, none⟩ = some c2 ∧ u.cell? ⟨zb, 3, none⟩ = some c3 ∧ u.cell? ⟨zb, 4, none⟩ = some c4 ∧ u.cell? ⟨zb, 5, none⟩ = some c5 ∧ u.cell? ⟨zb, 6, none⟩ = some c6 ∧ u.cell? ⟨zb, 7, none⟩ = some c7 ∧ u.cell? ⟨zb, 8, none⟩ = some c8 :=
  ⟨(h.cget 1 rfl 0).1, (h.cget 1 rfl 1).1, (h.cget 1 rfl 2).1, (h.cget 1 rfl 3).1, (h.cget 1 rfl 4).1, (h.cget 1 rfl 5).1, (h.cget 1 rfl 6).1, (h.cget 1 rfl 7).1, (h.cget 1 rfl 8).1⟩
theorem get9f {w0 u : World} {A : Ast} {zb : Nat} {cs : Array Value} {t : TypeId} {l : List Ast} (h : Own w0 u (A :: cellsA zb cs t :: l)) : u.frozen? ⟨zb, 0, none⟩ = false ∧ u.frozen? ⟨zb, 1, none⟩ = false ∧ u.frozen? ⟨zb, 2, none⟩ = false ∧ u.frozen? ⟨zb, 3, none⟩ = false ∧ u.frozen? ⟨zb, 4, none⟩ = false ∧ u.frozen? ⟨zb, 5, none⟩ = false ∧ u.frozen? ⟨zb, 6, none⟩ = false ∧ u.frozen? ⟨zb, 7, none⟩ = false ∧ u.frozen? ⟨zb, 8, none⟩ = false :=
  ⟨(h.cget 1 rfl 0).2, (h.cget 1 rfl 1).2, (h.cget 1 rfl 2).2, (h.cget 1 rfl 3).2, (h.cget 1 rfl 4).2, (h.cget 1 rfl 5).2, (h.cget 1 rfl 6).2, (h.cget 1 rfl 7).2, (h.cget 1 rfl 8).2⟩
theorem get9a {w0 u : World} {zb : Nat} {c0 c1 c2 c3 c4 c5 c6 c7 c8 : Value} {t : TypeId} {l : List Ast} (h : Own w0 u (cellsA zb #[c0, c1, c2, c3, c4, c5, c6, c7, c8] t :: l)) : u.cell? ⟨zb, 0, none⟩ = some c0 ∧ u.cell? ⟨zb, 1, none⟩ = some c1 ∧ u.cell? ⟨zb, 2, none⟩ = some c2 ∧ u.cell? ⟨zb, 3, none⟩ = some c3 ∧ u.cell? ⟨zb, 4, none⟩ = some c4 ∧ u.cell? ⟨zb, 5, none⟩ = some c5 ∧ u.cell? ⟨zb, 6, none⟩ = some c6 ∧ u.cell? ⟨zb, 7, none⟩ = some c7 ∧ u.cell? ⟨zb, 8, none⟩ = some c8 :=
  ⟨(h.cget 0 rfl 0).1, (h.cget 0 rfl 1).1, (h.cget 0 rfl 2).1, (h.cget 0 rfl 3).1, (h.cget 0 rfl 4).1, (h.cget 0 rfl 5).1, (h.cget 0 rfl 6).1, (h.cget 0 rfl 7).1, (h.cget 0 rfl 8).1⟩
theorem set_sameI {m : List Int} {i : Nat} {x : Int} (h : m.getD i 0 = x) (hi : i < m.length) : m.set i x = m := by
  subst h
  rw [List.getD_eq_getElem?_getD, List.getElem?_eq_getElem hi]
  exact List.set_getElem_self hi
theorem rc3_true {w0 w : World} {mo : Option Addr} {mc : Nat} {m : List Int} {l : List Ast} (hm61 : m.length = 61) (hO : Own w0 w (mRow (.slice mo m.length mc) m :: l)) (se it n st fr : Int) (got : Bool) (hit : -1099511627776 ≤ it ∧ it ≤ 1099511627776) : Calls Try.prog 43 #[.agg #[.int .i64 1, .int .i64 3, .int .i64 3, .int .i64 3], .agg #[.bool true, .int .i64 2, .int .i64 se, .int .i64 it, .int .i64 n, .int .i64 3, .int .i64 st, .int .i64 fr, .bool got], .slice mo m.length mc] w fun e w' => ∃ ao' c', e = .returned (.tuple #[.agg #[.bool true, .int .i64 2, .int .i64 se, .int .i64 it, .int .i64 n, .int .i64 3, .int .i64 st, .int .i64 fr, .bool got], .slice ao' m.length c']) ∧ Own w0 w' (mRow (.slice ao' m.length c') m :: l) := by
  have h1 := ((hO.box #[.int .i64 1, .int .i64 3, .int .i64 3, .int .i64 3] 66).box #[.bool true, .int .i64 2, .int .i64 se, .int .i64 it, .int .i64 n, .int .i64 3, .int .i64 st, .int .i64 fr, .bool got] 75).box #[.bool false, .int .i64 0, .int .i64 0, .int .i64 0, .int .i64 0, .int .i64 0, .int .i64 0, .int .i64 0, .bool false] 75
  rw [alloc_szC, alloc_szC, alloc_szC] at h1
  replace h1 := h1.pm (show (_ : List Ast).Perm (cellsA (w.heap.size + 1) #[.bool true, .int .i64 2, .int .i64 se, .int .i64 it, .int .i64 n, .int .i64 3, .int .i64 st, .int .i64 fr, .bool got] 75 :: cellsA (w.heap.size + 1 + 1) #[.bool false, .int .i64 0, .int .i64 0, .int .i64 0, .int .i64 0, .int .i64 0, .int .i64 0, .int .i64 0, .bool false] 75 :: cellsA w.heap.size #[.int .i64 1, .int .i64 3, .int .i64 3, .int .i64 3] 66 :: mRow (.slice mo m.length mc) m :: l) from by
    simp only [List.cons_append, List.append_assoc, List.nil_append]
    refine (List.perm_append_comm (l₁ := mRow (.slice mo m.length mc) m :: l) (l₂ := [_, _, _])).trans ?_
    refine List.Perm.trans (l₂ := _ :: _ :: _ :: _) (List.Perm.swap _ _ _) (.cons _ (List.Perm.swap _ _ _)))
  clear hO
  replace hm61 := Lib.hid hm61
  go_enter Try.func43, Try.ntmps43
  go_upto_region 2 with fail
  generalize ((w.alloc (.cells #[.int .i64 1, .int .i64 3, .int .i64 3, .int .i64 3] 66)).alloc (.cells #[.bool true, .int .i64 2, .int .i64 se, .int .i64 it, .int .i64 n, .int .i64 3, .int .i64 st, .int .i64 fr, .bool got] 75)).alloc (.cells #[.bool false, .int .i64 0, .int .i64 0, .int .i64 0, .int .i64 0, .int .i64 0, .int .i64 0, .int .i64 0, .bool false] 75) = u at *
  generalize w.heap.size + 1 + 1 = zb at *
  generalize w.heap.size + 1 = wb at *
  generalize w.heap.size = pb at *
  obtain ⟨r0, r1, r2, r3, r4, r5, r6, r7, r8⟩ := get9a h1
  obtain ⟨f0, f1, f2, f3, f4, f5, f6, f7, f8⟩ := get9f h1
  obtain ⟨z0, z1, z2, z3, z4, z5, z6, z7, z8⟩ := get9 h1
  have hF := set9 h1 (.bool true) (.int .i64 2) (.int .i64 se) (.int .i64 it) (.int .i64 n) (.int .i64 3) (.int .i64 st) (.int .i64 fr) (.bool got)
  replace hF := Lib.hid hF
  clear h1
  go_wp2_with fail
  replace hF := hF.out
  clear r0 f0 z0 r1 f1 z1 r2 f2 z2 r3 f3 z3 r4 f4 z4 r5 f5 z5 r6 f6 z6 r7 f7 z7 r8 f8 z8
  obtain ⟨z0, z1, z2, z3, z4, z5, z6, z7, z8⟩ := get9 hF
  generalize ((((((((u.setCell ⟨zb, 0, none⟩ (.bool true)).setCell ⟨zb, 1, none⟩ (.int .i64 2)).setCell ⟨zb, 2, none⟩ (.int .i64 se)).setCell ⟨zb, 3, none⟩ (.int .i64 it)).setCell ⟨zb, 4, none⟩ (.int .i64 n)).setCell ⟨zb, 5, none⟩ (.int .i64 3)).setCell ⟨zb, 6, none⟩ (.int .i64 st)).setCell ⟨zb, 7, none⟩ (.int .i64 fr)).setCell ⟨zb, 8, none⟩ (.bool got) = u10 at *
  have hEnd := hF.sub (.cons _ (.cons _ (.cons _ (List.Sublist.refl _))))
  exact bodyPost_ret (v := .tuple #[.agg #[.bool true, .int .i64 2, .int .i64 se, .int .i64 it, .int .i64 n, .int .i64 3, .int .i64 st, .int .i64 fr, .bool got], .slice mo m.length mc]) (by simp [results, Try.results43, go_sem, z0, z1, z2, z3, z4, z5, z6, z7, z8]) rfl ⟨_, _, rfl, hEnd⟩
theorem rc3_false {w0 w : World} {mo : Option Addr} {mc : Nat} {m : List Int} {l : List Ast} (hm61 : m.length = 61) (hO : Own w0 w (mRow (.slice mo m.length mc) m :: l)) (se it n st fr : Int) (got : Bool) (hit : -1099511627776 ≤ it ∧ it ≤ 1099511627776) : Calls Try.prog 43 #[.agg #[.int .i64 1, .int .i64 3, .int .i64 3, .int .i64 3], .agg #[.bool false, .int .i64 2, .int .i64 se, .int .i64 it, .int .i64 n, .int .i64 3, .int .i64 st, .int .i64 fr, .bool got], .slice mo m.length mc] w fun e w' => ∃ ao' c', e = .returned (.tuple #[.agg #[.bool false, .int .i64 2, .int .i64 se, .int .i64 it, .int .i64 n, .int .i64 3, .int .i64 st, .int .i64 fr, .bool got], .slice ao' m.length c']) ∧ Own w0 w' (mRow (.slice ao' m.length c') m :: l) := by
  have h1 := ((hO.box #[.int .i64 1, .int .i64 3, .int .i64 3, .int .i64 3] 66).box #[.bool false, .int .i64 2, .int .i64 se, .int .i64 it, .int .i64 n, .int .i64 3, .int .i64 st, .int .i64 fr, .bool got] 75).box #[.bool false, .int .i64 0, .int .i64 0, .int .i64 0, .int .i64 0, .int .i64 0, .int .i64 0, .int .i64 0, .bool false] 75
  rw [alloc_szC, alloc_szC, alloc_szC] at h1
  replace h1 := h1.pm (show (_ : List Ast).Perm (cellsA (w.heap.size + 1) #[.bool false, .int .i64 2, .int .i64 se, .int .i64 it, .int .i64 n, .int .i64 3, .int .i64 st, .int .i64 fr, .bool got] 75 :: cellsA (w.heap.size + 1 + 1) #[.bool false, .int .i64 0, .int .i64 0, .int .i64 0, .int .i64 0, .int .i64 0, .int .i64 0, .int .i64 0, .bool false] 75 :: cellsA w.heap.size #[.int .i64 1, .int .i64 3, .int .i64 3, .int .i64 3] 66 :: mRow (.slice mo m.length mc) m :: l) from by
    simp only [List.cons_append, List.append_assoc, List.nil_append]
    refine (List.perm_append_comm (l₁ := mRow (.slice mo m.length mc) m :: l) (l₂ := [_, _, _])).trans ?_
    refine List.Perm.trans (l₂ := _ :: _ :: _ :: _) (List.Perm.swap _ _ _) (.cons _ (List.Perm.swap _ _ _)))
  clear hO
  replace hm61 := Lib.hid hm61
  go_enter Try.func43, Try.ntmps43
  go_upto_region 2 with fail
  generalize ((w.alloc (.cells #[.int .i64 1, .int .i64 3, .int .i64 3, .int .i64 3] 66)).alloc (.cells #[.bool false, .int .i64 2, .int .i64 se, .int .i64 it, .int .i64 n, .int .i64 3, .int .i64 st, .int .i64 fr, .bool got] 75)).alloc (.cells #[.bool false, .int .i64 0, .int .i64 0, .int .i64 0, .int .i64 0, .int .i64 0, .int .i64 0, .int .i64 0, .bool false] 75) = u at *
  generalize w.heap.size + 1 + 1 = zb at *
  generalize w.heap.size + 1 = wb at *
  generalize w.heap.size = pb at *
  obtain ⟨r0, r1, r2, r3, r4, r5, r6, r7, r8⟩ := get9a h1
  obtain ⟨f0, f1, f2, f3, f4, f5, f6, f7, f8⟩ := get9f h1
  obtain ⟨z0, z1, z2, z3, z4, z5, z6, z7, z8⟩ := get9 h1
  have hF := set9 h1 (.bool false) (.int .i64 2) (.int .i64 se) (.int .i64 it) (.int .i64 n) (.int .i64 3) (.int .i64 st) (.int .i64 fr) (.bool got)
  replace hF := Lib.hid hF
  clear h1
  go_wp2_with fail
  replace hF := hF.out
  clear r0 f0 z0 r1 f1 z1 r2 f2 z2 r3 f3 z3 r4 f4 z4 r5 f5 z5 r6 f6 z6 r7 f7 z7 r8 f8 z8
  obtain ⟨z0, z1, z2, z3, z4, z5, z6, z7, z8⟩ := get9 hF
  generalize ((((((((u.setCell ⟨zb, 0, none⟩ (.bool false)).setCell ⟨zb, 1, none⟩ (.int .i64 2)).setCell ⟨zb, 2, none⟩ (.int .i64 se)).setCell ⟨zb, 3, none⟩ (.int .i64 it)).setCell ⟨zb, 4, none⟩ (.int .i64 n)).setCell ⟨zb, 5, none⟩ (.int .i64 3)).setCell ⟨zb, 6, none⟩ (.int .i64 st)).setCell ⟨zb, 7, none⟩ (.int .i64 fr)).setCell ⟨zb, 8, none⟩ (.bool got) = u10 at *
  have hEnd := hF.sub (.cons _ (.cons _ (.cons _ (List.Sublist.refl _))))
  exact bodyPost_ret (v := .tuple #[.agg #[.bool false, .int .i64 2, .int .i64 se, .int .i64 it, .int .i64 n, .int .i64 3, .int .i64 st, .int .i64 fr, .bool got], .slice mo m.length mc]) (by simp [results, Try.results43, go_sem, z0, z1, z2, z3, z4, z5, z6, z7, z8]) rfl ⟨_, _, rfl, hEnd⟩
theorem rdo' {w0 w : World} {A B C : Ast} {mo : Option Addr} {mc : Nat} {m : List Int} {l : List Ast} (hm61 : m.length = 61) (hO : Own w0 w (A :: B :: C :: mRow (.slice mo m.length mc) m :: l)) (pk g0 : Bool) (se i0 n0 a0 s0 f0 kd it n : Int) (k : Nat) (hk : kindK kd k) (hit : -1099511627800 ≤ it ∧ it ≤ 1099511627800) (ans now : Int) (hx : dof kd (m.getD (ixC it k) 0) (tokV se it n) n = (ans, now)) (m' : List Int) (hm : m.set (ixC it k) now = m') :
    Calls Try.prog 71 #[.agg #[.int .i64 1, .int .i64 3, .int .i64 3, .int .i64 3], .agg #[.bool pk, .int .i64 2, .int .i64 se, .int .i64 i0, .int .i64 n0, .int .i64 a0, .int .i64 s0, .int .i64 f0, .bool g0], .slice mo m.length mc, .agg #[.int .i64 kd, .int .i64 it, .int .i64 n]] w fun e w' => ∃ ao' c', e = .returned (.tuple #[.int .i64 ans, .slice ao' m'.length c']) ∧ Own w0 w' (A :: B :: C :: mRow (.slice ao' m'.length c') m' :: l) := by
  have e : ∀ M : Ast, (A :: B :: C :: M :: l).Perm (M :: A :: B :: C :: l) := fun M => List.perm_middle (l₁ := [A, B, C])
  refine (rdo hm61 (hO.pm (e _)) pk g0 se i0 n0 a0 s0 f0 kd it n k hk hit ans now hx m' hm).mono ?_
  rintro e1 w' ⟨ao', c', rfl, h⟩
  exact ⟨ao', c', rfl, h.pm (e _).symm⟩
theorem rcP0 {w0 w : World} {mo : Option Addr} {mc : Nat} {m : List Int} {l : List Ast} (hm61 : m.length = 61) (hO : Own w0 w (mRow (.slice mo m.length mc) m :: l)) (se it n st fr : Int) (got : Bool) (hit : -1099511627776 ≤ it ∧ it ≤ 1099511627776) (m' : List Int) (hm' : m.set (ixC it 1) (tokV se it n) = m') : Calls Try.prog 43 #[.agg #[.int .i64 1, .int .i64 3, .int .i64 3, .int .i64 3], .agg #[.bool true, .int .i64 2, .int .i64 se, .int .i64 it, .int .i64 n, .int .i64 0, .int .i64 st, .int .i64 fr, .bool got], .slice mo m.length mc] w fun e w' => ∃ ao' c', e = .returned (.tuple #[.agg #[.bool true, .int .i64 2, .int .i64 se, .int .i64 it, .int .i64 n, .int .i64 1, .int .i64 st, .int .i64 fr, .bool got], .slice ao' m'.length c']) ∧ Own w0 w' (mRow (.slice ao' m'.length c') m' :: l) := by
  have h1 := ((hO.box #[.int .i64 1, .int .i64 3, .int .i64 3, .int .i64 3] 66).box #[.bool true, .int .i64 2, .int .i64 se, .int .i64 it, .int .i64 n, .int .i64 0, .int .i64 st, .int .i64 fr, .bool got] 75).box #[.bool false, .int .i64 0, .int .i64 0, .int .i64 0, .int .i64 0, .int .i64 0, .int .i64 0, .int .i64 0, .bool false] 75
  rw [alloc_szC, alloc_szC, alloc_szC] at h1
  replace h1 := h1.pm (show (_ : List Ast).Perm (cellsA (w.heap.size + 1) #[.bool true, .int .i64 2, .int .i64 se, .int .i64 it, .int .i64 n, .int .i64 0, .int .i64 st, .int .i64 fr, .bool got] 75 :: cellsA (w.heap.size + 1 + 1) #[.bool false, .int .i64 0, .int .i64 0, .int .i64 0, .int .i64 0, .int .i64 0, .int .i64 0, .int .i64 0, .bool false] 75 :: cellsA w.heap.size #[.int .i64 1, .int .i64 3, .int .i64 3, .int .i64 3] 66 :: mRow (.slice mo m.length mc) m :: l) from by
    simp only [List.cons_append, List.append_assoc, List.nil_append]
    refine (List.perm_append_comm (l₁ := mRow (.slice mo m.length mc) m :: l) (l₂ := [_, _, _])).trans ?_
    refine List.Perm.trans (l₂ := _ :: _ :: _ :: _) (List.Perm.swap _ _ _) (.cons _ (List.Perm.swap _ _ _)))
  clear hO
  replace hm61 := Lib.hid hm61
  go_enter Try.func43, Try.ntmps43
  go_upto_region 4 with fail
  generalize ((w.alloc (.cells #[.int .i64 1, .int .i64 3, .int .i64 3, .int .i64 3] 66)).alloc (.cells #[.bool true, .int .i64 2, .int .i64 se, .int .i64 it, .int .i64 n, .int .i64 0, .int .i64 st, .int .i64 fr, .bool got] 75)).alloc (.cells #[.bool false, .int .i64 0, .int .i64 0, .int .i64 0, .int .i64 0, .int .i64 0, .int .i64 0, .int .i64 0, .bool false] 75) = u at *
  generalize w.heap.size + 1 + 1 = zb at *
  generalize w.heap.size + 1 = wb at *
  generalize w.heap.size = pb at *
  obtain ⟨r0, r1, r2, r3, r4, r5, r6, r7, r8⟩ := get9a h1
  obtain ⟨e0, e1, e2, e3⟩ : _ ∧ _ ∧ _ ∧ _ := ⟨(h1.cget 2 rfl 0).1, (h1.cget 2 rfl 1).1, (h1.cget 2 rfl 2).1, (h1.cget 2 rfl 3).1⟩
  simp at e0 e1 e2 e3
  have f5 := (h1.cget 0 rfl 5).2
  have h2 := Lib.hid (h1.cset 0 rfl 5 (.int .i64 1))
  go_upto_region 5 with fail
  replace h2 := h2.out
  clear h1 f5
  clear r0 r1 r2 r3 r4 r5 r6 r7 r8 e0 e1 e2 e3
  generalize u.setCell ⟨wb, 5, none⟩ (.int .i64 1) = u2 at *
  replace h2 : Own w0 u2 (cellsA wb #[.bool true, .int .i64 2, .int .i64 se, .int .i64 it, .int .i64 n, .int .i64 1, .int .i64 st, .int .i64 fr, .bool got] 75 :: cellsA zb #[.bool false, .int .i64 0, .int .i64 0, .int .i64 0, .int .i64 0, .int .i64 0, .int .i64 0, .int .i64 0, .bool false] 75 :: cellsA pb #[.int .i64 1, .int .i64 3, .int .i64 3, .int .i64 3] 66 :: mRow (.slice mo m.length mc) m :: l) := h2
  obtain ⟨r0, r1, r2, r3, r4, r5, r6, r7, r8⟩ := get9a h2
  obtain ⟨e0, e1, e2, e3⟩ : _ ∧ _ ∧ _ ∧ _ := ⟨(h2.cget 2 rfl 0).1, (h2.cget 2 rfl 1).1, (h2.cget 2 rfl 2).1, (h2.cget 2 rfl 3).1⟩
  simp at e0 e1 e2 e3
  have DO := Lib.hid (fun (w1 : World) (h : Own w0 w1 (cellsA wb #[.bool true, .int .i64 2, .int .i64 se, .int .i64 it, .int .i64 n, .int .i64 1, .int .i64 st, .int .i64 fr, .bool got] 75 :: cellsA zb #[.bool false, .int .i64 0, .int .i64 0, .int .i64 0, .int .i64 0, .int .i64 0, .int .i64 0, .int .i64 0, .bool false] 75 :: cellsA pb #[.int .i64 1, .int .i64 3, .int .i64 3, .int .i64 3] 66 :: mRow (.slice mo m.length mc) m :: l)) => rdo' hm61.out h true got se it n 1 st fr 3 it n 1 (by unfold kindK; omega) (by omega) 0 (tokV se it n) (by simp [dof]) m' hm')
  go_upto_region 6 with (go_at_call 71; refine (DO.out _ h2).mono ?_; rintro e w3 ⟨ao2, c2, rfl, h3⟩)
  clear r0 r1 r2 r3 r4 r5 r6 r7 r8 e0 e1 e2 e3
  clear h2 DO
  replace h3 : Own w0 w3 (cellsA wb #[.bool true, .int .i64 2, .int .i64 se, .int .i64 it, .int .i64 n, .int .i64 1, .int .i64 st, .int .i64 fr, .bool got] 75 :: cellsA zb #[.bool false, .int .i64 0, .int .i64 0, .int .i64 0, .int .i64 0, .int .i64 0, .int .i64 0, .int .i64 0, .bool false] 75 :: cellsA pb #[.int .i64 1, .int .i64 3, .int .i64 3, .int .i64 3] 66 :: mRow (.slice ao2 m'.length c2) m' :: l) := h3
  obtain ⟨r0, r1, r2, r3, r4, r5, r6, r7, r8⟩ := get9a h3
  obtain ⟨f0, f1, f2, f3, f4, f5, f6, f7, f8⟩ := get9f h3
  obtain ⟨z0, z1, z2, z3, z4, z5, z6, z7, z8⟩ := get9 h3
  have hF := set9 h3 (.bool true) (.int .i64 2) (.int .i64 se) (.int .i64 it) (.int .i64 n) (.int .i64 1) (.int .i64 st) (.int .i64 fr) (.bool got)
  replace hF := Lib.hid hF
  clear h3
  go_wp2_with fail
  replace hF := hF.out
  clear r0 f0 z0 r1 f1 z1 r2 f2 z2 r3 f3 z3 r4 f4 z4 r5 f5 z5 r6 f6 z6 r7 f7 z7 r8 f8 z8
  obtain ⟨z0, z1, z2, z3, z4, z5, z6, z7, z8⟩ := get9 hF
  generalize ((((((((w3.setCell ⟨zb, 0, none⟩ (.bool true)).setCell ⟨zb, 1, none⟩ (.int .i64 2)).setCell ⟨zb, 2, none⟩ (.int .i64 se)).setCell ⟨zb, 3, none⟩ (.int .i64 it)).setCell ⟨zb, 4, none⟩ (.int .i64 n)).setCell ⟨zb, 5, none⟩ (.int .i64 1)).setCell ⟨zb, 6, none⟩ (.int .i64 st)).setCell ⟨zb, 7, none⟩ (.int .i64 fr)).setCell ⟨zb, 8, none⟩ (.bool got) = u10 at *
  have hEnd := hF.sub (.cons _ (.cons _ (.cons _ (List.Sublist.refl _))))
  exact bodyPost_ret (v := .tuple #[.agg #[.bool true, .int .i64 2, .int .i64 se, .int .i64 it, .int .i64 n, .int .i64 1, .int .i64 st, .int .i64 fr, .bool got], .slice ao2 m'.length c2]) (by simp [results, Try.results43, go_sem, z0, z1, z2, z3, z4, z5, z6, z7, z8]) rfl ⟨_, _, rfl, hEnd⟩
theorem rcP1y {w0 w : World} {mo : Option Addr} {mc : Nat} {m : List Int} {l : List Ast} (hm61 : m.length = 61) (hO : Own w0 w (mRow (.slice mo m.length mc) m :: l)) (se it n st fr : Int) (got : Bool) (hit : -1099511627776 ≤ it ∧ it ≤ 1099511627776) (X : Int) (hX : m.getD (ixC (it - 1) 0) 0 = X) (c : n < X) : Calls Try.prog 43 #[.agg #[.int .i64 1, .int .i64 3, .int .i64 3, .int .i64 3], .agg #[.bool true, .int .i64 2, .int .i64 se, .int .i64 it, .int .i64 n, .int .i64 1, .int .i64 st, .int .i64 fr, .bool got], .slice mo m.length mc] w fun e w' => ∃ ao' c', e = .returned (.tuple #[.agg #[.bool true, .int .i64 2, .int .i64 se, .int .i64 it, .int .i64 n, .int .i64 2, .int .i64 st, .int .i64 fr, .bool got], .slice ao' m.length c']) ∧ Own w0 w' (mRow (.slice ao' m.length c') m :: l) := by
  have h1 := ((hO.box #[.int .i64 1, .int .i64 3, .int .i64 3, .int .i64 3] 66).box #[.bool true, .int .i64 2, .int .i64 se, .int .i64 it, .int .i64 n, .int .i64 1, .int .i64 st, .int .i64 fr, .bool got] 75).box #[.bool false, .int .i64 0, .int .i64 0, .int .i64 0, .int .i64 0, .int .i64 0, .int .i64 0, .int .i64 0, .bool false] 75
  rw [alloc_szC, alloc_szC, alloc_szC] at h1
  replace h1 := h1.pm (show (_ : List Ast).Perm (cellsA (w.heap.size + 1) #[.bool true, .int .i64 2, .int .i64 se, .int .i64 it, .int .i64 n, .int .i64 1, .int .i64 st, .int .i64 fr, .bool got] 75 :: cellsA (w.heap.size + 1 + 1) #[.bool false, .int .i64 0, .int .i64 0, .int .i64 0, .int .i64 0, .int .i64 0, .int .i64 0, .int .i64 0, .bool false] 75 :: cellsA w.heap.size #[.int .i64 1, .int .i64 3, .int .i64 3, .int .i64 3] 66 :: mRow (.slice mo m.length mc) m :: l) from by
    simp only [List.cons_append, List.append_assoc, List.nil_append]
    refine (List.perm_append_comm (l₁ := mRow (.slice mo m.length mc) m :: l) (l₂ := [_, _, _])).trans ?_
    refine List.Perm.trans (l₂ := _ :: _ :: _ :: _) (List.Perm.swap _ _ _) (.cons _ (List.Perm.swap _ _ _)))
  clear hO
  replace hm61 := Lib.hid hm61
  go_enter Try.func43, Try.ntmps43
  go_upto_region 8 with fail
  generalize ((w.alloc (.cells #[.int .i64 1, .int .i64 3, .int .i64 3, .int .i64 3] 66)).alloc (.cells #[.bool true, .int .i64 2, .int .i64 se, .int .i64 it, .int .i64 n, .int .i64 1, .int .i64 st, .int .i64 fr, .bool got] 75)).alloc (.cells #[.bool false, .int .i64 0, .int .i64 0, .int .i64 0, .int .i64 0, .int .i64 0, .int .i64 0, .int .i64 0, .bool false] 75) = u at *
  generalize w.heap.size + 1 + 1 = zb at *
  generalize w.heap.size + 1 = wb at *
  generalize w.heap.size = pb at *
  have h2 : Own w0 u (cellsA wb #[.bool true, .int .i64 2, .int .i64 se, .int .i64 it, .int .i64 n, .int .i64 1, .int .i64 st, .int .i64 fr, .bool got] 75 :: cellsA zb #[.bool false, .int .i64 0, .int .i64 0, .int .i64 0, .int .i64 0, .int .i64 0, .int .i64 0, .int .i64 0, .bool false] 75 :: cellsA pb #[.int .i64 1, .int .i64 3, .int .i64 3, .int .i64 3] 66 :: mRow (.slice mo m.length mc) m :: l) := h1
  clear h1
  obtain ⟨r0, r1, r2, r3, r4, r5, r6, r7, r8⟩ := get9a h2
  obtain ⟨e0, e1, e2, e3⟩ : _ ∧ _ ∧ _ ∧ _ := ⟨(h2.cget 2 rfl 0).1, (h2.cget 2 rfl 1).1, (h2.cget 2 rfl 2).1, (h2.cget 2 rfl 3).1⟩
  simp at e0 e1 e2 e3
  have DO := Lib.hid (fun (w1 : World) (h : Own w0 w1 (cellsA wb #[.bool true, .int .i64 2, .int .i64 se, .int .i64 it, .int .i64 n, .int .i64 1, .int .i64 st, .int .i64 fr, .bool got] 75 :: cellsA zb #[.bool false, .int .i64 0, .int .i64 0, .int .i64 0, .int .i64 0, .int .i64 0, .int .i64 0, .int .i64 0, .bool false] 75 :: cellsA pb #[.int .i64 1, .int .i64 3, .int .i64 3, .int .i64 3] 66 :: mRow (.slice mo m.length mc) m :: l)) => rdo' hm61.out h true got se it n 1 st fr 0 (it - 1) 0 0 (by unfold kindK; omega) (by omega) X X (by rw [hX]; simp [dof]) m (set_sameI hX (by rw [hm61.out]; exact ixC_lt _ (by omega))))
  have i1 : IntKind.i64.wrap (it - 1) = it - 1 := IntWalk.i64_in _ (by omega)
  have c2 : decide (n < X) = true := decide_eq_true c
  go_upto_region 9 with (go_at_call 71; refine (DO.out _ h2).mono ?_; rintro e w3 ⟨ao2, c2, rfl, h3⟩)
  clear r0 r1 r2 r3 r4 r5 r6 r7 r8 e0 e1 e2 e3
  clear h2 DO
  replace h3 : Own w0 w3 (cellsA wb #[.bool true, .int .i64 2, .int .i64 se, .int .i64 it, .int .i64 n, .int .i64 1, .int .i64 st, .int .i64 fr, .bool got] 75 :: cellsA zb #[.bool false, .int .i64 0, .int .i64 0, .int .i64 0, .int .i64 0, .int .i64 0, .int .i64 0, .int .i64 0, .bool false] 75 :: cellsA pb #[.int .i64 1, .int .i64 3, .int .i64 3, .int .i64 3] 66 :: mRow (.slice ao2 m.length c2) m :: l) := h3
  obtain ⟨r0, r1, r2, r3, r4, r5, r6, r7, r8⟩ := get9a h3
  obtain ⟨e0, e1, e2, e3⟩ : _ ∧ _ ∧ _ ∧ _ := ⟨(h3.cget 2 rfl 0).1, (h3.cget 2 rfl 1).1, (h3.cget 2 rfl 2).1, (h3.cget 2 rfl 3).1⟩
  simp at e0 e1 e2 e3
  have f5 := (h3.cget 0 rfl 5).2
  have h4 := Lib.hid (h3.cset 0 rfl 5 (.int .i64 3))
  go_upto_region 11 with fail
  replace h4 := h4.out
  clear h3 f5
  clear r0 r1 r2 r3 r4 r5 r6 r7 r8 e0 e1 e2 e3
  generalize w3.setCell ⟨wb, 5, none⟩ (.int .i64 3) = w4 at *
  replace h4 : Own w0 w4 (cellsA wb #[.bool true, .int .i64 2, .int .i64 se, .int .i64 it, .int .i64 n, .int .i64 3, .int .i64 st, .int .i64 fr, .bool got] 75 :: cellsA zb #[.bool false, .int .i64 0, .int .i64 0, .int .i64 0, .int .i64 0, .int .i64 0, .int .i64 0, .int .i64 0, .bool false] 75 :: cellsA pb #[.int .i64 1, .int .i64 3, .int .i64 3, .int .i64 3] 66 :: mRow (.slice ao2 m.length c2) m :: l) := h4
  obtain ⟨r0, r1, r2, r3, r4, r5, r6, r7, r8⟩ := get9a h4
  obtain ⟨e0, e1, e2, e3⟩ : _ ∧ _ ∧ _ ∧ _ := ⟨(h4.cget 2 rfl 0).1, (h4.cget 2 rfl 1).1, (h4.cget 2 rfl 2).1, (h4.cget 2 rfl 3).1⟩
  simp at e0 e1 e2 e3
  have f5 := (h4.cget 0 rfl 5).2
  have h5 := Lib.hid (h4.cset 0 rfl 5 (.int .i64 2))
  go_upto_region 12 with fail
  replace h5 := h5.out
  clear h4 f5
  clear r0 r1 r2 r3 r4 r5 r6 r7 r8 e0 e1 e2 e3
  generalize w4.setCell ⟨wb, 5, none⟩ (.int .i64 2) = w5 at *
  replace h5 : Own w0 w5 (cellsA wb #[.bool true, .int .i64 2, .int .i64 se, .int .i64 it, .int .i64 n, .int .i64 2, .int .i64 st, .int .i64 fr, .bool got] 75 :: cellsA zb #[.bool false, .int .i64 0, .int .i64 0, .int .i64 0, .int .i64 0, .int .i64 0, .int .i64 0, .int .i64 0, .bool false] 75 :: cellsA pb #[.int .i64 1, .int .i64 3, .int .i64 3, .int .i64 3] 66 :: mRow (.slice ao2 m.length c2) m :: l) := h5
  obtain ⟨r0, r1, r2, r3, r4, r5, r6, r7, r8⟩ := get9a h5
  obtain ⟨f0, f1, f2, f3, f4, f5, f6, f7, f8⟩ := get9f h5
  obtain ⟨z0, z1, z2, z3, z4, z5, z6, z7, z8⟩ := get9 h5
  have hF := set9 h5 (.bool true) (.int .i64 2) (.int .i64 se) (.int .i64 it) (.int .i64 n) (.int .i64 2) (.int .i64 st) (.int .i64 fr) (.bool got)
  replace hF := Lib.hid hF
  clear h5
  go_wp2_with fail
  replace hF := hF.out
  clear r0 f0 z0 r1 f1 z1 r2 f2 z2 r3 f3 z3 r4 f4 z4 r5 f5 z5 r6 f6 z6 r7 f7 z7 r8 f8 z8
  obtain ⟨z0, z1, z2, z3, z4, z5, z6, z7, z8⟩ := get9 hF
  generalize ((((((((w5.setCell ⟨zb, 0, none⟩ (.bool true)).setCell ⟨zb, 1, none⟩ (.int .i64 2)).setCell ⟨zb, 2, none⟩ (.int .i64 se)).setCell ⟨zb, 3, none⟩ (.int .i64 it)).setCell ⟨zb, 4, none⟩ (.int .i64 n)).setCell ⟨zb, 5, none⟩ (.int .i64 2)).setCell ⟨zb, 6, none⟩ (.int .i64 st)).setCell ⟨zb, 7, none⟩ (.int .i64 fr)).setCell ⟨zb, 8, none⟩ (.bool got) = u10 at *
  have hEnd := hF.sub (.cons _ (.cons _ (.cons _ (List.Sublist.refl _))))
  exact bodyPost_ret (v := .tuple #[.agg #[.bool true, .int .i64 2, .int .i64 se, .int .i64 it, .int .i64 n, .int .i64 2, .int .i64 st, .int .i64 fr, .bool got], .slice ao2 m.length c2]) (by simp [results, Try.results43, go_sem, z0, z1, z2, z3, z4, z5, z6, z7, z8]) rfl ⟨_, _, rfl, hEnd⟩
theorem rcP1n {w0 w : World} {mo : Option Addr} {mc : Nat} {m : List Int} {l : List Ast} (hm61 : m.length = 61) (hO : Own w0 w (mRow (.slice mo m.length mc) m :: l)) (se it n st fr : Int) (got : Bool) (hit : -1099511627776 ≤ it ∧ it ≤ 1099511627776) (X : Int) (hX : m.getD (ixC (it - 1) 0) 0 = X) (c : ¬ n < X) : Calls Try.prog 43 #[.agg #[.int .i64 1, .int .i64 3, .int .i64 3, .int .i64 3], .agg #[.bool true, .int .i64 2, .int .i64 se, .int .i64 it, .int .i64 n, .int .i64 1, .int .i64 st, .int .i64 fr, .bool got], .slice mo m.length mc] w fun e w' => ∃ ao' c', e = .returned (.tuple #[.agg #[.bool true, .int .i64 2, .int .i64 se, .int .i64 it, .int .i64 n, .int .i64 3, .int .i64 st, .int .i64 fr, .bool got], .slice ao' m.length c']) ∧ Own w0 w' (mRow (.slice ao' m.length c') m :: l) := by
  have h1 := ((hO.box #[.int .i64 1, .int .i64 3, .int .i64 3, .int .i64 3] 66).box #[.bool true, .int .i64 2, .int .i64 se, .int .i64 it, .int .i64 n, .int .i64 1, .int .i64 st, .int .i64 fr, .bool got] 75).box #[.bool false, .int .i64 0, .int .i64 0, .int .i64 0, .int .i64 0, .int .i64 0, .int .i64 0, .int .i64 0, .bool false] 75
  rw [alloc_szC, alloc_szC, alloc_szC] at h1
  replace h1 := h1.pm (show (_ : List Ast).Perm (cellsA (w.heap.size + 1) #[.bool true, .int .i64 2, .int .i64 se, .int .i64 it, .int .i64 n, .int .i64 1, .int .i64 st, .int .i64 fr, .bool got] 75 :: cellsA (w.heap.size + 1 + 1) #[.bool false, .int .i64 0, .int .i64 0, .int .i64 0, .int .i64 0, .int .i64 0, .int .i64 0, .int .i64 0, .bool false] 75 :: cellsA w.heap.size #[.int .i64 1, .int .i64 3, .int .i64 3, .int .i64 3] 66 :: mRow (.slice mo m.length mc) m :: l) from by
    simp only [List.cons_append, List.append_assoc, List.nil_append]
    refine (List.perm_append_comm (l₁ := mRow (.slice mo m.length mc) m :: l) (l₂ := [_, _, _])).trans ?_
    refine List.Perm.trans (l₂ := _ :: _ :: _ :: _) (List.Perm.swap _ _ _) (.cons _ (List.Perm.swap _ _ _)))
  clear hO
  replace hm61 := Lib.hid hm61
  go_enter Try.func43, Try.ntmps43
  go_upto_region 8 with fail
  generalize ((w.alloc (.cells #[.int .i64 1, .int .i64 3, .int .i64 3, .int .i64 3] 66)).alloc (.cells #[.bool true, .int .i64 2, .int .i64 se, .int .i64 it, .int .i64 n, .int .i64 1, .int .i64 st, .int .i64 fr, .bool got] 75)).alloc (.cells #[.bool false, .int .i64 0, .int .i64 0, .int .i64 0, .int .i64 0, .int .i64 0, .int .i64 0, .int .i64 0, .bool false] 75) = u at *
  generalize w.heap.size + 1 + 1 = zb at *
  generalize w.heap.size + 1 = wb at *
  generalize w.heap.size = pb at *
  have h2 : Own w0 u (cellsA wb #[.bool true, .int .i64 2, .int .i64 se, .int .i64 it, .int .i64 n, .int .i64 1, .int .i64 st, .int .i64 fr, .bool got] 75 :: cellsA zb #[.bool false, .int .i64 0, .int .i64 0, .int .i64 0, .int .i64 0, .int .i64 0, .int .i64 0, .int .i64 0, .bool false] 75 :: cellsA pb #[.int .i64 1, .int .i64 3, .int .i64 3, .int .i64 3] 66 :: mRow (.slice mo m.length mc) m :: l) := h1
  clear h1
  obtain ⟨r0, r1, r2, r3, r4, r5, r6, r7, r8⟩ := get9a h2
  obtain ⟨e0, e1, e2, e3⟩ : _ ∧ _ ∧ _ ∧ _ := ⟨(h2.cget 2 rfl 0).1, (h2.cget 2 rfl 1).1, (h2.cget 2 rfl 2).1, (h2.cget 2 rfl 3).1⟩
  simp at e0 e1 e2 e3
  have DO := Lib.hid (fun (w1 : World) (h : Own w0 w1 (cellsA wb #[.bool true, .int .i64 2, .int .i64 se, .int .i64 it, .int .i64 n, .int .i64 1, .int .i64 st, .int .i64 fr, .bool got] 75 :: cellsA zb #[.bool false, .int .i64 0, .int .i64 0, .int .i64 0, .int .i64 0, .int .i64 0, .int .i64 0, .int .i64 0, .bool false] 75 :: cellsA pb #[.int .i64 1, .int .i64 3, .int .i64 3, .int .i64 3] 66 :: mRow (.slice mo m.length mc) m :: l)) => rdo' hm61.out h true got se it n 1 st fr 0 (it - 1) 0 0 (by unfold kindK; omega) (by omega) X X (by rw [hX]; simp [dof]) m (set_sameI hX (by rw [hm61.out]; exact ixC_lt _ (by omega))))
  have i1 : IntKind.i64.wrap (it - 1) = it - 1 := IntWalk.i64_in _ (by omega)
  have c2 : decide (n < X) = false := decide_eq_false c
  go_upto_region 9 with (go_at_call 71; refine (DO.out _ h2).mono ?_; rintro e w3 ⟨ao2, c2, rfl, h3⟩)
  clear r0 r1 r2 r3 r4 r5 r6 r7 r8 e0 e1 e2 e3
  clear h2 DO
  replace h3 : Own w0 w3 (cellsA wb #[.bool true, .int .i64 2, .int .i64 se, .int .i64 it, .int .i64 n, .int .i64 1, .int .i64 st, .int .i64 fr, .bool got] 75 :: cellsA zb #[.bool false, .int .i64 0, .int .i64 0, .int .i64 0, .int .i64 0, .int .i64 0, .int .i64 0, .int .i64 0, .bool false] 75 :: cellsA pb #[.int .i64 1, .int .i64 3, .int .i64 3, .int .i64 3] 66 :: mRow (.slice ao2 m.length c2) m :: l) := h3
  obtain ⟨r0, r1, r2, r3, r4, r5, r6, r7, r8⟩ := get9a h3
  obtain ⟨e0, e1, e2, e3⟩ : _ ∧ _ ∧ _ ∧ _ := ⟨(h3.cget 2 rfl 0).1, (h3.cget 2 rfl 1).1, (h3.cget 2 rfl 2).1, (h3.cget 2 rfl 3).1⟩
  simp at e0 e1 e2 e3
  have f5 := (h3.cget 0 rfl 5).2
  have h4 := Lib.hid (h3.cset 0 rfl 5 (.int .i64 3))
  go_upto_region 12 with fail
  replace h4 := h4.out
  clear h3 f5
  clear r0 r1 r2 r3 r4 r5 r6 r7 r8 e0 e1 e2 e3
  generalize w3.setCell ⟨wb, 5, none⟩ (.int .i64 3) = w4 at *
  replace h4 : Own w0 w4 (cellsA wb #[.bool true, .int .i64 2, .int .i64 se, .int .i64 it, .int .i64 n, .int .i64 3, .int .i64 st, .int .i64 fr, .bool got] 75 :: cellsA zb #[.bool false, .int .i64 0, .int .i64 0, .int .i64 0, .int .i64 0, .int .i64 0, .int .i64 0, .int .i64 0, .bool false] 75 :: cellsA pb #[.int .i64 1, .int .i64 3, .int .i64 3, .int .i64 3] 66 :: mRow (.slice ao2 m.length c2) m :: l) := h4
  obtain ⟨r0, r1, r2, r3, r4, r5, r6, r7, r8⟩ := get9a h4
  obtain ⟨f0, f1, f2, f3, f4, f5, f6, f7, f8⟩ := get9f h4
  obtain ⟨z0, z1, z2, z3, z4, z5, z6, z7, z8⟩ := get9 h4
  have hF := set9 h4 (.bool true) (.int .i64 2) (.int .i64 se) (.int .i64 it) (.int .i64 n) (.int .i64 3) (.int .i64 st) (.int .i64 fr) (.bool got)
  replace hF := Lib.hid hF
  clear h4
  go_wp2_with fail
  replace hF := hF.out
  clear r0 f0 z0 r1 f1 z1 r2 f2 z2 r3 f3 z3 r4 f4 z4 r5 f5 z5 r6 f6 z6 r7 f7 z7 r8 f8 z8
  obtain ⟨z0, z1, z2, z3, z4, z5, z6, z7, z8⟩ := get9 hF
  generalize ((((((((w4.setCell ⟨zb, 0, none⟩ (.bool true)).setCell ⟨zb, 1, none⟩ (.int .i64 2)).setCell ⟨zb, 2, none⟩ (.int .i64 se)).setCell ⟨zb, 3, none⟩ (.int .i64 it)).setCell ⟨zb, 4, none⟩ (.int .i64 n)).setCell ⟨zb, 5, none⟩ (.int .i64 3)).setCell ⟨zb, 6, none⟩ (.int .i64 st)).setCell ⟨zb, 7, none⟩ (.int .i64 fr)).setCell ⟨zb, 8, none⟩ (.bool got) = u10 at *
  have hEnd := hF.sub (.cons _ (.cons _ (.cons _ (List.Sublist.refl _))))
  exact bodyPost_ret (v := .tuple #[.agg #[.bool true, .int .i64 2, .int .i64 se, .int .i64 it, .int .i64 n, .int .i64 3, .int .i64 st, .int .i64 fr, .bool got], .slice ao2 m.length c2]) (by simp [results, Try.results43, go_sem, z0, z1, z2, z3, z4, z5, z6, z7, z8]) rfl ⟨_, _, rfl, hEnd⟩
theorem rcP2y {w0 w : World} {mo : Option Addr} {mc : Nat} {m : List Int} {l : List Ast} (hm61 : m.length = 61) (hO : Own w0 w (mRow (.slice mo m.length mc) m :: l)) (se it n st fr : Int) (got : Bool) (hit : -1099511627776 ≤ it ∧ it ≤ 1099511627776) (c : m.getD (ixC it 1) 0 = tokV se it n) (m' : List Int) (hm' : m.set (ixC it 1) 0 = m') : Calls Try.prog 43 #[.agg #[.int .i64 1, .int .i64 3, .int .i64 3, .int .i64 3], .agg #[.bool true, .int .i64 2, .int .i64 se, .int .i64 it, .int .i64 n, .int .i64 2, .int .i64 st, .int .i64 fr, .bool got], .slice mo m.length mc] w fun e w' => ∃ ao' c', e = .returned (.tuple #[.agg #[.bool true, .int .i64 2, .int .i64 se, .int .i64 it, .int .i64 n, .int .i64 3, .int .i64 st, .int .i64 fr, .bool true], .slice ao' m'.length c']) ∧ Own w0 w' (mRow (.slice ao' m'.length c') m' :: l) := by
  have h1 := ((hO.box #[.int .i64 1, .int .i64 3, .int .i64 3, .int .i64 3] 66).box #[.bool true, .int .i64 2, .int .i64 se, .int .i64 it, .int .i64 n, .int .i64 2, .int .i64 st, .int .i64 fr, .bool got] 75).box #[.bool false, .int .i64 0, .int .i64 0, .int .i64 0, .int .i64 0, .int .i64 0, .int .i64 0, .int .i64 0, .bool false] 75
  rw [alloc_szC, alloc_szC, alloc_szC] at h1
  replace h1 := h1.pm (show (_ : List Ast).Perm (cellsA (w.heap.size + 1) #[.bool true, .int .i64 2, .int .i64 se, .int .i64 it, .int .i64 n, .int .i64 2, .int .i64 st, .int .i64 fr, .bool got] 75 :: cellsA (w.heap.size + 1 + 1) #[.bool false, .int .i64 0, .int .i64 0, .int .i64 0, .int .i64 0, .int .i64 0, .int .i64 0, .int .i64 0, .bool false] 75 :: cellsA w.heap.size #[.int .i64 1, .int .i64 3, .int .i64 3, .int .i64 3] 66 :: mRow (.slice mo m.length mc) m :: l) from by
    simp only [List.cons_append, List.append_assoc, List.nil_append]
    refine (List.perm_append_comm (l₁ := mRow (.slice mo m.length mc) m :: l) (l₂ := [_, _, _])).trans ?_
    refine List.Perm.trans (l₂ := _ :: _ :: _ :: _) (List.Perm.swap _ _ _) (.cons _ (List.Perm.swap _ _ _)))
  clear hO
  replace hm61 := Lib.hid hm61
  go_enter Try.func43, Try.ntmps43
  go_upto_region 14 with fail
  generalize ((w.alloc (.cells #[.int .i64 1, .int .i64 3, .int .i64 3, .int .i64 3] 66)).alloc (.cells #[.bool true, .int .i64 2, .int .i64 se, .int .i64 it, .int .i64 n, .int .i64 2, .int .i64 st, .int .i64 fr, .bool got] 75)).alloc (.cells #[.bool false, .int .i64 0, .int .i64 0, .int .i64 0, .int .i64 0, .int .i64 0, .int .i64 0, .int .i64 0, .bool false] 75) = u at *
  generalize w.heap.size + 1 + 1 = zb at *
  generalize w.heap.size + 1 = wb at *
  generalize w.heap.size = pb at *
  have h2 : Own w0 u (cellsA wb #[.bool true, .int .i64 2, .int .i64 se, .int .i64 it, .int .i64 n, .int .i64 2, .int .i64 st, .int .i64 fr, .bool got] 75 :: cellsA zb #[.bool false, .int .i64 0, .int .i64 0, .int .i64 0, .int .i64 0, .int .i64 0, .int .i64 0, .int .i64 0, .bool false] 75 :: cellsA pb #[.int .i64 1, .int .i64 3, .int .i64 3, .int .i64 3] 66 :: mRow (.slice mo m.length mc) m :: l) := h1
  clear h1
  obtain ⟨r0, r1, r2, r3, r4, r5, r6, r7, r8⟩ := get9a h2
  obtain ⟨e0, e1, e2, e3⟩ : _ ∧ _ ∧ _ ∧ _ := ⟨(h2.cget 2 rfl 0).1, (h2.cget 2 rfl 1).1, (h2.cget 2 rfl 2).1, (h2.cget 2 rfl 3).1⟩
  simp at e0 e1 e2 e3
  have DO := Lib.hid (fun (w1 : World) (h : Own w0 w1 (cellsA wb #[.bool true, .int .i64 2, .int .i64 se, .int .i64 it, .int .i64 n, .int .i64 2, .int .i64 st, .int .i64 fr, .bool got] 75 :: cellsA zb #[.bool false, .int .i64 0, .int .i64 0, .int .i64 0, .int .i64 0, .int .i64 0, .int .i64 0, .int .i64 0, .bool false] 75 :: cellsA pb #[.int .i64 1, .int .i64 3, .int .i64 3, .int .i64 3] 66 :: mRow (.slice mo m.length mc) m :: l)) => rdo' hm61.out h true got se it n 2 st fr 4 it n 1 (by unfold kindK; omega) (by omega) 1 0 (by unfold dof; rw [if_neg (by decide), if_neg (by decide), if_neg (by decide), if_pos c]) m' hm')
  go_upto_region 15 with (go_at_call 71; refine (DO.out _ h2).mono ?_; rintro e w3 ⟨ao2, c2, rfl, h3⟩)
  clear r0 r1 r2 r3 r4 r5 r6 r7 r8 e0 e1 e2 e3
  clear h2 DO
  replace h3 : Own w0 w3 (cellsA wb #[.bool true, .int .i64 2, .int .i64 se, .int .i64 it, .int .i64 n, .int .i64 2, .int .i64 st, .int .i64 fr, .bool got] 75 :: cellsA zb #[.bool false, .int .i64 0, .int .i64 0, .int .i64 0, .int .i64 0, .int .i64 0, .int .i64 0, .int .i64 0, .bool false] 75 :: cellsA pb #[.int .i64 1, .int .i64 3, .int .i64 3, .int .i64 3] 66 :: mRow (.slice ao2 m'.length c2) m' :: l) := h3
  obtain ⟨r0, r1, r2, r3, r4, r5, r6, r7, r8⟩ := get9a h3
  obtain ⟨e0, e1, e2, e3⟩ : _ ∧ _ ∧ _ ∧ _ := ⟨(h3.cget 2 rfl 0).1, (h3.cget 2 rfl 1).1, (h3.cget 2 rfl 2).1, (h3.cget 2 rfl 3).1⟩
  simp at e0 e1 e2 e3
  have f5 := (h3.cget 0 rfl 5).2
  have h4 := Lib.hid (h3.cset 0 rfl 5 (.int .i64 3))
  go_upto_region 16 with fail
  replace h4 := h4.out
  clear h3 f5
  clear r0 r1 r2 r3 r4 r5 r6 r7 r8 e0 e1 e2 e3
  generalize w3.setCell ⟨wb, 5, none⟩ (.int .i64 3) = w4 at *
  replace h4 : Own w0 w4 (cellsA wb #[.bool true, .int .i64 2, .int .i64 se, .int .i64 it, .int .i64 n, .int .i64 3, .int .i64 st, .int .i64 fr, .bool got] 75 :: cellsA zb #[.bool false, .int .i64 0, .int .i64 0, .int .i64 0, .int .i64 0, .int .i64 0, .int .i64 0, .int .i64 0, .bool false] 75 :: cellsA pb #[.int .i64 1, .int .i64 3, .int .i64 3, .int .i64 3] 66 :: mRow (.slice ao2 m'.length c2) m' :: l) := h4
  obtain ⟨r0, r1, r2, r3, r4, r5, r6, r7, r8⟩ := get9a h4
  obtain ⟨e0, e1, e2, e3⟩ : _ ∧ _ ∧ _ ∧ _ := ⟨(h4.cget 2 rfl 0).1, (h4.cget 2 rfl 1).1, (h4.cget 2 rfl 2).1, (h4.cget 2 rfl 3).1⟩
  simp at e0 e1 e2 e3
  have f8 := (h4.cget 0 rfl 8).2
  have h5 := Lib.hid (h4.cset 0 rfl 8 (.bool true))
  go_upto_region 17 with fail
  replace h5 := h5.out
  clear h4 f8
  clear r0 r1 r2 r3 r4 r5 r6 r7 r8 e0 e1 e2 e3
  generalize w4.setCell ⟨wb, 8, none⟩ (.bool true) = w5 at *
  replace h5 : Own w0 w5 (cellsA wb #[.bool true, .int .i64 2, .int .i64 se, .int .i64 it, .int .i64 n, .int .i64 3, .int .i64 st, .int .i64 fr, .bool true] 75 :: cellsA zb #[.bool false, .int .i64 0, .int .i64 0, .int .i64 0, .int .i64 0, .int .i64 0, .int .i64 0, .int .i64 0, .bool false] 75 :: cellsA pb #[.int .i64 1, .int .i64 3, .int .i64 3, .int .i64 3] 66 :: mRow (.slice ao2 m'.length c2) m' :: l) := h5
  obtain ⟨r0, r1, r2, r3, r4, r5, r6, r7, r8⟩ := get9a h5
  obtain ⟨f0, f1, f2, f3, f4, f5, f6, f7, f8⟩ := get9f h5
  obtain ⟨z0, z1, z2, z3, z4, z5, z6, z7, z8⟩ := get9 h5
  have hF := set9 h5 (.bool true) (.int .i64 2) (.int .i64 se) (.int .i64 it) (.int .i64 n) (.int .i64 3) (.int .i64 st) (.int .i64 fr) (.bool true)
  replace hF := Lib.hid hF
  clear h5
  go_wp2_with fail
  replace hF := hF.out
  clear r0 f0 z0 r1 f1 z1 r2 f2 z2 r3 f3 z3 r4 f4 z4 r5 f5 z5 r6 f6 z6 r7 f7 z7 r8 f8 z8
  obtain ⟨z0, z1, z2, z3, z4, z5, z6, z7, z8⟩ := get9 hF
  generalize ((((((((w5.setCell ⟨zb, 0, none⟩ (.bool true)).setCell ⟨zb, 1, none⟩ (.int .i64 2)).setCell ⟨zb, 2, none⟩ (.int .i64 se)).setCell ⟨zb, 3, none⟩ (.int .i64 it)).setCell ⟨zb, 4, none⟩ (.int .i64 n)).setCell ⟨zb, 5, none⟩ (.int .i64 3)).setCell ⟨zb, 6, none⟩ (.int .i64 st)).setCell ⟨zb, 7, none⟩ (.int .i64 fr)).setCell ⟨zb, 8, none⟩ (.bool true) = u10 at *
  have hEnd := hF.sub (.cons _ (.cons _ (.cons _ (List.Sublist.refl _))))
  exact bodyPost_ret (v := .tuple #[.agg #[.bool true, .int .i64 2, .int .i64 se, .int .i64 it, .int .i64 n, .int .i64 3, .int .i64 st, .int .i64 fr, .bool true], .slice ao2 m'.length c2]) (by simp [results, Try.results43, go_sem, z0, z1, z2, z3, z4, z5, z6, z7, z8]) rfl ⟨_, _, rfl, hEnd⟩
theorem rcP2n {w0 w : World} {mo : Option Addr} {mc : Nat} {m : List Int} {l : List Ast} (hm61 : m.length = 61) (hO : Own w0 w (mRow (.slice mo m.length mc) m :: l)) (se it n st fr : Int) (got : Bool) (hit : -1099511627776 ≤ it ∧ it ≤ 1099511627776) (X : Int) (hX : m.getD (ixC it 1) 0 = X) (c : ¬ X = tokV se it n) : Calls Try.prog 43 #[.agg #[.int .i64 1, .int .i64 3, .int .i64 3, .int .i64 3], .agg #[.bool true, .int .i64 2, .int .i64 se, .int .i64 it, .int .i64 n, .int .i64 2, .int .i64 st, .int .i64 fr, .bool got], .slice mo m.length mc] w fun e w' => ∃ ao' c', e = .returned (.tuple #[.agg #[.bool true, .int .i64 2, .int .i64 se, .int .i64 it, .int .i64 n, .int .i64 3, .int .i64 st, .int .i64 fr, .bool false], .slice ao' m.length c']) ∧ Own w0 w' (mRow (.slice ao' m.length c') m :: l) := by
  have h1 := ((hO.box #[.int .i64 1, .int .i64 3, .int .i64 3, .int .i64 3] 66).box #[.bool true, .int .i64 2, .int .i64 se, .int .i64 it, .int .i64 n, .int .i64 2, .int .i64 st, .int .i64 fr, .bool got] 75).box #[.bool false, .int .i64 0, .int .i64 0, .int .i64 0, .int .i64 0, .int .i64 0, .int .i64 0, .int .i64 0, .bool false] 75
  rw [alloc_szC, alloc_szC, alloc_szC] at h1
  replace h1 := h1.pm (show (_ : List Ast).Perm (cellsA (w.heap.size + 1) #[.bool true, .int .i64 2, .int .i64 se, .int .i64 it, .int .i64 n, .int .i64 2, .int .i64 st, .int .i64 fr, .bool got] 75 :: cellsA (w.heap.size + 1 + 1) #[.bool false, .int .i64 0, .int .i64 0, .int .i64 0, .int .i64 0, .int .i64 0, .int .i64 0, .int .i64 0, .bool false] 75 :: cellsA w.heap.size #[.int .i64 1, .int .i64 3, .int .i64 3, .int .i64 3] 66 :: mRow (.slice mo m.length mc) m :: l) from by
    simp only [List.cons_append, List.append_assoc, List.nil_append]
    refine (List.perm_append_comm (l₁ := mRow (.slice mo m.length mc) m :: l) (l₂ := [_, _, _])).trans ?_
    refine List.Perm.trans (l₂ := _ :: _ :: _ :: _) (List.Perm.swap _ _ _) (.cons _ (List.Perm.swap _ _ _)))
  clear hO
  replace hm61 := Lib.hid hm61
  go_enter Try.func43, Try.ntmps43
  go_upto_region 14 with fail
  generalize ((w.alloc (.cells #[.int .i64 1, .int .i64 3, .int .i64 3, .int .i64 3] 66)).alloc (.cells #[.bool true, .int .i64 2, .int .i64 se, .int .i64 it, .int .i64 n, .int .i64 2, .int .i64 st, .int .i64 fr, .bool got] 75)).alloc (.cells #[.bool false, .int .i64 0, .int .i64 0, .int .i64 0, .int .i64 0, .int .i64 0, .int .i64 0, .int .i64 0, .bool false] 75) = u at *
  generalize w.heap.size + 1 + 1 = zb at *
  generalize w.heap.size + 1 = wb at *
  generalize w.heap.size = pb at *
  have h2 : Own w0 u (cellsA wb #[.bool true, .int .i64 2, .int .i64 se, .int .i64 it, .int .i64 n, .int .i64 2, .int .i64 st, .int .i64 fr, .bool got] 75 :: cellsA zb #[.bool false, .int .i64 0, .int .i64 0, .int .i64 0, .int .i64 0, .int .i64 0, .int .i64 0, .int .i64 0, .bool false] 75 :: cellsA pb #[.int .i64 1, .int .i64 3, .int .i64 3, .int .i64 3] 66 :: mRow (.slice mo m.length mc) m :: l) := h1
  clear h1
  obtain ⟨r0, r1, r2, r3, r4, r5, r6, r7, r8⟩ := get9a h2
  obtain ⟨e0, e1, e2, e3⟩ : _ ∧ _ ∧ _ ∧ _ := ⟨(h2.cget 2 rfl 0).1, (h2.cget 2 rfl 1).1, (h2.cget 2 rfl 2).1, (h2.cget 2 rfl 3).1⟩
  simp at e0 e1 e2 e3
  have DO := Lib.hid (fun (w1 : World) (h : Own w0 w1 (cellsA wb #[.bool true, .int .i64 2, .int .i64 se, .int .i64 it, .int .i64 n, .int .i64 2, .int .i64 st, .int .i64 fr, .bool got] 75 :: cellsA zb #[.bool false, .int .i64 0, .int .i64 0, .int .i64 0, .int .i64 0, .int .i64 0, .int .i64 0, .int .i64 0, .bool false] 75 :: cellsA pb #[.int .i64 1, .int .i64 3, .int .i64 3, .int .i64 3] 66 :: mRow (.slice mo m.length mc) m :: l)) => rdo' hm61.out h true got se it n 2 st fr 4 it n 1 (by unfold kindK; omega) (by omega) 0 X (by rw [hX]; unfold dof; rw [if_neg (by decide), if_neg (by decide), if_neg (by decide), if_neg c]) m (set_sameI hX (by rw [hm61.out]; exact ixC_lt _ (by omega))))
  go_upto_region 15 with (go_at_call 71; refine (DO.out _ h2).mono ?_; rintro e w3 ⟨ao2, c2, rfl, h3⟩)
  clear r0 r1 r2 r3 r4 r5 r6 r7 r8 e0 e1 e2 e3
  clear h2 DO
  replace h3 : Own w0 w3 (cellsA wb #[.bool true, .int .i64 2, .int .i64 se, .int .i64 it, .int .i64 n, .int .i64 2, .int .i64 st, .int .i64 fr, .bool got] 75 :: cellsA zb #[.bool false, .int .i64 0, .int .i64 0, .int .i64 0, .int .i64 0, .int .i64 0, .int .i64 0, .int .i64 0, .bool false] 75 :: cellsA pb #[.int .i64 1, .int .i64 3, .int .i64 3, .int .i64 3] 66 :: mRow (.slice ao2 m.length c2) m :: l) := h3
  obtain ⟨r0, r1, r2, r3, r4, r5, r6, r7, r8⟩ := get9a h3
  obtain ⟨e0, e1, e2, e3⟩ : _ ∧ _ ∧ _ ∧ _ := ⟨(h3.cget 2 rfl 0).1, (h3.cget 2 rfl 1).1, (h3.cget 2 rfl 2).1, (h3.cget 2 rfl 3).1⟩
  simp at e0 e1 e2 e3
  have f5 := (h3.cget 0 rfl 5).2
  have h4 := Lib.hid (h3.cset 0 rfl 5 (.int .i64 3))
  go_upto_region 16 with fail
  replace h4 := h4.out
  clear h3 f5
  clear r0 r1 r2 r3 r4 r5 r6 r7 r8 e0 e1 e2 e3
  generalize w3.setCell ⟨wb, 5, none⟩ (.int .i64 3) = w4 at *
  replace h4 : Own w0 w4 (cellsA wb #[.bool true, .int .i64 2, .int .i64 se, .int .i64 it, .int .i64 n, .int .i64 3, .int .i64 st, .int .i64 fr, .bool got] 75 :: cellsA zb #[.bool false, .int .i64 0, .int .i64 0, .int .i64 0, .int .i64 0, .int .i64 0, .int .i64 0, .int .i64 0, .bool false] 75 :: cellsA pb #[.int .i64 1, .int .i64 3, .int .i64 3, .int .i64 3] 66 :: mRow (.slice ao2 m.length c2) m :: l) := h4
  obtain ⟨r0, r1, r2, r3, r4, r5, r6, r7, r8⟩ := get9a h4
  obtain ⟨e0, e1, e2, e3⟩ : _ ∧ _ ∧ _ ∧ _ := ⟨(h4.cget 2 rfl 0).1, (h4.cget 2 rfl 1).1, (h4.cget 2 rfl 2).1, (h4.cget 2 rfl 3).1⟩
  simp at e0 e1 e2 e3
  have f8 := (h4.cget 0 rfl 8).2
  have h5 := Lib.hid (h4.cset 0 rfl 8 (.bool false))
  go_upto_region 17 with fail
  replace h5 := h5.out
  clear h4 f8
  clear r0 r1 r2 r3 r4 r5 r6 r7 r8 e0 e1 e2 e3
  generalize w4.setCell ⟨wb, 8, none⟩ (.bool false) = w5 at *
  replace h5 : Own w0 w5 (cellsA wb #[.bool true, .int .i64 2, .int .i64 se, .int .i64 it, .int .i64 n, .int .i64 3, .int .i64 st, .int .i64 fr, .bool false] 75 :: cellsA zb #[.bool false, .int .i64 0, .int .i64 0, .int .i64 0, .int .i64 0, .int .i64 0, .int .i64 0, .int .i64 0, .bool false] 75 :: cellsA pb #[.int .i64 1, .int .i64 3, .int .i64 3, .int .i64 3] 66 :: mRow (.slice ao2 m.length c2) m :: l) := h5
  obtain ⟨r0, r1, r2, r3, r4, r5, r6, r7, r8⟩ := get9a h5
  obtain ⟨f0, f1, f2, f3, f4, f5, f6, f7, f8⟩ := get9f h5
  obtain ⟨z0, z1, z2, z3, z4, z5, z6, z7, z8⟩ := get9 h5
  have hF := set9 h5 (.bool true) (.int .i64 2) (.int .i64 se) (.int .i64 it) (.int .i64 n) (.int .i64 3) (.int .i64 st) (.int .i64 fr) (.bool false)
  replace hF := Lib.hid hF
  clear h5
  go_wp2_with fail
  replace hF := hF.out
  clear r0 f0 z0 r1 f1 z1 r2 f2 z2 r3 f3 z3 r4 f4 z4 r5 f5 z5 r6 f6 z6 r7 f7 z7 r8 f8 z8
  obtain ⟨z0, z1, z2, z3, z4, z5, z6, z7, z8⟩ := get9 hF
  generalize ((((((((w5.setCell ⟨zb, 0, none⟩ (.bool true)).setCell ⟨zb, 1, none⟩ (.int .i64 2)).setCell ⟨zb, 2, none⟩ (.int .i64 se)).setCell ⟨zb, 3, none⟩ (.int .i64 it)).setCell ⟨zb, 4, none⟩ (.int .i64 n)).setCell ⟨zb, 5, none⟩ (.int .i64 3)).setCell ⟨zb, 6, none⟩ (.int .i64 st)).setCell ⟨zb, 7, none⟩ (.int .i64 fr)).setCell ⟨zb, 8, none⟩ (.bool false) = u10 at *
  have hEnd := hF.sub (.cons _ (.cons _ (.cons _ (List.Sublist.refl _))))
  exact bodyPost_ret (v := .tuple #[.agg #[.bool true, .int .i64 2, .int .i64 se, .int .i64 it, .int .i64 n, .int .i64 3, .int .i64 st, .int .i64 fr, .bool false], .slice ao2 m.length c2]) (by simp [results, Try.results43, go_sem, z0, z1, z2, z3, z4, z5, z6, z7, z8]) rfl ⟨_, _, rfl, hEnd⟩
theorem rcR1y {w0 w : World} {mo : Option Addr} {mc : Nat} {m : List Int} {l : List Ast} (hm61 : m.length = 61) (hO : Own w0 w (mRow (.slice mo m.length mc) m :: l)) (se it n st fr : Int) (got : Bool) (hit : -1099511627776 ≤ it ∧ it ≤ 1099511627776) (c : m.getD (ixC (it + 1) 1) 0 = tokV se (it + 1) st) (m' : List Int) (hm' : m.set (ixC (it + 1) 1) 0 = m') : Calls Try.prog 43 #[.agg #[.int .i64 1, .int .i64 3, .int .i64 3, .int .i64 3], .agg #[.bool false, .int .i64 2, .int .i64 se, .int .i64 it, .int .i64 n, .int .i64 1, .int .i64 st, .int .i64 fr, .bool got], .slice mo m.length mc] w fun e w' => ∃ ao' c', e = .returned (.tuple #[.agg #[.bool false, .int .i64 2, .int .i64 se, .int .i64 it, .int .i64 n, .int .i64 2, .int .i64 st, .int .i64 fr, .bool got], .slice ao' m'.length c']) ∧ Own w0 w' (mRow (.slice ao' m'.length c') m' :: l) := by
  have h1 := ((hO.box #[.int .i64 1, .int .i64 3, .int .i64 3, .int .i64 3] 66).box #[.bool false, .int .i64 2, .int .i64 se, .int .i64 it, .int .i64 n, .int .i64 1, .int .i64 st, .int .i64 fr, .bool got] 75).box #[.bool false, .int .i64 0, .int .i64 0, .int .i64 0, .int .i64 0, .int .i64 0, .int .i64 0, .int .i64 0, .bool false] 75
  rw [alloc_szC, alloc_szC, alloc_szC] at h1
  replace h1 := h1.pm (show (_ : List Ast).Perm (cellsA (w.heap.size + 1) #[.bool false, .int .i64 2, .int .i64 se, .int .i64 it, .int .i64 n, .int .i64 1, .int .i64 st, .int .i64 fr, .bool got] 75 :: cellsA (w.heap.size + 1 + 1) #[.bool false, .int .i64 0, .int .i64 0, .int .i64 0, .int .i64 0, .int .i64 0, .int .i64 0, .int .i64 0, .bool false] 75 :: cellsA w.heap.size #[.int .i64 1, .int .i64 3, .int .i64 3, .int .i64 3] 66 :: mRow (.slice mo m.length mc) m :: l) from by
    simp only [List.cons_append, List.append_assoc, List.nil_append]
    refine (List.perm_append_comm (l₁ := mRow (.slice mo m.length mc) m :: l) (l₂ := [_, _, _])).trans ?_
    refine List.Perm.trans (l₂ := _ :: _ :: _ :: _) (List.Perm.swap _ _ _) (.cons _ (List.Perm.swap _ _ _)))
  clear hO
  replace hm61 := Lib.hid hm61
  go_enter Try.func43, Try.ntmps43
  go_upto_region 27 with fail
  generalize ((w.alloc (.cells #[.int .i64 1, .int .i64 3, .int .i64 3, .int .i64 3] 66)).alloc (.cells #[.bool false, .int .i64 2, .int .i64 se, .int .i64 it, .int .i64 n, .int .i64 1, .int .i64 st, .int .i64 fr, .bool got] 75)).alloc (.cells #[.bool false, .int .i64 0, .int .i64 0, .int .i64 0, .int .i64 0, .int .i64 0, .int .i64 0, .int .i64 0, .bool false] 75) = u at *
  generalize w.heap.size + 1 + 1 = zb at *
  generalize w.heap.size + 1 = wb at *
  generalize w.heap.size = pb at *
  have h2 : Own w0 u (cellsA wb #[.bool false, .int .i64 2, .int .i64 se, .int .i64 it, .int .i64 n, .int .i64 1, .int .i64 st, .int .i64 fr, .bool got] 75 :: cellsA zb #[.bool false, .int .i64 0, .int .i64 0, .int .i64 0, .int .i64 0, .int .i64 0, .int .i64 0, .int .i64 0, .bool false] 75 :: cellsA pb #[.int .i64 1, .int .i64 3, .int .i64 3, .int .i64 3] 66 :: mRow (.slice mo m.length mc) m :: l) := h1
  clear h1
  obtain ⟨r0, r1, r2, r3, r4, r5, r6, r7, r8⟩ := get9a h2
  obtain ⟨e0, e1, e2, e3⟩ : _ ∧ _ ∧ _ ∧ _ := ⟨(h2.cget 2 rfl 0).1, (h2.cget 2 rfl 1).1, (h2.cget 2 rfl 2).1, (h2.cget 2 rfl 3).1⟩
  simp at e0 e1 e2 e3
  have DO := Lib.hid (fun (w1 : World) (h : Own w0 w1 (cellsA wb #[.bool false, .int .i64 2, .int .i64 se, .int .i64 it, .int .i64 n, .int .i64 1, .int .i64 st, .int .i64 fr, .bool got] 75 :: cellsA zb #[.bool false, .int .i64 0, .int .i64 0, .int .i64 0, .int .i64 0, .int .i64 0, .int .i64 0, .int .i64 0, .bool false] 75 :: cellsA pb #[.int .i64 1, .int .i64 3, .int .i64 3, .int .i64 3] 66 :: mRow (.slice mo m.length mc) m :: l)) => rdo' hm61.out h false got se it n 1 st fr 4 (it + 1) st 1 (by unfold kindK; omega) (by omega) 1 0 (by unfold dof; rw [if_neg (by decide), if_neg (by decide), if_neg (by decide), if_pos c]) m' hm')
  have i1 : IntKind.i64.wrap (it + 1) = it + 1 := IntWalk.i64_in _ (by omega)
  go_upto_region 28 with (go_at_call 71; refine (DO.out _ h2).mono ?_; rintro e w3 ⟨ao2, c2, rfl, h3⟩)
  clear r0 r1 r2 r3 r4 r5 r6 r7 r8 e0 e1 e2 e3
  clear h2 DO
  replace h3 : Own w0 w3 (cellsA wb #[.bool false, .int .i64 2, .int .i64 se, .int .i64 it, .int .i64 n, .int .i64 1, .int .i64 st, .int .i64 fr, .bool got] 75 :: cellsA zb #[.bool false, .int .i64 0, .int .i64 0, .int .i64 0, .int .i64 0, .int .i64 0, .int .i64 0, .int .i64 0, .bool false] 75 :: cellsA pb #[.int .i64 1, .int .i64 3, .int .i64 3, .int .i64 3] 66 :: mRow (.slice ao2 m'.length c2) m' :: l) := h3
  obtain ⟨r0, r1, r2, r3, r4, r5, r6, r7, r8⟩ := get9a h3
  obtain ⟨e0, e1, e2, e3⟩ : _ ∧ _ ∧ _ ∧ _ := ⟨(h3.cget 2 rfl 0).1, (h3.cget 2 rfl 1).1, (h3.cget 2 rfl 2).1, (h3.cget 2 rfl 3).1⟩
  simp at e0 e1 e2 e3
  have f5 := (h3.cget 0 rfl 5).2
  have h4 := Lib.hid (h3.cset 0 rfl 5 (.int .i64 3))
  go_upto_region 30 with fail
  replace h4 := h4.out
  clear h3 f5
  clear r0 r1 r2 r3 r4 r5 r6 r7 r8 e0 e1 e2 e3
  generalize w3.setCell ⟨wb, 5, none⟩ (.int .i64 3) = w4 at *
  replace h4 : Own w0 w4 (cellsA wb #[.bool false, .int .i64 2, .int .i64 se, .int .i64 it, .int .i64 n, .int .i64 3, .int .i64 st, .int .i64 fr, .bool got] 75 :: cellsA zb #[.bool false, .int .i64 0, .int .i64 0, .int .i64 0, .int .i64 0, .int .i64 0, .int .i64 0, .int .i64 0, .bool false] 75 :: cellsA pb #[.int .i64 1, .int .i64 3, .int .i64 3, .int .i64 3] 66 :: mRow (.slice ao2 m'.length c2) m' :: l) := h4
  obtain ⟨r0, r1, r2, r3, r4, r5, r6, r7, r8⟩ := get9a h4
  obtain ⟨e0, e1, e2, e3⟩ : _ ∧ _ ∧ _ ∧ _ := ⟨(h4.cget 2 rfl 0).1, (h4.cget 2 rfl 1).1, (h4.cget 2 rfl 2).1, (h4.cget 2 rfl 3).1⟩
  simp at e0 e1 e2 e3
  have f5 := (h4.cget 0 rfl 5).2
  have h5 := Lib.hid (h4.cset 0 rfl 5 (.int .i64 2))
  go_upto_region 31 with fail
  replace h5 := h5.out
  clear h4 f5
  clear r0 r1 r2 r3 r4 r5 r6 r7 r8 e0 e1 e2 e3
  generalize w4.setCell ⟨wb, 5, none⟩ (.int .i64 2) = w5 at *
  replace h5 : Own w0 w5 (cellsA wb #[.bool false, .int .i64 2, .int .i64 se, .int .i64 it, .int .i64 n, .int .i64 2, .int .i64 st, .int .i64 fr, .bool got] 75 :: cellsA zb #[.bool false, .int .i64 0, .int .i64 0, .int .i64 0, .int .i64 0, .int .i64 0, .int .i64 0, .int .i64 0, .bool false] 75 :: cellsA pb #[.int .i64 1, .int .i64 3, .int .i64 3, .int .i64 3] 66 :: mRow (.slice ao2 m'.length c2) m' :: l) := h5
  obtain ⟨r0, r1, r2, r3, r4, r5, r6, r7, r8⟩ := get9a h5
  obtain ⟨f0, f1, f2, f3, f4, f5, f6, f7, f8⟩ := get9f h5
  obtain ⟨z0, z1, z2, z3, z4, z5, z6, z7, z8⟩ := get9 h5
  have hF := set9 h5 (.bool false) (.int .i64 2) (.int .i64 se) (.int .i64 it) (.int .i64 n) (.int .i64 2) (.int .i64 st) (.int .i64 fr) (.bool got)
  replace hF := Lib.hid hF
  clear h5
  go_wp2_with fail
  replace hF := hF.out
  clear r0 f0 z0 r1 f1 z1 r2 f2 z2 r3 f3 z3 r4 f4 z4 r5 f5 z5 r6 f6 z6 r7 f7 z7 r8 f8 z8
  obtain ⟨z0, z1, z2, z3, z4, z5, z6, z7, z8⟩ := get9 hF
  generalize ((((((((w5.setCell ⟨zb, 0, none⟩ (.bool false)).setCell ⟨zb, 1, none⟩ (.int .i64 2)).setCell ⟨zb, 2, none⟩ (.int .i64 se)).setCell ⟨zb, 3, none⟩ (.int .i64 it)).setCell ⟨zb, 4, none⟩ (.int .i64 n)).setCell ⟨zb, 5, none⟩ (.int .i64 2)).setCell ⟨zb, 6, none⟩ (.int .i64 st)).setCell ⟨zb, 7, none⟩ (.int .i64 fr)).setCell ⟨zb, 8, none⟩ (.bool got) = u10 at *
  have hEnd := hF.sub (.cons _ (.cons _ (.cons _ (List.Sublist.refl _))))
  exact bodyPost_ret (v := .tuple #[.agg #[.bool false, .int .i64 2, .int .i64 se, .int .i64 it, .int .i64 n, .int .i64 2, .int .i64 st, .int .i64 fr, .bool got], .slice ao2 m'.length c2]) (by simp [results, Try.results43, go_sem, z0, z1, z2, z3, z4, z5, z6, z7, z8]) rfl ⟨_, _, rfl, hEnd⟩
theorem rcR1n {w0 w : World} {mo : Option Addr} {mc : Nat} {m : List Int} {l : List Ast} (hm61 : m.length = 61) (hO : Own w0 w (mRow (.slice mo m.length mc) m :: l)) (se it n st fr : Int) (got : Bool) (hit : -1099511627776 ≤ it ∧ it ≤ 1099511627776) (X : Int) (hX : m.getD (ixC (it + 1) 1) 0 = X) (c : ¬ X = tokV se (it + 1) st) : Calls Try.prog 43 #[.agg #[.int .i64 1, .int .i64 3, .int .i64 3, .int .i64 3], .agg #[.bool false, .int .i64 2, .int .i64 se, .int .i64 it, .int .i64 n, .int .i64 1, .int .i64 st, .int .i64 fr, .bool got], .slice mo m.length mc] w fun e w' => ∃ ao' c', e = .returned (.tuple #[.agg #[.bool false, .int .i64 2, .int .i64 se, .int .i64 it, .int .i64 n, .int .i64 3, .int .i64 st, .int .i64 fr, .bool got], .slice ao' m.length c']) ∧ Own w0 w' (mRow (.slice ao' m.length c') m :: l) := by
  have h1 := ((hO.box #[.int .i64 1, .int .i64 3, .int .i64 3, .int .i64 3] 66).box #[.bool false, .int .i64 2, .int .i64 se, .int .i64 it, .int .i64 n, .int .i64 1, .int .i64 st, .int .i64 fr, .bool got] 75).box #[.bool false, .int .i64 0, .int .i64 0, .int .i64 0, .int .i64 0, .int .i64 0, .int .i64 0, .int .i64 0, .bool false] 75
  rw [alloc_szC, alloc_szC, alloc_szC] at h1
  replace h1 := h1.pm (show (_ : List Ast).Perm (cellsA (w.heap.size + 1) #[.bool false, .int .i64 2, .int .i64 se, .int .i64 it, .int .i64 n, .int .i64 1, .int .i64 st, .int .i64 fr, .bool got] 75 :: cellsA (w.heap.size + 1 + 1) #[.bool false, .int .i64 0, .int .i64 0, .int .i64 0, .int .i64 0, .int .i64 0, .int .i64 0, .int .i64 0, .bool false] 75 :: cellsA w.heap.size #[.int .i64 1, .int .i64 3, .int .i64 3, .int .i64 3] 66 :: mRow (.slice mo m.length mc) m :: l) from by
    simp only [List.cons_append, List.append_assoc, List.nil_append]
    refine (List.perm_append_comm (l₁ := mRow (.slice mo m.length mc) m :: l) (l₂ := [_, _, _])).trans ?_
    refine List.Perm.trans (l₂ := _ :: _ :: _ :: _) (List.Perm.swap _ _ _) (.cons _ (List.Perm.swap _ _ _)))
  clear hO
  replace hm61 := Lib.hid hm61
  go_enter Try.func43, Try.ntmps43
  go_upto_region 27 with fail
  generalize ((w.alloc (.cells #[.int .i64 1, .int .i64 3, .int .i64 3, .int .i64 3] 66)).alloc (.cells #[.bool false, .int .i64 2, .int .i64 se, .int .i64 it, .int .i64 n, .int .i64 1, .int .i64 st, .int .i64 fr, .bool got] 75)).alloc (.cells #[.bool false, .int .i64 0, .int .i64 0, .int .i64 0, .int .i64 0, .int .i64 0, .int .i64 0, .int .i64 0, .bool false] 75) = u at *
  generalize w.heap.size + 1 + 1 = zb at *
  generalize w.heap.size + 1 = wb at *
  generalize w.heap.size = pb at *
  have h2 : Own w0 u (cellsA wb #[.bool false, .int .i64 2, .int .i64 se, .int .i64 it, .int .i64 n, .int .i64 1, .int .i64 st, .int .i64 fr, .bool got] 75 :: cellsA zb #[.bool false, .int .i64 0, .int .i64 0, .int .i64 0, .int .i64 0, .int .i64 0, .int .i64 0, .int .i64 0, .bool false] 75 :: cellsA pb #[.int .i64 1, .int .i64 3, .int .i64 3, .int .i64 3] 66 :: mRow (.slice mo m.length mc) m :: l) := h1
  clear h1
  obtain ⟨r0, r1, r2, r3, r4, r5, r6, r7, r8⟩ := get9a h2
  obtain ⟨e0, e1, e2, e3⟩ : _ ∧ _ ∧ _ ∧ _ := ⟨(h2.cget 2 rfl 0).1, (h2.cget 2 rfl 1).1, (h2.cget 2 rfl 2).1, (h2.cget 2 rfl 3).1⟩
  simp at e0 e1 e2 e3
  have DO := Lib.hid (fun (w1 : World) (h : Own w0 w1 (cellsA wb #[.bool false, .int .i64 2, .int .i64 se, .int .i64 it, .int .i64 n, .int .i64 1, .int .i64 st, .int .i64 fr, .bool got] 75 :: cellsA zb #[.bool false, .int .i64 0, .int .i64 0, .int .i64 0, .int .i64 0, .int .i64 0, .int .i64 0, .int .i64 0, .bool false] 75 :: cellsA pb #[.int .i64 1, .int .i64 3, .int .i64 3, .int .i64 3] 66 :: mRow (.slice mo m.length mc) m :: l)) => rdo' hm61.out h false got se it n 1 st fr 4 (it + 1) st 1 (by unfold kindK; omega) (by omega) 0 X (by rw [hX]; unfold dof; rw [if_neg (by decide), if_neg (by decide), if_neg (by decide), if_neg c]) m (set_sameI hX (by rw [hm61.out]; exact ixC_lt _ (by omega))))
  have i1 : IntKind.i64.wrap (it + 1) = it + 1 := IntWalk.i64_in _ (by omega)
  go_upto_region 28 with (go_at_call 71; refine (DO.out _ h2).mono ?_; rintro e w3 ⟨ao2, c2, rfl, h3⟩)
  clear r0 r1 r2 r3 r4 r5 r6 r7 r8 e0 e1 e2 e3
  clear h2 DO
  replace h3 : Own w0 w3 (cellsA wb #[.bool false, .int .i64 2, .int .i64 se, .int .i64 it, .int .i64 n, .int .i64 1, .int .i64 st, .int .i64 fr, .bool got] 75 :: cellsA zb #[.bool false, .int .i64 0, .int .i64 0, .int .i64 0, .int .i64 0, .int .i64 0, .int .i64 0, .int .i64 0, .bool false] 75 :: cellsA pb #[.int .i64 1, .int .i64 3, .int .i64 3, .int .i64 3] 66 :: mRow (.slice ao2 m.length c2) m :: l) := h3
  obtain ⟨r0, r1, r2, r3, r4, r5, r6, r7, r8⟩ := get9a h3
  obtain ⟨e0, e1, e2, e3⟩ : _ ∧ _ ∧ _ ∧ _ := ⟨(h3.cget 2 rfl 0).1, (h3.cget 2 rfl 1).1, (h3.cget 2 rfl 2).1, (h3.cget 2 rfl 3).1⟩
  simp at e0 e1 e2 e3
  have f5 := (h3.cget 0 rfl 5).2
  have h4 := Lib.hid (h3.cset 0 rfl 5 (.int .i64 3))
  go_upto_region 31 with fail
  replace h4 := h4.out
  clear h3 f5
  clear r0 r1 r2 r3 r4 r5 r6 r7 r8 e0 e1 e2 e3
  generalize w3.setCell ⟨wb, 5, none⟩ (.int .i64 3) = w4 at *
  replace h4 : Own w0 w4 (cellsA wb #[.bool false, .int .i64 2, .int .i64 se, .int .i64 it, .int .i64 n, .int .i64 3, .int .i64 st, .int .i64 fr, .bool got] 75 :: cellsA zb #[.bool false, .int .i64 0, .int .i64 0, .int .i64 0, .int .i64 0, .int .i64 0, .int .i64 0, .int .i64 0, .bool false] 75 :: cellsA pb #[.int .i64 1, .int .i64 3, .int .i64 3, .int .i64 3] 66 :: mRow (.slice ao2 m.length c2) m :: l) := h4
  obtain ⟨r0, r1, r2, r3, r4, r5, r6, r7, r8⟩ := get9a h4
  obtain ⟨f0, f1, f2, f3, f4, f5, f6, f7, f8⟩ := get9f h4
  obtain ⟨z0, z1, z2, z3, z4, z5, z6, z7, z8⟩ := get9 h4
  have hF := set9 h4 (.bool false) (.int .i64 2) (.int .i64 se) (.int .i64 it) (.int .i64 n) (.int .i64 3) (.int .i64 st) (.int .i64 fr) (.bool got)
  replace hF := Lib.hid hF
  clear h4
  go_wp2_with fail
  replace hF := hF.out
  clear r0 f0 z0 r1 f1 z1 r2 f2 z2 r3 f3 z3 r4 f4 z4 r5 f5 z5 r6 f6 z6 r7 f7 z7 r8 f8 z8
  obtain ⟨z0, z1, z2, z3, z4, z5, z6, z7, z8⟩ := get9 hF
  generalize ((((((((w4.setCell ⟨zb, 0, none⟩ (.bool false)).setCell ⟨zb, 1, none⟩ (.int .i64 2)).setCell ⟨zb, 2, none⟩ (.int .i64 se)).setCell ⟨zb, 3, none⟩ (.int .i64 it)).setCell ⟨zb, 4, none⟩ (.int .i64 n)).setCell ⟨zb, 5, none⟩ (.int .i64 3)).setCell ⟨zb, 6, none⟩ (.int .i64 st)).setCell ⟨zb, 7, none⟩ (.int .i64 fr)).setCell ⟨zb, 8, none⟩ (.bool got) = u10 at *
  have hEnd := hF.sub (.cons _ (.cons _ (.cons _ (List.Sublist.refl _))))
  exact bodyPost_ret (v := .tuple #[.agg #[.bool false, .int .i64 2, .int .i64 se, .int .i64 it, .int .i64 n, .int .i64 3, .int .i64 st, .int .i64 fr, .bool got], .slice ao2 m.length c2]) (by simp [results, Try.results43, go_sem, z0, z1, z2, z3, z4, z5, z6, z7, z8]) rfl ⟨_, _, rfl, hEnd⟩
theorem rcR2 {w0 w : World} {mo : Option Addr} {mc : Nat} {m : List Int} {l : List Ast} (hm61 : m.length = 61) (hO : Own w0 w (mRow (.slice mo m.length mc) m :: l)) (se it n st fr : Int) (got : Bool) (hit : -1099511627776 ≤ it ∧ it ≤ 1099511627776) (X : Int) (hX : m.getD (ixC (it + 1) 2) 0 = X) : Calls Try.prog 43 #[.agg #[.int .i64 1, .int .i64 3, .int .i64 3, .int .i64 3], .agg #[.bool false, .int .i64 2, .int .i64 se, .int .i64 it, .int .i64 n, .int .i64 2, .int .i64 st, .int .i64 fr, .bool got], .slice mo m.length mc] w fun e w' => ∃ ao' c', e = .returned (.tuple #[.agg #[.bool false, .int .i64 2, .int .i64 se, .int .i64 it, .int .i64 n, .int .i64 3, .int .i64 st, .int .i64 X, .bool true], .slice ao' m.length c']) ∧ Own w0 w' (mRow (.slice ao' m.length c') m :: l) := by
  have h1 := ((hO.box #[.int .i64 1, .int .i64 3, .int .i64 3, .int .i64 3] 66).box #[.bool false, .int .i64 2, .int .i64 se, .int .i64 it, .int .i64 n, .int .i64 2, .int .i64 st, .int .i64 fr, .bool got] 75).box #[.bool false, .int .i64 0, .int .i64 0, .int .i64 0, .int .i64 0, .int .i64 0, .int .i64 0, .int .i64 0, .bool false] 75
  rw [alloc_szC, alloc_szC, alloc_szC] at h1
  replace h1 := h1.pm (show (_ : List Ast).Perm (cellsA (w.heap.size + 1) #[.bool false, .int .i64 2, .int .i64 se, .int .i64 it, .int .i64 n, .int .i64 2, .int .i64 st, .int .i64 fr, .bool got] 75 :: cellsA (w.heap.size + 1 + 1) #[.bool false, .int .i64 0, .int .i64 0, .int .i64 0, .int .i64 0, .int .i64 0, .int .i64 0, .int .i64 0, .bool false] 75 :: cellsA w.heap.size #[.int .i64 1, .int .i64 3, .int .i64 3, .int .i64 3] 66 :: mRow (.slice mo m.length mc) m :: l) from by
    simp only [List.cons_append, List.append_assoc, List.nil_append]
    refine (List.perm_append_comm (l₁ := mRow (.slice mo m.length mc) m :: l) (l₂ := [_, _, _])).trans ?_
    refine List.Perm.trans (l₂ := _ :: _ :: _ :: _) (List.Perm.swap _ _ _) (.cons _ (List.Perm.swap _ _ _)))
  clear hO
  replace hm61 := Lib.hid hm61
  go_enter Try.func43, Try.ntmps43
  go_upto_region 32 with fail
  generalize ((w.alloc (.cells #[.int .i64 1, .int .i64 3, .int .i64 3, .int .i64 3] 66)).alloc (.cells #[.bool false, .int .i64 2, .int .i64 se, .int .i64 it, .int .i64 n, .int .i64 2, .int .i64 st, .int .i64 fr, .bool got] 75)).alloc (.cells #[.bool false, .int .i64 0, .int .i64 0, .int .i64 0, .int .i64 0, .int .i64 0, .int .i64 0, .int .i64 0, .bool false] 75) = u at *
  generalize w.heap.size + 1 + 1 = zb at *
  generalize w.heap.size + 1 = wb at *
  generalize w.heap.size = pb at *
  have h2 : Own w0 u (cellsA wb #[.bool false, .int .i64 2, .int .i64 se, .int .i64 it, .int .i64 n, .int .i64 2, .int .i64 st, .int .i64 fr, .bool got] 75 :: cellsA zb #[.bool false, .int .i64 0, .int .i64 0, .int .i64 0, .int .i64 0, .int .i64 0, .int .i64 0, .int .i64 0, .bool false] 75 :: cellsA pb #[.int .i64 1, .int .i64 3, .int .i64 3, .int .i64 3] 66 :: mRow (.slice mo m.length mc) m :: l) := h1
  clear h1
  obtain ⟨r0, r1, r2, r3, r4, r5, r6, r7, r8⟩ := get9a h2
  obtain ⟨e0, e1, e2, e3⟩ : _ ∧ _ ∧ _ ∧ _ := ⟨(h2.cget 2 rfl 0).1, (h2.cget 2 rfl 1).1, (h2.cget 2 rfl 2).1, (h2.cget 2 rfl 3).1⟩
  simp at e0 e1 e2 e3
  have DO := Lib.hid (fun (w1 : World) (h : Own w0 w1 (cellsA wb #[.bool false, .int .i64 2, .int .i64 se, .int .i64 it, .int .i64 n, .int .i64 2, .int .i64 st, .int .i64 fr, .bool got] 75 :: cellsA zb #[.bool false, .int .i64 0, .int .i64 0, .int .i64 0, .int .i64 0, .int .i64 0, .int .i64 0, .int .i64 0, .bool false] 75 :: cellsA pb #[.int .i64 1, .int .i64 3, .int .i64 3, .int .i64 3] 66 :: mRow (.slice mo m.length mc) m :: l)) => rdo' hm61.out h false got se it n 2 st fr 5 (it + 1) 0 2 (by unfold kindK; omega) (by omega) X X (by rw [hX]; simp [dof]) m (set_sameI hX (by rw [hm61.out]; exact ixC_lt _ (by omega))))
  have i1 : IntKind.i64.wrap (it + 1) = it + 1 := IntWalk.i64_in _ (by omega)
  go_upto_region 33 with (go_at_call 71; refine (DO.out _ h2).mono ?_; rintro e w3 ⟨ao2, c2, rfl, h3⟩)
  clear r0 r1 r2 r3 r4 r5 r6 r7 r8 e0 e1 e2 e3
  clear h2 DO
  replace h3 : Own w0 w3 (cellsA wb #[.bool false, .int .i64 2, .int .i64 se, .int .i64 it, .int .i64 n, .int .i64 2, .int .i64 st, .int .i64 fr, .bool got] 75 :: cellsA zb #[.bool false, .int .i64 0, .int .i64 0, .int .i64 0, .int .i64 0, .int .i64 0, .int .i64 0, .int .i64 0, .bool false] 75 :: cellsA pb #[.int .i64 1, .int .i64 3, .int .i64 3, .int .i64 3] 66 :: mRow (.slice ao2 m.length c2) m :: l) := h3
  obtain ⟨r0, r1, r2, r3, r4, r5, r6, r7, r8⟩ := get9a h3
  obtain ⟨e0, e1, e2, e3⟩ : _ ∧ _ ∧ _ ∧ _ := ⟨(h3.cget 2 rfl 0).1, (h3.cget 2 rfl 1).1, (h3.cget 2 rfl 2).1, (h3.cget 2 rfl 3).1⟩
  simp at e0 e1 e2 e3
  have f5 := (h3.cget 0 rfl 5).2
  have h4 := Lib.hid (h3.cset 0 rfl 5 (.int .i64 3))
  go_upto_region 34 with fail
  replace h4 := h4.out
  clear h3 f5
  clear r0 r1 r2 r3 r4 r5 r6 r7 r8 e0 e1 e2 e3
  generalize w3.setCell ⟨wb, 5, none⟩ (.int .i64 3) = w4 at *
  replace h4 : Own w0 w4 (cellsA wb #[.bool false, .int .i64 2, .int .i64 se, .int .i64 it, .int .i64 n, .int .i64 3, .int .i64 st, .int .i64 fr, .bool got] 75 :: cellsA zb #[.bool false, .int .i64 0, .int .i64 0, .int .i64 0, .int .i64 0, .int .i64 0, .int .i64 0, .int .i64 0, .bool false] 75 :: cellsA pb #[.int .i64 1, .int .i64 3, .int .i64 3, .int .i64 3] 66 :: mRow (.slice ao2 m.length c2) m :: l) := h4
  obtain ⟨r0, r1, r2, r3, r4, r5, r6, r7, r8⟩ := get9a h4
  obtain ⟨e0, e1, e2, e3⟩ : _ ∧ _ ∧ _ ∧ _ := ⟨(h4.cget 2 rfl 0).1, (h4.cget 2 rfl 1).1, (h4.cget 2 rfl 2).1, (h4.cget 2 rfl 3).1⟩
  simp at e0 e1 e2 e3
  have f7 := (h4.cget 0 rfl 7).2
  have h5 := Lib.hid (h4.cset 0 rfl 7 (.int .i64 X))
  go_upto_region 35 with fail
  replace h5 := h5.out
  clear h4 f7
  clear r0 r1 r2 r3 r4 r5 r6 r7 r8 e0 e1 e2 e3
  generalize w4.setCell ⟨wb, 7, none⟩ (.int .i64 X) = w5 at *
  replace h5 : Own w0 w5 (cellsA wb #[.bool false, .int .i64 2, .int .i64 se, .int .i64 it, .int .i64 n, .int .i64 3, .int .i64 st, .int .i64 X, .bool got] 75 :: cellsA zb #[.bool false, .int .i64 0, .int .i64 0, .int .i64 0, .int .i64 0, .int .i64 0, .int .i64 0, .int .i64 0, .bool false] 75 :: cellsA pb #[.int .i64 1, .int .i64 3, .int .i64 3, .int .i64 3] 66 :: mRow (.slice ao2 m.length c2) m :: l) := h5
  obtain ⟨r0, r1, r2, r3, r4, r5, r6, r7, r8⟩ := get9a h5
  obtain ⟨e0, e1, e2, e3⟩ : _ ∧ _ ∧ _ ∧ _ := ⟨(h5.cget 2 rfl 0).1, (h5.cget 2 rfl 1).1, (h5.cget 2 rfl 2).1, (h5.cget 2 rfl 3).1⟩
  simp at e0 e1 e2 e3
  have f8 := (h5.cget 0 rfl 8).2
  have h6 := Lib.hid (h5.cset 0 rfl 8 (.bool true))
  go_upto_region 36 with fail
  replace h6 := h6.out
  clear h5 f8
  clear r0 r1 r2 r3 r4 r5 r6 r7 r8 e0 e1 e2 e3
  generalize w5.setCell ⟨wb, 8, none⟩ (.bool true) = w6 at *
  replace h6 : Own w0 w6 (cellsA wb #[.bool false, .int .i64 2, .int .i64 se, .int .i64 it, .int .i64 n, .int .i64 3, .int .i64 st, .int .i64 X, .bool true] 75 :: cellsA zb #[.bool false, .int .i64 0, .int .i64 0, .int .i64 0, .int .i64 0, .int .i64 0, .int .i64 0, .int .i64 0, .bool false] 75 :: cellsA pb #[.int .i64 1, .int .i64 3, .int .i64 3, .int .i64 3] 66 :: mRow (.slice ao2 m.length c2) m :: l) := h6
  obtain ⟨r0, r1, r2, r3, r4, r5, r6, r7, r8⟩ := get9a h6
  obtain ⟨f0, f1, f2, f3, f4, f5, f6, f7, f8⟩ := get9f h6
  obtain ⟨z0, z1, z2, z3, z4, z5, z6, z7, z8⟩ := get9 h6
  have hF := set9 h6 (.bool false) (.int .i64 2) (.int .i64 se) (.int .i64 it) (.int .i64 n) (.int .i64 3) (.int .i64 st) (.int .i64 X) (.bool true)
  replace hF := Lib.hid hF
  clear h6
  go_wp2_with fail
  replace hF := hF.out
  clear r0 f0 z0 r1 f1 z1 r2 f2 z2 r3 f3 z3 r4 f4 z4 r5 f5 z5 r6 f6 z6 r7 f7 z7 r8 f8 z8
  obtain ⟨z0, z1, z2, z3, z4, z5, z6, z7, z8⟩ := get9 hF
  generalize ((((((((w6.setCell ⟨zb, 0, none⟩ (.bool false)).setCell ⟨zb, 1, none⟩ (.int .i64 2)).setCell ⟨zb, 2, none⟩ (.int .i64 se)).setCell ⟨zb, 3, none⟩ (.int .i64 it)).setCell ⟨zb, 4, none⟩ (.int .i64 n)).setCell ⟨zb, 5, none⟩ (.int .i64 3)).setCell ⟨zb, 6, none⟩ (.int .i64 st)).setCell ⟨zb, 7, none⟩ (.int .i64 X)).setCell ⟨zb, 8, none⟩ (.bool true) = u10 at *
  have hEnd := hF.sub (.cons _ (.cons _ (.cons _ (List.Sublist.refl _))))
  exact bodyPost_ret (v := .tuple #[.agg #[.bool false, .int .i64 2, .int .i64 se, .int .i64 it, .int .i64 n, .int .i64 3, .int .i64 st, .int .i64 X, .bool true], .slice ao2 m.length c2]) (by simp [results, Try.results43, go_sem, z0, z1, z2, z3, z4, z5, z6, z7, z8]) rfl ⟨_, _, rfl, hEnd⟩
end Go.Proofs.Ytooofpplhedgcaa
