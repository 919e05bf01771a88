/- The document's deque: forebayref13.push. -/
import Derived.Test.YtofnjapgacgdlaaRef13
set_option linter.unusedVariables false
set_option linter.unusedSimpArgs false
namespace Go.Proofs.Ytofnjapgacgdlaa
open Go.RowKit
set_option maxRecDepth 100000
set_option maxHeartbeats 400000
theorem set10 {w0 u : World} {A : Ast} {zb : Nat} {z0 z1 z2 z3 z4 z5 z6 z7 z8 z9 : Value} {t : TypeId} {l : List Ast} (h : Own w0 u (A :: cellsA zb #[z0, z1, z2, z3, z4, z5, z6, z7, z8, z9] t :: l)) (c0 c1 c2 c3 c4 c5 c6 c7 c8 c9 : Value) :
    Own w0 ((((((((((u.setCell ⟨zb, 0, none⟩ c0).setCell ⟨zb, 1, none⟩ c1).setCell ⟨zb, 2, none⟩ c2).setCell ⟨zb, 3, none⟩ c3).setCell ⟨zb, 4, none⟩ c4).setCell ⟨zb, 5, none⟩ c5).setCell ⟨zb, 6, none⟩ c6).setCell ⟨zb, 7, none⟩ c7).setCell ⟨zb, 8, none⟩ c8).setCell ⟨zb, 9, none⟩ c9) (A :: cellsA zb #[c0, c1, c2, c3, c4, c5, c6, c7, c8, c9] t :: l) := by
  have h0 : Own w0 _ (A :: cellsA zb #[c0, z1, z2, z3, z4, z5, z6, z7, z8, z9] t :: l) := h.cset 1 rfl 0 c0
  have h1 : Own w0 _ (A :: cellsA zb #[c0, c1, z2, z3, z4, z5, z6, z7, z8, z9] t :: l) := h0.cset 1 rfl 1 c1
  have h2 : Own w0 _ (A :: cellsA zb #[c0, c1, c2, z3, z4, z5, z6, z7, z8, z9] t :: l) := h1.cset 1 rfl 2 c2
  have h3 : Own w0 _ (A :: cellsA zb #[c0, c1, c2, c3, z4, z5, z6, z7, z8, z9] t :: l) := h2.cset 1 rfl 3 c3
  have h4 : Own w0 _ (A :: cellsA zb #[c0, c1, c2, c3, c4, z5, z6, z7, z8, z9] t :: l) := h3.cset 1 rfl 4 c4
  have h5 : Own w0 _ (A :: cellsA zb #[c0, c1, c2, c3, c4, c5, z6, z7, z8, z9] t :: l) := h4.cset 1 rfl 5 c5
  have h6 : Own w0 _ (A :: cellsA zb #[c0, c1, c2, c3, c4, c5, c6, z7, z8, z9] t :: l) := h5.cset 1 rfl 6 c6
  have h7 : Own w0 _ (A :: cellsA zb #[c0, c1, c2, c3, c4, c5, c6, c7, z8, z9] t :: l) := h6.cset 1 rfl 7 c7
  have h8 : Own w0 _ (A :: cellsA zb #[c0, c1, c2, c3, c4, c5, c6, c7, c8, z9] t :: l) := h7.cset 1 rfl 8 c8
  have h9 : Own w0 _ (A :: cellsA zb #[c0, c1, c2, c3, c4, c5, c6, c7, c8, c9] t :: l) := h8.cset 1 rfl 9 c9
  exact h9
theorem get10 {w0 u : World} {A : Ast} {zb : Nat} {c0 c1 c2 c3 c4 c5 c6 c7 c8 c9 : Value} {t : TypeId} {l : List Ast} (h : Own w0 u (A :: cellsA zb #[c0, c1, c2, c3, c4, c5, c6, c7, c8, c9] t :: l)) : u.cell? ⟨zb, 0, none⟩ = some c0 ∧ u.cell? ⟨zb, 1, none⟩ = some c1 ∧ u.cell? ⟨zb, 2, none⟩ = some c2 ∧ u.cell? ⟨zb, 3, none⟩ = some c3 ∧ u.cell? ⟨zb, 4, none⟩ = some c4 ∧ u.cell? ⟨zb, 5, none⟩ = some c5 ∧ u.cell? ⟨zb, 6, none⟩ = some c6 ∧ u.cell? ⟨zb, 7, none⟩ = some c7 ∧ u.cell? ⟨zb, 8, none⟩ = some c8 ∧ u.cell? ⟨zb, 9, none⟩ = some c9 :=
  ⟨(h.cget 1 rfl 0).1, (h.cget 1 rfl 1).1, (h.cget 1 rfl 2).1, (h.cget 1 rfl 3).1, (h.cget 1 rfl 4).1, (h.cget 1 rfl 5).1, (h.cget 1 rfl 6).1, (h.cget 1 rfl 7).1, (h.cget 1 rfl 8).1, (h.cget 1 rfl 9).1⟩
theorem get10f {w0 u : World} {A : Ast} {zb : Nat} {cs : Array Value} {t : TypeId} {l : List Ast} (h : Own w0 u (A :: cellsA zb cs t :: l)) : u.frozen? ⟨zb, 0, none⟩ = false ∧ u.frozen? ⟨zb, 1, none⟩ = false ∧ u.frozen? ⟨zb, 2, none⟩ = false ∧ u.frozen? ⟨zb, 3, none⟩ = false ∧ u.frozen? ⟨zb, 4, none⟩ = false ∧ u.frozen? ⟨zb, 5, none⟩ = false ∧ u.frozen? ⟨zb, 6, none⟩ = false ∧ u.frozen? ⟨zb, 7, none⟩ = false ∧ u.frozen? ⟨zb, 8, none⟩ = false ∧ u.frozen? ⟨zb, 9, none⟩ = false :=
  ⟨(h.cget 1 rfl 0).2, (h.cget 1 rfl 1).2, (h.cget 1 rfl 2).2, (h.cget 1 rfl 3).2, (h.cget 1 rfl 4).2, (h.cget 1 rfl 5).2, (h.cget 1 rfl 6).2, (h.cget 1 rfl 7).2, (h.cget 1 rfl 8).2, (h.cget 1 rfl 9).2⟩
theorem get10a {w0 u : World} {zb : Nat} {c0 c1 c2 c3 c4 c5 c6 c7 c8 c9 : Value} {t : TypeId} {l : List Ast} (h : Own w0 u (cellsA zb #[c0, c1, c2, c3, c4, c5, c6, c7, c8, c9] t :: l)) : u.cell? ⟨zb, 0, none⟩ = some c0 ∧ u.cell? ⟨zb, 1, none⟩ = some c1 ∧ u.cell? ⟨zb, 2, none⟩ = some c2 ∧ u.cell? ⟨zb, 3, none⟩ = some c3 ∧ u.cell? ⟨zb, 4, none⟩ = some c4 ∧ u.cell? ⟨zb, 5, none⟩ = some c5 ∧ u.cell? ⟨zb, 6, none⟩ = some c6 ∧ u.cell? ⟨zb, 7, none⟩ = some c7 ∧ u.cell? ⟨zb, 8, none⟩ = some c8 ∧ u.cell? ⟨zb, 9, none⟩ = some c9 :=
  ⟨(h.cget 0 rfl 0).1, (h.cget 0 rfl 1).1, (h.cget 0 rfl 2).1, (h.cget 0 rfl 3).1, (h.cget 0 rfl 4).1, (h.cget 0 rfl 5).1, (h.cget 0 rfl 6).1, (h.cget 0 rfl 7).1, (h.cget 0 rfl 8).1, (h.cget 0 rfl 9).1⟩
theorem rs0y {B : Nat} {D : Int} {ms : List Int} (hr : (B : Int) + 4 + D ≤ ms.length ∧ ms.length ≤ 100000) (hD : 2 ≤ D ∧ D ≤ 256) {w0 w : World} {mo : Option Addr} {mc : Nat} {l : List Ast} (hO : Own w0 w (mRow (.slice mo ms.length mc) ms :: l)) (kd t x n h : Int) (got full : Bool) (c : D - 1 ≤ wrap64 (t - ms.getD B 0)) :
    Calls Try.prog 53 #[.agg #[.int .i64 kd, .int .i64 (B : Int), .int .i64 D, .int .i64 0, .int .i64 t, .int .i64 x, .int .i64 n, .int .i64 h, .bool got, .bool full], .slice mo ms.length mc] w fun e w' => e = .returned (.tuple #[.agg #[.int .i64 kd, .int .i64 (B : Int), .int .i64 D, .int .i64 (-1), .int .i64 t, .int .i64 x, .int .i64 n, .int .i64 h, .bool got, .bool true], .slice mo ms.length mc]) ∧ Own w0 w' (mRow (.slice mo ms.length mc) ms :: l) := by
  have h1 := (hO.box #[.int .i64 kd, .int .i64 (B : Int), .int .i64 D, .int .i64 1, .int .i64 t, .int .i64 x, .int .i64 n, .int .i64 h, .bool got, .bool full] 68).box #[.int .i64 0, .int .i64 0, .int .i64 0, .int .i64 0, .int .i64 0, .int .i64 0, .int .i64 0, .int .i64 0, .bool false, .bool false] 68
  rw [alloc_sz] at h1
  have h2 : Own w0 ((w.alloc (.cells #[.int .i64 kd, .int .i64 (B : Int), .int .i64 D, .int .i64 1, .int .i64 t, .int .i64 x, .int .i64 n, .int .i64 h, .bool got, .bool full] 68)).alloc (.cells #[.int .i64 0, .int .i64 0, .int .i64 0, .int .i64 0, .int .i64 0, .int .i64 0, .int .i64 0, .int .i64 0, .bool false, .bool false] 68)) (cellsA w.heap.size #[.int .i64 kd, .int .i64 (B : Int), .int .i64 D, .int .i64 1, .int .i64 t, .int .i64 x, .int .i64 n, .int .i64 h, .bool got, .bool full] 68 :: cellsA (w.heap.size + 1) #[.int .i64 0, .int .i64 0, .int .i64 0, .int .i64 0, .int .i64 0, .int .i64 0, .int .i64 0, .int .i64 0, .bool false, .bool false] 68 :: mRow (.slice mo ms.length mc) ms :: l) := h1.pm (by
    simp only [List.cons_append, List.append_assoc, List.nil_append]
    exact (List.perm_append_comm (l₁ := mRow (.slice mo ms.length mc) ms :: l) (l₂ := [_, _])))
  obtain ⟨Y, hY⟩ : ∃ Y, ms.getD B 0 = Y := ⟨_, rfl⟩
  rw [hY] at c
  obtain ⟨V, hV⟩ : ∃ V, wrap64 (t - Y) = V := ⟨_, rfl⟩
  rw [hV] at c
  have e1 : IntKind.i64.wrap (t - Y) = V := (IntWalk.i64_left _).trans hV
  have e2 : IntKind.i64.wrap (D - 1) = D - 1 := IntWalk.i64_in _ (by omega)
  have e3 : decide (D - 1 ≤ V) = true := decide_eq_true c
  have RW := Lib.hid (fun (w1 : World) (h' : Own w0 w1 (mRow (.slice mo ms.length mc) ms :: l)) => rword (Lies.of_row (h'.row 0 rfl) rfl) (k := B) (by omega) Y hY)
  clear h1 hO hV c hY
  go_enter Try.func53, Try.ntmps53
  go_upto_region 4 with fail
  generalize (w.alloc (.cells #[.int .i64 kd, .int .i64 (B : Int), .int .i64 D, .int .i64 1, .int .i64 t, .int .i64 x, .int .i64 n, .int .i64 h, .bool got, .bool full] 68)).alloc (.cells #[.int .i64 0, .int .i64 0, .int .i64 0, .int .i64 0, .int .i64 0, .int .i64 0, .int .i64 0, .int .i64 0, .bool false, .bool false] 68) = u at *
  generalize w.heap.size + 1 = zb at *
  generalize w.heap.size = rb at *
  have hOa := h2.drewN 1
  have hR := Lib.hid (RW.out _ (hOa.sub (.cons _ (.cons _ (List.Sublist.refl _)))))
  obtain ⟨r0, r1, r2, r3, r4, r5, r6, r7, r8, r9⟩ := get10a hOa
  have hS0 := (show (fun w' : World => w'.cell? ⟨rb, 1, none⟩ = some (.int .i64 (B : Int)) ∧ w'.cell? ⟨rb, 2, none⟩ = some (.int .i64 D) ∧ w'.cell? ⟨rb, 4, none⟩ = some (.int .i64 t)) _ from ⟨r1, r2, r4⟩)
  clear r0 r1 r2 r3 r4 r5 r6 r7 r8 r9 h2
  refine lin_start (S := (fun w' : World => w'.cell? ⟨rb, 1, none⟩ = some (.int .i64 (B : Int)) ∧ w'.cell? ⟨rb, 2, none⟩ = some (.int .i64 D) ∧ w'.cell? ⟨rb, 4, none⟩ = some (.int .i64 t))) rfl 11 rfl hS0 ?_
  simp only [numbered, Nat.zero_add, Nat.reduceAdd]
  refine lin_take (v := ?_) (by kernel_rfl) (by kernel_rfl) (fun _ _ _ h => h) (Or.inl ⟨by rfl, ?_⟩) (by assumption) ?_; (rotate_left; (intro wS hSw; (try dsimp only at hSw); (try go_simp); (try with_reducible rfl)); rotate_left); simp only [Act.put, List.setIfInBounds_toArray, List.set_cons_zero, List.set_cons_succ]
  refine lin_take (v := ?_) (by kernel_rfl) (by kernel_rfl) (fun _ _ _ h => h) (Or.inl ⟨by rfl, ?_⟩) (by assumption) ?_; (rotate_left; (intro wS hSw; (try dsimp only at hSw); (try go_simp); (try with_reducible rfl)); rotate_left); simp only [Act.put, List.setIfInBounds_toArray, List.set_cons_zero, List.set_cons_succ]
  refine lin_take (v := ?_) (by kernel_rfl) (by kernel_rfl) (fun _ _ _ h => h) (Or.inl ⟨by rfl, ?_⟩) (by assumption) ?_; (rotate_left; (intro wS hSw; (try dsimp only at hSw); (try go_simp); (try with_reducible rfl)); rotate_left); simp only [Act.put, List.setIfInBounds_toArray, List.set_cons_zero, List.set_cons_succ]
  refine lin_take (v := ?_) (by kernel_rfl) (by kernel_rfl) (fun _ _ _ h => h) (Or.inl ⟨by rfl, ?_⟩) (by assumption) ?_; (rotate_left; (intro wS hSw; (try dsimp only at hSw); (try go_simp); (try with_reducible rfl)); rotate_left); simp only [Act.put, List.setIfInBounds_toArray, List.set_cons_zero, List.set_cons_succ]
  refine lin_take (v := ?_) (by kernel_rfl) (by kernel_rfl) (fun _ _ _ h => h) (Or.inl ⟨by rfl, ?_⟩) (by assumption) ?_; (rotate_left; (intro wS hSw; (try dsimp only at hSw); (try go_simp); (try with_reducible rfl)); rotate_left); simp only [Act.put, List.setIfInBounds_toArray, List.set_cons_zero, List.set_cons_succ]
  refine lin_rot ?_; simp only [List.cons_append, List.nil_append]
  refine lin_rot ?_; simp only [List.cons_append, List.nil_append]
  refine lin_take (v := ?_) (by kernel_rfl) (by kernel_rfl) (fun _ _ _ h => h) (Or.inl ⟨by rfl, ?_⟩) (by assumption) ?_; (rotate_left; (intro wS hSw; (try dsimp only at hSw); (try go_simp); (try with_reducible rfl)); rotate_left); simp only [Act.put, List.setIfInBounds_toArray, List.set_cons_zero, List.set_cons_succ]
  refine lin_take (v := ?_) (by kernel_rfl) (by kernel_rfl) (fun _ _ _ h => h) (Or.inl ⟨by rfl, ?_⟩) (by assumption) ?_; (rotate_left; (intro wS hSw; (try dsimp only at hSw); (try go_simp); (try with_reducible rfl)); rotate_left); simp only [Act.put, List.setIfInBounds_toArray, List.set_cons_zero, List.set_cons_succ]
  refine lin_take (v := ?_) (by kernel_rfl) (by kernel_rfl) (fun _ _ _ h => h) (Or.inl ⟨by rfl, ?_⟩) (by assumption) ?_; (rotate_left; (intro wS hSw; (try dsimp only at hSw); (try go_simp); (try with_reducible rfl)); rotate_left); simp only [Act.put, List.setIfInBounds_toArray, List.set_cons_zero, List.set_cons_succ]
  refine lin_rot ?_; simp only [List.cons_append, List.nil_append]
  refine lin_sole (by kernel_rfl) (fun K hK => ?_)
  go_simp
  refine (hR.out).mono ?_
  rintro e w6 ⟨rfl, rfl⟩
  refine hK.out _ _ hS0 (fun hHeld => ?_)
  try simp only [Act.put, List.setIfInBounds_toArray, List.set_cons_zero, List.set_cons_succ]
  clear hK
  refine lin_take (v := ?_) (by kernel_rfl) (by kernel_rfl) (fun _ _ _ h => h) (Or.inl ⟨by rfl, ?_⟩) (by assumption) ?_; (rotate_left; (intro wS hSw; (try dsimp only at hSw); (try go_simp); (try with_reducible rfl)); rotate_left); simp only [Act.put, List.setIfInBounds_toArray, List.set_cons_zero, List.set_cons_succ]
  refine lin_take (v := ?_) (by kernel_rfl) (by kernel_rfl) (fun _ _ _ h => h) (Or.inl ⟨by rfl, ?_⟩) (by assumption) ?_; (rotate_left; (intro wS hSw; (try dsimp only at hSw); (try go_simp); (try with_reducible rfl)); rotate_left); simp only [Act.put, List.setIfInBounds_toArray, List.set_cons_zero, List.set_cons_succ]
  refine lin_done (by kernel_rfl) ?_
  obtain ⟨r0, r1, r2, r3, r4, r5, r6, r7, r8, r9⟩ := get10a hOa
  have fr9 := (hOa.cget 0 rfl 9).2
  have fr3 := (hOa.cget 0 rfl 3).2
  have hW := (hOa.cset 0 rfl 9 (.bool true)).cset 0 rfl 3 (.int .i64 (-1))
  have hW2 : Own w0 _ (cellsA rb #[.int .i64 kd, .int .i64 (B : Int), .int .i64 D, .int .i64 (-1), .int .i64 t, .int .i64 x, .int .i64 n, .int .i64 h, .bool got, .bool true] 68 :: cellsA zb #[.int .i64 0, .int .i64 0, .int .i64 0, .int .i64 0, .int .i64 0, .int .i64 0, .int .i64 0, .int .i64 0, .bool false, .bool false] 68 :: mRow (.slice mo ms.length mc) ms :: l) := hW
  go_upto_region 7 with fail
  clear r0 r1 r2 r3 r4 r5 r6 r7 r8 r9 fr9 fr3 hOa hS0 hHeld hR hW
  generalize ((u.drewN 1).setCell ⟨rb, 9, none⟩ (.bool true)).setCell ⟨rb, 3, none⟩ (.int .i64 (-1)) = u2 at *
  obtain ⟨r0, r1, r2, r3, r4, r5, r6, r7, r8, r9⟩ := get10a hW2
  obtain ⟨f0, f1, f2, f3, f4, f5, f6, f7, f8, f9⟩ := get10f hW2
  obtain ⟨z0, z1, z2, z3, z4, z5, z6, z7, z8, z9⟩ := get10 hW2
  have hF := set10 hW2 (.int .i64 kd) (.int .i64 (B : Int)) (.int .i64 D) (.int .i64 (-1)) (.int .i64 t) (.int .i64 x) (.int .i64 n) (.int .i64 h) (.bool got) (.bool true)
  replace hF := Lib.hid hF
  clear hW2
  go_wp2_with fail
  replace hF := hF.out
  clear r0 f0 z0 r1 f1 z1 r2 f2 z2 r3 f3 z3 r4 f4 z4 r5 f5 z5 r6 f6 z6 r7 f7 z7 r8 f8 z8 r9 f9 z9
  obtain ⟨z0, z1, z2, z3, z4, z5, z6, z7, z8, z9⟩ := get10 hF
  generalize (((((((((u2.setCell ⟨zb, 0, none⟩ (.int .i64 kd)).setCell ⟨zb, 1, none⟩ (.int .i64 (B : Int))).setCell ⟨zb, 2, none⟩ (.int .i64 D)).setCell ⟨zb, 3, none⟩ (.int .i64 (-1))).setCell ⟨zb, 4, none⟩ (.int .i64 t)).setCell ⟨zb, 5, none⟩ (.int .i64 x)).setCell ⟨zb, 6, none⟩ (.int .i64 n)).setCell ⟨zb, 7, none⟩ (.int .i64 h)).setCell ⟨zb, 8, none⟩ (.bool got)).setCell ⟨zb, 9, none⟩ (.bool true) = u3 at *
  have hEnd := hF.sub (.cons _ (.cons _ (List.Sublist.refl _)))
  exact bodyPost_ret (v := .tuple #[.agg #[.int .i64 kd, .int .i64 (B : Int), .int .i64 D, .int .i64 (-1), .int .i64 t, .int .i64 x, .int .i64 n, .int .i64 h, .bool got, .bool true], .slice mo ms.length mc]) (by simp [results, Try.results53, go_sem, z0, z1, z2, z3, z4, z5, z6, z7, z8, z9]) rfl ⟨rfl, hEnd⟩
theorem pm3 {A B C : Ast} {l : List Ast} : (A :: B :: C :: l).Perm (C :: A :: B :: l) := (List.Perm.cons _ (List.Perm.swap ..)).trans (List.Perm.swap ..)
theorem pm3' {A B C : Ast} {l : List Ast} : (C :: A :: B :: l).Perm (A :: B :: C :: l) := pm3.symm
theorem rs1 {B : Nat} {D : Int} {ms : List Int} (hr : (B : Int) + 4 + D ≤ ms.length ∧ ms.length ≤ 100000) (hD : 2 ≤ D ∧ D ≤ 256) {w0 w : World} {mo : Option Addr} {mc : Nat} {l : List Ast} (hO : Own w0 w (mRow (.slice mo ms.length mc) ms :: l)) (kd t x n h : Int) (got full : Bool) :
    Calls Try.prog 53 #[.agg #[.int .i64 kd, .int .i64 (B : Int), .int .i64 D, .int .i64 1, .int .i64 t, .int .i64 x, .int .i64 n, .int .i64 h, .bool got, .bool full], .slice mo ms.length mc] w fun e w' => ∃ ao' c', e = .returned (.tuple #[.agg #[.int .i64 kd, .int .i64 (B : Int), .int .i64 D, .int .i64 2, .int .i64 t, .int .i64 x, .int .i64 n, .int .i64 h, .bool got, .bool full], .slice ao' (ms.set (slotN B D t) x).length c']) ∧ Own w0 w' (mRow (.slice ao' (ms.set (slotN B D t) x).length c') (ms.set (slotN B D t) x) :: l) := by
  have h1 := (hO.box #[.int .i64 kd, .int .i64 (B : Int), .int .i64 D, .int .i64 2, .int .i64 t, .int .i64 x, .int .i64 n, .int .i64 h, .bool got, .bool full] 68).box #[.int .i64 0, .int .i64 0, .int .i64 0, .int .i64 0, .int .i64 0, .int .i64 0, .int .i64 0, .int .i64 0, .bool false, .bool false] 68
  rw [alloc_sz] at h1
  have h2 : Own w0 ((w.alloc (.cells #[.int .i64 kd, .int .i64 (B : Int), .int .i64 D, .int .i64 2, .int .i64 t, .int .i64 x, .int .i64 n, .int .i64 h, .bool got, .bool full] 68)).alloc (.cells #[.int .i64 0, .int .i64 0, .int .i64 0, .int .i64 0, .int .i64 0, .int .i64 0, .int .i64 0, .int .i64 0, .bool false, .bool false] 68)) (cellsA w.heap.size #[.int .i64 kd, .int .i64 (B : Int), .int .i64 D, .int .i64 2, .int .i64 t, .int .i64 x, .int .i64 n, .int .i64 h, .bool got, .bool full] 68 :: cellsA (w.heap.size + 1) #[.int .i64 0, .int .i64 0, .int .i64 0, .int .i64 0, .int .i64 0, .int .i64 0, .int .i64 0, .int .i64 0, .bool false, .bool false] 68 :: mRow (.slice mo ms.length mc) ms :: l) := h1.pm (by
    simp only [List.cons_append, List.append_assoc, List.nil_append]
    exact (List.perm_append_comm (l₁ := mRow (.slice mo ms.length mc) ms :: l) (l₂ := [_, _])))
  have SL := Lib.hid (fun (w1 : World) => rslot kd D 2 t x n h B got full (t) w1 (by omega) (by omega))
  have hsn := (show slotN B D t < ms.length by have := mod_bd (x := max t 0) (y := D) (by omega); unfold slotN; omega)
  have RW : Hid (∀ (w1 : World) (rb zb : Nat), Own w0 w1 (cellsA rb #[.int .i64 kd, .int .i64 (B : Int), .int .i64 D, .int .i64 2, .int .i64 t, .int .i64 x, .int .i64 n, .int .i64 h, .bool got, .bool full] 68 :: cellsA zb #[.int .i64 0, .int .i64 0, .int .i64 0, .int .i64 0, .int .i64 0, .int .i64 0, .int .i64 0, .int .i64 0, .bool false, .bool false] 68 :: mRow (.slice mo ms.length mc) ms :: l) → Calls Try.prog 70 #[.slice mo ms.length mc, .int .i64 (((slotN B D t) : Nat) : Int), .int .i64 x] w1 (fun e w' => ∃ ao' c', e = .returned (.slice ao' (ms.set (slotN B D t) x).length c') ∧ Own w0 w' (cellsA rb #[.int .i64 kd, .int .i64 (B : Int), .int .i64 D, .int .i64 2, .int .i64 t, .int .i64 x, .int .i64 n, .int .i64 h, .bool got, .bool full] 68 :: cellsA zb #[.int .i64 0, .int .i64 0, .int .i64 0, .int .i64 0, .int .i64 0, .int .i64 0, .int .i64 0, .int .i64 0, .bool false, .bool false] 68 :: mRow (.slice ao' (ms.set (slotN B D t) x).length c') (ms.set (slotN B D t) x) :: l))) := Lib.hid (fun w1 rb zb h' => by
    refine (rwith (k := (slotN B D t)) (h'.pm pm3) (by omega) (by omega) x _ rfl).mono ?_
    rintro e w' ⟨ao', c', he, hw⟩
    exact ⟨ao', c', he, hw.pm pm3'⟩)
  clear h1 hO
  go_enter Try.func53, Try.ntmps53
  go_upto_region 10 with fail
  generalize (w.alloc (.cells #[.int .i64 kd, .int .i64 (B : Int), .int .i64 D, .int .i64 2, .int .i64 t, .int .i64 x, .int .i64 n, .int .i64 h, .bool got, .bool full] 68)).alloc (.cells #[.int .i64 0, .int .i64 0, .int .i64 0, .int .i64 0, .int .i64 0, .int .i64 0, .int .i64 0, .int .i64 0, .bool false, .bool false] 68) = u at *
  generalize w.heap.size + 1 = zb at *
  generalize w.heap.size = rb at *
  have hcur := h2
  clear h2
  replace RW := Lib.hid (fun w1 => RW.out w1 rb zb)
  have hOa := hcur.drewN 1
  have hS0 := (show (fun w' : World => w'.cell? ⟨rb, 0, none⟩ = some (.int .i64 kd) ∧ w'.cell? ⟨rb, 1, none⟩ = some (.int .i64 (B : Int)) ∧ w'.cell? ⟨rb, 2, none⟩ = some (.int .i64 D) ∧ w'.cell? ⟨rb, 3, none⟩ = some (.int .i64 2) ∧ w'.cell? ⟨rb, 4, none⟩ = some (.int .i64 t) ∧ w'.cell? ⟨rb, 5, none⟩ = some (.int .i64 x) ∧ w'.cell? ⟨rb, 6, none⟩ = some (.int .i64 n) ∧ w'.cell? ⟨rb, 7, none⟩ = some (.int .i64 h) ∧ w'.cell? ⟨rb, 8, none⟩ = some (.bool got) ∧ w'.cell? ⟨rb, 9, none⟩ = some (.bool full)) _ from get10a hOa)
  clear hcur
  refine lin_start (S := (fun w' : World => w'.cell? ⟨rb, 0, none⟩ = some (.int .i64 kd) ∧ w'.cell? ⟨rb, 1, none⟩ = some (.int .i64 (B : Int)) ∧ w'.cell? ⟨rb, 2, none⟩ = some (.int .i64 D) ∧ w'.cell? ⟨rb, 3, none⟩ = some (.int .i64 2) ∧ w'.cell? ⟨rb, 4, none⟩ = some (.int .i64 t) ∧ w'.cell? ⟨rb, 5, none⟩ = some (.int .i64 x) ∧ w'.cell? ⟨rb, 6, none⟩ = some (.int .i64 n) ∧ w'.cell? ⟨rb, 7, none⟩ = some (.int .i64 h) ∧ w'.cell? ⟨rb, 8, none⟩ = some (.bool got) ∧ w'.cell? ⟨rb, 9, none⟩ = some (.bool full))) rfl 11 rfl hS0 ?_
  simp only [numbered, Nat.zero_add, Nat.reduceAdd]
  refine lin_take (v := ?_) (by kernel_rfl) (by kernel_rfl) (fun _ _ _ h => h) (Or.inl ⟨by rfl, ?_⟩) (by assumption) ?_; (rotate_left; (intro wS hSw; (try dsimp only at hSw); (try go_simp); (try with_reducible rfl)); rotate_left); simp only [Act.put, List.setIfInBounds_toArray, List.set_cons_zero, List.set_cons_succ]
  refine lin_take (v := ?_) (by kernel_rfl) (by kernel_rfl) (fun _ _ _ h => h) (Or.inl ⟨by rfl, ?_⟩) (by assumption) ?_; (rotate_left; (intro wS hSw; (try dsimp only at hSw); (try go_simp); (try with_reducible rfl)); rotate_left); simp only [Act.put, List.setIfInBounds_toArray, List.set_cons_zero, List.set_cons_succ]
  refine lin_take (v := ?_) (by kernel_rfl) (by kernel_rfl) (fun _ _ _ h => h) (Or.inl ⟨by rfl, ?_⟩) (by assumption) ?_; (rotate_left; (intro wS hSw; (try dsimp only at hSw); (try go_simp); (try with_reducible rfl)); rotate_left); simp only [Act.put, List.setIfInBounds_toArray, List.set_cons_zero, List.set_cons_succ]
  refine lin_take (v := ?_) (by kernel_rfl) (by kernel_rfl) (fun _ _ _ h => h) (Or.inl ⟨by rfl, ?_⟩) (by assumption) ?_; (rotate_left; (intro wS hSw; (try dsimp only at hSw); (try go_simp); (try with_reducible rfl)); rotate_left); simp only [Act.put, List.setIfInBounds_toArray, List.set_cons_zero, List.set_cons_succ]
  refine lin_take (v := ?_) (by kernel_rfl) (by kernel_rfl) (fun _ _ _ h => h) (Or.inl ⟨by rfl, ?_⟩) (by assumption) ?_; (rotate_left; (intro wS hSw; (try dsimp only at hSw); (try go_simp); (try with_reducible rfl)); rotate_left); simp only [Act.put, List.setIfInBounds_toArray, List.set_cons_zero, List.set_cons_succ]
  refine lin_rot ?_; simp only [List.cons_append, List.nil_append]
  refine lin_take (v := ?_) (by kernel_rfl) (by kernel_rfl) (fun _ _ _ h => h) (Or.inl ⟨by rfl, ?_⟩) (by assumption) ?_; (rotate_left; (intro wS hSw; (try dsimp only at hSw); (try go_simp); (try with_reducible rfl)); rotate_left); simp only [Act.put, List.setIfInBounds_toArray, List.set_cons_zero, List.set_cons_succ]
  refine lin_take (v := ?_) (by kernel_rfl) (by kernel_rfl) (fun _ _ _ h => h) (Or.inl ⟨by rfl, ?_⟩) (by assumption) ?_; (rotate_left; (intro wS hSw; (try dsimp only at hSw); (try go_simp); (try with_reducible rfl)); rotate_left); simp only [Act.put, List.setIfInBounds_toArray, List.set_cons_zero, List.set_cons_succ]
  refine lin_rot ?_; simp only [List.cons_append, List.nil_append]
  refine lin_rot ?_; simp only [List.cons_append, List.nil_append]
  refine lin_rot ?_; simp only [List.cons_append, List.nil_append]
  refine lin_sole (by kernel_rfl) (fun K hK => ?_)
  go_simp
  refine (SL.out _).mono ?_
  rintro e w5 ⟨rfl, hb5⟩
  have hOb := hOa.grow hb5
  refine hK.out _ _ (get10a hOb) (fun hHeld => ?_)
  try simp only [Act.put, List.setIfInBounds_toArray, List.set_cons_zero, List.set_cons_succ]
  clear hK
  refine lin_sole (by kernel_rfl) (fun K hK => ?_)
  go_simp
  refine (RW.out _ hOb).mono ?_
  rintro e w6 ⟨ao2, c2, rfl, h7⟩
  refine hK.out _ _ (get10a h7) (fun hHeld => ?_)
  try simp only [Act.put, List.setIfInBounds_toArray, List.set_cons_zero, List.set_cons_succ]
  clear hK
  obtain ⟨z0, z1, z2, z3, z4, z5, z6, z7, z8, z9⟩ := get10 h7
  obtain ⟨f0, f1, f2, f3, f4, f5, f6, f7, f8, f9⟩ := get10f h7
  have y0 : w6.drew.cell? ⟨zb, 0, none⟩ = _ := z0
  have y1 : w6.drew.cell? ⟨zb, 1, none⟩ = _ := z1
  have y2 : w6.drew.cell? ⟨zb, 2, none⟩ = _ := z2
  have y3 : w6.drew.cell? ⟨zb, 3, none⟩ = _ := z3
  have y4 : w6.drew.cell? ⟨zb, 4, none⟩ = _ := z4
  have y5 : w6.drew.cell? ⟨zb, 5, none⟩ = _ := z5
  have y6 : w6.drew.cell? ⟨zb, 6, none⟩ = _ := z6
  have y7 : w6.drew.cell? ⟨zb, 7, none⟩ = _ := z7
  have y8 : w6.drew.cell? ⟨zb, 8, none⟩ = _ := z8
  have y9 : w6.drew.cell? ⟨zb, 9, none⟩ = _ := z9
  have g0 : w6.drew.frozen? ⟨zb, 0, none⟩ = false := f0
  have g1 : w6.drew.frozen? ⟨zb, 1, none⟩ = false := f1
  have g2 : w6.drew.frozen? ⟨zb, 2, none⟩ = false := f2
  have g3 : w6.drew.frozen? ⟨zb, 3, none⟩ = false := f3
  have g4 : w6.drew.frozen? ⟨zb, 4, none⟩ = false := f4
  have g5 : w6.drew.frozen? ⟨zb, 5, none⟩ = false := f5
  have g6 : w6.drew.frozen? ⟨zb, 6, none⟩ = false := f6
  have g7 : w6.drew.frozen? ⟨zb, 7, none⟩ = false := f7
  have g8 : w6.drew.frozen? ⟨zb, 8, none⟩ = false := f8
  have g9 : w6.drew.frozen? ⟨zb, 9, none⟩ = false := f9
  have hF := set10 h7 (.int .i64 kd) (.int .i64 (B : Int)) (.int .i64 D) (.int .i64 2) (.int .i64 t) (.int .i64 x) (.int .i64 n) (.int .i64 h) (.bool got) (.bool full)
  refine lin_sole (by kernel_rfl) (fun K hK => ?_)
  go_simp
  refine hK.out _ _ (get10a hF) (fun hHeld => ?_)
  try simp only [Act.put, List.setIfInBounds_toArray, List.set_cons_zero, List.set_cons_succ]
  clear hK
  refine lin_take (v := ?_) (by kernel_rfl) (by kernel_rfl) (fun _ _ _ h => h) (Or.inl ⟨by rfl, ?_⟩) (by assumption) ?_; (rotate_left; (intro wS hSw; (try dsimp only at hSw); (try go_simp); (try with_reducible rfl)); rotate_left); simp only [Act.put, List.setIfInBounds_toArray, List.set_cons_zero, List.set_cons_succ]
  refine lin_done (by kernel_rfl) ?_
  replace hF := Lib.hid hF
  clear z0 f0 y0 g0 z1 f1 y1 g1 z2 f2 y2 g2 z3 f3 y3 g3 z4 f4 y4 g4 z5 f5 y5 g5 z6 f6 y6 g6 z7 f7 y7 g7 z8 f8 y8 g8 z9 f9 y9 g9 h7 hS0 hOa
  go_wp2_with fail
  replace hF := hF.out
  obtain ⟨z0, z1, z2, z3, z4, z5, z6, z7, z8, z9⟩ := get10 hF
  generalize (((((((((w6.setCell ⟨zb, 0, none⟩ (.int .i64 kd)).setCell ⟨zb, 1, none⟩ (.int .i64 (B : Int))).setCell ⟨zb, 2, none⟩ (.int .i64 D)).setCell ⟨zb, 3, none⟩ (.int .i64 2)).setCell ⟨zb, 4, none⟩ (.int .i64 t)).setCell ⟨zb, 5, none⟩ (.int .i64 x)).setCell ⟨zb, 6, none⟩ (.int .i64 n)).setCell ⟨zb, 7, none⟩ (.int .i64 h)).setCell ⟨zb, 8, none⟩ (.bool got)).setCell ⟨zb, 9, none⟩ (.bool full) = u3 at *
  have hEnd := hF.sub (.cons _ (.cons _ (List.Sublist.refl _)))
  exact bodyPost_ret (v := .tuple #[.agg #[.int .i64 kd, .int .i64 (B : Int), .int .i64 D, .int .i64 2, .int .i64 t, .int .i64 x, .int .i64 n, .int .i64 h, .bool got, .bool full], .slice ao2 (ms.set (slotN B D t) x).length c2]) (by simp [results, Try.results53, go_sem, z0, z1, z2, z3, z4, z5, z6, z7, z8, z9]) rfl ⟨ao2, c2, rfl, hEnd⟩
theorem rs2 {B : Nat} {D : Int} {ms : List Int} (hr : (B : Int) + 4 + D ≤ ms.length ∧ ms.length ≤ 100000) (hD : 2 ≤ D ∧ D ≤ 256) {w0 w : World} {mo : Option Addr} {mc : Nat} {l : List Ast} (hO : Own w0 w (mRow (.slice mo ms.length mc) ms :: l)) (kd t x n h : Int) (got full : Bool) :
    Calls Try.prog 53 #[.agg #[.int .i64 kd, .int .i64 (B : Int), .int .i64 D, .int .i64 2, .int .i64 t, .int .i64 x, .int .i64 n, .int .i64 h, .bool got, .bool full], .slice mo ms.length mc] w fun e w' => ∃ ao' c', e = .returned (.tuple #[.agg #[.int .i64 kd, .int .i64 (B : Int), .int .i64 D, .int .i64 (-1), .int .i64 (wrap64 (t + 1)), .int .i64 x, .int .i64 n, .int .i64 h, .bool got, .bool full], .slice ao' (ms.set (B + 1) (wrap64 (t + 1))).length c']) ∧ Own w0 w' (mRow (.slice ao' (ms.set (B + 1) (wrap64 (t + 1))).length c') (ms.set (B + 1) (wrap64 (t + 1))) :: l) := by
  have h1 := (hO.box #[.int .i64 kd, .int .i64 (B : Int), .int .i64 D, .int .i64 (-1), .int .i64 (wrap64 (t + 1)), .int .i64 x, .int .i64 n, .int .i64 h, .bool got, .bool full] 68).box #[.int .i64 0, .int .i64 0, .int .i64 0, .int .i64 0, .int .i64 0, .int .i64 0, .int .i64 0, .int .i64 0, .bool false, .bool false] 68
  rw [alloc_sz] at h1
  have h2 : Own w0 ((w.alloc (.cells #[.int .i64 kd, .int .i64 (B : Int), .int .i64 D, .int .i64 (-1), .int .i64 (wrap64 (t + 1)), .int .i64 x, .int .i64 n, .int .i64 h, .bool got, .bool full] 68)).alloc (.cells #[.int .i64 0, .int .i64 0, .int .i64 0, .int .i64 0, .int .i64 0, .int .i64 0, .int .i64 0, .int .i64 0, .bool false, .bool false] 68)) (cellsA w.heap.size #[.int .i64 kd, .int .i64 (B : Int), .int .i64 D, .int .i64 (-1), .int .i64 (wrap64 (t + 1)), .int .i64 x, .int .i64 n, .int .i64 h, .bool got, .bool full] 68 :: cellsA (w.heap.size + 1) #[.int .i64 0, .int .i64 0, .int .i64 0, .int .i64 0, .int .i64 0, .int .i64 0, .int .i64 0, .int .i64 0, .bool false, .bool false] 68 :: mRow (.slice mo ms.length mc) ms :: l) := h1.pm (by
    simp only [List.cons_append, List.append_assoc, List.nil_append]
    exact (List.perm_append_comm (l₁ := mRow (.slice mo ms.length mc) ms :: l) (l₂ := [_, _])))
  have eb : IntKind.i64.wrap ((B : Int) + 1) = ((B + 1 : Nat) : Int) := (IntWalk.i64_in _ (by omega)).trans (by omega)
  have RW : Hid (∀ (w1 : World) (rb zb : Nat), Own w0 w1 (cellsA rb #[.int .i64 kd, .int .i64 (B : Int), .int .i64 D, .int .i64 (-1), .int .i64 (wrap64 (t + 1)), .int .i64 x, .int .i64 n, .int .i64 h, .bool got, .bool full] 68 :: cellsA zb #[.int .i64 0, .int .i64 0, .int .i64 0, .int .i64 0, .int .i64 0, .int .i64 0, .int .i64 0, .int .i64 0, .bool false, .bool false] 68 :: mRow (.slice mo ms.length mc) ms :: l) → Calls Try.prog 70 #[.slice mo ms.length mc, .int .i64 (((B + 1) : Nat) : Int), .int .i64 (wrap64 (t + 1))] w1 (fun e w' => ∃ ao' c', e = .returned (.slice ao' (ms.set (B + 1) (wrap64 (t + 1))).length c') ∧ Own w0 w' (cellsA rb #[.int .i64 kd, .int .i64 (B : Int), .int .i64 D, .int .i64 (-1), .int .i64 (wrap64 (t + 1)), .int .i64 x, .int .i64 n, .int .i64 h, .bool got, .bool full] 68 :: cellsA zb #[.int .i64 0, .int .i64 0, .int .i64 0, .int .i64 0, .int .i64 0, .int .i64 0, .int .i64 0, .int .i64 0, .bool false, .bool false] 68 :: mRow (.slice ao' (ms.set (B + 1) (wrap64 (t + 1))).length c') (ms.set (B + 1) (wrap64 (t + 1))) :: l))) := Lib.hid (fun w1 rb zb h' => by
    refine (rwith (k := (B + 1)) (h'.pm pm3) (by omega) (by omega) (wrap64 (t + 1)) _ rfl).mono ?_
    rintro e w' ⟨ao', c', he, hw⟩
    exact ⟨ao', c', he, hw.pm pm3'⟩)
  clear h1 hO
  go_enter Try.func53, Try.ntmps53
  go_upto_region 13 with fail
  generalize (w.alloc (.cells #[.int .i64 kd, .int .i64 (B : Int), .int .i64 D, .int .i64 (-1), .int .i64 (wrap64 (t + 1)), .int .i64 x, .int .i64 n, .int .i64 h, .bool got, .bool full] 68)).alloc (.cells #[.int .i64 0, .int .i64 0, .int .i64 0, .int .i64 0, .int .i64 0, .int .i64 0, .int .i64 0, .int .i64 0, .bool false, .bool false] 68) = u at *
  generalize w.heap.size + 1 = zb at *
  generalize w.heap.size = rb at *
  have hcur := h2
  clear h2
  replace RW := Lib.hid (fun w1 => RW.out w1 rb zb)
  have hOa := hcur.drewN 1
  have hS0 := (show (fun w' : World => w'.cell? ⟨rb, 0, none⟩ = some (.int .i64 kd) ∧ w'.cell? ⟨rb, 1, none⟩ = some (.int .i64 (B : Int)) ∧ w'.cell? ⟨rb, 2, none⟩ = some (.int .i64 D) ∧ w'.cell? ⟨rb, 3, none⟩ = some (.int .i64 (-1)) ∧ w'.cell? ⟨rb, 4, none⟩ = some (.int .i64 (wrap64 (t + 1))) ∧ w'.cell? ⟨rb, 5, none⟩ = some (.int .i64 x) ∧ w'.cell? ⟨rb, 6, none⟩ = some (.int .i64 n) ∧ w'.cell? ⟨rb, 7, none⟩ = some (.int .i64 h) ∧ w'.cell? ⟨rb, 8, none⟩ = some (.bool got) ∧ w'.cell? ⟨rb, 9, none⟩ = some (.bool full)) _ from get10a hOa)
  clear hcur
  refine lin_start (S := (fun w' : World => w'.cell? ⟨rb, 0, none⟩ = some (.int .i64 kd) ∧ w'.cell? ⟨rb, 1, none⟩ = some (.int .i64 (B : Int)) ∧ w'.cell? ⟨rb, 2, none⟩ = some (.int .i64 D) ∧ w'.cell? ⟨rb, 3, none⟩ = some (.int .i64 (-1)) ∧ w'.cell? ⟨rb, 4, none⟩ = some (.int .i64 (wrap64 (t + 1))) ∧ w'.cell? ⟨rb, 5, none⟩ = some (.int .i64 x) ∧ w'.cell? ⟨rb, 6, none⟩ = some (.int .i64 n) ∧ w'.cell? ⟨rb, 7, none⟩ = some (.int .i64 h) ∧ w'.cell? ⟨rb, 8, none⟩ = some (.bool got) ∧ w'.cell? ⟨rb, 9, none⟩ = some (.bool full))) rfl 10 rfl hS0 ?_
  simp only [numbered, Nat.zero_add, Nat.reduceAdd]
  refine lin_take (v := ?_) (by kernel_rfl) (by kernel_rfl) (fun _ _ _ h => h) (Or.inl ⟨by rfl, ?_⟩) (by assumption) ?_; (rotate_left; (intro wS hSw; (try dsimp only at hSw); (try go_simp); (try with_reducible rfl)); rotate_left); simp only [Act.put, List.setIfInBounds_toArray, List.set_cons_zero, List.set_cons_succ]
  refine lin_take (v := ?_) (by kernel_rfl) (by kernel_rfl) (fun _ _ _ h => h) (Or.inl ⟨by rfl, ?_⟩) (by assumption) ?_; (rotate_left; (intro wS hSw; (try dsimp only at hSw); (try go_simp); (try with_reducible rfl)); rotate_left); simp only [Act.put, List.setIfInBounds_toArray, List.set_cons_zero, List.set_cons_succ]
  refine lin_take (v := ?_) (by kernel_rfl) (by kernel_rfl) (fun _ _ _ h => h) (Or.inl ⟨by rfl, ?_⟩) (by assumption) ?_; (rotate_left; (intro wS hSw; (try dsimp only at hSw); (try go_simp); (try with_reducible rfl)); rotate_left); simp only [Act.put, List.setIfInBounds_toArray, List.set_cons_zero, List.set_cons_succ]
  refine lin_take (v := ?_) (by kernel_rfl) (by kernel_rfl) (fun _ _ _ h => h) (Or.inl ⟨by rfl, ?_⟩) (by assumption) ?_; (rotate_left; (intro wS hSw; (try dsimp only at hSw); (try go_simp); (try with_reducible rfl)); rotate_left); simp only [Act.put, List.setIfInBounds_toArray, List.set_cons_zero, List.set_cons_succ]
  refine lin_take (v := ?_) (by kernel_rfl) (by kernel_rfl) (fun _ _ _ h => h) (Or.inl ⟨by rfl, ?_⟩) (by assumption) ?_; (rotate_left; (intro wS hSw; (try dsimp only at hSw); (try go_simp); (try with_reducible rfl)); rotate_left); simp only [Act.put, List.setIfInBounds_toArray, List.set_cons_zero, List.set_cons_succ]
  refine lin_take (v := ?_) (by kernel_rfl) (by kernel_rfl) (fun _ _ _ h => h) (Or.inl ⟨by rfl, ?_⟩) (by assumption) ?_; (rotate_left; (intro wS hSw; (try dsimp only at hSw); (try go_simp); (try with_reducible rfl)); rotate_left); simp only [Act.put, List.setIfInBounds_toArray, List.set_cons_zero, List.set_cons_succ]
  refine lin_take (v := ?_) (by kernel_rfl) (by kernel_rfl) (fun _ _ _ h => h) (Or.inl ⟨by rfl, ?_⟩) (by assumption) ?_; (rotate_left; (intro wS hSw; (try dsimp only at hSw); (try go_simp); (try with_reducible rfl)); rotate_left); simp only [Act.put, List.setIfInBounds_toArray, List.set_cons_zero, List.set_cons_succ]
  refine lin_sole (by kernel_rfl) (fun K hK => ?_)
  go_simp
  refine (RW.out _ hOa).mono ?_
  rintro e w6 ⟨ao2, c2, rfl, h7⟩
  refine hK.out _ _ (get10a h7) (fun hHeld => ?_)
  try simp only [Act.put, List.setIfInBounds_toArray, List.set_cons_zero, List.set_cons_succ]
  clear hK
  obtain ⟨z0, z1, z2, z3, z4, z5, z6, z7, z8, z9⟩ := get10 h7
  obtain ⟨f0, f1, f2, f3, f4, f5, f6, f7, f8, f9⟩ := get10f h7
  have y0 : w6.drew.cell? ⟨zb, 0, none⟩ = _ := z0
  have y1 : w6.drew.cell? ⟨zb, 1, none⟩ = _ := z1
  have y2 : w6.drew.cell? ⟨zb, 2, none⟩ = _ := z2
  have y3 : w6.drew.cell? ⟨zb, 3, none⟩ = _ := z3
  have y4 : w6.drew.cell? ⟨zb, 4, none⟩ = _ := z4
  have y5 : w6.drew.cell? ⟨zb, 5, none⟩ = _ := z5
  have y6 : w6.drew.cell? ⟨zb, 6, none⟩ = _ := z6
  have y7 : w6.drew.cell? ⟨zb, 7, none⟩ = _ := z7
  have y8 : w6.drew.cell? ⟨zb, 8, none⟩ = _ := z8
  have y9 : w6.drew.cell? ⟨zb, 9, none⟩ = _ := z9
  have g0 : w6.drew.frozen? ⟨zb, 0, none⟩ = false := f0
  have g1 : w6.drew.frozen? ⟨zb, 1, none⟩ = false := f1
  have g2 : w6.drew.frozen? ⟨zb, 2, none⟩ = false := f2
  have g3 : w6.drew.frozen? ⟨zb, 3, none⟩ = false := f3
  have g4 : w6.drew.frozen? ⟨zb, 4, none⟩ = false := f4
  have g5 : w6.drew.frozen? ⟨zb, 5, none⟩ = false := f5
  have g6 : w6.drew.frozen? ⟨zb, 6, none⟩ = false := f6
  have g7 : w6.drew.frozen? ⟨zb, 7, none⟩ = false := f7
  have g8 : w6.drew.frozen? ⟨zb, 8, none⟩ = false := f8
  have g9 : w6.drew.frozen? ⟨zb, 9, none⟩ = false := f9
  have hF := set10 h7 (.int .i64 kd) (.int .i64 (B : Int)) (.int .i64 D) (.int .i64 (-1)) (.int .i64 (wrap64 (t + 1))) (.int .i64 x) (.int .i64 n) (.int .i64 h) (.bool got) (.bool full)
  refine lin_sole (by kernel_rfl) (fun K hK => ?_)
  go_simp
  refine hK.out _ _ (get10a hF) (fun hHeld => ?_)
  try simp only [Act.put, List.setIfInBounds_toArray, List.set_cons_zero, List.set_cons_succ]
  clear hK
  refine lin_take (v := ?_) (by kernel_rfl) (by kernel_rfl) (fun _ _ _ h => h) (Or.inl ⟨by rfl, ?_⟩) (by assumption) ?_; (rotate_left; (intro wS hSw; (try dsimp only at hSw); (try go_simp); (try with_reducible rfl)); rotate_left); simp only [Act.put, List.setIfInBounds_toArray, List.set_cons_zero, List.set_cons_succ]
  refine lin_done (by kernel_rfl) ?_
  replace hF := Lib.hid hF
  clear z0 f0 y0 g0 z1 f1 y1 g1 z2 f2 y2 g2 z3 f3 y3 g3 z4 f4 y4 g4 z5 f5 y5 g5 z6 f6 y6 g6 z7 f7 y7 g7 z8 f8 y8 g8 z9 f9 y9 g9 h7 hS0 hOa
  go_wp2_with fail
  replace hF := hF.out
  obtain ⟨z0, z1, z2, z3, z4, z5, z6, z7, z8, z9⟩ := get10 hF
  generalize (((((((((w6.setCell ⟨zb, 0, none⟩ (.int .i64 kd)).setCell ⟨zb, 1, none⟩ (.int .i64 (B : Int))).setCell ⟨zb, 2, none⟩ (.int .i64 D)).setCell ⟨zb, 3, none⟩ (.int .i64 (-1))).setCell ⟨zb, 4, none⟩ (.int .i64 (wrap64 (t + 1)))).setCell ⟨zb, 5, none⟩ (.int .i64 x)).setCell ⟨zb, 6, none⟩ (.int .i64 n)).setCell ⟨zb, 7, none⟩ (.int .i64 h)).setCell ⟨zb, 8, none⟩ (.bool got)).setCell ⟨zb, 9, none⟩ (.bool full) = u3 at *
  have hEnd := hF.sub (.cons _ (.cons _ (List.Sublist.refl _)))
  exact bodyPost_ret (v := .tuple #[.agg #[.int .i64 kd, .int .i64 (B : Int), .int .i64 D, .int .i64 (-1), .int .i64 (wrap64 (t + 1)), .int .i64 x, .int .i64 n, .int .i64 h, .bool got, .bool full], .slice ao2 (ms.set (B + 1) (wrap64 (t + 1))).length c2]) (by simp [results, Try.results53, go_sem, z0, z1, z2, z3, z4, z5, z6, z7, z8, z9]) rfl ⟨ao2, c2, rfl, hEnd⟩
end Go.Proofs.Ytofnjapgacgdlaa
