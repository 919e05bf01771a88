/- The document's deque: forebayref13.push, pop and steal, the steps that read. -/
import Derived.Test.YtofnjapgacgdlaaRef13c
set_option linter.unusedVariables false
set_option linter.unusedSimpArgs false
namespace Go.Proofs.Ytofnjapgacgdlaa
open Go.RowKit
set_option maxRecDepth 100000
set_option maxHeartbeats 8000000
theorem rs0n {B : Nat} {D : Int} {ms : List Int} (hr : (B : Int) + 4 + D ≤ ms.length ∧ ms.length ≤ 100000) (hD : 2 ≤ D ∧ D ≤ 256) {w0 w : World} {mo : Option Addr} {mc : Nat} {l : List Ast} (hO : Own w0 w (mRow (.slice mo ms.length mc) ms :: l)) (kd t x n h : Int) (got full : Bool) (Y : Int) (hY : ms.getD (B) 0 = Y) (V : Int) (hV : wrap64 (t - Y) = V) (c : ¬ D - 1 ≤ V) :
    Calls Try.prog 53 #[.agg #[.int .i64 kd, .int .i64 (B : Int), .int .i64 D, .int .i64 0, .int .i64 t, .int .i64 x, .int .i64 n, .int .i64 h, .bool got, .bool full], .slice mo ms.length mc] w fun e w' => e = .returned (.tuple #[.agg #[.int .i64 kd, .int .i64 (B : Int), .int .i64 D, .int .i64 1, .int .i64 t, .int .i64 x, .int .i64 n, .int .i64 h, .bool got, .bool full], .slice mo ms.length mc]) ∧ Own w0 w' (mRow (.slice mo ms.length mc) ms :: l) := by
  have h1 := (hO.box #[.int .i64 kd, .int .i64 (B : Int), .int .i64 D, .int .i64 1, .int .i64 t, .int .i64 x, .int .i64 n, .int .i64 h, .bool got, .bool full] 68).box #[.int .i64 0, .int .i64 0, .int .i64 0, .int .i64 0, .int .i64 0, .int .i64 0, .int .i64 0, .int .i64 0, .bool false, .bool false] 68
  rw [alloc_sz] at h1
  have h2 : Own w0 ((w.alloc (.cells #[.int .i64 kd, .int .i64 (B : Int), .int .i64 D, .int .i64 1, .int .i64 t, .int .i64 x, .int .i64 n, .int .i64 h, .bool got, .bool full] 68)).alloc (.cells #[.int .i64 0, .int .i64 0, .int .i64 0, .int .i64 0, .int .i64 0, .int .i64 0, .int .i64 0, .int .i64 0, .bool false, .bool false] 68)) (cellsA w.heap.size #[.int .i64 kd, .int .i64 (B : Int), .int .i64 D, .int .i64 1, .int .i64 t, .int .i64 x, .int .i64 n, .int .i64 h, .bool got, .bool full] 68 :: cellsA (w.heap.size + 1) #[.int .i64 0, .int .i64 0, .int .i64 0, .int .i64 0, .int .i64 0, .int .i64 0, .int .i64 0, .int .i64 0, .bool false, .bool false] 68 :: mRow (.slice mo ms.length mc) ms :: l) := h1.pm (by
    simp only [List.cons_append, List.append_assoc, List.nil_append]
    exact (List.perm_append_comm (l₁ := mRow (.slice mo ms.length mc) ms :: l) (l₂ := [_, _])))
  have e1 : IntKind.i64.wrap (t - Y) = V := (IntWalk.i64_left _).trans hV
  have e2 : IntKind.i64.wrap (D - 1) = D - 1 := IntWalk.i64_in _ (by omega)
  have e3 : decide (D - 1 ≤ V) = false := decide_eq_false c
  clear hV
  have RW := Lib.hid (fun (w1 : World) (h' : Own w0 w1 (mRow (.slice mo ms.length mc) ms :: l)) => rword (Lies.of_row (h'.row 0 rfl) rfl) (k := B) (by omega) Y hY)
  clear h1 hO hY
  go_enter Try.func53, Try.ntmps53
  go_upto_region 4 with fail
  generalize (w.alloc (.cells #[.int .i64 kd, .int .i64 (B : Int), .int .i64 D, .int .i64 1, .int .i64 t, .int .i64 x, .int .i64 n, .int .i64 h, .bool got, .bool full] 68)).alloc (.cells #[.int .i64 0, .int .i64 0, .int .i64 0, .int .i64 0, .int .i64 0, .int .i64 0, .int .i64 0, .int .i64 0, .bool false, .bool false] 68) = u at *
  generalize w.heap.size + 1 = zb at *
  generalize w.heap.size = rb at *
  have hOa := h2.drewN 1
  have hR := Lib.hid (RW.out _ (hOa.sub (.cons _ (.cons _ (List.Sublist.refl _)))))
  obtain ⟨r0, r1, r2, r3, r4, r5, r6, r7, r8, r9⟩ := get10a hOa
  have hS0 := (show (fun w' : World => w'.cell? ⟨rb, 1, none⟩ = some (.int .i64 (B : Int)) ∧ w'.cell? ⟨rb, 2, none⟩ = some (.int .i64 D) ∧ w'.cell? ⟨rb, 4, none⟩ = some (.int .i64 t)) _ from ⟨r1, r2, r4⟩)
  clear r0 r1 r2 r3 r4 r5 r6 r7 r8 r9 h2
  refine lin_start (S := (fun w' : World => w'.cell? ⟨rb, 1, none⟩ = some (.int .i64 (B : Int)) ∧ w'.cell? ⟨rb, 2, none⟩ = some (.int .i64 D) ∧ w'.cell? ⟨rb, 4, none⟩ = some (.int .i64 t))) rfl 11 rfl hS0 ?_
  simp only [numbered, Nat.zero_add, Nat.reduceAdd]
  refine lin_take (v := ?_) (by kernel_rfl) (by kernel_rfl) (fun _ _ _ h => h) (Or.inl ⟨by rfl, ?_⟩) (by assumption) ?_; (rotate_left; (intro wS hSw; (try dsimp only at hSw); (try go_simp); (try with_reducible rfl)); rotate_left); simp only [Act.put, List.setIfInBounds_toArray, List.set_cons_zero, List.set_cons_succ]
  refine lin_take (v := ?_) (by kernel_rfl) (by kernel_rfl) (fun _ _ _ h => h) (Or.inl ⟨by rfl, ?_⟩) (by assumption) ?_; (rotate_left; (intro wS hSw; (try dsimp only at hSw); (try go_simp); (try with_reducible rfl)); rotate_left); simp only [Act.put, List.setIfInBounds_toArray, List.set_cons_zero, List.set_cons_succ]
  refine lin_take (v := ?_) (by kernel_rfl) (by kernel_rfl) (fun _ _ _ h => h) (Or.inl ⟨by rfl, ?_⟩) (by assumption) ?_; (rotate_left; (intro wS hSw; (try dsimp only at hSw); (try go_simp); (try with_reducible rfl)); rotate_left); simp only [Act.put, List.setIfInBounds_toArray, List.set_cons_zero, List.set_cons_succ]
  refine lin_take (v := ?_) (by kernel_rfl) (by kernel_rfl) (fun _ _ _ h => h) (Or.inl ⟨by rfl, ?_⟩) (by assumption) ?_; (rotate_left; (intro wS hSw; (try dsimp only at hSw); (try go_simp); (try with_reducible rfl)); rotate_left); simp only [Act.put, List.setIfInBounds_toArray, List.set_cons_zero, List.set_cons_succ]
  refine lin_take (v := ?_) (by kernel_rfl) (by kernel_rfl) (fun _ _ _ h => h) (Or.inl ⟨by rfl, ?_⟩) (by assumption) ?_; (rotate_left; (intro wS hSw; (try dsimp only at hSw); (try go_simp); (try with_reducible rfl)); rotate_left); simp only [Act.put, List.setIfInBounds_toArray, List.set_cons_zero, List.set_cons_succ]
  refine lin_rot ?_; simp only [List.cons_append, List.nil_append]
  refine lin_rot ?_; simp only [List.cons_append, List.nil_append]
  refine lin_take (v := ?_) (by kernel_rfl) (by kernel_rfl) (fun _ _ _ h => h) (Or.inl ⟨by rfl, ?_⟩) (by assumption) ?_; (rotate_left; (intro wS hSw; (try dsimp only at hSw); (try go_simp); (try with_reducible rfl)); rotate_left); simp only [Act.put, List.setIfInBounds_toArray, List.set_cons_zero, List.set_cons_succ]
  refine lin_take (v := ?_) (by kernel_rfl) (by kernel_rfl) (fun _ _ _ h => h) (Or.inl ⟨by rfl, ?_⟩) (by assumption) ?_; (rotate_left; (intro wS hSw; (try dsimp only at hSw); (try go_simp); (try with_reducible rfl)); rotate_left); simp only [Act.put, List.setIfInBounds_toArray, List.set_cons_zero, List.set_cons_succ]
  refine lin_take (v := ?_) (by kernel_rfl) (by kernel_rfl) (fun _ _ _ h => h) (Or.inl ⟨by rfl, ?_⟩) (by assumption) ?_; (rotate_left; (intro wS hSw; (try dsimp only at hSw); (try go_simp); (try with_reducible rfl)); rotate_left); simp only [Act.put, List.setIfInBounds_toArray, List.set_cons_zero, List.set_cons_succ]
  refine lin_rot ?_; simp only [List.cons_append, List.nil_append]
  refine lin_sole (by kernel_rfl) (fun K hK => ?_)
  go_simp
  refine (hR.out).mono ?_
  rintro e w6 ⟨rfl, rfl⟩
  refine hK.out _ _ hS0 (fun hHeld => ?_)
  try simp only [Act.put, List.setIfInBounds_toArray, List.set_cons_zero, List.set_cons_succ]
  clear hK
  refine lin_take (v := ?_) (by kernel_rfl) (by kernel_rfl) (fun _ _ _ h => h) (Or.inl ⟨by rfl, ?_⟩) (by assumption) ?_; (rotate_left; (intro wS hSw; (try dsimp only at hSw); (try go_simp); (try with_reducible rfl)); rotate_left); simp only [Act.put, List.setIfInBounds_toArray, List.set_cons_zero, List.set_cons_succ]
  refine lin_take (v := ?_) (by kernel_rfl) (by kernel_rfl) (fun _ _ _ h => h) (Or.inl ⟨by rfl, ?_⟩) (by assumption) ?_; (rotate_left; (intro wS hSw; (try dsimp only at hSw); (try go_simp); (try with_reducible rfl)); rotate_left); simp only [Act.put, List.setIfInBounds_toArray, List.set_cons_zero, List.set_cons_succ]
  refine lin_done (by kernel_rfl) ?_
  obtain ⟨r0, r1, r2, r3, r4, r5, r6, r7, r8, r9⟩ := get10a hOa
  have fr3 := (hOa.cget 0 rfl 3).2
  have hW := hOa
  have hW2 : Own w0 _ (cellsA rb #[.int .i64 kd, .int .i64 (B : Int), .int .i64 D, .int .i64 1, .int .i64 t, .int .i64 x, .int .i64 n, .int .i64 h, .bool got, .bool full] 68 :: cellsA zb #[.int .i64 0, .int .i64 0, .int .i64 0, .int .i64 0, .int .i64 0, .int .i64 0, .int .i64 0, .int .i64 0, .bool false, .bool false] 68 :: mRow (.slice mo ms.length mc) ms :: l) := hW
  go_upto_region 7 with fail
  clear r0 r1 r2 r3 r4 r5 r6 r7 r8 r9 fr3 hOa hS0 hHeld hR hW
  generalize u.drewN 1 = u2 at *
  obtain ⟨r0, r1, r2, r3, r4, r5, r6, r7, r8, r9⟩ := get10a hW2
  obtain ⟨f0, f1, f2, f3, f4, f5, f6, f7, f8, f9⟩ := get10f hW2
  obtain ⟨z0, z1, z2, z3, z4, z5, z6, z7, z8, z9⟩ := get10 hW2
  have hF := set10 hW2 (.int .i64 kd) (.int .i64 (B : Int)) (.int .i64 D) (.int .i64 1) (.int .i64 t) (.int .i64 x) (.int .i64 n) (.int .i64 h) (.bool got) (.bool full)
  replace hF := Lib.hid hF
  clear hW2
  go_wp2_with fail
  replace hF := hF.out
  clear r0 f0 z0 r1 f1 z1 r2 f2 z2 r3 f3 z3 r4 f4 z4 r5 f5 z5 r6 f6 z6 r7 f7 z7 r8 f8 z8 r9 f9 z9
  obtain ⟨z0, z1, z2, z3, z4, z5, z6, z7, z8, z9⟩ := get10 hF
  generalize (((((((((u2.setCell ⟨zb, 0, none⟩ (.int .i64 kd)).setCell ⟨zb, 1, none⟩ (.int .i64 (B : Int))).setCell ⟨zb, 2, none⟩ (.int .i64 D)).setCell ⟨zb, 3, none⟩ (.int .i64 1)).setCell ⟨zb, 4, none⟩ (.int .i64 t)).setCell ⟨zb, 5, none⟩ (.int .i64 x)).setCell ⟨zb, 6, none⟩ (.int .i64 n)).setCell ⟨zb, 7, none⟩ (.int .i64 h)).setCell ⟨zb, 8, none⟩ (.bool got)).setCell ⟨zb, 9, none⟩ (.bool full) = u3 at *
  have hEnd := hF.sub (.cons _ (.cons _ (List.Sublist.refl _)))
  exact bodyPost_ret (v := .tuple #[.agg #[.int .i64 kd, .int .i64 (B : Int), .int .i64 D, .int .i64 1, .int .i64 t, .int .i64 x, .int .i64 n, .int .i64 h, .bool got, .bool full], .slice mo ms.length mc]) (by simp [results, Try.results53, go_sem, z0, z1, z2, z3, z4, z5, z6, z7, z8, z9]) rfl ⟨rfl, hEnd⟩
theorem rs11y {B : Nat} {D : Int} {ms : List Int} (hr : (B : Int) + 4 + D ≤ ms.length ∧ ms.length ≤ 100000) (hD : 2 ≤ D ∧ D ≤ 256) {w0 w : World} {mo : Option Addr} {mc : Nat} {l : List Ast} (hO : Own w0 w (mRow (.slice mo ms.length mc) ms :: l)) (kd t x n h : Int) (got full : Bool) (Y : Int) (hY : ms.getD (B) 0 = Y) (V : Int) (hV : wrap64 (t - 1) = V) (c : Y ≤ V) :
    Calls Try.prog 54 #[.agg #[.int .i64 kd, .int .i64 (B : Int), .int .i64 D, .int .i64 1, .int .i64 t, .int .i64 x, .int .i64 n, .int .i64 h, .bool got, .bool full], .slice mo ms.length mc] w fun e w' => e = .returned (.tuple #[.agg #[.int .i64 kd, .int .i64 (B : Int), .int .i64 D, .int .i64 10, .int .i64 t, .int .i64 x, .int .i64 n, .int .i64 h, .bool got, .bool full], .slice mo ms.length mc]) ∧ Own w0 w' (mRow (.slice mo ms.length mc) ms :: l) := by
  have h1 := (hO.box #[.int .i64 kd, .int .i64 (B : Int), .int .i64 D, .int .i64 2, .int .i64 t, .int .i64 x, .int .i64 n, .int .i64 h, .bool got, .bool full] 68).box #[.int .i64 0, .int .i64 0, .int .i64 0, .int .i64 0, .int .i64 0, .int .i64 0, .int .i64 0, .int .i64 0, .bool false, .bool false] 68
  rw [alloc_sz] at h1
  have h2 : Own w0 ((w.alloc (.cells #[.int .i64 kd, .int .i64 (B : Int), .int .i64 D, .int .i64 2, .int .i64 t, .int .i64 x, .int .i64 n, .int .i64 h, .bool got, .bool full] 68)).alloc (.cells #[.int .i64 0, .int .i64 0, .int .i64 0, .int .i64 0, .int .i64 0, .int .i64 0, .int .i64 0, .int .i64 0, .bool false, .bool false] 68)) (cellsA w.heap.size #[.int .i64 kd, .int .i64 (B : Int), .int .i64 D, .int .i64 2, .int .i64 t, .int .i64 x, .int .i64 n, .int .i64 h, .bool got, .bool full] 68 :: cellsA (w.heap.size + 1) #[.int .i64 0, .int .i64 0, .int .i64 0, .int .i64 0, .int .i64 0, .int .i64 0, .int .i64 0, .int .i64 0, .bool false, .bool false] 68 :: mRow (.slice mo ms.length mc) ms :: l) := h1.pm (by
    simp only [List.cons_append, List.append_assoc, List.nil_append]
    exact (List.perm_append_comm (l₁ := mRow (.slice mo ms.length mc) ms :: l) (l₂ := [_, _])))
  have e1 : IntKind.i64.wrap (t - 1) = V := (IntWalk.i64_left _).trans hV
  clear hV
  have e3 : decide (Y ≤ V) = true := decide_eq_true c
  have RW := Lib.hid (fun (w1 : World) (h' : Own w0 w1 (mRow (.slice mo ms.length mc) ms :: l)) => rword (Lies.of_row (h'.row 0 rfl) rfl) (k := B) (by omega) Y hY)
  clear h1 hO hY
  go_enter Try.func54, Try.ntmps54
  go_upto_region 8 with fail
  generalize (w.alloc (.cells #[.int .i64 kd, .int .i64 (B : Int), .int .i64 D, .int .i64 2, .int .i64 t, .int .i64 x, .int .i64 n, .int .i64 h, .bool got, .bool full] 68)).alloc (.cells #[.int .i64 0, .int .i64 0, .int .i64 0, .int .i64 0, .int .i64 0, .int .i64 0, .int .i64 0, .int .i64 0, .bool false, .bool false] 68) = u at *
  generalize w.heap.size + 1 = zb at *
  generalize w.heap.size = rb at *
  have hOa := h2.drewN 1
  have hR := Lib.hid (RW.out _ (hOa.sub (.cons _ (.cons _ (List.Sublist.refl _)))))
  obtain ⟨r0, r1, r2, r3, r4, r5, r6, r7, r8, r9⟩ := get10a hOa
  have hS0 := (show (fun w' : World => w'.cell? ⟨rb, 1, none⟩ = some (.int .i64 (B : Int)) ∧ w'.cell? ⟨rb, 4, none⟩ = some (.int .i64 t)) _ from ⟨r1, r4⟩)
  clear r0 r1 r2 r3 r4 r5 r6 r7 r8 r9 h2
  refine lin_start (S := (fun w' : World => w'.cell? ⟨rb, 1, none⟩ = some (.int .i64 (B : Int)) ∧ w'.cell? ⟨rb, 4, none⟩ = some (.int .i64 t))) rfl 8 rfl hS0 ?_
  simp only [numbered, Nat.zero_add, Nat.reduceAdd]
  refine lin_take (v := ?_) (by kernel_rfl) (by kernel_rfl) (fun _ _ _ h => h) (Or.inl ⟨by rfl, ?_⟩) (by assumption) ?_; (rotate_left; (intro wS hSw; (try dsimp only at hSw); (try go_simp); (try with_reducible rfl)); rotate_left); simp only [Act.put, List.setIfInBounds_toArray, List.set_cons_zero, List.set_cons_succ]
  refine lin_take (v := ?_) (by kernel_rfl) (by kernel_rfl) (fun _ _ _ h => h) (Or.inl ⟨by rfl, ?_⟩) (by assumption) ?_; (rotate_left; (intro wS hSw; (try dsimp only at hSw); (try go_simp); (try with_reducible rfl)); rotate_left); simp only [Act.put, List.setIfInBounds_toArray, List.set_cons_zero, List.set_cons_succ]
  refine lin_take (v := ?_) (by kernel_rfl) (by kernel_rfl) (fun _ _ _ h => h) (Or.inl ⟨by rfl, ?_⟩) (by assumption) ?_; (rotate_left; (intro wS hSw; (try dsimp only at hSw); (try go_simp); (try with_reducible rfl)); rotate_left); simp only [Act.put, List.setIfInBounds_toArray, List.set_cons_zero, List.set_cons_succ]
  refine lin_rot ?_; simp only [List.cons_append, List.nil_append]
  refine lin_take (v := ?_) (by kernel_rfl) (by kernel_rfl) (fun _ _ _ h => h) (Or.inl ⟨by rfl, ?_⟩) (by assumption) ?_; (rotate_left; (intro wS hSw; (try dsimp only at hSw); (try go_simp); (try with_reducible rfl)); rotate_left); simp only [Act.put, List.setIfInBounds_toArray, List.set_cons_zero, List.set_cons_succ]
  refine lin_take (v := ?_) (by kernel_rfl) (by kernel_rfl) (fun _ _ _ h => h) (Or.inl ⟨by rfl, ?_⟩) (by assumption) ?_; (rotate_left; (intro wS hSw; (try dsimp only at hSw); (try go_simp); (try with_reducible rfl)); rotate_left); simp only [Act.put, List.setIfInBounds_toArray, List.set_cons_zero, List.set_cons_succ]
  refine lin_take (v := ?_) (by kernel_rfl) (by kernel_rfl) (fun _ _ _ h => h) (Or.inl ⟨by rfl, ?_⟩) (by assumption) ?_; (rotate_left; (intro wS hSw; (try dsimp only at hSw); (try go_simp); (try with_reducible rfl)); rotate_left); simp only [Act.put, List.setIfInBounds_toArray, List.set_cons_zero, List.set_cons_succ]
  refine lin_rot ?_; simp only [List.cons_append, List.nil_append]
  refine lin_sole (by kernel_rfl) (fun K hK => ?_)
  go_simp
  refine (hR.out).mono ?_
  rintro e w6 ⟨rfl, rfl⟩
  refine hK.out _ _ hS0 (fun hHeld => ?_)
  try simp only [Act.put, List.setIfInBounds_toArray, List.set_cons_zero, List.set_cons_succ]
  clear hK
  refine lin_take (v := ?_) (by kernel_rfl) (by kernel_rfl) (fun _ _ _ h => h) (Or.inl ⟨by rfl, ?_⟩) (by assumption) ?_; (rotate_left; (intro wS hSw; (try dsimp only at hSw); (try go_simp); (try with_reducible rfl)); rotate_left); simp only [Act.put, List.setIfInBounds_toArray, List.set_cons_zero, List.set_cons_succ]
  refine lin_done (by kernel_rfl) ?_
  obtain ⟨r0, r1, r2, r3, r4, r5, r6, r7, r8, r9⟩ := get10a hOa
  have fr3 := (hOa.cget 0 rfl 3).2
  have hW := hOa.cset 0 rfl 3 (.int .i64 10)
  have hW2 : Own w0 _ (cellsA rb #[.int .i64 kd, .int .i64 (B : Int), .int .i64 D, .int .i64 10, .int .i64 t, .int .i64 x, .int .i64 n, .int .i64 h, .bool got, .bool full] 68 :: cellsA zb #[.int .i64 0, .int .i64 0, .int .i64 0, .int .i64 0, .int .i64 0, .int .i64 0, .int .i64 0, .int .i64 0, .bool false, .bool false] 68 :: mRow (.slice mo ms.length mc) ms :: l) := hW
  go_upto_region 10 with fail
  clear r0 r1 r2 r3 r4 r5 r6 r7 r8 r9 fr3 hOa hS0 hHeld hR hW
  generalize (u.drewN 1).setCell ⟨rb, 3, none⟩ (.int .i64 10) = u2 at *
  obtain ⟨r0, r1, r2, r3, r4, r5, r6, r7, r8, r9⟩ := get10a hW2
  obtain ⟨f0, f1, f2, f3, f4, f5, f6, f7, f8, f9⟩ := get10f hW2
  obtain ⟨z0, z1, z2, z3, z4, z5, z6, z7, z8, z9⟩ := get10 hW2
  have hF := set10 hW2 (.int .i64 kd) (.int .i64 (B : Int)) (.int .i64 D) (.int .i64 10) (.int .i64 t) (.int .i64 x) (.int .i64 n) (.int .i64 h) (.bool got) (.bool full)
  replace hF := Lib.hid hF
  clear hW2
  go_wp2_with fail
  replace hF := hF.out
  clear r0 f0 z0 r1 f1 z1 r2 f2 z2 r3 f3 z3 r4 f4 z4 r5 f5 z5 r6 f6 z6 r7 f7 z7 r8 f8 z8 r9 f9 z9
  obtain ⟨z0, z1, z2, z3, z4, z5, z6, z7, z8, z9⟩ := get10 hF
  generalize (((((((((u2.setCell ⟨zb, 0, none⟩ (.int .i64 kd)).setCell ⟨zb, 1, none⟩ (.int .i64 (B : Int))).setCell ⟨zb, 2, none⟩ (.int .i64 D)).setCell ⟨zb, 3, none⟩ (.int .i64 10)).setCell ⟨zb, 4, none⟩ (.int .i64 t)).setCell ⟨zb, 5, none⟩ (.int .i64 x)).setCell ⟨zb, 6, none⟩ (.int .i64 n)).setCell ⟨zb, 7, none⟩ (.int .i64 h)).setCell ⟨zb, 8, none⟩ (.bool got)).setCell ⟨zb, 9, none⟩ (.bool full) = u3 at *
  have hEnd := hF.sub (.cons _ (.cons _ (List.Sublist.refl _)))
  exact bodyPost_ret (v := .tuple #[.agg #[.int .i64 kd, .int .i64 (B : Int), .int .i64 D, .int .i64 10, .int .i64 t, .int .i64 x, .int .i64 n, .int .i64 h, .bool got, .bool full], .slice mo ms.length mc]) (by simp [results, Try.results54, go_sem, z0, z1, z2, z3, z4, z5, z6, z7, z8, z9]) rfl ⟨rfl, hEnd⟩
theorem rs11n {B : Nat} {D : Int} {ms : List Int} (hr : (B : Int) + 4 + D ≤ ms.length ∧ ms.length ≤ 100000) (hD : 2 ≤ D ∧ D ≤ 256) {w0 w : World} {mo : Option Addr} {mc : Nat} {l : List Ast} (hO : Own w0 w (mRow (.slice mo ms.length mc) ms :: l)) (kd t x n h : Int) (got full : Bool) (Y : Int) (hY : ms.getD (B) 0 = Y) (V : Int) (hV : wrap64 (t - 1) = V) (c : ¬ Y ≤ V) :
    Calls Try.prog 54 #[.agg #[.int .i64 kd, .int .i64 (B : Int), .int .i64 D, .int .i64 1, .int .i64 t, .int .i64 x, .int .i64 n, .int .i64 h, .bool got, .bool full], .slice mo ms.length mc] w fun e w' => e = .returned (.tuple #[.agg #[.int .i64 kd, .int .i64 (B : Int), .int .i64 D, .int .i64 2, .int .i64 t, .int .i64 x, .int .i64 n, .int .i64 h, .bool got, .bool full], .slice mo ms.length mc]) ∧ Own w0 w' (mRow (.slice mo ms.length mc) ms :: l) := by
  have h1 := (hO.box #[.int .i64 kd, .int .i64 (B : Int), .int .i64 D, .int .i64 2, .int .i64 t, .int .i64 x, .int .i64 n, .int .i64 h, .bool got, .bool full] 68).box #[.int .i64 0, .int .i64 0, .int .i64 0, .int .i64 0, .int .i64 0, .int .i64 0, .int .i64 0, .int .i64 0, .bool false, .bool false] 68
  rw [alloc_sz] at h1
  have h2 : Own w0 ((w.alloc (.cells #[.int .i64 kd, .int .i64 (B : Int), .int .i64 D, .int .i64 2, .int .i64 t, .int .i64 x, .int .i64 n, .int .i64 h, .bool got, .bool full] 68)).alloc (.cells #[.int .i64 0, .int .i64 0, .int .i64 0, .int .i64 0, .int .i64 0, .int .i64 0, .int .i64 0, .int .i64 0, .bool false, .bool false] 68)) (cellsA w.heap.size #[.int .i64 kd, .int .i64 (B : Int), .int .i64 D, .int .i64 2, .int .i64 t, .int .i64 x, .int .i64 n, .int .i64 h, .bool got, .bool full] 68 :: cellsA (w.heap.size + 1) #[.int .i64 0, .int .i64 0, .int .i64 0, .int .i64 0, .int .i64 0, .int .i64 0, .int .i64 0, .int .i64 0, .bool false, .bool false] 68 :: mRow (.slice mo ms.length mc) ms :: l) := h1.pm (by
    simp only [List.cons_append, List.append_assoc, List.nil_append]
    exact (List.perm_append_comm (l₁ := mRow (.slice mo ms.length mc) ms :: l) (l₂ := [_, _])))
  have e1 : IntKind.i64.wrap (t - 1) = V := (IntWalk.i64_left _).trans hV
  clear hV
  have e3 : decide (Y ≤ V) = false := decide_eq_false c
  have RW := Lib.hid (fun (w1 : World) (h' : Own w0 w1 (mRow (.slice mo ms.length mc) ms :: l)) => rword (Lies.of_row (h'.row 0 rfl) rfl) (k := B) (by omega) Y hY)
  clear h1 hO hY
  go_enter Try.func54, Try.ntmps54
  go_upto_region 8 with fail
  generalize (w.alloc (.cells #[.int .i64 kd, .int .i64 (B : Int), .int .i64 D, .int .i64 2, .int .i64 t, .int .i64 x, .int .i64 n, .int .i64 h, .bool got, .bool full] 68)).alloc (.cells #[.int .i64 0, .int .i64 0, .int .i64 0, .int .i64 0, .int .i64 0, .int .i64 0, .int .i64 0, .int .i64 0, .bool false, .bool false] 68) = u at *
  generalize w.heap.size + 1 = zb at *
  generalize w.heap.size = rb at *
  have hOa := h2.drewN 1
  have hR := Lib.hid (RW.out _ (hOa.sub (.cons _ (.cons _ (List.Sublist.refl _)))))
  obtain ⟨r0, r1, r2, r3, r4, r5, r6, r7, r8, r9⟩ := get10a hOa
  have hS0 := (show (fun w' : World => w'.cell? ⟨rb, 1, none⟩ = some (.int .i64 (B : Int)) ∧ w'.cell? ⟨rb, 4, none⟩ = some (.int .i64 t)) _ from ⟨r1, r4⟩)
  clear r0 r1 r2 r3 r4 r5 r6 r7 r8 r9 h2
  refine lin_start (S := (fun w' : World => w'.cell? ⟨rb, 1, none⟩ = some (.int .i64 (B : Int)) ∧ w'.cell? ⟨rb, 4, none⟩ = some (.int .i64 t))) rfl 8 rfl hS0 ?_
  simp only [numbered, Nat.zero_add, Nat.reduceAdd]
  refine lin_take (v := ?_) (by kernel_rfl) (by kernel_rfl) (fun _ _ _ h => h) (Or.inl ⟨by rfl, ?_⟩) (by assumption) ?_; (rotate_left; (intro wS hSw; (try dsimp only at hSw); (try go_simp); (try with_reducible rfl)); rotate_left); simp only [Act.put, List.setIfInBounds_toArray, List.set_cons_zero, List.set_cons_succ]
  refine lin_take (v := ?_) (by kernel_rfl) (by kernel_rfl) (fun _ _ _ h => h) (Or.inl ⟨by rfl, ?_⟩) (by assumption) ?_; (rotate_left; (intro wS hSw; (try dsimp only at hSw); (try go_simp); (try with_reducible rfl)); rotate_left); simp only [Act.put, List.setIfInBounds_toArray, List.set_cons_zero, List.set_cons_succ]
  refine lin_take (v := ?_) (by kernel_rfl) (by kernel_rfl) (fun _ _ _ h => h) (Or.inl ⟨by rfl, ?_⟩) (by assumption) ?_; (rotate_left; (intro wS hSw; (try dsimp only at hSw); (try go_simp); (try with_reducible rfl)); rotate_left); simp only [Act.put, List.setIfInBounds_toArray, List.set_cons_zero, List.set_cons_succ]
  refine lin_rot ?_; simp only [List.cons_append, List.nil_append]
  refine lin_take (v := ?_) (by kernel_rfl) (by kernel_rfl) (fun _ _ _ h => h) (Or.inl ⟨by rfl, ?_⟩) (by assumption) ?_; (rotate_left; (intro wS hSw; (try dsimp only at hSw); (try go_simp); (try with_reducible rfl)); rotate_left); simp only [Act.put, List.setIfInBounds_toArray, List.set_cons_zero, List.set_cons_succ]
  refine lin_take (v := ?_) (by kernel_rfl) (by kernel_rfl) (fun _ _ _ h => h) (Or.inl ⟨by rfl, ?_⟩) (by assumption) ?_; (rotate_left; (intro wS hSw; (try dsimp only at hSw); (try go_simp); (try with_reducible rfl)); rotate_left); simp only [Act.put, List.setIfInBounds_toArray, List.set_cons_zero, List.set_cons_succ]
  refine lin_take (v := ?_) (by kernel_rfl) (by kernel_rfl) (fun _ _ _ h => h) (Or.inl ⟨by rfl, ?_⟩) (by assumption) ?_; (rotate_left; (intro wS hSw; (try dsimp only at hSw); (try go_simp); (try with_reducible rfl)); rotate_left); simp only [Act.put, List.setIfInBounds_toArray, List.set_cons_zero, List.set_cons_succ]
  refine lin_rot ?_; simp only [List.cons_append, List.nil_append]
  refine lin_sole (by kernel_rfl) (fun K hK => ?_)
  go_simp
  refine (hR.out).mono ?_
  rintro e w6 ⟨rfl, rfl⟩
  refine hK.out _ _ hS0 (fun hHeld => ?_)
  try simp only [Act.put, List.setIfInBounds_toArray, List.set_cons_zero, List.set_cons_succ]
  clear hK
  refine lin_take (v := ?_) (by kernel_rfl) (by kernel_rfl) (fun _ _ _ h => h) (Or.inl ⟨by rfl, ?_⟩) (by assumption) ?_; (rotate_left; (intro wS hSw; (try dsimp only at hSw); (try go_simp); (try with_reducible rfl)); rotate_left); simp only [Act.put, List.setIfInBounds_toArray, List.set_cons_zero, List.set_cons_succ]
  refine lin_done (by kernel_rfl) ?_
  obtain ⟨r0, r1, r2, r3, r4, r5, r6, r7, r8, r9⟩ := get10a hOa
  have fr3 := (hOa.cget 0 rfl 3).2
  have hW := hOa
  have hW2 : Own w0 _ (cellsA rb #[.int .i64 kd, .int .i64 (B : Int), .int .i64 D, .int .i64 2, .int .i64 t, .int .i64 x, .int .i64 n, .int .i64 h, .bool got, .bool full] 68 :: cellsA zb #[.int .i64 0, .int .i64 0, .int .i64 0, .int .i64 0, .int .i64 0, .int .i64 0, .int .i64 0, .int .i64 0, .bool false, .bool false] 68 :: mRow (.slice mo ms.length mc) ms :: l) := hW
  go_upto_region 10 with fail
  clear r0 r1 r2 r3 r4 r5 r6 r7 r8 r9 fr3 hOa hS0 hHeld hR hW
  generalize u.drewN 1 = u2 at *
  obtain ⟨r0, r1, r2, r3, r4, r5, r6, r7, r8, r9⟩ := get10a hW2
  obtain ⟨f0, f1, f2, f3, f4, f5, f6, f7, f8, f9⟩ := get10f hW2
  obtain ⟨z0, z1, z2, z3, z4, z5, z6, z7, z8, z9⟩ := get10 hW2
  have hF := set10 hW2 (.int .i64 kd) (.int .i64 (B : Int)) (.int .i64 D) (.int .i64 2) (.int .i64 t) (.int .i64 x) (.int .i64 n) (.int .i64 h) (.bool got) (.bool full)
  replace hF := Lib.hid hF
  clear hW2
  go_wp2_with fail
  replace hF := hF.out
  clear r0 f0 z0 r1 f1 z1 r2 f2 z2 r3 f3 z3 r4 f4 z4 r5 f5 z5 r6 f6 z6 r7 f7 z7 r8 f8 z8 r9 f9 z9
  obtain ⟨z0, z1, z2, z3, z4, z5, z6, z7, z8, z9⟩ := get10 hF
  generalize (((((((((u2.setCell ⟨zb, 0, none⟩ (.int .i64 kd)).setCell ⟨zb, 1, none⟩ (.int .i64 (B : Int))).setCell ⟨zb, 2, none⟩ (.int .i64 D)).setCell ⟨zb, 3, none⟩ (.int .i64 2)).setCell ⟨zb, 4, none⟩ (.int .i64 t)).setCell ⟨zb, 5, none⟩ (.int .i64 x)).setCell ⟨zb, 6, none⟩ (.int .i64 n)).setCell ⟨zb, 7, none⟩ (.int .i64 h)).setCell ⟨zb, 8, none⟩ (.bool got)).setCell ⟨zb, 9, none⟩ (.bool full) = u3 at *
  have hEnd := hF.sub (.cons _ (.cons _ (List.Sublist.refl _)))
  exact bodyPost_ret (v := .tuple #[.agg #[.int .i64 kd, .int .i64 (B : Int), .int .i64 D, .int .i64 2, .int .i64 t, .int .i64 x, .int .i64 n, .int .i64 h, .bool got, .bool full], .slice mo ms.length mc]) (by simp [results, Try.results54, go_sem, z0, z1, z2, z3, z4, z5, z6, z7, z8, z9]) rfl ⟨rfl, hEnd⟩
theorem rs16y {B : Nat} {D : Int} {ms : List Int} (hr : (B : Int) + 4 + D ≤ ms.length ∧ ms.length ≤ 100000) (hD : 2 ≤ D ∧ D ≤ 256) {w0 w : World} {mo : Option Addr} {mc : Nat} {l : List Ast} (hO : Own w0 w (mRow (.slice mo ms.length mc) ms :: l)) (kd t x n h : Int) (got full : Bool) (Y : Int) (hY : ms.getD (B) 0 = Y) (V : Int) (hV : wrap64 (t - 1) = V) (c : Y ≤ V) :
    Calls Try.prog 54 #[.agg #[.int .i64 kd, .int .i64 (B : Int), .int .i64 D, .int .i64 6, .int .i64 t, .int .i64 x, .int .i64 n, .int .i64 h, .bool got, .bool full], .slice mo ms.length mc] w fun e w' => e = .returned (.tuple #[.agg #[.int .i64 kd, .int .i64 (B : Int), .int .i64 D, .int .i64 7, .int .i64 t, .int .i64 x, .int .i64 n, .int .i64 h, .bool got, .bool full], .slice mo ms.length mc]) ∧ Own w0 w' (mRow (.slice mo ms.length mc) ms :: l) := by
  have h1 := (hO.box #[.int .i64 kd, .int .i64 (B : Int), .int .i64 D, .int .i64 8, .int .i64 t, .int .i64 x, .int .i64 n, .int .i64 h, .bool got, .bool full] 68).box #[.int .i64 0, .int .i64 0, .int .i64 0, .int .i64 0, .int .i64 0, .int .i64 0, .int .i64 0, .int .i64 0, .bool false, .bool false] 68
  rw [alloc_sz] at h1
  have h2 : Own w0 ((w.alloc (.cells #[.int .i64 kd, .int .i64 (B : Int), .int .i64 D, .int .i64 8, .int .i64 t, .int .i64 x, .int .i64 n, .int .i64 h, .bool got, .bool full] 68)).alloc (.cells #[.int .i64 0, .int .i64 0, .int .i64 0, .int .i64 0, .int .i64 0, .int .i64 0, .int .i64 0, .int .i64 0, .bool false, .bool false] 68)) (cellsA w.heap.size #[.int .i64 kd, .int .i64 (B : Int), .int .i64 D, .int .i64 8, .int .i64 t, .int .i64 x, .int .i64 n, .int .i64 h, .bool got, .bool full] 68 :: cellsA (w.heap.size + 1) #[.int .i64 0, .int .i64 0, .int .i64 0, .int .i64 0, .int .i64 0, .int .i64 0, .int .i64 0, .int .i64 0, .bool false, .bool false] 68 :: mRow (.slice mo ms.length mc) ms :: l) := h1.pm (by
    simp only [List.cons_append, List.append_assoc, List.nil_append]
    exact (List.perm_append_comm (l₁ := mRow (.slice mo ms.length mc) ms :: l) (l₂ := [_, _])))
  have e1 : IntKind.i64.wrap (t - 1) = V := (IntWalk.i64_left _).trans hV
  clear hV
  have e3 : decide (Y ≤ V) = true := decide_eq_true c
  have RW := Lib.hid (fun (w1 : World) (h' : Own w0 w1 (mRow (.slice mo ms.length mc) ms :: l)) => rword (Lies.of_row (h'.row 0 rfl) rfl) (k := B) (by omega) Y hY)
  clear h1 hO hY
  go_enter Try.func54, Try.ntmps54
  go_upto_region 24 with fail
  generalize (w.alloc (.cells #[.int .i64 kd, .int .i64 (B : Int), .int .i64 D, .int .i64 8, .int .i64 t, .int .i64 x, .int .i64 n, .int .i64 h, .bool got, .bool full] 68)).alloc (.cells #[.int .i64 0, .int .i64 0, .int .i64 0, .int .i64 0, .int .i64 0, .int .i64 0, .int .i64 0, .int .i64 0, .bool false, .bool false] 68) = u at *
  generalize w.heap.size + 1 = zb at *
  generalize w.heap.size = rb at *
  have hOa := h2.drewN 1
  have hR := Lib.hid (RW.out _ (hOa.sub (.cons _ (.cons _ (List.Sublist.refl _)))))
  obtain ⟨r0, r1, r2, r3, r4, r5, r6, r7, r8, r9⟩ := get10a hOa
  have hS0 := (show (fun w' : World => w'.cell? ⟨rb, 1, none⟩ = some (.int .i64 (B : Int)) ∧ w'.cell? ⟨rb, 4, none⟩ = some (.int .i64 t)) _ from ⟨r1, r4⟩)
  clear r0 r1 r2 r3 r4 r5 r6 r7 r8 r9 h2
  refine lin_start (S := (fun w' : World => w'.cell? ⟨rb, 1, none⟩ = some (.int .i64 (B : Int)) ∧ w'.cell? ⟨rb, 4, none⟩ = some (.int .i64 t))) rfl 8 rfl hS0 ?_
  simp only [numbered, Nat.zero_add, Nat.reduceAdd]
  refine lin_take (v := ?_) (by kernel_rfl) (by kernel_rfl) (fun _ _ _ h => h) (Or.inl ⟨by rfl, ?_⟩) (by assumption) ?_; (rotate_left; (intro wS hSw; (try dsimp only at hSw); (try go_simp); (try with_reducible rfl)); rotate_left); simp only [Act.put, List.setIfInBounds_toArray, List.set_cons_zero, List.set_cons_succ]
  refine lin_take (v := ?_) (by kernel_rfl) (by kernel_rfl) (fun _ _ _ h => h) (Or.inl ⟨by rfl, ?_⟩) (by assumption) ?_; (rotate_left; (intro wS hSw; (try dsimp only at hSw); (try go_simp); (try with_reducible rfl)); rotate_left); simp only [Act.put, List.setIfInBounds_toArray, List.set_cons_zero, List.set_cons_succ]
  refine lin_take (v := ?_) (by kernel_rfl) (by kernel_rfl) (fun _ _ _ h => h) (Or.inl ⟨by rfl, ?_⟩) (by assumption) ?_; (rotate_left; (intro wS hSw; (try dsimp only at hSw); (try go_simp); (try with_reducible rfl)); rotate_left); simp only [Act.put, List.setIfInBounds_toArray, List.set_cons_zero, List.set_cons_succ]
  refine lin_rot ?_; simp only [List.cons_append, List.nil_append]
  refine lin_take (v := ?_) (by kernel_rfl) (by kernel_rfl) (fun _ _ _ h => h) (Or.inl ⟨by rfl, ?_⟩) (by assumption) ?_; (rotate_left; (intro wS hSw; (try dsimp only at hSw); (try go_simp); (try with_reducible rfl)); rotate_left); simp only [Act.put, List.setIfInBounds_toArray, List.set_cons_zero, List.set_cons_succ]
  refine lin_take (v := ?_) (by kernel_rfl) (by kernel_rfl) (fun _ _ _ h => h) (Or.inl ⟨by rfl, ?_⟩) (by assumption) ?_; (rotate_left; (intro wS hSw; (try dsimp only at hSw); (try go_simp); (try with_reducible rfl)); rotate_left); simp only [Act.put, List.setIfInBounds_toArray, List.set_cons_zero, List.set_cons_succ]
  refine lin_take (v := ?_) (by kernel_rfl) (by kernel_rfl) (fun _ _ _ h => h) (Or.inl ⟨by rfl, ?_⟩) (by assumption) ?_; (rotate_left; (intro wS hSw; (try dsimp only at hSw); (try go_simp); (try with_reducible rfl)); rotate_left); simp only [Act.put, List.setIfInBounds_toArray, List.set_cons_zero, List.set_cons_succ]
  refine lin_rot ?_; simp only [List.cons_append, List.nil_append]
  refine lin_sole (by kernel_rfl) (fun K hK => ?_)
  go_simp
  refine (hR.out).mono ?_
  rintro e w6 ⟨rfl, rfl⟩
  refine hK.out _ _ hS0 (fun hHeld => ?_)
  try simp only [Act.put, List.setIfInBounds_toArray, List.set_cons_zero, List.set_cons_succ]
  clear hK
  refine lin_take (v := ?_) (by kernel_rfl) (by kernel_rfl) (fun _ _ _ h => h) (Or.inl ⟨by rfl, ?_⟩) (by assumption) ?_; (rotate_left; (intro wS hSw; (try dsimp only at hSw); (try go_simp); (try with_reducible rfl)); rotate_left); simp only [Act.put, List.setIfInBounds_toArray, List.set_cons_zero, List.set_cons_succ]
  refine lin_done (by kernel_rfl) ?_
  obtain ⟨r0, r1, r2, r3, r4, r5, r6, r7, r8, r9⟩ := get10a hOa
  have fr3 := (hOa.cget 0 rfl 3).2
  have hW := hOa.cset 0 rfl 3 (.int .i64 7)
  have hW2 : Own w0 _ (cellsA rb #[.int .i64 kd, .int .i64 (B : Int), .int .i64 D, .int .i64 7, .int .i64 t, .int .i64 x, .int .i64 n, .int .i64 h, .bool got, .bool full] 68 :: cellsA zb #[.int .i64 0, .int .i64 0, .int .i64 0, .int .i64 0, .int .i64 0, .int .i64 0, .int .i64 0, .int .i64 0, .bool false, .bool false] 68 :: mRow (.slice mo ms.length mc) ms :: l) := hW
  go_upto_region 26 with fail
  clear r0 r1 r2 r3 r4 r5 r6 r7 r8 r9 fr3 hOa hS0 hHeld hR hW
  generalize (u.drewN 1).setCell ⟨rb, 3, none⟩ (.int .i64 7) = u2 at *
  obtain ⟨r0, r1, r2, r3, r4, r5, r6, r7, r8, r9⟩ := get10a hW2
  obtain ⟨f0, f1, f2, f3, f4, f5, f6, f7, f8, f9⟩ := get10f hW2
  obtain ⟨z0, z1, z2, z3, z4, z5, z6, z7, z8, z9⟩ := get10 hW2
  have hF := set10 hW2 (.int .i64 kd) (.int .i64 (B : Int)) (.int .i64 D) (.int .i64 7) (.int .i64 t) (.int .i64 x) (.int .i64 n) (.int .i64 h) (.bool got) (.bool full)
  replace hF := Lib.hid hF
  clear hW2
  go_wp2_with fail
  replace hF := hF.out
  clear r0 f0 z0 r1 f1 z1 r2 f2 z2 r3 f3 z3 r4 f4 z4 r5 f5 z5 r6 f6 z6 r7 f7 z7 r8 f8 z8 r9 f9 z9
  obtain ⟨z0, z1, z2, z3, z4, z5, z6, z7, z8, z9⟩ := get10 hF
  generalize (((((((((u2.setCell ⟨zb, 0, none⟩ (.int .i64 kd)).setCell ⟨zb, 1, none⟩ (.int .i64 (B : Int))).setCell ⟨zb, 2, none⟩ (.int .i64 D)).setCell ⟨zb, 3, none⟩ (.int .i64 7)).setCell ⟨zb, 4, none⟩ (.int .i64 t)).setCell ⟨zb, 5, none⟩ (.int .i64 x)).setCell ⟨zb, 6, none⟩ (.int .i64 n)).setCell ⟨zb, 7, none⟩ (.int .i64 h)).setCell ⟨zb, 8, none⟩ (.bool got)).setCell ⟨zb, 9, none⟩ (.bool full) = u3 at *
  have hEnd := hF.sub (.cons _ (.cons _ (List.Sublist.refl _)))
  exact bodyPost_ret (v := .tuple #[.agg #[.int .i64 kd, .int .i64 (B : Int), .int .i64 D, .int .i64 7, .int .i64 t, .int .i64 x, .int .i64 n, .int .i64 h, .bool got, .bool full], .slice mo ms.length mc]) (by simp [results, Try.results54, go_sem, z0, z1, z2, z3, z4, z5, z6, z7, z8, z9]) rfl ⟨rfl, hEnd⟩
theorem rs16n {B : Nat} {D : Int} {ms : List Int} (hr : (B : Int) + 4 + D ≤ ms.length ∧ ms.length ≤ 100000) (hD : 2 ≤ D ∧ D ≤ 256) {w0 w : World} {mo : Option Addr} {mc : Nat} {l : List Ast} (hO : Own w0 w (mRow (.slice mo ms.length mc) ms :: l)) (kd t x n h : Int) (got full : Bool) (Y : Int) (hY : ms.getD (B) 0 = Y) (V : Int) (hV : wrap64 (t - 1) = V) (c : ¬ Y ≤ V) :
    Calls Try.prog 54 #[.agg #[.int .i64 kd, .int .i64 (B : Int), .int .i64 D, .int .i64 6, .int .i64 t, .int .i64 x, .int .i64 n, .int .i64 h, .bool got, .bool full], .slice mo ms.length mc] w fun e w' => e = .returned (.tuple #[.agg #[.int .i64 kd, .int .i64 (B : Int), .int .i64 D, .int .i64 8, .int .i64 t, .int .i64 x, .int .i64 n, .int .i64 h, .bool got, .bool full], .slice mo ms.length mc]) ∧ Own w0 w' (mRow (.slice mo ms.length mc) ms :: l) := by
  have h1 := (hO.box #[.int .i64 kd, .int .i64 (B : Int), .int .i64 D, .int .i64 8, .int .i64 t, .int .i64 x, .int .i64 n, .int .i64 h, .bool got, .bool full] 68).box #[.int .i64 0, .int .i64 0, .int .i64 0, .int .i64 0, .int .i64 0, .int .i64 0, .int .i64 0, .int .i64 0, .bool false, .bool false] 68
  rw [alloc_sz] at h1
  have h2 : Own w0 ((w.alloc (.cells #[.int .i64 kd, .int .i64 (B : Int), .int .i64 D, .int .i64 8, .int .i64 t, .int .i64 x, .int .i64 n, .int .i64 h, .bool got, .bool full] 68)).alloc (.cells #[.int .i64 0, .int .i64 0, .int .i64 0, .int .i64 0, .int .i64 0, .int .i64 0, .int .i64 0, .int .i64 0, .bool false, .bool false] 68)) (cellsA w.heap.size #[.int .i64 kd, .int .i64 (B : Int), .int .i64 D, .int .i64 8, .int .i64 t, .int .i64 x, .int .i64 n, .int .i64 h, .bool got, .bool full] 68 :: cellsA (w.heap.size + 1) #[.int .i64 0, .int .i64 0, .int .i64 0, .int .i64 0, .int .i64 0, .int .i64 0, .int .i64 0, .int .i64 0, .bool false, .bool false] 68 :: mRow (.slice mo ms.length mc) ms :: l) := h1.pm (by
    simp only [List.cons_append, List.append_assoc, List.nil_append]
    exact (List.perm_append_comm (l₁ := mRow (.slice mo ms.length mc) ms :: l) (l₂ := [_, _])))
  have e1 : IntKind.i64.wrap (t - 1) = V := (IntWalk.i64_left _).trans hV
  clear hV
  have e3 : decide (Y ≤ V) = false := decide_eq_false c
  have RW := Lib.hid (fun (w1 : World) (h' : Own w0 w1 (mRow (.slice mo ms.length mc) ms :: l)) => rword (Lies.of_row (h'.row 0 rfl) rfl) (k := B) (by omega) Y hY)
  clear h1 hO hY
  go_enter Try.func54, Try.ntmps54
  go_upto_region 24 with fail
  generalize (w.alloc (.cells #[.int .i64 kd, .int .i64 (B : Int), .int .i64 D, .int .i64 8, .int .i64 t, .int .i64 x, .int .i64 n, .int .i64 h, .bool got, .bool full] 68)).alloc (.cells #[.int .i64 0, .int .i64 0, .int .i64 0, .int .i64 0, .int .i64 0, .int .i64 0, .int .i64 0, .int .i64 0, .bool false, .bool false] 68) = u at *
  generalize w.heap.size + 1 = zb at *
  generalize w.heap.size = rb at *
  have hOa := h2.drewN 1
  have hR := Lib.hid (RW.out _ (hOa.sub (.cons _ (.cons _ (List.Sublist.refl _)))))
  obtain ⟨r0, r1, r2, r3, r4, r5, r6, r7, r8, r9⟩ := get10a hOa
  have hS0 := (show (fun w' : World => w'.cell? ⟨rb, 1, none⟩ = some (.int .i64 (B : Int)) ∧ w'.cell? ⟨rb, 4, none⟩ = some (.int .i64 t)) _ from ⟨r1, r4⟩)
  clear r0 r1 r2 r3 r4 r5 r6 r7 r8 r9 h2
  refine lin_start (S := (fun w' : World => w'.cell? ⟨rb, 1, none⟩ = some (.int .i64 (B : Int)) ∧ w'.cell? ⟨rb, 4, none⟩ = some (.int .i64 t))) rfl 8 rfl hS0 ?_
  simp only [numbered, Nat.zero_add, Nat.reduceAdd]
  refine lin_take (v := ?_) (by kernel_rfl) (by kernel_rfl) (fun _ _ _ h => h) (Or.inl ⟨by rfl, ?_⟩) (by assumption) ?_; (rotate_left; (intro wS hSw; (try dsimp only at hSw); (try go_simp); (try with_reducible rfl)); rotate_left); simp only [Act.put, List.setIfInBounds_toArray, List.set_cons_zero, List.set_cons_succ]
  refine lin_take (v := ?_) (by kernel_rfl) (by kernel_rfl) (fun _ _ _ h => h) (Or.inl ⟨by rfl, ?_⟩) (by assumption) ?_; (rotate_left; (intro wS hSw; (try dsimp only at hSw); (try go_simp); (try with_reducible rfl)); rotate_left); simp only [Act.put, List.setIfInBounds_toArray, List.set_cons_zero, List.set_cons_succ]
  refine lin_take (v := ?_) (by kernel_rfl) (by kernel_rfl) (fun _ _ _ h => h) (Or.inl ⟨by rfl, ?_⟩) (by assumption) ?_; (rotate_left; (intro wS hSw; (try dsimp only at hSw); (try go_simp); (try with_reducible rfl)); rotate_left); simp only [Act.put, List.setIfInBounds_toArray, List.set_cons_zero, List.set_cons_succ]
  refine lin_rot ?_; simp only [List.cons_append, List.nil_append]
  refine lin_take (v := ?_) (by kernel_rfl) (by kernel_rfl) (fun _ _ _ h => h) (Or.inl ⟨by rfl, ?_⟩) (by assumption) ?_; (rotate_left; (intro wS hSw; (try dsimp only at hSw); (try go_simp); (try with_reducible rfl)); rotate_left); simp only [Act.put, List.setIfInBounds_toArray, List.set_cons_zero, List.set_cons_succ]
  refine lin_take (v := ?_) (by kernel_rfl) (by kernel_rfl) (fun _ _ _ h => h) (Or.inl ⟨by rfl, ?_⟩) (by assumption) ?_; (rotate_left; (intro wS hSw; (try dsimp only at hSw); (try go_simp); (try with_reducible rfl)); rotate_left); simp only [Act.put, List.setIfInBounds_toArray, List.set_cons_zero, List.set_cons_succ]
  refine lin_take (v := ?_) (by kernel_rfl) (by kernel_rfl) (fun _ _ _ h => h) (Or.inl ⟨by rfl, ?_⟩) (by assumption) ?_; (rotate_left; (intro wS hSw; (try dsimp only at hSw); (try go_simp); (try with_reducible rfl)); rotate_left); simp only [Act.put, List.setIfInBounds_toArray, List.set_cons_zero, List.set_cons_succ]
  refine lin_rot ?_; simp only [List.cons_append, List.nil_append]
  refine lin_sole (by kernel_rfl) (fun K hK => ?_)
  go_simp
  refine (hR.out).mono ?_
  rintro e w6 ⟨rfl, rfl⟩
  refine hK.out _ _ hS0 (fun hHeld => ?_)
  try simp only [Act.put, List.setIfInBounds_toArray, List.set_cons_zero, List.set_cons_succ]
  clear hK
  refine lin_take (v := ?_) (by kernel_rfl) (by kernel_rfl) (fun _ _ _ h => h) (Or.inl ⟨by rfl, ?_⟩) (by assumption) ?_; (rotate_left; (intro wS hSw; (try dsimp only at hSw); (try go_simp); (try with_reducible rfl)); rotate_left); simp only [Act.put, List.setIfInBounds_toArray, List.set_cons_zero, List.set_cons_succ]
  refine lin_done (by kernel_rfl) ?_
  obtain ⟨r0, r1, r2, r3, r4, r5, r6, r7, r8, r9⟩ := get10a hOa
  have fr3 := (hOa.cget 0 rfl 3).2
  have hW := hOa
  have hW2 : Own w0 _ (cellsA rb #[.int .i64 kd, .int .i64 (B : Int), .int .i64 D, .int .i64 8, .int .i64 t, .int .i64 x, .int .i64 n, .int .i64 h, .bool got, .bool full] 68 :: cellsA zb #[.int .i64 0, .int .i64 0, .int .i64 0, .int .i64 0, .int .i64 0, .int .i64 0, .int .i64 0, .int .i64 0, .bool false, .bool false] 68 :: mRow (.slice mo ms.length mc) ms :: l) := hW
  go_upto_region 26 with fail
  clear r0 r1 r2 r3 r4 r5 r6 r7 r8 r9 fr3 hOa hS0 hHeld hR hW
  generalize u.drewN 1 = u2 at *
  obtain ⟨r0, r1, r2, r3, r4, r5, r6, r7, r8, r9⟩ := get10a hW2
  obtain ⟨f0, f1, f2, f3, f4, f5, f6, f7, f8, f9⟩ := get10f hW2
  obtain ⟨z0, z1, z2, z3, z4, z5, z6, z7, z8, z9⟩ := get10 hW2
  have hF := set10 hW2 (.int .i64 kd) (.int .i64 (B : Int)) (.int .i64 D) (.int .i64 8) (.int .i64 t) (.int .i64 x) (.int .i64 n) (.int .i64 h) (.bool got) (.bool full)
  replace hF := Lib.hid hF
  clear hW2
  go_wp2_with fail
  replace hF := hF.out
  clear r0 f0 z0 r1 f1 z1 r2 f2 z2 r3 f3 z3 r4 f4 z4 r5 f5 z5 r6 f6 z6 r7 f7 z7 r8 f8 z8 r9 f9 z9
  obtain ⟨z0, z1, z2, z3, z4, z5, z6, z7, z8, z9⟩ := get10 hF
  generalize (((((((((u2.setCell ⟨zb, 0, none⟩ (.int .i64 kd)).setCell ⟨zb, 1, none⟩ (.int .i64 (B : Int))).setCell ⟨zb, 2, none⟩ (.int .i64 D)).setCell ⟨zb, 3, none⟩ (.int .i64 8)).setCell ⟨zb, 4, none⟩ (.int .i64 t)).setCell ⟨zb, 5, none⟩ (.int .i64 x)).setCell ⟨zb, 6, none⟩ (.int .i64 n)).setCell ⟨zb, 7, none⟩ (.int .i64 h)).setCell ⟨zb, 8, none⟩ (.bool got)).setCell ⟨zb, 9, none⟩ (.bool full) = u3 at *
  have hEnd := hF.sub (.cons _ (.cons _ (List.Sublist.refl _)))
  exact bodyPost_ret (v := .tuple #[.agg #[.int .i64 kd, .int .i64 (B : Int), .int .i64 D, .int .i64 8, .int .i64 t, .int .i64 x, .int .i64 n, .int .i64 h, .bool got, .bool full], .slice mo ms.length mc]) (by simp [results, Try.results54, go_sem, z0, z1, z2, z3, z4, z5, z6, z7, z8, z9]) rfl ⟨rfl, hEnd⟩
theorem rs14y {B : Nat} {D : Int} {ms : List Int} (hr : (B : Int) + 4 + D ≤ ms.length ∧ ms.length ≤ 100000) (hD : 2 ≤ D ∧ D ≤ 256) {w0 w : World} {mo : Option Addr} {mc : Nat} {l : List Ast} (hO : Own w0 w (mRow (.slice mo ms.length mc) ms :: l)) (kd t x n h : Int) (got full : Bool) (Y : Int) (hY : ms.getD (B + 3) 0 = Y) (c : (Y == n) = true) :
    Calls Try.prog 54 #[.agg #[.int .i64 kd, .int .i64 (B : Int), .int .i64 D, .int .i64 4, .int .i64 t, .int .i64 x, .int .i64 n, .int .i64 h, .bool got, .bool full], .slice mo ms.length mc] w fun e w' => e = .returned (.tuple #[.agg #[.int .i64 kd, .int .i64 (B : Int), .int .i64 D, .int .i64 5, .int .i64 t, .int .i64 x, .int .i64 n, .int .i64 h, .bool got, .bool full], .slice mo ms.length mc]) ∧ Own w0 w' (mRow (.slice mo ms.length mc) ms :: l) := by
  have h1 := (hO.box #[.int .i64 kd, .int .i64 (B : Int), .int .i64 D, .int .i64 4, .int .i64 t, .int .i64 x, .int .i64 n, .int .i64 h, .bool got, .bool full] 68).box #[.int .i64 0, .int .i64 0, .int .i64 0, .int .i64 0, .int .i64 0, .int .i64 0, .int .i64 0, .int .i64 0, .bool false, .bool false] 68
  rw [alloc_sz] at h1
  have h2 : Own w0 ((w.alloc (.cells #[.int .i64 kd, .int .i64 (B : Int), .int .i64 D, .int .i64 4, .int .i64 t, .int .i64 x, .int .i64 n, .int .i64 h, .bool got, .bool full] 68)).alloc (.cells #[.int .i64 0, .int .i64 0, .int .i64 0, .int .i64 0, .int .i64 0, .int .i64 0, .int .i64 0, .int .i64 0, .bool false, .bool false] 68)) (cellsA w.heap.size #[.int .i64 kd, .int .i64 (B : Int), .int .i64 D, .int .i64 4, .int .i64 t, .int .i64 x, .int .i64 n, .int .i64 h, .bool got, .bool full] 68 :: cellsA (w.heap.size + 1) #[.int .i64 0, .int .i64 0, .int .i64 0, .int .i64 0, .int .i64 0, .int .i64 0, .int .i64 0, .int .i64 0, .bool false, .bool false] 68 :: mRow (.slice mo ms.length mc) ms :: l) := h1.pm (by
    simp only [List.cons_append, List.append_assoc, List.nil_append]
    exact (List.perm_append_comm (l₁ := mRow (.slice mo ms.length mc) ms :: l) (l₂ := [_, _])))
  have eb : IntKind.i64.wrap ((B : Int) + 3) = ((B + 3 : Nat) : Int) := (IntWalk.i64_in _ (by omega)).trans (by omega)
  have eb5 : decide (((B + 3 : Nat) : Int) < (ms.length : Int)) = true := decide_eq_true (by omega)
  have eb6 : decide (B + 3 < ms.length) = true := decide_eq_true (by omega)
  have RW := Lib.hid (fun (w1 : World) (h' : Own w0 w1 (mRow (.slice mo ms.length mc) ms :: l)) => rword (Lies.of_row (h'.row 0 rfl) rfl) (k := B + 3) (by omega) Y hY)
  clear h1 hO hY
  go_enter Try.func54, Try.ntmps54
  go_upto_region 19 with fail
  generalize (w.alloc (.cells #[.int .i64 kd, .int .i64 (B : Int), .int .i64 D, .int .i64 4, .int .i64 t, .int .i64 x, .int .i64 n, .int .i64 h, .bool got, .bool full] 68)).alloc (.cells #[.int .i64 0, .int .i64 0, .int .i64 0, .int .i64 0, .int .i64 0, .int .i64 0, .int .i64 0, .int .i64 0, .bool false, .bool false] 68) = u at *
  generalize w.heap.size + 1 = zb at *
  generalize w.heap.size = rb at *
  have hOa := h2.drewN 1
  have hR := Lib.hid (RW.out _ (hOa.sub (.cons _ (.cons _ (List.Sublist.refl _)))))
  obtain ⟨r0, r1, r2, r3, r4, r5, r6, r7, r8, r9⟩ := get10a hOa
  have hS0 := (show (fun w' : World => w'.cell? ⟨rb, 1, none⟩ = some (.int .i64 (B : Int)) ∧ w'.cell? ⟨rb, 6, none⟩ = some (.int .i64 n)) _ from ⟨r1, r6⟩)
  clear r0 r1 r2 r3 r4 r5 r6 r7 r8 r9 h2
  refine lin_start (S := (fun w' : World => w'.cell? ⟨rb, 1, none⟩ = some (.int .i64 (B : Int)) ∧ w'.cell? ⟨rb, 6, none⟩ = some (.int .i64 n))) rfl 16 rfl hS0 ?_
  simp only [numbered, Nat.zero_add, Nat.reduceAdd]
  refine lin_take (v := ?_) (by kernel_rfl) (by kernel_rfl) (fun _ _ _ h => h) (Or.inl ⟨by rfl, ?_⟩) (by assumption) ?_; (rotate_left; (intro wS hSw; (try dsimp only at hSw); (try go_simp); (try with_reducible rfl)); rotate_left); simp only [Act.put, List.setIfInBounds_toArray, List.set_cons_zero, List.set_cons_succ]
  refine lin_take (v := ?_) (by kernel_rfl) (by kernel_rfl) (fun _ _ _ h => h) (Or.inl ⟨by rfl, ?_⟩) (by assumption) ?_; (rotate_left; (intro wS hSw; (try dsimp only at hSw); (try go_simp); (try with_reducible rfl)); rotate_left); simp only [Act.put, List.setIfInBounds_toArray, List.set_cons_zero, List.set_cons_succ]
  refine lin_take (v := ?_) (by kernel_rfl) (by kernel_rfl) (fun _ _ _ h => h) (Or.inl ⟨by rfl, ?_⟩) (by assumption) ?_; (rotate_left; (intro wS hSw; (try dsimp only at hSw); (try go_simp); (try with_reducible rfl)); rotate_left); simp only [Act.put, List.setIfInBounds_toArray, List.set_cons_zero, List.set_cons_succ]
  refine lin_take (v := ?_) (by kernel_rfl) (by kernel_rfl) (fun _ _ _ h => h) (Or.inl ⟨by rfl, ?_⟩) (by assumption) ?_; (rotate_left; (intro wS hSw; (try dsimp only at hSw); (try go_simp); (try with_reducible rfl)); rotate_left); simp only [Act.put, List.setIfInBounds_toArray, List.set_cons_zero, List.set_cons_succ]
  refine lin_rot ?_; simp only [List.cons_append, List.nil_append]
  refine lin_take (v := ?_) (by kernel_rfl) (by kernel_rfl) (fun _ _ _ h => h) (Or.inl ⟨by rfl, ?_⟩) (by assumption) ?_; (rotate_left; (intro wS hSw; (try dsimp only at hSw); (try go_simp); (try with_reducible rfl)); rotate_left); simp only [Act.put, List.setIfInBounds_toArray, List.set_cons_zero, List.set_cons_succ]
  refine lin_take (v := ?_) (by kernel_rfl) (by kernel_rfl) (fun _ _ _ h => h) (Or.inl ⟨by rfl, ?_⟩) (by assumption) ?_; (rotate_left; (intro wS hSw; (try dsimp only at hSw); (try go_simp); (try with_reducible rfl)); rotate_left); simp only [Act.put, List.setIfInBounds_toArray, List.set_cons_zero, List.set_cons_succ]
  refine lin_rot ?_; simp only [List.cons_append, List.nil_append]
  refine lin_rot ?_; simp only [List.cons_append, List.nil_append]
  refine lin_rot ?_; simp only [List.cons_append, List.nil_append]
  refine lin_rot ?_; simp only [List.cons_append, List.nil_append]
  refine lin_rot ?_; simp only [List.cons_append, List.nil_append]
  refine lin_rot ?_; simp only [List.cons_append, List.nil_append]
  refine lin_rot ?_; simp only [List.cons_append, List.nil_append]
  refine lin_rot ?_; simp only [List.cons_append, List.nil_append]
  refine lin_rot ?_; simp only [List.cons_append, List.nil_append]
  refine lin_sole (by kernel_rfl) (fun K hK => ?_)
  go_simp
  refine (hR.out).mono ?_
  rintro e w6 ⟨rfl, rfl⟩
  refine hK.out _ _ hS0 (fun hHeld => ?_)
  try simp only [Act.put, List.setIfInBounds_toArray, List.set_cons_zero, List.set_cons_succ]
  clear hK
  refine lin_take (v := ?_) (by kernel_rfl) (by kernel_rfl) (fun _ _ _ h => h) (Or.inl ⟨by rfl, ?_⟩) (by assumption) ?_; (rotate_left; (intro wS hSw; (try dsimp only at hSw); (try go_simp); (try with_reducible rfl)); rotate_left); simp only [Act.put, List.setIfInBounds_toArray, List.set_cons_zero, List.set_cons_succ]
  refine lin_take (v := ?_) (by kernel_rfl) (by kernel_rfl) (fun _ _ _ h => h) (Or.inl ⟨by rfl, ?_⟩) (by assumption) ?_; (rotate_left; (intro wS hSw; (try dsimp only at hSw); (try go_simp); (try with_reducible rfl)); rotate_left); simp only [Act.put, List.setIfInBounds_toArray, List.set_cons_zero, List.set_cons_succ]
  refine lin_take (v := ?_) (by kernel_rfl) (by kernel_rfl) (fun _ _ _ h => h) (Or.inl ⟨by rfl, ?_⟩) (by assumption) ?_; (rotate_left; (intro wS hSw; (try dsimp only at hSw); (try go_simp); (try with_reducible rfl)); rotate_left); simp only [Act.put, List.setIfInBounds_toArray, List.set_cons_zero, List.set_cons_succ]
  refine lin_take (v := ?_) (by kernel_rfl) (by kernel_rfl) (fun _ _ _ h => h) (Or.inl ⟨by rfl, ?_⟩) (by assumption) ?_; (rotate_left; (intro wS hSw; (try dsimp only at hSw); (try go_simp); (try with_reducible rfl)); rotate_left); simp only [Act.put, List.setIfInBounds_toArray, List.set_cons_zero, List.set_cons_succ]
  refine lin_take (v := ?_) (by kernel_rfl) (by kernel_rfl) (fun _ _ _ h => h) (Or.inl ⟨by rfl, ?_⟩) (by assumption) ?_; (rotate_left; (intro wS hSw; (try dsimp only at hSw); (try go_simp); (try with_reducible rfl)); rotate_left); simp only [Act.put, List.setIfInBounds_toArray, List.set_cons_zero, List.set_cons_succ]
  refine lin_take (v := ?_) (by kernel_rfl) (by kernel_rfl) (fun _ _ _ h => h) (Or.inl ⟨by rfl, ?_⟩) (by assumption) ?_; (rotate_left; (intro wS hSw; (try dsimp only at hSw); (try go_simp); (try with_reducible rfl)); rotate_left); simp only [Act.put, List.setIfInBounds_toArray, List.set_cons_zero, List.set_cons_succ]
  refine lin_take (v := ?_) (by kernel_rfl) (by kernel_rfl) (fun _ _ _ h => h) (Or.inl ⟨by rfl, ?_⟩) (by assumption) ?_; (rotate_left; (intro wS hSw; (try dsimp only at hSw); (try go_simp); (try with_reducible rfl)); rotate_left); simp only [Act.put, List.setIfInBounds_toArray, List.set_cons_zero, List.set_cons_succ]
  refine lin_take (v := ?_) (by kernel_rfl) (by kernel_rfl) (fun _ _ _ h => h) (Or.inl ⟨by rfl, ?_⟩) (by assumption) ?_; (rotate_left; (intro wS hSw; (try dsimp only at hSw); (try go_simp); (try with_reducible rfl)); rotate_left); simp only [Act.put, List.setIfInBounds_toArray, List.set_cons_zero, List.set_cons_succ]
  refine lin_take (v := ?_) (by kernel_rfl) (by kernel_rfl) (fun _ _ _ h => h) (Or.inl ⟨by rfl, ?_⟩) (by assumption) ?_; (rotate_left; (intro wS hSw; (try dsimp only at hSw); (try go_simp); (try with_reducible rfl)); rotate_left); simp only [Act.put, List.setIfInBounds_toArray, List.set_cons_zero, List.set_cons_succ]
  refine lin_done (by kernel_rfl) ?_
  obtain ⟨r0, r1, r2, r3, r4, r5, r6, r7, r8, r9⟩ := get10a hOa
  have fr3 := (hOa.cget 0 rfl 3).2
  have hW := hOa.cset 0 rfl 3 (.int .i64 5)
  have hW2 : Own w0 _ (cellsA rb #[.int .i64 kd, .int .i64 (B : Int), .int .i64 D, .int .i64 5, .int .i64 t, .int .i64 x, .int .i64 n, .int .i64 h, .bool got, .bool full] 68 :: cellsA zb #[.int .i64 0, .int .i64 0, .int .i64 0, .int .i64 0, .int .i64 0, .int .i64 0, .int .i64 0, .int .i64 0, .bool false, .bool false] 68 :: mRow (.slice mo ms.length mc) ms :: l) := hW
  go_upto_region 21 with fail
  clear r0 r1 r2 r3 r4 r5 r6 r7 r8 r9 fr3 hOa hS0 hHeld hR hW
  generalize (u.drewN 1).setCell ⟨rb, 3, none⟩ (.int .i64 5) = u2 at *
  obtain ⟨r0, r1, r2, r3, r4, r5, r6, r7, r8, r9⟩ := get10a hW2
  obtain ⟨f0, f1, f2, f3, f4, f5, f6, f7, f8, f9⟩ := get10f hW2
  obtain ⟨z0, z1, z2, z3, z4, z5, z6, z7, z8, z9⟩ := get10 hW2
  have hF := set10 hW2 (.int .i64 kd) (.int .i64 (B : Int)) (.int .i64 D) (.int .i64 5) (.int .i64 t) (.int .i64 x) (.int .i64 n) (.int .i64 h) (.bool got) (.bool full)
  replace hF := Lib.hid hF
  clear hW2
  go_wp2_with fail
  replace hF := hF.out
  clear r0 f0 z0 r1 f1 z1 r2 f2 z2 r3 f3 z3 r4 f4 z4 r5 f5 z5 r6 f6 z6 r7 f7 z7 r8 f8 z8 r9 f9 z9
  obtain ⟨z0, z1, z2, z3, z4, z5, z6, z7, z8, z9⟩ := get10 hF
  generalize (((((((((u2.setCell ⟨zb, 0, none⟩ (.int .i64 kd)).setCell ⟨zb, 1, none⟩ (.int .i64 (B : Int))).setCell ⟨zb, 2, none⟩ (.int .i64 D)).setCell ⟨zb, 3, none⟩ (.int .i64 5)).setCell ⟨zb, 4, none⟩ (.int .i64 t)).setCell ⟨zb, 5, none⟩ (.int .i64 x)).setCell ⟨zb, 6, none⟩ (.int .i64 n)).setCell ⟨zb, 7, none⟩ (.int .i64 h)).setCell ⟨zb, 8, none⟩ (.bool got)).setCell ⟨zb, 9, none⟩ (.bool full) = u3 at *
  have hEnd := hF.sub (.cons _ (.cons _ (List.Sublist.refl _)))
  exact bodyPost_ret (v := .tuple #[.agg #[.int .i64 kd, .int .i64 (B : Int), .int .i64 D, .int .i64 5, .int .i64 t, .int .i64 x, .int .i64 n, .int .i64 h, .bool got, .bool full], .slice mo ms.length mc]) (by simp [results, Try.results54, go_sem, z0, z1, z2, z3, z4, z5, z6, z7, z8, z9]) rfl ⟨rfl, hEnd⟩
theorem rs14n {B : Nat} {D : Int} {ms : List Int} (hr : (B : Int) + 4 + D ≤ ms.length ∧ ms.length ≤ 100000) (hD : 2 ≤ D ∧ D ≤ 256) {w0 w : World} {mo : Option Addr} {mc : Nat} {l : List Ast} (hO : Own w0 w (mRow (.slice mo ms.length mc) ms :: l)) (kd t x n h : Int) (got full : Bool) (Y : Int) (hY : ms.getD (B + 3) 0 = Y) (c : (Y == n) = false) :
    Calls Try.prog 54 #[.agg #[.int .i64 kd, .int .i64 (B : Int), .int .i64 D, .int .i64 4, .int .i64 t, .int .i64 x, .int .i64 n, .int .i64 h, .bool got, .bool full], .slice mo ms.length mc] w fun e w' => e = .returned (.tuple #[.agg #[.int .i64 kd, .int .i64 (B : Int), .int .i64 D, .int .i64 4, .int .i64 t, .int .i64 x, .int .i64 n, .int .i64 h, .bool got, .bool full], .slice mo ms.length mc]) ∧ Own w0 w' (mRow (.slice mo ms.length mc) ms :: l) := by
  have h1 := (hO.box #[.int .i64 kd, .int .i64 (B : Int), .int .i64 D, .int .i64 4, .int .i64 t, .int .i64 x, .int .i64 n, .int .i64 h, .bool got, .bool full] 68).box #[.int .i64 0, .int .i64 0, .int .i64 0, .int .i64 0, .int .i64 0, .int .i64 0, .int .i64 0, .int .i64 0, .bool false, .bool false] 68
  rw [alloc_sz] at h1
  have h2 : Own w0 ((w.alloc (.cells #[.int .i64 kd, .int .i64 (B : Int), .int .i64 D, .int .i64 4, .int .i64 t, .int .i64 x, .int .i64 n, .int .i64 h, .bool got, .bool full] 68)).alloc (.cells #[.int .i64 0, .int .i64 0, .int .i64 0, .int .i64 0, .int .i64 0, .int .i64 0, .int .i64 0, .int .i64 0, .bool false, .bool false] 68)) (cellsA w.heap.size #[.int .i64 kd, .int .i64 (B : Int), .int .i64 D, .int .i64 4, .int .i64 t, .int .i64 x, .int .i64 n, .int .i64 h, .bool got, .bool full] 68 :: cellsA (w.heap.size + 1) #[.int .i64 0, .int .i64 0, .int .i64 0, .int .i64 0, .int .i64 0, .int .i64 0, .int .i64 0, .int .i64 0, .bool false, .bool false] 68 :: mRow (.slice mo ms.length mc) ms :: l) := h1.pm (by
    simp only [List.cons_append, List.append_assoc, List.nil_append]
    exact (List.perm_append_comm (l₁ := mRow (.slice mo ms.length mc) ms :: l) (l₂ := [_, _])))
  have eb : IntKind.i64.wrap ((B : Int) + 3) = ((B + 3 : Nat) : Int) := (IntWalk.i64_in _ (by omega)).trans (by omega)
  have eb5 : decide (((B + 3 : Nat) : Int) < (ms.length : Int)) = true := decide_eq_true (by omega)
  have eb6 : decide (B + 3 < ms.length) = true := decide_eq_true (by omega)
  have RW := Lib.hid (fun (w1 : World) (h' : Own w0 w1 (mRow (.slice mo ms.length mc) ms :: l)) => rword (Lies.of_row (h'.row 0 rfl) rfl) (k := B + 3) (by omega) Y hY)
  clear h1 hO hY
  go_enter Try.func54, Try.ntmps54
  go_upto_region 19 with fail
  generalize (w.alloc (.cells #[.int .i64 kd, .int .i64 (B : Int), .int .i64 D, .int .i64 4, .int .i64 t, .int .i64 x, .int .i64 n, .int .i64 h, .bool got, .bool full] 68)).alloc (.cells #[.int .i64 0, .int .i64 0, .int .i64 0, .int .i64 0, .int .i64 0, .int .i64 0, .int .i64 0, .int .i64 0, .bool false, .bool false] 68) = u at *
  generalize w.heap.size + 1 = zb at *
  generalize w.heap.size = rb at *
  have hOa := h2.drewN 1
  have hR := Lib.hid (RW.out _ (hOa.sub (.cons _ (.cons _ (List.Sublist.refl _)))))
  obtain ⟨r0, r1, r2, r3, r4, r5, r6, r7, r8, r9⟩ := get10a hOa
  have hS0 := (show (fun w' : World => w'.cell? ⟨rb, 1, none⟩ = some (.int .i64 (B : Int)) ∧ w'.cell? ⟨rb, 6, none⟩ = some (.int .i64 n)) _ from ⟨r1, r6⟩)
  clear r0 r1 r2 r3 r4 r5 r6 r7 r8 r9 h2
  refine lin_start (S := (fun w' : World => w'.cell? ⟨rb, 1, none⟩ = some (.int .i64 (B : Int)) ∧ w'.cell? ⟨rb, 6, none⟩ = some (.int .i64 n))) rfl 16 rfl hS0 ?_
  simp only [numbered, Nat.zero_add, Nat.reduceAdd]
  refine lin_take (v := ?_) (by kernel_rfl) (by kernel_rfl) (fun _ _ _ h => h) (Or.inl ⟨by rfl, ?_⟩) (by assumption) ?_; (rotate_left; (intro wS hSw; (try dsimp only at hSw); (try go_simp); (try with_reducible rfl)); rotate_left); simp only [Act.put, List.setIfInBounds_toArray, List.set_cons_zero, List.set_cons_succ]
  refine lin_take (v := ?_) (by kernel_rfl) (by kernel_rfl) (fun _ _ _ h => h) (Or.inl ⟨by rfl, ?_⟩) (by assumption) ?_; (rotate_left; (intro wS hSw; (try dsimp only at hSw); (try go_simp); (try with_reducible rfl)); rotate_left); simp only [Act.put, List.setIfInBounds_toArray, List.set_cons_zero, List.set_cons_succ]
  refine lin_take (v := ?_) (by kernel_rfl) (by kernel_rfl) (fun _ _ _ h => h) (Or.inl ⟨by rfl, ?_⟩) (by assumption) ?_; (rotate_left; (intro wS hSw; (try dsimp only at hSw); (try go_simp); (try with_reducible rfl)); rotate_left); simp only [Act.put, List.setIfInBounds_toArray, List.set_cons_zero, List.set_cons_succ]
  refine lin_take (v := ?_) (by kernel_rfl) (by kernel_rfl) (fun _ _ _ h => h) (Or.inl ⟨by rfl, ?_⟩) (by assumption) ?_; (rotate_left; (intro wS hSw; (try dsimp only at hSw); (try go_simp); (try with_reducible rfl)); rotate_left); simp only [Act.put, List.setIfInBounds_toArray, List.set_cons_zero, List.set_cons_succ]
  refine lin_rot ?_; simp only [List.cons_append, List.nil_append]
  refine lin_take (v := ?_) (by kernel_rfl) (by kernel_rfl) (fun _ _ _ h => h) (Or.inl ⟨by rfl, ?_⟩) (by assumption) ?_; (rotate_left; (intro wS hSw; (try dsimp only at hSw); (try go_simp); (try with_reducible rfl)); rotate_left); simp only [Act.put, List.setIfInBounds_toArray, List.set_cons_zero, List.set_cons_succ]
  refine lin_take (v := ?_) (by kernel_rfl) (by kernel_rfl) (fun _ _ _ h => h) (Or.inl ⟨by rfl, ?_⟩) (by assumption) ?_; (rotate_left; (intro wS hSw; (try dsimp only at hSw); (try go_simp); (try with_reducible rfl)); rotate_left); simp only [Act.put, List.setIfInBounds_toArray, List.set_cons_zero, List.set_cons_succ]
  refine lin_rot ?_; simp only [List.cons_append, List.nil_append]
  refine lin_rot ?_; simp only [List.cons_append, List.nil_append]
  refine lin_rot ?_; simp only [List.cons_append, List.nil_append]
  refine lin_rot ?_; simp only [List.cons_append, List.nil_append]
  refine lin_rot ?_; simp only [List.cons_append, List.nil_append]
  refine lin_rot ?_; simp only [List.cons_append, List.nil_append]
  refine lin_rot ?_; simp only [List.cons_append, List.nil_append]
  refine lin_rot ?_; simp only [List.cons_append, List.nil_append]
  refine lin_rot ?_; simp only [List.cons_append, List.nil_append]
  refine lin_sole (by kernel_rfl) (fun K hK => ?_)
  go_simp
  refine (hR.out).mono ?_
  rintro e w6 ⟨rfl, rfl⟩
  refine hK.out _ _ hS0 (fun hHeld => ?_)
  try simp only [Act.put, List.setIfInBounds_toArray, List.set_cons_zero, List.set_cons_succ]
  clear hK
  refine lin_take (v := ?_) (by kernel_rfl) (by kernel_rfl) (fun _ _ _ h => h) (Or.inl ⟨by rfl, ?_⟩) (by assumption) ?_; (rotate_left; (intro wS hSw; (try dsimp only at hSw); (try go_simp); (try with_reducible rfl)); rotate_left); simp only [Act.put, List.setIfInBounds_toArray, List.set_cons_zero, List.set_cons_succ]
  refine lin_take (v := ?_) (by kernel_rfl) (by kernel_rfl) (fun _ _ _ h => h) (Or.inl ⟨by rfl, ?_⟩) (by assumption) ?_; (rotate_left; (intro wS hSw; (try dsimp only at hSw); (try go_simp); (try with_reducible rfl)); rotate_left); simp only [Act.put, List.setIfInBounds_toArray, List.set_cons_zero, List.set_cons_succ]
  refine lin_take (v := undef) (by kernel_rfl) (by kernel_rfl) (fun _ _ _ h => h) (Or.inr ⟨by rfl, rfl⟩) (by assumption) ?_; simp only [Act.put, List.setIfInBounds_toArray, List.set_cons_zero, List.set_cons_succ]
  refine lin_take (v := undef) (by kernel_rfl) (by kernel_rfl) (fun _ _ _ h => h) (Or.inr ⟨by rfl, rfl⟩) (by assumption) ?_; simp only [Act.put, List.setIfInBounds_toArray, List.set_cons_zero, List.set_cons_succ]
  refine lin_take (v := undef) (by kernel_rfl) (by kernel_rfl) (fun _ _ _ h => h) (Or.inr ⟨by rfl, rfl⟩) (by assumption) ?_; simp only [Act.put, List.setIfInBounds_toArray, List.set_cons_zero, List.set_cons_succ]
  refine lin_take (v := undef) (by kernel_rfl) (by kernel_rfl) (fun _ _ _ h => h) (Or.inr ⟨by rfl, rfl⟩) (by assumption) ?_; simp only [Act.put, List.setIfInBounds_toArray, List.set_cons_zero, List.set_cons_succ]
  refine lin_take (v := undef) (by kernel_rfl) (by kernel_rfl) (fun _ _ _ h => h) (Or.inr ⟨by rfl, rfl⟩) (by assumption) ?_; simp only [Act.put, List.setIfInBounds_toArray, List.set_cons_zero, List.set_cons_succ]
  refine lin_take (v := undef) (by kernel_rfl) (by kernel_rfl) (fun _ _ _ h => h) (Or.inr ⟨by rfl, rfl⟩) (by assumption) ?_; simp only [Act.put, List.setIfInBounds_toArray, List.set_cons_zero, List.set_cons_succ]
  refine lin_take (v := ?_) (by kernel_rfl) (by kernel_rfl) (fun _ _ _ h => h) (Or.inl ⟨by rfl, ?_⟩) (by assumption) ?_; (rotate_left; (intro wS hSw; (try dsimp only at hSw); (try go_simp); (try with_reducible rfl)); rotate_left); simp only [Act.put, List.setIfInBounds_toArray, List.set_cons_zero, List.set_cons_succ]
  refine lin_done (by kernel_rfl) ?_
  obtain ⟨r0, r1, r2, r3, r4, r5, r6, r7, r8, r9⟩ := get10a hOa
  have fr3 := (hOa.cget 0 rfl 3).2
  have hW := hOa
  have hW2 : Own w0 _ (cellsA rb #[.int .i64 kd, .int .i64 (B : Int), .int .i64 D, .int .i64 4, .int .i64 t, .int .i64 x, .int .i64 n, .int .i64 h, .bool got, .bool full] 68 :: cellsA zb #[.int .i64 0, .int .i64 0, .int .i64 0, .int .i64 0, .int .i64 0, .int .i64 0, .int .i64 0, .int .i64 0, .bool false, .bool false] 68 :: mRow (.slice mo ms.length mc) ms :: l) := hW
  go_upto_region 21 with fail
  clear r0 r1 r2 r3 r4 r5 r6 r7 r8 r9 fr3 hOa hS0 hHeld hR hW
  generalize u.drewN 1 = u2 at *
  obtain ⟨r0, r1, r2, r3, r4, r5, r6, r7, r8, r9⟩ := get10a hW2
  obtain ⟨f0, f1, f2, f3, f4, f5, f6, f7, f8, f9⟩ := get10f hW2
  obtain ⟨z0, z1, z2, z3, z4, z5, z6, z7, z8, z9⟩ := get10 hW2
  have hF := set10 hW2 (.int .i64 kd) (.int .i64 (B : Int)) (.int .i64 D) (.int .i64 4) (.int .i64 t) (.int .i64 x) (.int .i64 n) (.int .i64 h) (.bool got) (.bool full)
  replace hF := Lib.hid hF
  clear hW2
  go_wp2_with fail
  replace hF := hF.out
  clear r0 f0 z0 r1 f1 z1 r2 f2 z2 r3 f3 z3 r4 f4 z4 r5 f5 z5 r6 f6 z6 r7 f7 z7 r8 f8 z8 r9 f9 z9
  obtain ⟨z0, z1, z2, z3, z4, z5, z6, z7, z8, z9⟩ := get10 hF
  generalize (((((((((u2.setCell ⟨zb, 0, none⟩ (.int .i64 kd)).setCell ⟨zb, 1, none⟩ (.int .i64 (B : Int))).setCell ⟨zb, 2, none⟩ (.int .i64 D)).setCell ⟨zb, 3, none⟩ (.int .i64 4)).setCell ⟨zb, 4, none⟩ (.int .i64 t)).setCell ⟨zb, 5, none⟩ (.int .i64 x)).setCell ⟨zb, 6, none⟩ (.int .i64 n)).setCell ⟨zb, 7, none⟩ (.int .i64 h)).setCell ⟨zb, 8, none⟩ (.bool got)).setCell ⟨zb, 9, none⟩ (.bool full) = u3 at *
  have hEnd := hF.sub (.cons _ (.cons _ (List.Sublist.refl _)))
  exact bodyPost_ret (v := .tuple #[.agg #[.int .i64 kd, .int .i64 (B : Int), .int .i64 D, .int .i64 4, .int .i64 t, .int .i64 x, .int .i64 n, .int .i64 h, .bool got, .bool full], .slice mo ms.length mc]) (by simp [results, Try.results54, go_sem, z0, z1, z2, z3, z4, z5, z6, z7, z8, z9]) rfl ⟨rfl, hEnd⟩
theorem rs31y {B : Nat} {D : Int} {ms : List Int} (hr : (B : Int) + 4 + D ≤ ms.length ∧ ms.length ≤ 100000) (hD : 2 ≤ D ∧ D ≤ 256) {w0 w : World} {mo : Option Addr} {mc : Nat} {l : List Ast} (hO : Own w0 w (mRow (.slice mo ms.length mc) ms :: l)) (kd t x n h : Int) (got full : Bool) (Y : Int) (hY : ms.getD (B + 3) 0 = Y) (c : (Y == n) = true) :
    Calls Try.prog 55 #[.agg #[.int .i64 kd, .int .i64 (B : Int), .int .i64 D, .int .i64 1, .int .i64 t, .int .i64 x, .int .i64 n, .int .i64 h, .bool got, .bool full], .slice mo ms.length mc] w fun e w' => e = .returned (.tuple #[.agg #[.int .i64 kd, .int .i64 (B : Int), .int .i64 D, .int .i64 2, .int .i64 t, .int .i64 x, .int .i64 n, .int .i64 h, .bool got, .bool full], .slice mo ms.length mc]) ∧ Own w0 w' (mRow (.slice mo ms.length mc) ms :: l) := by
  have h1 := (hO.box #[.int .i64 kd, .int .i64 (B : Int), .int .i64 D, .int .i64 1, .int .i64 t, .int .i64 x, .int .i64 n, .int .i64 h, .bool got, .bool full] 68).box #[.int .i64 0, .int .i64 0, .int .i64 0, .int .i64 0, .int .i64 0, .int .i64 0, .int .i64 0, .int .i64 0, .bool false, .bool false] 68
  rw [alloc_sz] at h1
  have h2 : Own w0 ((w.alloc (.cells #[.int .i64 kd, .int .i64 (B : Int), .int .i64 D, .int .i64 1, .int .i64 t, .int .i64 x, .int .i64 n, .int .i64 h, .bool got, .bool full] 68)).alloc (.cells #[.int .i64 0, .int .i64 0, .int .i64 0, .int .i64 0, .int .i64 0, .int .i64 0, .int .i64 0, .int .i64 0, .bool false, .bool false] 68)) (cellsA w.heap.size #[.int .i64 kd, .int .i64 (B : Int), .int .i64 D, .int .i64 1, .int .i64 t, .int .i64 x, .int .i64 n, .int .i64 h, .bool got, .bool full] 68 :: cellsA (w.heap.size + 1) #[.int .i64 0, .int .i64 0, .int .i64 0, .int .i64 0, .int .i64 0, .int .i64 0, .int .i64 0, .int .i64 0, .bool false, .bool false] 68 :: mRow (.slice mo ms.length mc) ms :: l) := h1.pm (by
    simp only [List.cons_append, List.append_assoc, List.nil_append]
    exact (List.perm_append_comm (l₁ := mRow (.slice mo ms.length mc) ms :: l) (l₂ := [_, _])))
  have eb : IntKind.i64.wrap ((B : Int) + 3) = ((B + 3 : Nat) : Int) := (IntWalk.i64_in _ (by omega)).trans (by omega)
  have eb5 : decide (((B + 3 : Nat) : Int) < (ms.length : Int)) = true := decide_eq_true (by omega)
  have eb6 : decide (B + 3 < ms.length) = true := decide_eq_true (by omega)
  have RW := Lib.hid (fun (w1 : World) (h' : Own w0 w1 (mRow (.slice mo ms.length mc) ms :: l)) => rword (Lies.of_row (h'.row 0 rfl) rfl) (k := B + 3) (by omega) Y hY)
  clear h1 hO hY
  go_enter Try.func55, Try.ntmps55
  go_upto_region 7 with fail
  generalize (w.alloc (.cells #[.int .i64 kd, .int .i64 (B : Int), .int .i64 D, .int .i64 1, .int .i64 t, .int .i64 x, .int .i64 n, .int .i64 h, .bool got, .bool full] 68)).alloc (.cells #[.int .i64 0, .int .i64 0, .int .i64 0, .int .i64 0, .int .i64 0, .int .i64 0, .int .i64 0, .int .i64 0, .bool false, .bool false] 68) = u at *
  generalize w.heap.size + 1 = zb at *
  generalize w.heap.size = rb at *
  have hOa := h2.drewN 1
  have hR := Lib.hid (RW.out _ (hOa.sub (.cons _ (.cons _ (List.Sublist.refl _)))))
  obtain ⟨r0, r1, r2, r3, r4, r5, r6, r7, r8, r9⟩ := get10a hOa
  have hS0 := (show (fun w' : World => w'.cell? ⟨rb, 1, none⟩ = some (.int .i64 (B : Int)) ∧ w'.cell? ⟨rb, 6, none⟩ = some (.int .i64 n)) _ from ⟨r1, r6⟩)
  clear r0 r1 r2 r3 r4 r5 r6 r7 r8 r9 h2
  refine lin_start (S := (fun w' : World => w'.cell? ⟨rb, 1, none⟩ = some (.int .i64 (B : Int)) ∧ w'.cell? ⟨rb, 6, none⟩ = some (.int .i64 n))) rfl 16 rfl hS0 ?_
  simp only [numbered, Nat.zero_add, Nat.reduceAdd]
  refine lin_take (v := ?_) (by kernel_rfl) (by kernel_rfl) (fun _ _ _ h => h) (Or.inl ⟨by rfl, ?_⟩) (by assumption) ?_; (rotate_left; (intro wS hSw; (try dsimp only at hSw); (try go_simp); (try with_reducible rfl)); rotate_left); simp only [Act.put, List.setIfInBounds_toArray, List.set_cons_zero, List.set_cons_succ]
  refine lin_take (v := ?_) (by kernel_rfl) (by kernel_rfl) (fun _ _ _ h => h) (Or.inl ⟨by rfl, ?_⟩) (by assumption) ?_; (rotate_left; (intro wS hSw; (try dsimp only at hSw); (try go_simp); (try with_reducible rfl)); rotate_left); simp only [Act.put, List.setIfInBounds_toArray, List.set_cons_zero, List.set_cons_succ]
  refine lin_take (v := ?_) (by kernel_rfl) (by kernel_rfl) (fun _ _ _ h => h) (Or.inl ⟨by rfl, ?_⟩) (by assumption) ?_; (rotate_left; (intro wS hSw; (try dsimp only at hSw); (try go_simp); (try with_reducible rfl)); rotate_left); simp only [Act.put, List.setIfInBounds_toArray, List.set_cons_zero, List.set_cons_succ]
  refine lin_take (v := ?_) (by kernel_rfl) (by kernel_rfl) (fun _ _ _ h => h) (Or.inl ⟨by rfl, ?_⟩) (by assumption) ?_; (rotate_left; (intro wS hSw; (try dsimp only at hSw); (try go_simp); (try with_reducible rfl)); rotate_left); simp only [Act.put, List.setIfInBounds_toArray, List.set_cons_zero, List.set_cons_succ]
  refine lin_rot ?_; simp only [List.cons_append, List.nil_append]
  refine lin_take (v := ?_) (by kernel_rfl) (by kernel_rfl) (fun _ _ _ h => h) (Or.inl ⟨by rfl, ?_⟩) (by assumption) ?_; (rotate_left; (intro wS hSw; (try dsimp only at hSw); (try go_simp); (try with_reducible rfl)); rotate_left); simp only [Act.put, List.setIfInBounds_toArray, List.set_cons_zero, List.set_cons_succ]
  refine lin_take (v := ?_) (by kernel_rfl) (by kernel_rfl) (fun _ _ _ h => h) (Or.inl ⟨by rfl, ?_⟩) (by assumption) ?_; (rotate_left; (intro wS hSw; (try dsimp only at hSw); (try go_simp); (try with_reducible rfl)); rotate_left); simp only [Act.put, List.setIfInBounds_toArray, List.set_cons_zero, List.set_cons_succ]
  refine lin_rot ?_; simp only [List.cons_append, List.nil_append]
  refine lin_rot ?_; simp only [List.cons_append, List.nil_append]
  refine lin_rot ?_; simp only [List.cons_append, List.nil_append]
  refine lin_rot ?_; simp only [List.cons_append, List.nil_append]
  refine lin_rot ?_; simp only [List.cons_append, List.nil_append]
  refine lin_rot ?_; simp only [List.cons_append, List.nil_append]
  refine lin_rot ?_; simp only [List.cons_append, List.nil_append]
  refine lin_rot ?_; simp only [List.cons_append, List.nil_append]
  refine lin_rot ?_; simp only [List.cons_append, List.nil_append]
  refine lin_sole (by kernel_rfl) (fun K hK => ?_)
  go_simp
  refine (hR.out).mono ?_
  rintro e w6 ⟨rfl, rfl⟩
  refine hK.out _ _ hS0 (fun hHeld => ?_)
  try simp only [Act.put, List.setIfInBounds_toArray, List.set_cons_zero, List.set_cons_succ]
  clear hK
  refine lin_take (v := ?_) (by kernel_rfl) (by kernel_rfl) (fun _ _ _ h => h) (Or.inl ⟨by rfl, ?_⟩) (by assumption) ?_; (rotate_left; (intro wS hSw; (try dsimp only at hSw); (try go_simp); (try with_reducible rfl)); rotate_left); simp only [Act.put, List.setIfInBounds_toArray, List.set_cons_zero, List.set_cons_succ]
  refine lin_take (v := ?_) (by kernel_rfl) (by kernel_rfl) (fun _ _ _ h => h) (Or.inl ⟨by rfl, ?_⟩) (by assumption) ?_; (rotate_left; (intro wS hSw; (try dsimp only at hSw); (try go_simp); (try with_reducible rfl)); rotate_left); simp only [Act.put, List.setIfInBounds_toArray, List.set_cons_zero, List.set_cons_succ]
  refine lin_take (v := ?_) (by kernel_rfl) (by kernel_rfl) (fun _ _ _ h => h) (Or.inl ⟨by rfl, ?_⟩) (by assumption) ?_; (rotate_left; (intro wS hSw; (try dsimp only at hSw); (try go_simp); (try with_reducible rfl)); rotate_left); simp only [Act.put, List.setIfInBounds_toArray, List.set_cons_zero, List.set_cons_succ]
  refine lin_take (v := ?_) (by kernel_rfl) (by kernel_rfl) (fun _ _ _ h => h) (Or.inl ⟨by rfl, ?_⟩) (by assumption) ?_; (rotate_left; (intro wS hSw; (try dsimp only at hSw); (try go_simp); (try with_reducible rfl)); rotate_left); simp only [Act.put, List.setIfInBounds_toArray, List.set_cons_zero, List.set_cons_succ]
  refine lin_take (v := ?_) (by kernel_rfl) (by kernel_rfl) (fun _ _ _ h => h) (Or.inl ⟨by rfl, ?_⟩) (by assumption) ?_; (rotate_left; (intro wS hSw; (try dsimp only at hSw); (try go_simp); (try with_reducible rfl)); rotate_left); simp only [Act.put, List.setIfInBounds_toArray, List.set_cons_zero, List.set_cons_succ]
  refine lin_take (v := ?_) (by kernel_rfl) (by kernel_rfl) (fun _ _ _ h => h) (Or.inl ⟨by rfl, ?_⟩) (by assumption) ?_; (rotate_left; (intro wS hSw; (try dsimp only at hSw); (try go_simp); (try with_reducible rfl)); rotate_left); simp only [Act.put, List.setIfInBounds_toArray, List.set_cons_zero, List.set_cons_succ]
  refine lin_take (v := ?_) (by kernel_rfl) (by kernel_rfl) (fun _ _ _ h => h) (Or.inl ⟨by rfl, ?_⟩) (by assumption) ?_; (rotate_left; (intro wS hSw; (try dsimp only at hSw); (try go_simp); (try with_reducible rfl)); rotate_left); simp only [Act.put, List.setIfInBounds_toArray, List.set_cons_zero, List.set_cons_succ]
  refine lin_take (v := ?_) (by kernel_rfl) (by kernel_rfl) (fun _ _ _ h => h) (Or.inl ⟨by rfl, ?_⟩) (by assumption) ?_; (rotate_left; (intro wS hSw; (try dsimp only at hSw); (try go_simp); (try with_reducible rfl)); rotate_left); simp only [Act.put, List.setIfInBounds_toArray, List.set_cons_zero, List.set_cons_succ]
  refine lin_take (v := ?_) (by kernel_rfl) (by kernel_rfl) (fun _ _ _ h => h) (Or.inl ⟨by rfl, ?_⟩) (by assumption) ?_; (rotate_left; (intro wS hSw; (try dsimp only at hSw); (try go_simp); (try with_reducible rfl)); rotate_left); simp only [Act.put, List.setIfInBounds_toArray, List.set_cons_zero, List.set_cons_succ]
  refine lin_done (by kernel_rfl) ?_
  obtain ⟨r0, r1, r2, r3, r4, r5, r6, r7, r8, r9⟩ := get10a hOa
  have fr3 := (hOa.cget 0 rfl 3).2
  have hW := hOa.cset 0 rfl 3 (.int .i64 2)
  have hW2 : Own w0 _ (cellsA rb #[.int .i64 kd, .int .i64 (B : Int), .int .i64 D, .int .i64 2, .int .i64 t, .int .i64 x, .int .i64 n, .int .i64 h, .bool got, .bool full] 68 :: cellsA zb #[.int .i64 0, .int .i64 0, .int .i64 0, .int .i64 0, .int .i64 0, .int .i64 0, .int .i64 0, .int .i64 0, .bool false, .bool false] 68 :: mRow (.slice mo ms.length mc) ms :: l) := hW
  go_upto_region 9 with fail
  clear r0 r1 r2 r3 r4 r5 r6 r7 r8 r9 fr3 hOa hS0 hHeld hR hW
  generalize (u.drewN 1).setCell ⟨rb, 3, none⟩ (.int .i64 2) = u2 at *
  obtain ⟨r0, r1, r2, r3, r4, r5, r6, r7, r8, r9⟩ := get10a hW2
  obtain ⟨f0, f1, f2, f3, f4, f5, f6, f7, f8, f9⟩ := get10f hW2
  obtain ⟨z0, z1, z2, z3, z4, z5, z6, z7, z8, z9⟩ := get10 hW2
  have hF := set10 hW2 (.int .i64 kd) (.int .i64 (B : Int)) (.int .i64 D) (.int .i64 2) (.int .i64 t) (.int .i64 x) (.int .i64 n) (.int .i64 h) (.bool got) (.bool full)
  replace hF := Lib.hid hF
  clear hW2
  go_wp2_with fail
  replace hF := hF.out
  clear r0 f0 z0 r1 f1 z1 r2 f2 z2 r3 f3 z3 r4 f4 z4 r5 f5 z5 r6 f6 z6 r7 f7 z7 r8 f8 z8 r9 f9 z9
  obtain ⟨z0, z1, z2, z3, z4, z5, z6, z7, z8, z9⟩ := get10 hF
  generalize (((((((((u2.setCell ⟨zb, 0, none⟩ (.int .i64 kd)).setCell ⟨zb, 1, none⟩ (.int .i64 (B : Int))).setCell ⟨zb, 2, none⟩ (.int .i64 D)).setCell ⟨zb, 3, none⟩ (.int .i64 2)).setCell ⟨zb, 4, none⟩ (.int .i64 t)).setCell ⟨zb, 5, none⟩ (.int .i64 x)).setCell ⟨zb, 6, none⟩ (.int .i64 n)).setCell ⟨zb, 7, none⟩ (.int .i64 h)).setCell ⟨zb, 8, none⟩ (.bool got)).setCell ⟨zb, 9, none⟩ (.bool full) = u3 at *
  have hEnd := hF.sub (.cons _ (.cons _ (List.Sublist.refl _)))
  exact bodyPost_ret (v := .tuple #[.agg #[.int .i64 kd, .int .i64 (B : Int), .int .i64 D, .int .i64 2, .int .i64 t, .int .i64 x, .int .i64 n, .int .i64 h, .bool got, .bool full], .slice mo ms.length mc]) (by simp [results, Try.results55, go_sem, z0, z1, z2, z3, z4, z5, z6, z7, z8, z9]) rfl ⟨rfl, hEnd⟩
theorem rs31n {B : Nat} {D : Int} {ms : List Int} (hr : (B : Int) + 4 + D ≤ ms.length ∧ ms.length ≤ 100000) (hD : 2 ≤ D ∧ D ≤ 256) {w0 w : World} {mo : Option Addr} {mc : Nat} {l : List Ast} (hO : Own w0 w (mRow (.slice mo ms.length mc) ms :: l)) (kd t x n h : Int) (got full : Bool) (Y : Int) (hY : ms.getD (B + 3) 0 = Y) (c : (Y == n) = false) :
    Calls Try.prog 55 #[.agg #[.int .i64 kd, .int .i64 (B : Int), .int .i64 D, .int .i64 1, .int .i64 t, .int .i64 x, .int .i64 n, .int .i64 h, .bool got, .bool full], .slice mo ms.length mc] w fun e w' => e = .returned (.tuple #[.agg #[.int .i64 kd, .int .i64 (B : Int), .int .i64 D, .int .i64 1, .int .i64 t, .int .i64 x, .int .i64 n, .int .i64 h, .bool got, .bool full], .slice mo ms.length mc]) ∧ Own w0 w' (mRow (.slice mo ms.length mc) ms :: l) := by
  have h1 := (hO.box #[.int .i64 kd, .int .i64 (B : Int), .int .i64 D, .int .i64 1, .int .i64 t, .int .i64 x, .int .i64 n, .int .i64 h, .bool got, .bool full] 68).box #[.int .i64 0, .int .i64 0, .int .i64 0, .int .i64 0, .int .i64 0, .int .i64 0, .int .i64 0, .int .i64 0, .bool false, .bool false] 68
  rw [alloc_sz] at h1
  have h2 : Own w0 ((w.alloc (.cells #[.int .i64 kd, .int .i64 (B : Int), .int .i64 D, .int .i64 1, .int .i64 t, .int .i64 x, .int .i64 n, .int .i64 h, .bool got, .bool full] 68)).alloc (.cells #[.int .i64 0, .int .i64 0, .int .i64 0, .int .i64 0, .int .i64 0, .int .i64 0, .int .i64 0, .int .i64 0, .bool false, .bool false] 68)) (cellsA w.heap.size #[.int .i64 kd, .int .i64 (B : Int), .int .i64 D, .int .i64 1, .int .i64 t, .int .i64 x, .int .i64 n, .int .i64 h, .bool got, .bool full] 68 :: cellsA (w.heap.size + 1) #[.int .i64 0, .int .i64 0, .int .i64 0, .int .i64 0, .int .i64 0, .int .i64 0, .int .i64 0, .int .i64 0, .bool false, .bool false] 68 :: mRow (.slice mo ms.length mc) ms :: l) := h1.pm (by
    simp only [List.cons_append, List.append_assoc, List.nil_append]
    exact (List.perm_append_comm (l₁ := mRow (.slice mo ms.length mc) ms :: l) (l₂ := [_, _])))
  have eb : IntKind.i64.wrap ((B : Int) + 3) = ((B + 3 : Nat) : Int) := (IntWalk.i64_in _ (by omega)).trans (by omega)
  have eb5 : decide (((B + 3 : Nat) : Int) < (ms.length : Int)) = true := decide_eq_true (by omega)
  have eb6 : decide (B + 3 < ms.length) = true := decide_eq_true (by omega)
  have RW := Lib.hid (fun (w1 : World) (h' : Own w0 w1 (mRow (.slice mo ms.length mc) ms :: l)) => rword (Lies.of_row (h'.row 0 rfl) rfl) (k := B + 3) (by omega) Y hY)
  clear h1 hO hY
  go_enter Try.func55, Try.ntmps55
  go_upto_region 7 with fail
  generalize (w.alloc (.cells #[.int .i64 kd, .int .i64 (B : Int), .int .i64 D, .int .i64 1, .int .i64 t, .int .i64 x, .int .i64 n, .int .i64 h, .bool got, .bool full] 68)).alloc (.cells #[.int .i64 0, .int .i64 0, .int .i64 0, .int .i64 0, .int .i64 0, .int .i64 0, .int .i64 0, .int .i64 0, .bool false, .bool false] 68) = u at *
  generalize w.heap.size + 1 = zb at *
  generalize w.heap.size = rb at *
  have hOa := h2.drewN 1
  have hR := Lib.hid (RW.out _ (hOa.sub (.cons _ (.cons _ (List.Sublist.refl _)))))
  obtain ⟨r0, r1, r2, r3, r4, r5, r6, r7, r8, r9⟩ := get10a hOa
  have hS0 := (show (fun w' : World => w'.cell? ⟨rb, 1, none⟩ = some (.int .i64 (B : Int)) ∧ w'.cell? ⟨rb, 6, none⟩ = some (.int .i64 n)) _ from ⟨r1, r6⟩)
  clear r0 r1 r2 r3 r4 r5 r6 r7 r8 r9 h2
  refine lin_start (S := (fun w' : World => w'.cell? ⟨rb, 1, none⟩ = some (.int .i64 (B : Int)) ∧ w'.cell? ⟨rb, 6, none⟩ = some (.int .i64 n))) rfl 16 rfl hS0 ?_
  simp only [numbered, Nat.zero_add, Nat.reduceAdd]
  refine lin_take (v := ?_) (by kernel_rfl) (by kernel_rfl) (fun _ _ _ h => h) (Or.inl ⟨by rfl, ?_⟩) (by assumption) ?_; (rotate_left; (intro wS hSw; (try dsimp only at hSw); (try go_simp); (try with_reducible rfl)); rotate_left); simp only [Act.put, List.setIfInBounds_toArray, List.set_cons_zero, List.set_cons_succ]
  refine lin_take (v := ?_) (by kernel_rfl) (by kernel_rfl) (fun _ _ _ h => h) (Or.inl ⟨by rfl, ?_⟩) (by assumption) ?_; (rotate_left; (intro wS hSw; (try dsimp only at hSw); (try go_simp); (try with_reducible rfl)); rotate_left); simp only [Act.put, List.setIfInBounds_toArray, List.set_cons_zero, List.set_cons_succ]
  refine lin_take (v := ?_) (by kernel_rfl) (by kernel_rfl) (fun _ _ _ h => h) (Or.inl ⟨by rfl, ?_⟩) (by assumption) ?_; (rotate_left; (intro wS hSw; (try dsimp only at hSw); (try go_simp); (try with_reducible rfl)); rotate_left); simp only [Act.put, List.setIfInBounds_toArray, List.set_cons_zero, List.set_cons_succ]
  refine lin_take (v := ?_) (by kernel_rfl) (by kernel_rfl) (fun _ _ _ h => h) (Or.inl ⟨by rfl, ?_⟩) (by assumption) ?_; (rotate_left; (intro wS hSw; (try dsimp only at hSw); (try go_simp); (try with_reducible rfl)); rotate_left); simp only [Act.put, List.setIfInBounds_toArray, List.set_cons_zero, List.set_cons_succ]
  refine lin_rot ?_; simp only [List.cons_append, List.nil_append]
  refine lin_take (v := ?_) (by kernel_rfl) (by kernel_rfl) (fun _ _ _ h => h) (Or.inl ⟨by rfl, ?_⟩) (by assumption) ?_; (rotate_left; (intro wS hSw; (try dsimp only at hSw); (try go_simp); (try with_reducible rfl)); rotate_left); simp only [Act.put, List.setIfInBounds_toArray, List.set_cons_zero, List.set_cons_succ]
  refine lin_take (v := ?_) (by kernel_rfl) (by kernel_rfl) (fun _ _ _ h => h) (Or.inl ⟨by rfl, ?_⟩) (by assumption) ?_; (rotate_left; (intro wS hSw; (try dsimp only at hSw); (try go_simp); (try with_reducible rfl)); rotate_left); simp only [Act.put, List.setIfInBounds_toArray, List.set_cons_zero, List.set_cons_succ]
  refine lin_rot ?_; simp only [List.cons_append, List.nil_append]
  refine lin_rot ?_; simp only [List.cons_append, List.nil_append]
  refine lin_rot ?_; simp only [List.cons_append, List.nil_append]
  refine lin_rot ?_; simp only [List.cons_append, List.nil_append]
  refine lin_rot ?_; simp only [List.cons_append, List.nil_append]
  refine lin_rot ?_; simp only [List.cons_append, List.nil_append]
  refine lin_rot ?_; simp only [List.cons_append, List.nil_append]
  refine lin_rot ?_; simp only [List.cons_append, List.nil_append]
  refine lin_rot ?_; simp only [List.cons_append, List.nil_append]
  refine lin_sole (by kernel_rfl) (fun K hK => ?_)
  go_simp
  refine (hR.out).mono ?_
  rintro e w6 ⟨rfl, rfl⟩
  refine hK.out _ _ hS0 (fun hHeld => ?_)
  try simp only [Act.put, List.setIfInBounds_toArray, List.set_cons_zero, List.set_cons_succ]
  clear hK
  refine lin_take (v := ?_) (by kernel_rfl) (by kernel_rfl) (fun _ _ _ h => h) (Or.inl ⟨by rfl, ?_⟩) (by assumption) ?_; (rotate_left; (intro wS hSw; (try dsimp only at hSw); (try go_simp); (try with_reducible rfl)); rotate_left); simp only [Act.put, List.setIfInBounds_toArray, List.set_cons_zero, List.set_cons_succ]
  refine lin_take (v := ?_) (by kernel_rfl) (by kernel_rfl) (fun _ _ _ h => h) (Or.inl ⟨by rfl, ?_⟩) (by assumption) ?_; (rotate_left; (intro wS hSw; (try dsimp only at hSw); (try go_simp); (try with_reducible rfl)); rotate_left); simp only [Act.put, List.setIfInBounds_toArray, List.set_cons_zero, List.set_cons_succ]
  refine lin_take (v := undef) (by kernel_rfl) (by kernel_rfl) (fun _ _ _ h => h) (Or.inr ⟨by rfl, rfl⟩) (by assumption) ?_; simp only [Act.put, List.setIfInBounds_toArray, List.set_cons_zero, List.set_cons_succ]
  refine lin_take (v := undef) (by kernel_rfl) (by kernel_rfl) (fun _ _ _ h => h) (Or.inr ⟨by rfl, rfl⟩) (by assumption) ?_; simp only [Act.put, List.setIfInBounds_toArray, List.set_cons_zero, List.set_cons_succ]
  refine lin_take (v := undef) (by kernel_rfl) (by kernel_rfl) (fun _ _ _ h => h) (Or.inr ⟨by rfl, rfl⟩) (by assumption) ?_; simp only [Act.put, List.setIfInBounds_toArray, List.set_cons_zero, List.set_cons_succ]
  refine lin_take (v := undef) (by kernel_rfl) (by kernel_rfl) (fun _ _ _ h => h) (Or.inr ⟨by rfl, rfl⟩) (by assumption) ?_; simp only [Act.put, List.setIfInBounds_toArray, List.set_cons_zero, List.set_cons_succ]
  refine lin_take (v := undef) (by kernel_rfl) (by kernel_rfl) (fun _ _ _ h => h) (Or.inr ⟨by rfl, rfl⟩) (by assumption) ?_; simp only [Act.put, List.setIfInBounds_toArray, List.set_cons_zero, List.set_cons_succ]
  refine lin_take (v := undef) (by kernel_rfl) (by kernel_rfl) (fun _ _ _ h => h) (Or.inr ⟨by rfl, rfl⟩) (by assumption) ?_; simp only [Act.put, List.setIfInBounds_toArray, List.set_cons_zero, List.set_cons_succ]
  refine lin_take (v := ?_) (by kernel_rfl) (by kernel_rfl) (fun _ _ _ h => h) (Or.inl ⟨by rfl, ?_⟩) (by assumption) ?_; (rotate_left; (intro wS hSw; (try dsimp only at hSw); (try go_simp); (try with_reducible rfl)); rotate_left); simp only [Act.put, List.setIfInBounds_toArray, List.set_cons_zero, List.set_cons_succ]
  refine lin_done (by kernel_rfl) ?_
  obtain ⟨r0, r1, r2, r3, r4, r5, r6, r7, r8, r9⟩ := get10a hOa
  have fr3 := (hOa.cget 0 rfl 3).2
  have hW := hOa
  have hW2 : Own w0 _ (cellsA rb #[.int .i64 kd, .int .i64 (B : Int), .int .i64 D, .int .i64 1, .int .i64 t, .int .i64 x, .int .i64 n, .int .i64 h, .bool got, .bool full] 68 :: cellsA zb #[.int .i64 0, .int .i64 0, .int .i64 0, .int .i64 0, .int .i64 0, .int .i64 0, .int .i64 0, .int .i64 0, .bool false, .bool false] 68 :: mRow (.slice mo ms.length mc) ms :: l) := hW
  go_upto_region 9 with fail
  clear r0 r1 r2 r3 r4 r5 r6 r7 r8 r9 fr3 hOa hS0 hHeld hR hW
  generalize u.drewN 1 = u2 at *
  obtain ⟨r0, r1, r2, r3, r4, r5, r6, r7, r8, r9⟩ := get10a hW2
  obtain ⟨f0, f1, f2, f3, f4, f5, f6, f7, f8, f9⟩ := get10f hW2
  obtain ⟨z0, z1, z2, z3, z4, z5, z6, z7, z8, z9⟩ := get10 hW2
  have hF := set10 hW2 (.int .i64 kd) (.int .i64 (B : Int)) (.int .i64 D) (.int .i64 1) (.int .i64 t) (.int .i64 x) (.int .i64 n) (.int .i64 h) (.bool got) (.bool full)
  replace hF := Lib.hid hF
  clear hW2
  go_wp2_with fail
  replace hF := hF.out
  clear r0 f0 z0 r1 f1 z1 r2 f2 z2 r3 f3 z3 r4 f4 z4 r5 f5 z5 r6 f6 z6 r7 f7 z7 r8 f8 z8 r9 f9 z9
  obtain ⟨z0, z1, z2, z3, z4, z5, z6, z7, z8, z9⟩ := get10 hF
  generalize (((((((((u2.setCell ⟨zb, 0, none⟩ (.int .i64 kd)).setCell ⟨zb, 1, none⟩ (.int .i64 (B : Int))).setCell ⟨zb, 2, none⟩ (.int .i64 D)).setCell ⟨zb, 3, none⟩ (.int .i64 1)).setCell ⟨zb, 4, none⟩ (.int .i64 t)).setCell ⟨zb, 5, none⟩ (.int .i64 x)).setCell ⟨zb, 6, none⟩ (.int .i64 n)).setCell ⟨zb, 7, none⟩ (.int .i64 h)).setCell ⟨zb, 8, none⟩ (.bool got)).setCell ⟨zb, 9, none⟩ (.bool full) = u3 at *
  have hEnd := hF.sub (.cons _ (.cons _ (List.Sublist.refl _)))
  exact bodyPost_ret (v := .tuple #[.agg #[.int .i64 kd, .int .i64 (B : Int), .int .i64 D, .int .i64 1, .int .i64 t, .int .i64 x, .int .i64 n, .int .i64 h, .bool got, .bool full], .slice mo ms.length mc]) (by simp [results, Try.results55, go_sem, z0, z1, z2, z3, z4, z5, z6, z7, z8, z9]) rfl ⟨rfl, hEnd⟩
theorem rs34n {B : Nat} {D : Int} {ms : List Int} (hr : (B : Int) + 4 + D ≤ ms.length ∧ ms.length ≤ 100000) (hD : 2 ≤ D ∧ D ≤ 256) {w0 w : World} {mo : Option Addr} {mc : Nat} {l : List Ast} (hO : Own w0 w (mRow (.slice mo ms.length mc) ms :: l)) (kd t x n h : Int) (got full : Bool) (Y : Int) (hY : ms.getD (B + 1) 0 = Y) (V : Int) (hV : wrap64 (h + 1) = V) (c : Y < V) :
    Calls Try.prog 55 #[.agg #[.int .i64 kd, .int .i64 (B : Int), .int .i64 D, .int .i64 4, .int .i64 t, .int .i64 x, .int .i64 n, .int .i64 h, .bool got, .bool full], .slice mo ms.length mc] w fun e w' => e = .returned (.tuple #[.agg #[.int .i64 kd, .int .i64 (B : Int), .int .i64 D, .int .i64 5, .int .i64 t, .int .i64 x, .int .i64 n, .int .i64 h, .bool got, .bool full], .slice mo ms.length mc]) ∧ Own w0 w' (mRow (.slice mo ms.length mc) ms :: l) := by
  have h1 := (hO.box #[.int .i64 kd, .int .i64 (B : Int), .int .i64 D, .int .i64 7, .int .i64 t, .int .i64 x, .int .i64 n, .int .i64 h, .bool got, .bool full] 68).box #[.int .i64 0, .int .i64 0, .int .i64 0, .int .i64 0, .int .i64 0, .int .i64 0, .int .i64 0, .int .i64 0, .bool false, .bool false] 68
  rw [alloc_sz] at h1
  have h2 : Own w0 ((w.alloc (.cells #[.int .i64 kd, .int .i64 (B : Int), .int .i64 D, .int .i64 7, .int .i64 t, .int .i64 x, .int .i64 n, .int .i64 h, .bool got, .bool full] 68)).alloc (.cells #[.int .i64 0, .int .i64 0, .int .i64 0, .int .i64 0, .int .i64 0, .int .i64 0, .int .i64 0, .int .i64 0, .bool false, .bool false] 68)) (cellsA w.heap.size #[.int .i64 kd, .int .i64 (B : Int), .int .i64 D, .int .i64 7, .int .i64 t, .int .i64 x, .int .i64 n, .int .i64 h, .bool got, .bool full] 68 :: cellsA (w.heap.size + 1) #[.int .i64 0, .int .i64 0, .int .i64 0, .int .i64 0, .int .i64 0, .int .i64 0, .int .i64 0, .int .i64 0, .bool false, .bool false] 68 :: mRow (.slice mo ms.length mc) ms :: l) := h1.pm (by
    simp only [List.cons_append, List.append_assoc, List.nil_append]
    exact (List.perm_append_comm (l₁ := mRow (.slice mo ms.length mc) ms :: l) (l₂ := [_, _])))
  have eb : IntKind.i64.wrap ((B : Int) + 1) = ((B + 1 : Nat) : Int) := (IntWalk.i64_in _ (by omega)).trans (by omega)
  have e1 : IntKind.i64.wrap (h + 1) = V := (IntWalk.i64_left _).trans hV
  clear hV
  have e3 : decide (Y < V) = true := decide_eq_true c
  have RW := Lib.hid (fun (w1 : World) (h' : Own w0 w1 (mRow (.slice mo ms.length mc) ms :: l)) => rword (Lies.of_row (h'.row 0 rfl) rfl) (k := B + 1) (by omega) Y hY)
  clear h1 hO hY
  go_enter Try.func55, Try.ntmps55
  go_upto_region 19 with fail
  generalize (w.alloc (.cells #[.int .i64 kd, .int .i64 (B : Int), .int .i64 D, .int .i64 7, .int .i64 t, .int .i64 x, .int .i64 n, .int .i64 h, .bool got, .bool full] 68)).alloc (.cells #[.int .i64 0, .int .i64 0, .int .i64 0, .int .i64 0, .int .i64 0, .int .i64 0, .int .i64 0, .int .i64 0, .bool false, .bool false] 68) = u at *
  generalize w.heap.size + 1 = zb at *
  generalize w.heap.size = rb at *
  have hOa := h2.drewN 1
  have hR := Lib.hid (RW.out _ (hOa.sub (.cons _ (.cons _ (List.Sublist.refl _)))))
  obtain ⟨r0, r1, r2, r3, r4, r5, r6, r7, r8, r9⟩ := get10a hOa
  have hS0 := (show (fun w' : World => w'.cell? ⟨rb, 1, none⟩ = some (.int .i64 (B : Int)) ∧ w'.cell? ⟨rb, 7, none⟩ = some (.int .i64 h)) _ from ⟨r1, r7⟩)
  clear r0 r1 r2 r3 r4 r5 r6 r7 r8 r9 h2
  refine lin_start (S := (fun w' : World => w'.cell? ⟨rb, 1, none⟩ = some (.int .i64 (B : Int)) ∧ w'.cell? ⟨rb, 7, none⟩ = some (.int .i64 h))) rfl 9 rfl hS0 ?_
  simp only [numbered, Nat.zero_add, Nat.reduceAdd]
  refine lin_take (v := ?_) (by kernel_rfl) (by kernel_rfl) (fun _ _ _ h => h) (Or.inl ⟨by rfl, ?_⟩) (by assumption) ?_; (rotate_left; (intro wS hSw; (try dsimp only at hSw); (try go_simp); (try with_reducible rfl)); rotate_left); simp only [Act.put, List.setIfInBounds_toArray, List.set_cons_zero, List.set_cons_succ]
  refine lin_take (v := ?_) (by kernel_rfl) (by kernel_rfl) (fun _ _ _ h => h) (Or.inl ⟨by rfl, ?_⟩) (by assumption) ?_; (rotate_left; (intro wS hSw; (try dsimp only at hSw); (try go_simp); (try with_reducible rfl)); rotate_left); simp only [Act.put, List.setIfInBounds_toArray, List.set_cons_zero, List.set_cons_succ]
  refine lin_take (v := ?_) (by kernel_rfl) (by kernel_rfl) (fun _ _ _ h => h) (Or.inl ⟨by rfl, ?_⟩) (by assumption) ?_; (rotate_left; (intro wS hSw; (try dsimp only at hSw); (try go_simp); (try with_reducible rfl)); rotate_left); simp only [Act.put, List.setIfInBounds_toArray, List.set_cons_zero, List.set_cons_succ]
  refine lin_take (v := ?_) (by kernel_rfl) (by kernel_rfl) (fun _ _ _ h => h) (Or.inl ⟨by rfl, ?_⟩) (by assumption) ?_; (rotate_left; (intro wS hSw; (try dsimp only at hSw); (try go_simp); (try with_reducible rfl)); rotate_left); simp only [Act.put, List.setIfInBounds_toArray, List.set_cons_zero, List.set_cons_succ]
  refine lin_rot ?_; simp only [List.cons_append, List.nil_append]
  refine lin_take (v := ?_) (by kernel_rfl) (by kernel_rfl) (fun _ _ _ h => h) (Or.inl ⟨by rfl, ?_⟩) (by assumption) ?_; (rotate_left; (intro wS hSw; (try dsimp only at hSw); (try go_simp); (try with_reducible rfl)); rotate_left); simp only [Act.put, List.setIfInBounds_toArray, List.set_cons_zero, List.set_cons_succ]
  refine lin_take (v := ?_) (by kernel_rfl) (by kernel_rfl) (fun _ _ _ h => h) (Or.inl ⟨by rfl, ?_⟩) (by assumption) ?_; (rotate_left; (intro wS hSw; (try dsimp only at hSw); (try go_simp); (try with_reducible rfl)); rotate_left); simp only [Act.put, List.setIfInBounds_toArray, List.set_cons_zero, List.set_cons_succ]
  refine lin_take (v := ?_) (by kernel_rfl) (by kernel_rfl) (fun _ _ _ h => h) (Or.inl ⟨by rfl, ?_⟩) (by assumption) ?_; (rotate_left; (intro wS hSw; (try dsimp only at hSw); (try go_simp); (try with_reducible rfl)); rotate_left); simp only [Act.put, List.setIfInBounds_toArray, List.set_cons_zero, List.set_cons_succ]
  refine lin_rot ?_; simp only [List.cons_append, List.nil_append]
  refine lin_sole (by kernel_rfl) (fun K hK => ?_)
  go_simp
  refine (hR.out).mono ?_
  rintro e w6 ⟨rfl, rfl⟩
  refine hK.out _ _ hS0 (fun hHeld => ?_)
  try simp only [Act.put, List.setIfInBounds_toArray, List.set_cons_zero, List.set_cons_succ]
  clear hK
  refine lin_take (v := ?_) (by kernel_rfl) (by kernel_rfl) (fun _ _ _ h => h) (Or.inl ⟨by rfl, ?_⟩) (by assumption) ?_; (rotate_left; (intro wS hSw; (try dsimp only at hSw); (try go_simp); (try with_reducible rfl)); rotate_left); simp only [Act.put, List.setIfInBounds_toArray, List.set_cons_zero, List.set_cons_succ]
  refine lin_done (by kernel_rfl) ?_
  obtain ⟨r0, r1, r2, r3, r4, r5, r6, r7, r8, r9⟩ := get10a hOa
  have fr3 := (hOa.cget 0 rfl 3).2
  have hW := hOa.cset 0 rfl 3 (.int .i64 5)
  have hW2 : Own w0 _ (cellsA rb #[.int .i64 kd, .int .i64 (B : Int), .int .i64 D, .int .i64 5, .int .i64 t, .int .i64 x, .int .i64 n, .int .i64 h, .bool got, .bool full] 68 :: cellsA zb #[.int .i64 0, .int .i64 0, .int .i64 0, .int .i64 0, .int .i64 0, .int .i64 0, .int .i64 0, .int .i64 0, .bool false, .bool false] 68 :: mRow (.slice mo ms.length mc) ms :: l) := hW
  go_upto_region 21 with fail
  clear r0 r1 r2 r3 r4 r5 r6 r7 r8 r9 fr3 hOa hS0 hHeld hR hW
  generalize (u.drewN 1).setCell ⟨rb, 3, none⟩ (.int .i64 5) = u2 at *
  obtain ⟨r0, r1, r2, r3, r4, r5, r6, r7, r8, r9⟩ := get10a hW2
  obtain ⟨f0, f1, f2, f3, f4, f5, f6, f7, f8, f9⟩ := get10f hW2
  obtain ⟨z0, z1, z2, z3, z4, z5, z6, z7, z8, z9⟩ := get10 hW2
  have hF := set10 hW2 (.int .i64 kd) (.int .i64 (B : Int)) (.int .i64 D) (.int .i64 5) (.int .i64 t) (.int .i64 x) (.int .i64 n) (.int .i64 h) (.bool got) (.bool full)
  replace hF := Lib.hid hF
  clear hW2
  go_wp2_with fail
  replace hF := hF.out
  clear r0 f0 z0 r1 f1 z1 r2 f2 z2 r3 f3 z3 r4 f4 z4 r5 f5 z5 r6 f6 z6 r7 f7 z7 r8 f8 z8 r9 f9 z9
  obtain ⟨z0, z1, z2, z3, z4, z5, z6, z7, z8, z9⟩ := get10 hF
  generalize (((((((((u2.setCell ⟨zb, 0, none⟩ (.int .i64 kd)).setCell ⟨zb, 1, none⟩ (.int .i64 (B : Int))).setCell ⟨zb, 2, none⟩ (.int .i64 D)).setCell ⟨zb, 3, none⟩ (.int .i64 5)).setCell ⟨zb, 4, none⟩ (.int .i64 t)).setCell ⟨zb, 5, none⟩ (.int .i64 x)).setCell ⟨zb, 6, none⟩ (.int .i64 n)).setCell ⟨zb, 7, none⟩ (.int .i64 h)).setCell ⟨zb, 8, none⟩ (.bool got)).setCell ⟨zb, 9, none⟩ (.bool full) = u3 at *
  have hEnd := hF.sub (.cons _ (.cons _ (List.Sublist.refl _)))
  exact bodyPost_ret (v := .tuple #[.agg #[.int .i64 kd, .int .i64 (B : Int), .int .i64 D, .int .i64 5, .int .i64 t, .int .i64 x, .int .i64 n, .int .i64 h, .bool got, .bool full], .slice mo ms.length mc]) (by simp [results, Try.results55, go_sem, z0, z1, z2, z3, z4, z5, z6, z7, z8, z9]) rfl ⟨rfl, hEnd⟩
theorem rs34y {B : Nat} {D : Int} {ms : List Int} (hr : (B : Int) + 4 + D ≤ ms.length ∧ ms.length ≤ 100000) (hD : 2 ≤ D ∧ D ≤ 256) {w0 w : World} {mo : Option Addr} {mc : Nat} {l : List Ast} (hO : Own w0 w (mRow (.slice mo ms.length mc) ms :: l)) (kd t x n h : Int) (got full : Bool) (Y : Int) (hY : ms.getD (B + 1) 0 = Y) (V : Int) (hV : wrap64 (h + 1) = V) (c : ¬ Y < V) :
    Calls Try.prog 55 #[.agg #[.int .i64 kd, .int .i64 (B : Int), .int .i64 D, .int .i64 4, .int .i64 t, .int .i64 x, .int .i64 n, .int .i64 h, .bool got, .bool full], .slice mo ms.length mc] w fun e w' => e = .returned (.tuple #[.agg #[.int .i64 kd, .int .i64 (B : Int), .int .i64 D, .int .i64 7, .int .i64 t, .int .i64 x, .int .i64 n, .int .i64 h, .bool got, .bool full], .slice mo ms.length mc]) ∧ Own w0 w' (mRow (.slice mo ms.length mc) ms :: l) := by
  have h1 := (hO.box #[.int .i64 kd, .int .i64 (B : Int), .int .i64 D, .int .i64 7, .int .i64 t, .int .i64 x, .int .i64 n, .int .i64 h, .bool got, .bool full] 68).box #[.int .i64 0, .int .i64 0, .int .i64 0, .int .i64 0, .int .i64 0, .int .i64 0, .int .i64 0, .int .i64 0, .bool false, .bool false] 68
  rw [alloc_sz] at h1
  have h2 : Own w0 ((w.alloc (.cells #[.int .i64 kd, .int .i64 (B : Int), .int .i64 D, .int .i64 7, .int .i64 t, .int .i64 x, .int .i64 n, .int .i64 h, .bool got, .bool full] 68)).alloc (.cells #[.int .i64 0, .int .i64 0, .int .i64 0, .int .i64 0, .int .i64 0, .int .i64 0, .int .i64 0, .int .i64 0, .bool false, .bool false] 68)) (cellsA w.heap.size #[.int .i64 kd, .int .i64 (B : Int), .int .i64 D, .int .i64 7, .int .i64 t, .int .i64 x, .int .i64 n, .int .i64 h, .bool got, .bool full] 68 :: cellsA (w.heap.size + 1) #[.int .i64 0, .int .i64 0, .int .i64 0, .int .i64 0, .int .i64 0, .int .i64 0, .int .i64 0, .int .i64 0, .bool false, .bool false] 68 :: mRow (.slice mo ms.length mc) ms :: l) := h1.pm (by
    simp only [List.cons_append, List.append_assoc, List.nil_append]
    exact (List.perm_append_comm (l₁ := mRow (.slice mo ms.length mc) ms :: l) (l₂ := [_, _])))
  have eb : IntKind.i64.wrap ((B : Int) + 1) = ((B + 1 : Nat) : Int) := (IntWalk.i64_in _ (by omega)).trans (by omega)
  have e1 : IntKind.i64.wrap (h + 1) = V := (IntWalk.i64_left _).trans hV
  clear hV
  have e3 : decide (Y < V) = false := decide_eq_false c
  have RW := Lib.hid (fun (w1 : World) (h' : Own w0 w1 (mRow (.slice mo ms.length mc) ms :: l)) => rword (Lies.of_row (h'.row 0 rfl) rfl) (k := B + 1) (by omega) Y hY)
  clear h1 hO hY
  go_enter Try.func55, Try.ntmps55
  go_upto_region 19 with fail
  generalize (w.alloc (.cells #[.int .i64 kd, .int .i64 (B : Int), .int .i64 D, .int .i64 7, .int .i64 t, .int .i64 x, .int .i64 n, .int .i64 h, .bool got, .bool full] 68)).alloc (.cells #[.int .i64 0, .int .i64 0, .int .i64 0, .int .i64 0, .int .i64 0, .int .i64 0, .int .i64 0, .int .i64 0, .bool false, .bool false] 68) = u at *
  generalize w.heap.size + 1 = zb at *
  generalize w.heap.size = rb at *
  have hOa := h2.drewN 1
  have hR := Lib.hid (RW.out _ (hOa.sub (.cons _ (.cons _ (List.Sublist.refl _)))))
  obtain ⟨r0, r1, r2, r3, r4, r5, r6, r7, r8, r9⟩ := get10a hOa
  have hS0 := (show (fun w' : World => w'.cell? ⟨rb, 1, none⟩ = some (.int .i64 (B : Int)) ∧ w'.cell? ⟨rb, 7, none⟩ = some (.int .i64 h)) _ from ⟨r1, r7⟩)
  clear r0 r1 r2 r3 r4 r5 r6 r7 r8 r9 h2
  refine lin_start (S := (fun w' : World => w'.cell? ⟨rb, 1, none⟩ = some (.int .i64 (B : Int)) ∧ w'.cell? ⟨rb, 7, none⟩ = some (.int .i64 h))) rfl 9 rfl hS0 ?_
  simp only [numbered, Nat.zero_add, Nat.reduceAdd]
  refine lin_take (v := ?_) (by kernel_rfl) (by kernel_rfl) (fun _ _ _ h => h) (Or.inl ⟨by rfl, ?_⟩) (by assumption) ?_; (rotate_left; (intro wS hSw; (try dsimp only at hSw); (try go_simp); (try with_reducible rfl)); rotate_left); simp only [Act.put, List.setIfInBounds_toArray, List.set_cons_zero, List.set_cons_succ]
  refine lin_take (v := ?_) (by kernel_rfl) (by kernel_rfl) (fun _ _ _ h => h) (Or.inl ⟨by rfl, ?_⟩) (by assumption) ?_; (rotate_left; (intro wS hSw; (try dsimp only at hSw); (try go_simp); (try with_reducible rfl)); rotate_left); simp only [Act.put, List.setIfInBounds_toArray, List.set_cons_zero, List.set_cons_succ]
  refine lin_take (v := ?_) (by kernel_rfl) (by kernel_rfl) (fun _ _ _ h => h) (Or.inl ⟨by rfl, ?_⟩) (by assumption) ?_; (rotate_left; (intro wS hSw; (try dsimp only at hSw); (try go_simp); (try with_reducible rfl)); rotate_left); simp only [Act.put, List.setIfInBounds_toArray, List.set_cons_zero, List.set_cons_succ]
  refine lin_take (v := ?_) (by kernel_rfl) (by kernel_rfl) (fun _ _ _ h => h) (Or.inl ⟨by rfl, ?_⟩) (by assumption) ?_; (rotate_left; (intro wS hSw; (try dsimp only at hSw); (try go_simp); (try with_reducible rfl)); rotate_left); simp only [Act.put, List.setIfInBounds_toArray, List.set_cons_zero, List.set_cons_succ]
  refine lin_rot ?_; simp only [List.cons_append, List.nil_append]
  refine lin_take (v := ?_) (by kernel_rfl) (by kernel_rfl) (fun _ _ _ h => h) (Or.inl ⟨by rfl, ?_⟩) (by assumption) ?_; (rotate_left; (intro wS hSw; (try dsimp only at hSw); (try go_simp); (try with_reducible rfl)); rotate_left); simp only [Act.put, List.setIfInBounds_toArray, List.set_cons_zero, List.set_cons_succ]
  refine lin_take (v := ?_) (by kernel_rfl) (by kernel_rfl) (fun _ _ _ h => h) (Or.inl ⟨by rfl, ?_⟩) (by assumption) ?_; (rotate_left; (intro wS hSw; (try dsimp only at hSw); (try go_simp); (try with_reducible rfl)); rotate_left); simp only [Act.put, List.setIfInBounds_toArray, List.set_cons_zero, List.set_cons_succ]
  refine lin_take (v := ?_) (by kernel_rfl) (by kernel_rfl) (fun _ _ _ h => h) (Or.inl ⟨by rfl, ?_⟩) (by assumption) ?_; (rotate_left; (intro wS hSw; (try dsimp only at hSw); (try go_simp); (try with_reducible rfl)); rotate_left); simp only [Act.put, List.setIfInBounds_toArray, List.set_cons_zero, List.set_cons_succ]
  refine lin_rot ?_; simp only [List.cons_append, List.nil_append]
  refine lin_sole (by kernel_rfl) (fun K hK => ?_)
  go_simp
  refine (hR.out).mono ?_
  rintro e w6 ⟨rfl, rfl⟩
  refine hK.out _ _ hS0 (fun hHeld => ?_)
  try simp only [Act.put, List.setIfInBounds_toArray, List.set_cons_zero, List.set_cons_succ]
  clear hK
  refine lin_take (v := ?_) (by kernel_rfl) (by kernel_rfl) (fun _ _ _ h => h) (Or.inl ⟨by rfl, ?_⟩) (by assumption) ?_; (rotate_left; (intro wS hSw; (try dsimp only at hSw); (try go_simp); (try with_reducible rfl)); rotate_left); simp only [Act.put, List.setIfInBounds_toArray, List.set_cons_zero, List.set_cons_succ]
  refine lin_done (by kernel_rfl) ?_
  obtain ⟨r0, r1, r2, r3, r4, r5, r6, r7, r8, r9⟩ := get10a hOa
  have fr3 := (hOa.cget 0 rfl 3).2
  have hW := hOa
  have hW2 : Own w0 _ (cellsA rb #[.int .i64 kd, .int .i64 (B : Int), .int .i64 D, .int .i64 7, .int .i64 t, .int .i64 x, .int .i64 n, .int .i64 h, .bool got, .bool full] 68 :: cellsA zb #[.int .i64 0, .int .i64 0, .int .i64 0, .int .i64 0, .int .i64 0, .int .i64 0, .int .i64 0, .int .i64 0, .bool false, .bool false] 68 :: mRow (.slice mo ms.length mc) ms :: l) := hW
  go_upto_region 21 with fail
  clear r0 r1 r2 r3 r4 r5 r6 r7 r8 r9 fr3 hOa hS0 hHeld hR hW
  generalize u.drewN 1 = u2 at *
  obtain ⟨r0, r1, r2, r3, r4, r5, r6, r7, r8, r9⟩ := get10a hW2
  obtain ⟨f0, f1, f2, f3, f4, f5, f6, f7, f8, f9⟩ := get10f hW2
  obtain ⟨z0, z1, z2, z3, z4, z5, z6, z7, z8, z9⟩ := get10 hW2
  have hF := set10 hW2 (.int .i64 kd) (.int .i64 (B : Int)) (.int .i64 D) (.int .i64 7) (.int .i64 t) (.int .i64 x) (.int .i64 n) (.int .i64 h) (.bool got) (.bool full)
  replace hF := Lib.hid hF
  clear hW2
  go_wp2_with fail
  replace hF := hF.out
  clear r0 f0 z0 r1 f1 z1 r2 f2 z2 r3 f3 z3 r4 f4 z4 r5 f5 z5 r6 f6 z6 r7 f7 z7 r8 f8 z8 r9 f9 z9
  obtain ⟨z0, z1, z2, z3, z4, z5, z6, z7, z8, z9⟩ := get10 hF
  generalize (((((((((u2.setCell ⟨zb, 0, none⟩ (.int .i64 kd)).setCell ⟨zb, 1, none⟩ (.int .i64 (B : Int))).setCell ⟨zb, 2, none⟩ (.int .i64 D)).setCell ⟨zb, 3, none⟩ (.int .i64 7)).setCell ⟨zb, 4, none⟩ (.int .i64 t)).setCell ⟨zb, 5, none⟩ (.int .i64 x)).setCell ⟨zb, 6, none⟩ (.int .i64 n)).setCell ⟨zb, 7, none⟩ (.int .i64 h)).setCell ⟨zb, 8, none⟩ (.bool got)).setCell ⟨zb, 9, none⟩ (.bool full) = u3 at *
  have hEnd := hF.sub (.cons _ (.cons _ (List.Sublist.refl _)))
  exact bodyPost_ret (v := .tuple #[.agg #[.int .i64 kd, .int .i64 (B : Int), .int .i64 D, .int .i64 7, .int .i64 t, .int .i64 x, .int .i64 n, .int .i64 h, .bool got, .bool full], .slice mo ms.length mc]) (by simp [results, Try.results55, go_sem, z0, z1, z2, z3, z4, z5, z6, z7, z8, z9]) rfl ⟨rfl, hEnd⟩
theorem rs32 {B : Nat} {D : Int} {ms : List Int} (hr : (B : Int) + 4 + D ≤ ms.length ∧ ms.length ≤ 100000) (hD : 2 ≤ D ∧ D ≤ 256) {w0 w : World} {mo : Option Addr} {mc : Nat} {l : List Ast} (hO : Own w0 w (mRow (.slice mo ms.length mc) ms :: l)) (kd t x n h : Int) (got full : Bool) (Y : Int) (hY : ms.getD B 0 = Y) :
    Calls Try.prog 55 #[.agg #[.int .i64 kd, .int .i64 (B : Int), .int .i64 D, .int .i64 2, .int .i64 t, .int .i64 x, .int .i64 n, .int .i64 h, .bool got, .bool full], .slice mo ms.length mc] w fun e w' => e = .returned (.tuple #[.agg #[.int .i64 kd, .int .i64 (B : Int), .int .i64 D, .int .i64 3, .int .i64 t, .int .i64 x, .int .i64 n, .int .i64 Y, .bool got, .bool full], .slice mo ms.length mc]) ∧ Own w0 w' (mRow (.slice mo ms.length mc) ms :: l) := by
  have h1 := (hO.box #[.int .i64 kd, .int .i64 (B : Int), .int .i64 D, .int .i64 3, .int .i64 t, .int .i64 x, .int .i64 n, .int .i64 Y, .bool got, .bool full] 68).box #[.int .i64 0, .int .i64 0, .int .i64 0, .int .i64 0, .int .i64 0, .int .i64 0, .int .i64 0, .int .i64 0, .bool false, .bool false] 68
  rw [alloc_sz] at h1
  have h2 : Own w0 ((w.alloc (.cells #[.int .i64 kd, .int .i64 (B : Int), .int .i64 D, .int .i64 3, .int .i64 t, .int .i64 x, .int .i64 n, .int .i64 Y, .bool got, .bool full] 68)).alloc (.cells #[.int .i64 0, .int .i64 0, .int .i64 0, .int .i64 0, .int .i64 0, .int .i64 0, .int .i64 0, .int .i64 0, .bool false, .bool false] 68)) (cellsA w.heap.size #[.int .i64 kd, .int .i64 (B : Int), .int .i64 D, .int .i64 3, .int .i64 t, .int .i64 x, .int .i64 n, .int .i64 Y, .bool got, .bool full] 68 :: cellsA (w.heap.size + 1) #[.int .i64 0, .int .i64 0, .int .i64 0, .int .i64 0, .int .i64 0, .int .i64 0, .int .i64 0, .int .i64 0, .bool false, .bool false] 68 :: mRow (.slice mo ms.length mc) ms :: l) := h1.pm (by
    simp only [List.cons_append, List.append_assoc, List.nil_append]
    exact (List.perm_append_comm (l₁ := mRow (.slice mo ms.length mc) ms :: l) (l₂ := [_, _])))
  have W0 := Lib.hid (rword (Lies.of_row (((hO.alloc (.cells #[.int .i64 kd, .int .i64 (B : Int), .int .i64 D, .int .i64 2, .int .i64 t, .int .i64 x, .int .i64 n, .int .i64 h, .bool got, .bool full] 68)).alloc (.cells #[.int .i64 0, .int .i64 0, .int .i64 0, .int .i64 0, .int .i64 0, .int .i64 0, .int .i64 0, .int .i64 0, .bool false, .bool false] 68)).row 0 rfl) rfl) (k := B) (by omega) Y hY)
  clear hY
  clear h1 hO
  go_enter Try.func55, Try.ntmps55
  go_upto_region 13 with (go_at_call 69; refine W0.out.mono ?_; rintro e w1 ⟨rfl, rfl⟩)
  generalize w.heap.size + 1 = zb at *
  generalize w.heap.size = rb at *
  generalize (w.alloc (.cells #[.int .i64 kd, .int .i64 (B : Int), .int .i64 D, .int .i64 3, .int .i64 t, .int .i64 x, .int .i64 n, .int .i64 Y, .bool got, .bool full] 68)).alloc (.cells #[.int .i64 0, .int .i64 0, .int .i64 0, .int .i64 0, .int .i64 0, .int .i64 0, .int .i64 0, .int .i64 0, .bool false, .bool false] 68) = u2 at *
  obtain ⟨r0, r1, r2, r3, r4, r5, r6, r7, r8, r9⟩ := get10a h2
  obtain ⟨f0, f1, f2, f3, f4, f5, f6, f7, f8, f9⟩ := get10f h2
  obtain ⟨z0, z1, z2, z3, z4, z5, z6, z7, z8, z9⟩ := get10 h2
  have hF := set10 h2 (.int .i64 kd) (.int .i64 (B : Int)) (.int .i64 D) (.int .i64 3) (.int .i64 t) (.int .i64 x) (.int .i64 n) (.int .i64 Y) (.bool got) (.bool full)
  replace hF := Lib.hid hF
  clear h2
  go_wp2_with fail
  replace hF := hF.out
  clear r0 f0 z0 r1 f1 z1 r2 f2 z2 r3 f3 z3 r4 f4 z4 r5 f5 z5 r6 f6 z6 r7 f7 z7 r8 f8 z8 r9 f9 z9
  obtain ⟨z0, z1, z2, z3, z4, z5, z6, z7, z8, z9⟩ := get10 hF
  generalize (((((((((u2.setCell ⟨zb, 0, none⟩ (.int .i64 kd)).setCell ⟨zb, 1, none⟩ (.int .i64 (B : Int))).setCell ⟨zb, 2, none⟩ (.int .i64 D)).setCell ⟨zb, 3, none⟩ (.int .i64 3)).setCell ⟨zb, 4, none⟩ (.int .i64 t)).setCell ⟨zb, 5, none⟩ (.int .i64 x)).setCell ⟨zb, 6, none⟩ (.int .i64 n)).setCell ⟨zb, 7, none⟩ (.int .i64 Y)).setCell ⟨zb, 8, none⟩ (.bool got)).setCell ⟨zb, 9, none⟩ (.bool full) = u3 at *
  have hEnd := hF.sub (.cons _ (.cons _ (List.Sublist.refl _)))
  exact bodyPost_ret (v := .tuple #[.agg #[.int .i64 kd, .int .i64 (B : Int), .int .i64 D, .int .i64 3, .int .i64 t, .int .i64 x, .int .i64 n, .int .i64 Y, .bool got, .bool full], .slice mo ms.length mc]) (by simp [results, Try.results55, go_sem, z0, z1, z2, z3, z4, z5, z6, z7, z8, z9]) rfl ⟨rfl, hEnd⟩
end Go.Proofs.Ytofnjapgacgdlaa
