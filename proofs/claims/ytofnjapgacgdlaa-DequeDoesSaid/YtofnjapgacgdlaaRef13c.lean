/- The document's deque: forebayref13.pop and steal, the steps that store a word. -/
import Derived.Test.YtofnjapgacgdlaaRef13b
set_option linter.unusedVariables false
set_option linter.unusedSimpArgs false
namespace Go.Proofs.Ytofnjapgacgdlaa
open Go.RowKit
set_option maxRecDepth 100000
set_option maxHeartbeats 8000000
theorem rs10 {B : Nat} {D : Int} {ms : List Int} (hr : (B : Int) + 4 + D ≤ ms.length ∧ ms.length ≤ 100000) (hD : 2 ≤ D ∧ D ≤ 256) {w0 w : World} {mo : Option Addr} {mc : Nat} {l : List Ast} (hO : Own w0 w (mRow (.slice mo ms.length mc) ms :: l)) (kd t x n h : Int) (got full : Bool) :
    Calls Try.prog 54 #[.agg #[.int .i64 kd, .int .i64 (B : Int), .int .i64 D, .int .i64 0, .int .i64 t, .int .i64 x, .int .i64 n, .int .i64 h, .bool got, .bool full], .slice mo ms.length mc] w fun e w' => ∃ ao' c', e = .returned (.tuple #[.agg #[.int .i64 kd, .int .i64 (B : Int), .int .i64 D, .int .i64 1, .int .i64 t, .int .i64 x, .int .i64 n, .int .i64 h, .bool got, .bool full], .slice ao' (ms.set (B + 1) (wrap64 (t - 1))).length c']) ∧ Own w0 w' (mRow (.slice ao' (ms.set (B + 1) (wrap64 (t - 1))).length c') (ms.set (B + 1) (wrap64 (t - 1))) :: l) := by
  have h1 := (hO.box #[.int .i64 kd, .int .i64 (B : Int), .int .i64 D, .int .i64 1, .int .i64 t, .int .i64 x, .int .i64 n, .int .i64 h, .bool got, .bool full] 68).box #[.int .i64 0, .int .i64 0, .int .i64 0, .int .i64 0, .int .i64 0, .int .i64 0, .int .i64 0, .int .i64 0, .bool false, .bool false] 68
  rw [alloc_sz] at h1
  have h2 : Own w0 ((w.alloc (.cells #[.int .i64 kd, .int .i64 (B : Int), .int .i64 D, .int .i64 1, .int .i64 t, .int .i64 x, .int .i64 n, .int .i64 h, .bool got, .bool full] 68)).alloc (.cells #[.int .i64 0, .int .i64 0, .int .i64 0, .int .i64 0, .int .i64 0, .int .i64 0, .int .i64 0, .int .i64 0, .bool false, .bool false] 68)) (cellsA w.heap.size #[.int .i64 kd, .int .i64 (B : Int), .int .i64 D, .int .i64 1, .int .i64 t, .int .i64 x, .int .i64 n, .int .i64 h, .bool got, .bool full] 68 :: cellsA (w.heap.size + 1) #[.int .i64 0, .int .i64 0, .int .i64 0, .int .i64 0, .int .i64 0, .int .i64 0, .int .i64 0, .int .i64 0, .bool false, .bool false] 68 :: mRow (.slice mo ms.length mc) ms :: l) := h1.pm (by
    simp only [List.cons_append, List.append_assoc, List.nil_append]
    exact (List.perm_append_comm (l₁ := mRow (.slice mo ms.length mc) ms :: l) (l₂ := [_, _])))
  have eb : IntKind.i64.wrap ((B : Int) + 1) = ((B + 1 : Nat) : Int) := (IntWalk.i64_in _ (by omega)).trans (by omega)
  have ew : IntKind.i64.wrap (t - 1) = wrap64 (t - 1) := IntWalk.i64_left _
  have RW : Hid (∀ (w1 : World) (rb zb : Nat), Own w0 w1 (cellsA rb #[.int .i64 kd, .int .i64 (B : Int), .int .i64 D, .int .i64 1, .int .i64 t, .int .i64 x, .int .i64 n, .int .i64 h, .bool got, .bool full] 68 :: cellsA zb #[.int .i64 0, .int .i64 0, .int .i64 0, .int .i64 0, .int .i64 0, .int .i64 0, .int .i64 0, .int .i64 0, .bool false, .bool false] 68 :: mRow (.slice mo ms.length mc) ms :: l) → Calls Try.prog 70 #[.slice mo ms.length mc, .int .i64 (((B + 1) : Nat) : Int), .int .i64 (wrap64 (t - 1))] w1 (fun e w' => ∃ ao' c', e = .returned (.slice ao' (ms.set (B + 1) (wrap64 (t - 1))).length c') ∧ Own w0 w' (cellsA rb #[.int .i64 kd, .int .i64 (B : Int), .int .i64 D, .int .i64 1, .int .i64 t, .int .i64 x, .int .i64 n, .int .i64 h, .bool got, .bool full] 68 :: cellsA zb #[.int .i64 0, .int .i64 0, .int .i64 0, .int .i64 0, .int .i64 0, .int .i64 0, .int .i64 0, .int .i64 0, .bool false, .bool false] 68 :: mRow (.slice ao' (ms.set (B + 1) (wrap64 (t - 1))).length c') (ms.set (B + 1) (wrap64 (t - 1))) :: l))) := Lib.hid (fun w1 rb zb h' => by
    refine (rwith (k := (B + 1)) (h'.pm pm3) (by omega) (by omega) (wrap64 (t - 1)) _ rfl).mono ?_
    rintro e w' ⟨ao', c', he, hw⟩
    exact ⟨ao', c', he, hw.pm pm3'⟩)
  clear h1 hO
  go_enter Try.func54, Try.ntmps54
  go_upto_region 5 with fail
  generalize (w.alloc (.cells #[.int .i64 kd, .int .i64 (B : Int), .int .i64 D, .int .i64 1, .int .i64 t, .int .i64 x, .int .i64 n, .int .i64 h, .bool got, .bool full] 68)).alloc (.cells #[.int .i64 0, .int .i64 0, .int .i64 0, .int .i64 0, .int .i64 0, .int .i64 0, .int .i64 0, .int .i64 0, .bool false, .bool false] 68) = u at *
  generalize w.heap.size + 1 = zb at *
  generalize w.heap.size = rb at *
  have hcur := h2
  clear h2
  replace RW := Lib.hid (fun w1 => RW.out w1 rb zb)
  have hOa := hcur.drewN 1
  have hS0 := (show (fun w' : World => w'.cell? ⟨rb, 0, none⟩ = some (.int .i64 kd) ∧ w'.cell? ⟨rb, 1, none⟩ = some (.int .i64 (B : Int)) ∧ w'.cell? ⟨rb, 2, none⟩ = some (.int .i64 D) ∧ w'.cell? ⟨rb, 3, none⟩ = some (.int .i64 1) ∧ w'.cell? ⟨rb, 4, none⟩ = some (.int .i64 t) ∧ w'.cell? ⟨rb, 5, none⟩ = some (.int .i64 x) ∧ w'.cell? ⟨rb, 6, none⟩ = some (.int .i64 n) ∧ w'.cell? ⟨rb, 7, none⟩ = some (.int .i64 h) ∧ w'.cell? ⟨rb, 8, none⟩ = some (.bool got) ∧ w'.cell? ⟨rb, 9, none⟩ = some (.bool full)) _ from get10a hOa)
  clear hcur
  refine lin_start (S := (fun w' : World => w'.cell? ⟨rb, 0, none⟩ = some (.int .i64 kd) ∧ w'.cell? ⟨rb, 1, none⟩ = some (.int .i64 (B : Int)) ∧ w'.cell? ⟨rb, 2, none⟩ = some (.int .i64 D) ∧ w'.cell? ⟨rb, 3, none⟩ = some (.int .i64 1) ∧ w'.cell? ⟨rb, 4, none⟩ = some (.int .i64 t) ∧ w'.cell? ⟨rb, 5, none⟩ = some (.int .i64 x) ∧ w'.cell? ⟨rb, 6, none⟩ = some (.int .i64 n) ∧ w'.cell? ⟨rb, 7, none⟩ = some (.int .i64 h) ∧ w'.cell? ⟨rb, 8, none⟩ = some (.bool got) ∧ w'.cell? ⟨rb, 9, none⟩ = some (.bool full))) rfl 11 rfl hS0 ?_
  simp only [numbered, Nat.zero_add, Nat.reduceAdd]
  refine lin_take (v := ?_) (by kernel_rfl) (by kernel_rfl) (fun _ _ _ h => h) (Or.inl ⟨by rfl, ?_⟩) (by assumption) ?_; (rotate_left; (intro wS hSw; (try dsimp only at hSw); (try go_simp); (try with_reducible rfl)); rotate_left); simp only [Act.put, List.setIfInBounds_toArray, List.set_cons_zero, List.set_cons_succ]
  refine lin_take (v := ?_) (by kernel_rfl) (by kernel_rfl) (fun _ _ _ h => h) (Or.inl ⟨by rfl, ?_⟩) (by assumption) ?_; (rotate_left; (intro wS hSw; (try dsimp only at hSw); (try go_simp); (try with_reducible rfl)); rotate_left); simp only [Act.put, List.setIfInBounds_toArray, List.set_cons_zero, List.set_cons_succ]
  refine lin_take (v := ?_) (by kernel_rfl) (by kernel_rfl) (fun _ _ _ h => h) (Or.inl ⟨by rfl, ?_⟩) (by assumption) ?_; (rotate_left; (intro wS hSw; (try dsimp only at hSw); (try go_simp); (try with_reducible rfl)); rotate_left); simp only [Act.put, List.setIfInBounds_toArray, List.set_cons_zero, List.set_cons_succ]
  refine lin_take (v := ?_) (by kernel_rfl) (by kernel_rfl) (fun _ _ _ h => h) (Or.inl ⟨by rfl, ?_⟩) (by assumption) ?_; (rotate_left; (intro wS hSw; (try dsimp only at hSw); (try go_simp); (try with_reducible rfl)); rotate_left); simp only [Act.put, List.setIfInBounds_toArray, List.set_cons_zero, List.set_cons_succ]
  refine lin_take (v := ?_) (by kernel_rfl) (by kernel_rfl) (fun _ _ _ h => h) (Or.inl ⟨by rfl, ?_⟩) (by assumption) ?_; (rotate_left; (intro wS hSw; (try dsimp only at hSw); (try go_simp); (try with_reducible rfl)); rotate_left); simp only [Act.put, List.setIfInBounds_toArray, List.set_cons_zero, List.set_cons_succ]
  refine lin_take (v := ?_) (by kernel_rfl) (by kernel_rfl) (fun _ _ _ h => h) (Or.inl ⟨by rfl, ?_⟩) (by assumption) ?_; (rotate_left; (intro wS hSw; (try dsimp only at hSw); (try go_simp); (try with_reducible rfl)); rotate_left); simp only [Act.put, List.setIfInBounds_toArray, List.set_cons_zero, List.set_cons_succ]
  refine lin_take (v := ?_) (by kernel_rfl) (by kernel_rfl) (fun _ _ _ h => h) (Or.inl ⟨by rfl, ?_⟩) (by assumption) ?_; (rotate_left; (intro wS hSw; (try dsimp only at hSw); (try go_simp); (try with_reducible rfl)); rotate_left); simp only [Act.put, List.setIfInBounds_toArray, List.set_cons_zero, List.set_cons_succ]
  refine lin_take (v := ?_) (by kernel_rfl) (by kernel_rfl) (fun _ _ _ h => h) (Or.inl ⟨by rfl, ?_⟩) (by assumption) ?_; (rotate_left; (intro wS hSw; (try dsimp only at hSw); (try go_simp); (try with_reducible rfl)); rotate_left); simp only [Act.put, List.setIfInBounds_toArray, List.set_cons_zero, List.set_cons_succ]
  refine lin_sole (by kernel_rfl) (fun K hK => ?_)
  go_simp
  refine (RW.out _ hOa).mono ?_
  rintro e w6 ⟨ao2, c2, rfl, h7⟩
  refine hK.out _ _ (get10a h7) (fun hHeld => ?_)
  try simp only [Act.put, List.setIfInBounds_toArray, List.set_cons_zero, List.set_cons_succ]
  clear hK
  obtain ⟨z0, z1, z2, z3, z4, z5, z6, z7, z8, z9⟩ := get10 h7
  obtain ⟨f0, f1, f2, f3, f4, f5, f6, f7, f8, f9⟩ := get10f h7
  have y0 : w6.drew.cell? ⟨zb, 0, none⟩ = _ := z0
  have y1 : w6.drew.cell? ⟨zb, 1, none⟩ = _ := z1
  have y2 : w6.drew.cell? ⟨zb, 2, none⟩ = _ := z2
  have y3 : w6.drew.cell? ⟨zb, 3, none⟩ = _ := z3
  have y4 : w6.drew.cell? ⟨zb, 4, none⟩ = _ := z4
  have y5 : w6.drew.cell? ⟨zb, 5, none⟩ = _ := z5
  have y6 : w6.drew.cell? ⟨zb, 6, none⟩ = _ := z6
  have y7 : w6.drew.cell? ⟨zb, 7, none⟩ = _ := z7
  have y8 : w6.drew.cell? ⟨zb, 8, none⟩ = _ := z8
  have y9 : w6.drew.cell? ⟨zb, 9, none⟩ = _ := z9
  have g0 : w6.drew.frozen? ⟨zb, 0, none⟩ = false := f0
  have g1 : w6.drew.frozen? ⟨zb, 1, none⟩ = false := f1
  have g2 : w6.drew.frozen? ⟨zb, 2, none⟩ = false := f2
  have g3 : w6.drew.frozen? ⟨zb, 3, none⟩ = false := f3
  have g4 : w6.drew.frozen? ⟨zb, 4, none⟩ = false := f4
  have g5 : w6.drew.frozen? ⟨zb, 5, none⟩ = false := f5
  have g6 : w6.drew.frozen? ⟨zb, 6, none⟩ = false := f6
  have g7 : w6.drew.frozen? ⟨zb, 7, none⟩ = false := f7
  have g8 : w6.drew.frozen? ⟨zb, 8, none⟩ = false := f8
  have g9 : w6.drew.frozen? ⟨zb, 9, none⟩ = false := f9
  have hF := set10 h7 (.int .i64 kd) (.int .i64 (B : Int)) (.int .i64 D) (.int .i64 1) (.int .i64 t) (.int .i64 x) (.int .i64 n) (.int .i64 h) (.bool got) (.bool full)
  refine lin_sole (by kernel_rfl) (fun K hK => ?_)
  go_simp
  refine hK.out _ _ (get10a hF) (fun hHeld => ?_)
  try simp only [Act.put, List.setIfInBounds_toArray, List.set_cons_zero, List.set_cons_succ]
  clear hK
  refine lin_take (v := ?_) (by kernel_rfl) (by kernel_rfl) (fun _ _ _ h => h) (Or.inl ⟨by rfl, ?_⟩) (by assumption) ?_; (rotate_left; (intro wS hSw; (try dsimp only at hSw); (try go_simp); (try with_reducible rfl)); rotate_left); simp only [Act.put, List.setIfInBounds_toArray, List.set_cons_zero, List.set_cons_succ]
  refine lin_done (by kernel_rfl) ?_
  replace hF := Lib.hid hF
  clear z0 f0 y0 g0 z1 f1 y1 g1 z2 f2 y2 g2 z3 f3 y3 g3 z4 f4 y4 g4 z5 f5 y5 g5 z6 f6 y6 g6 z7 f7 y7 g7 z8 f8 y8 g8 z9 f9 y9 g9 h7 hS0 hOa
  go_wp2_with fail
  replace hF := hF.out
  obtain ⟨z0, z1, z2, z3, z4, z5, z6, z7, z8, z9⟩ := get10 hF
  generalize (((((((((w6.setCell ⟨zb, 0, none⟩ (.int .i64 kd)).setCell ⟨zb, 1, none⟩ (.int .i64 (B : Int))).setCell ⟨zb, 2, none⟩ (.int .i64 D)).setCell ⟨zb, 3, none⟩ (.int .i64 1)).setCell ⟨zb, 4, none⟩ (.int .i64 t)).setCell ⟨zb, 5, none⟩ (.int .i64 x)).setCell ⟨zb, 6, none⟩ (.int .i64 n)).setCell ⟨zb, 7, none⟩ (.int .i64 h)).setCell ⟨zb, 8, none⟩ (.bool got)).setCell ⟨zb, 9, none⟩ (.bool full) = u3 at *
  have hEnd := hF.sub (.cons _ (.cons _ (List.Sublist.refl _)))
  exact bodyPost_ret (v := .tuple #[.agg #[.int .i64 kd, .int .i64 (B : Int), .int .i64 D, .int .i64 1, .int .i64 t, .int .i64 x, .int .i64 n, .int .i64 h, .bool got, .bool full], .slice ao2 (ms.set (B + 1) (wrap64 (t - 1))).length c2]) (by simp [results, Try.results54, go_sem, z0, z1, z2, z3, z4, z5, z6, z7, z8, z9]) rfl ⟨ao2, c2, rfl, hEnd⟩
theorem rs15 {B : Nat} {D : Int} {ms : List Int} (hr : (B : Int) + 4 + D ≤ ms.length ∧ ms.length ≤ 100000) (hD : 2 ≤ D ∧ D ≤ 256) {w0 w : World} {mo : Option Addr} {mc : Nat} {l : List Ast} (hO : Own w0 w (mRow (.slice mo ms.length mc) ms :: l)) (kd t x n h : Int) (got full : Bool) :
    Calls Try.prog 54 #[.agg #[.int .i64 kd, .int .i64 (B : Int), .int .i64 D, .int .i64 5, .int .i64 t, .int .i64 x, .int .i64 n, .int .i64 h, .bool got, .bool full], .slice mo ms.length mc] w fun e w' => ∃ ao' c', e = .returned (.tuple #[.agg #[.int .i64 kd, .int .i64 (B : Int), .int .i64 D, .int .i64 6, .int .i64 t, .int .i64 x, .int .i64 n, .int .i64 h, .bool got, .bool full], .slice ao' (ms.set (B + 1) (wrap64 (t - 1))).length c']) ∧ Own w0 w' (mRow (.slice ao' (ms.set (B + 1) (wrap64 (t - 1))).length c') (ms.set (B + 1) (wrap64 (t - 1))) :: l) := by
  have h1 := (hO.box #[.int .i64 kd, .int .i64 (B : Int), .int .i64 D, .int .i64 6, .int .i64 t, .int .i64 x, .int .i64 n, .int .i64 h, .bool got, .bool full] 68).box #[.int .i64 0, .int .i64 0, .int .i64 0, .int .i64 0, .int .i64 0, .int .i64 0, .int .i64 0, .int .i64 0, .bool false, .bool false] 68
  rw [alloc_sz] at h1
  have h2 : Own w0 ((w.alloc (.cells #[.int .i64 kd, .int .i64 (B : Int), .int .i64 D, .int .i64 6, .int .i64 t, .int .i64 x, .int .i64 n, .int .i64 h, .bool got, .bool full] 68)).alloc (.cells #[.int .i64 0, .int .i64 0, .int .i64 0, .int .i64 0, .int .i64 0, .int .i64 0, .int .i64 0, .int .i64 0, .bool false, .bool false] 68)) (cellsA w.heap.size #[.int .i64 kd, .int .i64 (B : Int), .int .i64 D, .int .i64 6, .int .i64 t, .int .i64 x, .int .i64 n, .int .i64 h, .bool got, .bool full] 68 :: cellsA (w.heap.size + 1) #[.int .i64 0, .int .i64 0, .int .i64 0, .int .i64 0, .int .i64 0, .int .i64 0, .int .i64 0, .int .i64 0, .bool false, .bool false] 68 :: mRow (.slice mo ms.length mc) ms :: l) := h1.pm (by
    simp only [List.cons_append, List.append_assoc, List.nil_append]
    exact (List.perm_append_comm (l₁ := mRow (.slice mo ms.length mc) ms :: l) (l₂ := [_, _])))
  have eb : IntKind.i64.wrap ((B : Int) + 1) = ((B + 1 : Nat) : Int) := (IntWalk.i64_in _ (by omega)).trans (by omega)
  have ew : IntKind.i64.wrap (t - 1) = wrap64 (t - 1) := IntWalk.i64_left _
  have RW : Hid (∀ (w1 : World) (rb zb : Nat), Own w0 w1 (cellsA rb #[.int .i64 kd, .int .i64 (B : Int), .int .i64 D, .int .i64 6, .int .i64 t, .int .i64 x, .int .i64 n, .int .i64 h, .bool got, .bool full] 68 :: cellsA zb #[.int .i64 0, .int .i64 0, .int .i64 0, .int .i64 0, .int .i64 0, .int .i64 0, .int .i64 0, .int .i64 0, .bool false, .bool false] 68 :: mRow (.slice mo ms.length mc) ms :: l) → Calls Try.prog 70 #[.slice mo ms.length mc, .int .i64 (((B + 1) : Nat) : Int), .int .i64 (wrap64 (t - 1))] w1 (fun e w' => ∃ ao' c', e = .returned (.slice ao' (ms.set (B + 1) (wrap64 (t - 1))).length c') ∧ Own w0 w' (cellsA rb #[.int .i64 kd, .int .i64 (B : Int), .int .i64 D, .int .i64 6, .int .i64 t, .int .i64 x, .int .i64 n, .int .i64 h, .bool got, .bool full] 68 :: cellsA zb #[.int .i64 0, .int .i64 0, .int .i64 0, .int .i64 0, .int .i64 0, .int .i64 0, .int .i64 0, .int .i64 0, .bool false, .bool false] 68 :: mRow (.slice ao' (ms.set (B + 1) (wrap64 (t - 1))).length c') (ms.set (B + 1) (wrap64 (t - 1))) :: l))) := Lib.hid (fun w1 rb zb h' => by
    refine (rwith (k := (B + 1)) (h'.pm pm3) (by omega) (by omega) (wrap64 (t - 1)) _ rfl).mono ?_
    rintro e w' ⟨ao', c', he, hw⟩
    exact ⟨ao', c', he, hw.pm pm3'⟩)
  clear h1 hO
  go_enter Try.func54, Try.ntmps54
  go_upto_region 5 with fail
  generalize (w.alloc (.cells #[.int .i64 kd, .int .i64 (B : Int), .int .i64 D, .int .i64 6, .int .i64 t, .int .i64 x, .int .i64 n, .int .i64 h, .bool got, .bool full] 68)).alloc (.cells #[.int .i64 0, .int .i64 0, .int .i64 0, .int .i64 0, .int .i64 0, .int .i64 0, .int .i64 0, .int .i64 0, .bool false, .bool false] 68) = u at *
  generalize w.heap.size + 1 = zb at *
  generalize w.heap.size = rb at *
  have hcur := h2
  clear h2
  replace RW := Lib.hid (fun w1 => RW.out w1 rb zb)
  have hOa := hcur.drewN 1
  have hS0 := (show (fun w' : World => w'.cell? ⟨rb, 0, none⟩ = some (.int .i64 kd) ∧ w'.cell? ⟨rb, 1, none⟩ = some (.int .i64 (B : Int)) ∧ w'.cell? ⟨rb, 2, none⟩ = some (.int .i64 D) ∧ w'.cell? ⟨rb, 3, none⟩ = some (.int .i64 6) ∧ w'.cell? ⟨rb, 4, none⟩ = some (.int .i64 t) ∧ w'.cell? ⟨rb, 5, none⟩ = some (.int .i64 x) ∧ w'.cell? ⟨rb, 6, none⟩ = some (.int .i64 n) ∧ w'.cell? ⟨rb, 7, none⟩ = some (.int .i64 h) ∧ w'.cell? ⟨rb, 8, none⟩ = some (.bool got) ∧ w'.cell? ⟨rb, 9, none⟩ = some (.bool full)) _ from get10a hOa)
  clear hcur
  refine lin_start (S := (fun w' : World => w'.cell? ⟨rb, 0, none⟩ = some (.int .i64 kd) ∧ w'.cell? ⟨rb, 1, none⟩ = some (.int .i64 (B : Int)) ∧ w'.cell? ⟨rb, 2, none⟩ = some (.int .i64 D) ∧ w'.cell? ⟨rb, 3, none⟩ = some (.int .i64 6) ∧ w'.cell? ⟨rb, 4, none⟩ = some (.int .i64 t) ∧ w'.cell? ⟨rb, 5, none⟩ = some (.int .i64 x) ∧ w'.cell? ⟨rb, 6, none⟩ = some (.int .i64 n) ∧ w'.cell? ⟨rb, 7, none⟩ = some (.int .i64 h) ∧ w'.cell? ⟨rb, 8, none⟩ = some (.bool got) ∧ w'.cell? ⟨rb, 9, none⟩ = some (.bool full))) rfl 11 rfl hS0 ?_
  simp only [numbered, Nat.zero_add, Nat.reduceAdd]
  refine lin_take (v := ?_) (by kernel_rfl) (by kernel_rfl) (fun _ _ _ h => h) (Or.inl ⟨by rfl, ?_⟩) (by assumption) ?_; (rotate_left; (intro wS hSw; (try dsimp only at hSw); (try go_simp); (try with_reducible rfl)); rotate_left); simp only [Act.put, List.setIfInBounds_toArray, List.set_cons_zero, List.set_cons_succ]
  refine lin_take (v := ?_) (by kernel_rfl) (by kernel_rfl) (fun _ _ _ h => h) (Or.inl ⟨by rfl, ?_⟩) (by assumption) ?_; (rotate_left; (intro wS hSw; (try dsimp only at hSw); (try go_simp); (try with_reducible rfl)); rotate_left); simp only [Act.put, List.setIfInBounds_toArray, List.set_cons_zero, List.set_cons_succ]
  refine lin_take (v := ?_) (by kernel_rfl) (by kernel_rfl) (fun _ _ _ h => h) (Or.inl ⟨by rfl, ?_⟩) (by assumption) ?_; (rotate_left; (intro wS hSw; (try dsimp only at hSw); (try go_simp); (try with_reducible rfl)); rotate_left); simp only [Act.put, List.setIfInBounds_toArray, List.set_cons_zero, List.set_cons_succ]
  refine lin_take (v := ?_) (by kernel_rfl) (by kernel_rfl) (fun _ _ _ h => h) (Or.inl ⟨by rfl, ?_⟩) (by assumption) ?_; (rotate_left; (intro wS hSw; (try dsimp only at hSw); (try go_simp); (try with_reducible rfl)); rotate_left); simp only [Act.put, List.setIfInBounds_toArray, List.set_cons_zero, List.set_cons_succ]
  refine lin_take (v := ?_) (by kernel_rfl) (by kernel_rfl) (fun _ _ _ h => h) (Or.inl ⟨by rfl, ?_⟩) (by assumption) ?_; (rotate_left; (intro wS hSw; (try dsimp only at hSw); (try go_simp); (try with_reducible rfl)); rotate_left); simp only [Act.put, List.setIfInBounds_toArray, List.set_cons_zero, List.set_cons_succ]
  refine lin_take (v := ?_) (by kernel_rfl) (by kernel_rfl) (fun _ _ _ h => h) (Or.inl ⟨by rfl, ?_⟩) (by assumption) ?_; (rotate_left; (intro wS hSw; (try dsimp only at hSw); (try go_simp); (try with_reducible rfl)); rotate_left); simp only [Act.put, List.setIfInBounds_toArray, List.set_cons_zero, List.set_cons_succ]
  refine lin_take (v := ?_) (by kernel_rfl) (by kernel_rfl) (fun _ _ _ h => h) (Or.inl ⟨by rfl, ?_⟩) (by assumption) ?_; (rotate_left; (intro wS hSw; (try dsimp only at hSw); (try go_simp); (try with_reducible rfl)); rotate_left); simp only [Act.put, List.setIfInBounds_toArray, List.set_cons_zero, List.set_cons_succ]
  refine lin_take (v := ?_) (by kernel_rfl) (by kernel_rfl) (fun _ _ _ h => h) (Or.inl ⟨by rfl, ?_⟩) (by assumption) ?_; (rotate_left; (intro wS hSw; (try dsimp only at hSw); (try go_simp); (try with_reducible rfl)); rotate_left); simp only [Act.put, List.setIfInBounds_toArray, List.set_cons_zero, List.set_cons_succ]
  refine lin_sole (by kernel_rfl) (fun K hK => ?_)
  go_simp
  refine (RW.out _ hOa).mono ?_
  rintro e w6 ⟨ao2, c2, rfl, h7⟩
  refine hK.out _ _ (get10a h7) (fun hHeld => ?_)
  try simp only [Act.put, List.setIfInBounds_toArray, List.set_cons_zero, List.set_cons_succ]
  clear hK
  obtain ⟨z0, z1, z2, z3, z4, z5, z6, z7, z8, z9⟩ := get10 h7
  obtain ⟨f0, f1, f2, f3, f4, f5, f6, f7, f8, f9⟩ := get10f h7
  have y0 : w6.drew.cell? ⟨zb, 0, none⟩ = _ := z0
  have y1 : w6.drew.cell? ⟨zb, 1, none⟩ = _ := z1
  have y2 : w6.drew.cell? ⟨zb, 2, none⟩ = _ := z2
  have y3 : w6.drew.cell? ⟨zb, 3, none⟩ = _ := z3
  have y4 : w6.drew.cell? ⟨zb, 4, none⟩ = _ := z4
  have y5 : w6.drew.cell? ⟨zb, 5, none⟩ = _ := z5
  have y6 : w6.drew.cell? ⟨zb, 6, none⟩ = _ := z6
  have y7 : w6.drew.cell? ⟨zb, 7, none⟩ = _ := z7
  have y8 : w6.drew.cell? ⟨zb, 8, none⟩ = _ := z8
  have y9 : w6.drew.cell? ⟨zb, 9, none⟩ = _ := z9
  have g0 : w6.drew.frozen? ⟨zb, 0, none⟩ = false := f0
  have g1 : w6.drew.frozen? ⟨zb, 1, none⟩ = false := f1
  have g2 : w6.drew.frozen? ⟨zb, 2, none⟩ = false := f2
  have g3 : w6.drew.frozen? ⟨zb, 3, none⟩ = false := f3
  have g4 : w6.drew.frozen? ⟨zb, 4, none⟩ = false := f4
  have g5 : w6.drew.frozen? ⟨zb, 5, none⟩ = false := f5
  have g6 : w6.drew.frozen? ⟨zb, 6, none⟩ = false := f6
  have g7 : w6.drew.frozen? ⟨zb, 7, none⟩ = false := f7
  have g8 : w6.drew.frozen? ⟨zb, 8, none⟩ = false := f8
  have g9 : w6.drew.frozen? ⟨zb, 9, none⟩ = false := f9
  have hF := set10 h7 (.int .i64 kd) (.int .i64 (B : Int)) (.int .i64 D) (.int .i64 6) (.int .i64 t) (.int .i64 x) (.int .i64 n) (.int .i64 h) (.bool got) (.bool full)
  refine lin_sole (by kernel_rfl) (fun K hK => ?_)
  go_simp
  refine hK.out _ _ (get10a hF) (fun hHeld => ?_)
  try simp only [Act.put, List.setIfInBounds_toArray, List.set_cons_zero, List.set_cons_succ]
  clear hK
  refine lin_take (v := ?_) (by kernel_rfl) (by kernel_rfl) (fun _ _ _ h => h) (Or.inl ⟨by rfl, ?_⟩) (by assumption) ?_; (rotate_left; (intro wS hSw; (try dsimp only at hSw); (try go_simp); (try with_reducible rfl)); rotate_left); simp only [Act.put, List.setIfInBounds_toArray, List.set_cons_zero, List.set_cons_succ]
  refine lin_done (by kernel_rfl) ?_
  replace hF := Lib.hid hF
  clear z0 f0 y0 g0 z1 f1 y1 g1 z2 f2 y2 g2 z3 f3 y3 g3 z4 f4 y4 g4 z5 f5 y5 g5 z6 f6 y6 g6 z7 f7 y7 g7 z8 f8 y8 g8 z9 f9 y9 g9 h7 hS0 hOa
  go_wp2_with fail
  replace hF := hF.out
  obtain ⟨z0, z1, z2, z3, z4, z5, z6, z7, z8, z9⟩ := get10 hF
  generalize (((((((((w6.setCell ⟨zb, 0, none⟩ (.int .i64 kd)).setCell ⟨zb, 1, none⟩ (.int .i64 (B : Int))).setCell ⟨zb, 2, none⟩ (.int .i64 D)).setCell ⟨zb, 3, none⟩ (.int .i64 6)).setCell ⟨zb, 4, none⟩ (.int .i64 t)).setCell ⟨zb, 5, none⟩ (.int .i64 x)).setCell ⟨zb, 6, none⟩ (.int .i64 n)).setCell ⟨zb, 7, none⟩ (.int .i64 h)).setCell ⟨zb, 8, none⟩ (.bool got)).setCell ⟨zb, 9, none⟩ (.bool full) = u3 at *
  have hEnd := hF.sub (.cons _ (.cons _ (List.Sublist.refl _)))
  exact bodyPost_ret (v := .tuple #[.agg #[.int .i64 kd, .int .i64 (B : Int), .int .i64 D, .int .i64 6, .int .i64 t, .int .i64 x, .int .i64 n, .int .i64 h, .bool got, .bool full], .slice ao2 (ms.set (B + 1) (wrap64 (t - 1))).length c2]) (by simp [results, Try.results54, go_sem, z0, z1, z2, z3, z4, z5, z6, z7, z8, z9]) rfl ⟨ao2, c2, rfl, hEnd⟩
theorem rs12 {B : Nat} {D : Int} {ms : List Int} (hr : (B : Int) + 4 + D ≤ ms.length ∧ ms.length ≤ 100000) (hD : 2 ≤ D ∧ D ≤ 256) {w0 w : World} {mo : Option Addr} {mc : Nat} {l : List Ast} (hO : Own w0 w (mRow (.slice mo ms.length mc) ms :: l)) (kd t x n h : Int) (got full : Bool) :
    Calls Try.prog 54 #[.agg #[.int .i64 kd, .int .i64 (B : Int), .int .i64 D, .int .i64 2, .int .i64 t, .int .i64 x, .int .i64 n, .int .i64 h, .bool got, .bool full], .slice mo ms.length mc] w fun e w' => ∃ ao' c', e = .returned (.tuple #[.agg #[.int .i64 kd, .int .i64 (B : Int), .int .i64 D, .int .i64 3, .int .i64 t, .int .i64 x, .int .i64 n, .int .i64 h, .bool got, .bool full], .slice ao' (ms.set (B + 1) t).length c']) ∧ Own w0 w' (mRow (.slice ao' (ms.set (B + 1) t).length c') (ms.set (B + 1) t) :: l) := by
  have h1 := (hO.box #[.int .i64 kd, .int .i64 (B : Int), .int .i64 D, .int .i64 3, .int .i64 t, .int .i64 x, .int .i64 n, .int .i64 h, .bool got, .bool full] 68).box #[.int .i64 0, .int .i64 0, .int .i64 0, .int .i64 0, .int .i64 0, .int .i64 0, .int .i64 0, .int .i64 0, .bool false, .bool false] 68
  rw [alloc_sz] at h1
  have h2 : Own w0 ((w.alloc (.cells #[.int .i64 kd, .int .i64 (B : Int), .int .i64 D, .int .i64 3, .int .i64 t, .int .i64 x, .int .i64 n, .int .i64 h, .bool got, .bool full] 68)).alloc (.cells #[.int .i64 0, .int .i64 0, .int .i64 0, .int .i64 0, .int .i64 0, .int .i64 0, .int .i64 0, .int .i64 0, .bool false, .bool false] 68)) (cellsA w.heap.size #[.int .i64 kd, .int .i64 (B : Int), .int .i64 D, .int .i64 3, .int .i64 t, .int .i64 x, .int .i64 n, .int .i64 h, .bool got, .bool full] 68 :: cellsA (w.heap.size + 1) #[.int .i64 0, .int .i64 0, .int .i64 0, .int .i64 0, .int .i64 0, .int .i64 0, .int .i64 0, .int .i64 0, .bool false, .bool false] 68 :: mRow (.slice mo ms.length mc) ms :: l) := h1.pm (by
    simp only [List.cons_append, List.append_assoc, List.nil_append]
    exact (List.perm_append_comm (l₁ := mRow (.slice mo ms.length mc) ms :: l) (l₂ := [_, _])))
  have eb : IntKind.i64.wrap ((B : Int) + 1) = ((B + 1 : Nat) : Int) := (IntWalk.i64_in _ (by omega)).trans (by omega)
  have RW : Hid (∀ (w1 : World) (rb zb : Nat), Own w0 w1 (cellsA rb #[.int .i64 kd, .int .i64 (B : Int), .int .i64 D, .int .i64 3, .int .i64 t, .int .i64 x, .int .i64 n, .int .i64 h, .bool got, .bool full] 68 :: cellsA zb #[.int .i64 0, .int .i64 0, .int .i64 0, .int .i64 0, .int .i64 0, .int .i64 0, .int .i64 0, .int .i64 0, .bool false, .bool false] 68 :: mRow (.slice mo ms.length mc) ms :: l) → Calls Try.prog 70 #[.slice mo ms.length mc, .int .i64 (((B + 1) : Nat) : Int), .int .i64 t] w1 (fun e w' => ∃ ao' c', e = .returned (.slice ao' (ms.set (B + 1) t).length c') ∧ Own w0 w' (cellsA rb #[.int .i64 kd, .int .i64 (B : Int), .int .i64 D, .int .i64 3, .int .i64 t, .int .i64 x, .int .i64 n, .int .i64 h, .bool got, .bool full] 68 :: cellsA zb #[.int .i64 0, .int .i64 0, .int .i64 0, .int .i64 0, .int .i64 0, .int .i64 0, .int .i64 0, .int .i64 0, .bool false, .bool false] 68 :: mRow (.slice ao' (ms.set (B + 1) t).length c') (ms.set (B + 1) t) :: l))) := Lib.hid (fun w1 rb zb h' => by
    refine (rwith (k := (B + 1)) (h'.pm pm3) (by omega) (by omega) t _ rfl).mono ?_
    rintro e w' ⟨ao', c', he, hw⟩
    exact ⟨ao', c', he, hw.pm pm3'⟩)
  clear h1 hO
  go_enter Try.func54, Try.ntmps54
  go_upto_region 13 with fail
  generalize (w.alloc (.cells #[.int .i64 kd, .int .i64 (B : Int), .int .i64 D, .int .i64 3, .int .i64 t, .int .i64 x, .int .i64 n, .int .i64 h, .bool got, .bool full] 68)).alloc (.cells #[.int .i64 0, .int .i64 0, .int .i64 0, .int .i64 0, .int .i64 0, .int .i64 0, .int .i64 0, .int .i64 0, .bool false, .bool false] 68) = u at *
  generalize w.heap.size + 1 = zb at *
  generalize w.heap.size = rb at *
  have hcur := h2
  clear h2
  replace RW := Lib.hid (fun w1 => RW.out w1 rb zb)
  have hOa := hcur.drewN 1
  have hS0 := (show (fun w' : World => w'.cell? ⟨rb, 0, none⟩ = some (.int .i64 kd) ∧ w'.cell? ⟨rb, 1, none⟩ = some (.int .i64 (B : Int)) ∧ w'.cell? ⟨rb, 2, none⟩ = some (.int .i64 D) ∧ w'.cell? ⟨rb, 3, none⟩ = some (.int .i64 3) ∧ w'.cell? ⟨rb, 4, none⟩ = some (.int .i64 t) ∧ w'.cell? ⟨rb, 5, none⟩ = some (.int .i64 x) ∧ w'.cell? ⟨rb, 6, none⟩ = some (.int .i64 n) ∧ w'.cell? ⟨rb, 7, none⟩ = some (.int .i64 h) ∧ w'.cell? ⟨rb, 8, none⟩ = some (.bool got) ∧ w'.cell? ⟨rb, 9, none⟩ = some (.bool full)) _ from get10a hOa)
  clear hcur
  refine lin_start (S := (fun w' : World => w'.cell? ⟨rb, 0, none⟩ = some (.int .i64 kd) ∧ w'.cell? ⟨rb, 1, none⟩ = some (.int .i64 (B : Int)) ∧ w'.cell? ⟨rb, 2, none⟩ = some (.int .i64 D) ∧ w'.cell? ⟨rb, 3, none⟩ = some (.int .i64 3) ∧ w'.cell? ⟨rb, 4, none⟩ = some (.int .i64 t) ∧ w'.cell? ⟨rb, 5, none⟩ = some (.int .i64 x) ∧ w'.cell? ⟨rb, 6, none⟩ = some (.int .i64 n) ∧ w'.cell? ⟨rb, 7, none⟩ = some (.int .i64 h) ∧ w'.cell? ⟨rb, 8, none⟩ = some (.bool got) ∧ w'.cell? ⟨rb, 9, none⟩ = some (.bool full))) rfl 10 rfl hS0 ?_
  simp only [numbered, Nat.zero_add, Nat.reduceAdd]
  refine lin_take (v := ?_) (by kernel_rfl) (by kernel_rfl) (fun _ _ _ h => h) (Or.inl ⟨by rfl, ?_⟩) (by assumption) ?_; (rotate_left; (intro wS hSw; (try dsimp only at hSw); (try go_simp); (try with_reducible rfl)); rotate_left); simp only [Act.put, List.setIfInBounds_toArray, List.set_cons_zero, List.set_cons_succ]
  refine lin_take (v := ?_) (by kernel_rfl) (by kernel_rfl) (fun _ _ _ h => h) (Or.inl ⟨by rfl, ?_⟩) (by assumption) ?_; (rotate_left; (intro wS hSw; (try dsimp only at hSw); (try go_simp); (try with_reducible rfl)); rotate_left); simp only [Act.put, List.setIfInBounds_toArray, List.set_cons_zero, List.set_cons_succ]
  refine lin_take (v := ?_) (by kernel_rfl) (by kernel_rfl) (fun _ _ _ h => h) (Or.inl ⟨by rfl, ?_⟩) (by assumption) ?_; (rotate_left; (intro wS hSw; (try dsimp only at hSw); (try go_simp); (try with_reducible rfl)); rotate_left); simp only [Act.put, List.setIfInBounds_toArray, List.set_cons_zero, List.set_cons_succ]
  refine lin_take (v := ?_) (by kernel_rfl) (by kernel_rfl) (fun _ _ _ h => h) (Or.inl ⟨by rfl, ?_⟩) (by assumption) ?_; (rotate_left; (intro wS hSw; (try dsimp only at hSw); (try go_simp); (try with_reducible rfl)); rotate_left); simp only [Act.put, List.setIfInBounds_toArray, List.set_cons_zero, List.set_cons_succ]
  refine lin_take (v := ?_) (by kernel_rfl) (by kernel_rfl) (fun _ _ _ h => h) (Or.inl ⟨by rfl, ?_⟩) (by assumption) ?_; (rotate_left; (intro wS hSw; (try dsimp only at hSw); (try go_simp); (try with_reducible rfl)); rotate_left); simp only [Act.put, List.setIfInBounds_toArray, List.set_cons_zero, List.set_cons_succ]
  refine lin_take (v := ?_) (by kernel_rfl) (by kernel_rfl) (fun _ _ _ h => h) (Or.inl ⟨by rfl, ?_⟩) (by assumption) ?_; (rotate_left; (intro wS hSw; (try dsimp only at hSw); (try go_simp); (try with_reducible rfl)); rotate_left); simp only [Act.put, List.setIfInBounds_toArray, List.set_cons_zero, List.set_cons_succ]
  refine lin_take (v := ?_) (by kernel_rfl) (by kernel_rfl) (fun _ _ _ h => h) (Or.inl ⟨by rfl, ?_⟩) (by assumption) ?_; (rotate_left; (intro wS hSw; (try dsimp only at hSw); (try go_simp); (try with_reducible rfl)); rotate_left); simp only [Act.put, List.setIfInBounds_toArray, List.set_cons_zero, List.set_cons_succ]
  refine lin_sole (by kernel_rfl) (fun K hK => ?_)
  go_simp
  refine (RW.out _ hOa).mono ?_
  rintro e w6 ⟨ao2, c2, rfl, h7⟩
  refine hK.out _ _ (get10a h7) (fun hHeld => ?_)
  try simp only [Act.put, List.setIfInBounds_toArray, List.set_cons_zero, List.set_cons_succ]
  clear hK
  obtain ⟨z0, z1, z2, z3, z4, z5, z6, z7, z8, z9⟩ := get10 h7
  obtain ⟨f0, f1, f2, f3, f4, f5, f6, f7, f8, f9⟩ := get10f h7
  have y0 : w6.drew.cell? ⟨zb, 0, none⟩ = _ := z0
  have y1 : w6.drew.cell? ⟨zb, 1, none⟩ = _ := z1
  have y2 : w6.drew.cell? ⟨zb, 2, none⟩ = _ := z2
  have y3 : w6.drew.cell? ⟨zb, 3, none⟩ = _ := z3
  have y4 : w6.drew.cell? ⟨zb, 4, none⟩ = _ := z4
  have y5 : w6.drew.cell? ⟨zb, 5, none⟩ = _ := z5
  have y6 : w6.drew.cell? ⟨zb, 6, none⟩ = _ := z6
  have y7 : w6.drew.cell? ⟨zb, 7, none⟩ = _ := z7
  have y8 : w6.drew.cell? ⟨zb, 8, none⟩ = _ := z8
  have y9 : w6.drew.cell? ⟨zb, 9, none⟩ = _ := z9
  have g0 : w6.drew.frozen? ⟨zb, 0, none⟩ = false := f0
  have g1 : w6.drew.frozen? ⟨zb, 1, none⟩ = false := f1
  have g2 : w6.drew.frozen? ⟨zb, 2, none⟩ = false := f2
  have g3 : w6.drew.frozen? ⟨zb, 3, none⟩ = false := f3
  have g4 : w6.drew.frozen? ⟨zb, 4, none⟩ = false := f4
  have g5 : w6.drew.frozen? ⟨zb, 5, none⟩ = false := f5
  have g6 : w6.drew.frozen? ⟨zb, 6, none⟩ = false := f6
  have g7 : w6.drew.frozen? ⟨zb, 7, none⟩ = false := f7
  have g8 : w6.drew.frozen? ⟨zb, 8, none⟩ = false := f8
  have g9 : w6.drew.frozen? ⟨zb, 9, none⟩ = false := f9
  have hF := set10 h7 (.int .i64 kd) (.int .i64 (B : Int)) (.int .i64 D) (.int .i64 3) (.int .i64 t) (.int .i64 x) (.int .i64 n) (.int .i64 h) (.bool got) (.bool full)
  refine lin_sole (by kernel_rfl) (fun K hK => ?_)
  go_simp
  refine hK.out _ _ (get10a hF) (fun hHeld => ?_)
  try simp only [Act.put, List.setIfInBounds_toArray, List.set_cons_zero, List.set_cons_succ]
  clear hK
  refine lin_take (v := ?_) (by kernel_rfl) (by kernel_rfl) (fun _ _ _ h => h) (Or.inl ⟨by rfl, ?_⟩) (by assumption) ?_; (rotate_left; (intro wS hSw; (try dsimp only at hSw); (try go_simp); (try with_reducible rfl)); rotate_left); simp only [Act.put, List.setIfInBounds_toArray, List.set_cons_zero, List.set_cons_succ]
  refine lin_done (by kernel_rfl) ?_
  replace hF := Lib.hid hF
  clear z0 f0 y0 g0 z1 f1 y1 g1 z2 f2 y2 g2 z3 f3 y3 g3 z4 f4 y4 g4 z5 f5 y5 g5 z6 f6 y6 g6 z7 f7 y7 g7 z8 f8 y8 g8 z9 f9 y9 g9 h7 hS0 hOa
  go_wp2_with fail
  replace hF := hF.out
  obtain ⟨z0, z1, z2, z3, z4, z5, z6, z7, z8, z9⟩ := get10 hF
  generalize (((((((((w6.setCell ⟨zb, 0, none⟩ (.int .i64 kd)).setCell ⟨zb, 1, none⟩ (.int .i64 (B : Int))).setCell ⟨zb, 2, none⟩ (.int .i64 D)).setCell ⟨zb, 3, none⟩ (.int .i64 3)).setCell ⟨zb, 4, none⟩ (.int .i64 t)).setCell ⟨zb, 5, none⟩ (.int .i64 x)).setCell ⟨zb, 6, none⟩ (.int .i64 n)).setCell ⟨zb, 7, none⟩ (.int .i64 h)).setCell ⟨zb, 8, none⟩ (.bool got)).setCell ⟨zb, 9, none⟩ (.bool full) = u3 at *
  have hEnd := hF.sub (.cons _ (.cons _ (List.Sublist.refl _)))
  exact bodyPost_ret (v := .tuple #[.agg #[.int .i64 kd, .int .i64 (B : Int), .int .i64 D, .int .i64 3, .int .i64 t, .int .i64 x, .int .i64 n, .int .i64 h, .bool got, .bool full], .slice ao2 (ms.set (B + 1) t).length c2]) (by simp [results, Try.results54, go_sem, z0, z1, z2, z3, z4, z5, z6, z7, z8, z9]) rfl ⟨ao2, c2, rfl, hEnd⟩
theorem rs17 {B : Nat} {D : Int} {ms : List Int} (hr : (B : Int) + 4 + D ≤ ms.length ∧ ms.length ≤ 100000) (hD : 2 ≤ D ∧ D ≤ 256) {w0 w : World} {mo : Option Addr} {mc : Nat} {l : List Ast} (hO : Own w0 w (mRow (.slice mo ms.length mc) ms :: l)) (kd t x n h : Int) (got full : Bool) :
    Calls Try.prog 54 #[.agg #[.int .i64 kd, .int .i64 (B : Int), .int .i64 D, .int .i64 7, .int .i64 t, .int .i64 x, .int .i64 n, .int .i64 h, .bool got, .bool full], .slice mo ms.length mc] w fun e w' => ∃ ao' c', e = .returned (.tuple #[.agg #[.int .i64 kd, .int .i64 (B : Int), .int .i64 D, .int .i64 10, .int .i64 t, .int .i64 x, .int .i64 n, .int .i64 h, .bool got, .bool full], .slice ao' (ms.set (B + 3) (wrap64 (n + 1))).length c']) ∧ Own w0 w' (mRow (.slice ao' (ms.set (B + 3) (wrap64 (n + 1))).length c') (ms.set (B + 3) (wrap64 (n + 1))) :: l) := by
  have h1 := (hO.box #[.int .i64 kd, .int .i64 (B : Int), .int .i64 D, .int .i64 10, .int .i64 t, .int .i64 x, .int .i64 n, .int .i64 h, .bool got, .bool full] 68).box #[.int .i64 0, .int .i64 0, .int .i64 0, .int .i64 0, .int .i64 0, .int .i64 0, .int .i64 0, .int .i64 0, .bool false, .bool false] 68
  rw [alloc_sz] at h1
  have h2 : Own w0 ((w.alloc (.cells #[.int .i64 kd, .int .i64 (B : Int), .int .i64 D, .int .i64 10, .int .i64 t, .int .i64 x, .int .i64 n, .int .i64 h, .bool got, .bool full] 68)).alloc (.cells #[.int .i64 0, .int .i64 0, .int .i64 0, .int .i64 0, .int .i64 0, .int .i64 0, .int .i64 0, .int .i64 0, .bool false, .bool false] 68)) (cellsA w.heap.size #[.int .i64 kd, .int .i64 (B : Int), .int .i64 D, .int .i64 10, .int .i64 t, .int .i64 x, .int .i64 n, .int .i64 h, .bool got, .bool full] 68 :: cellsA (w.heap.size + 1) #[.int .i64 0, .int .i64 0, .int .i64 0, .int .i64 0, .int .i64 0, .int .i64 0, .int .i64 0, .int .i64 0, .bool false, .bool false] 68 :: mRow (.slice mo ms.length mc) ms :: l) := h1.pm (by
    simp only [List.cons_append, List.append_assoc, List.nil_append]
    exact (List.perm_append_comm (l₁ := mRow (.slice mo ms.length mc) ms :: l) (l₂ := [_, _])))
  have eb : IntKind.i64.wrap ((B : Int) + 3) = ((B + 3 : Nat) : Int) := (IntWalk.i64_in _ (by omega)).trans (by omega)
  have ew : IntKind.i64.wrap (n + 1) = wrap64 (n + 1) := IntWalk.i64_left _
  have RW : Hid (∀ (w1 : World) (rb zb : Nat), Own w0 w1 (cellsA rb #[.int .i64 kd, .int .i64 (B : Int), .int .i64 D, .int .i64 10, .int .i64 t, .int .i64 x, .int .i64 n, .int .i64 h, .bool got, .bool full] 68 :: cellsA zb #[.int .i64 0, .int .i64 0, .int .i64 0, .int .i64 0, .int .i64 0, .int .i64 0, .int .i64 0, .int .i64 0, .bool false, .bool false] 68 :: mRow (.slice mo ms.length mc) ms :: l) → Calls Try.prog 70 #[.slice mo ms.length mc, .int .i64 (((B + 3) : Nat) : Int), .int .i64 (wrap64 (n + 1))] w1 (fun e w' => ∃ ao' c', e = .returned (.slice ao' (ms.set (B + 3) (wrap64 (n + 1))).length c') ∧ Own w0 w' (cellsA rb #[.int .i64 kd, .int .i64 (B : Int), .int .i64 D, .int .i64 10, .int .i64 t, .int .i64 x, .int .i64 n, .int .i64 h, .bool got, .bool full] 68 :: cellsA zb #[.int .i64 0, .int .i64 0, .int .i64 0, .int .i64 0, .int .i64 0, .int .i64 0, .int .i64 0, .int .i64 0, .bool false, .bool false] 68 :: mRow (.slice ao' (ms.set (B + 3) (wrap64 (n + 1))).length c') (ms.set (B + 3) (wrap64 (n + 1))) :: l))) := Lib.hid (fun w1 rb zb h' => by
    refine (rwith (k := (B + 3)) (h'.pm pm3) (by omega) (by omega) (wrap64 (n + 1)) _ rfl).mono ?_
    rintro e w' ⟨ao', c', he, hw⟩
    exact ⟨ao', c', he, hw.pm pm3'⟩)
  clear h1 hO
  go_enter Try.func54, Try.ntmps54
  go_upto_region 29 with fail
  generalize (w.alloc (.cells #[.int .i64 kd, .int .i64 (B : Int), .int .i64 D, .int .i64 10, .int .i64 t, .int .i64 x, .int .i64 n, .int .i64 h, .bool got, .bool full] 68)).alloc (.cells #[.int .i64 0, .int .i64 0, .int .i64 0, .int .i64 0, .int .i64 0, .int .i64 0, .int .i64 0, .int .i64 0, .bool false, .bool false] 68) = u at *
  generalize w.heap.size + 1 = zb at *
  generalize w.heap.size = rb at *
  have hcur := h2
  clear h2
  replace RW := Lib.hid (fun w1 => RW.out w1 rb zb)
  have hOa := hcur.drewN 1
  have hS0 := (show (fun w' : World => w'.cell? ⟨rb, 0, none⟩ = some (.int .i64 kd) ∧ w'.cell? ⟨rb, 1, none⟩ = some (.int .i64 (B : Int)) ∧ w'.cell? ⟨rb, 2, none⟩ = some (.int .i64 D) ∧ w'.cell? ⟨rb, 3, none⟩ = some (.int .i64 10) ∧ w'.cell? ⟨rb, 4, none⟩ = some (.int .i64 t) ∧ w'.cell? ⟨rb, 5, none⟩ = some (.int .i64 x) ∧ w'.cell? ⟨rb, 6, none⟩ = some (.int .i64 n) ∧ w'.cell? ⟨rb, 7, none⟩ = some (.int .i64 h) ∧ w'.cell? ⟨rb, 8, none⟩ = some (.bool got) ∧ w'.cell? ⟨rb, 9, none⟩ = some (.bool full)) _ from get10a hOa)
  clear hcur
  refine lin_start (S := (fun w' : World => w'.cell? ⟨rb, 0, none⟩ = some (.int .i64 kd) ∧ w'.cell? ⟨rb, 1, none⟩ = some (.int .i64 (B : Int)) ∧ w'.cell? ⟨rb, 2, none⟩ = some (.int .i64 D) ∧ w'.cell? ⟨rb, 3, none⟩ = some (.int .i64 10) ∧ w'.cell? ⟨rb, 4, none⟩ = some (.int .i64 t) ∧ w'.cell? ⟨rb, 5, none⟩ = some (.int .i64 x) ∧ w'.cell? ⟨rb, 6, none⟩ = some (.int .i64 n) ∧ w'.cell? ⟨rb, 7, none⟩ = some (.int .i64 h) ∧ w'.cell? ⟨rb, 8, none⟩ = some (.bool got) ∧ w'.cell? ⟨rb, 9, none⟩ = some (.bool full))) rfl 11 rfl hS0 ?_
  simp only [numbered, Nat.zero_add, Nat.reduceAdd]
  refine lin_take (v := ?_) (by kernel_rfl) (by kernel_rfl) (fun _ _ _ h => h) (Or.inl ⟨by rfl, ?_⟩) (by assumption) ?_; (rotate_left; (intro wS hSw; (try dsimp only at hSw); (try go_simp); (try with_reducible rfl)); rotate_left); simp only [Act.put, List.setIfInBounds_toArray, List.set_cons_zero, List.set_cons_succ]
  refine lin_take (v := ?_) (by kernel_rfl) (by kernel_rfl) (fun _ _ _ h => h) (Or.inl ⟨by rfl, ?_⟩) (by assumption) ?_; (rotate_left; (intro wS hSw; (try dsimp only at hSw); (try go_simp); (try with_reducible rfl)); rotate_left); simp only [Act.put, List.setIfInBounds_toArray, List.set_cons_zero, List.set_cons_succ]
  refine lin_take (v := ?_) (by kernel_rfl) (by kernel_rfl) (fun _ _ _ h => h) (Or.inl ⟨by rfl, ?_⟩) (by assumption) ?_; (rotate_left; (intro wS hSw; (try dsimp only at hSw); (try go_simp); (try with_reducible rfl)); rotate_left); simp only [Act.put, List.setIfInBounds_toArray, List.set_cons_zero, List.set_cons_succ]
  refine lin_take (v := ?_) (by kernel_rfl) (by kernel_rfl) (fun _ _ _ h => h) (Or.inl ⟨by rfl, ?_⟩) (by assumption) ?_; (rotate_left; (intro wS hSw; (try dsimp only at hSw); (try go_simp); (try with_reducible rfl)); rotate_left); simp only [Act.put, List.setIfInBounds_toArray, List.set_cons_zero, List.set_cons_succ]
  refine lin_take (v := ?_) (by kernel_rfl) (by kernel_rfl) (fun _ _ _ h => h) (Or.inl ⟨by rfl, ?_⟩) (by assumption) ?_; (rotate_left; (intro wS hSw; (try dsimp only at hSw); (try go_simp); (try with_reducible rfl)); rotate_left); simp only [Act.put, List.setIfInBounds_toArray, List.set_cons_zero, List.set_cons_succ]
  refine lin_take (v := ?_) (by kernel_rfl) (by kernel_rfl) (fun _ _ _ h => h) (Or.inl ⟨by rfl, ?_⟩) (by assumption) ?_; (rotate_left; (intro wS hSw; (try dsimp only at hSw); (try go_simp); (try with_reducible rfl)); rotate_left); simp only [Act.put, List.setIfInBounds_toArray, List.set_cons_zero, List.set_cons_succ]
  refine lin_take (v := ?_) (by kernel_rfl) (by kernel_rfl) (fun _ _ _ h => h) (Or.inl ⟨by rfl, ?_⟩) (by assumption) ?_; (rotate_left; (intro wS hSw; (try dsimp only at hSw); (try go_simp); (try with_reducible rfl)); rotate_left); simp only [Act.put, List.setIfInBounds_toArray, List.set_cons_zero, List.set_cons_succ]
  refine lin_take (v := ?_) (by kernel_rfl) (by kernel_rfl) (fun _ _ _ h => h) (Or.inl ⟨by rfl, ?_⟩) (by assumption) ?_; (rotate_left; (intro wS hSw; (try dsimp only at hSw); (try go_simp); (try with_reducible rfl)); rotate_left); simp only [Act.put, List.setIfInBounds_toArray, List.set_cons_zero, List.set_cons_succ]
  refine lin_sole (by kernel_rfl) (fun K hK => ?_)
  go_simp
  refine (RW.out _ hOa).mono ?_
  rintro e w6 ⟨ao2, c2, rfl, h7⟩
  refine hK.out _ _ (get10a h7) (fun hHeld => ?_)
  try simp only [Act.put, List.setIfInBounds_toArray, List.set_cons_zero, List.set_cons_succ]
  clear hK
  obtain ⟨z0, z1, z2, z3, z4, z5, z6, z7, z8, z9⟩ := get10 h7
  obtain ⟨f0, f1, f2, f3, f4, f5, f6, f7, f8, f9⟩ := get10f h7
  have y0 : w6.drew.cell? ⟨zb, 0, none⟩ = _ := z0
  have y1 : w6.drew.cell? ⟨zb, 1, none⟩ = _ := z1
  have y2 : w6.drew.cell? ⟨zb, 2, none⟩ = _ := z2
  have y3 : w6.drew.cell? ⟨zb, 3, none⟩ = _ := z3
  have y4 : w6.drew.cell? ⟨zb, 4, none⟩ = _ := z4
  have y5 : w6.drew.cell? ⟨zb, 5, none⟩ = _ := z5
  have y6 : w6.drew.cell? ⟨zb, 6, none⟩ = _ := z6
  have y7 : w6.drew.cell? ⟨zb, 7, none⟩ = _ := z7
  have y8 : w6.drew.cell? ⟨zb, 8, none⟩ = _ := z8
  have y9 : w6.drew.cell? ⟨zb, 9, none⟩ = _ := z9
  have g0 : w6.drew.frozen? ⟨zb, 0, none⟩ = false := f0
  have g1 : w6.drew.frozen? ⟨zb, 1, none⟩ = false := f1
  have g2 : w6.drew.frozen? ⟨zb, 2, none⟩ = false := f2
  have g3 : w6.drew.frozen? ⟨zb, 3, none⟩ = false := f3
  have g4 : w6.drew.frozen? ⟨zb, 4, none⟩ = false := f4
  have g5 : w6.drew.frozen? ⟨zb, 5, none⟩ = false := f5
  have g6 : w6.drew.frozen? ⟨zb, 6, none⟩ = false := f6
  have g7 : w6.drew.frozen? ⟨zb, 7, none⟩ = false := f7
  have g8 : w6.drew.frozen? ⟨zb, 8, none⟩ = false := f8
  have g9 : w6.drew.frozen? ⟨zb, 9, none⟩ = false := f9
  have hF := set10 h7 (.int .i64 kd) (.int .i64 (B : Int)) (.int .i64 D) (.int .i64 10) (.int .i64 t) (.int .i64 x) (.int .i64 n) (.int .i64 h) (.bool got) (.bool full)
  refine lin_sole (by kernel_rfl) (fun K hK => ?_)
  go_simp
  refine hK.out _ _ (get10a hF) (fun hHeld => ?_)
  try simp only [Act.put, List.setIfInBounds_toArray, List.set_cons_zero, List.set_cons_succ]
  clear hK
  refine lin_take (v := ?_) (by kernel_rfl) (by kernel_rfl) (fun _ _ _ h => h) (Or.inl ⟨by rfl, ?_⟩) (by assumption) ?_; (rotate_left; (intro wS hSw; (try dsimp only at hSw); (try go_simp); (try with_reducible rfl)); rotate_left); simp only [Act.put, List.setIfInBounds_toArray, List.set_cons_zero, List.set_cons_succ]
  refine lin_done (by kernel_rfl) ?_
  replace hF := Lib.hid hF
  clear z0 f0 y0 g0 z1 f1 y1 g1 z2 f2 y2 g2 z3 f3 y3 g3 z4 f4 y4 g4 z5 f5 y5 g5 z6 f6 y6 g6 z7 f7 y7 g7 z8 f8 y8 g8 z9 f9 y9 g9 h7 hS0 hOa
  go_wp2_with fail
  replace hF := hF.out
  obtain ⟨z0, z1, z2, z3, z4, z5, z6, z7, z8, z9⟩ := get10 hF
  generalize (((((((((w6.setCell ⟨zb, 0, none⟩ (.int .i64 kd)).setCell ⟨zb, 1, none⟩ (.int .i64 (B : Int))).setCell ⟨zb, 2, none⟩ (.int .i64 D)).setCell ⟨zb, 3, none⟩ (.int .i64 10)).setCell ⟨zb, 4, none⟩ (.int .i64 t)).setCell ⟨zb, 5, none⟩ (.int .i64 x)).setCell ⟨zb, 6, none⟩ (.int .i64 n)).setCell ⟨zb, 7, none⟩ (.int .i64 h)).setCell ⟨zb, 8, none⟩ (.bool got)).setCell ⟨zb, 9, none⟩ (.bool full) = u3 at *
  have hEnd := hF.sub (.cons _ (.cons _ (List.Sublist.refl _)))
  exact bodyPost_ret (v := .tuple #[.agg #[.int .i64 kd, .int .i64 (B : Int), .int .i64 D, .int .i64 10, .int .i64 t, .int .i64 x, .int .i64 n, .int .i64 h, .bool got, .bool full], .slice ao2 (ms.set (B + 3) (wrap64 (n + 1))).length c2]) (by simp [results, Try.results54, go_sem, z0, z1, z2, z3, z4, z5, z6, z7, z8, z9]) rfl ⟨ao2, c2, rfl, hEnd⟩
theorem rs18 {B : Nat} {D : Int} {ms : List Int} (hr : (B : Int) + 4 + D ≤ ms.length ∧ ms.length ≤ 100000) (hD : 2 ≤ D ∧ D ≤ 256) {w0 w : World} {mo : Option Addr} {mc : Nat} {l : List Ast} (hO : Own w0 w (mRow (.slice mo ms.length mc) ms :: l)) (kd t x n h : Int) (got full : Bool) :
    Calls Try.prog 54 #[.agg #[.int .i64 kd, .int .i64 (B : Int), .int .i64 D, .int .i64 8, .int .i64 t, .int .i64 x, .int .i64 n, .int .i64 h, .bool got, .bool full], .slice mo ms.length mc] w fun e w' => ∃ ao' c', e = .returned (.tuple #[.agg #[.int .i64 kd, .int .i64 (B : Int), .int .i64 D, .int .i64 9, .int .i64 t, .int .i64 x, .int .i64 n, .int .i64 h, .bool got, .bool full], .slice ao' (ms.set (B + 1) t).length c']) ∧ Own w0 w' (mRow (.slice ao' (ms.set (B + 1) t).length c') (ms.set (B + 1) t) :: l) := by
  have h1 := (hO.box #[.int .i64 kd, .int .i64 (B : Int), .int .i64 D, .int .i64 9, .int .i64 t, .int .i64 x, .int .i64 n, .int .i64 h, .bool got, .bool full] 68).box #[.int .i64 0, .int .i64 0, .int .i64 0, .int .i64 0, .int .i64 0, .int .i64 0, .int .i64 0, .int .i64 0, .bool false, .bool false] 68
  rw [alloc_sz] at h1
  have h2 : Own w0 ((w.alloc (.cells #[.int .i64 kd, .int .i64 (B : Int), .int .i64 D, .int .i64 9, .int .i64 t, .int .i64 x, .int .i64 n, .int .i64 h, .bool got, .bool full] 68)).alloc (.cells #[.int .i64 0, .int .i64 0, .int .i64 0, .int .i64 0, .int .i64 0, .int .i64 0, .int .i64 0, .int .i64 0, .bool false, .bool false] 68)) (cellsA w.heap.size #[.int .i64 kd, .int .i64 (B : Int), .int .i64 D, .int .i64 9, .int .i64 t, .int .i64 x, .int .i64 n, .int .i64 h, .bool got, .bool full] 68 :: cellsA (w.heap.size + 1) #[.int .i64 0, .int .i64 0, .int .i64 0, .int .i64 0, .int .i64 0, .int .i64 0, .int .i64 0, .int .i64 0, .bool false, .bool false] 68 :: mRow (.slice mo ms.length mc) ms :: l) := h1.pm (by
    simp only [List.cons_append, List.append_assoc, List.nil_append]
    exact (List.perm_append_comm (l₁ := mRow (.slice mo ms.length mc) ms :: l) (l₂ := [_, _])))
  have eb : IntKind.i64.wrap ((B : Int) + 1) = ((B + 1 : Nat) : Int) := (IntWalk.i64_in _ (by omega)).trans (by omega)
  have RW : Hid (∀ (w1 : World) (rb zb : Nat), Own w0 w1 (cellsA rb #[.int .i64 kd, .int .i64 (B : Int), .int .i64 D, .int .i64 9, .int .i64 t, .int .i64 x, .int .i64 n, .int .i64 h, .bool got, .bool full] 68 :: cellsA zb #[.int .i64 0, .int .i64 0, .int .i64 0, .int .i64 0, .int .i64 0, .int .i64 0, .int .i64 0, .int .i64 0, .bool false, .bool false] 68 :: mRow (.slice mo ms.length mc) ms :: l) → Calls Try.prog 70 #[.slice mo ms.length mc, .int .i64 (((B + 1) : Nat) : Int), .int .i64 t] w1 (fun e w' => ∃ ao' c', e = .returned (.slice ao' (ms.set (B + 1) t).length c') ∧ Own w0 w' (cellsA rb #[.int .i64 kd, .int .i64 (B : Int), .int .i64 D, .int .i64 9, .int .i64 t, .int .i64 x, .int .i64 n, .int .i64 h, .bool got, .bool full] 68 :: cellsA zb #[.int .i64 0, .int .i64 0, .int .i64 0, .int .i64 0, .int .i64 0, .int .i64 0, .int .i64 0, .int .i64 0, .bool false, .bool false] 68 :: mRow (.slice ao' (ms.set (B + 1) t).length c') (ms.set (B + 1) t) :: l))) := Lib.hid (fun w1 rb zb h' => by
    refine (rwith (k := (B + 1)) (h'.pm pm3) (by omega) (by omega) t _ rfl).mono ?_
    rintro e w' ⟨ao', c', he, hw⟩
    exact ⟨ao', c', he, hw.pm pm3'⟩)
  clear h1 hO
  go_enter Try.func54, Try.ntmps54
  go_upto_region 32 with fail
  generalize (w.alloc (.cells #[.int .i64 kd, .int .i64 (B : Int), .int .i64 D, .int .i64 9, .int .i64 t, .int .i64 x, .int .i64 n, .int .i64 h, .bool got, .bool full] 68)).alloc (.cells #[.int .i64 0, .int .i64 0, .int .i64 0, .int .i64 0, .int .i64 0, .int .i64 0, .int .i64 0, .int .i64 0, .bool false, .bool false] 68) = u at *
  generalize w.heap.size + 1 = zb at *
  generalize w.heap.size = rb at *
  have hcur := h2
  clear h2
  replace RW := Lib.hid (fun w1 => RW.out w1 rb zb)
  have hOa := hcur.drewN 1
  have hS0 := (show (fun w' : World => w'.cell? ⟨rb, 0, none⟩ = some (.int .i64 kd) ∧ w'.cell? ⟨rb, 1, none⟩ = some (.int .i64 (B : Int)) ∧ w'.cell? ⟨rb, 2, none⟩ = some (.int .i64 D) ∧ w'.cell? ⟨rb, 3, none⟩ = some (.int .i64 9) ∧ w'.cell? ⟨rb, 4, none⟩ = some (.int .i64 t) ∧ w'.cell? ⟨rb, 5, none⟩ = some (.int .i64 x) ∧ w'.cell? ⟨rb, 6, none⟩ = some (.int .i64 n) ∧ w'.cell? ⟨rb, 7, none⟩ = some (.int .i64 h) ∧ w'.cell? ⟨rb, 8, none⟩ = some (.bool got) ∧ w'.cell? ⟨rb, 9, none⟩ = some (.bool full)) _ from get10a hOa)
  clear hcur
  refine lin_start (S := (fun w' : World => w'.cell? ⟨rb, 0, none⟩ = some (.int .i64 kd) ∧ w'.cell? ⟨rb, 1, none⟩ = some (.int .i64 (B : Int)) ∧ w'.cell? ⟨rb, 2, none⟩ = some (.int .i64 D) ∧ w'.cell? ⟨rb, 3, none⟩ = some (.int .i64 9) ∧ w'.cell? ⟨rb, 4, none⟩ = some (.int .i64 t) ∧ w'.cell? ⟨rb, 5, none⟩ = some (.int .i64 x) ∧ w'.cell? ⟨rb, 6, none⟩ = some (.int .i64 n) ∧ w'.cell? ⟨rb, 7, none⟩ = some (.int .i64 h) ∧ w'.cell? ⟨rb, 8, none⟩ = some (.bool got) ∧ w'.cell? ⟨rb, 9, none⟩ = some (.bool full))) rfl 10 rfl hS0 ?_
  simp only [numbered, Nat.zero_add, Nat.reduceAdd]
  refine lin_take (v := ?_) (by kernel_rfl) (by kernel_rfl) (fun _ _ _ h => h) (Or.inl ⟨by rfl, ?_⟩) (by assumption) ?_; (rotate_left; (intro wS hSw; (try dsimp only at hSw); (try go_simp); (try with_reducible rfl)); rotate_left); simp only [Act.put, List.setIfInBounds_toArray, List.set_cons_zero, List.set_cons_succ]
  refine lin_take (v := ?_) (by kernel_rfl) (by kernel_rfl) (fun _ _ _ h => h) (Or.inl ⟨by rfl, ?_⟩) (by assumption) ?_; (rotate_left; (intro wS hSw; (try dsimp only at hSw); (try go_simp); (try with_reducible rfl)); rotate_left); simp only [Act.put, List.setIfInBounds_toArray, List.set_cons_zero, List.set_cons_succ]
  refine lin_take (v := ?_) (by kernel_rfl) (by kernel_rfl) (fun _ _ _ h => h) (Or.inl ⟨by rfl, ?_⟩) (by assumption) ?_; (rotate_left; (intro wS hSw; (try dsimp only at hSw); (try go_simp); (try with_reducible rfl)); rotate_left); simp only [Act.put, List.setIfInBounds_toArray, List.set_cons_zero, List.set_cons_succ]
  refine lin_take (v := ?_) (by kernel_rfl) (by kernel_rfl) (fun _ _ _ h => h) (Or.inl ⟨by rfl, ?_⟩) (by assumption) ?_; (rotate_left; (intro wS hSw; (try dsimp only at hSw); (try go_simp); (try with_reducible rfl)); rotate_left); simp only [Act.put, List.setIfInBounds_toArray, List.set_cons_zero, List.set_cons_succ]
  refine lin_take (v := ?_) (by kernel_rfl) (by kernel_rfl) (fun _ _ _ h => h) (Or.inl ⟨by rfl, ?_⟩) (by assumption) ?_; (rotate_left; (intro wS hSw; (try dsimp only at hSw); (try go_simp); (try with_reducible rfl)); rotate_left); simp only [Act.put, List.setIfInBounds_toArray, List.set_cons_zero, List.set_cons_succ]
  refine lin_take (v := ?_) (by kernel_rfl) (by kernel_rfl) (fun _ _ _ h => h) (Or.inl ⟨by rfl, ?_⟩) (by assumption) ?_; (rotate_left; (intro wS hSw; (try dsimp only at hSw); (try go_simp); (try with_reducible rfl)); rotate_left); simp only [Act.put, List.setIfInBounds_toArray, List.set_cons_zero, List.set_cons_succ]
  refine lin_take (v := ?_) (by kernel_rfl) (by kernel_rfl) (fun _ _ _ h => h) (Or.inl ⟨by rfl, ?_⟩) (by assumption) ?_; (rotate_left; (intro wS hSw; (try dsimp only at hSw); (try go_simp); (try with_reducible rfl)); rotate_left); simp only [Act.put, List.setIfInBounds_toArray, List.set_cons_zero, List.set_cons_succ]
  refine lin_sole (by kernel_rfl) (fun K hK => ?_)
  go_simp
  refine (RW.out _ hOa).mono ?_
  rintro e w6 ⟨ao2, c2, rfl, h7⟩
  refine hK.out _ _ (get10a h7) (fun hHeld => ?_)
  try simp only [Act.put, List.setIfInBounds_toArray, List.set_cons_zero, List.set_cons_succ]
  clear hK
  obtain ⟨z0, z1, z2, z3, z4, z5, z6, z7, z8, z9⟩ := get10 h7
  obtain ⟨f0, f1, f2, f3, f4, f5, f6, f7, f8, f9⟩ := get10f h7
  have y0 : w6.drew.cell? ⟨zb, 0, none⟩ = _ := z0
  have y1 : w6.drew.cell? ⟨zb, 1, none⟩ = _ := z1
  have y2 : w6.drew.cell? ⟨zb, 2, none⟩ = _ := z2
  have y3 : w6.drew.cell? ⟨zb, 3, none⟩ = _ := z3
  have y4 : w6.drew.cell? ⟨zb, 4, none⟩ = _ := z4
  have y5 : w6.drew.cell? ⟨zb, 5, none⟩ = _ := z5
  have y6 : w6.drew.cell? ⟨zb, 6, none⟩ = _ := z6
  have y7 : w6.drew.cell? ⟨zb, 7, none⟩ = _ := z7
  have y8 : w6.drew.cell? ⟨zb, 8, none⟩ = _ := z8
  have y9 : w6.drew.cell? ⟨zb, 9, none⟩ = _ := z9
  have g0 : w6.drew.frozen? ⟨zb, 0, none⟩ = false := f0
  have g1 : w6.drew.frozen? ⟨zb, 1, none⟩ = false := f1
  have g2 : w6.drew.frozen? ⟨zb, 2, none⟩ = false := f2
  have g3 : w6.drew.frozen? ⟨zb, 3, none⟩ = false := f3
  have g4 : w6.drew.frozen? ⟨zb, 4, none⟩ = false := f4
  have g5 : w6.drew.frozen? ⟨zb, 5, none⟩ = false := f5
  have g6 : w6.drew.frozen? ⟨zb, 6, none⟩ = false := f6
  have g7 : w6.drew.frozen? ⟨zb, 7, none⟩ = false := f7
  have g8 : w6.drew.frozen? ⟨zb, 8, none⟩ = false := f8
  have g9 : w6.drew.frozen? ⟨zb, 9, none⟩ = false := f9
  have hF := set10 h7 (.int .i64 kd) (.int .i64 (B : Int)) (.int .i64 D) (.int .i64 9) (.int .i64 t) (.int .i64 x) (.int .i64 n) (.int .i64 h) (.bool got) (.bool full)
  refine lin_sole (by kernel_rfl) (fun K hK => ?_)
  go_simp
  refine hK.out _ _ (get10a hF) (fun hHeld => ?_)
  try simp only [Act.put, List.setIfInBounds_toArray, List.set_cons_zero, List.set_cons_succ]
  clear hK
  refine lin_take (v := ?_) (by kernel_rfl) (by kernel_rfl) (fun _ _ _ h => h) (Or.inl ⟨by rfl, ?_⟩) (by assumption) ?_; (rotate_left; (intro wS hSw; (try dsimp only at hSw); (try go_simp); (try with_reducible rfl)); rotate_left); simp only [Act.put, List.setIfInBounds_toArray, List.set_cons_zero, List.set_cons_succ]
  refine lin_done (by kernel_rfl) ?_
  replace hF := Lib.hid hF
  clear z0 f0 y0 g0 z1 f1 y1 g1 z2 f2 y2 g2 z3 f3 y3 g3 z4 f4 y4 g4 z5 f5 y5 g5 z6 f6 y6 g6 z7 f7 y7 g7 z8 f8 y8 g8 z9 f9 y9 g9 h7 hS0 hOa
  go_wp2_with fail
  replace hF := hF.out
  obtain ⟨z0, z1, z2, z3, z4, z5, z6, z7, z8, z9⟩ := get10 hF
  generalize (((((((((w6.setCell ⟨zb, 0, none⟩ (.int .i64 kd)).setCell ⟨zb, 1, none⟩ (.int .i64 (B : Int))).setCell ⟨zb, 2, none⟩ (.int .i64 D)).setCell ⟨zb, 3, none⟩ (.int .i64 9)).setCell ⟨zb, 4, none⟩ (.int .i64 t)).setCell ⟨zb, 5, none⟩ (.int .i64 x)).setCell ⟨zb, 6, none⟩ (.int .i64 n)).setCell ⟨zb, 7, none⟩ (.int .i64 h)).setCell ⟨zb, 8, none⟩ (.bool got)).setCell ⟨zb, 9, none⟩ (.bool full) = u3 at *
  have hEnd := hF.sub (.cons _ (.cons _ (List.Sublist.refl _)))
  exact bodyPost_ret (v := .tuple #[.agg #[.int .i64 kd, .int .i64 (B : Int), .int .i64 D, .int .i64 9, .int .i64 t, .int .i64 x, .int .i64 n, .int .i64 h, .bool got, .bool full], .slice ao2 (ms.set (B + 1) t).length c2]) (by simp [results, Try.results54, go_sem, z0, z1, z2, z3, z4, z5, z6, z7, z8, z9]) rfl ⟨ao2, c2, rfl, hEnd⟩
theorem rs19 {B : Nat} {D : Int} {ms : List Int} (hr : (B : Int) + 4 + D ≤ ms.length ∧ ms.length ≤ 100000) (hD : 2 ≤ D ∧ D ≤ 256) {w0 w : World} {mo : Option Addr} {mc : Nat} {l : List Ast} (hO : Own w0 w (mRow (.slice mo ms.length mc) ms :: l)) (kd t x n h : Int) (got full : Bool) :
    Calls Try.prog 54 #[.agg #[.int .i64 kd, .int .i64 (B : Int), .int .i64 D, .int .i64 9, .int .i64 t, .int .i64 x, .int .i64 n, .int .i64 h, .bool got, .bool full], .slice mo ms.length mc] w fun e w' => ∃ ao' c', e = .returned (.tuple #[.agg #[.int .i64 kd, .int .i64 (B : Int), .int .i64 D, .int .i64 (-1), .int .i64 t, .int .i64 x, .int .i64 n, .int .i64 h, .bool got, .bool full], .slice ao' (ms.set (B + 3) (wrap64 (n + 1))).length c']) ∧ Own w0 w' (mRow (.slice ao' (ms.set (B + 3) (wrap64 (n + 1))).length c') (ms.set (B + 3) (wrap64 (n + 1))) :: l) := by
  have h1 := (hO.box #[.int .i64 kd, .int .i64 (B : Int), .int .i64 D, .int .i64 (-1), .int .i64 t, .int .i64 x, .int .i64 n, .int .i64 h, .bool got, .bool full] 68).box #[.int .i64 0, .int .i64 0, .int .i64 0, .int .i64 0, .int .i64 0, .int .i64 0, .int .i64 0, .int .i64 0, .bool false, .bool false] 68
  rw [alloc_sz] at h1
  have h2 : Own w0 ((w.alloc (.cells #[.int .i64 kd, .int .i64 (B : Int), .int .i64 D, .int .i64 (-1), .int .i64 t, .int .i64 x, .int .i64 n, .int .i64 h, .bool got, .bool full] 68)).alloc (.cells #[.int .i64 0, .int .i64 0, .int .i64 0, .int .i64 0, .int .i64 0, .int .i64 0, .int .i64 0, .int .i64 0, .bool false, .bool false] 68)) (cellsA w.heap.size #[.int .i64 kd, .int .i64 (B : Int), .int .i64 D, .int .i64 (-1), .int .i64 t, .int .i64 x, .int .i64 n, .int .i64 h, .bool got, .bool full] 68 :: cellsA (w.heap.size + 1) #[.int .i64 0, .int .i64 0, .int .i64 0, .int .i64 0, .int .i64 0, .int .i64 0, .int .i64 0, .int .i64 0, .bool false, .bool false] 68 :: mRow (.slice mo ms.length mc) ms :: l) := h1.pm (by
    simp only [List.cons_append, List.append_assoc, List.nil_append]
    exact (List.perm_append_comm (l₁ := mRow (.slice mo ms.length mc) ms :: l) (l₂ := [_, _])))
  have eb : IntKind.i64.wrap ((B : Int) + 3) = ((B + 3 : Nat) : Int) := (IntWalk.i64_in _ (by omega)).trans (by omega)
  have ew : IntKind.i64.wrap (n + 1) = wrap64 (n + 1) := IntWalk.i64_left _
  have RW : Hid (∀ (w1 : World) (rb zb : Nat), Own w0 w1 (cellsA rb #[.int .i64 kd, .int .i64 (B : Int), .int .i64 D, .int .i64 (-1), .int .i64 t, .int .i64 x, .int .i64 n, .int .i64 h, .bool got, .bool full] 68 :: cellsA zb #[.int .i64 0, .int .i64 0, .int .i64 0, .int .i64 0, .int .i64 0, .int .i64 0, .int .i64 0, .int .i64 0, .bool false, .bool false] 68 :: mRow (.slice mo ms.length mc) ms :: l) → Calls Try.prog 70 #[.slice mo ms.length mc, .int .i64 (((B + 3) : Nat) : Int), .int .i64 (wrap64 (n + 1))] w1 (fun e w' => ∃ ao' c', e = .returned (.slice ao' (ms.set (B + 3) (wrap64 (n + 1))).length c') ∧ Own w0 w' (cellsA rb #[.int .i64 kd, .int .i64 (B : Int), .int .i64 D, .int .i64 (-1), .int .i64 t, .int .i64 x, .int .i64 n, .int .i64 h, .bool got, .bool full] 68 :: cellsA zb #[.int .i64 0, .int .i64 0, .int .i64 0, .int .i64 0, .int .i64 0, .int .i64 0, .int .i64 0, .int .i64 0, .bool false, .bool false] 68 :: mRow (.slice ao' (ms.set (B + 3) (wrap64 (n + 1))).length c') (ms.set (B + 3) (wrap64 (n + 1))) :: l))) := Lib.hid (fun w1 rb zb h' => by
    refine (rwith (k := (B + 3)) (h'.pm pm3) (by omega) (by omega) (wrap64 (n + 1)) _ rfl).mono ?_
    rintro e w' ⟨ao', c', he, hw⟩
    exact ⟨ao', c', he, hw.pm pm3'⟩)
  clear h1 hO
  go_enter Try.func54, Try.ntmps54
  go_upto_region 35 with fail
  generalize (w.alloc (.cells #[.int .i64 kd, .int .i64 (B : Int), .int .i64 D, .int .i64 (-1), .int .i64 t, .int .i64 x, .int .i64 n, .int .i64 h, .bool got, .bool full] 68)).alloc (.cells #[.int .i64 0, .int .i64 0, .int .i64 0, .int .i64 0, .int .i64 0, .int .i64 0, .int .i64 0, .int .i64 0, .bool false, .bool false] 68) = u at *
  generalize w.heap.size + 1 = zb at *
  generalize w.heap.size = rb at *
  have hcur := h2
  clear h2
  replace RW := Lib.hid (fun w1 => RW.out w1 rb zb)
  have hOa := hcur.drewN 1
  have hS0 := (show (fun w' : World => w'.cell? ⟨rb, 0, none⟩ = some (.int .i64 kd) ∧ w'.cell? ⟨rb, 1, none⟩ = some (.int .i64 (B : Int)) ∧ w'.cell? ⟨rb, 2, none⟩ = some (.int .i64 D) ∧ w'.cell? ⟨rb, 3, none⟩ = some (.int .i64 (-1)) ∧ w'.cell? ⟨rb, 4, none⟩ = some (.int .i64 t) ∧ w'.cell? ⟨rb, 5, none⟩ = some (.int .i64 x) ∧ w'.cell? ⟨rb, 6, none⟩ = some (.int .i64 n) ∧ w'.cell? ⟨rb, 7, none⟩ = some (.int .i64 h) ∧ w'.cell? ⟨rb, 8, none⟩ = some (.bool got) ∧ w'.cell? ⟨rb, 9, none⟩ = some (.bool full)) _ from get10a hOa)
  clear hcur
  refine lin_start (S := (fun w' : World => w'.cell? ⟨rb, 0, none⟩ = some (.int .i64 kd) ∧ w'.cell? ⟨rb, 1, none⟩ = some (.int .i64 (B : Int)) ∧ w'.cell? ⟨rb, 2, none⟩ = some (.int .i64 D) ∧ w'.cell? ⟨rb, 3, none⟩ = some (.int .i64 (-1)) ∧ w'.cell? ⟨rb, 4, none⟩ = some (.int .i64 t) ∧ w'.cell? ⟨rb, 5, none⟩ = some (.int .i64 x) ∧ w'.cell? ⟨rb, 6, none⟩ = some (.int .i64 n) ∧ w'.cell? ⟨rb, 7, none⟩ = some (.int .i64 h) ∧ w'.cell? ⟨rb, 8, none⟩ = some (.bool got) ∧ w'.cell? ⟨rb, 9, none⟩ = some (.bool full))) rfl 11 rfl hS0 ?_
  simp only [numbered, Nat.zero_add, Nat.reduceAdd]
  refine lin_take (v := ?_) (by kernel_rfl) (by kernel_rfl) (fun _ _ _ h => h) (Or.inl ⟨by rfl, ?_⟩) (by assumption) ?_; (rotate_left; (intro wS hSw; (try dsimp only at hSw); (try go_simp); (try with_reducible rfl)); rotate_left); simp only [Act.put, List.setIfInBounds_toArray, List.set_cons_zero, List.set_cons_succ]
  refine lin_take (v := ?_) (by kernel_rfl) (by kernel_rfl) (fun _ _ _ h => h) (Or.inl ⟨by rfl, ?_⟩) (by assumption) ?_; (rotate_left; (intro wS hSw; (try dsimp only at hSw); (try go_simp); (try with_reducible rfl)); rotate_left); simp only [Act.put, List.setIfInBounds_toArray, List.set_cons_zero, List.set_cons_succ]
  refine lin_take (v := ?_) (by kernel_rfl) (by kernel_rfl) (fun _ _ _ h => h) (Or.inl ⟨by rfl, ?_⟩) (by assumption) ?_; (rotate_left; (intro wS hSw; (try dsimp only at hSw); (try go_simp); (try with_reducible rfl)); rotate_left); simp only [Act.put, List.setIfInBounds_toArray, List.set_cons_zero, List.set_cons_succ]
  refine lin_take (v := ?_) (by kernel_rfl) (by kernel_rfl) (fun _ _ _ h => h) (Or.inl ⟨by rfl, ?_⟩) (by assumption) ?_; (rotate_left; (intro wS hSw; (try dsimp only at hSw); (try go_simp); (try with_reducible rfl)); rotate_left); simp only [Act.put, List.setIfInBounds_toArray, List.set_cons_zero, List.set_cons_succ]
  refine lin_take (v := ?_) (by kernel_rfl) (by kernel_rfl) (fun _ _ _ h => h) (Or.inl ⟨by rfl, ?_⟩) (by assumption) ?_; (rotate_left; (intro wS hSw; (try dsimp only at hSw); (try go_simp); (try with_reducible rfl)); rotate_left); simp only [Act.put, List.setIfInBounds_toArray, List.set_cons_zero, List.set_cons_succ]
  refine lin_take (v := ?_) (by kernel_rfl) (by kernel_rfl) (fun _ _ _ h => h) (Or.inl ⟨by rfl, ?_⟩) (by assumption) ?_; (rotate_left; (intro wS hSw; (try dsimp only at hSw); (try go_simp); (try with_reducible rfl)); rotate_left); simp only [Act.put, List.setIfInBounds_toArray, List.set_cons_zero, List.set_cons_succ]
  refine lin_take (v := ?_) (by kernel_rfl) (by kernel_rfl) (fun _ _ _ h => h) (Or.inl ⟨by rfl, ?_⟩) (by assumption) ?_; (rotate_left; (intro wS hSw; (try dsimp only at hSw); (try go_simp); (try with_reducible rfl)); rotate_left); simp only [Act.put, List.setIfInBounds_toArray, List.set_cons_zero, List.set_cons_succ]
  refine lin_take (v := ?_) (by kernel_rfl) (by kernel_rfl) (fun _ _ _ h => h) (Or.inl ⟨by rfl, ?_⟩) (by assumption) ?_; (rotate_left; (intro wS hSw; (try dsimp only at hSw); (try go_simp); (try with_reducible rfl)); rotate_left); simp only [Act.put, List.setIfInBounds_toArray, List.set_cons_zero, List.set_cons_succ]
  refine lin_sole (by kernel_rfl) (fun K hK => ?_)
  go_simp
  refine (RW.out _ hOa).mono ?_
  rintro e w6 ⟨ao2, c2, rfl, h7⟩
  refine hK.out _ _ (get10a h7) (fun hHeld => ?_)
  try simp only [Act.put, List.setIfInBounds_toArray, List.set_cons_zero, List.set_cons_succ]
  clear hK
  obtain ⟨z0, z1, z2, z3, z4, z5, z6, z7, z8, z9⟩ := get10 h7
  obtain ⟨f0, f1, f2, f3, f4, f5, f6, f7, f8, f9⟩ := get10f h7
  have y0 : w6.drew.cell? ⟨zb, 0, none⟩ = _ := z0
  have y1 : w6.drew.cell? ⟨zb, 1, none⟩ = _ := z1
  have y2 : w6.drew.cell? ⟨zb, 2, none⟩ = _ := z2
  have y3 : w6.drew.cell? ⟨zb, 3, none⟩ = _ := z3
  have y4 : w6.drew.cell? ⟨zb, 4, none⟩ = _ := z4
  have y5 : w6.drew.cell? ⟨zb, 5, none⟩ = _ := z5
  have y6 : w6.drew.cell? ⟨zb, 6, none⟩ = _ := z6
  have y7 : w6.drew.cell? ⟨zb, 7, none⟩ = _ := z7
  have y8 : w6.drew.cell? ⟨zb, 8, none⟩ = _ := z8
  have y9 : w6.drew.cell? ⟨zb, 9, none⟩ = _ := z9
  have g0 : w6.drew.frozen? ⟨zb, 0, none⟩ = false := f0
  have g1 : w6.drew.frozen? ⟨zb, 1, none⟩ = false := f1
  have g2 : w6.drew.frozen? ⟨zb, 2, none⟩ = false := f2
  have g3 : w6.drew.frozen? ⟨zb, 3, none⟩ = false := f3
  have g4 : w6.drew.frozen? ⟨zb, 4, none⟩ = false := f4
  have g5 : w6.drew.frozen? ⟨zb, 5, none⟩ = false := f5
  have g6 : w6.drew.frozen? ⟨zb, 6, none⟩ = false := f6
  have g7 : w6.drew.frozen? ⟨zb, 7, none⟩ = false := f7
  have g8 : w6.drew.frozen? ⟨zb, 8, none⟩ = false := f8
  have g9 : w6.drew.frozen? ⟨zb, 9, none⟩ = false := f9
  have hF := set10 h7 (.int .i64 kd) (.int .i64 (B : Int)) (.int .i64 D) (.int .i64 (-1)) (.int .i64 t) (.int .i64 x) (.int .i64 n) (.int .i64 h) (.bool got) (.bool full)
  refine lin_sole (by kernel_rfl) (fun K hK => ?_)
  go_simp
  refine hK.out _ _ (get10a hF) (fun hHeld => ?_)
  try simp only [Act.put, List.setIfInBounds_toArray, List.set_cons_zero, List.set_cons_succ]
  clear hK
  refine lin_take (v := ?_) (by kernel_rfl) (by kernel_rfl) (fun _ _ _ h => h) (Or.inl ⟨by rfl, ?_⟩) (by assumption) ?_; (rotate_left; (intro wS hSw; (try dsimp only at hSw); (try go_simp); (try with_reducible rfl)); rotate_left); simp only [Act.put, List.setIfInBounds_toArray, List.set_cons_zero, List.set_cons_succ]
  refine lin_done (by kernel_rfl) ?_
  replace hF := Lib.hid hF
  clear z0 f0 y0 g0 z1 f1 y1 g1 z2 f2 y2 g2 z3 f3 y3 g3 z4 f4 y4 g4 z5 f5 y5 g5 z6 f6 y6 g6 z7 f7 y7 g7 z8 f8 y8 g8 z9 f9 y9 g9 h7 hS0 hOa
  go_wp2_with fail
  replace hF := hF.out
  obtain ⟨z0, z1, z2, z3, z4, z5, z6, z7, z8, z9⟩ := get10 hF
  generalize (((((((((w6.setCell ⟨zb, 0, none⟩ (.int .i64 kd)).setCell ⟨zb, 1, none⟩ (.int .i64 (B : Int))).setCell ⟨zb, 2, none⟩ (.int .i64 D)).setCell ⟨zb, 3, none⟩ (.int .i64 (-1))).setCell ⟨zb, 4, none⟩ (.int .i64 t)).setCell ⟨zb, 5, none⟩ (.int .i64 x)).setCell ⟨zb, 6, none⟩ (.int .i64 n)).setCell ⟨zb, 7, none⟩ (.int .i64 h)).setCell ⟨zb, 8, none⟩ (.bool got)).setCell ⟨zb, 9, none⟩ (.bool full) = u3 at *
  have hEnd := hF.sub (.cons _ (.cons _ (List.Sublist.refl _)))
  exact bodyPost_ret (v := .tuple #[.agg #[.int .i64 kd, .int .i64 (B : Int), .int .i64 D, .int .i64 (-1), .int .i64 t, .int .i64 x, .int .i64 n, .int .i64 h, .bool got, .bool full], .slice ao2 (ms.set (B + 3) (wrap64 (n + 1))).length c2]) (by simp [results, Try.results54, go_sem, z0, z1, z2, z3, z4, z5, z6, z7, z8, z9]) rfl ⟨ao2, c2, rfl, hEnd⟩
theorem rs33 {B : Nat} {D : Int} {ms : List Int} (hr : (B : Int) + 4 + D ≤ ms.length ∧ ms.length ≤ 100000) (hD : 2 ≤ D ∧ D ≤ 256) {w0 w : World} {mo : Option Addr} {mc : Nat} {l : List Ast} (hO : Own w0 w (mRow (.slice mo ms.length mc) ms :: l)) (kd t x n h : Int) (got full : Bool) :
    Calls Try.prog 55 #[.agg #[.int .i64 kd, .int .i64 (B : Int), .int .i64 D, .int .i64 3, .int .i64 t, .int .i64 x, .int .i64 n, .int .i64 h, .bool got, .bool full], .slice mo ms.length mc] w fun e w' => ∃ ao' c', e = .returned (.tuple #[.agg #[.int .i64 kd, .int .i64 (B : Int), .int .i64 D, .int .i64 4, .int .i64 t, .int .i64 x, .int .i64 n, .int .i64 h, .bool got, .bool full], .slice ao' (ms.set B (wrap64 (h + 1))).length c']) ∧ Own w0 w' (mRow (.slice ao' (ms.set B (wrap64 (h + 1))).length c') (ms.set B (wrap64 (h + 1))) :: l) := by
  have h1 := (hO.box #[.int .i64 kd, .int .i64 (B : Int), .int .i64 D, .int .i64 4, .int .i64 t, .int .i64 x, .int .i64 n, .int .i64 h, .bool got, .bool full] 68).box #[.int .i64 0, .int .i64 0, .int .i64 0, .int .i64 0, .int .i64 0, .int .i64 0, .int .i64 0, .int .i64 0, .bool false, .bool false] 68
  rw [alloc_sz] at h1
  have h2 : Own w0 ((w.alloc (.cells #[.int .i64 kd, .int .i64 (B : Int), .int .i64 D, .int .i64 4, .int .i64 t, .int .i64 x, .int .i64 n, .int .i64 h, .bool got, .bool full] 68)).alloc (.cells #[.int .i64 0, .int .i64 0, .int .i64 0, .int .i64 0, .int .i64 0, .int .i64 0, .int .i64 0, .int .i64 0, .bool false, .bool false] 68)) (cellsA w.heap.size #[.int .i64 kd, .int .i64 (B : Int), .int .i64 D, .int .i64 4, .int .i64 t, .int .i64 x, .int .i64 n, .int .i64 h, .bool got, .bool full] 68 :: cellsA (w.heap.size + 1) #[.int .i64 0, .int .i64 0, .int .i64 0, .int .i64 0, .int .i64 0, .int .i64 0, .int .i64 0, .int .i64 0, .bool false, .bool false] 68 :: mRow (.slice mo ms.length mc) ms :: l) := h1.pm (by
    simp only [List.cons_append, List.append_assoc, List.nil_append]
    exact (List.perm_append_comm (l₁ := mRow (.slice mo ms.length mc) ms :: l) (l₂ := [_, _])))
  have ew : IntKind.i64.wrap (h + 1) = wrap64 (h + 1) := IntWalk.i64_left _
  have RW : Hid (∀ (w1 : World) (rb zb : Nat), Own w0 w1 (cellsA rb #[.int .i64 kd, .int .i64 (B : Int), .int .i64 D, .int .i64 4, .int .i64 t, .int .i64 x, .int .i64 n, .int .i64 h, .bool got, .bool full] 68 :: cellsA zb #[.int .i64 0, .int .i64 0, .int .i64 0, .int .i64 0, .int .i64 0, .int .i64 0, .int .i64 0, .int .i64 0, .bool false, .bool false] 68 :: mRow (.slice mo ms.length mc) ms :: l) → Calls Try.prog 70 #[.slice mo ms.length mc, .int .i64 ((B : Nat) : Int), .int .i64 (wrap64 (h + 1))] w1 (fun e w' => ∃ ao' c', e = .returned (.slice ao' (ms.set B (wrap64 (h + 1))).length c') ∧ Own w0 w' (cellsA rb #[.int .i64 kd, .int .i64 (B : Int), .int .i64 D, .int .i64 4, .int .i64 t, .int .i64 x, .int .i64 n, .int .i64 h, .bool got, .bool full] 68 :: cellsA zb #[.int .i64 0, .int .i64 0, .int .i64 0, .int .i64 0, .int .i64 0, .int .i64 0, .int .i64 0, .int .i64 0, .bool false, .bool false] 68 :: mRow (.slice ao' (ms.set B (wrap64 (h + 1))).length c') (ms.set B (wrap64 (h + 1))) :: l))) := Lib.hid (fun w1 rb zb h' => by
    refine (rwith (k := B) (h'.pm pm3) (by omega) (by omega) (wrap64 (h + 1)) _ rfl).mono ?_
    rintro e w' ⟨ao', c', he, hw⟩
    exact ⟨ao', c', he, hw.pm pm3'⟩)
  clear h1 hO
  go_enter Try.func55, Try.ntmps55
  go_upto_region 16 with fail
  generalize (w.alloc (.cells #[.int .i64 kd, .int .i64 (B : Int), .int .i64 D, .int .i64 4, .int .i64 t, .int .i64 x, .int .i64 n, .int .i64 h, .bool got, .bool full] 68)).alloc (.cells #[.int .i64 0, .int .i64 0, .int .i64 0, .int .i64 0, .int .i64 0, .int .i64 0, .int .i64 0, .int .i64 0, .bool false, .bool false] 68) = u at *
  generalize w.heap.size + 1 = zb at *
  generalize w.heap.size = rb at *
  have hcur := h2
  clear h2
  replace RW := Lib.hid (fun w1 => RW.out w1 rb zb)
  have hOa := hcur.drewN 1
  have hS0 := (show (fun w' : World => w'.cell? ⟨rb, 0, none⟩ = some (.int .i64 kd) ∧ w'.cell? ⟨rb, 1, none⟩ = some (.int .i64 (B : Int)) ∧ w'.cell? ⟨rb, 2, none⟩ = some (.int .i64 D) ∧ w'.cell? ⟨rb, 3, none⟩ = some (.int .i64 4) ∧ w'.cell? ⟨rb, 4, none⟩ = some (.int .i64 t) ∧ w'.cell? ⟨rb, 5, none⟩ = some (.int .i64 x) ∧ w'.cell? ⟨rb, 6, none⟩ = some (.int .i64 n) ∧ w'.cell? ⟨rb, 7, none⟩ = some (.int .i64 h) ∧ w'.cell? ⟨rb, 8, none⟩ = some (.bool got) ∧ w'.cell? ⟨rb, 9, none⟩ = some (.bool full)) _ from get10a hOa)
  clear hcur
  refine lin_start (S := (fun w' : World => w'.cell? ⟨rb, 0, none⟩ = some (.int .i64 kd) ∧ w'.cell? ⟨rb, 1, none⟩ = some (.int .i64 (B : Int)) ∧ w'.cell? ⟨rb, 2, none⟩ = some (.int .i64 D) ∧ w'.cell? ⟨rb, 3, none⟩ = some (.int .i64 4) ∧ w'.cell? ⟨rb, 4, none⟩ = some (.int .i64 t) ∧ w'.cell? ⟨rb, 5, none⟩ = some (.int .i64 x) ∧ w'.cell? ⟨rb, 6, none⟩ = some (.int .i64 n) ∧ w'.cell? ⟨rb, 7, none⟩ = some (.int .i64 h) ∧ w'.cell? ⟨rb, 8, none⟩ = some (.bool got) ∧ w'.cell? ⟨rb, 9, none⟩ = some (.bool full))) rfl 10 rfl hS0 ?_
  simp only [numbered, Nat.zero_add, Nat.reduceAdd]
  refine lin_take (v := ?_) (by kernel_rfl) (by kernel_rfl) (fun _ _ _ h => h) (Or.inl ⟨by rfl, ?_⟩) (by assumption) ?_; (rotate_left; (intro wS hSw; (try dsimp only at hSw); (try go_simp); (try with_reducible rfl)); rotate_left); simp only [Act.put, List.setIfInBounds_toArray, List.set_cons_zero, List.set_cons_succ]
  refine lin_take (v := ?_) (by kernel_rfl) (by kernel_rfl) (fun _ _ _ h => h) (Or.inl ⟨by rfl, ?_⟩) (by assumption) ?_; (rotate_left; (intro wS hSw; (try dsimp only at hSw); (try go_simp); (try with_reducible rfl)); rotate_left); simp only [Act.put, List.setIfInBounds_toArray, List.set_cons_zero, List.set_cons_succ]
  refine lin_take (v := ?_) (by kernel_rfl) (by kernel_rfl) (fun _ _ _ h => h) (Or.inl ⟨by rfl, ?_⟩) (by assumption) ?_; (rotate_left; (intro wS hSw; (try dsimp only at hSw); (try go_simp); (try with_reducible rfl)); rotate_left); simp only [Act.put, List.setIfInBounds_toArray, List.set_cons_zero, List.set_cons_succ]
  refine lin_take (v := ?_) (by kernel_rfl) (by kernel_rfl) (fun _ _ _ h => h) (Or.inl ⟨by rfl, ?_⟩) (by assumption) ?_; (rotate_left; (intro wS hSw; (try dsimp only at hSw); (try go_simp); (try with_reducible rfl)); rotate_left); simp only [Act.put, List.setIfInBounds_toArray, List.set_cons_zero, List.set_cons_succ]
  refine lin_take (v := ?_) (by kernel_rfl) (by kernel_rfl) (fun _ _ _ h => h) (Or.inl ⟨by rfl, ?_⟩) (by assumption) ?_; (rotate_left; (intro wS hSw; (try dsimp only at hSw); (try go_simp); (try with_reducible rfl)); rotate_left); simp only [Act.put, List.setIfInBounds_toArray, List.set_cons_zero, List.set_cons_succ]
  refine lin_take (v := ?_) (by kernel_rfl) (by kernel_rfl) (fun _ _ _ h => h) (Or.inl ⟨by rfl, ?_⟩) (by assumption) ?_; (rotate_left; (intro wS hSw; (try dsimp only at hSw); (try go_simp); (try with_reducible rfl)); rotate_left); simp only [Act.put, List.setIfInBounds_toArray, List.set_cons_zero, List.set_cons_succ]
  refine lin_take (v := ?_) (by kernel_rfl) (by kernel_rfl) (fun _ _ _ h => h) (Or.inl ⟨by rfl, ?_⟩) (by assumption) ?_; (rotate_left; (intro wS hSw; (try dsimp only at hSw); (try go_simp); (try with_reducible rfl)); rotate_left); simp only [Act.put, List.setIfInBounds_toArray, List.set_cons_zero, List.set_cons_succ]
  refine lin_sole (by kernel_rfl) (fun K hK => ?_)
  go_simp
  refine (RW.out _ hOa).mono ?_
  rintro e w6 ⟨ao2, c2, rfl, h7⟩
  refine hK.out _ _ (get10a h7) (fun hHeld => ?_)
  try simp only [Act.put, List.setIfInBounds_toArray, List.set_cons_zero, List.set_cons_succ]
  clear hK
  obtain ⟨z0, z1, z2, z3, z4, z5, z6, z7, z8, z9⟩ := get10 h7
  obtain ⟨f0, f1, f2, f3, f4, f5, f6, f7, f8, f9⟩ := get10f h7
  have y0 : w6.drew.cell? ⟨zb, 0, none⟩ = _ := z0
  have y1 : w6.drew.cell? ⟨zb, 1, none⟩ = _ := z1
  have y2 : w6.drew.cell? ⟨zb, 2, none⟩ = _ := z2
  have y3 : w6.drew.cell? ⟨zb, 3, none⟩ = _ := z3
  have y4 : w6.drew.cell? ⟨zb, 4, none⟩ = _ := z4
  have y5 : w6.drew.cell? ⟨zb, 5, none⟩ = _ := z5
  have y6 : w6.drew.cell? ⟨zb, 6, none⟩ = _ := z6
  have y7 : w6.drew.cell? ⟨zb, 7, none⟩ = _ := z7
  have y8 : w6.drew.cell? ⟨zb, 8, none⟩ = _ := z8
  have y9 : w6.drew.cell? ⟨zb, 9, none⟩ = _ := z9
  have g0 : w6.drew.frozen? ⟨zb, 0, none⟩ = false := f0
  have g1 : w6.drew.frozen? ⟨zb, 1, none⟩ = false := f1
  have g2 : w6.drew.frozen? ⟨zb, 2, none⟩ = false := f2
  have g3 : w6.drew.frozen? ⟨zb, 3, none⟩ = false := f3
  have g4 : w6.drew.frozen? ⟨zb, 4, none⟩ = false := f4
  have g5 : w6.drew.frozen? ⟨zb, 5, none⟩ = false := f5
  have g6 : w6.drew.frozen? ⟨zb, 6, none⟩ = false := f6
  have g7 : w6.drew.frozen? ⟨zb, 7, none⟩ = false := f7
  have g8 : w6.drew.frozen? ⟨zb, 8, none⟩ = false := f8
  have g9 : w6.drew.frozen? ⟨zb, 9, none⟩ = false := f9
  have hF := set10 h7 (.int .i64 kd) (.int .i64 (B : Int)) (.int .i64 D) (.int .i64 4) (.int .i64 t) (.int .i64 x) (.int .i64 n) (.int .i64 h) (.bool got) (.bool full)
  refine lin_sole (by kernel_rfl) (fun K hK => ?_)
  go_simp
  refine hK.out _ _ (get10a hF) (fun hHeld => ?_)
  try simp only [Act.put, List.setIfInBounds_toArray, List.set_cons_zero, List.set_cons_succ]
  clear hK
  refine lin_take (v := ?_) (by kernel_rfl) (by kernel_rfl) (fun _ _ _ h => h) (Or.inl ⟨by rfl, ?_⟩) (by assumption) ?_; (rotate_left; (intro wS hSw; (try dsimp only at hSw); (try go_simp); (try with_reducible rfl)); rotate_left); simp only [Act.put, List.setIfInBounds_toArray, List.set_cons_zero, List.set_cons_succ]
  refine lin_done (by kernel_rfl) ?_
  replace hF := Lib.hid hF
  clear z0 f0 y0 g0 z1 f1 y1 g1 z2 f2 y2 g2 z3 f3 y3 g3 z4 f4 y4 g4 z5 f5 y5 g5 z6 f6 y6 g6 z7 f7 y7 g7 z8 f8 y8 g8 z9 f9 y9 g9 h7 hS0 hOa
  go_wp2_with fail
  replace hF := hF.out
  obtain ⟨z0, z1, z2, z3, z4, z5, z6, z7, z8, z9⟩ := get10 hF
  generalize (((((((((w6.setCell ⟨zb, 0, none⟩ (.int .i64 kd)).setCell ⟨zb, 1, none⟩ (.int .i64 (B : Int))).setCell ⟨zb, 2, none⟩ (.int .i64 D)).setCell ⟨zb, 3, none⟩ (.int .i64 4)).setCell ⟨zb, 4, none⟩ (.int .i64 t)).setCell ⟨zb, 5, none⟩ (.int .i64 x)).setCell ⟨zb, 6, none⟩ (.int .i64 n)).setCell ⟨zb, 7, none⟩ (.int .i64 h)).setCell ⟨zb, 8, none⟩ (.bool got)).setCell ⟨zb, 9, none⟩ (.bool full) = u3 at *
  have hEnd := hF.sub (.cons _ (.cons _ (List.Sublist.refl _)))
  exact bodyPost_ret (v := .tuple #[.agg #[.int .i64 kd, .int .i64 (B : Int), .int .i64 D, .int .i64 4, .int .i64 t, .int .i64 x, .int .i64 n, .int .i64 h, .bool got, .bool full], .slice ao2 (ms.set B (wrap64 (h + 1))).length c2]) (by simp [results, Try.results55, go_sem, z0, z1, z2, z3, z4, z5, z6, z7, z8, z9]) rfl ⟨ao2, c2, rfl, hEnd⟩
theorem rs35 {B : Nat} {D : Int} {ms : List Int} (hr : (B : Int) + 4 + D ≤ ms.length ∧ ms.length ≤ 100000) (hD : 2 ≤ D ∧ D ≤ 256) {w0 w : World} {mo : Option Addr} {mc : Nat} {l : List Ast} (hO : Own w0 w (mRow (.slice mo ms.length mc) ms :: l)) (kd t x n h : Int) (got full : Bool) :
    Calls Try.prog 55 #[.agg #[.int .i64 kd, .int .i64 (B : Int), .int .i64 D, .int .i64 5, .int .i64 t, .int .i64 x, .int .i64 n, .int .i64 h, .bool got, .bool full], .slice mo ms.length mc] w fun e w' => ∃ ao' c', e = .returned (.tuple #[.agg #[.int .i64 kd, .int .i64 (B : Int), .int .i64 D, .int .i64 6, .int .i64 t, .int .i64 x, .int .i64 n, .int .i64 h, .bool got, .bool full], .slice ao' (ms.set B h).length c']) ∧ Own w0 w' (mRow (.slice ao' (ms.set B h).length c') (ms.set B h) :: l) := by
  have h1 := (hO.box #[.int .i64 kd, .int .i64 (B : Int), .int .i64 D, .int .i64 6, .int .i64 t, .int .i64 x, .int .i64 n, .int .i64 h, .bool got, .bool full] 68).box #[.int .i64 0, .int .i64 0, .int .i64 0, .int .i64 0, .int .i64 0, .int .i64 0, .int .i64 0, .int .i64 0, .bool false, .bool false] 68
  rw [alloc_sz] at h1
  have h2 : Own w0 ((w.alloc (.cells #[.int .i64 kd, .int .i64 (B : Int), .int .i64 D, .int .i64 6, .int .i64 t, .int .i64 x, .int .i64 n, .int .i64 h, .bool got, .bool full] 68)).alloc (.cells #[.int .i64 0, .int .i64 0, .int .i64 0, .int .i64 0, .int .i64 0, .int .i64 0, .int .i64 0, .int .i64 0, .bool false, .bool false] 68)) (cellsA w.heap.size #[.int .i64 kd, .int .i64 (B : Int), .int .i64 D, .int .i64 6, .int .i64 t, .int .i64 x, .int .i64 n, .int .i64 h, .bool got, .bool full] 68 :: cellsA (w.heap.size + 1) #[.int .i64 0, .int .i64 0, .int .i64 0, .int .i64 0, .int .i64 0, .int .i64 0, .int .i64 0, .int .i64 0, .bool false, .bool false] 68 :: mRow (.slice mo ms.length mc) ms :: l) := h1.pm (by
    simp only [List.cons_append, List.append_assoc, List.nil_append]
    exact (List.perm_append_comm (l₁ := mRow (.slice mo ms.length mc) ms :: l) (l₂ := [_, _])))
  have RW : Hid (∀ (w1 : World) (rb zb : Nat), Own w0 w1 (cellsA rb #[.int .i64 kd, .int .i64 (B : Int), .int .i64 D, .int .i64 6, .int .i64 t, .int .i64 x, .int .i64 n, .int .i64 h, .bool got, .bool full] 68 :: cellsA zb #[.int .i64 0, .int .i64 0, .int .i64 0, .int .i64 0, .int .i64 0, .int .i64 0, .int .i64 0, .int .i64 0, .bool false, .bool false] 68 :: mRow (.slice mo ms.length mc) ms :: l) → Calls Try.prog 70 #[.slice mo ms.length mc, .int .i64 ((B : Nat) : Int), .int .i64 h] w1 (fun e w' => ∃ ao' c', e = .returned (.slice ao' (ms.set B h).length c') ∧ Own w0 w' (cellsA rb #[.int .i64 kd, .int .i64 (B : Int), .int .i64 D, .int .i64 6, .int .i64 t, .int .i64 x, .int .i64 n, .int .i64 h, .bool got, .bool full] 68 :: cellsA zb #[.int .i64 0, .int .i64 0, .int .i64 0, .int .i64 0, .int .i64 0, .int .i64 0, .int .i64 0, .int .i64 0, .bool false, .bool false] 68 :: mRow (.slice ao' (ms.set B h).length c') (ms.set B h) :: l))) := Lib.hid (fun w1 rb zb h' => by
    refine (rwith (k := B) (h'.pm pm3) (by omega) (by omega) h _ rfl).mono ?_
    rintro e w' ⟨ao', c', he, hw⟩
    exact ⟨ao', c', he, hw.pm pm3'⟩)
  clear h1 hO
  go_enter Try.func55, Try.ntmps55
  go_upto_region 24 with fail
  generalize (w.alloc (.cells #[.int .i64 kd, .int .i64 (B : Int), .int .i64 D, .int .i64 6, .int .i64 t, .int .i64 x, .int .i64 n, .int .i64 h, .bool got, .bool full] 68)).alloc (.cells #[.int .i64 0, .int .i64 0, .int .i64 0, .int .i64 0, .int .i64 0, .int .i64 0, .int .i64 0, .int .i64 0, .bool false, .bool false] 68) = u at *
  generalize w.heap.size + 1 = zb at *
  generalize w.heap.size = rb at *
  have hcur := h2
  clear h2
  replace RW := Lib.hid (fun w1 => RW.out w1 rb zb)
  have hOa := hcur.drewN 1
  have hS0 := (show (fun w' : World => w'.cell? ⟨rb, 0, none⟩ = some (.int .i64 kd) ∧ w'.cell? ⟨rb, 1, none⟩ = some (.int .i64 (B : Int)) ∧ w'.cell? ⟨rb, 2, none⟩ = some (.int .i64 D) ∧ w'.cell? ⟨rb, 3, none⟩ = some (.int .i64 6) ∧ w'.cell? ⟨rb, 4, none⟩ = some (.int .i64 t) ∧ w'.cell? ⟨rb, 5, none⟩ = some (.int .i64 x) ∧ w'.cell? ⟨rb, 6, none⟩ = some (.int .i64 n) ∧ w'.cell? ⟨rb, 7, none⟩ = some (.int .i64 h) ∧ w'.cell? ⟨rb, 8, none⟩ = some (.bool got) ∧ w'.cell? ⟨rb, 9, none⟩ = some (.bool full)) _ from get10a hOa)
  clear hcur
  refine lin_start (S := (fun w' : World => w'.cell? ⟨rb, 0, none⟩ = some (.int .i64 kd) ∧ w'.cell? ⟨rb, 1, none⟩ = some (.int .i64 (B : Int)) ∧ w'.cell? ⟨rb, 2, none⟩ = some (.int .i64 D) ∧ w'.cell? ⟨rb, 3, none⟩ = some (.int .i64 6) ∧ w'.cell? ⟨rb, 4, none⟩ = some (.int .i64 t) ∧ w'.cell? ⟨rb, 5, none⟩ = some (.int .i64 x) ∧ w'.cell? ⟨rb, 6, none⟩ = some (.int .i64 n) ∧ w'.cell? ⟨rb, 7, none⟩ = some (.int .i64 h) ∧ w'.cell? ⟨rb, 8, none⟩ = some (.bool got) ∧ w'.cell? ⟨rb, 9, none⟩ = some (.bool full))) rfl 9 rfl hS0 ?_
  simp only [numbered, Nat.zero_add, Nat.reduceAdd]
  refine lin_take (v := ?_) (by kernel_rfl) (by kernel_rfl) (fun _ _ _ h => h) (Or.inl ⟨by rfl, ?_⟩) (by assumption) ?_; (rotate_left; (intro wS hSw; (try dsimp only at hSw); (try go_simp); (try with_reducible rfl)); rotate_left); simp only [Act.put, List.setIfInBounds_toArray, List.set_cons_zero, List.set_cons_succ]
  refine lin_take (v := ?_) (by kernel_rfl) (by kernel_rfl) (fun _ _ _ h => h) (Or.inl ⟨by rfl, ?_⟩) (by assumption) ?_; (rotate_left; (intro wS hSw; (try dsimp only at hSw); (try go_simp); (try with_reducible rfl)); rotate_left); simp only [Act.put, List.setIfInBounds_toArray, List.set_cons_zero, List.set_cons_succ]
  refine lin_take (v := ?_) (by kernel_rfl) (by kernel_rfl) (fun _ _ _ h => h) (Or.inl ⟨by rfl, ?_⟩) (by assumption) ?_; (rotate_left; (intro wS hSw; (try dsimp only at hSw); (try go_simp); (try with_reducible rfl)); rotate_left); simp only [Act.put, List.setIfInBounds_toArray, List.set_cons_zero, List.set_cons_succ]
  refine lin_take (v := ?_) (by kernel_rfl) (by kernel_rfl) (fun _ _ _ h => h) (Or.inl ⟨by rfl, ?_⟩) (by assumption) ?_; (rotate_left; (intro wS hSw; (try dsimp only at hSw); (try go_simp); (try with_reducible rfl)); rotate_left); simp only [Act.put, List.setIfInBounds_toArray, List.set_cons_zero, List.set_cons_succ]
  refine lin_take (v := ?_) (by kernel_rfl) (by kernel_rfl) (fun _ _ _ h => h) (Or.inl ⟨by rfl, ?_⟩) (by assumption) ?_; (rotate_left; (intro wS hSw; (try dsimp only at hSw); (try go_simp); (try with_reducible rfl)); rotate_left); simp only [Act.put, List.setIfInBounds_toArray, List.set_cons_zero, List.set_cons_succ]
  refine lin_take (v := ?_) (by kernel_rfl) (by kernel_rfl) (fun _ _ _ h => h) (Or.inl ⟨by rfl, ?_⟩) (by assumption) ?_; (rotate_left; (intro wS hSw; (try dsimp only at hSw); (try go_simp); (try with_reducible rfl)); rotate_left); simp only [Act.put, List.setIfInBounds_toArray, List.set_cons_zero, List.set_cons_succ]
  refine lin_sole (by kernel_rfl) (fun K hK => ?_)
  go_simp
  refine (RW.out _ hOa).mono ?_
  rintro e w6 ⟨ao2, c2, rfl, h7⟩
  refine hK.out _ _ (get10a h7) (fun hHeld => ?_)
  try simp only [Act.put, List.setIfInBounds_toArray, List.set_cons_zero, List.set_cons_succ]
  clear hK
  obtain ⟨z0, z1, z2, z3, z4, z5, z6, z7, z8, z9⟩ := get10 h7
  obtain ⟨f0, f1, f2, f3, f4, f5, f6, f7, f8, f9⟩ := get10f h7
  have y0 : w6.drew.cell? ⟨zb, 0, none⟩ = _ := z0
  have y1 : w6.drew.cell? ⟨zb, 1, none⟩ = _ := z1
  have y2 : w6.drew.cell? ⟨zb, 2, none⟩ = _ := z2
  have y3 : w6.drew.cell? ⟨zb, 3, none⟩ = _ := z3
  have y4 : w6.drew.cell? ⟨zb, 4, none⟩ = _ := z4
  have y5 : w6.drew.cell? ⟨zb, 5, none⟩ = _ := z5
  have y6 : w6.drew.cell? ⟨zb, 6, none⟩ = _ := z6
  have y7 : w6.drew.cell? ⟨zb, 7, none⟩ = _ := z7
  have y8 : w6.drew.cell? ⟨zb, 8, none⟩ = _ := z8
  have y9 : w6.drew.cell? ⟨zb, 9, none⟩ = _ := z9
  have g0 : w6.drew.frozen? ⟨zb, 0, none⟩ = false := f0
  have g1 : w6.drew.frozen? ⟨zb, 1, none⟩ = false := f1
  have g2 : w6.drew.frozen? ⟨zb, 2, none⟩ = false := f2
  have g3 : w6.drew.frozen? ⟨zb, 3, none⟩ = false := f3
  have g4 : w6.drew.frozen? ⟨zb, 4, none⟩ = false := f4
  have g5 : w6.drew.frozen? ⟨zb, 5, none⟩ = false := f5
  have g6 : w6.drew.frozen? ⟨zb, 6, none⟩ = false := f6
  have g7 : w6.drew.frozen? ⟨zb, 7, none⟩ = false := f7
  have g8 : w6.drew.frozen? ⟨zb, 8, none⟩ = false := f8
  have g9 : w6.drew.frozen? ⟨zb, 9, none⟩ = false := f9
  have hF := set10 h7 (.int .i64 kd) (.int .i64 (B : Int)) (.int .i64 D) (.int .i64 6) (.int .i64 t) (.int .i64 x) (.int .i64 n) (.int .i64 h) (.bool got) (.bool full)
  refine lin_sole (by kernel_rfl) (fun K hK => ?_)
  go_simp
  refine hK.out _ _ (get10a hF) (fun hHeld => ?_)
  try simp only [Act.put, List.setIfInBounds_toArray, List.set_cons_zero, List.set_cons_succ]
  clear hK
  refine lin_take (v := ?_) (by kernel_rfl) (by kernel_rfl) (fun _ _ _ h => h) (Or.inl ⟨by rfl, ?_⟩) (by assumption) ?_; (rotate_left; (intro wS hSw; (try dsimp only at hSw); (try go_simp); (try with_reducible rfl)); rotate_left); simp only [Act.put, List.setIfInBounds_toArray, List.set_cons_zero, List.set_cons_succ]
  refine lin_done (by kernel_rfl) ?_
  replace hF := Lib.hid hF
  clear z0 f0 y0 g0 z1 f1 y1 g1 z2 f2 y2 g2 z3 f3 y3 g3 z4 f4 y4 g4 z5 f5 y5 g5 z6 f6 y6 g6 z7 f7 y7 g7 z8 f8 y8 g8 z9 f9 y9 g9 h7 hS0 hOa
  go_wp2_with fail
  replace hF := hF.out
  obtain ⟨z0, z1, z2, z3, z4, z5, z6, z7, z8, z9⟩ := get10 hF
  generalize (((((((((w6.setCell ⟨zb, 0, none⟩ (.int .i64 kd)).setCell ⟨zb, 1, none⟩ (.int .i64 (B : Int))).setCell ⟨zb, 2, none⟩ (.int .i64 D)).setCell ⟨zb, 3, none⟩ (.int .i64 6)).setCell ⟨zb, 4, none⟩ (.int .i64 t)).setCell ⟨zb, 5, none⟩ (.int .i64 x)).setCell ⟨zb, 6, none⟩ (.int .i64 n)).setCell ⟨zb, 7, none⟩ (.int .i64 h)).setCell ⟨zb, 8, none⟩ (.bool got)).setCell ⟨zb, 9, none⟩ (.bool full) = u3 at *
  have hEnd := hF.sub (.cons _ (.cons _ (List.Sublist.refl _)))
  exact bodyPost_ret (v := .tuple #[.agg #[.int .i64 kd, .int .i64 (B : Int), .int .i64 D, .int .i64 6, .int .i64 t, .int .i64 x, .int .i64 n, .int .i64 h, .bool got, .bool full], .slice ao2 (ms.set B h).length c2]) (by simp [results, Try.results55, go_sem, z0, z1, z2, z3, z4, z5, z6, z7, z8, z9]) rfl ⟨ao2, c2, rfl, hEnd⟩
theorem rs36 {B : Nat} {D : Int} {ms : List Int} (hr : (B : Int) + 4 + D ≤ ms.length ∧ ms.length ≤ 100000) (hD : 2 ≤ D ∧ D ≤ 256) {w0 w : World} {mo : Option Addr} {mc : Nat} {l : List Ast} (hO : Own w0 w (mRow (.slice mo ms.length mc) ms :: l)) (kd t x n h : Int) (got full : Bool) :
    Calls Try.prog 55 #[.agg #[.int .i64 kd, .int .i64 (B : Int), .int .i64 D, .int .i64 6, .int .i64 t, .int .i64 x, .int .i64 n, .int .i64 h, .bool got, .bool full], .slice mo ms.length mc] w fun e w' => ∃ ao' c', e = .returned (.tuple #[.agg #[.int .i64 kd, .int .i64 (B : Int), .int .i64 D, .int .i64 (-1), .int .i64 t, .int .i64 x, .int .i64 n, .int .i64 h, .bool got, .bool full], .slice ao' (ms.set (B + 3) (wrap64 (n + 1))).length c']) ∧ Own w0 w' (mRow (.slice ao' (ms.set (B + 3) (wrap64 (n + 1))).length c') (ms.set (B + 3) (wrap64 (n + 1))) :: l) := by
  have h1 := (hO.box #[.int .i64 kd, .int .i64 (B : Int), .int .i64 D, .int .i64 (-1), .int .i64 t, .int .i64 x, .int .i64 n, .int .i64 h, .bool got, .bool full] 68).box #[.int .i64 0, .int .i64 0, .int .i64 0, .int .i64 0, .int .i64 0, .int .i64 0, .int .i64 0, .int .i64 0, .bool false, .bool false] 68
  rw [alloc_sz] at h1
  have h2 : Own w0 ((w.alloc (.cells #[.int .i64 kd, .int .i64 (B : Int), .int .i64 D, .int .i64 (-1), .int .i64 t, .int .i64 x, .int .i64 n, .int .i64 h, .bool got, .bool full] 68)).alloc (.cells #[.int .i64 0, .int .i64 0, .int .i64 0, .int .i64 0, .int .i64 0, .int .i64 0, .int .i64 0, .int .i64 0, .bool false, .bool false] 68)) (cellsA w.heap.size #[.int .i64 kd, .int .i64 (B : Int), .int .i64 D, .int .i64 (-1), .int .i64 t, .int .i64 x, .int .i64 n, .int .i64 h, .bool got, .bool full] 68 :: cellsA (w.heap.size + 1) #[.int .i64 0, .int .i64 0, .int .i64 0, .int .i64 0, .int .i64 0, .int .i64 0, .int .i64 0, .int .i64 0, .bool false, .bool false] 68 :: mRow (.slice mo ms.length mc) ms :: l) := h1.pm (by
    simp only [List.cons_append, List.append_assoc, List.nil_append]
    exact (List.perm_append_comm (l₁ := mRow (.slice mo ms.length mc) ms :: l) (l₂ := [_, _])))
  have eb : IntKind.i64.wrap ((B : Int) + 3) = ((B + 3 : Nat) : Int) := (IntWalk.i64_in _ (by omega)).trans (by omega)
  have ew : IntKind.i64.wrap (n + 1) = wrap64 (n + 1) := IntWalk.i64_left _
  have RW : Hid (∀ (w1 : World) (rb zb : Nat), Own w0 w1 (cellsA rb #[.int .i64 kd, .int .i64 (B : Int), .int .i64 D, .int .i64 (-1), .int .i64 t, .int .i64 x, .int .i64 n, .int .i64 h, .bool got, .bool full] 68 :: cellsA zb #[.int .i64 0, .int .i64 0, .int .i64 0, .int .i64 0, .int .i64 0, .int .i64 0, .int .i64 0, .int .i64 0, .bool false, .bool false] 68 :: mRow (.slice mo ms.length mc) ms :: l) → Calls Try.prog 70 #[.slice mo ms.length mc, .int .i64 (((B + 3) : Nat) : Int), .int .i64 (wrap64 (n + 1))] w1 (fun e w' => ∃ ao' c', e = .returned (.slice ao' (ms.set (B + 3) (wrap64 (n + 1))).length c') ∧ Own w0 w' (cellsA rb #[.int .i64 kd, .int .i64 (B : Int), .int .i64 D, .int .i64 (-1), .int .i64 t, .int .i64 x, .int .i64 n, .int .i64 h, .bool got, .bool full] 68 :: cellsA zb #[.int .i64 0, .int .i64 0, .int .i64 0, .int .i64 0, .int .i64 0, .int .i64 0, .int .i64 0, .int .i64 0, .bool false, .bool false] 68 :: mRow (.slice ao' (ms.set (B + 3) (wrap64 (n + 1))).length c') (ms.set (B + 3) (wrap64 (n + 1))) :: l))) := Lib.hid (fun w1 rb zb h' => by
    refine (rwith (k := (B + 3)) (h'.pm pm3) (by omega) (by omega) (wrap64 (n + 1)) _ rfl).mono ?_
    rintro e w' ⟨ao', c', he, hw⟩
    exact ⟨ao', c', he, hw.pm pm3'⟩)
  clear h1 hO
  go_enter Try.func55, Try.ntmps55
  go_upto_region 31 with fail
  generalize (w.alloc (.cells #[.int .i64 kd, .int .i64 (B : Int), .int .i64 D, .int .i64 (-1), .int .i64 t, .int .i64 x, .int .i64 n, .int .i64 h, .bool got, .bool full] 68)).alloc (.cells #[.int .i64 0, .int .i64 0, .int .i64 0, .int .i64 0, .int .i64 0, .int .i64 0, .int .i64 0, .int .i64 0, .bool false, .bool false] 68) = u at *
  generalize w.heap.size + 1 = zb at *
  generalize w.heap.size = rb at *
  have hcur := h2
  clear h2
  replace RW := Lib.hid (fun w1 => RW.out w1 rb zb)
  have hOa := hcur.drewN 1
  have hS0 := (show (fun w' : World => w'.cell? ⟨rb, 0, none⟩ = some (.int .i64 kd) ∧ w'.cell? ⟨rb, 1, none⟩ = some (.int .i64 (B : Int)) ∧ w'.cell? ⟨rb, 2, none⟩ = some (.int .i64 D) ∧ w'.cell? ⟨rb, 3, none⟩ = some (.int .i64 (-1)) ∧ w'.cell? ⟨rb, 4, none⟩ = some (.int .i64 t) ∧ w'.cell? ⟨rb, 5, none⟩ = some (.int .i64 x) ∧ w'.cell? ⟨rb, 6, none⟩ = some (.int .i64 n) ∧ w'.cell? ⟨rb, 7, none⟩ = some (.int .i64 h) ∧ w'.cell? ⟨rb, 8, none⟩ = some (.bool got) ∧ w'.cell? ⟨rb, 9, none⟩ = some (.bool full)) _ from get10a hOa)
  clear hcur
  refine lin_start (S := (fun w' : World => w'.cell? ⟨rb, 0, none⟩ = some (.int .i64 kd) ∧ w'.cell? ⟨rb, 1, none⟩ = some (.int .i64 (B : Int)) ∧ w'.cell? ⟨rb, 2, none⟩ = some (.int .i64 D) ∧ w'.cell? ⟨rb, 3, none⟩ = some (.int .i64 (-1)) ∧ w'.cell? ⟨rb, 4, none⟩ = some (.int .i64 t) ∧ w'.cell? ⟨rb, 5, none⟩ = some (.int .i64 x) ∧ w'.cell? ⟨rb, 6, none⟩ = some (.int .i64 n) ∧ w'.cell? ⟨rb, 7, none⟩ = some (.int .i64 h) ∧ w'.cell? ⟨rb, 8, none⟩ = some (.bool got) ∧ w'.cell? ⟨rb, 9, none⟩ = some (.bool full))) rfl 11 rfl hS0 ?_
  simp only [numbered, Nat.zero_add, Nat.reduceAdd]
  refine lin_take (v := ?_) (by kernel_rfl) (by kernel_rfl) (fun _ _ _ h => h) (Or.inl ⟨by rfl, ?_⟩) (by assumption) ?_; (rotate_left; (intro wS hSw; (try dsimp only at hSw); (try go_simp); (try with_reducible rfl)); rotate_left); simp only [Act.put, List.setIfInBounds_toArray, List.set_cons_zero, List.set_cons_succ]
  refine lin_take (v := ?_) (by kernel_rfl) (by kernel_rfl) (fun _ _ _ h => h) (Or.inl ⟨by rfl, ?_⟩) (by assumption) ?_; (rotate_left; (intro wS hSw; (try dsimp only at hSw); (try go_simp); (try with_reducible rfl)); rotate_left); simp only [Act.put, List.setIfInBounds_toArray, List.set_cons_zero, List.set_cons_succ]
  refine lin_take (v := ?_) (by kernel_rfl) (by kernel_rfl) (fun _ _ _ h => h) (Or.inl ⟨by rfl, ?_⟩) (by assumption) ?_; (rotate_left; (intro wS hSw; (try dsimp only at hSw); (try go_simp); (try with_reducible rfl)); rotate_left); simp only [Act.put, List.setIfInBounds_toArray, List.set_cons_zero, List.set_cons_succ]
  refine lin_take (v := ?_) (by kernel_rfl) (by kernel_rfl) (fun _ _ _ h => h) (Or.inl ⟨by rfl, ?_⟩) (by assumption) ?_; (rotate_left; (intro wS hSw; (try dsimp only at hSw); (try go_simp); (try with_reducible rfl)); rotate_left); simp only [Act.put, List.setIfInBounds_toArray, List.set_cons_zero, List.set_cons_succ]
  refine lin_take (v := ?_) (by kernel_rfl) (by kernel_rfl) (fun _ _ _ h => h) (Or.inl ⟨by rfl, ?_⟩) (by assumption) ?_; (rotate_left; (intro wS hSw; (try dsimp only at hSw); (try go_simp); (try with_reducible rfl)); rotate_left); simp only [Act.put, List.setIfInBounds_toArray, List.set_cons_zero, List.set_cons_succ]
  refine lin_take (v := ?_) (by kernel_rfl) (by kernel_rfl) (fun _ _ _ h => h) (Or.inl ⟨by rfl, ?_⟩) (by assumption) ?_; (rotate_left; (intro wS hSw; (try dsimp only at hSw); (try go_simp); (try with_reducible rfl)); rotate_left); simp only [Act.put, List.setIfInBounds_toArray, List.set_cons_zero, List.set_cons_succ]
  refine lin_take (v := ?_) (by kernel_rfl) (by kernel_rfl) (fun _ _ _ h => h) (Or.inl ⟨by rfl, ?_⟩) (by assumption) ?_; (rotate_left; (intro wS hSw; (try dsimp only at hSw); (try go_simp); (try with_reducible rfl)); rotate_left); simp only [Act.put, List.setIfInBounds_toArray, List.set_cons_zero, List.set_cons_succ]
  refine lin_take (v := ?_) (by kernel_rfl) (by kernel_rfl) (fun _ _ _ h => h) (Or.inl ⟨by rfl, ?_⟩) (by assumption) ?_; (rotate_left; (intro wS hSw; (try dsimp only at hSw); (try go_simp); (try with_reducible rfl)); rotate_left); simp only [Act.put, List.setIfInBounds_toArray, List.set_cons_zero, List.set_cons_succ]
  refine lin_sole (by kernel_rfl) (fun K hK => ?_)
  go_simp
  refine (RW.out _ hOa).mono ?_
  rintro e w6 ⟨ao2, c2, rfl, h7⟩
  refine hK.out _ _ (get10a h7) (fun hHeld => ?_)
  try simp only [Act.put, List.setIfInBounds_toArray, List.set_cons_zero, List.set_cons_succ]
  clear hK
  obtain ⟨z0, z1, z2, z3, z4, z5, z6, z7, z8, z9⟩ := get10 h7
  obtain ⟨f0, f1, f2, f3, f4, f5, f6, f7, f8, f9⟩ := get10f h7
  have y0 : w6.drew.cell? ⟨zb, 0, none⟩ = _ := z0
  have y1 : w6.drew.cell? ⟨zb, 1, none⟩ = _ := z1
  have y2 : w6.drew.cell? ⟨zb, 2, none⟩ = _ := z2
  have y3 : w6.drew.cell? ⟨zb, 3, none⟩ = _ := z3
  have y4 : w6.drew.cell? ⟨zb, 4, none⟩ = _ := z4
  have y5 : w6.drew.cell? ⟨zb, 5, none⟩ = _ := z5
  have y6 : w6.drew.cell? ⟨zb, 6, none⟩ = _ := z6
  have y7 : w6.drew.cell? ⟨zb, 7, none⟩ = _ := z7
  have y8 : w6.drew.cell? ⟨zb, 8, none⟩ = _ := z8
  have y9 : w6.drew.cell? ⟨zb, 9, none⟩ = _ := z9
  have g0 : w6.drew.frozen? ⟨zb, 0, none⟩ = false := f0
  have g1 : w6.drew.frozen? ⟨zb, 1, none⟩ = false := f1
  have g2 : w6.drew.frozen? ⟨zb, 2, none⟩ = false := f2
  have g3 : w6.drew.frozen? ⟨zb, 3, none⟩ = false := f3
  have g4 : w6.drew.frozen? ⟨zb, 4, none⟩ = false := f4
  have g5 : w6.drew.frozen? ⟨zb, 5, none⟩ = false := f5
  have g6 : w6.drew.frozen? ⟨zb, 6, none⟩ = false := f6
  have g7 : w6.drew.frozen? ⟨zb, 7, none⟩ = false := f7
  have g8 : w6.drew.frozen? ⟨zb, 8, none⟩ = false := f8
  have g9 : w6.drew.frozen? ⟨zb, 9, none⟩ = false := f9
  have hF := set10 h7 (.int .i64 kd) (.int .i64 (B : Int)) (.int .i64 D) (.int .i64 (-1)) (.int .i64 t) (.int .i64 x) (.int .i64 n) (.int .i64 h) (.bool got) (.bool full)
  refine lin_sole (by kernel_rfl) (fun K hK => ?_)
  go_simp
  refine hK.out _ _ (get10a hF) (fun hHeld => ?_)
  try simp only [Act.put, List.setIfInBounds_toArray, List.set_cons_zero, List.set_cons_succ]
  clear hK
  refine lin_take (v := ?_) (by kernel_rfl) (by kernel_rfl) (fun _ _ _ h => h) (Or.inl ⟨by rfl, ?_⟩) (by assumption) ?_; (rotate_left; (intro wS hSw; (try dsimp only at hSw); (try go_simp); (try with_reducible rfl)); rotate_left); simp only [Act.put, List.setIfInBounds_toArray, List.set_cons_zero, List.set_cons_succ]
  refine lin_done (by kernel_rfl) ?_
  replace hF := Lib.hid hF
  clear z0 f0 y0 g0 z1 f1 y1 g1 z2 f2 y2 g2 z3 f3 y3 g3 z4 f4 y4 g4 z5 f5 y5 g5 z6 f6 y6 g6 z7 f7 y7 g7 z8 f8 y8 g8 z9 f9 y9 g9 h7 hS0 hOa
  go_wp2_with fail
  replace hF := hF.out
  obtain ⟨z0, z1, z2, z3, z4, z5, z6, z7, z8, z9⟩ := get10 hF
  generalize (((((((((w6.setCell ⟨zb, 0, none⟩ (.int .i64 kd)).setCell ⟨zb, 1, none⟩ (.int .i64 (B : Int))).setCell ⟨zb, 2, none⟩ (.int .i64 D)).setCell ⟨zb, 3, none⟩ (.int .i64 (-1))).setCell ⟨zb, 4, none⟩ (.int .i64 t)).setCell ⟨zb, 5, none⟩ (.int .i64 x)).setCell ⟨zb, 6, none⟩ (.int .i64 n)).setCell ⟨zb, 7, none⟩ (.int .i64 h)).setCell ⟨zb, 8, none⟩ (.bool got)).setCell ⟨zb, 9, none⟩ (.bool full) = u3 at *
  have hEnd := hF.sub (.cons _ (.cons _ (List.Sublist.refl _)))
  exact bodyPost_ret (v := .tuple #[.agg #[.int .i64 kd, .int .i64 (B : Int), .int .i64 D, .int .i64 (-1), .int .i64 t, .int .i64 x, .int .i64 n, .int .i64 h, .bool got, .bool full], .slice ao2 (ms.set (B + 3) (wrap64 (n + 1))).length c2]) (by simp [results, Try.results55, go_sem, z0, z1, z2, z3, z4, z5, z6, z7, z8, z9]) rfl ⟨ao2, c2, rfl, hEnd⟩
theorem rs13 {B : Nat} {D : Int} {ms : List Int} (hr : (B : Int) + 4 + D ≤ ms.length ∧ ms.length ≤ 100000) (hD : 2 ≤ D ∧ D ≤ 256) {w0 w : World} {mo : Option Addr} {mc : Nat} {l : List Ast} (hO : Own w0 w (mRow (.slice mo ms.length mc) ms :: l)) (kd t x n h : Int) (got full : Bool) (Y : Int) (hY : ms.getD (B + 2) 0 = Y) :
    Calls Try.prog 54 #[.agg #[.int .i64 kd, .int .i64 (B : Int), .int .i64 D, .int .i64 3, .int .i64 t, .int .i64 x, .int .i64 n, .int .i64 h, .bool got, .bool full], .slice mo ms.length mc] w fun e w' => ∃ ao' c', e = .returned (.tuple #[.agg #[.int .i64 kd, .int .i64 (B : Int), .int .i64 D, .int .i64 4, .int .i64 t, .int .i64 x, .int .i64 Y, .int .i64 h, .bool got, .bool full], .slice ao' (ms.set (B + 2) (wrap64 (Y + 1))).length c']) ∧ Own w0 w' (mRow (.slice ao' (ms.set (B + 2) (wrap64 (Y + 1))).length c') (ms.set (B + 2) (wrap64 (Y + 1))) :: l) := by
  have h1 := (hO.box #[.int .i64 kd, .int .i64 (B : Int), .int .i64 D, .int .i64 4, .int .i64 t, .int .i64 x, .int .i64 Y, .int .i64 h, .bool got, .bool full] 68).box #[.int .i64 0, .int .i64 0, .int .i64 0, .int .i64 0, .int .i64 0, .int .i64 0, .int .i64 0, .int .i64 0, .bool false, .bool false] 68
  rw [alloc_sz] at h1
  have h2 : Own w0 ((w.alloc (.cells #[.int .i64 kd, .int .i64 (B : Int), .int .i64 D, .int .i64 4, .int .i64 t, .int .i64 x, .int .i64 Y, .int .i64 h, .bool got, .bool full] 68)).alloc (.cells #[.int .i64 0, .int .i64 0, .int .i64 0, .int .i64 0, .int .i64 0, .int .i64 0, .int .i64 0, .int .i64 0, .bool false, .bool false] 68)) (cellsA w.heap.size #[.int .i64 kd, .int .i64 (B : Int), .int .i64 D, .int .i64 4, .int .i64 t, .int .i64 x, .int .i64 Y, .int .i64 h, .bool got, .bool full] 68 :: cellsA (w.heap.size + 1) #[.int .i64 0, .int .i64 0, .int .i64 0, .int .i64 0, .int .i64 0, .int .i64 0, .int .i64 0, .int .i64 0, .bool false, .bool false] 68 :: mRow (.slice mo ms.length mc) ms :: l) := h1.pm (by
    simp only [List.cons_append, List.append_assoc, List.nil_append]
    exact (List.perm_append_comm (l₁ := mRow (.slice mo ms.length mc) ms :: l) (l₂ := [_, _])))
  have eb : IntKind.i64.wrap ((B : Int) + 2) = ((B + 2 : Nat) : Int) := (IntWalk.i64_in _ (by omega)).trans (by omega)
  have ew : IntKind.i64.wrap (Y + 1) = wrap64 (Y + 1) := IntWalk.i64_left _
  have eb2 : wrap64 ((B : Int) + 2) = ((B + 2 : Nat) : Int) := (IntWalk.wrap64_in _ (by omega)).trans (by omega)
  have W0 := Lib.hid (rword (Lies.of_row (((hO.alloc (.cells #[.int .i64 kd, .int .i64 (B : Int), .int .i64 D, .int .i64 3, .int .i64 t, .int .i64 x, .int .i64 n, .int .i64 h, .bool got, .bool full] 68)).alloc (.cells #[.int .i64 0, .int .i64 0, .int .i64 0, .int .i64 0, .int .i64 0, .int .i64 0, .int .i64 0, .int .i64 0, .bool false, .bool false] 68)).row 0 rfl) rfl) (k := B + 2) (by omega) Y hY)
  clear hY
  have RW : Hid (∀ (w1 : World) (rb zb : Nat), Own w0 w1 (cellsA rb #[.int .i64 kd, .int .i64 (B : Int), .int .i64 D, .int .i64 4, .int .i64 t, .int .i64 x, .int .i64 Y, .int .i64 h, .bool got, .bool full] 68 :: cellsA zb #[.int .i64 0, .int .i64 0, .int .i64 0, .int .i64 0, .int .i64 0, .int .i64 0, .int .i64 0, .int .i64 0, .bool false, .bool false] 68 :: mRow (.slice mo ms.length mc) ms :: l) → Calls Try.prog 70 #[.slice mo ms.length mc, .int .i64 (((B + 2) : Nat) : Int), .int .i64 (wrap64 (Y + 1))] w1 (fun e w' => ∃ ao' c', e = .returned (.slice ao' (ms.set (B + 2) (wrap64 (Y + 1))).length c') ∧ Own w0 w' (cellsA rb #[.int .i64 kd, .int .i64 (B : Int), .int .i64 D, .int .i64 4, .int .i64 t, .int .i64 x, .int .i64 Y, .int .i64 h, .bool got, .bool full] 68 :: cellsA zb #[.int .i64 0, .int .i64 0, .int .i64 0, .int .i64 0, .int .i64 0, .int .i64 0, .int .i64 0, .int .i64 0, .bool false, .bool false] 68 :: mRow (.slice ao' (ms.set (B + 2) (wrap64 (Y + 1))).length c') (ms.set (B + 2) (wrap64 (Y + 1))) :: l))) := Lib.hid (fun w1 rb zb h' => by
    refine (rwith (k := (B + 2)) (h'.pm pm3) (by omega) (by omega) (wrap64 (Y + 1)) _ rfl).mono ?_
    rintro e w' ⟨ao', c', he, hw⟩
    exact ⟨ao', c', he, hw.pm pm3'⟩)
  clear h1 hO
  go_enter Try.func54, Try.ntmps54
  go_upto_region 17 with (go_at_call 69; refine W0.out.mono ?_; rintro e w1 ⟨rfl, rfl⟩)
  generalize (w.alloc (.cells #[.int .i64 kd, .int .i64 (B : Int), .int .i64 D, .int .i64 4, .int .i64 t, .int .i64 x, .int .i64 Y, .int .i64 h, .bool got, .bool full] 68)).alloc (.cells #[.int .i64 0, .int .i64 0, .int .i64 0, .int .i64 0, .int .i64 0, .int .i64 0, .int .i64 0, .int .i64 0, .bool false, .bool false] 68) = u at *
  generalize w.heap.size + 1 = zb at *
  generalize w.heap.size = rb at *
  have hcur := h2
  clear h2
  replace RW := Lib.hid (fun w1 => RW.out w1 rb zb)
  have hOa := hcur.drewN 1
  have hS0 := (show (fun w' : World => w'.cell? ⟨rb, 0, none⟩ = some (.int .i64 kd) ∧ w'.cell? ⟨rb, 1, none⟩ = some (.int .i64 (B : Int)) ∧ w'.cell? ⟨rb, 2, none⟩ = some (.int .i64 D) ∧ w'.cell? ⟨rb, 3, none⟩ = some (.int .i64 4) ∧ w'.cell? ⟨rb, 4, none⟩ = some (.int .i64 t) ∧ w'.cell? ⟨rb, 5, none⟩ = some (.int .i64 x) ∧ w'.cell? ⟨rb, 6, none⟩ = some (.int .i64 Y) ∧ w'.cell? ⟨rb, 7, none⟩ = some (.int .i64 h) ∧ w'.cell? ⟨rb, 8, none⟩ = some (.bool got) ∧ w'.cell? ⟨rb, 9, none⟩ = some (.bool full)) _ from get10a hOa)
  clear hcur
  refine lin_start (S := (fun w' : World => w'.cell? ⟨rb, 0, none⟩ = some (.int .i64 kd) ∧ w'.cell? ⟨rb, 1, none⟩ = some (.int .i64 (B : Int)) ∧ w'.cell? ⟨rb, 2, none⟩ = some (.int .i64 D) ∧ w'.cell? ⟨rb, 3, none⟩ = some (.int .i64 4) ∧ w'.cell? ⟨rb, 4, none⟩ = some (.int .i64 t) ∧ w'.cell? ⟨rb, 5, none⟩ = some (.int .i64 x) ∧ w'.cell? ⟨rb, 6, none⟩ = some (.int .i64 Y) ∧ w'.cell? ⟨rb, 7, none⟩ = some (.int .i64 h) ∧ w'.cell? ⟨rb, 8, none⟩ = some (.bool got) ∧ w'.cell? ⟨rb, 9, none⟩ = some (.bool full))) rfl 11 rfl hS0 ?_
  simp only [numbered, Nat.zero_add, Nat.reduceAdd]
  refine lin_take (v := ?_) (by kernel_rfl) (by kernel_rfl) (fun _ _ _ h => h) (Or.inl ⟨by rfl, ?_⟩) (by assumption) ?_; (rotate_left; (intro wS hSw; (try dsimp only at hSw); (try go_simp); (try with_reducible rfl)); rotate_left); simp only [Act.put, List.setIfInBounds_toArray, List.set_cons_zero, List.set_cons_succ]
  refine lin_take (v := ?_) (by kernel_rfl) (by kernel_rfl) (fun _ _ _ h => h) (Or.inl ⟨by rfl, ?_⟩) (by assumption) ?_; (rotate_left; (intro wS hSw; (try dsimp only at hSw); (try go_simp); (try with_reducible rfl)); rotate_left); simp only [Act.put, List.setIfInBounds_toArray, List.set_cons_zero, List.set_cons_succ]
  refine lin_take (v := ?_) (by kernel_rfl) (by kernel_rfl) (fun _ _ _ h => h) (Or.inl ⟨by rfl, ?_⟩) (by assumption) ?_; (rotate_left; (intro wS hSw; (try dsimp only at hSw); (try go_simp); (try with_reducible rfl)); rotate_left); simp only [Act.put, List.setIfInBounds_toArray, List.set_cons_zero, List.set_cons_succ]
  refine lin_take (v := ?_) (by kernel_rfl) (by kernel_rfl) (fun _ _ _ h => h) (Or.inl ⟨by rfl, ?_⟩) (by assumption) ?_; (rotate_left; (intro wS hSw; (try dsimp only at hSw); (try go_simp); (try with_reducible rfl)); rotate_left); simp only [Act.put, List.setIfInBounds_toArray, List.set_cons_zero, List.set_cons_succ]
  refine lin_take (v := ?_) (by kernel_rfl) (by kernel_rfl) (fun _ _ _ h => h) (Or.inl ⟨by rfl, ?_⟩) (by assumption) ?_; (rotate_left; (intro wS hSw; (try dsimp only at hSw); (try go_simp); (try with_reducible rfl)); rotate_left); simp only [Act.put, List.setIfInBounds_toArray, List.set_cons_zero, List.set_cons_succ]
  refine lin_take (v := ?_) (by kernel_rfl) (by kernel_rfl) (fun _ _ _ h => h) (Or.inl ⟨by rfl, ?_⟩) (by assumption) ?_; (rotate_left; (intro wS hSw; (try dsimp only at hSw); (try go_simp); (try with_reducible rfl)); rotate_left); simp only [Act.put, List.setIfInBounds_toArray, List.set_cons_zero, List.set_cons_succ]
  refine lin_take (v := ?_) (by kernel_rfl) (by kernel_rfl) (fun _ _ _ h => h) (Or.inl ⟨by rfl, ?_⟩) (by assumption) ?_; (rotate_left; (intro wS hSw; (try dsimp only at hSw); (try go_simp); (try with_reducible rfl)); rotate_left); simp only [Act.put, List.setIfInBounds_toArray, List.set_cons_zero, List.set_cons_succ]
  refine lin_take (v := ?_) (by kernel_rfl) (by kernel_rfl) (fun _ _ _ h => h) (Or.inl ⟨by rfl, ?_⟩) (by assumption) ?_; (rotate_left; (intro wS hSw; (try dsimp only at hSw); (try go_simp); (try with_reducible rfl)); rotate_left); simp only [Act.put, List.setIfInBounds_toArray, List.set_cons_zero, List.set_cons_succ]
  refine lin_sole (by kernel_rfl) (fun K hK => ?_)
  go_simp
  refine (RW.out _ hOa).mono ?_
  rintro e w6 ⟨ao2, c2, rfl, h7⟩
  refine hK.out _ _ (get10a h7) (fun hHeld => ?_)
  try simp only [Act.put, List.setIfInBounds_toArray, List.set_cons_zero, List.set_cons_succ]
  clear hK
  obtain ⟨z0, z1, z2, z3, z4, z5, z6, z7, z8, z9⟩ := get10 h7
  obtain ⟨f0, f1, f2, f3, f4, f5, f6, f7, f8, f9⟩ := get10f h7
  have y0 : w6.drew.cell? ⟨zb, 0, none⟩ = _ := z0
  have y1 : w6.drew.cell? ⟨zb, 1, none⟩ = _ := z1
  have y2 : w6.drew.cell? ⟨zb, 2, none⟩ = _ := z2
  have y3 : w6.drew.cell? ⟨zb, 3, none⟩ = _ := z3
  have y4 : w6.drew.cell? ⟨zb, 4, none⟩ = _ := z4
  have y5 : w6.drew.cell? ⟨zb, 5, none⟩ = _ := z5
  have y6 : w6.drew.cell? ⟨zb, 6, none⟩ = _ := z6
  have y7 : w6.drew.cell? ⟨zb, 7, none⟩ = _ := z7
  have y8 : w6.drew.cell? ⟨zb, 8, none⟩ = _ := z8
  have y9 : w6.drew.cell? ⟨zb, 9, none⟩ = _ := z9
  have g0 : w6.drew.frozen? ⟨zb, 0, none⟩ = false := f0
  have g1 : w6.drew.frozen? ⟨zb, 1, none⟩ = false := f1
  have g2 : w6.drew.frozen? ⟨zb, 2, none⟩ = false := f2
  have g3 : w6.drew.frozen? ⟨zb, 3, none⟩ = false := f3
  have g4 : w6.drew.frozen? ⟨zb, 4, none⟩ = false := f4
  have g5 : w6.drew.frozen? ⟨zb, 5, none⟩ = false := f5
  have g6 : w6.drew.frozen? ⟨zb, 6, none⟩ = false := f6
  have g7 : w6.drew.frozen? ⟨zb, 7, none⟩ = false := f7
  have g8 : w6.drew.frozen? ⟨zb, 8, none⟩ = false := f8
  have g9 : w6.drew.frozen? ⟨zb, 9, none⟩ = false := f9
  have hF := set10 h7 (.int .i64 kd) (.int .i64 (B : Int)) (.int .i64 D) (.int .i64 4) (.int .i64 t) (.int .i64 x) (.int .i64 Y) (.int .i64 h) (.bool got) (.bool full)
  refine lin_sole (by kernel_rfl) (fun K hK => ?_)
  go_simp
  refine hK.out _ _ (get10a hF) (fun hHeld => ?_)
  try simp only [Act.put, List.setIfInBounds_toArray, List.set_cons_zero, List.set_cons_succ]
  clear hK
  refine lin_take (v := ?_) (by kernel_rfl) (by kernel_rfl) (fun _ _ _ h => h) (Or.inl ⟨by rfl, ?_⟩) (by assumption) ?_; (rotate_left; (intro wS hSw; (try dsimp only at hSw); (try go_simp); (try with_reducible rfl)); rotate_left); simp only [Act.put, List.setIfInBounds_toArray, List.set_cons_zero, List.set_cons_succ]
  refine lin_done (by kernel_rfl) ?_
  replace hF := Lib.hid hF
  clear z0 f0 y0 g0 z1 f1 y1 g1 z2 f2 y2 g2 z3 f3 y3 g3 z4 f4 y4 g4 z5 f5 y5 g5 z6 f6 y6 g6 z7 f7 y7 g7 z8 f8 y8 g8 z9 f9 y9 g9 h7 hS0 hOa
  go_wp2_with fail
  replace hF := hF.out
  obtain ⟨z0, z1, z2, z3, z4, z5, z6, z7, z8, z9⟩ := get10 hF
  generalize (((((((((w6.setCell ⟨zb, 0, none⟩ (.int .i64 kd)).setCell ⟨zb, 1, none⟩ (.int .i64 (B : Int))).setCell ⟨zb, 2, none⟩ (.int .i64 D)).setCell ⟨zb, 3, none⟩ (.int .i64 4)).setCell ⟨zb, 4, none⟩ (.int .i64 t)).setCell ⟨zb, 5, none⟩ (.int .i64 x)).setCell ⟨zb, 6, none⟩ (.int .i64 Y)).setCell ⟨zb, 7, none⟩ (.int .i64 h)).setCell ⟨zb, 8, none⟩ (.bool got)).setCell ⟨zb, 9, none⟩ (.bool full) = u3 at *
  have hEnd := hF.sub (.cons _ (.cons _ (List.Sublist.refl _)))
  exact bodyPost_ret (v := .tuple #[.agg #[.int .i64 kd, .int .i64 (B : Int), .int .i64 D, .int .i64 4, .int .i64 t, .int .i64 x, .int .i64 Y, .int .i64 h, .bool got, .bool full], .slice ao2 (ms.set (B + 2) (wrap64 (Y + 1))).length c2]) (by simp [results, Try.results54, go_sem, z0, z1, z2, z3, z4, z5, z6, z7, z8, z9]) rfl ⟨ao2, c2, rfl, hEnd⟩
theorem rs30 {B : Nat} {D : Int} {ms : List Int} (hr : (B : Int) + 4 + D ≤ ms.length ∧ ms.length ≤ 100000) (hD : 2 ≤ D ∧ D ≤ 256) {w0 w : World} {mo : Option Addr} {mc : Nat} {l : List Ast} (hO : Own w0 w (mRow (.slice mo ms.length mc) ms :: l)) (kd t x n h : Int) (got full : Bool) (Y : Int) (hY : ms.getD (B + 2) 0 = Y) :
    Calls Try.prog 55 #[.agg #[.int .i64 kd, .int .i64 (B : Int), .int .i64 D, .int .i64 0, .int .i64 t, .int .i64 x, .int .i64 n, .int .i64 h, .bool got, .bool full], .slice mo ms.length mc] w fun e w' => ∃ ao' c', e = .returned (.tuple #[.agg #[.int .i64 kd, .int .i64 (B : Int), .int .i64 D, .int .i64 1, .int .i64 t, .int .i64 x, .int .i64 Y, .int .i64 h, .bool got, .bool full], .slice ao' (ms.set (B + 2) (wrap64 (Y + 1))).length c']) ∧ Own w0 w' (mRow (.slice ao' (ms.set (B + 2) (wrap64 (Y + 1))).length c') (ms.set (B + 2) (wrap64 (Y + 1))) :: l) := by
  have h1 := (hO.box #[.int .i64 kd, .int .i64 (B : Int), .int .i64 D, .int .i64 1, .int .i64 t, .int .i64 x, .int .i64 Y, .int .i64 h, .bool got, .bool full] 68).box #[.int .i64 0, .int .i64 0, .int .i64 0, .int .i64 0, .int .i64 0, .int .i64 0, .int .i64 0, .int .i64 0, .bool false, .bool false] 68
  rw [alloc_sz] at h1
  have h2 : Own w0 ((w.alloc (.cells #[.int .i64 kd, .int .i64 (B : Int), .int .i64 D, .int .i64 1, .int .i64 t, .int .i64 x, .int .i64 Y, .int .i64 h, .bool got, .bool full] 68)).alloc (.cells #[.int .i64 0, .int .i64 0, .int .i64 0, .int .i64 0, .int .i64 0, .int .i64 0, .int .i64 0, .int .i64 0, .bool false, .bool false] 68)) (cellsA w.heap.size #[.int .i64 kd, .int .i64 (B : Int), .int .i64 D, .int .i64 1, .int .i64 t, .int .i64 x, .int .i64 Y, .int .i64 h, .bool got, .bool full] 68 :: cellsA (w.heap.size + 1) #[.int .i64 0, .int .i64 0, .int .i64 0, .int .i64 0, .int .i64 0, .int .i64 0, .int .i64 0, .int .i64 0, .bool false, .bool false] 68 :: mRow (.slice mo ms.length mc) ms :: l) := h1.pm (by
    simp only [List.cons_append, List.append_assoc, List.nil_append]
    exact (List.perm_append_comm (l₁ := mRow (.slice mo ms.length mc) ms :: l) (l₂ := [_, _])))
  have eb : IntKind.i64.wrap ((B : Int) + 2) = ((B + 2 : Nat) : Int) := (IntWalk.i64_in _ (by omega)).trans (by omega)
  have ew : IntKind.i64.wrap (Y + 1) = wrap64 (Y + 1) := IntWalk.i64_left _
  have eb2 : wrap64 ((B : Int) + 2) = ((B + 2 : Nat) : Int) := (IntWalk.wrap64_in _ (by omega)).trans (by omega)
  have W0 := Lib.hid (rword (Lies.of_row (((hO.alloc (.cells #[.int .i64 kd, .int .i64 (B : Int), .int .i64 D, .int .i64 0, .int .i64 t, .int .i64 x, .int .i64 n, .int .i64 h, .bool got, .bool full] 68)).alloc (.cells #[.int .i64 0, .int .i64 0, .int .i64 0, .int .i64 0, .int .i64 0, .int .i64 0, .int .i64 0, .int .i64 0, .bool false, .bool false] 68)).row 0 rfl) rfl) (k := B + 2) (by omega) Y hY)
  clear hY
  have RW : Hid (∀ (w1 : World) (rb zb : Nat), Own w0 w1 (cellsA rb #[.int .i64 kd, .int .i64 (B : Int), .int .i64 D, .int .i64 1, .int .i64 t, .int .i64 x, .int .i64 Y, .int .i64 h, .bool got, .bool full] 68 :: cellsA zb #[.int .i64 0, .int .i64 0, .int .i64 0, .int .i64 0, .int .i64 0, .int .i64 0, .int .i64 0, .int .i64 0, .bool false, .bool false] 68 :: mRow (.slice mo ms.length mc) ms :: l) → Calls Try.prog 70 #[.slice mo ms.length mc, .int .i64 (((B + 2) : Nat) : Int), .int .i64 (wrap64 (Y + 1))] w1 (fun e w' => ∃ ao' c', e = .returned (.slice ao' (ms.set (B + 2) (wrap64 (Y + 1))).length c') ∧ Own w0 w' (cellsA rb #[.int .i64 kd, .int .i64 (B : Int), .int .i64 D, .int .i64 1, .int .i64 t, .int .i64 x, .int .i64 Y, .int .i64 h, .bool got, .bool full] 68 :: cellsA zb #[.int .i64 0, .int .i64 0, .int .i64 0, .int .i64 0, .int .i64 0, .int .i64 0, .int .i64 0, .int .i64 0, .bool false, .bool false] 68 :: mRow (.slice ao' (ms.set (B + 2) (wrap64 (Y + 1))).length c') (ms.set (B + 2) (wrap64 (Y + 1))) :: l))) := Lib.hid (fun w1 rb zb h' => by
    refine (rwith (k := (B + 2)) (h'.pm pm3) (by omega) (by omega) (wrap64 (Y + 1)) _ rfl).mono ?_
    rintro e w' ⟨ao', c', he, hw⟩
    exact ⟨ao', c', he, hw.pm pm3'⟩)
  clear h1 hO
  go_enter Try.func55, Try.ntmps55
  go_upto_region 5 with (go_at_call 69; refine W0.out.mono ?_; rintro e w1 ⟨rfl, rfl⟩)
  generalize (w.alloc (.cells #[.int .i64 kd, .int .i64 (B : Int), .int .i64 D, .int .i64 1, .int .i64 t, .int .i64 x, .int .i64 Y, .int .i64 h, .bool got, .bool full] 68)).alloc (.cells #[.int .i64 0, .int .i64 0, .int .i64 0, .int .i64 0, .int .i64 0, .int .i64 0, .int .i64 0, .int .i64 0, .bool false, .bool false] 68) = u at *
  generalize w.heap.size + 1 = zb at *
  generalize w.heap.size = rb at *
  have hcur := h2
  clear h2
  replace RW := Lib.hid (fun w1 => RW.out w1 rb zb)
  have hOa := hcur.drewN 1
  have hS0 := (show (fun w' : World => w'.cell? ⟨rb, 0, none⟩ = some (.int .i64 kd) ∧ w'.cell? ⟨rb, 1, none⟩ = some (.int .i64 (B : Int)) ∧ w'.cell? ⟨rb, 2, none⟩ = some (.int .i64 D) ∧ w'.cell? ⟨rb, 3, none⟩ = some (.int .i64 1) ∧ w'.cell? ⟨rb, 4, none⟩ = some (.int .i64 t) ∧ w'.cell? ⟨rb, 5, none⟩ = some (.int .i64 x) ∧ w'.cell? ⟨rb, 6, none⟩ = some (.int .i64 Y) ∧ w'.cell? ⟨rb, 7, none⟩ = some (.int .i64 h) ∧ w'.cell? ⟨rb, 8, none⟩ = some (.bool got) ∧ w'.cell? ⟨rb, 9, none⟩ = some (.bool full)) _ from get10a hOa)
  clear hcur
  refine lin_start (S := (fun w' : World => w'.cell? ⟨rb, 0, none⟩ = some (.int .i64 kd) ∧ w'.cell? ⟨rb, 1, none⟩ = some (.int .i64 (B : Int)) ∧ w'.cell? ⟨rb, 2, none⟩ = some (.int .i64 D) ∧ w'.cell? ⟨rb, 3, none⟩ = some (.int .i64 1) ∧ w'.cell? ⟨rb, 4, none⟩ = some (.int .i64 t) ∧ w'.cell? ⟨rb, 5, none⟩ = some (.int .i64 x) ∧ w'.cell? ⟨rb, 6, none⟩ = some (.int .i64 Y) ∧ w'.cell? ⟨rb, 7, none⟩ = some (.int .i64 h) ∧ w'.cell? ⟨rb, 8, none⟩ = some (.bool got) ∧ w'.cell? ⟨rb, 9, none⟩ = some (.bool full))) rfl 11 rfl hS0 ?_
  simp only [numbered, Nat.zero_add, Nat.reduceAdd]
  refine lin_take (v := ?_) (by kernel_rfl) (by kernel_rfl) (fun _ _ _ h => h) (Or.inl ⟨by rfl, ?_⟩) (by assumption) ?_; (rotate_left; (intro wS hSw; (try dsimp only at hSw); (try go_simp); (try with_reducible rfl)); rotate_left); simp only [Act.put, List.setIfInBounds_toArray, List.set_cons_zero, List.set_cons_succ]
  refine lin_take (v := ?_) (by kernel_rfl) (by kernel_rfl) (fun _ _ _ h => h) (Or.inl ⟨by rfl, ?_⟩) (by assumption) ?_; (rotate_left; (intro wS hSw; (try dsimp only at hSw); (try go_simp); (try with_reducible rfl)); rotate_left); simp only [Act.put, List.setIfInBounds_toArray, List.set_cons_zero, List.set_cons_succ]
  refine lin_take (v := ?_) (by kernel_rfl) (by kernel_rfl) (fun _ _ _ h => h) (Or.inl ⟨by rfl, ?_⟩) (by assumption) ?_; (rotate_left; (intro wS hSw; (try dsimp only at hSw); (try go_simp); (try with_reducible rfl)); rotate_left); simp only [Act.put, List.setIfInBounds_toArray, List.set_cons_zero, List.set_cons_succ]
  refine lin_take (v := ?_) (by kernel_rfl) (by kernel_rfl) (fun _ _ _ h => h) (Or.inl ⟨by rfl, ?_⟩) (by assumption) ?_; (rotate_left; (intro wS hSw; (try dsimp only at hSw); (try go_simp); (try with_reducible rfl)); rotate_left); simp only [Act.put, List.setIfInBounds_toArray, List.set_cons_zero, List.set_cons_succ]
  refine lin_take (v := ?_) (by kernel_rfl) (by kernel_rfl) (fun _ _ _ h => h) (Or.inl ⟨by rfl, ?_⟩) (by assumption) ?_; (rotate_left; (intro wS hSw; (try dsimp only at hSw); (try go_simp); (try with_reducible rfl)); rotate_left); simp only [Act.put, List.setIfInBounds_toArray, List.set_cons_zero, List.set_cons_succ]
  refine lin_take (v := ?_) (by kernel_rfl) (by kernel_rfl) (fun _ _ _ h => h) (Or.inl ⟨by rfl, ?_⟩) (by assumption) ?_; (rotate_left; (intro wS hSw; (try dsimp only at hSw); (try go_simp); (try with_reducible rfl)); rotate_left); simp only [Act.put, List.setIfInBounds_toArray, List.set_cons_zero, List.set_cons_succ]
  refine lin_take (v := ?_) (by kernel_rfl) (by kernel_rfl) (fun _ _ _ h => h) (Or.inl ⟨by rfl, ?_⟩) (by assumption) ?_; (rotate_left; (intro wS hSw; (try dsimp only at hSw); (try go_simp); (try with_reducible rfl)); rotate_left); simp only [Act.put, List.setIfInBounds_toArray, List.set_cons_zero, List.set_cons_succ]
  refine lin_take (v := ?_) (by kernel_rfl) (by kernel_rfl) (fun _ _ _ h => h) (Or.inl ⟨by rfl, ?_⟩) (by assumption) ?_; (rotate_left; (intro wS hSw; (try dsimp only at hSw); (try go_simp); (try with_reducible rfl)); rotate_left); simp only [Act.put, List.setIfInBounds_toArray, List.set_cons_zero, List.set_cons_succ]
  refine lin_sole (by kernel_rfl) (fun K hK => ?_)
  go_simp
  refine (RW.out _ hOa).mono ?_
  rintro e w6 ⟨ao2, c2, rfl, h7⟩
  refine hK.out _ _ (get10a h7) (fun hHeld => ?_)
  try simp only [Act.put, List.setIfInBounds_toArray, List.set_cons_zero, List.set_cons_succ]
  clear hK
  obtain ⟨z0, z1, z2, z3, z4, z5, z6, z7, z8, z9⟩ := get10 h7
  obtain ⟨f0, f1, f2, f3, f4, f5, f6, f7, f8, f9⟩ := get10f h7
  have y0 : w6.drew.cell? ⟨zb, 0, none⟩ = _ := z0
  have y1 : w6.drew.cell? ⟨zb, 1, none⟩ = _ := z1
  have y2 : w6.drew.cell? ⟨zb, 2, none⟩ = _ := z2
  have y3 : w6.drew.cell? ⟨zb, 3, none⟩ = _ := z3
  have y4 : w6.drew.cell? ⟨zb, 4, none⟩ = _ := z4
  have y5 : w6.drew.cell? ⟨zb, 5, none⟩ = _ := z5
  have y6 : w6.drew.cell? ⟨zb, 6, none⟩ = _ := z6
  have y7 : w6.drew.cell? ⟨zb, 7, none⟩ = _ := z7
  have y8 : w6.drew.cell? ⟨zb, 8, none⟩ = _ := z8
  have y9 : w6.drew.cell? ⟨zb, 9, none⟩ = _ := z9
  have g0 : w6.drew.frozen? ⟨zb, 0, none⟩ = false := f0
  have g1 : w6.drew.frozen? ⟨zb, 1, none⟩ = false := f1
  have g2 : w6.drew.frozen? ⟨zb, 2, none⟩ = false := f2
  have g3 : w6.drew.frozen? ⟨zb, 3, none⟩ = false := f3
  have g4 : w6.drew.frozen? ⟨zb, 4, none⟩ = false := f4
  have g5 : w6.drew.frozen? ⟨zb, 5, none⟩ = false := f5
  have g6 : w6.drew.frozen? ⟨zb, 6, none⟩ = false := f6
  have g7 : w6.drew.frozen? ⟨zb, 7, none⟩ = false := f7
  have g8 : w6.drew.frozen? ⟨zb, 8, none⟩ = false := f8
  have g9 : w6.drew.frozen? ⟨zb, 9, none⟩ = false := f9
  have hF := set10 h7 (.int .i64 kd) (.int .i64 (B : Int)) (.int .i64 D) (.int .i64 1) (.int .i64 t) (.int .i64 x) (.int .i64 Y) (.int .i64 h) (.bool got) (.bool full)
  refine lin_sole (by kernel_rfl) (fun K hK => ?_)
  go_simp
  refine hK.out _ _ (get10a hF) (fun hHeld => ?_)
  try simp only [Act.put, List.setIfInBounds_toArray, List.set_cons_zero, List.set_cons_succ]
  clear hK
  refine lin_take (v := ?_) (by kernel_rfl) (by kernel_rfl) (fun _ _ _ h => h) (Or.inl ⟨by rfl, ?_⟩) (by assumption) ?_; (rotate_left; (intro wS hSw; (try dsimp only at hSw); (try go_simp); (try with_reducible rfl)); rotate_left); simp only [Act.put, List.setIfInBounds_toArray, List.set_cons_zero, List.set_cons_succ]
  refine lin_done (by kernel_rfl) ?_
  replace hF := Lib.hid hF
  clear z0 f0 y0 g0 z1 f1 y1 g1 z2 f2 y2 g2 z3 f3 y3 g3 z4 f4 y4 g4 z5 f5 y5 g5 z6 f6 y6 g6 z7 f7 y7 g7 z8 f8 y8 g8 z9 f9 y9 g9 h7 hS0 hOa
  go_wp2_with fail
  replace hF := hF.out
  obtain ⟨z0, z1, z2, z3, z4, z5, z6, z7, z8, z9⟩ := get10 hF
  generalize (((((((((w6.setCell ⟨zb, 0, none⟩ (.int .i64 kd)).setCell ⟨zb, 1, none⟩ (.int .i64 (B : Int))).setCell ⟨zb, 2, none⟩ (.int .i64 D)).setCell ⟨zb, 3, none⟩ (.int .i64 1)).setCell ⟨zb, 4, none⟩ (.int .i64 t)).setCell ⟨zb, 5, none⟩ (.int .i64 x)).setCell ⟨zb, 6, none⟩ (.int .i64 Y)).setCell ⟨zb, 7, none⟩ (.int .i64 h)).setCell ⟨zb, 8, none⟩ (.bool got)).setCell ⟨zb, 9, none⟩ (.bool full) = u3 at *
  have hEnd := hF.sub (.cons _ (.cons _ (List.Sublist.refl _)))
  exact bodyPost_ret (v := .tuple #[.agg #[.int .i64 kd, .int .i64 (B : Int), .int .i64 D, .int .i64 1, .int .i64 t, .int .i64 x, .int .i64 Y, .int .i64 h, .bool got, .bool full], .slice ao2 (ms.set (B + 2) (wrap64 (Y + 1))).length c2]) (by simp [results, Try.results55, go_sem, z0, z1, z2, z3, z4, z5, z6, z7, z8, z9]) rfl ⟨ao2, c2, rfl, hEnd⟩
end Go.Proofs.Ytofnjapgacgdlaa
