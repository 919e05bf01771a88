/- The document's deque: forebayref13.push, pop and steal, the steps that read a slot. -/
import Derived.Test.YtofnjapgacgdlaaRef13d
set_option linter.unusedVariables false
set_option linter.unusedSimpArgs false
namespace Go.Proofs.Ytofnjapgacgdlaa
open Go.RowKit
set_option maxRecDepth 100000
set_option maxHeartbeats 8000000
theorem rs20 {B : Nat} {D : Int} {ms : List Int} (hr : (B : Int) + 4 + D ≤ ms.length ∧ ms.length ≤ 100000) (hD : 2 ≤ D ∧ D ≤ 256) {w0 w : World} {mo : Option Addr} {mc : Nat} {l : List Ast} (hO : Own w0 w (mRow (.slice mo ms.length mc) ms :: l)) (kd t x n h : Int) (got full : Bool) (T : Int) (hT : wrap64 (t - 1) = T) (X : Int) (hX : ms.getD (slotN B D T) 0 = X) :
    Calls Try.prog 54 #[.agg #[.int .i64 kd, .int .i64 (B : Int), .int .i64 D, .int .i64 10, .int .i64 t, .int .i64 x, .int .i64 n, .int .i64 h, .bool got, .bool full], .slice mo ms.length mc] w fun e w' => e = .returned (.tuple #[.agg #[.int .i64 kd, .int .i64 (B : Int), .int .i64 D, .int .i64 (-1), .int .i64 T, .int .i64 X, .int .i64 n, .int .i64 h, .bool true, .bool full], .slice mo ms.length mc]) ∧ Own w0 w' (mRow (.slice mo ms.length mc) ms :: l) := by
  have h1 := (hO.box #[.int .i64 kd, .int .i64 (B : Int), .int .i64 D, .int .i64 10, .int .i64 T, .int .i64 x, .int .i64 n, .int .i64 h, .bool got, .bool full] 68).box #[.int .i64 0, .int .i64 0, .int .i64 0, .int .i64 0, .int .i64 0, .int .i64 0, .int .i64 0, .int .i64 0, .bool false, .bool false] 68
  rw [alloc_sz] at h1
  have h2 : Own w0 ((w.alloc (.cells #[.int .i64 kd, .int .i64 (B : Int), .int .i64 D, .int .i64 10, .int .i64 T, .int .i64 x, .int .i64 n, .int .i64 h, .bool got, .bool full] 68)).alloc (.cells #[.int .i64 0, .int .i64 0, .int .i64 0, .int .i64 0, .int .i64 0, .int .i64 0, .int .i64 0, .int .i64 0, .bool false, .bool false] 68)) (cellsA w.heap.size #[.int .i64 kd, .int .i64 (B : Int), .int .i64 D, .int .i64 10, .int .i64 T, .int .i64 x, .int .i64 n, .int .i64 h, .bool got, .bool full] 68 :: cellsA (w.heap.size + 1) #[.int .i64 0, .int .i64 0, .int .i64 0, .int .i64 0, .int .i64 0, .int .i64 0, .int .i64 0, .int .i64 0, .bool false, .bool false] 68 :: mRow (.slice mo ms.length mc) ms :: l) := h1.pm (by
    simp only [List.cons_append, List.append_assoc, List.nil_append]
    exact (List.perm_append_comm (l₁ := mRow (.slice mo ms.length mc) ms :: l) (l₂ := [_, _])))
  have hsn := (show slotN B D T < ms.length by have := mod_bd (x := max T 0) (y := D) (by omega); unfold slotN; omega)
  have SL := Lib.hid (fun (w1 : World) => rslot kd D 10 T x n h B got full T w1 (by omega) (by omega))
  have RW := Lib.hid (fun (w1 : World) (h' : Own w0 w1 (mRow (.slice mo ms.length mc) ms :: l)) => rword (Lies.of_row (h'.row 0 rfl) rfl) (k := slotN B D T) hsn X hX)
  have HG := Lib.hid (fun (w5 : World) (hb : Below ((w.alloc (.cells #[.int .i64 kd, .int .i64 (B : Int), .int .i64 D, .int .i64 10, .int .i64 T, .int .i64 x, .int .i64 n, .int .i64 h, .bool got, .bool full] 68)).alloc (.cells #[.int .i64 0, .int .i64 0, .int .i64 0, .int .i64 0, .int .i64 0, .int .i64 0, .int .i64 0, .int .i64 0, .bool false, .bool false] 68)).heap.size ((w.alloc (.cells #[.int .i64 kd, .int .i64 (B : Int), .int .i64 D, .int .i64 10, .int .i64 T, .int .i64 x, .int .i64 n, .int .i64 h, .bool got, .bool full] 68)).alloc (.cells #[.int .i64 0, .int .i64 0, .int .i64 0, .int .i64 0, .int .i64 0, .int .i64 0, .int .i64 0, .int .i64 0, .bool false, .bool false] 68)) w5) => h2.grow hb)
  clear h1 hO h2 hX
  generalize hrb : w.heap.size = rb at HG
  replace hrb := Lib.hid hrb
  go_enter Try.func54, Try.ntmps54
  go_upto_region 40 with (first | (go_at_call 71; refine (SL.out _).mono ?_; rintro e w5 ⟨rfl, hb5⟩; have h5 := HG.out _ hb5; rw [hrb.out]; have r3 := (h5.cget 0 rfl 3).1; have r5 := (h5.cget 0 rfl 5).1; have r8 := (h5.cget 0 rfl 8).1; have f3 := (h5.cget 0 rfl 3).2; have f5 := (h5.cget 0 rfl 5).2; have f8 := (h5.cget 0 rfl 8).2; simp at r3 r5 r8; clear hb5) | (go_at_call 69; refine (RW.out _ (h5.sub (.cons _ (.cons _ (List.Sublist.refl _))))).mono ?_; rintro e w6 ⟨rfl, rfl⟩))
  have hW2 : Own w0 _ (cellsA rb #[.int .i64 kd, .int .i64 (B : Int), .int .i64 D, .int .i64 (-1), .int .i64 T, .int .i64 X, .int .i64 n, .int .i64 h, .bool true, .bool full] 68 :: cellsA (rb + 1) #[.int .i64 0, .int .i64 0, .int .i64 0, .int .i64 0, .int .i64 0, .int .i64 0, .int .i64 0, .int .i64 0, .bool false, .bool false] 68 :: mRow (.slice mo ms.length mc) ms :: l) := ((h5.cset 0 rfl 5 (.int .i64 X)).cset 0 rfl 8 (.bool true)).cset 0 rfl 3 (.int .i64 (-1))
  clear r3 r5 r8 f3 f5 f8 h5
  generalize rb + 1 = zb at *
  generalize ((w5.setCell ⟨rb, 5, none⟩ (.int .i64 X)).setCell ⟨rb, 8, none⟩ (.bool true)).setCell ⟨rb, 3, none⟩ (.int .i64 (-1)) = u2 at *
  obtain ⟨r0, r1, r2, r3, r4, r5, r6, r7, r8, r9⟩ := get10a hW2
  obtain ⟨f0, f1, f2, f3, f4, f5, f6, f7, f8, f9⟩ := get10f hW2
  obtain ⟨z0, z1, z2, z3, z4, z5, z6, z7, z8, z9⟩ := get10 hW2
  have hF := set10 hW2 (.int .i64 kd) (.int .i64 (B : Int)) (.int .i64 D) (.int .i64 (-1)) (.int .i64 T) (.int .i64 X) (.int .i64 n) (.int .i64 h) (.bool true) (.bool full)
  replace hF := Lib.hid hF
  clear hW2
  go_wp2_with fail
  replace hF := hF.out
  clear r0 f0 z0 r1 f1 z1 r2 f2 z2 r3 f3 z3 r4 f4 z4 r5 f5 z5 r6 f6 z6 r7 f7 z7 r8 f8 z8 r9 f9 z9
  obtain ⟨z0, z1, z2, z3, z4, z5, z6, z7, z8, z9⟩ := get10 hF
  generalize (((((((((u2.setCell ⟨zb, 0, none⟩ (.int .i64 kd)).setCell ⟨zb, 1, none⟩ (.int .i64 (B : Int))).setCell ⟨zb, 2, none⟩ (.int .i64 D)).setCell ⟨zb, 3, none⟩ (.int .i64 (-1))).setCell ⟨zb, 4, none⟩ (.int .i64 T)).setCell ⟨zb, 5, none⟩ (.int .i64 X)).setCell ⟨zb, 6, none⟩ (.int .i64 n)).setCell ⟨zb, 7, none⟩ (.int .i64 h)).setCell ⟨zb, 8, none⟩ (.bool true)).setCell ⟨zb, 9, none⟩ (.bool full) = u3 at *
  have hEnd := hF.sub (.cons _ (.cons _ (List.Sublist.refl _)))
  exact bodyPost_ret (v := .tuple #[.agg #[.int .i64 kd, .int .i64 (B : Int), .int .i64 D, .int .i64 (-1), .int .i64 T, .int .i64 X, .int .i64 n, .int .i64 h, .bool true, .bool full], .slice mo ms.length mc]) (by simp [results, Try.results54, go_sem, z0, z1, z2, z3, z4, z5, z6, z7, z8, z9]) rfl ⟨rfl, hEnd⟩
theorem rs37 {B : Nat} {D : Int} {ms : List Int} (hr : (B : Int) + 4 + D ≤ ms.length ∧ ms.length ≤ 100000) (hD : 2 ≤ D ∧ D ≤ 256) {w0 w : World} {mo : Option Addr} {mc : Nat} {l : List Ast} (hO : Own w0 w (mRow (.slice mo ms.length mc) ms :: l)) (kd t x n h : Int) (got full : Bool)  (X : Int) (hX : ms.getD (slotN B D h) 0 = X) :
    Calls Try.prog 55 #[.agg #[.int .i64 kd, .int .i64 (B : Int), .int .i64 D, .int .i64 7, .int .i64 t, .int .i64 x, .int .i64 n, .int .i64 h, .bool got, .bool full], .slice mo ms.length mc] w fun e w' => e = .returned (.tuple #[.agg #[.int .i64 kd, .int .i64 (B : Int), .int .i64 D, .int .i64 6, .int .i64 t, .int .i64 X, .int .i64 n, .int .i64 h, .bool true, .bool full], .slice mo ms.length mc]) ∧ Own w0 w' (mRow (.slice mo ms.length mc) ms :: l) := by
  have h1 := (hO.box #[.int .i64 kd, .int .i64 (B : Int), .int .i64 D, .int .i64 7, .int .i64 t, .int .i64 x, .int .i64 n, .int .i64 h, .bool got, .bool full] 68).box #[.int .i64 0, .int .i64 0, .int .i64 0, .int .i64 0, .int .i64 0, .int .i64 0, .int .i64 0, .int .i64 0, .bool false, .bool false] 68
  rw [alloc_sz] at h1
  have h2 : Own w0 ((w.alloc (.cells #[.int .i64 kd, .int .i64 (B : Int), .int .i64 D, .int .i64 7, .int .i64 t, .int .i64 x, .int .i64 n, .int .i64 h, .bool got, .bool full] 68)).alloc (.cells #[.int .i64 0, .int .i64 0, .int .i64 0, .int .i64 0, .int .i64 0, .int .i64 0, .int .i64 0, .int .i64 0, .bool false, .bool false] 68)) (cellsA w.heap.size #[.int .i64 kd, .int .i64 (B : Int), .int .i64 D, .int .i64 7, .int .i64 t, .int .i64 x, .int .i64 n, .int .i64 h, .bool got, .bool full] 68 :: cellsA (w.heap.size + 1) #[.int .i64 0, .int .i64 0, .int .i64 0, .int .i64 0, .int .i64 0, .int .i64 0, .int .i64 0, .int .i64 0, .bool false, .bool false] 68 :: mRow (.slice mo ms.length mc) ms :: l) := h1.pm (by
    simp only [List.cons_append, List.append_assoc, List.nil_append]
    exact (List.perm_append_comm (l₁ := mRow (.slice mo ms.length mc) ms :: l) (l₂ := [_, _])))
  have hsn := (show slotN B D h < ms.length by have := mod_bd (x := max h 0) (y := D) (by omega); unfold slotN; omega)
  have SL := Lib.hid (fun (w1 : World) => rslot kd D 7 t x n h B got full h w1 (by omega) (by omega))
  have RW := Lib.hid (fun (w1 : World) (h' : Own w0 w1 (mRow (.slice mo ms.length mc) ms :: l)) => rword (Lies.of_row (h'.row 0 rfl) rfl) (k := slotN B D h) hsn X hX)
  have HG := Lib.hid (fun (w5 : World) (hb : Below ((w.alloc (.cells #[.int .i64 kd, .int .i64 (B : Int), .int .i64 D, .int .i64 7, .int .i64 t, .int .i64 x, .int .i64 n, .int .i64 h, .bool got, .bool full] 68)).alloc (.cells #[.int .i64 0, .int .i64 0, .int .i64 0, .int .i64 0, .int .i64 0, .int .i64 0, .int .i64 0, .int .i64 0, .bool false, .bool false] 68)).heap.size ((w.alloc (.cells #[.int .i64 kd, .int .i64 (B : Int), .int .i64 D, .int .i64 7, .int .i64 t, .int .i64 x, .int .i64 n, .int .i64 h, .bool got, .bool full] 68)).alloc (.cells #[.int .i64 0, .int .i64 0, .int .i64 0, .int .i64 0, .int .i64 0, .int .i64 0, .int .i64 0, .int .i64 0, .bool false, .bool false] 68)) w5) => h2.grow hb)
  clear h1 hO h2 hX
  generalize hrb : w.heap.size = rb at HG
  replace hrb := Lib.hid hrb
  go_enter Try.func55, Try.ntmps55
  go_upto_region 29 with (first | (go_at_call 71; refine (SL.out _).mono ?_; rintro e w5 ⟨rfl, hb5⟩; have h5 := HG.out _ hb5; rw [hrb.out]; have r3 := (h5.cget 0 rfl 3).1; have r5 := (h5.cget 0 rfl 5).1; have r8 := (h5.cget 0 rfl 8).1; have f3 := (h5.cget 0 rfl 3).2; have f5 := (h5.cget 0 rfl 5).2; have f8 := (h5.cget 0 rfl 8).2; simp at r3 r5 r8; clear hb5) | (go_at_call 69; refine (RW.out _ (h5.sub (.cons _ (.cons _ (List.Sublist.refl _))))).mono ?_; rintro e w6 ⟨rfl, rfl⟩))
  have hW2 : Own w0 _ (cellsA rb #[.int .i64 kd, .int .i64 (B : Int), .int .i64 D, .int .i64 6, .int .i64 t, .int .i64 X, .int .i64 n, .int .i64 h, .bool true, .bool full] 68 :: cellsA (rb + 1) #[.int .i64 0, .int .i64 0, .int .i64 0, .int .i64 0, .int .i64 0, .int .i64 0, .int .i64 0, .int .i64 0, .bool false, .bool false] 68 :: mRow (.slice mo ms.length mc) ms :: l) := ((h5.cset 0 rfl 5 (.int .i64 X)).cset 0 rfl 8 (.bool true)).cset 0 rfl 3 (.int .i64 6)
  clear r3 r5 r8 f3 f5 f8 h5
  generalize rb + 1 = zb at *
  generalize ((w5.setCell ⟨rb, 5, none⟩ (.int .i64 X)).setCell ⟨rb, 8, none⟩ (.bool true)).setCell ⟨rb, 3, none⟩ (.int .i64 6) = u2 at *
  obtain ⟨r0, r1, r2, r3, r4, r5, r6, r7, r8, r9⟩ := get10a hW2
  obtain ⟨f0, f1, f2, f3, f4, f5, f6, f7, f8, f9⟩ := get10f hW2
  obtain ⟨z0, z1, z2, z3, z4, z5, z6, z7, z8, z9⟩ := get10 hW2
  have hF := set10 hW2 (.int .i64 kd) (.int .i64 (B : Int)) (.int .i64 D) (.int .i64 6) (.int .i64 t) (.int .i64 X) (.int .i64 n) (.int .i64 h) (.bool true) (.bool full)
  replace hF := Lib.hid hF
  clear hW2
  go_wp2_with fail
  replace hF := hF.out
  clear r0 f0 z0 r1 f1 z1 r2 f2 z2 r3 f3 z3 r4 f4 z4 r5 f5 z5 r6 f6 z6 r7 f7 z7 r8 f8 z8 r9 f9 z9
  obtain ⟨z0, z1, z2, z3, z4, z5, z6, z7, z8, z9⟩ := get10 hF
  generalize (((((((((u2.setCell ⟨zb, 0, none⟩ (.int .i64 kd)).setCell ⟨zb, 1, none⟩ (.int .i64 (B : Int))).setCell ⟨zb, 2, none⟩ (.int .i64 D)).setCell ⟨zb, 3, none⟩ (.int .i64 6)).setCell ⟨zb, 4, none⟩ (.int .i64 t)).setCell ⟨zb, 5, none⟩ (.int .i64 X)).setCell ⟨zb, 6, none⟩ (.int .i64 n)).setCell ⟨zb, 7, none⟩ (.int .i64 h)).setCell ⟨zb, 8, none⟩ (.bool true)).setCell ⟨zb, 9, none⟩ (.bool full) = u3 at *
  have hEnd := hF.sub (.cons _ (.cons _ (List.Sublist.refl _)))
  exact bodyPost_ret (v := .tuple #[.agg #[.int .i64 kd, .int .i64 (B : Int), .int .i64 D, .int .i64 6, .int .i64 t, .int .i64 X, .int .i64 n, .int .i64 h, .bool true, .bool full], .slice mo ms.length mc]) (by simp [results, Try.results55, go_sem, z0, z1, z2, z3, z4, z5, z6, z7, z8, z9]) rfl ⟨rfl, hEnd⟩
end Go.Proofs.Ytofnjapgacgdlaa
