/- The document's deque: forebayref13.Step. -/
import Derived.Test.YtofnjapgacgdlaaRef13e
set_option linter.unusedVariables false
set_option linter.unusedSimpArgs false
namespace Go.Proofs.Ytofnjapgacgdlaa
open Go.RowKit
set_option maxRecDepth 100000
set_option maxHeartbeats 8000000
theorem rstep0 {w0 w : World} {mo : Option Addr} {mc : Nat} {ms ms' : List Int} {l : List Ast} (hO : Own w0 w (mRow (.slice mo ms.length mc) ms :: l)) (B D at_ t x n h : Int) (got full : Bool) (hat : 0 ≤ at_) (kd' B' D' a' t' x' n' h' : Int) (g' f' : Bool)
    (C : ∀ (w1 : World) (l : List Ast), Own w0 w1 (mRow (.slice mo ms.length mc) ms :: l) → Calls Try.prog 53 #[.agg #[.int .i64 0, .int .i64 B, .int .i64 D, .int .i64 at_, .int .i64 t, .int .i64 x, .int .i64 n, .int .i64 h, .bool got, .bool full], .slice mo ms.length mc] w1 fun e w' => ∃ ao' c', e = .returned (.tuple #[.agg #[.int .i64 kd', .int .i64 B', .int .i64 D', .int .i64 a', .int .i64 t', .int .i64 x', .int .i64 n', .int .i64 h', .bool g', .bool f'], .slice ao' ms'.length c']) ∧ Own w0 w' (mRow (.slice ao' ms'.length c') ms' :: l)) :
    Calls Try.prog 39 #[.agg #[.int .i64 0, .int .i64 B, .int .i64 D, .int .i64 at_, .int .i64 t, .int .i64 x, .int .i64 n, .int .i64 h, .bool got, .bool full], .slice mo ms.length mc] w fun e w' => ∃ ao' c', e = .returned (.tuple #[.agg #[.int .i64 kd', .int .i64 B', .int .i64 D', .int .i64 a', .int .i64 t', .int .i64 x', .int .i64 n', .int .i64 h', .bool g', .bool f'], .slice ao' ms'.length c']) ∧ Own w0 w' (mRow (.slice ao' ms'.length c') ms' :: l) := by
  have h1 := (hO.box #[.int .i64 0, .int .i64 B, .int .i64 D, .int .i64 at_, .int .i64 t, .int .i64 x, .int .i64 n, .int .i64 h, .bool got, .bool full] 68).box #[.int .i64 0, .int .i64 0, .int .i64 0, .int .i64 0, .int .i64 0, .int .i64 0, .int .i64 0, .int .i64 0, .bool false, .bool false] 68
  rw [alloc_sz] at h1
  have h2 : Own w0 ((w.alloc (.cells #[.int .i64 0, .int .i64 B, .int .i64 D, .int .i64 at_, .int .i64 t, .int .i64 x, .int .i64 n, .int .i64 h, .bool got, .bool full] 68)).alloc (.cells #[.int .i64 0, .int .i64 0, .int .i64 0, .int .i64 0, .int .i64 0, .int .i64 0, .int .i64 0, .int .i64 0, .bool false, .bool false] 68)) (cellsA w.heap.size #[.int .i64 0, .int .i64 B, .int .i64 D, .int .i64 at_, .int .i64 t, .int .i64 x, .int .i64 n, .int .i64 h, .bool got, .bool full] 68 :: cellsA (w.heap.size + 1) #[.int .i64 0, .int .i64 0, .int .i64 0, .int .i64 0, .int .i64 0, .int .i64 0, .int .i64 0, .int .i64 0, .bool false, .bool false] 68 :: mRow (.slice mo ms.length mc) ms :: l) := h1.pm (by
    simp only [List.cons_append, List.append_assoc, List.nil_append]
    exact (List.perm_append_comm (l₁ := mRow (.slice mo ms.length mc) ms :: l) (l₂ := [_, _])))
  have hd : decide (at_ < 0) = false := decide_eq_false (by omega)
  have CC := Lib.hid (C _ _ (h2.pm pm3))
  clear h1 hO C
  go_enter Try.func39, Try.ntmps39
  go_wp2_with fail
  go_at_call 53
  refine CC.out.mono ?_
  rintro e w2 ⟨ao2, c2, rfl, h3⟩
  have h4 := h3.pm pm3'
  clear h3 h2 CC
  generalize w.heap.size + 1 = zb at *
  obtain ⟨f0, f1, f2, f3, f4, f5, f6, f7, f8, f9⟩ := get10f h4
  obtain ⟨z0, z1, z2, z3, z4, z5, z6, z7, z8, z9⟩ := get10 h4
  have hF := Lib.hid (set10 h4 (.int .i64 kd') (.int .i64 B') (.int .i64 D') (.int .i64 a') (.int .i64 t') (.int .i64 x') (.int .i64 n') (.int .i64 h') (.bool g') (.bool f'))
  clear h4
  go_wp2_with fail
  replace hF := hF.out
  clear f0 z0 f1 z1 f2 z2 f3 z3 f4 z4 f5 z5 f6 z6 f7 z7 f8 z8 f9 z9
  obtain ⟨z0, z1, z2, z3, z4, z5, z6, z7, z8, z9⟩ := get10 hF
  generalize (((((((((w2.setCell ⟨zb, 0, none⟩ (.int .i64 kd')).setCell ⟨zb, 1, none⟩ (.int .i64 B')).setCell ⟨zb, 2, none⟩ (.int .i64 D')).setCell ⟨zb, 3, none⟩ (.int .i64 a')).setCell ⟨zb, 4, none⟩ (.int .i64 t')).setCell ⟨zb, 5, none⟩ (.int .i64 x')).setCell ⟨zb, 6, none⟩ (.int .i64 n')).setCell ⟨zb, 7, none⟩ (.int .i64 h')).setCell ⟨zb, 8, none⟩ (.bool g')).setCell ⟨zb, 9, none⟩ (.bool f') = u3 at *
  have hEnd := hF.sub (.cons _ (.cons _ (List.Sublist.refl _)))
  exact bodyPost_ret (v := .tuple #[.agg #[.int .i64 kd', .int .i64 B', .int .i64 D', .int .i64 a', .int .i64 t', .int .i64 x', .int .i64 n', .int .i64 h', .bool g', .bool f'], .slice ao2 ms'.length c2]) (by simp [results, Try.results39, go_sem, z0, z1, z2, z3, z4, z5, z6, z7, z8, z9]) rfl ⟨ao2, c2, rfl, hEnd⟩
theorem rstep1 {w0 w : World} {mo : Option Addr} {mc : Nat} {ms ms' : List Int} {l : List Ast} (hO : Own w0 w (mRow (.slice mo ms.length mc) ms :: l)) (B D at_ t x n h : Int) (got full : Bool) (hat : 0 ≤ at_) (kd' B' D' a' t' x' n' h' : Int) (g' f' : Bool)
    (C : ∀ (w1 : World) (l : List Ast), Own w0 w1 (mRow (.slice mo ms.length mc) ms :: l) → Calls Try.prog 54 #[.agg #[.int .i64 1, .int .i64 B, .int .i64 D, .int .i64 at_, .int .i64 t, .int .i64 x, .int .i64 n, .int .i64 h, .bool got, .bool full], .slice mo ms.length mc] w1 fun e w' => ∃ ao' c', e = .returned (.tuple #[.agg #[.int .i64 kd', .int .i64 B', .int .i64 D', .int .i64 a', .int .i64 t', .int .i64 x', .int .i64 n', .int .i64 h', .bool g', .bool f'], .slice ao' ms'.length c']) ∧ Own w0 w' (mRow (.slice ao' ms'.length c') ms' :: l)) :
    Calls Try.prog 39 #[.agg #[.int .i64 1, .int .i64 B, .int .i64 D, .int .i64 at_, .int .i64 t, .int .i64 x, .int .i64 n, .int .i64 h, .bool got, .bool full], .slice mo ms.length mc] w fun e w' => ∃ ao' c', e = .returned (.tuple #[.agg #[.int .i64 kd', .int .i64 B', .int .i64 D', .int .i64 a', .int .i64 t', .int .i64 x', .int .i64 n', .int .i64 h', .bool g', .bool f'], .slice ao' ms'.length c']) ∧ Own w0 w' (mRow (.slice ao' ms'.length c') ms' :: l) := by
  have h1 := (hO.box #[.int .i64 1, .int .i64 B, .int .i64 D, .int .i64 at_, .int .i64 t, .int .i64 x, .int .i64 n, .int .i64 h, .bool got, .bool full] 68).box #[.int .i64 0, .int .i64 0, .int .i64 0, .int .i64 0, .int .i64 0, .int .i64 0, .int .i64 0, .int .i64 0, .bool false, .bool false] 68
  rw [alloc_sz] at h1
  have h2 : Own w0 ((w.alloc (.cells #[.int .i64 1, .int .i64 B, .int .i64 D, .int .i64 at_, .int .i64 t, .int .i64 x, .int .i64 n, .int .i64 h, .bool got, .bool full] 68)).alloc (.cells #[.int .i64 0, .int .i64 0, .int .i64 0, .int .i64 0, .int .i64 0, .int .i64 0, .int .i64 0, .int .i64 0, .bool false, .bool false] 68)) (cellsA w.heap.size #[.int .i64 1, .int .i64 B, .int .i64 D, .int .i64 at_, .int .i64 t, .int .i64 x, .int .i64 n, .int .i64 h, .bool got, .bool full] 68 :: cellsA (w.heap.size + 1) #[.int .i64 0, .int .i64 0, .int .i64 0, .int .i64 0, .int .i64 0, .int .i64 0, .int .i64 0, .int .i64 0, .bool false, .bool false] 68 :: mRow (.slice mo ms.length mc) ms :: l) := h1.pm (by
    simp only [List.cons_append, List.append_assoc, List.nil_append]
    exact (List.perm_append_comm (l₁ := mRow (.slice mo ms.length mc) ms :: l) (l₂ := [_, _])))
  have hd : decide (at_ < 0) = false := decide_eq_false (by omega)
  have CC := Lib.hid (C _ _ (h2.pm pm3))
  clear h1 hO C
  go_enter Try.func39, Try.ntmps39
  go_wp2_with fail
  go_at_call 54
  refine CC.out.mono ?_
  rintro e w2 ⟨ao2, c2, rfl, h3⟩
  have h4 := h3.pm pm3'
  clear h3 h2 CC
  generalize w.heap.size + 1 = zb at *
  obtain ⟨f0, f1, f2, f3, f4, f5, f6, f7, f8, f9⟩ := get10f h4
  obtain ⟨z0, z1, z2, z3, z4, z5, z6, z7, z8, z9⟩ := get10 h4
  have hF := Lib.hid (set10 h4 (.int .i64 kd') (.int .i64 B') (.int .i64 D') (.int .i64 a') (.int .i64 t') (.int .i64 x') (.int .i64 n') (.int .i64 h') (.bool g') (.bool f'))
  clear h4
  go_wp2_with fail
  replace hF := hF.out
  clear f0 z0 f1 z1 f2 z2 f3 z3 f4 z4 f5 z5 f6 z6 f7 z7 f8 z8 f9 z9
  obtain ⟨z0, z1, z2, z3, z4, z5, z6, z7, z8, z9⟩ := get10 hF
  generalize (((((((((w2.setCell ⟨zb, 0, none⟩ (.int .i64 kd')).setCell ⟨zb, 1, none⟩ (.int .i64 B')).setCell ⟨zb, 2, none⟩ (.int .i64 D')).setCell ⟨zb, 3, none⟩ (.int .i64 a')).setCell ⟨zb, 4, none⟩ (.int .i64 t')).setCell ⟨zb, 5, none⟩ (.int .i64 x')).setCell ⟨zb, 6, none⟩ (.int .i64 n')).setCell ⟨zb, 7, none⟩ (.int .i64 h')).setCell ⟨zb, 8, none⟩ (.bool g')).setCell ⟨zb, 9, none⟩ (.bool f') = u3 at *
  have hEnd := hF.sub (.cons _ (.cons _ (List.Sublist.refl _)))
  exact bodyPost_ret (v := .tuple #[.agg #[.int .i64 kd', .int .i64 B', .int .i64 D', .int .i64 a', .int .i64 t', .int .i64 x', .int .i64 n', .int .i64 h', .bool g', .bool f'], .slice ao2 ms'.length c2]) (by simp [results, Try.results39, go_sem, z0, z1, z2, z3, z4, z5, z6, z7, z8, z9]) rfl ⟨ao2, c2, rfl, hEnd⟩
theorem rstep2 {w0 w : World} {mo : Option Addr} {mc : Nat} {ms ms' : List Int} {l : List Ast} (hO : Own w0 w (mRow (.slice mo ms.length mc) ms :: l)) (B D at_ t x n h : Int) (got full : Bool) (hat : 0 ≤ at_) (kd' B' D' a' t' x' n' h' : Int) (g' f' : Bool)
    (C : ∀ (w1 : World) (l : List Ast), Own w0 w1 (mRow (.slice mo ms.length mc) ms :: l) → Calls Try.prog 55 #[.agg #[.int .i64 2, .int .i64 B, .int .i64 D, .int .i64 at_, .int .i64 t, .int .i64 x, .int .i64 n, .int .i64 h, .bool got, .bool full], .slice mo ms.length mc] w1 fun e w' => ∃ ao' c', e = .returned (.tuple #[.agg #[.int .i64 kd', .int .i64 B', .int .i64 D', .int .i64 a', .int .i64 t', .int .i64 x', .int .i64 n', .int .i64 h', .bool g', .bool f'], .slice ao' ms'.length c']) ∧ Own w0 w' (mRow (.slice ao' ms'.length c') ms' :: l)) :
    Calls Try.prog 39 #[.agg #[.int .i64 2, .int .i64 B, .int .i64 D, .int .i64 at_, .int .i64 t, .int .i64 x, .int .i64 n, .int .i64 h, .bool got, .bool full], .slice mo ms.length mc] w fun e w' => ∃ ao' c', e = .returned (.tuple #[.agg #[.int .i64 kd', .int .i64 B', .int .i64 D', .int .i64 a', .int .i64 t', .int .i64 x', .int .i64 n', .int .i64 h', .bool g', .bool f'], .slice ao' ms'.length c']) ∧ Own w0 w' (mRow (.slice ao' ms'.length c') ms' :: l) := by
  have h1 := (hO.box #[.int .i64 2, .int .i64 B, .int .i64 D, .int .i64 at_, .int .i64 t, .int .i64 x, .int .i64 n, .int .i64 h, .bool got, .bool full] 68).box #[.int .i64 0, .int .i64 0, .int .i64 0, .int .i64 0, .int .i64 0, .int .i64 0, .int .i64 0, .int .i64 0, .bool false, .bool false] 68
  rw [alloc_sz] at h1
  have h2 : Own w0 ((w.alloc (.cells #[.int .i64 2, .int .i64 B, .int .i64 D, .int .i64 at_, .int .i64 t, .int .i64 x, .int .i64 n, .int .i64 h, .bool got, .bool full] 68)).alloc (.cells #[.int .i64 0, .int .i64 0, .int .i64 0, .int .i64 0, .int .i64 0, .int .i64 0, .int .i64 0, .int .i64 0, .bool false, .bool false] 68)) (cellsA w.heap.size #[.int .i64 2, .int .i64 B, .int .i64 D, .int .i64 at_, .int .i64 t, .int .i64 x, .int .i64 n, .int .i64 h, .bool got, .bool full] 68 :: cellsA (w.heap.size + 1) #[.int .i64 0, .int .i64 0, .int .i64 0, .int .i64 0, .int .i64 0, .int .i64 0, .int .i64 0, .int .i64 0, .bool false, .bool false] 68 :: mRow (.slice mo ms.length mc) ms :: l) := h1.pm (by
    simp only [List.cons_append, List.append_assoc, List.nil_append]
    exact (List.perm_append_comm (l₁ := mRow (.slice mo ms.length mc) ms :: l) (l₂ := [_, _])))
  have hd : decide (at_ < 0) = false := decide_eq_false (by omega)
  have CC := Lib.hid (C _ _ (h2.pm pm3))
  clear h1 hO C
  go_enter Try.func39, Try.ntmps39
  go_wp2_with fail
  go_at_call 55
  refine CC.out.mono ?_
  rintro e w2 ⟨ao2, c2, rfl, h3⟩
  have h4 := h3.pm pm3'
  clear h3 h2 CC
  generalize w.heap.size + 1 = zb at *
  obtain ⟨f0, f1, f2, f3, f4, f5, f6, f7, f8, f9⟩ := get10f h4
  obtain ⟨z0, z1, z2, z3, z4, z5, z6, z7, z8, z9⟩ := get10 h4
  have hF := Lib.hid (set10 h4 (.int .i64 kd') (.int .i64 B') (.int .i64 D') (.int .i64 a') (.int .i64 t') (.int .i64 x') (.int .i64 n') (.int .i64 h') (.bool g') (.bool f'))
  clear h4
  go_wp2_with fail
  replace hF := hF.out
  clear f0 z0 f1 z1 f2 z2 f3 z3 f4 z4 f5 z5 f6 z6 f7 z7 f8 z8 f9 z9
  obtain ⟨z0, z1, z2, z3, z4, z5, z6, z7, z8, z9⟩ := get10 hF
  generalize (((((((((w2.setCell ⟨zb, 0, none⟩ (.int .i64 kd')).setCell ⟨zb, 1, none⟩ (.int .i64 B')).setCell ⟨zb, 2, none⟩ (.int .i64 D')).setCell ⟨zb, 3, none⟩ (.int .i64 a')).setCell ⟨zb, 4, none⟩ (.int .i64 t')).setCell ⟨zb, 5, none⟩ (.int .i64 x')).setCell ⟨zb, 6, none⟩ (.int .i64 n')).setCell ⟨zb, 7, none⟩ (.int .i64 h')).setCell ⟨zb, 8, none⟩ (.bool g')).setCell ⟨zb, 9, none⟩ (.bool f') = u3 at *
  have hEnd := hF.sub (.cons _ (.cons _ (List.Sublist.refl _)))
  exact bodyPost_ret (v := .tuple #[.agg #[.int .i64 kd', .int .i64 B', .int .i64 D', .int .i64 a', .int .i64 t', .int .i64 x', .int .i64 n', .int .i64 h', .bool g', .bool f'], .slice ao2 ms'.length c2]) (by simp [results, Try.results39, go_sem, z0, z1, z2, z3, z4, z5, z6, z7, z8, z9]) rfl ⟨ao2, c2, rfl, hEnd⟩
end Go.Proofs.Ytofnjapgacgdlaa
