/- Package core: what the words are at first; where words are; what is emitted. -/
import Derived.Test.YtcegncbnanbenaaCor5
set_option linter.unusedVariables false
set_option linter.unusedSimpArgs false
namespace Go.Proofs.Ytcegncbnanbenaa
open Go.RowKit
set_option maxRecDepth 100000
set_option maxHeartbeats 4000000
theorem fillL_at (ms : List Int) (A M n : Int) (i : Nat) (h : i < ms.length) : (fillL ms A M n ms.length).getD i 0 = if 0 ≤ A ∧ A ≤ i ∧ (i : Int) - A < M then n else ms.getD i 0 := by
  rw [List.getD_eq_getElem?_getD, fillL_get ms A M n ms.length i h, List.getD_eq_getElem?_getD, List.getElem?_eq_getElem h]
  simp [h]
theorem wordsL_len (q : QP) : (wordsL q).length = (sizeV q.W q.F q.T q.D).toNat := by simp [wordsL, fillL]
theorem wordsL_at (q : QP) (hq : q.ok = true) (i : Nat) (hi : i < (wordsL q).length) : (wordsL q).getD i 0 = if (i : Int) = frameV q.W q.F q.T q.D 1 then 1 else 0 := by
  have hfb := frameV_bd hq 1
  rw [wordsL_len] at hi
  unfold wordsL
  rw [fillL_at _ _ _ _ _ (by simp [fillL]; omega), fillL_at _ _ _ _ _ (by simp; omega)]
  have h0 : (List.replicate (sizeV q.W q.F q.T q.D).toNat (0 : Int)).getD i 0 = 0 := by
    rw [List.getD_eq_getElem?_getD, List.getElem?_replicate]; split <;> rfl
  rw [h0]
  have e1 : ((1 : Nat) : Int) = 1 := rfl
  rw [e1]
  generalize frameV q.W q.F q.T q.D 1 = A at *
  by_cases h : (i : Int) = A
  · rw [if_pos (by omega), if_pos h]
  · rw [if_neg (by omega), if_neg h]
    split <;> rfl
theorem cplan2 {w : World} {cb : Nat} (q : QP) (h : w.cell? ⟨cb, 1, none⟩ = some (.int .i64 q.W) ∧ w.cell? ⟨cb, 2, none⟩ = some (.int .i64 q.T) ∧ w.cell? ⟨cb, 3, none⟩ = some (.int .i64 q.F) ∧ w.cell? ⟨cb, 4, none⟩ = some (.int .i64 q.D) ∧ w.cell? ⟨cb, 5, none⟩ = some (.int .i64 q.O) ∧ w.cell? ⟨cb, 6, none⟩ = some (.bool q.fo) ∧ w.cell? ⟨cb, 7, none⟩ = some (.bool q.la)) :
    Calls Try.prog 28 #[.pointer (some ⟨cb, 0, none⟩)] w fun e w' => e = .returned (.agg #[.int .i64 q.W, .int .i64 q.F, .int .i64 q.T, .int .i64 q.D]) ∧ Below w.heap.size w w' := by
  obtain ⟨k0, k1, k2, k3, k4, k5, k6⟩ := h
  have hO := (Own.nil (Below.refl _ w)).box #[.int .i64 0, .int .i64 0, .int .i64 0, .int .i64 0] 72
  simp only [List.nil_append] at hO
  obtain ⟨xb, hxb⟩ : ∃ xb, w.heap.size = xb := ⟨_, rfl⟩
  have P1 := Lib.hid (cparams (w := w.alloc (.cells #[.int .i64 0, .int .i64 0, .int .i64 0, .int .i64 0] 72)) (cb := cb) q ⟨hO.old k0, hO.old k1, hO.old k2, hO.old k3, hO.old k4, hO.old k5, hO.old k6⟩)
  have P2 := Lib.hid (fun w' => cplan_any q w')
  rw [hxb] at hO
  clear k0 k1 k2 k3 k4 k5 k6
  go_enter Try.func28, Try.ntmps28
  go_upto_region 1 with fail
  try simp only [hxb]
  generalize w.alloc (.cells #[.int .i64 0, .int .i64 0, .int .i64 0, .int .i64 0] 72) = u at *
  go_wp2_with (first | (go_at_call 23; refine P1.out.mono ?_; rintro e w1 ⟨rfl, hb1⟩) | (go_at_call 47; refine (P2.out _).mono ?_; rintro e w2 ⟨rfl, hb2⟩; have hO2 := hO.grow (below_chain hb1 hb2); obtain ⟨⟨o0, f0⟩, ⟨o1, f1⟩, ⟨o2, f2⟩, o3, f3⟩ := cells4f 0 hO2 rfl))
  have hO6 := (((hO2.cset 0 rfl 0 (.int .i64 q.W)).cset 0 rfl 1 (.int .i64 q.F)).cset 0 rfl 2 (.int .i64 q.T)).cset 0 rfl 3 (.int .i64 q.D)
  generalize (((w2.setCell ⟨xb, 0, none⟩ (.int .i64 q.W)).setCell ⟨xb, 1, none⟩ (.int .i64 q.F)).setCell ⟨xb, 2, none⟩ (.int .i64 q.T)).setCell ⟨xb, 3, none⟩ (.int .i64 q.D) = wz at *
  obtain ⟨⟨p0, -⟩, ⟨p1, -⟩, ⟨p2, -⟩, p3, -⟩ := cells4f 0 hO6 rfl
  exact bodyPost_ret (v := .agg #[.int .i64 q.W, .int .i64 q.F, .int .i64 q.T, .int .i64 q.D]) (by simp [results, Try.results28, go_sem, p0, p1, p2, p3]) rfl ⟨rfl, by first | exact hO6.below | (rw [← hxb]; exact hO6.below)⟩
end Go.Proofs.Ytcegncbnanbenaa
