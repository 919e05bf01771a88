/- The document's answer for a step: forebayref09.Do, whatever is asked. -/
import Derived.Test.YtpijgjalabocpaaStoreRef
set_option linter.unusedVariables false
set_option linter.unusedSimpArgs false
namespace Go.Proofs.Ytpijgjalabocpaa
open Go.RowKit
set_option maxHeartbeats 4000000
set_option maxRecDepth 100000
theorem refOut_any {ao : Option Addr} {cap : Nat} {ms : List Int} {w : World} (hsrc : Src w ao ms.length cap 1 (ms.map (.int .i64))) (hl : ms.length ≤ 1048576) (kd at_ n old : Int) (hk : (kd == 4) = false) (hin : at_ < 0 ∨ (ms.length : Int) ≤ at_) :
    Calls Try.prog 25 #[.slice ao ms.length cap, .agg #[.int .i64 kd, .int .i64 at_, .int .i64 n, .int .i64 old]] w (RefDone ms 0 false ms.length w) := by
  obtain ⟨i1, hi1, hw0, hw1', hw2'⟩ := info_parts' Try.infoIntS
  have hB : Own w (w.alloc (.cells #[.int .i64 kd, .int .i64 at_, .int .i64 n, .int .i64 old] 46)) [cellsA w.heap.size #[.int .i64 kd, .int .i64 at_, .int .i64 n, .int .i64 old] 46] := (Own.nil (Below.refl w.heap.size w)).box #[.int .i64 kd, .int .i64 at_, .int .i64 n, .int .i64 old] 46
  have hsrc2 := hsrc.alloc (.cells #[.int .i64 kd, .int .i64 at_, .int .i64 n, .int .i64 old] 46)
  clear hsrc
  rcases hin with hin | hin
  · go_enter Try.func25, Try.ntmps25
    go_wp2_with (at_builtin; go_must (refine wpList_append_copy' _ rfl _ _ 22 rfl 3 i1 (.int .i64 0) 1 8 Try.underlying22 hi1 hw0 hw1' hw2' rfl (by decide) _ (by simp) rfl ao ms.length cap (ms.map (Value.int .i64)) rfl hsrc2 (by simp [Value.oneCell']) (by unfold maxLen; omega) (by omega) ?_); intro ao2 cap2 w2 hrow hb2 hf2; have hO2 := hB.push hb2 (rowA 3 1 (.slice ao2 ms.length cap2) ms.length (ms.map (.int .i64))) hrow hf2; have c0 := (hO2.cget 0 rfl 0).1; have c1 := (hO2.cget 0 rfl 1).1; have c2 := (hO2.cget 0 rfl 2).1; have c3 := (hO2.cget 0 rfl 3).1; simp at c0 c1 c2 c3)
    exact bodyPost_ret (v := .tuple #[.slice ao2 ms.length cap2, .int .i64 0, .bool false]) (by simp [results, Try.results25, go_sem]) rfl ⟨ao2, cap2, rfl, hO2.row 1 rfl, hO2.own _ (List.mem_of_getElem? (i := 1) rfl), hO2.below⟩
  · have g0 : ¬ at_ < 0 := by omega
    go_enter Try.func25, Try.ntmps25
    go_wp2_with (at_builtin; go_must (refine wpList_append_copy' _ rfl _ _ 22 rfl 3 i1 (.int .i64 0) 1 8 Try.underlying22 hi1 hw0 hw1' hw2' rfl (by decide) _ (by simp) rfl ao ms.length cap (ms.map (Value.int .i64)) rfl hsrc2 (by simp [Value.oneCell']) (by unfold maxLen; omega) (by omega) ?_); intro ao2 cap2 w2 hrow hb2 hf2; have hO2 := hB.push hb2 (rowA 3 1 (.slice ao2 ms.length cap2) ms.length (ms.map (.int .i64))) hrow hf2; have c0 := (hO2.cget 0 rfl 0).1; have c1 := (hO2.cget 0 rfl 1).1; have c2 := (hO2.cget 0 rfl 2).1; have c3 := (hO2.cget 0 rfl 3).1; simp at c0 c1 c2 c3)
    exact bodyPost_ret (v := .tuple #[.slice ao2 ms.length cap2, .int .i64 0, .bool false]) (by simp [results, Try.results25, go_sem]) rfl ⟨ao2, cap2, rfl, hO2.row 1 rfl, hO2.own _ (List.mem_of_getElem? (i := 1) rfl), hO2.below⟩
theorem refIn_any {ao : Option Addr} {cap : Nat} {ms : List Int} {w : World} (hsrc : Src w ao ms.length cap 1 (ms.map (.int .i64))) (hl : ms.length ≤ 1048576) (kd n old : Int) (a : Nat) (hk : kd = 0 ∨ kd = 1 ∨ kd = 2 ∨ kd = 3) (ha : a < ms.length) (ms' : List Int) (x : Int) (hr : stepD kd a n old ms = (ms', x, true)) :
    Calls Try.prog 25 #[.slice ao ms.length cap, .agg #[.int .i64 kd, .int .i64 a, .int .i64 n, .int .i64 old]] w (RefDone ms' x true ms.length w) := by
  obtain ⟨i1, hi1, hw0, hw1', hw2'⟩ := info_parts' Try.infoIntS
  have hB : Own w (w.alloc (.cells #[.int .i64 kd, .int .i64 a, .int .i64 n, .int .i64 old] 46)) [cellsA w.heap.size #[.int .i64 kd, .int .i64 a, .int .i64 n, .int .i64 old] 46] := (Own.nil (Below.refl w.heap.size w)).box #[.int .i64 kd, .int .i64 a, .int .i64 n, .int .i64 old] 46
  have hsrc2 := hsrc.alloc (.cells #[.int .i64 kd, .int .i64 a, .int .i64 n, .int .i64 old] 46)
  obtain ⟨ad, rfl⟩ : ∃ ad, ao = some ad := by
    cases ao with
    | none => obtain ⟨q1, q2⟩ := hsrc.2.1 rfl; omega
    | some ad => exact ⟨ad, rfl⟩
  have hy0 := hsrc.2.2 ad rfl a _ (getD_map ha)
  clear hsrc
  have g0 : decide ((a : Int) < 0) = false := by simp
  have g1 : decide ((ms.length : Int) ≤ (a : Int)) = false := by simp; omega
  unfold stepD at hr
  rw [if_neg (by omega), if_neg (by omega)] at hr
  simp only [Int.toNat_natCast] at hr
  have hset := fun (w2 : World) (ao2 : Option Addr) (cap2 : Nat) (y : Int) (h : Own w w2 [cellsA w.heap.size #[.int .i64 kd, .int .i64 a, .int .i64 n, .int .i64 old] 46, rowA 3 1 (.slice ao2 ms.length cap2) ms.length (ms.map (.int .i64))]) => (show ∃ g off, ao2 = some ⟨g, off, none⟩ ∧ (∃ X, w2.cell? ⟨g, off + a, none⟩ = some (.int .i64 X)) ∧ w2.frozen? ⟨g, off + a, none⟩ = false ∧ ∀ y, Own w (w2.setCell ⟨g, off + a, none⟩ (.int .i64 y)) [cellsA w.heap.size #[.int .i64 kd, .int .i64 a, .int .i64 n, .int .i64 old] 46, rowA 3 1 (.slice ao2 ms.length cap2) ms.length ((ms.set a y).map (.int .i64))] by
    obtain ⟨g3, off3, cap3, hv3, q1, q2, q3, q4⟩ := (h.row 1 rfl).addr (by omega)
    simp only [Value.slice.injEq] at hv3
    obtain ⟨rfl, _, rfl⟩ := hv3
    have x0 := q3 a (by omega)
    rw [getD_map ha] at x0
    exact ⟨g3, off3, rfl, ⟨_, x0⟩, q4 a (by omega), fun y => (h.rowset 1 rfl a (.int .i64 y) rfl).cast (by rw [map_set_i]; rfl)⟩)
  generalize hY : ms.getD a 0 = Y at *
  replace hset := Lib.hid hset
  clear hY
  rcases hk with rfl | rfl | rfl | rfl
  · simp only [if_true, Prod.mk.injEq] at hr
    obtain ⟨rfl, rfl, _⟩ := hr
    go_enter Try.func25, Try.ntmps25
    go_wp2_with (at_builtin; go_must (refine wpList_append_copy' _ rfl _ _ 22 rfl 3 i1 (.int .i64 0) 1 8 Try.underlying22 hi1 hw0 hw1' hw2' rfl (by decide) _ (by simp) rfl (some ad) ms.length cap (ms.map (Value.int .i64)) rfl hsrc2 (by simp [Value.oneCell']) (by unfold maxLen; omega) (by omega) ?_); intro ao2 cap2 w2 hrow hb2 hf2; have hO2 := hB.push hb2 (rowA 3 1 (.slice ao2 ms.length cap2) ms.length (ms.map (.int .i64))) hrow hf2; have c0 := (hO2.cget 0 rfl 0).1; have c1 := (hO2.cget 0 rfl 1).1; have c2 := (hO2.cget 0 rfl 2).1; have c3 := (hO2.cget 0 rfl 3).1; simp at c0 c1 c2 c3; have hy := hO2.old hy0)
    exact bodyPost_ret (v := .tuple #[.slice ao2 ms.length cap2, .int .i64 Y, .bool true]) (by simp [results, Try.results25, go_sem]) rfl ⟨ao2, cap2, rfl, hO2.row 1 rfl, hO2.own _ (List.mem_of_getElem? (i := 1) rfl), hO2.below⟩
  · rw [if_neg (by omega), if_pos rfl] at hr
    simp only [Prod.mk.injEq] at hr
    obtain ⟨rfl, rfl, _⟩ := hr
    go_enter Try.func25, Try.ntmps25
    go_wp2_with (at_builtin; go_must (refine wpList_append_copy' _ rfl _ _ 22 rfl 3 i1 (.int .i64 0) 1 8 Try.underlying22 hi1 hw0 hw1' hw2' rfl (by decide) _ (by simp) rfl (some ad) ms.length cap (ms.map (Value.int .i64)) rfl hsrc2 (by simp [Value.oneCell']) (by unfold maxLen; omega) (by omega) ?_); intro ao2 cap2 w2 hrow hb2 hf2; have hO2 := hB.push hb2 (rowA 3 1 (.slice ao2 ms.length cap2) ms.length (ms.map (.int .i64))) hrow hf2; have c0 := (hO2.cget 0 rfl 0).1; have c1 := (hO2.cget 0 rfl 1).1; have c2 := (hO2.cget 0 rfl 2).1; have c3 := (hO2.cget 0 rfl 3).1; simp at c0 c1 c2 c3; have hy := hO2.old hy0; obtain ⟨g, off, rfl, ⟨X, hX⟩, hf, hS⟩ := hset.out _ _ _ n hO2; have hS := Lib.hid hS; clear hO2 hrow hf2)
    have hO3 := hS.out n
    exact bodyPost_ret (v := .tuple #[.slice (some ⟨g, off, none⟩) ms.length cap2, .int .i64 0, .bool true]) (by simp [results, Try.results25, go_sem]) rfl ⟨_, cap2, rfl, hO3.row 1 rfl, hO3.own _ (List.mem_of_getElem? (i := 1) rfl), hO3.below⟩
  · rw [if_neg (by omega), if_neg (by omega), if_pos rfl] at hr
    simp only [Prod.mk.injEq] at hr
    obtain ⟨rfl, rfl, _⟩ := hr
    go_enter Try.func25, Try.ntmps25
    go_wp2_with (at_builtin; go_must (refine wpList_append_copy' _ rfl _ _ 22 rfl 3 i1 (.int .i64 0) 1 8 Try.underlying22 hi1 hw0 hw1' hw2' rfl (by decide) _ (by simp) rfl (some ad) ms.length cap (ms.map (Value.int .i64)) rfl hsrc2 (by simp [Value.oneCell']) (by unfold maxLen; omega) (by omega) ?_); intro ao2 cap2 w2 hrow hb2 hf2; have hO2 := hB.push hb2 (rowA 3 1 (.slice ao2 ms.length cap2) ms.length (ms.map (.int .i64))) hrow hf2; have c0 := (hO2.cget 0 rfl 0).1; have c1 := (hO2.cget 0 rfl 1).1; have c2 := (hO2.cget 0 rfl 2).1; have c3 := (hO2.cget 0 rfl 3).1; simp at c0 c1 c2 c3; have hy := hO2.old hy0; obtain ⟨g, off, rfl, ⟨X, hX⟩, hf, hS⟩ := hset.out _ _ _ n hO2; have hS := Lib.hid hS; clear hO2 hrow hf2)
    have hO3 := hS.out (wrap64 (Y + n))
    exact bodyPost_ret (v := .tuple #[.slice (some ⟨g, off, none⟩) ms.length cap2, .int .i64 Y, .bool true]) (by simp [results, Try.results25, go_sem]) rfl ⟨_, cap2, rfl, hO3.row 1 rfl, hO3.own _ (List.mem_of_getElem? (i := 1) rfl), hO3.below⟩
  · rw [if_neg (by omega), if_neg (by omega), if_neg (by omega)] at hr
    by_cases hq : Y = old
    · rw [if_pos hq] at hr
      simp only [Prod.mk.injEq] at hr
      obtain ⟨rfl, rfl, _⟩ := hr
      subst hq
      go_enter Try.func25, Try.ntmps25
      go_wp2_with (at_builtin; go_must (refine wpList_append_copy' _ rfl _ _ 22 rfl 3 i1 (.int .i64 0) 1 8 Try.underlying22 hi1 hw0 hw1' hw2' rfl (by decide) _ (by simp) rfl (some ad) ms.length cap (ms.map (Value.int .i64)) rfl hsrc2 (by simp [Value.oneCell']) (by unfold maxLen; omega) (by omega) ?_); intro ao2 cap2 w2 hrow hb2 hf2; have hO2 := hB.push hb2 (rowA 3 1 (.slice ao2 ms.length cap2) ms.length (ms.map (.int .i64))) hrow hf2; have c0 := (hO2.cget 0 rfl 0).1; have c1 := (hO2.cget 0 rfl 1).1; have c2 := (hO2.cget 0 rfl 2).1; have c3 := (hO2.cget 0 rfl 3).1; simp at c0 c1 c2 c3; have hy := hO2.old hy0; obtain ⟨g, off, rfl, ⟨X, hX⟩, hf, hS⟩ := hset.out _ _ _ n hO2; have hS := Lib.hid hS; clear hO2 hrow hf2)
      have hO3 := hS.out n
      exact bodyPost_ret (v := .tuple #[.slice (some ⟨g, off, none⟩) ms.length cap2, .int .i64 Y, .bool true]) (by simp [results, Try.results25, go_sem]) rfl ⟨_, cap2, rfl, hO3.row 1 rfl, hO3.own _ (List.mem_of_getElem? (i := 1) rfl), hO3.below⟩
    · rw [if_neg hq] at hr
      simp only [Prod.mk.injEq] at hr
      obtain ⟨rfl, rfl, _⟩ := hr
      have hq' : (Y == old) = false := by simp [hq]
      go_enter Try.func25, Try.ntmps25
      go_wp2_with (at_builtin; go_must (refine wpList_append_copy' _ rfl _ _ 22 rfl 3 i1 (.int .i64 0) 1 8 Try.underlying22 hi1 hw0 hw1' hw2' rfl (by decide) _ (by simp) rfl (some ad) ms.length cap (ms.map (Value.int .i64)) rfl hsrc2 (by simp [Value.oneCell']) (by unfold maxLen; omega) (by omega) ?_); intro ao2 cap2 w2 hrow hb2 hf2; have hO2 := hB.push hb2 (rowA 3 1 (.slice ao2 ms.length cap2) ms.length (ms.map (.int .i64))) hrow hf2; have c0 := (hO2.cget 0 rfl 0).1; have c1 := (hO2.cget 0 rfl 1).1; have c2 := (hO2.cget 0 rfl 2).1; have c3 := (hO2.cget 0 rfl 3).1; simp at c0 c1 c2 c3; have hy := hO2.old hy0)
      exact bodyPost_ret (v := .tuple #[.slice ao2 ms.length cap2, .int .i64 Y, .bool true]) (by simp [results, Try.results25, go_sem]) rfl ⟨ao2, cap2, rfl, hO2.row 1 rfl, hO2.own _ (List.mem_of_getElem? (i := 1) rfl), hO2.below⟩
/-- The document's step, whatever is asked. -/
theorem refDo_any {ao : Option Addr} {cap : Nat} {ms : List Int} {w : World} (hsrc : Src w ao ms.length cap 1 (ms.map (.int .i64))) (hl : ms.length ≤ 1048576) (kd at_ n old : Int) (hk : 0 ≤ kd ∧ kd ≤ 4) (h0 : -9223372036854775808 ≤ at_ ∧ at_ ≤ 9223372036854775807) (h1 : -9223372036854775808 ≤ n ∧ n ≤ 9223372036854775807) (ms' : List Int) (x : Int) (t : Bool) (hr : stepD kd at_ n old ms = (ms', x, t)) :
    Calls Try.prog 25 #[.slice ao ms.length cap, .agg #[.int .i64 kd, .int .i64 at_, .int .i64 n, .int .i64 old]] w (RefDone ms' x t ms.length w) := by
  by_cases hk4 : kd = 4
  · subst hk4
    simp only [stepD, if_true, Prod.mk.injEq] at hr
    obtain ⟨rfl, rfl, rfl⟩ := hr
    exact refFill_any hsrc hl at_ n old h0 h1
  · by_cases hin : at_ < 0 ∨ (ms.length : Int) ≤ at_
    · unfold stepD at hr
      rw [if_neg hk4, if_pos hin] at hr
      simp only [Prod.mk.injEq] at hr
      obtain ⟨rfl, rfl, rfl⟩ := hr
      exact refOut_any hsrc hl kd at_ n old (by simp [hk4]) hin
    · obtain ⟨a, rfl⟩ : ∃ a : Nat, at_ = a := ⟨at_.toNat, by omega⟩
      have ht : t = true := by
        unfold stepD at hr
        rw [if_neg hk4, if_neg hin] at hr
        repeat' split at hr
        all_goals (simp only [Prod.mk.injEq] at hr; exact hr.2.2.symm)
      subst ht
      exact refIn_any hsrc hl kd n old a (by omega) (by omega) ms' x hr
end Go.Proofs.Ytpijgjalabocpaa
