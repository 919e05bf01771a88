/- Emitting a number leaves what else there is as it was. -/
import Derived.Test.YtcegncbnanbenaaCor8
set_option linter.unusedVariables false
set_option linter.unusedSimpArgs false
namespace Go.Proofs.Ytcegncbnanbenaa
open Go.RowKit
set_option maxRecDepth 100000
set_option maxHeartbeats 4000000
theorem semit2 {w0 w : World} {sb : Nat} {O : Int} {l : List Ast} (h : Own w0 w (cellsA sb #[.slice none 0 0, .int .i64 O] 120 :: l)) (x : Int) :
    Calls Try.prog 35 #[.pointer (some ⟨sb, 0, none⟩), .int .i64 x] w fun e w' => e = .returned (.bool (decide (0 < O))) ∧ Own w0 w' l := by
  obtain ⟨i0, hi0, hz0, hz1, hz2⟩ := info_parts' Try.infoIntK
  have c0 := (h.cget 0 rfl 0).1
  have c1 := (h.cget 0 rfl 1).1
  simp at c0 c1
  have hn := fun n => h.drewN n
  have hnn := Lib.hid hn
  clear hn h
  by_cases hO : 0 < O
  · have hO2 : ¬ O ≤ 0 := by omega
    have hO3 : decide (0 < O) = true := by simpa using hO
    rw [hO3]
    go_enter Try.func35, Try.ntmps35
    go_wp2_with fail
    go_quiet (fail)
    replace hnn := hnn.out
    rename_i nq
    have hO4 := (hnn nq).push (Below.refl _ _) (rowA 3 1 (.slice none 0 0) 0 []) (Row.nil _ _ _) (by rintro k ⟨⟩)
    clear c0 c1
    clear hnn
    generalize w.drewN nq = u at *
    have c0 := (hO4.cget 0 rfl 0).1
    simp at c0
    have HE := Lib.hid (fun (w3 : World) (ao2 : Option Addr) (cap2 : Nat) (hr : Row w3 3 1 (.slice ao2 1 cap2) 1 [.int .i64 x]) (ht : Touch (fun k => Value.ownBlock (.slice none 0 0) = some k) u w3) (hf : ∀ k, Value.ownBlock (.slice ao2 1 cap2) = some k → Value.ownBlock (.slice none 0 0) = some k ∨ u.heap.size ≤ k) =>
      show (∃ v, w3.cell? ⟨sb, 0, none⟩ = some v) ∧ w3.frozen? ⟨sb, 0, none⟩ = false ∧ Own w0 (w3.setCell ⟨sb, 0, none⟩ (.slice ao2 1 cap2)) l from by
        have h1 := hO4.move (cellsA sb #[.slice none 0 0, .int .i64 O] 120 :: l).length List.getElem?_concat_length (Moves.of_append hr ht hf)
        simp only [List.length_cons, List.cons_append, List.set_cons_succ] at h1
        have h2 := h1.cset 0 rfl 0 (.slice ao2 1 cap2)
        exact ⟨⟨_, (h1.cget 0 rfl 0).1⟩, (h1.cget 0 rfl 0).2, h2.sub (by simp)⟩)
    have hrw : Row u 3 1 (.slice none 0 0) 0 [] := Row.nil _ _ _
    clear hO4
    go_wp2_with (at_builtin; refine wpList_append_lit' _ rfl _ _ 36 rfl 3 i0 (.int .i64 0) 1 8 Try.underlying36 hi0 hz0 hz1 hz2 rfl (by decide) (.slice none 0 0) 0 [] rfl hrw #[.int .i64 x] _ 1 _ rfl rfl rfl (by simp [Value.oneCell']) (by unfold maxLen; omega) (by omega) ?_; intro ao2 cap2 w3 hr3 ht3 hf3; obtain ⟨⟨v, y5⟩, y6, hbn⟩ := HE.out _ _ _ hr3 ht3 hf3; replace hbn := Lib.hid hbn)
    go_ret
    exact ⟨rfl, hbn.out⟩
  · have hO2 : O ≤ 0 := by omega
    have hO3 : decide (0 < O) = false := by simpa using hO
    rw [hO3]
    go_enter Try.func35, Try.ntmps35
    go_wp2_with fail
    go_quiet (fail)
    go_wp2_with fail
    go_ret
    exact ⟨rfl, (hnn.out _).sub (List.sublist_cons_self _ _)⟩
end Go.Proofs.Ytcegncbnanbenaa
