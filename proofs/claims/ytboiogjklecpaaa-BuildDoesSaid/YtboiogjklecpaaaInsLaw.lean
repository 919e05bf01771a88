/- What is wrong with an instruction, letter by letter. No program in sight. -/
import Derived.Test.YtboiogjklecpaaaInsSpec
set_option linter.unusedVariables false
set_option linter.unusedSimpArgs false
namespace Go.Proofs.Ytboiogjklecpaaa
open Go.RowKit
theorem check_bad : ∀ (F : List UInt8) (V : List Int) (r : Nat), F.length ≤ V.length → (∀ i, i < r → fitB (F.getD i 0) (V.getD i 0) = true) → r < F.length → fitB (F.getD r 0) (V.getD r 0) = false → checkF F V = 3
  | [], V, r, _, _, hr, _ => by simp at hr
  | c :: cs, [], r, hl, _, _, _ => by simp at hl
  | c :: cs, n :: l, 0, hl, _, _, hf => by simp at hf; simp [checkF, hf]
  | c :: cs, n :: l, r + 1, hl, h, hr, hf => by
    have h0 := h 0 (by omega)
    simp at h0
    simp only [checkF, h0, if_true]
    exact check_bad cs l r (by simpa using hl) (fun i hi => by simpa using h (i + 1) (by omega)) (by simpa using hr) (by simpa using hf)
theorem check_rest : ∀ (F : List UInt8) (V : List Int), F.length ≤ V.length → (∀ i, i < F.length → fitB (F.getD i 0) (V.getD i 0) = true) → checkF F V = if (V.drop F.length).all (· == 0) = true then 0 else 4
  | [], V, _, _ => by simp [checkF]
  | c :: cs, [], hl, _ => by simp at hl
  | c :: cs, n :: l, hl, h => by
    have h0 := h 0 (by simp)
    simp at h0
    simp only [checkF, h0, if_true]
    rw [check_rest cs l (by simpa using hl) (fun i hi => by simpa using h (i + 1) (by simpa using hi))]
    simp
theorem all_zero_yes {V : List Int} {n : Nat} (h : ∀ j, j < V.length - n → V.getD (n + j) 0 = 0) : (V.drop n).all (· == 0) = true := by
  rw [List.all_eq_true]
  intro x hx
  obtain ⟨j, hj, rfl⟩ := List.mem_iff_getElem.1 hx
  have hj' : j < V.length - n := by simpa using hj
  have := h j hj'
  rw [List.getD_eq_getElem?_getD, List.getElem?_eq_getElem (by omega)] at this
  simpa using this
theorem all_zero_no {V : List Int} {n j : Nat} (hj : j < V.length - n) (h : V.getD (n + j) 0 ≠ 0) : (V.drop n).all (· == 0) = false := by
  rw [Bool.eq_false_iff]
  intro ha
  rw [List.all_eq_true] at ha
  have hm : (V.drop n)[j]'(by simpa using hj) ∈ V.drop n := List.getElem_mem _
  have := ha _ hm
  rw [List.getD_eq_getElem?_getD, List.getElem?_eq_getElem (by omega)] at h
  simp at this h
  exact h this
theorem form_len (op : Int) : (formL op).length ≤ 3 := by
  rcases form_cases op with h | h | h | h | h | h | h | h <;> rw [h.1] <;> simp
theorem v3_cell {w : World} {B : Nat} {a b c : Int} (y0 : w.cell? ⟨B, 0, none⟩ = some (.int .i64 a)) (y1 : w.cell? ⟨B, 1, none⟩ = some (.int .i64 b)) (y2 : w.cell? ⟨B, 2, none⟩ = some (.int .i64 c)) {r : Nat} (hr : r < 3) : w.cell? ⟨B, r, none⟩ = some (.int .i64 ([a, b, c].getD r 0)) := by
  rcases (show r = 0 ∨ r = 1 ∨ r = 2 by omega) with rfl | rfl | rfl <;> assumption
end Go.Proofs.Ytboiogjklecpaaa
