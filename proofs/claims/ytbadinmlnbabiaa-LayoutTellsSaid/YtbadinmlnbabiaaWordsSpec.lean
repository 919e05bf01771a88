/- Where each word of a plan is: the list of all words, and its places. No program in sight. -/
import Derived.Test.YtbadinmlnbabiaaBase
set_option linter.unusedVariables false
set_option linter.unusedSimpArgs false
namespace Go.Proofs.Ytbadinmlnbabiaa
open Go.RowKit
abbrev W3 := Nat × Nat × Nat
def dequeW (d : Nat) (w : Nat) : List W3 := [(0, w, 0), (1, w, 0), (2, w, 0), (3, w, 0)] ++ (List.range d).map fun n => (4, w, n)
def fourW (f q : Nat) : List W3 := [(7, f, q), (8, f, q), (9, f, q), (10, f, q)]
def frameW (c : Nat) (f : Nat) : List W3 := [(5, f, 0), (6, f, 0)] ++ (List.range (c + 1)).flatMap (fourW f)
def wordsW (a b c d : Nat) : List W3 := (List.range a).flatMap (dequeW d) ++ (List.range b).flatMap fun f => frameW c (f + 1)
def posW (a c d : Nat) (x : W3) : Nat :=
  if x.1 ≤ 3 then x.2.1 * (4 + d) + x.1 else if x.1 = 4 then x.2.1 * (4 + d) + 4 + x.2.2 else
  if x.1 ≤ 6 then a * (4 + d) + (x.2.1 - 1) * (2 + 4 * (c + 1)) + (x.1 - 5) else
  a * (4 + d) + (x.2.1 - 1) * (2 + 4 * (c + 1)) + 2 + 4 * x.2.2 + (x.1 - 7)
theorem flat_len {α : Type} {f : Nat → List α} {L : Nat} (hL : ∀ k, (f k).length = L) : ∀ n, ((List.range n).flatMap f).length = n * L
  | 0 => by simp
  | n + 1 => by rw [List.range_succ, List.flatMap_append, List.length_append, flat_len hL n]; simp [hL, Nat.succ_mul]
theorem flat_get {α : Type} {f : Nat → List α} {L : Nat} (hL : ∀ k, (f k).length = L) : ∀ {n k j : Nat}, k < n → j < L → ((List.range n).flatMap f)[k * L + j]? = (f k)[j]?
  | 0, k, j, h, _ => by omega
  | n + 1, k, j, h, hj => by
    rw [List.range_succ, List.flatMap_append]
    have hl := flat_len hL n
    by_cases hk : k < n
    · have : k * L + j < n * L := by
        have := Nat.mul_le_mul_right L (show k + 1 ≤ n by omega)
        rw [Nat.succ_mul] at this
        omega
      rw [List.getElem?_append_left (by rw [hl]; exact this)]
      exact flat_get hL hk hj
    · obtain rfl : k = n := by omega
      rw [List.getElem?_append_right (by rw [hl]; omega), hl, show k * L + j - k * L = j by omega]
      simp
theorem deque_len (d w : Nat) : (dequeW d w).length = 4 + d := by simp [dequeW]; omega
theorem four_len (f q : Nat) : (fourW f q).length = 4 := rfl
theorem frame_len (c f : Nat) : (frameW c f).length = 2 + 4 * (c + 1) := by
  rw [frameW, List.length_append, flat_len (four_len f)]
  simp; omega
theorem words_len (a b c d : Nat) : (wordsW a b c d).length = a * (4 + d) + b * (2 + 4 * (c + 1)) := by
  rw [wordsW, List.length_append, flat_len (deque_len d), flat_len (fun k => frame_len c (k + 1))]
theorem deque_at {a b c d k j : Nat} (hk : k < a) (hj : j < 4 + d) : (wordsW a b c d)[k * (4 + d) + j]? = (dequeW d k)[j]? := by
  rw [wordsW, List.getElem?_append_left]
  · exact flat_get (deque_len d) hk hj
  · rw [flat_len (deque_len d)]
    have := Nat.mul_le_mul_right (4 + d) (show k + 1 ≤ a by omega)
    rw [Nat.succ_mul] at this
    omega
theorem frames_at {a b c d f j : Nat} (hf : f < b) (hj : j < 2 + 4 * (c + 1)) : (wordsW a b c d)[a * (4 + d) + f * (2 + 4 * (c + 1)) + j]? = (frameW c (f + 1))[j]? := by
  rw [wordsW, List.getElem?_append_right (by rw [flat_len (deque_len d)]; omega), flat_len (deque_len d), Nat.add_assoc, Nat.add_sub_cancel_left]
  exact flat_get (fun k => frame_len c (k + 1)) hf hj
theorem frame_four {c f q j : Nat} (hq : q ≤ c) (hj : j < 4) : (frameW c f)[2 + 4 * q + j]? = (fourW f q)[j]? := by
  rw [frameW, List.getElem?_append_right (by simp; omega)]
  rw [show 2 + 4 * q + j - [(5, f, 0), (6, f, 0)].length = q * 4 + j by simp; omega]
  exact flat_get (four_len f) (by omega) hj
theorem deque_slot {d w n : Nat} (h : n < d) : (dequeW d w)[4 + n]? = some (4, w, n) := by
  rw [dequeW, List.getElem?_append_right (by simp)]
  simp [h]
/-- Each word stands at its place alone. -/
theorem words_pos {a b c d i : Nat} {x : W3} (h : (wordsW a b c d)[i]? = some x) : i = posW a c d x := by
  have hi : i < a * (4 + d) + b * (2 + 4 * (c + 1)) := by
    rw [← words_len]
    exact (List.getElem?_eq_some_iff.1 h).1
  by_cases h1 : i < a * (4 + d)
  · have hD : 0 < 4 + d := by omega
    have e := Nat.div_add_mod i (4 + d)
    rw [Nat.mul_comm] at e
    have hm := Nat.mod_lt i hD
    have hk : i / (4 + d) < a := Nat.div_lt_of_lt_mul (by rw [Nat.mul_comm]; exact h1)
    generalize i / (4 + d) = k at *
    generalize i % (4 + d) = j at *
    rw [← e, deque_at hk hm] at h
    rw [← e]
    by_cases h4 : j < 4
    · rw [dequeW, List.getElem?_append_left (by simpa using h4)] at h
      rcases (show j = 0 ∨ j = 1 ∨ j = 2 ∨ j = 3 by omega) with rfl | rfl | rfl | rfl <;>
        (simp at h; subst h; simp [posW])
    · obtain ⟨n, rfl⟩ : ∃ n, j = 4 + n := ⟨j - 4, by omega⟩
      rw [deque_slot (by omega)] at h
      simp at h
      subst h
      simp [posW]
      omega
  · obtain ⟨i', rfl⟩ : ∃ i', i = a * (4 + d) + i' := ⟨i - a * (4 + d), by omega⟩
    have hR : 0 < 2 + 4 * (c + 1) := by omega
    have e := Nat.div_add_mod i' (2 + 4 * (c + 1))
    rw [Nat.mul_comm] at e
    have hm := Nat.mod_lt i' hR
    have hk : i' / (2 + 4 * (c + 1)) < b := Nat.div_lt_of_lt_mul (by rw [Nat.mul_comm]; omega)
    generalize i' / (2 + 4 * (c + 1)) = f at *
    generalize i' % (2 + 4 * (c + 1)) = j at *
    rw [← e, ← Nat.add_assoc, frames_at hk hm] at h
    rw [← e, ← Nat.add_assoc]
    by_cases h2 : j < 2
    · rw [frameW, List.getElem?_append_left (by simpa using h2)] at h
      rcases (show j = 0 ∨ j = 1 by omega) with rfl | rfl <;>
        (simp at h; subst h; simp [posW])
    · have e2 := Nat.div_add_mod (j - 2) 4
      have hm2 := Nat.mod_lt (j - 2) (show 0 < 4 by decide)
      have hq : (j - 2) / 4 ≤ c := by omega
      generalize (j - 2) / 4 = q at *
      generalize (j - 2) % 4 = m at *
      obtain rfl : j = 2 + 4 * q + m := by omega
      rw [frame_four hq hm2] at h
      rcases (show m = 0 ∨ m = 1 ∨ m = 2 ∨ m = 3 by omega) with rfl | rfl | rfl | rfl <;>
        (simp [fourW] at h; subst h; simp [posW] <;> omega)
theorem word_head {a b c d k j : Nat} (hk : k < a) (hj : j < 4) : (wordsW a b c d)[k * (4 + d) + j]? = some (j, k, 0) := by
  rw [deque_at hk (by omega), dequeW, List.getElem?_append_left (by simpa using hj)]
  rcases (show j = 0 ∨ j = 1 ∨ j = 2 ∨ j = 3 by omega) with rfl | rfl | rfl | rfl <;> rfl
theorem word_slot {a b c d k n : Nat} (hk : k < a) (hn : n < d) : (wordsW a b c d)[k * (4 + d) + 4 + n]? = some (4, k, n) := by
  rw [Nat.add_assoc, deque_at hk (by omega), deque_slot hn]
theorem word_own {a b c d f j : Nat} (hf : f < b) (hj : j < 2) : (wordsW a b c d)[a * (4 + d) + f * (2 + 4 * (c + 1)) + j]? = some (5 + j, f + 1, 0) := by
  rw [frames_at hf (by omega), frameW, List.getElem?_append_left (by simpa using hj)]
  rcases (show j = 0 ∨ j = 1 by omega) with rfl | rfl <;> rfl
theorem word_each {a b c d f q j : Nat} (hf : f < b) (hq : q ≤ c) (hj : j < 4) : (wordsW a b c d)[a * (4 + d) + f * (2 + 4 * (c + 1)) + (2 + 4 * q + j)]? = some (7 + j, f + 1, q) := by
  rw [frames_at hf (by omega), frame_four hq hj]
  rcases (show j = 0 ∨ j = 1 ∨ j = 2 ∨ j = 3 by omega) with rfl | rfl | rfl | rfl <;> rfl
end Go.Proofs.Ytbadinmlnbabiaa
