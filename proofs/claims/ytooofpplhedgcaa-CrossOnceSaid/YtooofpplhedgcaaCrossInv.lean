/- The plain law of CrossOnce: two walks that step in any order. -/
import Derived.Test.YtooofpplhedgcaaAhead
namespace Go.Proofs.Ytooofpplhedgcaa
/-- L: 0 the one ahead looks not, 1 to 3 its look's next access; B: 0 the one behind has not looked, 1 to 3 its park's next access, 4 it has ended. -/
structure CInv (n stage L at_ B : Nat) (sT : Bool) (come got goes : Nat) : Prop where
  lb : L ≤ 3
  ab : at_ ≤ n + 1
  bb : B ≤ 4
  cb : come = if at_ = 0 then 0 else if at_ = n + 1 then 1048576 else 1048575
  l0 : L ≠ 0 → 1 ≤ at_
  early : B ≤ 1 → sT = false ∧ got = 0 ∧ goes = 0 ∧ L ≤ 1
  mid : 2 ≤ B → B ≤ 3 → goes = 0
  one : 2 ≤ B → (if sT = true then 1 else 0) + (if L = 3 then 1 else 0) + got + goes = 1
  past : L = 2 ∨ L = 3 ∨ got ≠ 0 ∨ goes ≠ 0 ∨ B = 3 → stage < come
  wake : B = 4 → sT = true → stage < come → L = 1 ∨ L = 2
/-- How many steps the one ahead takes at most. -/
def muA (n L at_ B : Nat) (sT : Bool) : Nat :=
  if L = 0 then (if at_ = n + 1 then 0 else 2 * (n + 1 - at_) + (if B ≤ 1 ∨ sT = true then 2 else 0))
  else if L = 1 then 2 * (n + 1 - at_) + 1 + (if B ≤ 1 ∨ sT = true then 2 else 0)
  else if L = 2 then 2 * (n + 1 - at_) + (if sT = true then 2 else 1)
  else 2 * (n + 1 - at_) + 1
theorem CInv.start (n stage : Nat) : CInv n stage 0 0 0 false 0 0 0 := by
  refine ⟨by omega, by omega, by omega, by simp, by omega, by simp, by omega, by omega, by omega, by omega⟩
theorem CInv.ended {n stage L at_ B come got goes : Nat} {sT : Bool} (h : CInv n stage L at_ B sT come got goes) (hs : stage ≤ 59) (ha : muA n L at_ B sT = 0) (hb : B = 4) : got + goes = 1 ∧ at_ = n + 1 := by
  obtain ⟨h1, h2, h3, h4, h5, h6, h7, h8, h9, h10⟩ := h
  unfold muA at ha
  have hL : L = 0 ∧ at_ = n + 1 := by
    repeat' split at ha
    all_goals omega
  obtain ⟨rfl, rfl⟩ := hL
  have hc : stage < come := by rw [h4]; simp; omega
  have h8' := h8 (by omega)
  cases sT with
  | true => have := h10 hb rfl hc; omega
  | false => simp at h8'; exact ⟨h8', rfl⟩
theorem CInv.check {n stage L at_ B come got goes : Nat} {sT : Bool} (h : CInv n stage L at_ B sT come got goes) : got + goes = 0 ∨ (got + goes = 1 ∧ stage < come) := by
  by_cases hB : B ≤ 1
  · have := h.early hB; omega
  · have h8 := h.one (by omega)
    by_cases hg : got + goes = 0
    · exact .inl hg
    · exact .inr ⟨by split at h8 <;> split at h8 <;> omega, h.past (by omega)⟩
theorem CInv.a1 {n stage L at_ B come got goes : Nat} {sT : Bool} (h : CInv n stage L at_ B sT come got goes) (hs : stage ≤ 59) (hL : L = 0) (ha : at_ ≤ n) : CInv n stage 1 (at_ + 1) B sT (if at_ = n then 1048576 else 1048575) got goes ∧ muA n 1 (at_ + 1) B sT + 1 ≤ muA n L at_ B sT := by
  obtain ⟨h1, h2, h3, h4, h5, h6, h7, h8, h9, h10⟩ := h
  cases sT <;> simp at * <;> (refine ⟨⟨?_, ?_, ?_, ?_, ?_, ?_, ?_, ?_, ?_, ?_⟩, ?_⟩ <;> (try unfold muA) <;> (try simp) <;> (repeat' split) <;> (try split at h4) <;> (try split at h4) <;> (try split at h8) <;> omega)
theorem CInv.a3 {n stage L at_ B come got goes : Nat} {sT : Bool} (h : CInv n stage L at_ B sT come got goes) (hs : stage ≤ 59) (hL : L = 1) (ht : sT = true) (hc : stage < come) : CInv n stage 2 at_ B sT come got goes ∧ muA n 2 at_ B sT + 1 ≤ muA n L at_ B sT := by
  obtain ⟨h1, h2, h3, h4, h5, h6, h7, h8, h9, h10⟩ := h
  cases sT <;> simp at * <;> (refine ⟨⟨?_, ?_, ?_, ?_, ?_, ?_, ?_, ?_, ?_, ?_⟩, ?_⟩ <;> (try unfold muA) <;> (try simp) <;> (repeat' split) <;> (try split at h4) <;> (try split at h4) <;> (try split at h8) <;> omega)
theorem CInv.a4 {n stage L at_ B come got goes : Nat} {sT : Bool} (h : CInv n stage L at_ B sT come got goes) (hs : stage ≤ 59) (hL : L = 1) (hc : sT = true → ¬ stage < come) : CInv n stage 0 at_ B sT come got goes ∧ muA n 0 at_ B sT + 1 ≤ muA n L at_ B sT := by
  obtain ⟨h1, h2, h3, h4, h5, h6, h7, h8, h9, h10⟩ := h
  cases sT <;> simp at * <;> (refine ⟨⟨?_, ?_, ?_, ?_, ?_, ?_, ?_, ?_, ?_, ?_⟩, ?_⟩ <;> (try unfold muA) <;> (try simp) <;> (repeat' split) <;> (try split at h4) <;> (try split at h4) <;> (try split at h8) <;> omega)
theorem CInv.a5 {n stage L at_ B come got goes : Nat} {sT : Bool} (h : CInv n stage L at_ B sT come got goes) (hs : stage ≤ 59) (hL : L = 2) (ht : sT = true) : CInv n stage 3 at_ B false come got goes ∧ muA n 3 at_ B false + 1 ≤ muA n L at_ B sT := by
  obtain ⟨h1, h2, h3, h4, h5, h6, h7, h8, h9, h10⟩ := h
  cases sT <;> simp at * <;> (refine ⟨⟨?_, ?_, ?_, ?_, ?_, ?_, ?_, ?_, ?_, ?_⟩, ?_⟩ <;> (try unfold muA) <;> (try simp) <;> (repeat' split) <;> (try split at h4) <;> (try split at h4) <;> (try split at h8) <;> omega)
theorem CInv.a6 {n stage L at_ B come got goes : Nat} {sT : Bool} (h : CInv n stage L at_ B sT come got goes) (hs : stage ≤ 59) (hL : L = 2) (ht : sT = false) : CInv n stage 0 at_ B sT come got goes ∧ muA n 0 at_ B sT + 1 ≤ muA n L at_ B sT := by
  obtain ⟨h1, h2, h3, h4, h5, h6, h7, h8, h9, h10⟩ := h
  cases sT <;> simp at * <;> (refine ⟨⟨?_, ?_, ?_, ?_, ?_, ?_, ?_, ?_, ?_, ?_⟩, ?_⟩ <;> (try unfold muA) <;> (try simp) <;> (repeat' split) <;> (try split at h4) <;> (try split at h4) <;> (try split at h8) <;> omega)
theorem CInv.a7 {n stage L at_ B come got goes : Nat} {sT : Bool} (h : CInv n stage L at_ B sT come got goes) (hs : stage ≤ 59) (hL : L = 3) : CInv n stage 0 at_ B sT come (got + 1) goes ∧ muA n 0 at_ B sT + 1 ≤ muA n L at_ B sT := by
  obtain ⟨h1, h2, h3, h4, h5, h6, h7, h8, h9, h10⟩ := h
  cases sT <;> simp at * <;> (refine ⟨⟨?_, ?_, ?_, ?_, ?_, ?_, ?_, ?_, ?_, ?_⟩, ?_⟩ <;> (try unfold muA) <;> (try simp) <;> (repeat' split) <;> (try split at h4) <;> (try split at h4) <;> (try split at h8) <;> omega)
theorem CInv.b1 {n stage L at_ B come got goes : Nat} {sT : Bool} (h : CInv n stage L at_ B sT come got goes) (hs : stage ≤ 59) (hB : B = 0) (hc : stage < come) : CInv n stage L at_ 4 sT come got (goes + 1) ∧ muA n L at_ 4 sT ≤ muA n L at_ B sT := by
  obtain ⟨h1, h2, h3, h4, h5, h6, h7, h8, h9, h10⟩ := h
  cases sT <;> simp at * <;> (refine ⟨⟨?_, ?_, ?_, ?_, ?_, ?_, ?_, ?_, ?_, ?_⟩, ?_⟩ <;> (try unfold muA) <;> (try simp) <;> (repeat' split) <;> (try split at h4) <;> (try split at h4) <;> (try split at h8) <;> omega)
theorem CInv.b2 {n stage L at_ B come got goes : Nat} {sT : Bool} (h : CInv n stage L at_ B sT come got goes) (hs : stage ≤ 59) (hB : B = 0) : CInv n stage L at_ 1 sT come got goes ∧ muA n L at_ 1 sT ≤ muA n L at_ B sT := by
  obtain ⟨h1, h2, h3, h4, h5, h6, h7, h8, h9, h10⟩ := h
  cases sT <;> simp at * <;> (refine ⟨⟨?_, ?_, ?_, ?_, ?_, ?_, ?_, ?_, ?_, ?_⟩, ?_⟩ <;> (try unfold muA) <;> (try simp) <;> (repeat' split) <;> (try split at h4) <;> (try split at h4) <;> (try split at h8) <;> omega)
theorem CInv.b3 {n stage L at_ B come got goes : Nat} {sT : Bool} (h : CInv n stage L at_ B sT come got goes) (hs : stage ≤ 59) (hB : B = 1) : CInv n stage L at_ 2 true come got goes ∧ muA n L at_ 2 true ≤ muA n L at_ B sT := by
  obtain ⟨h1, h2, h3, h4, h5, h6, h7, h8, h9, h10⟩ := h
  cases sT <;> simp at * <;> (refine ⟨⟨?_, ?_, ?_, ?_, ?_, ?_, ?_, ?_, ?_, ?_⟩, ?_⟩ <;> (try unfold muA) <;> (try simp) <;> (repeat' split) <;> (try split at h4) <;> (try split at h4) <;> (try split at h8) <;> omega)
theorem CInv.b4 {n stage L at_ B come got goes : Nat} {sT : Bool} (h : CInv n stage L at_ B sT come got goes) (hs : stage ≤ 59) (hB : B = 2) (hc : stage < come) : CInv n stage L at_ 3 sT come got goes ∧ muA n L at_ 3 sT ≤ muA n L at_ B sT := by
  obtain ⟨h1, h2, h3, h4, h5, h6, h7, h8, h9, h10⟩ := h
  cases sT <;> simp at * <;> (refine ⟨⟨?_, ?_, ?_, ?_, ?_, ?_, ?_, ?_, ?_, ?_⟩, ?_⟩ <;> (try unfold muA) <;> (try simp) <;> (repeat' split) <;> (try split at h4) <;> (try split at h4) <;> (try split at h8) <;> omega)
theorem CInv.b5 {n stage L at_ B come got goes : Nat} {sT : Bool} (h : CInv n stage L at_ B sT come got goes) (hs : stage ≤ 59) (hB : B = 2) (hc : ¬ stage < come) : CInv n stage L at_ 4 sT come got goes ∧ muA n L at_ 4 sT ≤ muA n L at_ B sT := by
  obtain ⟨h1, h2, h3, h4, h5, h6, h7, h8, h9, h10⟩ := h
  cases sT <;> simp at * <;> (refine ⟨⟨?_, ?_, ?_, ?_, ?_, ?_, ?_, ?_, ?_, ?_⟩, ?_⟩ <;> (try unfold muA) <;> (try simp) <;> (repeat' split) <;> (try split at h4) <;> (try split at h4) <;> (try split at h8) <;> omega)
theorem CInv.b6 {n stage L at_ B come got goes : Nat} {sT : Bool} (h : CInv n stage L at_ B sT come got goes) (hs : stage ≤ 59) (hB : B = 3) (ht : sT = true) : CInv n stage L at_ 4 false come got (goes + 1) ∧ muA n L at_ 4 false ≤ muA n L at_ B sT := by
  obtain ⟨h1, h2, h3, h4, h5, h6, h7, h8, h9, h10⟩ := h
  cases sT <;> simp at * <;> (refine ⟨⟨?_, ?_, ?_, ?_, ?_, ?_, ?_, ?_, ?_, ?_⟩, ?_⟩ <;> (try unfold muA) <;> (try simp) <;> (repeat' split) <;> (try split at h4) <;> (try split at h4) <;> (try split at h8) <;> omega)
theorem CInv.b7 {n stage L at_ B come got goes : Nat} {sT : Bool} (h : CInv n stage L at_ B sT come got goes) (hs : stage ≤ 59) (hB : B = 3) (ht : sT = false) : CInv n stage L at_ 4 sT come got goes ∧ muA n L at_ 4 sT ≤ muA n L at_ B sT := by
  obtain ⟨h1, h2, h3, h4, h5, h6, h7, h8, h9, h10⟩ := h
  cases sT <;> simp at * <;> (refine ⟨⟨?_, ?_, ?_, ?_, ?_, ?_, ?_, ?_, ?_, ?_⟩, ?_⟩ <;> (try unfold muA) <;> (try simp) <;> (repeat' split) <;> (try split at h4) <;> (try split at h4) <;> (try split at h8) <;> omega)
end Go.Proofs.Ytooofpplhedgcaa
