/- How long a program's bytes are, and a program whose functions are doubled. No program in sight. -/
import Derived.Test.YtboiogjklecpaaaPgmSpec
set_option linter.unusedVariables false
set_option linter.unusedSimpArgs false
namespace Go.Proofs.Ytboiogjklecpaaa
open Go.RowKit
/-- So many bytes for these functions. -/
def lenP : List (List I4) → Nat
  | [] => 0
  | l :: fs => 2 + 4 * l.length + lenP fs
theorem flat_lenP : ∀ (fs : List (List I4)), (fs.flatMap funcB).length = lenP fs
  | [] => rfl
  | l :: fs => by rw [List.flatMap_cons, List.length_append, funcB_len, flat_lenP fs, lenP]
theorem lenP_app : ∀ (fs gs : List (List I4)), lenP (fs ++ gs) = lenP fs + lenP gs
  | [], gs => by simp [lenP]
  | l :: fs, gs => by rw [List.cons_append, lenP, lenP, lenP_app fs gs]; omega
theorem lenP_next {fs : List (List I4)} {r : Nat} {l : List I4} (h : r < fs.length) (hx : fs.getD r [] = l) : lenP (fs.take (r + 1)) = lenP (fs.take r) + 2 + 4 * l.length := by
  rw [List.take_succ_eq_append_getElem h, lenP_app]
  rw [List.getD_eq_getElem?_getD, List.getElem?_eq_getElem h] at hx
  simp only [Option.getD_some] at hx
  rw [hx]
  simp only [lenP]
  omega
theorem lenP_small : ∀ (fs : List (List I4)), (∀ l ∈ fs, l.length ≤ 300) → lenP fs ≤ 1202 * fs.length
  | [], _ => by simp [lenP]
  | l :: fs, h => by
    have h1 := h l (by simp)
    have h2 := lenP_small fs (fun x hx => h x (by simp [hx]))
    rw [lenP, List.length_cons]
    omega
theorem putP_lenP {mem : Int} {fs : List (List I4)} : (putP mem fs).length = 6 + lenP fs := by rw [putP_len, flat_lenP]
theorem leads_mono {x : I4} {code n m : Int} (hnm : n ≤ m) (h : leadsP x code n = true) : leadsP x code m = true := by
  unfold leadsP at h ⊢
  split at h
  · rename_i h1; rw [if_pos h1]; exact h
  · rename_i h1
    rw [if_neg h1]
    split at h
    · rename_i h2; rw [if_pos h2]; exact h
    · rename_i h2
      rw [if_neg h2]
      split at h
      · rename_i h3
        rw [if_pos h3]
        simp only [decide_eq_true_eq] at h ⊢
        omega
      · rename_i h3; rw [if_neg h3]
theorem body_mono {code n m : Int} (hnm : n ≤ m) : ∀ {l : List I4}, bodyP code n l = 0 → bodyP code m l = 0
  | [], _ => rfl
  | x :: l, h => by
    unfold bodyP at h ⊢
    split at h
    · rename_i hc; exact absurd h hc
    · rename_i hc
      rw [if_neg hc]
      split at h
      · rename_i hl
        rw [if_pos (leads_mono hnm hl)]
        exact body_mono hnm h
      · simp at h
theorem func_mono {n m : Int} (hnm : n ≤ m) {l : List I4} (h : funcP n l = 0) : funcP m l = 0 := by
  obtain ⟨h1, h2, h3⟩ := func_ok h
  unfold funcP
  rw [if_neg (by simpa using h1), if_neg (by simpa using body_mono hnm h2)]
  exact h3
theorem funcs_all {n : Int} : ∀ {fs : List (List I4)}, (∀ l ∈ fs, funcP n l = 0) → funcsP n fs = 0
  | [], _ => rfl
  | l :: fs, h => by
    unfold funcsP
    rw [if_neg (by simpa using h l (by simp))]
    exact funcs_all (fun x hx => h x (by simp [hx]))
/-- The functions twice over: too many, or right. -/
theorem check_twice {mem : Int} {fs : List (List I4)} (h : checkP mem fs = 0) : checkP mem (fs ++ fs) = if 16 < fs.length + fs.length then 9 else 0 := by
  obtain ⟨h1, h2⟩ := check_parts h
  obtain ⟨m0, m1, hn, h16⟩ := sizes_ok h1
  have hn' : fs.length ≠ 0 := by omega
  have hs : sizesP mem (fs ++ fs).length = if 16 < fs.length + fs.length then 9 else 0 := by
    rw [List.length_append]
    unfold sizesP manyP
    rw [if_neg (by omega), if_neg (by omega)]
    split <;> split <;> first | rfl | (exfalso; omega)
  unfold checkP
  rw [hs]
  split
  · rw [if_pos (by decide)]
  · rw [if_neg (by simp)]
    refine funcs_all fun l hl => ?_
    have hl' : l ∈ fs := by simpa using hl
    exact func_mono (by rw [List.length_append]; omega) (funcs_ok h2 l hl')
theorem put_twice {mem : Int} {fs : List (List I4)} : (putP mem (fs ++ fs)).length = 6 + (lenP fs + lenP fs) := by
  rw [putP_lenP, lenP_app]
end Go.Proofs.Ytboiogjklecpaaa
