/- What is got, put, is the bytes: of single instructions. No program in sight. -/
import Derived.Test.YtboiogjklecpaaaInsBack
set_option linter.unusedVariables false
set_option linter.unusedSimpArgs false
namespace Go.Proofs.Ytboiogjklecpaaa
open Go.RowKit
theorem low_byte (x : UInt8) : low (ofB [x]) 1 = [x] := by
  rw [low_one, byte_eq x (ofB_one x)]
theorem two_bytes (x y : UInt8) (n : Int) (h : n % 65536 = 256 * x.toNat + y.toNat) : low n 2 = [x, y] := by
  have hx := x.toNat_lt
  have hy := y.toNat_lt
  rw [low_two, show n / 256 % 256 = ((x.toNat : Int)) % 256 by omega, show n % 256 = (y.toNat : Int) % 256 by omega, byte_eq x rfl, byte_eq y rfl]
theorem low_bytes (x y : UInt8) : low (ofB [x, y]) 2 = [x, y] := by
  have hx := x.toNat_lt
  have hy := y.toNat_lt
  exact two_bytes x y _ (by rw [ofB_two]; omega)
theorem low_sgn (x y : UInt8) : low (sgn (ofB [x, y]) 2) 2 = [x, y] := by
  have hx := x.toNat_lt
  have hy := y.toNat_lt
  refine two_bytes x y _ ?_
  rw [ofB_two]
  unfold sgn
  simp
  split <;> omega
theorem put_get {b0 b1 b2 b3 : UInt8} (h : (getI [b0, b1, b2, b3]).2 = 0) : putI (getI [b0, b1, b2, b3]).1.1 (getI [b0, b1, b2, b3]).1.2.1 (getI [b0, b1, b2, b3]).1.2.2.1 (getI [b0, b1, b2, b3]).1.2.2.2 = [b0, b1, b2, b3] ∧ checkI (getI [b0, b1, b2, b3]).1.1 (getI [b0, b1, b2, b3]).1.2.1 (getI [b0, b1, b2, b3]).1.2.2.1 (getI [b0, b1, b2, b3]).1.2.2.2 = 0 := by
  unfold getI at h ⊢
  simp only [List.take_succ_cons, List.take_zero, List.drop_succ_cons, List.drop_zero] at h ⊢
  rcases form_cases (ofB [b0]) with hc | hc | hc | hc | hc | hc | hc | hc
  all_goals
    rw [hc.1] at h ⊢
    simp only [readF, wideL] at h ⊢
    simp at h ⊢
  all_goals
    split at h
    · rename_i hE
      simp only [if_pos hE] at h ⊢
      first
        | (refine ⟨?_, hE⟩
           unfold putI
           rw [hc.1]
           simp [putF, wideL, low_byte, low_bytes, low_sgn])
        | (split at h
           · rename_i hz
             simp only [if_pos hz]
             refine ⟨?_, hE⟩
             unfold putI
             rw [hc.1]
             simp [putF, wideL, low_byte, low_bytes, low_sgn, hz]
           · simp at h)
    · rename_i hE
      exact absurd h hE
end Go.Proofs.Ytboiogjklecpaaa
