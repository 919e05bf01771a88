/- What is put is got, and what is got, put, is the bytes: of single instructions. No program in sight. -/
import Derived.Test.YtboiogjklecpaaaInsLaw
set_option linter.unusedVariables false
set_option linter.unusedSimpArgs false
namespace Go.Proofs.Ytboiogjklecpaaa
open Go.RowKit
theorem check_ok {op a b c : Int} (h : checkI op a b c = 0) : 0 ≤ op ∧ op ≤ 25 ∧ checkF (formL op) [a, b, c] = 0 := by
  unfold checkI at h
  split at h
  · omega
  · exact ⟨by omega, by omega, h⟩
theorem sgn_two {n : Int} (h0 : -32768 ≤ n) (h1 : n ≤ 32767) : sgn (256 * (n / 256 % 256) + n % 256) 2 = n := by
  unfold sgn
  simp
  split <;> omega
theorem put_len {op a b c : Int} : (putI op a b c).length = 4 := by
  unfold putI
  rcases form_cases op with h | h | h | h | h | h | h | h <;> rw [h.1] <;> simp [putF, wideL, low_len]
/-- What is put is got. -/
theorem get_put {op a b c : Int} (h : checkI op a b c = 0) : getI (putI op a b c) = ((op, a, b, c), 0) := by
  have h0 := h
  obtain ⟨o1, o2, hf⟩ := check_ok h
  have ho : ofB [UInt8.ofNat (op % 256).toNat] = op := by rw [ofB_one]; exact byte_in o1 (by omega)
  unfold putI getI
  rcases form_cases op with hc | hc | hc | hc | hc | hc | hc | hc
  all_goals
    rw [hc.1] at hf ⊢
    simp only [checkF, fitB] at hf
    simp [putF, wideL, low_one, low_two, ho, hc.1, readF, ofB_one, ofB_two] at hf ⊢
  · (repeat' split at hf) <;> first | (exfalso; omega) | skip
    rw [(show max (a % 256) 0 % 256 = a by omega), (show max (b % 256) 0 % 256 = b by omega), (show max (c % 256) 0 % 256 = c by omega)]
    rw [if_pos h0]
  · (repeat' split at hf) <;> first | (exfalso; omega) | skip
    obtain rfl : c = 0 := by omega
    rw [(show max (a % 256) 0 % 256 = a by omega), (show max (b % 256) 0 % 256 = b by omega)]
    rw [if_pos h0]
  · (repeat' split at hf) <;> first | (exfalso; omega) | skip
    obtain rfl : b = 0 := by omega
    obtain rfl : c = 0 := by omega
    rw [(show max (a % 256) 0 % 256 = a by omega)]
    rw [if_pos h0]
  · (repeat' split at hf) <;> first | (exfalso; omega) | skip
    obtain rfl : c = 0 := by omega
    rw [(show max (a % 256) 0 % 256 = a by omega), (show sgn (256 * (max (b / 256 % 256) 0 % 256) + max (b % 256) 0 % 256) 2 = b by rw [show 256 * (max (b / 256 % 256) 0 % 256) + max (b % 256) 0 % 256 = 256 * (b / 256 % 256) + b % 256 by omega]; exact sgn_two (by omega) (by omega))]
    rw [if_pos h0]
  · (repeat' split at hf) <;> first | (exfalso; omega) | skip
    obtain rfl : c = 0 := by omega
    rw [(show max (a % 256) 0 % 256 = a by omega), (show 256 * (max (b / 256 % 256) 0 % 256) + max (b % 256) 0 % 256 = b by omega)]
    rw [if_pos h0]
  · (repeat' split at hf) <;> first | (exfalso; omega) | skip
    obtain rfl : b = 0 := by omega
    obtain rfl : c = 0 := by omega
    rw [(show 256 * (max (a / 256 % 256) 0 % 256) + max (a % 256) 0 % 256 = a by omega)]
    rw [if_pos h0]
  · (repeat' split at hf) <;> first | (exfalso; omega) | skip
    obtain rfl : b = 0 := by omega
    obtain rfl : c = 0 := by omega
    rw [(show max (a % 256) 0 % 256 = a by omega)]
    rw [if_pos h0]
  · (repeat' split at hf) <;> first | (exfalso; omega) | skip
    obtain rfl : a = 0 := by omega
    obtain rfl : b = 0 := by omega
    obtain rfl : c = 0 := by omega
    rw [if_pos h0]
end Go.Proofs.Ytboiogjklecpaaa
