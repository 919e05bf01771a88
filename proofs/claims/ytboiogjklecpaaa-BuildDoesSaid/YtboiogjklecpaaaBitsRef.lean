/- The reference of layer 2: what each function computes. -/
import Derived.Test.YtboiogjklecpaaaCut
set_option linter.unusedVariables false
set_option linter.unusedSimpArgs false
namespace Go.Proofs.Ytboiogjklecpaaa
open Go.RowKit
set_option maxHeartbeats 400000
set_option maxRecDepth 100000

theorem rsize_any (k : Int) (w : World) : Calls Try.prog 75 #[.int .i64 k] w fun e w' => e = .returned (.int .i64 (hs k)) ∧ w = w' := by
  go_enter Try.func75, Try.ntmps75
  go_wp2
  all_goals go_ret
  all_goals exact ⟨by simp [hs]; omega, rfl⟩

theorem p256 (r : Nat) (h : r ≤ 4) : (1 : Int) ≤ 256 ^ r ∧ (256 : Int) ^ r ≤ 4294967296 := by
  have : r = 0 ∨ r = 1 ∨ r = 2 ∨ r = 3 ∨ r = 4 := by omega
  rcases this with rfl | rfl | rfl | rfl | rfl <;> decide

theorem whole_any (k : Int) (w : World) : Calls Try.prog 74 #[.int .i64 k] w fun e w' => e = .returned (.int .i64 (256 ^ hs k)) ∧ w = w' := by
  obtain ⟨hj1, hj2⟩ := hs_bd k
  go_enter Try.func74, Try.ntmps74
  go_wp2_with (go_at_call 75; refine (rsize_any _ _).mono ?_; rintro e w2 ⟨rfl, rfl⟩)
  go_loop [3, 4] (fun v i => ∃ r : Nat, r ≤ hs k ∧ i = .int .i64 r ∧ v = .int .i64 (256 ^ r)) (fun _ i => (hs k - intOf i).toNat)
  case atStart => exact ⟨0, by omega, rfl, rfl⟩
  case round =>
    obtain ⟨r, hr, rfl, rfl⟩ := hrel
    obtain ⟨q1, q2⟩ := p256 r (by omega)
    by_cases hlt : r < hs k
    · go_wp2_with (go_at_call 75; refine (rsize_any _ _).mono ?_; rintro e w2 ⟨rfl, rfl⟩)
      go_round
      case rel => exact ⟨r + 1, by omega, by go_num, by rw [Int.pow_succ, Int.mul_comm]⟩
      case measure => simp [intOf]; omega
    · obtain rfl : r = hs k := by omega
      go_wp2_with (go_at_call 75; refine (rsize_any _ _).mono ?_; rintro e w2 ⟨rfl, rfl⟩)
      go_ret
      exact ⟨rfl, rfl⟩

theorem rest_any (n m : Int) (w : World) (h0 : 0 < m) (h1 : m ≤ 4294967296) (n0 : -9223372036854775808 ≤ n) (n1 : n ≤ 9223372036854775807) : Calls Try.prog 73 #[.int .i64 n, .int .i64 m] w fun e w' => e = .returned (.int .i64 (n % m)) ∧ w = w' := by
  have ht : n.tmod m = n % m ∨ n.tmod m = n % m - m := by
    by_cases hn : 0 ≤ n
    · left; exact Int.tmod_eq_emod_of_nonneg hn
    · rw [Int.tmod_eq_emod]; split
      · left; omega
      · right; have : (m.natAbs : Int) = m := by omega
        omega
  have he0 := Int.emod_nonneg n (b := m) (by omega)
  have he1 := Int.emod_lt_of_pos n h0
  have e : ∀ x : Int, n.tmod m = x → (if n.tmod m < 0 then wrap64 (x + m) else x) = n % m := by
    intro x hx
    rw [hx] at ht ⊢
    split
    · rw [IntWalk.wrap64_in _ (by omega)]; omega
    · omega
  have E := Lib.hid (e _ rfl)
  clear ht e
  go_enter Try.func73, Try.ntmps73
  go_wp2
  all_goals go_ret
  all_goals refine ⟨ret_int ?_, rfl⟩
  all_goals have q := E.out
  · rw [if_pos (by assumption)] at q; exact q
  · rw [if_neg (by omega)] at q; exact q

theorem emod_pow (n : Int) (r : Nat) (j : Nat) (h : r < j) : n % 256 ^ j / 256 ^ r % 256 = n / 256 ^ r % 256 := by
  obtain ⟨d, rfl⟩ : ∃ d, j = r + 1 + d := ⟨j - r - 1, by omega⟩
  rw [Int.pow_add, Int.pow_succ, Int.mul_assoc]
  have hp : (0 : Int) < 256 ^ r := Int.pow_pos (by decide)
  have h1 := Int.emod_def n (256 ^ r * (256 * 256 ^ d))
  generalize n / (256 ^ r * (256 * 256 ^ d)) = y at h1
  have h2 : n - 256 ^ r * (256 * 256 ^ d) * y = n + 256 ^ r * (-(256 * (256 ^ d * y))) := by
    rw [Int.mul_neg, Int.mul_assoc, Int.mul_assoc]; omega
  rw [h1, h2, Int.add_mul_ediv_left _ _ (by omega)]
  omega

theorem rput_any (l : List UInt8) (n k : Int) (w : World) (hl : l.length ≤ 1000000000) (n0 : -9223372036854775808 ≤ n) (n1 : n ≤ 9223372036854775807) :
    Calls Try.prog 54 #[.string ⟨l.toArray⟩, .int .i64 n, .int .i64 k] w fun e w' => e = .returned (.string ⟨(l ++ low n (hs k)).toArray⟩) ∧ Below w.heap.size w w' := by
  obtain ⟨i0, hi, hz0, hz1, hz2⟩ := info_parts Try.infoByte
  obtain ⟨hj1, hj2⟩ := hs_bd k
  obtain ⟨q1, q2⟩ := p256 (hs k) (by omega)
  go_enter Try.func54, Try.ntmps54
  go_wp2_with (first | (go_at_call 74; refine (whole_any _ _).mono ?_; rintro e w2 ⟨rfl, rfl⟩) | (go_at_call 73; refine (rest_any _ _ _ (by omega) q2 n0 n1).mono ?_; rintro e w2 ⟨rfl, rfl⟩))
  go_loopw [7, 8, 9] (fun m t i wr => ∃ r : Nat, r ≤ hs k ∧ i = .int .i64 (r : Int) ∧ m = .int .i64 (n % 256 ^ hs k / 256 ^ r) ∧ t = .string ⟨(low n r).toArray⟩ ∧ Below w.heap.size w wr) (fun _ _ i _ => (hs k - intOf i).toNat)
  case atStart => exact ⟨0, by omega, rfl, by simp, rfl, Below.refl _ _⟩
  case round =>
    obtain ⟨r, hr, rfl, rfl, rfl, hb⟩ := hrel
    have hlen := low_len n r
    have hx0 : 0 ≤ n % 256 ^ hs k / 256 ^ r := Int.ediv_nonneg (Int.emod_nonneg _ (by omega)) (Int.le_of_lt (Int.pow_pos (by decide)))
    have hx1 : n % 256 ^ hs k / 256 ^ r ≤ 4294967296 := by
      have h1 := Int.emod_lt_of_pos n (show (0 : Int) < 256 ^ hs k by omega)
      have h2 := Int.ediv_le_self (256 ^ r) (Int.emod_nonneg n (show (256 : Int) ^ hs k ≠ 0 by omega))
      omega
    have e2 : n % 256 ^ hs k / 256 ^ r / 256 = n % 256 ^ hs k / 256 ^ (r + 1) := by
      rw [Int.pow_succ, Int.ediv_ediv_of_nonneg (Int.le_of_lt (Int.pow_pos (by decide)))]
    have E2 := Lib.hid e2
    clear e2
    by_cases hlt : r < hs k
    · have e1 : n % 256 ^ hs k / 256 ^ r % 256 = ((UInt8.ofNat ((n / 256 ^ r) % 256).toNat).toNat : Int) := by rw [emod_pow _ _ _ hlt]; simp; omega
      have E1 := Lib.hid e1
      clear e1
      go_wp2_with (first | (go_at_call 75; refine (rsize_any _ _).mono ?_; rintro e w2 ⟨rfl, rfl⟩) | (with_reducible show wpList _ _ _ (Oper.mk _ (Op.convert 50 9 _) _ _ _ _ :: _) _ _; go_must (refine wpList_string_lit _ rfl 50 9 _ rfl 5 Try.underlying50 Try.underlying5 Try.underlying9 _ [UInt8.ofNat ((n / 256 ^ r) % 256).toNat] rfl (by simp [maxLen]) ?_ ?_)))
      · simp [bytesV]; rw [emod_pow _ _ _ hlt]; omega
      go_roundw
      case rel =>
        refine ⟨r + 1, by omega, by go_num, by rw [E2.out], ?_, ?_⟩
        · rw [show (ByteArray.mk #[UInt8.ofNat (n / 256 ^ r % 256).toNat]) = ByteArray.mk [UInt8.ofNat (n / 256 ^ r % 256).toNat].toArray from rfl, ByteArray.mk_append_mk]; rfl
        · exact hb.alloc hb.size _
      case measure => simp [intOf]; omega
    · obtain rfl : r = hs k := by omega
      go_wp2_with (go_at_call 75; refine (rsize_any _ _).mono ?_; rintro e w2 ⟨rfl, rfl⟩)
      go_ret
      exact ⟨rfl, hb⟩

theorem pow_lit (k : Int) : (256 : Int) ^ hs k = 256 ∨ (256 : Int) ^ hs k = 65536 ∨ (256 : Int) ^ hs k = 16777216 ∨ (256 : Int) ^ hs k = 4294967296 := by
  have h4 : hs k = 1 ∨ hs k = 2 ∨ hs k = 3 ∨ hs k = 4 := by have := hs_bd k; omega
  rcases h4 with h | h | h | h <;> rw [h] <;> simp
/-- A number modulo M, with its sign. -/
def sgM (n M : Int) : Int := if 2 * (n % M) ≥ M then n % M - M else n % M
def fitsM (n M : Int) : Bool := sgM n M == n
theorem rsigned_core (n k M : Int) (w : World) (hc : ∀ w, Calls Try.prog 74 #[.int .i64 k] w fun e w' => e = .returned (.int .i64 M) ∧ w = w') (hM : M = 256 ∨ M = 65536 ∨ M = 16777216 ∨ M = 4294967296) (n0 : -9223372036854775808 ≤ n) (n1 : n ≤ 9223372036854775807) :
    Calls Try.prog 61 #[.int .i64 n, .int .i64 k] w fun e w' => e = .returned (.int .i64 (sgM n M)) ∧ w = w' := by
  have HC := Lib.hid hc
  clear hc
  rcases hM with rfl | rfl | rfl | rfl
  all_goals
    go_enter Try.func61, Try.ntmps61
    go_wp2_with (first | (go_at_call 74; refine (HC.out _).mono ?_; rintro e w2 ⟨rfl, rfl⟩) | (go_at_call 73; refine (rest_any _ _ _ (by omega) (by omega) n0 n1).mono ?_; rintro e w2 ⟨rfl, rfl⟩))
    all_goals go_ret
    all_goals refine ⟨ret_int ?_, rfl⟩
    · unfold sgM; rw [if_pos (by omega)]
    · unfold sgM; rw [if_neg (by omega)]
theorem rsigned_any (n k : Int) (w : World) (n0 : -9223372036854775808 ≤ n) (n1 : n ≤ 9223372036854775807) :
    Calls Try.prog 61 #[.int .i64 n, .int .i64 k] w fun e w' => e = .returned (.int .i64 (sgn n (hs k))) ∧ w = w' :=
  rsigned_core n k _ w (whole_any k) (pow_lit k) n0 n1

theorem of_any (l : List UInt8) (w : World) (hl : l.length ≤ 4) : Calls Try.prog 60 #[.string ⟨l.toArray⟩] w fun e w' => e = .returned (.int .i64 (ofB l)) ∧ w = w' := by
  go_enter Try.func60, Try.ntmps60
  go_wp2
  go_loop [3, 4] (fun v i => ∃ r : Nat, r ≤ l.length ∧ i = .int .i64 r ∧ v = .int .i64 (ofB (l.take r))) (fun _ i => (l.length - intOf i).toNat)
  case atStart => exact ⟨0, by omega, rfl, rfl⟩
  case round =>
    obtain ⟨r, hr, rfl, rfl⟩ := hrel
    by_cases hlt : r < l.length
    · obtain ⟨q0, q1⟩ := ofB_bd (l.take r)
      rw [List.length_take, Nat.min_eq_left (by omega)] at q1
      obtain ⟨q2, q3⟩ := p256 r (by omega)
      have hx := (l[r]).toNat_lt
      have e : ofB (l.take (r + 1)) = 256 * ofB (l.take r) + ((l[r]).toNat : Int) := by
        rw [List.take_succ_eq_append_getElem hlt, ofB_snoc]
      have E := Lib.hid e
      clear e
      go_wp2
      go_round
      case rel => exact ⟨r + 1, by omega, by go_num, by rw [E.out]; show Value.int .i64 (wrap64 (256 * ofB (l.take r) + wrap64 ((l[r]).toNat : Int))) = _; rw [IntWalk.wrap64_in ((l[r]).toNat : Int) (by omega), IntWalk.wrap64_in (256 * ofB (l.take r) + ((l[r]).toNat : Int)) (by omega)]⟩
      case measure => simp [intOf]; omega
    · obtain rfl : r = l.length := by omega
      go_wp2
      go_ret
      exact ⟨rfl, rfl⟩
end Go.Proofs.Ytboiogjklecpaaa
