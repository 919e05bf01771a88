/- Package bits and its reference: what each function computes. -/
import Derived.Test.YtboiogjklecpaaaStr
set_option linter.unusedVariables false
set_option linter.unusedSimpArgs false
namespace Go.Proofs.Ytboiogjklecpaaa
open Go.RowKit
set_option maxHeartbeats 400000
set_option maxRecDepth 100000

/-- A size, held from 1 to 4. -/
def hs (k : Int) : Nat := (min (max k 1) 4).toNat
theorem hs_bd (k : Int) : 1 ≤ hs k ∧ hs k ≤ 4 := by unfold hs; omega
/-- The j lowest bytes of a number. -/
def low (n : Int) : Nat → List UInt8
  | 0 => []
  | j + 1 => UInt8.ofNat ((n / 256 ^ j) % 256).toNat :: low n j
theorem low_len (n : Int) (j : Nat) : (low n j).length = j := by induction j <;> simp [low, *]
theorem low_take (n : Int) : ∀ (j r : Nat), 0 < r → r ≤ j → (low n j).take (j - r) ++ [UInt8.ofNat ((n / 256 ^ (r - 1)) % 256).toNat] = (low n j).take (j - (r - 1))
  | 0, r, h0, h => by omega
  | j + 1, r, h0, h => by
    by_cases e : r = j + 1
    · subst e; simp [low]
    · have := low_take n j r h0 (by omega)
      rw [show j + 1 - r = (j - r) + 1 by omega, show j + 1 - (r - 1) = (j - (r - 1)) + 1 by omega]
      simp only [low, List.take_succ_cons, List.cons_append]
      rw [this]
theorem pow_8 (r : Nat) : (2 : Int) ^ (8 * r) = 256 ^ r := by rw [Int.pow_mul]; rfl
/-- A number of j bytes, with its sign. -/
def sgn (n : Int) (j : Nat) : Int := if 2 * (n % 256 ^ j) ≥ 256 ^ j then n % 256 ^ j - 256 ^ j else n % 256 ^ j

theorem Try.infoByte : (Try.prog.info? 5).map (fun i => (i.zero, i.size, i.bytes)) = some (some (.int .u8 0), 1, 1) := by kernel_rfl

theorem held_any (k : Int) (w : World) : Calls Try.prog 72 #[.int .i64 k] w fun e w' => e = .returned (.int .i64 (hs k)) ∧ w = w' := by
  go_enter Try.func72, Try.ntmps72
  go_wp2
  all_goals go_ret
  all_goals exact ⟨by simp [hs]; omega, rfl⟩

theorem put_any (l : List UInt8) (n k : Int) (w : World) (hl : l.length ≤ 1000000000) :
    Calls Try.prog 52 #[.string ⟨l.toArray⟩, .int .i64 n, .int .i64 k] w fun e w' => e = .returned (.string ⟨(l ++ low n (hs k)).toArray⟩) ∧ Below w.heap.size w w' := by
  obtain ⟨i0, hi, hz0, hz1, hz2⟩ := info_parts Try.infoByte
  obtain ⟨hj1, hj2⟩ := hs_bd k
  go_enter Try.func52, Try.ntmps52
  go_wp2_with (first | (with_reducible show wpList _ _ _ (Oper.mk _ (Op.convert 9 50 _) _ _ _ _ :: _) _ _; refine wpList_bytes_row _ rfl 9 50 _ rfl 5 Try.underlying9 Try.underlying50 Try.underlying5 l rfl (by unfold maxLen; omega) ?_; intro v w1 hrow hb hfr) | (go_at_call 72; refine (held_any _ _).mono ?_; rintro e w2 ⟨rfl, rfl⟩))
  go_loopw [7, 8] (fun v8 i wr => ∃ r : Nat, r ≤ hs k ∧ i = .int .i64 ((r : Int) - 1) ∧ Row wr 5 1 v8 (l.length + (hs k - r)) (bytesV (l ++ (low n (hs k)).take (hs k - r))) ∧ Below w.heap.size w wr ∧ (∀ k, v8.ownBlock = some k → w.heap.size ≤ k)) (fun _ i _ => (intOf i + 1).toNat)
  case atStart => exact ⟨hs k, Nat.le_refl _, rfl, by simpa using hrow, hb, hfr⟩
  case round =>
    obtain ⟨r, hr, rfl, hrow1, hb1, hf1⟩ := hrel
    clear hrow hb hfr
    by_cases h0 : r = 0
    · subst h0
      have hrow4 := hrow1.cast (n' := (l ++ low n (hs k)).length) (xs' := bytesV (l ++ low n (hs k))) (by simp [low_len]) (by simp [low_len, List.take_of_length_le])
      go_wp2_with (with_reducible show wpList _ _ _ (Oper.mk _ (Op.convert 50 9 _) _ _ _ _ :: _) _ _; refine wpList_string_row _ rfl 50 9 _ rfl 5 Try.underlying50 Try.underlying5 Try.underlying9 u7 (l ++ low n (hs k)) rfl hrow4 ?_)
      go_ret
      exact ⟨rfl, hb1⟩
    · have h1 : 0 < r := by omega
      go_wp2_with (at_builtin; refine wpList_append_lit _ rfl _ _ 50 rfl 5 i0 (.int .u8 0) 1 1 Try.underlying50 hi hz0 hz1 hz2 rfl (by decide) _ _ _ rfl hrow1 _ _ 1 rfl rfl ?c1 ?b1 ?b2 ?_)
      case c1 => simp [Value.oneCell']
      case b1 => unfold maxLen; omega
      case b2 => omega
      intro ao' cap' w' hrow2 ht hf2
      have hb2 := ht.below hb1 hb1.size hf1
      have hf3 : ∀ q0, Value.ownBlock (.slice ao' (l.length + (hs k - r) + 1) cap') = some q0 → w.heap.size ≤ q0 := fun q hq => by
        rcases hf2 q hq with h | h
        · exact hf1 q h
        · have := hb1.size; omega
      have e1 : (n / 2 ^ (8 * (r - 1)) % 256) = ((UInt8.ofNat ((n / 256 ^ (r - 1)) % 256).toNat).toNat : Int) := by rw [pow_8]; simp; omega
      have e2 : bytesV (l ++ (low n (hs k)).take (hs k - (r - 1))) = bytesV (l ++ (low n (hs k)).take (hs k - r)) ++ [.int .u8 (n / 2 ^ (8 * (r - 1)) % 256)] := by
        rw [← low_take n (hs k) r h1 hr, e1]; simp [bytesV]
      have hrow3 : Row w' 5 1 (.slice ao' (l.length + (hs k - r) + 1) cap') (l.length + (hs k - (r - 1))) (bytesV (l ++ (low n (hs k)).take (hs k - (r - 1)))) := by
        rw [e2, show l.length + (hs k - (r - 1)) = l.length + (hs k - r) + 1 by omega]; exact hrow2
      clear hrow1 hrow2 e1 e2 hf1 hf2 ht
      go_wp2
      go_roundw
      case rel => exact ⟨r - 1, by omega, by go_num, hrow3, hb2, hf3⟩
      case measure => simp [intOf]; omega

theorem signed_any (n k : Int) (w : World) : Calls Try.prog 57 #[.int .i64 n, .int .i64 k] w fun e w' => e = .returned (.int .i64 (sgn n (hs k))) ∧ w = w' := by
  have h4 : hs k = 1 ∨ hs k = 2 ∨ hs k = 3 ∨ hs k = 4 := by have := hs_bd k; omega
  have hc : ∀ w, Calls Try.prog 72 #[.int .i64 k] w fun e w' => e = .returned (.int .i64 (hs k)) ∧ w = w' := held_any k
  rcases h4 with h | h | h | h <;> rw [h] at hc ⊢ <;> have HC := Lib.hid hc <;> clear hc h
  all_goals
    go_enter Try.func57, Try.ntmps57
    go_wp2_with (go_at_call 72; refine (HC.out _).mono ?_; rintro e w2 ⟨rfl, rfl⟩)
    go_ret
    refine ⟨?_, rfl⟩
    congr 2
    simp only [sgn, wrap64]
    simp
    omega

end Go.Proofs.Ytboiogjklecpaaa
