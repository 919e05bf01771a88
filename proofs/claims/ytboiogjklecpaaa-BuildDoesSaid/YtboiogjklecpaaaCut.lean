/- Package bits: bytes that are read from the front on. -/
import Derived.Test.YtboiogjklecpaaaBits
set_option linter.unusedVariables false
set_option linter.unusedSimpArgs false
namespace Go.Proofs.Ytboiogjklecpaaa
open Go.RowKit
set_option maxHeartbeats 400000
set_option maxRecDepth 100000

/-- The number that bytes are. -/
def ofB (l : List UInt8) : Int := l.foldl (fun n b => 256 * n + (b.toNat : Int)) 0
theorem ofB_snoc (l : List UInt8) (b : UInt8) : ofB (l ++ [b]) = 256 * ofB l + (b.toNat : Int) := by simp [ofB]
theorem ofB_bd (l : List UInt8) : 0 ≤ ofB l ∧ ofB l < 256 ^ l.length := by
  rw [← List.reverse_reverse l]
  generalize l.reverse = m
  induction m with
  | nil => simp [ofB]
  | cons b m ih =>
    rw [List.reverse_cons, ofB_snoc, List.length_append, List.length_singleton, Int.pow_succ]
    have := b.toNat_lt
    omega
theorem or_shift8 (q : Int) (x : Nat) (h0 : 0 ≤ q) (h1 : q < 4294967296) (hx : x < 256) : bits .or .i64 (q * 256) (wrap64 (x : Int)) = 256 * q + x := by
  rw [IntWalk.wrap64_in _ (by omega), bits_join .i64 62 (by decide) (fun n a b => IntWalk.i64_in _ (by omega)) 8 _ _ (by omega) (by omega) (by omega) (by omega) (by omega) (by omega)]
  omega

/-- A Cut in memory: what is left of its bytes; has it been short? -/
def CutIs (w : World) (b : Nat) (l : List UInt8) (sh : Bool) : Prop := w.heap[b]? = some (.cells #[.string ⟨l.toArray⟩, .bool sh] 104 (0, 0))
/-- What Num answers, and what is left. -/
def numOf (l : List UInt8) (sh : Bool) (j : Nat) : Int × List UInt8 × Bool := if sh = true then (0, l, true) else if l.length < j then (0, l, true) else (ofB (l.take j), l.drop j, false)

theorem new_any (l : List UInt8) (w : World) : Calls Try.prog 55 #[.string ⟨l.toArray⟩] w fun e w' => e = .returned (.pointer (some ⟨w.heap.size, 0, none⟩)) ∧ CutIs w' w.heap.size l false ∧ Touch (fun _ => False) w w' ∧ w'.heap.size = w.heap.size + 1 := by
  go_enter Try.func55, Try.ntmps55
  go_wp2
  go_ret
  exact ⟨rfl, alloc_new _ _, (Touch.refl _ _).alloc _, by simp⟩

theorem num_nil (k : Int) (w : World) : Calls Try.prog 56 #[.pointer none, .int .i64 k] w fun e w' => e = .returned (.int .i64 0) ∧ w = w' := by
  go_enter Try.func56, Try.ntmps56
  go_wp2
  go_ret
  exact ⟨rfl, rfl⟩
theorem left_nil (w : World) : Calls Try.prog 58 #[.pointer none] w fun e w' => e = .returned (.int .i64 0) ∧ w = w' := by
  go_enter Try.func58, Try.ntmps58
  go_wp2
  go_ret
  exact ⟨rfl, rfl⟩
theorem left_any (b : Nat) (l : List UInt8) (sh : Bool) (w : World) (h : CutIs w b l sh) : Calls Try.prog 58 #[.pointer (some ⟨b, 0, none⟩)] w fun e w' => e = .returned (.int .i64 l.length) ∧ w = w' := by
  have h0 := cell_at h 0
  have h1 := cell_at h 1
  simp at h0 h1
  go_enter Try.func58, Try.ntmps58
  go_wp2
  go_ret
  exact ⟨rfl, rfl⟩
theorem num_any (b : Nat) (l : List UInt8) (sh : Bool) (k : Int) (w : World) (h : CutIs w b l sh) (hl : l.length ≤ 9223372036854775807) :
    Calls Try.prog 56 #[.pointer (some ⟨b, 0, none⟩), .int .i64 k] w fun e w' => e = .returned (.int .i64 (numOf l sh (hs k)).1) ∧ CutIs w' b (numOf l sh (hs k)).2.1 (numOf l sh (hs k)).2.2 ∧ Touch (· = b) w w' ∧ w'.heap.size = w.heap.size := by
  obtain ⟨hj1, hj2⟩ := hs_bd k
  have h0 := cell_at h 0
  have h1 := cell_at h 1
  have f0 := free_at h 0
  have f1 := free_at h 1
  simp at h0 h1
  cases sh with
  | true =>
    go_enter Try.func56, Try.ntmps56
    go_wp2
    go_ret
    exact ⟨rfl, h, Touch.refl _ _, rfl⟩
  | false =>
    by_cases hk : l.length < hs k
    · have hg : decide (l.length < hs k) = true := by simpa using hk
      go_enter Try.func56, Try.ntmps56
      go_wp2_with (go_at_call 72; refine (held_any _ _).mono ?_; rintro e w2 ⟨rfl, rfl⟩)
      go_ret
      simp only [numOf, hk, if_true]
      exact ⟨rfl, by unfold CutIs; simpa using set_at h 1 (.bool true), (Touch.refl (· = b) _).setCell (.inr rfl) _, by simp [World.setCell]⟩
    · have hg : decide (l.length < hs k) = false := by simpa using hk
      have hkl : hs k ≤ l.length := by omega
      go_enter Try.func56, Try.ntmps56
      go_wp2_with (go_at_call 72; refine (held_any _ _).mono ?_; rintro e w2 ⟨rfl, rfl⟩)
      go_loop [6, 29] (fun v i => ∃ r : Nat, r ≤ hs k ∧ i = .int .i64 r ∧ v = .int .i64 (ofB (l.take r))) (fun _ i => (hs k - intOf i).toNat)
      case atStart => exact ⟨0, by omega, rfl, rfl⟩
      case round =>
        obtain ⟨r, hr, rfl, rfl⟩ := hrel
        by_cases hlt : r < hs k
        · have hrl : r < l.length := by omega
          obtain ⟨q0, q1⟩ := ofB_bd (l.take r)
          rw [List.length_take, Nat.min_eq_left (by omega)] at q1
          have q2 : (256 : Int) ^ r ≤ 16777216 := by
            have : r = 0 ∨ r = 1 ∨ r = 2 ∨ r = 3 := by omega
            rcases this with rfl | rfl | rfl | rfl <;> decide
          have e : bits .or .i64 (ofB (l.take r) * 256) (wrap64 (((⟨l.toArray⟩ : ByteArray)[r]'(by simpa [ByteArray.size] using hrl)).toNat : Int)) = ofB (l.take (r + 1)) := by
            rw [or_shift8 _ _ q0 (by omega) (by have := ((⟨l.toArray⟩ : ByteArray)[r]'(by simpa [ByteArray.size] using hrl)).toNat_lt; omega), List.take_succ_eq_append_getElem hrl, ofB_snoc]
            rfl
          have E := Lib.hid e
          clear e
          go_wp2
          go_round
          case rel => exact ⟨r + 1, by omega, by go_num, by rw [← E.out]⟩
          case measure => simp [intOf]; omega
        · obtain rfl : r = hs k := by omega
          go_wp2
          go_ret
          simp only [numOf, hk, if_false]
          have e := set_at h 0 (.string ((⟨l.toArray⟩ : ByteArray).extract (hs k) l.length))
          rw [ByteArray.extract_mk, List.take_of_length_le (l := l.drop (hs k)) (by simp)] at e
          rw [ByteArray.extract_mk, List.take_of_length_le (l := l.drop (hs k)) (by simp)]
          exact ⟨rfl, by unfold CutIs; simpa using e, (Touch.refl (· = b) _).setCell (.inr rfl) _, by simp [World.setCell]⟩
theorem numOf_true (l : List UInt8) (j : Nat) : numOf l true j = (0, l, true) := by simp [numOf]
theorem numOf_short (l : List UInt8) (j : Nat) (h : l.length < j) : numOf l false j = (0, l, true) := by simp [numOf, h]
theorem numOf_fits (l : List UInt8) (j : Nat) (h : ¬ l.length < j) : numOf l false j = (ofB (l.take j), l.drop j, false) := by simp [numOf, h]
end Go.Proofs.Ytboiogjklecpaaa
