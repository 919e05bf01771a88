/- The walk through the law BitsBack. -/
import Derived.Test.YtkmccbknmpjkhaaWorks02
import Derived.Deep.RegionWith
set_option linter.unusedVariables false
namespace Go.Proofs.Ytkmccbknmpjkhaa
open Go.RowKit
theorem ofB_low (n : Int) : ∀ j, ofB (low n j) = n % 256 ^ j := by
  have key : ∀ (j : Nat) (a : Int), (low n j).foldl (fun n b => 256 * n + (b.toNat : Int)) a = a * 256 ^ j + n % 256 ^ j := by
    intro j
    induction j with
    | zero => intro a; simp [low]
    | succ j ih =>
      intro a
      rw [low, List.foldl_cons, ih]
      have e : ((UInt8.ofNat ((n / 256 ^ j) % 256).toNat).toNat : Int) = n / 256 ^ j % 256 := by simp; omega
      rw [e, Int.pow_succ]
      have hp : (0 : Int) < 256 ^ j := Int.pow_pos (by decide)
      have h1 := Int.emod_emod_of_dvd n (show (256 : Int) ^ j ∣ 256 ^ j * 256 from ⟨256, rfl⟩)
      have h2 := Int.mul_ediv_add_emod n (256 ^ j)
      have h3 := Int.mul_ediv_add_emod (n / 256 ^ j) 256
      have h4 := Int.mul_ediv_add_emod n (256 ^ j * 256)
      have h5 : n / (256 ^ j * 256) = n / 256 ^ j / 256 := (Int.ediv_ediv_of_nonneg (Int.le_of_lt hp)).symm
      rw [h5] at h4
      generalize n / 256 ^ j / 256 = q2 at *
      generalize n / 256 ^ j = q1 at *
      generalize n % (256 ^ j * 256) = r2 at *
      generalize n % 256 ^ j = r1 at *
      generalize q1 % 256 = b at *
      generalize (256 : Int) ^ j = M at *
      subst h3
      have : r2 = M * b + r1 := by
        have : M * (256 * q2 + b) = M * 256 * q2 + M * b := by rw [Int.mul_add, Int.mul_assoc]
        omega
      rw [this, Int.add_mul, Int.mul_comm M b, Int.mul_comm 256 a, Int.mul_assoc, Int.mul_comm 256 M]; omega
  intro j; have := key j 0; simpa [ofB] using this
theorem sgn_emod (n : Int) (j : Nat) : sgn (n % 256 ^ j) j = sgn n j := by unfold sgn; rw [Int.emod_emod]
theorem sgn_sgn (n : Int) (j : Nat) : sgn (sgn n j) j = sgn n j := by
  have h : sgn n j % 256 ^ j = n % 256 ^ j := by
    unfold sgn; split
    · rw [Int.sub_emod_right, Int.emod_emod]
    · rw [Int.emod_emod]
  rw [← sgn_emod (sgn n j), h, sgn_emod]
theorem sgn_up (n : Int) (j : Nat) (h1 : 1 ≤ j) (h4 : j ≤ 3) (h : sgn n j = n) : sgn n (j + 1) = n := by
  have : j = 1 ∨ j = 2 ∨ j = 3 := by omega
  rcases this with rfl | rfl | rfl <;> unfold sgn at * <;> simp at * <;> omega
theorem numOf_one (x : UInt8) (l : List UInt8) : numOf (x :: l) false (hs 1) = ((x.toNat : Int), l, false) := by
  rw [show hs 1 = 1 from by decide]; simp [numOf, ofB]
theorem hs_up (k : Int) : hs (min ((hs k : Int) + 1) 4) = min (hs k + 1) 4 := by have := hs_bd k; simp only [hs]; omega
set_option maxHeartbeats 1000000
set_option maxRecDepth 100000
theorem walkBitsBack (v0 v1 v2 : Value) (w : World) (h0 : Arg Try.prog w 9 v0) (h1 : Arg Try.prog w 3 v1) (h2 : Arg Try.prog w 3 v2) :
    Calls Try.prog 5 #[v0, v1, v2] w fun e w' => e = .returned (.bool true) ∧ Below w.heap.size w w' := by
  obtain ⟨s, rfl, hs0⟩ := h0.string Try.underlying9
  obtain ⟨n, rfl, wn⟩ := h1.int Try.underlying3
  obtain ⟨k, rfl, wk⟩ := h2.int Try.underlying3
  obtain ⟨l, rfl⟩ := str_of s
  obtain ⟨n0, n1⟩ := bounds_i64 wn
  by_cases hl0 : 500 < l.length
  · go_enter Try.func5, Try.ntmps5
    go_wp2_with (go_at_call 12; refine (works02_any _).mono ?_; rintro e w1 ⟨rfl, hb1⟩)
    go_ret
    exact ⟨rfl, hb1⟩
  have hl : l.length ≤ 500 := by omega
  clear hl0 h0 h1 h2 wn wk
  obtain ⟨hj1, hj2⟩ := hs_bd k
  have hlow := low_len n (hs k)
  go_enter Try.func5, Try.ntmps5
  go_wp2_with (first | (go_at_call 12; refine (works02_any _).mono ?_; rintro e w1 ⟨rfl, hb1⟩) | (go_at_call 13; refine (new_any _ _).mono ?_; rintro e w2 ⟨rfl, hc2, ht2, hz2⟩) | (go_at_call 19; refine (put_any _ _ _ _ (by omega)).mono ?_; rintro e w3 ⟨rfl, hb3⟩))
  go_loopw [8] (fun i wr => ∃ (r : Nat), r ≤ l.length ∧ i = .int .i64 r ∧ CutIs wr w3.heap.size ((l ++ low n (hs k)).drop r) false ∧ Below w.heap.size w wr) (fun i _ => (l.length - intOf i).toNat)
  case atStart => exact ⟨0, by omega, rfl, by simpa using hc2, ht2.below (hb1.trans (hb3.mono hb1.size)) (Nat.le_trans hb1.size hb3.size) (fun _ h => h.elim)⟩
  case round =>
    obtain ⟨r, hr, rfl, hc, hb⟩ := hrel
    have hB : w.heap.size ≤ w3.heap.size := Nat.le_trans hb1.size hb3.size
    clear hc2 ht2
    by_cases hlt : r < l.length
    · obtain ⟨x, hx⟩ : ∃ x, l[r] = x := ⟨_, rfl⟩
      have e1 : (l ++ low n (hs k)).drop r = x :: (l ++ low n (hs k)).drop (r + 1) := by
        rw [List.drop_eq_getElem_cons (by simp; omega), List.getElem_append_left hlt, hx]
      rw [e1] at hc
      have hn := fun wx h => num_any w3.heap.size (x :: (l ++ low n (hs k)).drop (r + 1)) false 1 wx h (by simp; omega)
      rw [numOf_one] at hn
      have HN := Lib.hid hn
      have hcast : wrap64 (((⟨l.toArray⟩ : ByteArray)[r]'(by simpa [ByteArray.size] using hlt)).toNat : Int) = (x.toNat : Int) := by
        show wrap64 (l[r].toNat : Int) = _
        rw [hx]
        have := x.toNat_lt
        rw [IntWalk.wrap64_in _ (by omega)]
      have hcast2 := hcast
      rw [← IntWalk.i64_left] at hcast2
      clear hn e1 hx
      go_wp2_with fail
      go_region_with (go_at_call 16; refine (HN.out wr.drew hc).mono ?_; rintro e w4 ⟨rfl, hc4, ht4, hz4⟩)
      all_goals go_wp2
      all_goals
        go_roundw
        case rel => exact ⟨r + 1, by omega, by go_num, hc4, ht4.below hb.drew hb.size (by rintro q rfl; exact hB)⟩
        case measure => simp only [intOf]; omega
    · obtain rfl : r = l.length := by omega
      rw [List.drop_left] at hc
      have hn := num_any w3.heap.size _ false k wr hc (by omega)
      rw [numOf_fits _ _ (by omega), List.take_of_length_le (by omega), List.drop_of_length_le (by omega), ofB_low] at hn
      have HN := Lib.hid hn
      have hsg := signed_any (n % 256 ^ hs k) k
      rw [sgn_emod] at hsg
      have HS := Lib.hid hsg
      have hf1 := fits_any n k
      have hf2 := fits_any (sgn n (hs k)) k
      rw [sgn_sgn, beq_self_eq_true] at hf2
      have HF2 := Lib.hid hf2
      have hf3 := fits_any n (min ((hs k : Int) + 1) 4)
      rw [hs_up] at hf3
      clear hn hsg hf2
      by_cases hfit : sgn n (hs k) = n
      · have hfb : (sgn n (hs k) == n) = true := by simpa using hfit
        rw [hfb] at hf1
        have HF1 := Lib.hid hf1
        have e : (sgn n (min (hs k + 1) 4) == n) = true := by
          by_cases h4 : hs k = 4
          · rw [h4] at hfit ⊢; simpa using hfit
          · rw [Nat.min_eq_left (by omega)]; simpa using sgn_up n (hs k) hj1 (by omega) hfit
        rw [e] at hf3
        by_cases h4 : hs k = 4
        · rw [show min ((hs k : Int) + 1) 4 = 4 by omega] at hf3
          have HF3 := Lib.hid hf3
          have hge : 4 ≤ hs k := by omega
          have HFit := Lib.hid hfit
          clear hf1 hf3 e hfit hfb h4
          go_wp2_with (first | (go_at_call 16; (with_reducible refine HN.out.mono ?_); rintro e w4 ⟨rfl, hc4, ht4, hz4⟩) | (go_at_call 21; (with_reducible refine (HS.out _).mono ?_); rintro e w5 ⟨rfl, rfl⟩) | (go_at_call 18; refine (done_any _ _ _ _ (by assumption)).mono ?_; rintro e w6 ⟨rfl, rfl⟩) | (go_at_call 14; refine (rsize_any _ _).mono ?_; rintro e w3 ⟨rfl, rfl⟩) | (go_at_call 23; (with_reducible refine (HF1.out _).mono ?_); rintro e w7 ⟨rfl, rfl⟩) | (go_at_call 23; (with_reducible refine (HF2.out _).mono ?_); rintro e w7 ⟨rfl, rfl⟩) | (go_at_call 23; (with_reducible refine (HF3.out _).mono ?_); rintro e w7 ⟨rfl, rfl⟩))
          go_ret
          exact ⟨rfl, ht4.below hb hb.size (by rintro q rfl; exact hB)⟩
        · rw [show min ((hs k : Int) + 1) 4 = (hs k : Int) + 1 by omega] at hf3
          have HF3 := Lib.hid hf3
          have hge : hs k ≤ 3 := by omega
          have HFit := Lib.hid hfit
          clear hf1 hf3 e hfit hfb h4
          go_wp2_with (first | (go_at_call 16; (with_reducible refine HN.out.mono ?_); rintro e w4 ⟨rfl, hc4, ht4, hz4⟩) | (go_at_call 21; (with_reducible refine (HS.out _).mono ?_); rintro e w5 ⟨rfl, rfl⟩) | (go_at_call 18; refine (done_any _ _ _ _ (by assumption)).mono ?_; rintro e w6 ⟨rfl, rfl⟩) | (go_at_call 14; refine (rsize_any _ _).mono ?_; rintro e w3 ⟨rfl, rfl⟩) | (go_at_call 23; (with_reducible refine (HF1.out _).mono ?_); rintro e w7 ⟨rfl, rfl⟩) | (go_at_call 23; (with_reducible refine (HF2.out _).mono ?_); rintro e w7 ⟨rfl, rfl⟩) | (go_at_call 23; (with_reducible refine (HF3.out _).mono ?_); rintro e w7 ⟨rfl, rfl⟩))
          go_ret
          exact ⟨rfl, ht4.below hb hb.size (by rintro q rfl; exact hB)⟩
      · have hfb : (sgn n (hs k) == n) = false := by simpa using hfit
        rw [hfb] at hf1
        have HF1 := Lib.hid hf1
        have HF3 := Lib.hid hf3
        clear hf1 hf3
        go_wp2_with (first | (go_at_call 16; (with_reducible refine HN.out.mono ?_); rintro e w4 ⟨rfl, hc4, ht4, hz4⟩) | (go_at_call 21; (with_reducible refine (HS.out _).mono ?_); rintro e w5 ⟨rfl, rfl⟩) | (go_at_call 18; refine (done_any _ _ _ _ (by assumption)).mono ?_; rintro e w6 ⟨rfl, rfl⟩) | (go_at_call 14; refine (rsize_any _ _).mono ?_; rintro e w3 ⟨rfl, rfl⟩) | (go_at_call 23; (with_reducible refine (HF1.out _).mono ?_); rintro e w7 ⟨rfl, rfl⟩) | (go_at_call 23; (with_reducible refine (HF2.out _).mono ?_); rintro e w7 ⟨rfl, rfl⟩) | (go_at_call 23; (with_reducible refine (HF3.out _).mono ?_); rintro e w7 ⟨rfl, rfl⟩))
        go_ret
        exact ⟨rfl, ht4.below hb hb.size (by rintro q rfl; exact hB)⟩
end Go.Proofs.Ytkmccbknmpjkhaa
