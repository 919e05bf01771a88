/- Package store: Fill and Hook. -/
import Derived.Test.YtbadinmlnbabiaaStore
import Derived.Laws.EntriesVeiled
set_option linter.unusedVariables false
set_option linter.unusedSimpArgs false
namespace Go.Proofs.Ytbadinmlnbabiaa
open Go.RowKit
/-- The words, of which the first k ones are filled where it is told so. -/
def fillL (ms : List Int) (A M n : Int) (k : Nat) : List Int := ms.mapIdx fun i x => if i < k ∧ 0 ≤ A ∧ A ≤ i ∧ (i : Int) - A < M then n else x
theorem fillL_length (ms : List Int) (A M n : Int) (k : Nat) : (fillL ms A M n k).length = ms.length := by simp [fillL]
theorem fillL_zero (ms : List Int) (A M n : Int) : fillL ms A M n 0 = ms := by
  refine List.ext_getElem? fun i => ?_
  simp [fillL, List.getElem?_mapIdx]
theorem fillL_get (ms : List Int) (A M n : Int) (k i : Nat) (h : i < ms.length) : (fillL ms A M n k)[i]? = some (if i < k ∧ 0 ≤ A ∧ A ≤ i ∧ (i : Int) - A < M then n else ms[i]) := by
  simp [fillL, List.getElem?_mapIdx, List.getElem?_eq_getElem h]
theorem fillL_yes {ms : List Int} {A M n : Int} {k : Nat} (hk : k < ms.length) (h : 0 ≤ A ∧ A ≤ k ∧ (k : Int) - A < M) : (fillL ms A M n k).set k n = fillL ms A M n (k + 1) := by
  refine List.ext_getElem? fun i => ?_
  by_cases hi : i < ms.length
  · by_cases hik : k = i
    · subst hik
      rw [List.getElem?_set_self (by rw [fillL_length]; exact hk), fillL_get _ _ _ _ _ _ hi, if_pos (by omega)]
    · rw [List.getElem?_set_ne hik, fillL_get _ _ _ _ _ _ hi, fillL_get _ _ _ _ _ _ hi]
      congr 1
      by_cases hc : i < k ∧ 0 ≤ A ∧ A ≤ i ∧ (i : Int) - A < M
      · rw [if_pos hc, if_pos (by omega)]
      · rw [if_neg hc, if_neg (by omega)]
  · rw [List.getElem?_eq_none (by rw [List.length_set, fillL_length]; omega), List.getElem?_eq_none (by rw [fillL_length]; omega)]
theorem fillL_no {ms : List Int} {A M n : Int} {k : Nat} (h : ¬ (0 ≤ A ∧ A ≤ k ∧ (k : Int) - A < M)) : fillL ms A M n k = fillL ms A M n (k + 1) := by
  refine List.ext_getElem? fun i => ?_
  by_cases hi : i < ms.length
  · rw [fillL_get _ _ _ _ _ _ hi, fillL_get _ _ _ _ _ _ hi]
    congr 1
    by_cases hc : i < k ∧ 0 ≤ A ∧ A ≤ i ∧ (i : Int) - A < M
    · rw [if_pos hc, if_pos (by omega)]
    · by_cases hik : i = k
      · subst hik
        rw [if_neg hc, if_neg (by omega)]
      · rw [if_neg hc, if_neg (by omega)]
  · rw [List.getElem?_eq_none (by rw [fillL_length]; omega), List.getElem?_eq_none (by rw [fillL_length]; omega)]
set_option maxHeartbeats 2000000
set_option maxRecDepth 100000
theorem fill_core {w : World} {g b : Nat} {ms : List Int} {hk : Value} (h : StoreIs w g b ms hk) (at_ many n A M : Int) (h0 : -9223372036854775808 ≤ at_ ∧ at_ ≤ 9223372036854775807) (h1 : -9223372036854775808 ≤ many ∧ many ≤ 9223372036854775807)
    (hc : (at_ < 0 ∧ 0 < many ∧ A = 0 ∧ M = many + at_) ∨ (¬ at_ < 0 ∧ A = at_ ∧ M = many) ∨ (at_ < 0 ∧ ¬ 0 < many ∧ A = at_ ∧ M = many)) :
    Calls Try.prog 66 #[.pointer (some ⟨g, 0, none⟩), .int .i64 at_, .int .i64 many, .int .i64 n] w fun e w' => e = .returned (.tuple #[]) ∧ StoreIs w' g b (fillL ms A M n ms.length) hk ∧ Touch (fun k => k = b) w w' := by
  have hl := h.2.1
  have hs := Lib.hid (size_any h)
  have hz := Lib.hid (fillL_zero ms A M n)
  have hlen := Lib.hid (fun k => fillL_length ms A M n k)
  have hb : -9223372036854775808 ≤ M ∧ M ≤ 9223372036854775807 := by omega
  have hA : (at_ < 0 ∧ 0 < many ∧ Hid (A = 0) ∧ Hid (M = many + at_)) ∨ (¬ at_ < 0 ∧ Hid (A = at_) ∧ Hid (M = many)) ∨ (at_ < 0 ∧ ¬ 0 < many ∧ Hid (A = at_) ∧ Hid (M = many)) := by
    rcases hc with ⟨c1, c2, c3, c4⟩ | ⟨c1, c3, c4⟩ | ⟨c1, c2, c3, c4⟩
    · exact .inl ⟨c1, c2, Lib.hid c3, Lib.hid c4⟩
    · exact .inr (.inl ⟨c1, Lib.hid c3, Lib.hid c4⟩)
    · exact .inr (.inr ⟨c1, c2, Lib.hid c3, Lib.hid c4⟩)
  have hAb : A ≤ 9223372036854775807 := by omega
  clear hc
  rcases hA with ⟨c1, c2, c3, c4⟩ | ⟨c1, c3, c4⟩ | ⟨c1, c2, c3, c4⟩
  · have e1 := c3.out
    subst e1
    clear c3
    go_enter Try.func66, Try.ntmps66
    go_wp2_with (go_at_call 70; refine hs.out.mono ?_; rintro e w1 ⟨rfl, rfl⟩)
    rw [← c4.out]
    clear c4
    go_loopw [20] (fun i wr => ∃ k : Nat, k ≤ ms.length ∧ i = .int .i64 k ∧ StoreIs wr g b (fillL ms (0 : Int) M n k) hk ∧ Touch (fun k => k = b) w wr) (fun i _ => (ms.length - intOf i).toNat)
    case atStart => exact ⟨0, by omega, rfl, by rw [hz.out]; exact h, Touch.refl _ _⟩
    case round =>
      obtain ⟨k, hkl, rfl, hS, hT⟩ := hrel
      by_cases hlt : k < ms.length
      · by_cases h2 : 0 ≤ (0 : Int)
        · have d1 : decide ((0 : Int) ≤ (0 : Int)) = true := by simp [h2]
          by_cases h3 : (0 : Int) ≤ k
          · have d2 : decide ((0 : Int) ≤ (k : Int)) = true := by simp [h3]
            by_cases h4 : (k : Int) - (0 : Int) < M
            · have d3 : decide ((k : Int) < M) = true := by simp; omega
              have x0 := hS.word (k := k) (by rw [hlen.out k]; exact hlt)
              have x1 := hS.free k
              have x2 := hS.c0
              rw [hlen.out k] at x2
              have hy := Lib.hid (fillL_yes (n := n) hlt ⟨h2, h3, h4⟩)
              generalize (fillL ms (0 : Int) M n k).getD k 0 = X at *
              go_wp2_with fail
              go_roundw
              case rel => exact ⟨k + 1, by omega, by go_num, by rw [← hy.out]; exact hS.set k n, hT.setCell (.inr rfl) _⟩
              case measure => simp [intOf]; omega
            · have d3 : decide ((k : Int) < M) = false := by simp; omega
              have hy := Lib.hid (fillL_no (ms := ms) (A := 0) (M := M) (n := n) (k := k) (fun hh => h4 hh.2.2))
              go_wp2_with fail
              go_roundw
              case rel => exact ⟨k + 1, by omega, by go_num, by rw [← hy.out]; exact hS, hT⟩
              case measure => simp [intOf]; omega
          · have d2 : decide ((0 : Int) ≤ (k : Int)) = false := by simp; omega
            have hy := Lib.hid (fillL_no (ms := ms) (A := 0) (M := M) (n := n) (k := k) (fun hh => h3 hh.2.1))
            go_wp2_with fail
            go_roundw
            case rel => exact ⟨k + 1, by omega, by go_num, by rw [← hy.out]; exact hS, hT⟩
            case measure => simp [intOf]; omega
        · exfalso; omega
      · obtain rfl : k = ms.length := by omega
        go_wp2_with fail
        go_end0
        exact ⟨rfl, hS, hT⟩
  · have e1 := c3.out
    have e2 := c4.out
    subst e1 e2
    clear c3 c4
    go_enter Try.func66, Try.ntmps66
    go_wp2_with (go_at_call 70; refine hs.out.mono ?_; rintro e w1 ⟨rfl, rfl⟩)
    go_loopw [20] (fun i wr => ∃ k : Nat, k ≤ ms.length ∧ i = .int .i64 k ∧ StoreIs wr g b (fillL ms A M n k) hk ∧ Touch (fun k => k = b) w wr) (fun i _ => (ms.length - intOf i).toNat)
    case atStart => exact ⟨0, by omega, rfl, by rw [hz.out]; exact h, Touch.refl _ _⟩
    case round =>
      obtain ⟨k, hkl, rfl, hS, hT⟩ := hrel
      by_cases hlt : k < ms.length
      · by_cases h2 : 0 ≤ A
        · have d1 : decide ((0 : Int) ≤ A) = true := by simp [h2]
          by_cases h3 : A ≤ k
          · have d2 : decide (A ≤ (k : Int)) = true := by simp [h3]
            by_cases h4 : (k : Int) - A < M
            · have d3 : decide ((k : Int) - A < M) = true := by simp [h4]
              have x0 := hS.word (k := k) (by rw [hlen.out k]; exact hlt)
              have x1 := hS.free k
              have x2 := hS.c0
              rw [hlen.out k] at x2
              have hy := Lib.hid (fillL_yes (n := n) hlt ⟨h2, h3, h4⟩)
              generalize (fillL ms A M n k).getD k 0 = X at *
              go_wp2_with fail
              go_roundw
              case rel => exact ⟨k + 1, by omega, by go_num, by rw [← hy.out]; exact hS.set k n, hT.setCell (.inr rfl) _⟩
              case measure => simp [intOf]; omega
            · have d3 : decide ((k : Int) - A < M) = false := by simp; omega
              have hy := Lib.hid (fillL_no (ms := ms) (A := A) (M := M) (n := n) (k := k) (fun hh => h4 hh.2.2))
              go_wp2_with fail
              go_roundw
              case rel => exact ⟨k + 1, by omega, by go_num, by rw [← hy.out]; exact hS, hT⟩
              case measure => simp [intOf]; omega
          · have d2 : decide (A ≤ (k : Int)) = false := by simp; omega
            have hy := Lib.hid (fillL_no (ms := ms) (A := A) (M := M) (n := n) (k := k) (fun hh => h3 hh.2.1))
            go_wp2_with fail
            go_roundw
            case rel => exact ⟨k + 1, by omega, by go_num, by rw [← hy.out]; exact hS, hT⟩
            case measure => simp [intOf]; omega
        · exfalso; omega
      · obtain rfl : k = ms.length := by omega
        go_wp2_with fail
        go_end0
        exact ⟨rfl, hS, hT⟩
  · have e1 := c3.out
    have e2 := c4.out
    subst e1 e2
    clear c3 c4
    go_enter Try.func66, Try.ntmps66
    go_wp2_with (go_at_call 70; refine hs.out.mono ?_; rintro e w1 ⟨rfl, rfl⟩)
    go_loopw [20] (fun i wr => ∃ k : Nat, k ≤ ms.length ∧ i = .int .i64 k ∧ StoreIs wr g b (fillL ms A M n k) hk ∧ Touch (fun k => k = b) w wr) (fun i _ => (ms.length - intOf i).toNat)
    case atStart => exact ⟨0, by omega, rfl, by rw [hz.out]; exact h, Touch.refl _ _⟩
    case round =>
      obtain ⟨k, hkl, rfl, hS, hT⟩ := hrel
      by_cases hlt : k < ms.length
      · by_cases h2 : 0 ≤ A
        · exfalso; omega
        · have d1 : decide ((0 : Int) ≤ A) = false := by simp; omega
          have hy := Lib.hid (fillL_no (ms := ms) (A := A) (M := M) (n := n) (k := k) (fun hh => h2 hh.1))
          go_wp2_with fail
          go_roundw
          case rel => exact ⟨k + 1, by omega, by go_num, by rw [← hy.out]; exact hS, hT⟩
          case measure => simp [intOf]; omega
      · obtain rfl : k = ms.length := by omega
        go_wp2_with fail
        go_end0
        exact ⟨rfl, hS, hT⟩
end Go.Proofs.Ytbadinmlnbabiaa
