/- Picks that lie in memory; fits; forebayref36.Same; own. -/
import Derived.Test.YtcegncbnanbenaaPackSpec
import Derived.Test.YtcegncbnanbenaaKit
import Derived.Test.YtcegncbnanbenaaArgs
import Derived.Test.YtcegncbnanbenaaRegion
set_option linter.unusedVariables false
set_option linter.unusedSimpArgs false
namespace Go.Proofs.Ytcegncbnanbenaa
open Go.RowKit
set_option maxRecDepth 100000
set_option maxHeartbeats 8000000
def pkC (x : Pk) : List Value := [.int .i64 x.1, .int .i64 x.2]
def pksC (l : List Pk) : List Value := l.flatMap pkC
def Two (w : World) (g o : Nat) (x : Pk) : Prop := w.cell? ⟨g, o, none⟩ = some (.int .i64 x.1) ∧ w.cell? ⟨g, o + 1, none⟩ = some (.int .i64 x.2)
/-- A slice of picks lies in memory. -/
def LiesP (w : World) (ao : Option Addr) (c : Nat) (l : List Pk) : Prop :=
  l.length ≤ c ∧ c ≤ maxLen ∧ (ao = none → c = 0) ∧ ∀ i x, l[i]? = some x → ∃ g off, ao = some ⟨g, off, none⟩ ∧ Two w g (off + i * 2) x
theorem Two.below {w w' : World} {g o : Nat} {x : Pk} (h : Two w g o x) (hb : Below w.heap.size w w') : Two w' g o x :=
  ⟨by rw [cell_old hb _ (by rw [h.1]; rfl)]; exact h.1, by rw [cell_old hb _ (by rw [h.2]; rfl)]; exact h.2⟩
theorem LiesP.below {w w' : World} {ao : Option Addr} {c : Nat} {l : List Pk} (h : LiesP w ao c l) (hb : Below w.heap.size w w') : LiesP w' ao c l := by
  refine ⟨h.1, h.2.1, h.2.2.1, fun i x hx => ?_⟩
  obtain ⟨g, off, e, hf⟩ := h.2.2.2 i x hx
  exact ⟨g, off, e, hf.below hb⟩
theorem LiesP.drewN {w : World} {ao : Option Addr} {c : Nat} {l : List Pk} (h : LiesP w ao c l) (n : Nat) : LiesP (w.drewN n) ao c l := by
  refine ⟨h.1, h.2.1, h.2.2.1, fun i x hx => ?_⟩
  obtain ⟨g, off, e, h1, h2⟩ := h.2.2.2 i x hx
  exact ⟨g, off, e, h1, h2⟩
theorem LiesP.get {w : World} {ao : Option Addr} {c : Nat} {l : List Pk} (h : LiesP w ao c l) {i : Nat} {x : Pk} (hi : l[i]? = some x) : ∃ g off, ao = some ⟨g, off, none⟩ ∧ Two w g (off + i * 2) x := h.2.2.2 i _ hi
theorem fits_any (x : Pk) (w : World) : Calls Try.prog 68 #[.agg #[.int .i64 x.1, .int .i64 x.2]] w fun e w' => e = .returned (.bool (fitsP x)) ∧ Below w.heap.size w w' := by
  obtain ⟨a, b⟩ := x
  have hO := (Own.nil (Below.refl _ w)).box #[.int .i64 a, .int .i64 b] 124
  have x0 : (w.alloc (.cells #[.int .i64 a, .int .i64 b] 124)).cell? ⟨w.heap.size, 0, none⟩ = some (.int .i64 a) := (hO.cget 0 rfl 0).1
  have x1 : (w.alloc (.cells #[.int .i64 a, .int .i64 b] 124)).cell? ⟨w.heap.size, 1, none⟩ = some (.int .i64 b) := (hO.cget 0 rfl 1).1
  by_cases h0 : 0 ≤ a
  · by_cases h1 : a ≤ 255
    · by_cases h2 : 0 ≤ b
      · by_cases h3 : b ≤ 255
        · rw [show fitsP (a, b) = true from decide_eq_true ⟨h0, h1, h2, h3⟩]
          go_enter Try.func68, Try.ntmps68
          go_wp2
          go_ret
          exact ⟨rfl, hO.below⟩
        · rw [show fitsP (a, b) = false from decide_eq_false fun h => h3 h.2.2.2]
          go_enter Try.func68, Try.ntmps68
          go_wp2
          go_ret
          exact ⟨rfl, hO.below⟩
      · rw [show fitsP (a, b) = false from decide_eq_false fun h => h2 h.2.2.1]
        go_enter Try.func68, Try.ntmps68
        go_wp2
        go_ret
        exact ⟨rfl, hO.below⟩
    · rw [show fitsP (a, b) = false from decide_eq_false fun h => h1 h.2.1]
      go_enter Try.func68, Try.ntmps68
      go_wp2
      go_ret
      exact ⟨rfl, hO.below⟩
  · rw [show fitsP (a, b) = false from decide_eq_false fun h => h0 h.1]
    go_enter Try.func68, Try.ntmps68
    go_wp2
    go_ret
    exact ⟨rfl, hO.below⟩
theorem pk_next {a b : List Pk} {r : Nat} {x : Pk} (ha : a[r]? = some x) (hb : b[r]? = some x) (ht : a.take r = b.take r) : a.take (r + 1) = b.take (r + 1) := by
  rw [List.take_add_one, List.take_add_one, ha, hb, ht]
/-- The same picks? -/
theorem psame_any (a b : List Pk) (ao bo : Option Addr) (c1 c2 : Nat) (w : World) (ha : LiesP w ao c1 a) (hb : LiesP w bo c2 b) : Calls Try.prog 42 #[.slice ao a.length c1, .slice bo b.length c2] w fun e w' => e = .returned (.bool (decide (a = b))) ∧ Below w.heap.size w w' := by
  have hc := ha.1
  have hc2 := ha.2.1
  have hd := hb.1
  have hd2 := hb.2.1
  unfold maxLen at hc2 hd2
  by_cases hl : a.length = b.length
  rotate_left
  · have hR : decide (a = b) = false := decide_eq_false fun h => hl (by rw [h])
    have hne : ((a.length : Int) != (b.length : Int)) = true := by rw [bne_iff_ne]; omega
    rw [hR]
    go_enter Try.func42, Try.ntmps42
    go_wp2
    go_ret
    exact ⟨rfl, Below.refl _ _⟩
  obtain ⟨N, hN⟩ : ∃ N, a.length = N := ⟨_, rfl⟩
  have hN2 : b.length = N := by omega
  rw [hN] at hc
  rw [hN2] at hd
  rw [hN, hN2]
  clear hl
  replace hN := Lib.hid hN
  replace hN2 := Lib.hid hN2
  go_enter Try.func42, Try.ntmps42
  go_wp2_with fail
  go_loopw [5] (fun i wr => ∃ r : Nat, r ≤ N ∧ i = .int .i64 r ∧ Hid (a.take r = b.take r) ∧ ∃ n, wr = w.drewN n) (fun i _ => (N - intOf i).toNat)
  case atStart => exact ⟨0, by omega, rfl, Lib.hid (by simp), 0, rfl⟩
  case round =>
    obtain ⟨r, hr, rfl, hB, n, rfl⟩ := hrel
    by_cases hlt : r < N
    · obtain ⟨⟨x, y⟩, hx⟩ : ∃ x, a[r]? = some x := ⟨_, List.getElem?_eq_getElem (by rw [hN.out]; exact hlt)⟩
      obtain ⟨⟨x', y'⟩, hx'⟩ : ∃ x, b[r]? = some x := ⟨_, List.getElem?_eq_getElem (by rw [hN2.out]; exact hlt)⟩
      obtain ⟨g, off, rfl, z0, z1⟩ := ha.get hx
      obtain ⟨g', off', rfl, z2, z3⟩ := hb.get hx'
      simp only at z0 z1 z2 z3
      by_cases he : x = x' ∧ y = y'
      · obtain ⟨rfl, rfl⟩ := he
        have hnx := Lib.hid (pk_next hx hx' hB.out)
        clear hx hx'
        go_wp2_with fail
        go_quiet (fail)
        go_wp2
        go_round
        case rel => exact ⟨r + 1, by omega, by go_num, hnx, _, by first | rfl | exact drewN_two⟩
        case measure => simp [intOf]; omega
      · have hR := Lib.hid (show decide (a = b) = false from decide_eq_false fun h => he (by
          rw [h, hx'] at hx
          simp at hx
          exact ⟨hx.1.symm, hx.2.symm⟩))
        clear hx hx'
        rcases (show x ≠ x' ∨ (x = x' ∧ y ≠ y') by omega) with k | ⟨rfl, k⟩
        · have k0 : (x == x') = false := by simpa using k
          clear he
          go_wp2_with fail
          go_quiet (fail)
          go_wp2
          go_ret
          exact ⟨by rw [hR.out]; first | done | rfl, by first | exact below_drewN' (below_drewN' (Below.refl _ _) _) _ | exact below_drewN' (Below.refl _ _) _⟩
        · have k0 : (y == y') = false := by simpa using k
          clear he
          go_wp2_with fail
          go_quiet (fail)
          go_wp2
          go_ret
          exact ⟨by rw [hR.out]; first | done | rfl, by first | exact below_drewN' (below_drewN' (Below.refl _ _) _) _ | exact below_drewN' (Below.refl _ _) _⟩
    · obtain rfl : r = N := by omega
      have hR := Lib.hid (show decide (a = b) = true from decide_eq_true (by
        have := hB.out
        rwa [← hN.out, List.take_length, hN.out, ← hN2.out, List.take_length] at this))
      go_wp2
      go_ret
      exact ⟨by rw [hR.out]; first | done | rfl, below_drewN' (Below.refl _ _) _⟩
end Go.Proofs.Ytcegncbnanbenaa
