/- slices.Equal on picks, replay.Loops, forebayref43.Loops. -/
import Derived.Test.YtcegncbnanbenaaPackPack
set_option linter.unusedVariables false
set_option linter.unusedSimpArgs false
namespace Go.Proofs.Ytcegncbnanbenaa
open Go.RowKit
set_option maxRecDepth 100000
set_option maxHeartbeats 8000000
/-- From n on, at most k more: with how many it repeats itself. -/
def loopG (l : List Pk) (n : Nat) : Nat → Nat
  | 0 => l.length
  | k + 1 => if l.drop n = l.take (l.length - n) then n else loopG l (n + 1) k
def loopsP (l : List Pk) : Nat := loopG l 1 (l.length - 1)
theorem loop_yes {l : List Pk} (n Z : Nat) (hn : n < l.length) (h : loopG l n (l.length - n) = Z) (he : l.drop n = l.take (l.length - n)) : Z = n := by
  rw [show l.length - n = (l.length - (n + 1)) + 1 by omega, loopG, if_pos he] at h
  exact h.symm
theorem loop_no {l : List Pk} (n Z : Nat) (hn : n < l.length) (h : loopG l n (l.length - n) = Z) (he : ¬ l.drop n = l.take (l.length - n)) : loopG l (n + 1) (l.length - (n + 1)) = Z := by
  rwa [show l.length - n = (l.length - (n + 1)) + 1 by omega, loopG, if_neg he] at h
theorem loop_end {l : List Pk} (n Z : Nat) (hn : ¬ n < l.length) (h : loopG l n (l.length - n) = Z) : Z = l.length := by
  rw [show l.length - n = 0 by omega, loopG] at h
  exact h.symm
theorem take_iff {a b : List Pk} {r : Nat} {x y : Pk} (ha : a[r]? = some x) (hb : b[r]? = some y) : a.take (r + 1) = b.take (r + 1) ↔ (a.take r = b.take r ∧ x = y) := by
  rw [List.take_add_one, List.take_add_one, ha, hb]
  have h1 := (List.getElem?_eq_some_iff.1 ha).1
  have h2 := (List.getElem?_eq_some_iff.1 hb).1
  constructor
  · intro h
    have := List.append_inj h (by rw [List.length_take, List.length_take]; omega)
    exact ⟨this.1, by simpa using this.2⟩
  · rintro ⟨h, rfl⟩
    rw [h]
/-- The first ones lie there, too. -/
theorem LiesP.head {w : World} {ao : Option Addr} {c : Nat} {l : List Pk} (h : LiesP w ao c l) (k : Nat) : LiesP w ao c (l.take k) :=
  ⟨by rw [List.length_take]; have := h.1; omega, h.2.1, h.2.2.1, fun i x hx => by
    rw [List.getElem?_take] at hx
    split at hx
    · exact h.2.2.2 i x hx
    · cases hx⟩
theorem peq_any (a b : List Pk) (ao bo : Option Addr) (c1 c2 : Nat) (w : World) (ha : LiesP w ao c1 a) (hb : LiesP w bo c2 b) : Calls Try.prog 74 #[.slice ao a.length c1, .slice bo b.length c2] w fun e w' => e = .returned (.bool (decide (a = b))) ∧ ∃ m, w' = w.drewN m := by
  have hc := ha.1
  have hc2 := ha.2.1
  have hd := hb.1
  have hd2 := hb.2.1
  unfold maxLen at hc2 hd2
  by_cases hl : a.length = b.length
  rotate_left
  · have hR : decide (a = b) = false := decide_eq_false fun h => hl (by rw [h])
    have hne : ((a.length : Int) != (b.length : Int)) = true := by rw [bne_iff_ne]; omega
    rw [hR]
    go_enter Try.func74, Try.ntmps74
    go_wp2
    go_ret
    exact ⟨rfl, 0, rfl⟩
  obtain ⟨N, hN⟩ : ∃ N, a.length = N := ⟨_, rfl⟩
  have hN2 : b.length = N := by omega
  rw [hN] at hc
  rw [hN2] at hd
  rw [hN, hN2]
  clear hl
  replace hN := Lib.hid hN
  replace hN2 := Lib.hid hN2
  go_enter Try.func74, Try.ntmps74
  go_wp2_with fail
  go_loopw [13, 5] (fun i _ wr => ∃ r : Nat, r ≤ N ∧ i = .int .i64 r ∧ Hid (a.take r = b.take r) ∧ ∃ n, wr = w.drewN n) (fun i _ _ => (N - intOf i).toNat)
  case atStart => exact ⟨0, by omega, rfl, Lib.hid (by simp), 0, rfl⟩
  case round =>
    obtain ⟨r, hr, rfl, hB, n, rfl⟩ := hrel
    by_cases hlt : r < N
    · obtain ⟨⟨x, y⟩, hx⟩ : ∃ x, a[r]? = some x := ⟨_, List.getElem?_eq_getElem (by rw [hN.out]; exact hlt)⟩
      obtain ⟨⟨x', y'⟩, hx'⟩ : ∃ x, b[r]? = some x := ⟨_, List.getElem?_eq_getElem (by rw [hN2.out]; exact hlt)⟩
      obtain ⟨g, off, rfl, z0, z1⟩ := ha.get hx
      obtain ⟨g', off', rfl, z2, z3⟩ := hb.get hx'
      simp only at z0 z1 z2 z3
      by_cases he : x = x' ∧ y = y'
      · obtain ⟨rfl, rfl⟩ := he
        have hnx := Lib.hid (pk_next hx hx' hB.out)
        clear hx hx'
        go_wp2_with fail
        go_quiet (fail)
        go_wp2
        go_round
        case rel => exact ⟨r + 1, by omega, by go_num, hnx, _, by first | rfl | exact drewN_two⟩
        case measure => simp [intOf]; omega
      · have hR := Lib.hid (show decide (a = b) = false from decide_eq_false fun h => he (by
          rw [h, hx'] at hx
          simp at hx
          exact ⟨hx.1.symm, hx.2.symm⟩))
        clear hx hx'
        rcases (show x ≠ x' ∨ (x = x' ∧ y ≠ y') by omega) with k | ⟨rfl, k⟩
        · have k0 : (x == x') = false := by simpa using k
          clear he
          go_wp2_with fail
          go_quiet (fail)
          go_wp2
          go_ret
          exact ⟨by rw [hR.out]; first | done | rfl, _, by first | rfl | exact drewN_two⟩
        · have k0 : (y == y') = false := by simpa using k
          clear he
          go_wp2_with fail
          go_quiet (fail)
          go_wp2
          go_ret
          exact ⟨by rw [hR.out]; first | done | rfl, _, by first | rfl | exact drewN_two⟩
    · obtain rfl : r = N := by omega
      have hR := Lib.hid (show decide (a = b) = true from decide_eq_true (by
        have := hB.out
        rwa [← hN.out, List.take_length, hN.out, ← hN2.out, List.take_length] at this))
      go_wp2
      go_ret
      exact ⟨by rw [hR.out]; first | done | rfl, _, rfl⟩
theorem loops_any (l : List Pk) (ao : Option Addr) (c : Nat) (w : World) (h : LiesP w ao c l) (hN5 : l.length ≤ 100000) : Calls Try.prog 43 #[.slice ao l.length c] w fun e w' => e = .returned (.int .i64 (loopsP l)) ∧ Below w.heap.size w w' := by
  have hc := h.1
  have hc2 := h.2.1
  unfold maxLen at hc2
  have LY := @loop_yes l
  have LN := @loop_no l
  have LE := @loop_end l
  have h0 : loopG l 1 (l.length - 1) = loopsP l := rfl
  obtain ⟨N, hN⟩ : ∃ N, l.length = N := ⟨_, rfl⟩
  generalize loopsP l = Z at *
  rw [hN] at hc hN5 LY LN LE h0 ⊢
  replace hN := Lib.hid hN
  replace LY := Lib.hid LY
  replace LN := Lib.hid LN
  replace LE := Lib.hid LE
  replace h0 := Lib.hid h0
  go_enter Try.func43, Try.ntmps43
  go_wp2_with fail
  go_loopw [3] (fun i wr => ∃ n : Nat, 1 ≤ n ∧ n ≤ N + 1 ∧ i = .int .i64 n ∧ Hid (loopG l n (N - n) = Z) ∧ Below w.heap.size w wr) (fun i _ => (N + 1 - intOf i).toNat)
  case atStart => exact ⟨1, by omega, by omega, rfl, h0, Below.refl _ _⟩
  case round =>
    obtain ⟨n, h1, hn, rfl, hG, hb⟩ := hrel
    by_cases hlt : n < N
    rotate_left
    · have hZ := Lib.hid (LE.out _ _ (by omega) hG.out)
      clear LY LN LE hG h0
      go_wp2
      go_ret
      exact ⟨by rw [hZ.out]; rfl, by first | exact hb | exact below_drewN' hb _⟩
    · obtain ⟨x, hx⟩ : ∃ x, l[0]? = some x := ⟨_, List.getElem?_eq_getElem (by rw [hN.out]; omega)⟩
      obtain ⟨g, off, rfl, _, _⟩ := h.get hx
      clear hx
      have hL := (h.below hb)
      have EQ : Hid (∀ k, Calls Try.prog 74 #[.slice (if c = n then some ⟨g, off, none⟩ else some ⟨g, off + n * 2, none⟩) (N - n) (c - n), .slice (some ⟨g, off, none⟩) (N - n) c] (wr.drewN k) fun e w' => e = .returned (.bool (decide (l.drop n = l.take (N - n)))) ∧ ∃ m, w' = (wr.drewN k).drewN m) := Lib.hid (fun k => by
        have := peq_any (l.drop n) (l.take (N - n)) _ _ _ _ (wr.drewN k) ((hL.cut2 (k := n) (by rw [hN.out]; omega)).drewN k) ((hL.head (N - n)).drewN k)
        rwa [List.length_drop, List.length_take, hN.out, show min (N - n) N = N - n by omega] at this)
      obtain ⟨M, hM⟩ : ∃ M, N - n = M := ⟨_, rfl⟩
      rw [hM] at EQ
      have LYn := fun he => LY.out _ _ hlt hG.out he
      have LNn := fun he => LN.out _ _ hlt hG.out he
      rw [hM] at LYn LNn
      by_cases hq : l.drop n = l.take M
      · have hZ := Lib.hid (LYn hq)
        rw [decide_eq_true hq] at EQ
        have e1 : IntKind.i64.wrap ((N : Int) - (n : Int)) = (M : Int) := by rw [show (M : Int) = (N : Int) - n by omega]; exact IntWalk.i64_in _ (by omega)
        have e2 : (n : Int) ≤ (N : Int) := by omega
        have e3 : (M : Int) ≤ (c : Int) := by omega
        have e4 : (N : Int) ≤ (c : Int) := by omega
        have e5 : (n : Int) < (N : Int) := by omega
        clear LY LN LE hG h0 hL LYn LNn hq
        go_wp2_with fail
        refine lin_start (S := (fun w' : World => True)) rfl 10 rfl trivial ?_
        simp only [numbered, Nat.zero_add, Nat.reduceAdd]
        refine lin_take (v := ?_) (by kernel_rfl) (by kernel_rfl) (fun _ _ _ h => h) (Or.inl ⟨by rfl, ?_⟩) trivial ?_; (rotate_left; (intro wS hSw; (try dsimp only at hSw); go_simp; (try with_reducible rfl)); rotate_left); simp only [Act.put, List.setIfInBounds_toArray, List.set_cons_zero, List.set_cons_succ]
        refine lin_take (v := ?_) (by kernel_rfl) (by kernel_rfl) (fun _ _ _ h => h) (Or.inl ⟨by rfl, ?_⟩) trivial ?_; (rotate_left; (intro wS hSw; (try dsimp only at hSw); go_simp; (try with_reducible rfl)); rotate_left); simp only [Act.put, List.setIfInBounds_toArray, List.set_cons_zero, List.set_cons_succ]
        refine lin_take (v := ?_) (by kernel_rfl) (by kernel_rfl) (fun _ _ _ h => h) (Or.inl ⟨by rfl, ?_⟩) trivial ?_; (rotate_left; (intro wS hSw; (try dsimp only at hSw); go_simp; (try with_reducible rfl)); rotate_left); simp only [Act.put, List.setIfInBounds_toArray, List.set_cons_zero, List.set_cons_succ]
        refine lin_take (v := ?_) (by kernel_rfl) (by kernel_rfl) (fun _ _ _ h => h) (Or.inl ⟨by rfl, ?_⟩) trivial ?_; (rotate_left; (intro wS hSw; (try dsimp only at hSw); go_simp; (try with_reducible rfl)); rotate_left); simp only [Act.put, List.setIfInBounds_toArray, List.set_cons_zero, List.set_cons_succ]
        refine lin_take (v := ?_) (by kernel_rfl) (by kernel_rfl) (fun _ _ _ h => h) (Or.inl ⟨by rfl, ?_⟩) trivial ?_; (rotate_left; (intro wS hSw; (try dsimp only at hSw); go_simp; (try with_reducible rfl)); rotate_left); simp only [Act.put, List.setIfInBounds_toArray, List.set_cons_zero, List.set_cons_succ]
        refine lin_take (v := ?_) (by kernel_rfl) (by kernel_rfl) (fun _ _ _ h => h) (Or.inl ⟨by rfl, ?_⟩) trivial ?_; (rotate_left; (intro wS hSw; (try dsimp only at hSw); go_simp; (try with_reducible rfl)); rotate_left); simp only [Act.put, List.setIfInBounds_toArray, List.set_cons_zero, List.set_cons_succ]
        refine lin_take (v := ?_) (by kernel_rfl) (by kernel_rfl) (fun _ _ _ h => h) (Or.inl ⟨by rfl, ?_⟩) trivial ?_; (rotate_left; (intro wS hSw; (try dsimp only at hSw); go_simp; (try with_reducible rfl)); rotate_left); simp only [Act.put, List.setIfInBounds_toArray, List.set_cons_zero, List.set_cons_succ]
        refine lin_take (v := ?_) (by kernel_rfl) (by kernel_rfl) (fun _ _ _ h => h) (Or.inl ⟨by rfl, ?_⟩) trivial ?_; (rotate_left; (intro wS hSw; (try dsimp only at hSw); go_simp; (try with_reducible rfl)); rotate_left); simp only [Act.put, List.setIfInBounds_toArray, List.set_cons_zero, List.set_cons_succ]
        refine lin_take (v := ?_) (by kernel_rfl) (by kernel_rfl) (fun _ _ _ h => h) (Or.inl ⟨by rfl, ?_⟩) trivial ?_; (rotate_left; (intro wS hSw; (try dsimp only at hSw); go_simp; (try with_reducible rfl)); rotate_left); simp only [Act.put, List.setIfInBounds_toArray, List.set_cons_zero, List.set_cons_succ]
        refine lin_sole (by kernel_rfl) (fun K hK => ?_)
        go_simp
        refine (EQ.out _).mono ?_
        rintro e w5 ⟨rfl, m5, rfl⟩
        refine hK.out _ _ trivial (fun hHeld => ?_)
        try simp only [Act.put, List.setIfInBounds_toArray, List.set_cons_zero, List.set_cons_succ]
        refine lin_done (by kernel_rfl) ?_
        go_wp2_with fail
        go_ret
        exact ⟨by rw [hZ.out]; rfl, by first | exact hb | exact below_drewN' hb _⟩
      · have hG2 := Lib.hid (LNn hq)
        rw [decide_eq_false hq] at EQ
        have e1 : IntKind.i64.wrap ((N : Int) - (n : Int)) = (M : Int) := by rw [show (M : Int) = (N : Int) - n by omega]; exact IntWalk.i64_in _ (by omega)
        have e2 : (n : Int) ≤ (N : Int) := by omega
        have e3 : (M : Int) ≤ (c : Int) := by omega
        have e4 : (N : Int) ≤ (c : Int) := by omega
        have e5 : (n : Int) < (N : Int) := by omega
        clear LY LN LE hG h0 hL LYn LNn hq
        go_wp2_with fail
        refine lin_start (S := (fun w' : World => True)) rfl 10 rfl trivial ?_
        simp only [numbered, Nat.zero_add, Nat.reduceAdd]
        refine lin_take (v := ?_) (by kernel_rfl) (by kernel_rfl) (fun _ _ _ h => h) (Or.inl ⟨by rfl, ?_⟩) trivial ?_; (rotate_left; (intro wS hSw; (try dsimp only at hSw); go_simp; (try with_reducible rfl)); rotate_left); simp only [Act.put, List.setIfInBounds_toArray, List.set_cons_zero, List.set_cons_succ]
        refine lin_take (v := ?_) (by kernel_rfl) (by kernel_rfl) (fun _ _ _ h => h) (Or.inl ⟨by rfl, ?_⟩) trivial ?_; (rotate_left; (intro wS hSw; (try dsimp only at hSw); go_simp; (try with_reducible rfl)); rotate_left); simp only [Act.put, List.setIfInBounds_toArray, List.set_cons_zero, List.set_cons_succ]
        refine lin_take (v := ?_) (by kernel_rfl) (by kernel_rfl) (fun _ _ _ h => h) (Or.inl ⟨by rfl, ?_⟩) trivial ?_; (rotate_left; (intro wS hSw; (try dsimp only at hSw); go_simp; (try with_reducible rfl)); rotate_left); simp only [Act.put, List.setIfInBounds_toArray, List.set_cons_zero, List.set_cons_succ]
        refine lin_take (v := ?_) (by kernel_rfl) (by kernel_rfl) (fun _ _ _ h => h) (Or.inl ⟨by rfl, ?_⟩) trivial ?_; (rotate_left; (intro wS hSw; (try dsimp only at hSw); go_simp; (try with_reducible rfl)); rotate_left); simp only [Act.put, List.setIfInBounds_toArray, List.set_cons_zero, List.set_cons_succ]
        refine lin_take (v := ?_) (by kernel_rfl) (by kernel_rfl) (fun _ _ _ h => h) (Or.inl ⟨by rfl, ?_⟩) trivial ?_; (rotate_left; (intro wS hSw; (try dsimp only at hSw); go_simp; (try with_reducible rfl)); rotate_left); simp only [Act.put, List.setIfInBounds_toArray, List.set_cons_zero, List.set_cons_succ]
        refine lin_take (v := ?_) (by kernel_rfl) (by kernel_rfl) (fun _ _ _ h => h) (Or.inl ⟨by rfl, ?_⟩) trivial ?_; (rotate_left; (intro wS hSw; (try dsimp only at hSw); go_simp; (try with_reducible rfl)); rotate_left); simp only [Act.put, List.setIfInBounds_toArray, List.set_cons_zero, List.set_cons_succ]
        refine lin_take (v := ?_) (by kernel_rfl) (by kernel_rfl) (fun _ _ _ h => h) (Or.inl ⟨by rfl, ?_⟩) trivial ?_; (rotate_left; (intro wS hSw; (try dsimp only at hSw); go_simp; (try with_reducible rfl)); rotate_left); simp only [Act.put, List.setIfInBounds_toArray, List.set_cons_zero, List.set_cons_succ]
        refine lin_take (v := ?_) (by kernel_rfl) (by kernel_rfl) (fun _ _ _ h => h) (Or.inl ⟨by rfl, ?_⟩) trivial ?_; (rotate_left; (intro wS hSw; (try dsimp only at hSw); go_simp; (try with_reducible rfl)); rotate_left); simp only [Act.put, List.setIfInBounds_toArray, List.set_cons_zero, List.set_cons_succ]
        refine lin_take (v := ?_) (by kernel_rfl) (by kernel_rfl) (fun _ _ _ h => h) (Or.inl ⟨by rfl, ?_⟩) trivial ?_; (rotate_left; (intro wS hSw; (try dsimp only at hSw); go_simp; (try with_reducible rfl)); rotate_left); simp only [Act.put, List.setIfInBounds_toArray, List.set_cons_zero, List.set_cons_succ]
        refine lin_sole (by kernel_rfl) (fun K hK => ?_)
        go_simp
        refine (EQ.out _).mono ?_
        rintro e w5 ⟨rfl, m5, rfl⟩
        refine hK.out _ _ trivial (fun hHeld => ?_)
        try simp only [Act.put, List.setIfInBounds_toArray, List.set_cons_zero, List.set_cons_succ]
        refine lin_done (by kernel_rfl) ?_
        go_wp2_with fail
        go_round
        case rel => exact ⟨n + 1, by omega, by omega, by go_num, hG2, by first | exact hb | exact below_drewN' hb _⟩
        case measure => simp [intOf]; omega
theorem rloops_any (l : List Pk) (ao : Option Addr) (c : Nat) (w : World) (h : LiesP w ao c l) (hN5 : l.length ≤ 100000) : Calls Try.prog 44 #[.slice ao l.length c] w fun e w' => e = .returned (.int .i64 (loopsP l)) ∧ Below w.heap.size w w' := by
  have hc := h.1
  have hc2 := h.2.1
  unfold maxLen at hc2
  have LY := @loop_yes l
  have LN := @loop_no l
  have LE := @loop_end l
  have h0 : loopG l 1 (l.length - 1) = loopsP l := rfl
  obtain ⟨N, hN⟩ : ∃ N, l.length = N := ⟨_, rfl⟩
  generalize loopsP l = Z at *
  rw [hN] at hc hN5 LY LN LE h0 ⊢
  replace hN := Lib.hid hN
  replace LY := Lib.hid LY
  replace LN := Lib.hid LN
  replace LE := Lib.hid LE
  replace h0 := Lib.hid h0
  go_enter Try.func44, Try.ntmps44
  go_wp2_with fail
  go_loopw [3] (fun i wr => ∃ n : Nat, 1 ≤ n ∧ n ≤ N + 1 ∧ i = .int .i64 n ∧ Hid (loopG l n (N - n) = Z) ∧ Below w.heap.size w wr) (fun i _ => (N + 1 - intOf i).toNat)
  case atStart => exact ⟨1, by omega, by omega, rfl, h0, Below.refl _ _⟩
  case round =>
    obtain ⟨n, h1, hn, rfl, hG, hb⟩ := hrel
    by_cases hlt : n < N
    rotate_left
    · have hZ := Lib.hid (LE.out _ _ (by omega) hG.out)
      clear LY LN LE hG h0
      go_wp2
      go_ret
      exact ⟨by rw [hZ.out]; rfl, by first | exact hb | exact below_drewN' hb _⟩
    · obtain ⟨x, hx⟩ : ∃ x, l[0]? = some x := ⟨_, List.getElem?_eq_getElem (by rw [hN.out]; omega)⟩
      obtain ⟨g, off, rfl, _, _⟩ := h.get hx
      clear hx
      have LYn := Lib.hid (fun he => LY.out _ _ hlt hG.out he)
      have LNn := Lib.hid (fun he => LN.out _ _ hlt hG.out he)
      clear LY LN LE hG h0
      have e5 : (n : Int) < (N : Int) := by omega
      go_wp2_with fail
      go_loopw [4, 5] (fun ov iv wr => ∃ (i r : Nat) (t : Bool), i = n + r ∧ i ≤ N ∧ iv = .int .i64 i ∧ ov = .bool t ∧ Hid (t = true ↔ (l.drop n).take r = l.take r) ∧ Below w.heap.size w wr) (fun _ iv _ => (N - intOf iv).toNat)
      case atStart => exact ⟨n, 0, true, by omega, by omega, rfl, rfl, Lib.hid (by simp), hb⟩
      case round =>
        clear hb
        obtain ⟨i, r, t, hir, hi, rfl, rfl, hT, hb⟩ := hrel
        by_cases hlt2 : i < N
        rotate_left
        · have hT2 : t = true ↔ l.drop n = l.take (N - n) := by
            rw [hT.out, show r = N - n by omega, show N - n = (l.drop n).length by rw [List.length_drop, hN.out], List.take_length]
          cases t with
          | true =>
            have hZ := Lib.hid (LYn.out (hT2.1 rfl))
            clear LYn LNn hT hT2
            go_wp2_with fail
            go_ret
            exact ⟨by rw [hZ.out]; rfl, by first | exact hb | exact below_drewN' hb _⟩
          | false =>
            have hG2 := Lib.hid (LNn.out (fun he => by have := hT2.2 he; cases this))
            clear LYn LNn hT hT2
            go_wp2_with fail
            go_round
            case rel => exact ⟨n + 1, by omega, by omega, by go_num, hG2, by first | exact hb | exact below_drewN' hb _⟩
            case measure => simp [intOf]; omega
        · obtain ⟨⟨x, y⟩, hx⟩ : ∃ x, l[i]? = some x := ⟨_, List.getElem?_eq_getElem (by rw [hN.out]; exact hlt2)⟩
          obtain ⟨⟨x', y'⟩, hx'⟩ : ∃ x, l[r]? = some x := ⟨_, List.getElem?_eq_getElem (by rw [hN.out]; omega)⟩
          have TI := Lib.hid (take_iff (a := l.drop n) (b := l) (r := r) (x := (x, y)) (y := (x', y')) (by rw [List.getElem?_drop, ← hir]; exact hx) hx')
          obtain ⟨g', off', he, t0, t1⟩ := (h.below hb).get hx
          cases he
          obtain ⟨g', off', he, t2, t3⟩ := (h.below hb).get hx'
          cases he
          simp only at t0 t1 t2 t3
          have e6 : IntKind.i64.wrap ((i : Int) - (n : Int)) = (r : Int) := by rw [show (r : Int) = (i : Int) - n by omega]; exact IntWalk.i64_in _ (by omega)
          have e7 : (r : Int) < (N : Int) := by omega
          have e9 : r < N := by omega
          have e8 : (i : Int) < (N : Int) := by omega
          have hS0 : (fun w' : World => w'.cell? ⟨g, off + i * 2, none⟩ = some (.int .i64 x) ∧ w'.cell? ⟨g, off + i * 2 + 1, none⟩ = some (.int .i64 y) ∧ w'.cell? ⟨g, off + r * 2, none⟩ = some (.int .i64 x') ∧ w'.cell? ⟨g, off + r * 2 + 1, none⟩ = some (.int .i64 y')) wr.drew := ⟨t0, t1, t2, t3⟩
          have hir2 := Lib.hid hir
          clear hx hx' t0 t1 t2 t3 LYn LNn hir
          cases t with
          | false =>
            have hT3 : Hid ((false = true) ↔ (l.drop n).take (r + 1) = l.take (r + 1)) := Lib.hid (by
              rw [TI.out]
              constructor
              · intro h; cases h
              · intro h; exact hT.out.2 h.1)
            clear hT TI
            go_wp2_with fail
            refine lin_start (S := (fun w' : World => True)) rfl 15 rfl trivial ?_
            simp only [numbered, Nat.zero_add, Nat.reduceAdd]
            refine lin_take (v := ?_) (by kernel_rfl) (by kernel_rfl) (fun _ _ _ h => h) (Or.inl ⟨by rfl, ?_⟩) trivial ?_; (rotate_left; (intro wS hSw; (try dsimp only at hSw); go_simp; (try with_reducible rfl)); rotate_left); simp only [Act.put, List.setIfInBounds_toArray, List.set_cons_zero, List.set_cons_succ]
            refine lin_take (v := ?_) (by kernel_rfl) (by kernel_rfl) (fun _ _ _ h => h) (Or.inl ⟨by rfl, ?_⟩) trivial ?_; (rotate_left; (intro wS hSw; (try dsimp only at hSw); go_simp; (try with_reducible rfl)); rotate_left); simp only [Act.put, List.setIfInBounds_toArray, List.set_cons_zero, List.set_cons_succ]
            refine lin_take (v := undef) (by kernel_rfl) (by kernel_rfl) (fun _ _ _ h => h) (Or.inr ⟨by rfl, rfl⟩) trivial ?_; simp only [Act.put, List.setIfInBounds_toArray, List.set_cons_zero, List.set_cons_succ]
            refine lin_take (v := undef) (by kernel_rfl) (by kernel_rfl) (fun _ _ _ h => h) (Or.inr ⟨by rfl, rfl⟩) trivial ?_; simp only [Act.put, List.setIfInBounds_toArray, List.set_cons_zero, List.set_cons_succ]
            refine lin_take (v := undef) (by kernel_rfl) (by kernel_rfl) (fun _ _ _ h => h) (Or.inr ⟨by rfl, rfl⟩) trivial ?_; simp only [Act.put, List.setIfInBounds_toArray, List.set_cons_zero, List.set_cons_succ]
            refine lin_take (v := undef) (by kernel_rfl) (by kernel_rfl) (fun _ _ _ h => h) (Or.inr ⟨by rfl, rfl⟩) trivial ?_; simp only [Act.put, List.setIfInBounds_toArray, List.set_cons_zero, List.set_cons_succ]
            refine lin_take (v := undef) (by kernel_rfl) (by kernel_rfl) (fun _ _ _ h => h) (Or.inr ⟨by rfl, rfl⟩) trivial ?_; simp only [Act.put, List.setIfInBounds_toArray, List.set_cons_zero, List.set_cons_succ]
            refine lin_take (v := undef) (by kernel_rfl) (by kernel_rfl) (fun _ _ _ h => h) (Or.inr ⟨by rfl, rfl⟩) trivial ?_; simp only [Act.put, List.setIfInBounds_toArray, List.set_cons_zero, List.set_cons_succ]
            refine lin_take (v := undef) (by kernel_rfl) (by kernel_rfl) (fun _ _ _ h => h) (Or.inr ⟨by rfl, rfl⟩) trivial ?_; simp only [Act.put, List.setIfInBounds_toArray, List.set_cons_zero, List.set_cons_succ]
            refine lin_take (v := undef) (by kernel_rfl) (by kernel_rfl) (fun _ _ _ h => h) (Or.inr ⟨by rfl, rfl⟩) trivial ?_; simp only [Act.put, List.setIfInBounds_toArray, List.set_cons_zero, List.set_cons_succ]
            refine lin_take (v := undef) (by kernel_rfl) (by kernel_rfl) (fun _ _ _ h => h) (Or.inr ⟨by rfl, rfl⟩) trivial ?_; simp only [Act.put, List.setIfInBounds_toArray, List.set_cons_zero, List.set_cons_succ]
            refine lin_take (v := undef) (by kernel_rfl) (by kernel_rfl) (fun _ _ _ h => h) (Or.inr ⟨by rfl, rfl⟩) trivial ?_; simp only [Act.put, List.setIfInBounds_toArray, List.set_cons_zero, List.set_cons_succ]
            refine lin_take (v := undef) (by kernel_rfl) (by kernel_rfl) (fun _ _ _ h => h) (Or.inr ⟨by rfl, rfl⟩) trivial ?_; simp only [Act.put, List.setIfInBounds_toArray, List.set_cons_zero, List.set_cons_succ]
            refine lin_take (v := ?_) (by kernel_rfl) (by kernel_rfl) (fun _ _ _ h => h) (Or.inl ⟨by rfl, ?_⟩) trivial ?_; (rotate_left; (intro wS hSw; (try dsimp only at hSw); go_simp; (try with_reducible rfl)); rotate_left); simp only [Act.put, List.setIfInBounds_toArray, List.set_cons_zero, List.set_cons_succ]
            refine lin_take (v := ?_) (by kernel_rfl) (by kernel_rfl) (fun _ _ _ h => h) (Or.inl ⟨by rfl, ?_⟩) trivial ?_; (rotate_left; (intro wS hSw; (try dsimp only at hSw); go_simp; (try with_reducible rfl)); rotate_left); simp only [Act.put, List.setIfInBounds_toArray, List.set_cons_zero, List.set_cons_succ]
            refine lin_done (by kernel_rfl) ?_
            go_wp2_with fail
            go_round
            case rel => exact ⟨i + 1, r + 1, false, by have := hir2.out; omega, by omega, by go_num, rfl, hT3, below_drewN' hb 1⟩
            case measure => simp [intOf]; omega
          | true =>
          by_cases he : x' = x ∧ y' = y
          · obtain ⟨rfl, rfl⟩ := he
            have hT3 : Hid ((true = true) ↔ List.take (r + 1) (List.drop n l) = l.take (r + 1)) := Lib.hid (by
              rw [TI.out]
              exact ⟨fun h => ⟨hT.out.1 h, rfl⟩, fun _ => rfl⟩)
            clear hT TI
            go_wp2_with fail
            refine lin_start (S := (fun w' : World => w'.cell? ⟨g, off + i * 2, none⟩ = some (.int .i64 x') ∧ w'.cell? ⟨g, off + i * 2 + 1, none⟩ = some (.int .i64 y') ∧ w'.cell? ⟨g, off + r * 2, none⟩ = some (.int .i64 x') ∧ w'.cell? ⟨g, off + r * 2 + 1, none⟩ = some (.int .i64 y'))) rfl 15 rfl hS0 ?_
            simp only [numbered, Nat.zero_add, Nat.reduceAdd]
            refine lin_take (v := ?_) (by kernel_rfl) (by kernel_rfl) (fun _ _ _ h => h) (Or.inl ⟨by rfl, ?_⟩) (by assumption) ?_; (rotate_left; (intro wS hSw; (try dsimp only at hSw); go_simp; (try with_reducible rfl)); rotate_left); simp only [Act.put, List.setIfInBounds_toArray, List.set_cons_zero, List.set_cons_succ]
            refine lin_take (v := ?_) (by kernel_rfl) (by kernel_rfl) (fun _ _ _ h => h) (Or.inl ⟨by rfl, ?_⟩) (by assumption) ?_; (rotate_left; (intro wS hSw; (try dsimp only at hSw); go_simp; (try with_reducible rfl)); rotate_left); simp only [Act.put, List.setIfInBounds_toArray, List.set_cons_zero, List.set_cons_succ]
            refine lin_take (v := ?_) (by kernel_rfl) (by kernel_rfl) (fun _ _ _ h => h) (Or.inl ⟨by rfl, ?_⟩) (by assumption) ?_; (rotate_left; (intro wS hSw; (try dsimp only at hSw); go_simp; (try with_reducible rfl)); rotate_left); simp only [Act.put, List.setIfInBounds_toArray, List.set_cons_zero, List.set_cons_succ]
            refine lin_take (v := ?_) (by kernel_rfl) (by kernel_rfl) (fun _ _ _ h => h) (Or.inl ⟨by rfl, ?_⟩) (by assumption) ?_; (rotate_left; (intro wS hSw; (try dsimp only at hSw); go_simp; (try with_reducible rfl)); rotate_left); simp only [Act.put, List.setIfInBounds_toArray, List.set_cons_zero, List.set_cons_succ]
            refine lin_take (v := ?_) (by kernel_rfl) (by kernel_rfl) (fun _ _ _ h => h) (Or.inl ⟨by rfl, ?_⟩) (by assumption) ?_; (rotate_left; (intro wS hSw; (try dsimp only at hSw); go_simp; (try with_reducible rfl)); rotate_left); simp only [Act.put, List.setIfInBounds_toArray, List.set_cons_zero, List.set_cons_succ]
            refine lin_take (v := ?_) (by kernel_rfl) (by kernel_rfl) (fun _ _ _ h => h) (Or.inl ⟨by rfl, ?_⟩) (by assumption) ?_; (rotate_left; (intro wS hSw; (try dsimp only at hSw); go_simp; (try with_reducible rfl)); rotate_left); simp only [Act.put, List.setIfInBounds_toArray, List.set_cons_zero, List.set_cons_succ]
            refine lin_take (v := ?_) (by kernel_rfl) (by kernel_rfl) (fun _ _ _ h => h) (Or.inl ⟨by rfl, ?_⟩) (by assumption) ?_; (rotate_left; (intro wS hSw; (try dsimp only at hSw); go_simp; (try with_reducible rfl)); rotate_left); simp only [Act.put, List.setIfInBounds_toArray, List.set_cons_zero, List.set_cons_succ]
            refine lin_take (v := ?_) (by kernel_rfl) (by kernel_rfl) (fun _ _ _ h => h) (Or.inl ⟨by rfl, ?_⟩) (by assumption) ?_; (rotate_left; (intro wS hSw; (try dsimp only at hSw); go_simp; (try with_reducible rfl)); rotate_left); simp only [Act.put, List.setIfInBounds_toArray, List.set_cons_zero, List.set_cons_succ]
            refine lin_take (v := ?_) (by kernel_rfl) (by kernel_rfl) (fun _ _ _ h => h) (Or.inl ⟨by rfl, ?_⟩) (by assumption) ?_; (rotate_left; (intro wS hSw; (try dsimp only at hSw); go_simp; (try with_reducible rfl)); rotate_left); simp only [Act.put, List.setIfInBounds_toArray, List.set_cons_zero, List.set_cons_succ]
            refine lin_take (v := ?_) (by kernel_rfl) (by kernel_rfl) (fun _ _ _ h => h) (Or.inl ⟨by rfl, ?_⟩) (by assumption) ?_; (rotate_left; (intro wS hSw; (try dsimp only at hSw); go_simp; (try with_reducible rfl)); rotate_left); simp only [Act.put, List.setIfInBounds_toArray, List.set_cons_zero, List.set_cons_succ]
            refine lin_take (v := ?_) (by kernel_rfl) (by kernel_rfl) (fun _ _ _ h => h) (Or.inl ⟨by rfl, ?_⟩) (by assumption) ?_; (rotate_left; (intro wS hSw; (try dsimp only at hSw); go_simp; (try with_reducible rfl)); rotate_left); simp only [Act.put, List.setIfInBounds_toArray, List.set_cons_zero, List.set_cons_succ]
            refine lin_take (v := ?_) (by kernel_rfl) (by kernel_rfl) (fun _ _ _ h => h) (Or.inl ⟨by rfl, ?_⟩) (by assumption) ?_; (rotate_left; (intro wS hSw; (try dsimp only at hSw); go_simp; (try with_reducible rfl)); rotate_left); simp only [Act.put, List.setIfInBounds_toArray, List.set_cons_zero, List.set_cons_succ]
            refine lin_take (v := ?_) (by kernel_rfl) (by kernel_rfl) (fun _ _ _ h => h) (Or.inl ⟨by rfl, ?_⟩) (by assumption) ?_; (rotate_left; (intro wS hSw; (try dsimp only at hSw); go_simp; (try with_reducible rfl)); rotate_left); simp only [Act.put, List.setIfInBounds_toArray, List.set_cons_zero, List.set_cons_succ]
            refine lin_take (v := ?_) (by kernel_rfl) (by kernel_rfl) (fun _ _ _ h => h) (Or.inl ⟨by rfl, ?_⟩) (by assumption) ?_; (rotate_left; (intro wS hSw; (try dsimp only at hSw); go_simp; (try with_reducible rfl)); rotate_left); simp only [Act.put, List.setIfInBounds_toArray, List.set_cons_zero, List.set_cons_succ]
            refine lin_take (v := ?_) (by kernel_rfl) (by kernel_rfl) (fun _ _ _ h => h) (Or.inl ⟨by rfl, ?_⟩) (by assumption) ?_; (rotate_left; (intro wS hSw; (try dsimp only at hSw); go_simp; (try with_reducible rfl)); rotate_left); simp only [Act.put, List.setIfInBounds_toArray, List.set_cons_zero, List.set_cons_succ]
            refine lin_done (by kernel_rfl) ?_
            go_wp2_with fail
            go_round
            case rel => exact ⟨i + 1, r + 1, true, by have := hir2.out; omega, by omega, by go_num, rfl, Lib.hid (by simpa using hT3.out), below_drewN' hb 1⟩
            case measure => simp [intOf]; omega
          · have hT3 : Hid ((false = true) ↔ (l.drop n).take (r + 1) = l.take (r + 1)) := Lib.hid (by
              rw [TI.out]
              constructor
              · intro h; cases h
              · intro h; exact absurd (by cases h.2; exact ⟨rfl, rfl⟩) he)
            clear hT TI
            rcases (show x ≠ x' ∨ (x = x' ∧ y ≠ y') by omega) with k | ⟨rfl, k⟩
            · have k0 : (x == x') = false := by simpa using k
              clear he
              go_wp2_with fail
              refine lin_start (S := (fun w' : World => w'.cell? ⟨g, off + i * 2, none⟩ = some (.int .i64 x) ∧ w'.cell? ⟨g, off + i * 2 + 1, none⟩ = some (.int .i64 y) ∧ w'.cell? ⟨g, off + r * 2, none⟩ = some (.int .i64 x') ∧ w'.cell? ⟨g, off + r * 2 + 1, none⟩ = some (.int .i64 y'))) rfl 15 rfl hS0 ?_
              simp only [numbered, Nat.zero_add, Nat.reduceAdd]
              refine lin_take (v := ?_) (by kernel_rfl) (by kernel_rfl) (fun _ _ _ h => h) (Or.inl ⟨by rfl, ?_⟩) (by assumption) ?_; (rotate_left; (intro wS hSw; (try dsimp only at hSw); go_simp; (try with_reducible rfl)); rotate_left); simp only [Act.put, List.setIfInBounds_toArray, List.set_cons_zero, List.set_cons_succ]
              refine lin_take (v := ?_) (by kernel_rfl) (by kernel_rfl) (fun _ _ _ h => h) (Or.inl ⟨by rfl, ?_⟩) (by assumption) ?_; (rotate_left; (intro wS hSw; (try dsimp only at hSw); go_simp; (try with_reducible rfl)); rotate_left); simp only [Act.put, List.setIfInBounds_toArray, List.set_cons_zero, List.set_cons_succ]
              refine lin_take (v := ?_) (by kernel_rfl) (by kernel_rfl) (fun _ _ _ h => h) (Or.inl ⟨by rfl, ?_⟩) (by assumption) ?_; (rotate_left; (intro wS hSw; (try dsimp only at hSw); go_simp; (try with_reducible rfl)); rotate_left); simp only [Act.put, List.setIfInBounds_toArray, List.set_cons_zero, List.set_cons_succ]
              refine lin_take (v := ?_) (by kernel_rfl) (by kernel_rfl) (fun _ _ _ h => h) (Or.inl ⟨by rfl, ?_⟩) (by assumption) ?_; (rotate_left; (intro wS hSw; (try dsimp only at hSw); go_simp; (try with_reducible rfl)); rotate_left); simp only [Act.put, List.setIfInBounds_toArray, List.set_cons_zero, List.set_cons_succ]
              refine lin_take (v := ?_) (by kernel_rfl) (by kernel_rfl) (fun _ _ _ h => h) (Or.inl ⟨by rfl, ?_⟩) (by assumption) ?_; (rotate_left; (intro wS hSw; (try dsimp only at hSw); go_simp; (try with_reducible rfl)); rotate_left); simp only [Act.put, List.setIfInBounds_toArray, List.set_cons_zero, List.set_cons_succ]
              refine lin_take (v := ?_) (by kernel_rfl) (by kernel_rfl) (fun _ _ _ h => h) (Or.inl ⟨by rfl, ?_⟩) (by assumption) ?_; (rotate_left; (intro wS hSw; (try dsimp only at hSw); go_simp; (try with_reducible rfl)); rotate_left); simp only [Act.put, List.setIfInBounds_toArray, List.set_cons_zero, List.set_cons_succ]
              refine lin_take (v := ?_) (by kernel_rfl) (by kernel_rfl) (fun _ _ _ h => h) (Or.inl ⟨by rfl, ?_⟩) (by assumption) ?_; (rotate_left; (intro wS hSw; (try dsimp only at hSw); go_simp; (try with_reducible rfl)); rotate_left); simp only [Act.put, List.setIfInBounds_toArray, List.set_cons_zero, List.set_cons_succ]
              refine lin_take (v := ?_) (by kernel_rfl) (by kernel_rfl) (fun _ _ _ h => h) (Or.inl ⟨by rfl, ?_⟩) (by assumption) ?_; (rotate_left; (intro wS hSw; (try dsimp only at hSw); go_simp; (try with_reducible rfl)); rotate_left); simp only [Act.put, List.setIfInBounds_toArray, List.set_cons_zero, List.set_cons_succ]
              refine lin_take (v := ?_) (by kernel_rfl) (by kernel_rfl) (fun _ _ _ h => h) (Or.inl ⟨by rfl, ?_⟩) (by assumption) ?_; (rotate_left; (intro wS hSw; (try dsimp only at hSw); go_simp; (try with_reducible rfl)); rotate_left); simp only [Act.put, List.setIfInBounds_toArray, List.set_cons_zero, List.set_cons_succ]
              refine lin_take (v := ?_) (by kernel_rfl) (by kernel_rfl) (fun _ _ _ h => h) (Or.inl ⟨by rfl, ?_⟩) (by assumption) ?_; (rotate_left; (intro wS hSw; (try dsimp only at hSw); go_simp; (try with_reducible rfl)); rotate_left); simp only [Act.put, List.setIfInBounds_toArray, List.set_cons_zero, List.set_cons_succ]
              refine lin_take (v := ?_) (by kernel_rfl) (by kernel_rfl) (fun _ _ _ h => h) (Or.inl ⟨by rfl, ?_⟩) (by assumption) ?_; (rotate_left; (intro wS hSw; (try dsimp only at hSw); go_simp; (try with_reducible rfl)); rotate_left); simp only [Act.put, List.setIfInBounds_toArray, List.set_cons_zero, List.set_cons_succ]
              refine lin_take (v := ?_) (by kernel_rfl) (by kernel_rfl) (fun _ _ _ h => h) (Or.inl ⟨by rfl, ?_⟩) (by assumption) ?_; (rotate_left; (intro wS hSw; (try dsimp only at hSw); go_simp; (try with_reducible rfl)); rotate_left); simp only [Act.put, List.setIfInBounds_toArray, List.set_cons_zero, List.set_cons_succ]
              refine lin_take (v := ?_) (by kernel_rfl) (by kernel_rfl) (fun _ _ _ h => h) (Or.inl ⟨by rfl, ?_⟩) (by assumption) ?_; (rotate_left; (intro wS hSw; (try dsimp only at hSw); go_simp; (try with_reducible rfl)); rotate_left); simp only [Act.put, List.setIfInBounds_toArray, List.set_cons_zero, List.set_cons_succ]
              refine lin_take (v := ?_) (by kernel_rfl) (by kernel_rfl) (fun _ _ _ h => h) (Or.inl ⟨by rfl, ?_⟩) (by assumption) ?_; (rotate_left; (intro wS hSw; (try dsimp only at hSw); go_simp; (try with_reducible rfl)); rotate_left); simp only [Act.put, List.setIfInBounds_toArray, List.set_cons_zero, List.set_cons_succ]
              refine lin_take (v := ?_) (by kernel_rfl) (by kernel_rfl) (fun _ _ _ h => h) (Or.inl ⟨by rfl, ?_⟩) (by assumption) ?_; (rotate_left; (intro wS hSw; (try dsimp only at hSw); go_simp; (try with_reducible rfl)); rotate_left); simp only [Act.put, List.setIfInBounds_toArray, List.set_cons_zero, List.set_cons_succ]
              refine lin_done (by kernel_rfl) ?_
              go_wp2_with fail
              go_round
              case rel => exact ⟨i + 1, r + 1, false, by have := hir2.out; omega, by omega, by go_num, rfl, hT3, below_drewN' hb 1⟩
              case measure => simp [intOf]; omega
            · have k0 : (y == y') = false := by simpa using k
              clear he
              go_wp2_with fail
              refine lin_start (S := (fun w' : World => w'.cell? ⟨g, off + i * 2, none⟩ = some (.int .i64 x) ∧ w'.cell? ⟨g, off + i * 2 + 1, none⟩ = some (.int .i64 y) ∧ w'.cell? ⟨g, off + r * 2, none⟩ = some (.int .i64 x) ∧ w'.cell? ⟨g, off + r * 2 + 1, none⟩ = some (.int .i64 y'))) rfl 15 rfl hS0 ?_
              simp only [numbered, Nat.zero_add, Nat.reduceAdd]
              refine lin_take (v := ?_) (by kernel_rfl) (by kernel_rfl) (fun _ _ _ h => h) (Or.inl ⟨by rfl, ?_⟩) (by assumption) ?_; (rotate_left; (intro wS hSw; (try dsimp only at hSw); go_simp; (try with_reducible rfl)); rotate_left); simp only [Act.put, List.setIfInBounds_toArray, List.set_cons_zero, List.set_cons_succ]
              refine lin_take (v := ?_) (by kernel_rfl) (by kernel_rfl) (fun _ _ _ h => h) (Or.inl ⟨by rfl, ?_⟩) (by assumption) ?_; (rotate_left; (intro wS hSw; (try dsimp only at hSw); go_simp; (try with_reducible rfl)); rotate_left); simp only [Act.put, List.setIfInBounds_toArray, List.set_cons_zero, List.set_cons_succ]
              refine lin_take (v := ?_) (by kernel_rfl) (by kernel_rfl) (fun _ _ _ h => h) (Or.inl ⟨by rfl, ?_⟩) (by assumption) ?_; (rotate_left; (intro wS hSw; (try dsimp only at hSw); go_simp; (try with_reducible rfl)); rotate_left); simp only [Act.put, List.setIfInBounds_toArray, List.set_cons_zero, List.set_cons_succ]
              refine lin_take (v := ?_) (by kernel_rfl) (by kernel_rfl) (fun _ _ _ h => h) (Or.inl ⟨by rfl, ?_⟩) (by assumption) ?_; (rotate_left; (intro wS hSw; (try dsimp only at hSw); go_simp; (try with_reducible rfl)); rotate_left); simp only [Act.put, List.setIfInBounds_toArray, List.set_cons_zero, List.set_cons_succ]
              refine lin_take (v := ?_) (by kernel_rfl) (by kernel_rfl) (fun _ _ _ h => h) (Or.inl ⟨by rfl, ?_⟩) (by assumption) ?_; (rotate_left; (intro wS hSw; (try dsimp only at hSw); go_simp; (try with_reducible rfl)); rotate_left); simp only [Act.put, List.setIfInBounds_toArray, List.set_cons_zero, List.set_cons_succ]
              refine lin_take (v := ?_) (by kernel_rfl) (by kernel_rfl) (fun _ _ _ h => h) (Or.inl ⟨by rfl, ?_⟩) (by assumption) ?_; (rotate_left; (intro wS hSw; (try dsimp only at hSw); go_simp; (try with_reducible rfl)); rotate_left); simp only [Act.put, List.setIfInBounds_toArray, List.set_cons_zero, List.set_cons_succ]
              refine lin_take (v := ?_) (by kernel_rfl) (by kernel_rfl) (fun _ _ _ h => h) (Or.inl ⟨by rfl, ?_⟩) (by assumption) ?_; (rotate_left; (intro wS hSw; (try dsimp only at hSw); go_simp; (try with_reducible rfl)); rotate_left); simp only [Act.put, List.setIfInBounds_toArray, List.set_cons_zero, List.set_cons_succ]
              refine lin_take (v := ?_) (by kernel_rfl) (by kernel_rfl) (fun _ _ _ h => h) (Or.inl ⟨by rfl, ?_⟩) (by assumption) ?_; (rotate_left; (intro wS hSw; (try dsimp only at hSw); go_simp; (try with_reducible rfl)); rotate_left); simp only [Act.put, List.setIfInBounds_toArray, List.set_cons_zero, List.set_cons_succ]
              refine lin_take (v := ?_) (by kernel_rfl) (by kernel_rfl) (fun _ _ _ h => h) (Or.inl ⟨by rfl, ?_⟩) (by assumption) ?_; (rotate_left; (intro wS hSw; (try dsimp only at hSw); go_simp; (try with_reducible rfl)); rotate_left); simp only [Act.put, List.setIfInBounds_toArray, List.set_cons_zero, List.set_cons_succ]
              refine lin_take (v := ?_) (by kernel_rfl) (by kernel_rfl) (fun _ _ _ h => h) (Or.inl ⟨by rfl, ?_⟩) (by assumption) ?_; (rotate_left; (intro wS hSw; (try dsimp only at hSw); go_simp; (try with_reducible rfl)); rotate_left); simp only [Act.put, List.setIfInBounds_toArray, List.set_cons_zero, List.set_cons_succ]
              refine lin_take (v := ?_) (by kernel_rfl) (by kernel_rfl) (fun _ _ _ h => h) (Or.inl ⟨by rfl, ?_⟩) (by assumption) ?_; (rotate_left; (intro wS hSw; (try dsimp only at hSw); go_simp; (try with_reducible rfl)); rotate_left); simp only [Act.put, List.setIfInBounds_toArray, List.set_cons_zero, List.set_cons_succ]
              refine lin_take (v := ?_) (by kernel_rfl) (by kernel_rfl) (fun _ _ _ h => h) (Or.inl ⟨by rfl, ?_⟩) (by assumption) ?_; (rotate_left; (intro wS hSw; (try dsimp only at hSw); go_simp; (try with_reducible rfl)); rotate_left); simp only [Act.put, List.setIfInBounds_toArray, List.set_cons_zero, List.set_cons_succ]
              refine lin_take (v := ?_) (by kernel_rfl) (by kernel_rfl) (fun _ _ _ h => h) (Or.inl ⟨by rfl, ?_⟩) (by assumption) ?_; (rotate_left; (intro wS hSw; (try dsimp only at hSw); go_simp; (try with_reducible rfl)); rotate_left); simp only [Act.put, List.setIfInBounds_toArray, List.set_cons_zero, List.set_cons_succ]
              refine lin_take (v := ?_) (by kernel_rfl) (by kernel_rfl) (fun _ _ _ h => h) (Or.inl ⟨by rfl, ?_⟩) (by assumption) ?_; (rotate_left; (intro wS hSw; (try dsimp only at hSw); go_simp; (try with_reducible rfl)); rotate_left); simp only [Act.put, List.setIfInBounds_toArray, List.set_cons_zero, List.set_cons_succ]
              refine lin_take (v := ?_) (by kernel_rfl) (by kernel_rfl) (fun _ _ _ h => h) (Or.inl ⟨by rfl, ?_⟩) (by assumption) ?_; (rotate_left; (intro wS hSw; (try dsimp only at hSw); go_simp; (try with_reducible rfl)); rotate_left); simp only [Act.put, List.setIfInBounds_toArray, List.set_cons_zero, List.set_cons_succ]
              refine lin_done (by kernel_rfl) ?_
              go_wp2_with fail
              go_round
              case rel => exact ⟨i + 1, r + 1, false, by have := hir2.out; omega, by omega, by go_num, rfl, hT3, below_drewN' hb 1⟩
              case measure => simp [intOf]; omega
end Go.Proofs.Ytcegncbnanbenaa
