/- replay.Pack. -/
import Derived.Test.YtcegncbnanbenaaPackSame
import Derived.Test.YtcegncbnanbenaaBits
set_option linter.unusedVariables false
set_option linter.unusedSimpArgs false
namespace Go.Proofs.Ytcegncbnanbenaa
open Go.RowKit
set_option maxRecDepth 100000
set_option maxHeartbeats 8000000
def packE (l : List Pk) : Int := if l.all fitsP = true then 0 else 3
def packS (l : List Pk) : List UInt8 := if l.all fitsP = true then encR 0 l else []
theorem low1 {n : Int} (h0 : 0 ≤ n) (h1 : n ≤ 255) : low n (hs 1) = [UInt8.ofNat n.toNat] := by
  rw [show hs 1 = 1 by decide]
  simp [low]
  congr 1
  omega
theorem put1 (S : List UInt8) (n : Int) (h0 : 0 ≤ n) (h1 : n ≤ 255) (hl : S.length ≤ 1000000000) (w : World) : Calls Try.prog 70 #[.string ⟨S.toArray⟩, .int .i64 n, .int .i64 1] w fun e w' => e = .returned (.string ⟨(S ++ [UInt8.ofNat n.toNat]).toArray⟩) ∧ Below w.heap.size w w' := by
  have := put_any S n 1 w hl
  rwa [low1 h0 h1] at this
theorem enc_bd : ∀ (m : Nat) (l : List Pk), (encR m l).length ≤ 3 * l.length
  | _, [] => by simp [encR]
  | m, [x] => by simp [encR, trip]
  | m, x :: y :: r => by
    rw [encR_cons]
    split
    · have := enc_bd (m + 1) (y :: r); simp at this ⊢; omega
    · have := enc_bd 0 (y :: r); rw [List.length_append]; simp [trip] at this ⊢; omega
def slLen : Value → Nat
  | .slice _ n _ => n
  | _ => 0
theorem LiesP.cut {w : World} {g off c : Nat} {l : List Pk} (h : LiesP w (some ⟨g, off, none⟩) c l) {k : Nat} (hk : k ≤ l.length) : LiesP w (some ⟨g, off + k * 2, none⟩) (c - k) (l.drop k) := by
  refine ⟨by rw [List.length_drop]; have := h.1; omega, by have := h.2.1; omega, fun h => (by cases h), fun i x hx => ?_⟩
  rw [List.getElem?_drop] at hx
  obtain ⟨g', off', e, h1, h2⟩ := h.2.2.2 _ x hx
  cases e
  exact ⟨g, off + k * 2, rfl, by rw [show off + k * 2 + i * 2 = off + (k + i) * 2 by omega]; exact h1, by rw [show off + k * 2 + i * 2 + 1 = off + (k + i) * 2 + 1 by omega]; exact h2⟩
theorem LiesP.cut2 {w : World} {g off c : Nat} {l : List Pk} (h : LiesP w (some ⟨g, off, none⟩) c l) {k : Nat} (hk : k ≤ l.length) : LiesP w (if c = k then some ⟨g, off, none⟩ else some ⟨g, off + k * 2, none⟩) (c - k) (l.drop k) := by
  split
  · rename_i hck
    have h1 := h.1
    have h0 : l.drop k = [] := List.drop_eq_nil_of_le (by omega)
    rw [h0]
    exact ⟨by simp, by have := h.2.1; omega, fun h => (by cases h), fun i x hx => by simp at hx⟩
  · exact h.cut hk
theorem rpack_any (l : List Pk) (ao : Option Addr) (c : Nat) (w : World) (h : LiesP w ao c l) (hN5 : l.length ≤ 100000) : Calls Try.prog 37 #[.slice ao l.length c] w fun e w' => e = .returned (.tuple #[.string ⟨(packS l).toArray⟩, .int .i64 (packE l)]) ∧ Below w.heap.size w w' := by
  have hc := h.1
  have hc2 := h.2.1
  unfold maxLen at hc2
  obtain ⟨N, hN⟩ : ∃ N, l.length = N := ⟨_, rfl⟩
  rw [hN] at hc hN5 ⊢
  replace hN := Lib.hid hN
  go_enter Try.func37, Try.ntmps37
  go_wp2_with fail
  go_loopw [11] (fun i wr => ∃ r : Nat, r ≤ N ∧ i = .int .i64 r ∧ Hid ((l.take r).all fitsP = true) ∧ Below w.heap.size w wr) (fun i _ => (N - intOf i).toNat)
  case atStart => exact ⟨0, by omega, rfl, Lib.hid (by simp), Below.refl _ _⟩
  case round =>
    obtain ⟨r, hr, rfl, hA, hb⟩ := hrel
    by_cases hlt : r < N
    · obtain ⟨⟨x, y⟩, hx⟩ : ∃ x, l[r]? = some x := ⟨_, List.getElem?_eq_getElem (by rw [hN.out]; exact hlt)⟩
      obtain ⟨g, off, rfl, z0, z1⟩ := (h.below hb).get hx
      simp only at z0 z1
      have hO := (Own.nil hb).box #[.int .i64 x, .int .i64 y] 124
      go_upto_region 5 with fail
      generalize wr.alloc (.cells #[.int .i64 x, .int .i64 y] 124) = w1 at *
      generalize wr.heap.size = xb at *
      have y0 : w1.cell? ⟨xb, 0, none⟩ = some (.int .i64 x) := (hO.cget 0 rfl 0).1
      have y1 : w1.cell? ⟨xb, 1, none⟩ = some (.int .i64 y) := (hO.cget 0 rfl 1).1
      have FI := fits_any (x, y) w1
      obtain ⟨t, ht⟩ : ∃ t, fitsP (x, y) = t := ⟨_, rfl⟩
      rw [ht] at FI
      replace FI := Lib.hid FI
      have hA2 : Hid (t = true → (l.take (r + 1)).all fitsP = true) := Lib.hid (fun hq => by
        rw [List.take_add_one, hx]
        simp [hA.out, ht, hq])
      have hA3 : Hid (t = false → l.all fitsP = false) := Lib.hid (fun hq => by
        rw [Bool.eq_false_iff]
        intro hall
        have := List.all_eq_true.1 hall (x, y) (List.mem_of_getElem? hx)
        rw [ht, hq] at this; cases this)
      clear z0 z1 hx ht
      go_wp2_with fail
      go_at_call 68
      refine FI.out.mono ?_
      rintro e w2 ⟨rfl, hb2⟩
      have hb3 := below_chain hO.below hb2
      cases t with
      | true =>
        have hA4 := Lib.hid (hA2.out rfl)
        go_wp2_with fail
        go_round
        case rel => exact ⟨r + 1, by omega, by go_num, hA4, hb3⟩
        case measure => simp [intOf]; omega
      | false =>
        have hR := hA3.out rfl
        have hR1 : Hid (packS l = []) := Lib.hid (by unfold packS; rw [hR]; rfl)
        have hR2 : Hid (packE l = 3) := Lib.hid (by unfold packE; rw [hR]; rfl)
        clear hR hA2 hA3
        go_wp2
        refine bodyPost_ret (v := .tuple #[.string ⟨#[]⟩, .int .i64 3]) (by simp [results, Try.results37, go_sem]) rfl ⟨by rw [hR1.out, hR2.out], hb3⟩
    · obtain rfl : r = N := by omega
      have hall : l.all fitsP = true := by have := hA.out; rwa [← hN.out, List.take_length] at this
      have hR1 : Hid (packS l = encR 0 l) := Lib.hid (by unfold packS; rw [hall]; rfl)
      have hR2 : Hid (packE l = 0) := Lib.hid (by unfold packE; rw [hall]; rfl)
      have hfit : Hid (∀ z ∈ l, fitsP z = true) := Lib.hid (fun z hz => List.all_eq_true.1 hall z hz)
      clear hall hA
      go_wp2_with fail
      go_loopw [4, 7] (fun s v wr => ∃ (S : List UInt8) (L : List Pk) (lo : Option Addr) (lc : Nat), s = .string ⟨S.toArray⟩ ∧ v = .slice lo L.length lc ∧ Hid (S ++ encR 0 L = encR 0 l) ∧ Hid (∀ z ∈ L, fitsP z = true) ∧ Hid (L.length ≤ 100000) ∧ LiesP wr lo lc L ∧ Below w.heap.size w wr) (fun _ v _ => slLen v)
      case atStart => exact ⟨[], l, ao, c, rfl, by rw [hN.out], Lib.hid rfl, hfit, Lib.hid (by rw [hN.out]; exact hN5), h.below hb, hb⟩
      case round =>
      clear hb
      obtain ⟨S, L, lo, lc, rfl, rfl, hS, hf, hL5, hL, hb⟩ := hrel
      have hSl : S.length ≤ 300000 := by
        have h1 := congrArg List.length hS.out
        have h2 := enc_bd 0 l
        rw [List.length_append] at h1
        rw [hN.out] at h2
        omega
      cases L with
      | nil =>
        have hR3 : Hid (packS l = S) := Lib.hid (by rw [hR1.out, ← hS.out]; simp [encR])
        clear hS
        go_wp2
        refine bodyPost_ret (v := .tuple #[.string ⟨S.toArray⟩, .int .i64 0]) (by simp [results, Try.results37, go_sem]) rfl ⟨by rw [hR3.out, hR2.out], hb⟩
      | cons p L =>
        have SM := rsame_any p L lo lc wr hL
        obtain ⟨k1, k2⟩ := sameR_pos 0 p L
        have k3 := sameR_bd 0 p L (by decide)
        have hrun := encR_run 0 p L
        obtain ⟨x, y⟩ := p
        have hxy := hf.out (x, y) (by simp)
        obtain ⟨f1, f2, f3, f4⟩ : 0 ≤ x ∧ x ≤ 255 ∧ 0 ≤ y ∧ y ≤ 255 := by simpa [fitsP] using hxy
        obtain ⟨g, off, rfl, z0, z1⟩ := hL.get (i := 0) (x := (x, y)) rfl
        simp only [Nat.zero_mul, Nat.add_zero] at z0 z1
        obtain ⟨KK, hK⟩ : ∃ KK, sameR 0 ((x, y) :: L) = KK := ⟨_, rfl⟩
        rw [hK] at SM k1 k2 k3 hrun
        have hcut := hL.cut2 (k := KK) k2
        have hf2 : Hid (∀ z ∈ ((x, y) :: L).drop KK, fitsP z = true) := Lib.hid (fun z hz => hf.out z (List.mem_of_mem_drop hz))
        have hS2 : Hid ((S ++ trip (x, y) (KK - 1)) ++ encR 0 (((x, y) :: L).drop KK) = encR 0 l) := Lib.hid (by
          rw [← hS.out, hrun, List.append_assoc, Nat.zero_add])
        have hL6 : Hid ((((x, y) :: L).drop KK).length ≤ 100000) := Lib.hid (by rw [List.length_drop]; have := hL5.out; omega)
        have hlen : (((x, y) :: L).drop KK).length = ((x, y) :: L).length - KK := List.length_drop
        have hlcs := hL.1
        obtain ⟨M, hM⟩ : ∃ M, ((x, y) :: L).length = M := ⟨_, rfl⟩
        rw [hM] at SM k2 hlen hlcs ⊢
        have PA := Lib.hid (fun w => put1 S x f1 f2 (by omega) w)
        have PB := Lib.hid (fun w => put1 (S ++ [UInt8.ofNat x.toNat]) y f3 f4 (by rw [List.length_append]; simp; omega) w)
        have PC := fun w => put1 (S ++ [UInt8.ofNat x.toNat] ++ [UInt8.ofNat y.toNat]) ((KK : Int) - 1) (by omega) (by omega) (by rw [List.length_append, List.length_append]; simp; omega) w
        rw [show S ++ [UInt8.ofNat x.toNat] ++ [UInt8.ofNat y.toNat] ++ [UInt8.ofNat ((KK : Int) - 1).toNat] = S ++ trip (x, y) (KK - 1) by simp [trip]] at PC
        replace PC := Lib.hid PC
        generalize S ++ trip (x, y) (KK - 1) = S3 at *
        generalize S ++ [UInt8.ofNat x.toNat] ++ [UInt8.ofNat y.toNat] = S2 at *
        generalize S ++ [UInt8.ofNat x.toNat] = S1 at *
        generalize ((x, y) :: L).drop KK = L2 at *
        have KS := Lib.hid (fun (w5 : World) (hb5 : Below wr.heap.size wr w5) => show (fun w' : World => w'.cell? ⟨g, off, none⟩ = some (.int .i64 x) ∧ w'.cell? ⟨g, off + 1, none⟩ = some (.int .i64 y)) w5 from ⟨by rw [cell_old hb5 _ (by rw [z0]; rfl)]; exact z0, by rw [cell_old hb5 _ (by rw [z1]; rfl)]; exact z1⟩)
        have e1 : IntKind.i64.wrap ((KK : Int) - 1) = (KK : Int) - 1 := IntWalk.i64_in _ (by omega)
        have hM1 : (0 : Int) < (M : Int) := by omega
        have hM0 : 0 < M := by omega
        clear hrun hxy hK hM hf hS hL5 k3 f1 f2 f3 f4
        go_wp2_with fail
        go_at_call 69
        refine SM.mono ?_
        rintro e w4 ⟨rfl, hb4⟩
        clear SM
        have hb3 : Below wr.heap.size wr w4.drew := below_drewN' hb4 1
        have hS0 := KS.out _ hb3
        go_wp2_with fail
        refine lin_start (S := (fun w' : World => w'.cell? ⟨g, off, none⟩ = some (.int .i64 x) ∧ w'.cell? ⟨g, off + 1, none⟩ = some (.int .i64 y))) rfl 15 rfl hS0 ?_
        simp only [numbered, Nat.zero_add, Nat.reduceAdd]
        refine lin_take (v := ?_) (by kernel_rfl) (by kernel_rfl) (fun _ _ _ h => h) (Or.inl ⟨by rfl, ?_⟩) (by assumption) ?_; (rotate_left; (intro wS hSw; (try dsimp only at hSw); go_simp; (try with_reducible rfl)); rotate_left); simp only [Act.put, List.setIfInBounds_toArray, List.set_cons_zero, List.set_cons_succ]
        refine lin_take (v := ?_) (by kernel_rfl) (by kernel_rfl) (fun _ _ _ h => h) (Or.inl ⟨by rfl, ?_⟩) (by assumption) ?_; (rotate_left; (intro wS hSw; (try dsimp only at hSw); go_simp; (try with_reducible rfl)); rotate_left); simp only [Act.put, List.setIfInBounds_toArray, List.set_cons_zero, List.set_cons_succ]
        refine lin_take (v := ?_) (by kernel_rfl) (by kernel_rfl) (fun _ _ _ h => h) (Or.inl ⟨by rfl, ?_⟩) (by assumption) ?_; (rotate_left; (intro wS hSw; (try dsimp only at hSw); go_simp; (try with_reducible rfl)); rotate_left); simp only [Act.put, List.setIfInBounds_toArray, List.set_cons_zero, List.set_cons_succ]
        refine lin_take (v := ?_) (by kernel_rfl) (by kernel_rfl) (fun _ _ _ h => h) (Or.inl ⟨by rfl, ?_⟩) (by assumption) ?_; (rotate_left; (intro wS hSw; (try dsimp only at hSw); go_simp; (try with_reducible rfl)); rotate_left); simp only [Act.put, List.setIfInBounds_toArray, List.set_cons_zero, List.set_cons_succ]
        refine lin_take (v := ?_) (by kernel_rfl) (by kernel_rfl) (fun _ _ _ h => h) (Or.inl ⟨by rfl, ?_⟩) (by assumption) ?_; (rotate_left; (intro wS hSw; (try dsimp only at hSw); go_simp; (try with_reducible rfl)); rotate_left); simp only [Act.put, List.setIfInBounds_toArray, List.set_cons_zero, List.set_cons_succ]
        refine lin_rot ?_; simp only [List.cons_append, List.nil_append]
        refine lin_take (v := ?_) (by kernel_rfl) (by kernel_rfl) (fun _ _ _ h => h) (Or.inl ⟨by rfl, ?_⟩) (by assumption) ?_; (rotate_left; (intro wS hSw; (try dsimp only at hSw); go_simp; (try with_reducible rfl)); rotate_left); simp only [Act.put, List.setIfInBounds_toArray, List.set_cons_zero, List.set_cons_succ]
        refine lin_take (v := ?_) (by kernel_rfl) (by kernel_rfl) (fun _ _ _ h => h) (Or.inl ⟨by rfl, ?_⟩) (by assumption) ?_; (rotate_left; (intro wS hSw; (try dsimp only at hSw); go_simp; (try with_reducible rfl)); rotate_left); simp only [Act.put, List.setIfInBounds_toArray, List.set_cons_zero, List.set_cons_succ]
        refine lin_take (v := ?_) (by kernel_rfl) (by kernel_rfl) (fun _ _ _ h => h) (Or.inl ⟨by rfl, ?_⟩) (by assumption) ?_; (rotate_left; (intro wS hSw; (try dsimp only at hSw); go_simp; (try with_reducible rfl)); rotate_left); simp only [Act.put, List.setIfInBounds_toArray, List.set_cons_zero, List.set_cons_succ]
        refine lin_take (v := ?_) (by kernel_rfl) (by kernel_rfl) (fun _ _ _ h => h) (Or.inl ⟨by rfl, ?_⟩) (by assumption) ?_; (rotate_left; (intro wS hSw; (try dsimp only at hSw); go_simp; (try with_reducible rfl)); rotate_left); simp only [Act.put, List.setIfInBounds_toArray, List.set_cons_zero, List.set_cons_succ]
        refine lin_rot ?_; simp only [List.cons_append, List.nil_append]
        refine lin_take (v := ?_) (by kernel_rfl) (by kernel_rfl) (fun _ _ _ h => h) (Or.inl ⟨by rfl, ?_⟩) (by assumption) ?_; (rotate_left; (intro wS hSw; (try dsimp only at hSw); go_simp; (try with_reducible rfl)); rotate_left); simp only [Act.put, List.setIfInBounds_toArray, List.set_cons_zero, List.set_cons_succ]
        refine lin_take (v := ?_) (by kernel_rfl) (by kernel_rfl) (fun _ _ _ h => h) (Or.inl ⟨by rfl, ?_⟩) (by assumption) ?_; (rotate_left; (intro wS hSw; (try dsimp only at hSw); go_simp; (try with_reducible rfl)); rotate_left); simp only [Act.put, List.setIfInBounds_toArray, List.set_cons_zero, List.set_cons_succ]
        refine lin_rot ?_; simp only [List.cons_append, List.nil_append]
        refine lin_rot ?_; simp only [List.cons_append, List.nil_append]
        refine lin_sole (by kernel_rfl) (fun K hK => ?_)
        go_simp
        refine (PA.out _).mono ?_
        rintro e w5 ⟨rfl, q1⟩
        have hb4 := below_chain hb3 q1
        refine hK.out _ _ ?_ (fun hHeld => ?_)
        · exact KS.out _ hb4
        try simp only [Act.put, List.setIfInBounds_toArray, List.set_cons_zero, List.set_cons_succ]
        refine lin_sole (by kernel_rfl) (fun K hK => ?_)
        go_simp
        refine (PB.out _).mono ?_
        rintro e w6 ⟨rfl, q2⟩
        have hb5 := below_chain hb4 q2
        refine hK.out _ _ ?_ (fun hHeld => ?_)
        · exact KS.out _ hb5
        try simp only [Act.put, List.setIfInBounds_toArray, List.set_cons_zero, List.set_cons_succ]
        refine lin_sole (by kernel_rfl) (fun K hK => ?_)
        go_simp
        refine (PC.out _).mono ?_
        rintro e w7 ⟨rfl, q3⟩
        have hb6 := below_chain hb5 q3
        refine hK.out _ _ ?_ (fun hHeld => ?_)
        · exact KS.out _ hb6
        try simp only [Act.put, List.setIfInBounds_toArray, List.set_cons_zero, List.set_cons_succ]
        refine lin_take (v := ?_) (by kernel_rfl) (by kernel_rfl) (fun _ _ _ h => h) (Or.inl ⟨by rfl, ?_⟩) (by assumption) ?_; (rotate_left; (intro wS hSw; (try dsimp only at hSw); go_simp; (try with_reducible rfl)); rotate_left); simp only [Act.put, List.setIfInBounds_toArray, List.set_cons_zero, List.set_cons_succ]
        refine lin_done (by kernel_rfl) ?_
        have e2 : (KK : Int) ≤ (M : Int) := by omega
        have e3 : (M : Int) ≤ (lc : Int) := by omega
        go_wp2_with fail
        go_round
        case rel => exact ⟨S3, L2, _, _, rfl, by rw [hlen], hS2, hf2, hL6, hcut.below hb6, below_chain hb hb6⟩
        case measure => simp [slLen]; omega
end Go.Proofs.Ytcegncbnanbenaa
