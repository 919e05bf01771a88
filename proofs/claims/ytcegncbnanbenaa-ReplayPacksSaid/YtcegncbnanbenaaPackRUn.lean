/- forebayref43.Unpack. -/
import Derived.Test.YtcegncbnanbenaaPackUn
set_option linter.unusedVariables false
set_option linter.unusedSimpArgs false
namespace Go.Proofs.Ytcegncbnanbenaa
open Go.RowKit
set_option maxRecDepth 100000
set_option maxHeartbeats 8000000
theorem byte_at {s : List UInt8} {i : Nat} {x : UInt8} (h : s[i]? = some x) : ∀ h : i < (⟨s.toArray⟩ : ByteArray).size, ((⟨s.toArray⟩ : ByteArray)[i]'h).toNat = x.toNat := by
  intro h'
  have h2 : i < s.length := (List.getElem?_eq_some_iff.1 h).1
  have : (⟨s.toArray⟩ : ByteArray)[i]'h' = s[i] := rfl
  rw [this]
  rw [List.getElem?_eq_getElem h2] at h
  simp at h
  rw [h]
theorem byte_size {s : List UInt8} {i : Nat} (h : i < s.length) : i < (⟨s.toArray⟩ : ByteArray).size := by show i < s.toArray.size; simp; omega
theorem dec_step {s : List UInt8} {i : Nat} {a b c : UInt8} (h0 : s[i]? = some a) (h1 : s[i + 1]? = some b) (h2 : s[i + 1 + 1]? = some c) : decP (s.drop i) = List.replicate (c.toNat + 1) ((a.toNat : Int), (b.toNat : Int)) ++ decP (s.drop (i + 1 + 1 + 1)) := by
  have g0 := List.getElem?_eq_some_iff.1 h0
  have g1 := List.getElem?_eq_some_iff.1 h1
  have g2 := List.getElem?_eq_some_iff.1 h2
  rw [List.drop_eq_getElem_cons g0.1, g0.2, List.drop_eq_getElem_cons g1.1, g1.2, List.drop_eq_getElem_cons g2.1, g2.2, decP]
theorem run_any (s : List UInt8) (w : World) (hs : s.length ≤ 10000) : Calls Try.prog 41 #[.string ⟨s.toArray⟩] w fun e w' => ∃ ao c, e = .returned (.tuple #[.slice ao (unP s).length c, .int .i64 (unE s)]) ∧ LiesP w' ao c (unP s) ∧ Below w.heap.size w w' := by
  by_cases h3 : s.length % 3 = 0
  rotate_left
  · have b1 : ((s.length : Int) % 3 != 0) = true := by rw [bne_iff_ne]; omega
    have hU : unP s = [] := by unfold unP; rw [if_neg h3]
    have hE : unE s = 1 := by unfold unE; rw [if_neg h3]
    rw [hU, hE]
    go_enter Try.func41, Try.ntmps41
    go_wp2
    refine bodyPost_ret (v := .tuple #[.slice none 0 0, .int .i64 1]) (by simp [results, Try.results41, go_sem]) rfl ⟨none, 0, rfl, ⟨by simp, by simp [maxLen], by simp, by simp⟩, Below.refl _ _⟩
  have b1 : ((s.length : Int) % 3 != 0) = false := by rw [bne_eq_false_iff_eq]; omega
  have hU : unP s = decP s := by unfold unP; rw [if_pos h3]
  have hE : unE s = 0 := by unfold unE; rw [if_pos h3]
  rw [hU, hE]
  obtain ⟨i1, hi1, hw0, hw1', hw2'⟩ := info_parts' Try.infoPick
  obtain ⟨M, hM⟩ : ∃ M, s.length = M := ⟨_, rfl⟩
  obtain ⟨D, hD⟩ : ∃ D, decP s = D := ⟨_, rfl⟩
  have h3' : Hid (M % 3 = 0) := Lib.hid (by rw [← hM]; exact h3)
  rw [hM] at b1 hs
  clear hU hE h3
  rw [hD]
  replace hD := Lib.hid hD
  replace hM := hM
  have hO1 : Own w w [rowA 124 2 (.slice none 0 0) 0 (pksC [])] := (Own.nil (Below.refl _ w)).push (Below.refl _ _) (rowA 124 2 (.slice none 0 0) 0 []) (Row.nil _ _ _) (by simp [rowA, Value.ownBlock])
  go_enter Try.func41, Try.ntmps41
  go_wp2_with fail
  go_loopw [4, 5] (fun v iv wr => ∃ (i : Nat) (L : List Pk) (lo : Option Addr) (lc n : Nat), v = .slice lo n lc ∧ iv = .int .i64 i ∧ i ≤ M ∧ Hid (n = L.length) ∧ Hid (i % 3 = 0) ∧ Hid (n ≤ 256 * i) ∧ Hid (D = L ++ decP (s.drop i)) ∧ Own w wr [rowA 124 2 (.slice lo n lc) n (pksC L)]) (fun _ iv _ => (M - intOf iv).toNat)
  case atStart => exact ⟨0, [], none, 0, 0, rfl, rfl, by omega, Lib.hid rfl, Lib.hid rfl, Lib.hid (by omega), Lib.hid (by simp [hD.out]), hO1⟩
  case round =>
    clear hO1
    obtain ⟨i, L, lo, lc, n, rfl, rfl, hi, hn, hi3, hnM, hDL, hO⟩ := hrel
    by_cases hlt : i < M
    rotate_left
    · obtain rfl : i = M := by omega
      have hDL2 : Hid (D = L) := Lib.hid (by rw [hDL.out, List.drop_eq_nil_of_le (by omega)]; simp [decP])
      clear hDL
      go_wp2
      refine bodyPost_ret (v := .tuple #[.slice lo n lc, .int .i64 0]) (by simp [results, Try.results41, go_sem]) rfl ⟨lo, lc, by rw [hDL2.out, ← hn.out], by rw [hDL2.out]; exact (hO.row 0 rfl).liesP hn.out, hO.below⟩
    have hi4 : i + 3 ≤ M := by have := hi3.out; have := h3'.out; omega
    obtain ⟨a, ha⟩ : ∃ a, s[i]? = some a := ⟨_, List.getElem?_eq_getElem (by omega)⟩
    obtain ⟨b, hb⟩ : ∃ a, s[i + 1]? = some a := ⟨_, List.getElem?_eq_getElem (by omega)⟩
    obtain ⟨c, hc⟩ : ∃ a, s[i + 1 + 1]? = some a := ⟨_, List.getElem?_eq_getElem (by omega)⟩
    have hDL2 := hDL.out
    rw [dec_step ha hb hc, ← List.append_assoc] at hDL2
    have q0 := byte_at ha
    have q1 := byte_at hb
    have q2 := byte_at hc
    have s0 := byte_size (s := s) (i := i) (by omega)
    have s1 := byte_size (s := s) (i := i + 1) (by omega)
    have s2 := byte_size (s := s) (i := i + 1 + 1) (by omega)
    have lc' := c.toNat_lt
    have la := a.toNat_lt
    have lb := b.toNat_lt
    obtain ⟨C, hC⟩ : ∃ C, c.toNat = C := ⟨_, rfl⟩
    obtain ⟨A, hA⟩ : ∃ C, a.toNat = C := ⟨_, rfl⟩
    obtain ⟨B, hB⟩ : ∃ C, b.toNat = C := ⟨_, rfl⟩
    rw [hC] at hDL2 q2 lc'
    rw [hA] at hDL2 q0 la
    rw [hB] at hDL2 q1 lb
    clear hC hA hB hDL ha hb hc
    obtain ⟨j1, hj1⟩ : ∃ j, i + 1 = j := ⟨_, rfl⟩
    obtain ⟨j2, hj2⟩ : ∃ j, i + 1 + 1 = j := ⟨_, rfl⟩
    obtain ⟨j3, hj3⟩ : ∃ j, i + 1 + 1 + 1 = j := ⟨_, rfl⟩
    rw [hj1] at q1 s1
    rw [hj2] at q2 s2
    rw [hj3] at hDL2
    have e1 : IntKind.i64.wrap ((i : Int) + 1) = (j1 : Int) := by rw [← hj1]; exact IntWalk.i64_in _ (by omega)
    have e2 : IntKind.i64.wrap ((i : Int) + 2) = (j2 : Int) := by rw [show (j2 : Int) = (i : Int) + 2 by omega]; exact IntWalk.i64_in _ (by omega)
    have e3 : IntKind.i64.wrap ((i : Int) + 3) = (j3 : Int) := by rw [show (j3 : Int) = (i : Int) + 3 by omega]; exact IntWalk.i64_in _ (by omega)
    have w0 : IntKind.i64.wrap (A : Int) = (A : Int) := IntWalk.i64_in _ (by omega)
    have w1 : IntKind.i64.wrap (B : Int) = (B : Int) := IntWalk.i64_in _ (by omega)
    have w2 : IntKind.i64.wrap (C : Int) = (C : Int) := IntWalk.i64_in _ (by omega)
    have hj1M : j1 < M := by omega
    have hj1I : (j1 : Int) < (M : Int) := by omega
    have hltI : (i : Int) < (M : Int) := by omega
    have hsz : (⟨s.toArray⟩ : ByteArray).size = M := by show s.toArray.size = _; simp; omega
    replace hDL2 := Lib.hid hDL2
    go_wp2_with fail
    go_loopw [4, 6] (fun v iv wr => ∃ (q n2 : Nat) (lo : Option Addr) (lc : Nat), q ≤ C + 1 ∧ iv = .int .i64 q ∧ v = .slice lo n2 lc ∧ Hid (n2 = n + q) ∧ Own w wr [rowA 124 2 (.slice lo n2 lc) n2 (pksC (L ++ List.replicate q ((A : Int), (B : Int))))]) (fun _ iv _ => (C + 1 - intOf iv).toNat)
    case atStart => exact ⟨0, n, lo, lc, by omega, rfl, rfl, Lib.hid rfl, by simpa using hO⟩
    case round =>
      clear hO
      obtain ⟨q, n2, lo, lc, hq, rfl, rfl, hn2, hO⟩ := hrel
      have hn2l : n2 ≤ 3000000 := by have := hn2.out; have := hnM.out; omega
      by_cases hqC : q ≤ C
      · have hOd : Own w wr.drew [rowA 124 2 (.slice lo n2 lc) n2 (pksC (L ++ List.replicate q ((A : Int), (B : Int))))] := hO.drewN 1
        have hrow := hOd.row 0 rfl
        have e5 : (q : Int) ≤ (C : Int) := by omega
        obtain ⟨LL, hLL⟩ : ∃ LL, L ++ List.replicate q ((A : Int), (B : Int)) = LL := ⟨_, rfl⟩
        have hLn : L ++ List.replicate (q + 1) ((A : Int), (B : Int)) = LL ++ [((A : Int), (B : Int))] := by rw [rep_next, hLL]
        rw [hLL] at hrow hOd
        go_wp2_with fail
        refine lin_start (S := (fun w' : World => True)) rfl 14 rfl trivial ?_
        simp only [numbered, Nat.zero_add, Nat.reduceAdd]
        refine lin_take (v := ?_) (by kernel_rfl) (by kernel_rfl) (fun _ _ _ h => h) (Or.inl ⟨by rfl, ?_⟩) trivial ?_; (rotate_left; (intro wS hSw; (try dsimp only at hSw); go_simp; (try with_reducible rfl)); rotate_left); simp only [Act.put, List.setIfInBounds_toArray, List.set_cons_zero, List.set_cons_succ]
        refine lin_take (v := ?_) (by kernel_rfl) (by kernel_rfl) (fun _ _ _ h => h) (Or.inl ⟨by rfl, ?_⟩) trivial ?_; (rotate_left; (intro wS hSw; (try dsimp only at hSw); go_simp; (try with_reducible rfl)); rotate_left); simp only [Act.put, List.setIfInBounds_toArray, List.set_cons_zero, List.set_cons_succ]
        refine lin_take (v := ?_) (by kernel_rfl) (by kernel_rfl) (fun _ _ _ h => h) (Or.inl ⟨by rfl, ?_⟩) trivial ?_; (rotate_left; (intro wS hSw; (try dsimp only at hSw); go_simp; (try with_reducible rfl)); rotate_left); simp only [Act.put, List.setIfInBounds_toArray, List.set_cons_zero, List.set_cons_succ]
        refine lin_take (v := ?_) (by kernel_rfl) (by kernel_rfl) (fun _ _ _ h => h) (Or.inl ⟨by rfl, ?_⟩) trivial ?_; (rotate_left; (intro wS hSw; (try dsimp only at hSw); go_simp; (try with_reducible rfl)); rotate_left); simp only [Act.put, List.setIfInBounds_toArray, List.set_cons_zero, List.set_cons_succ]
        refine lin_take (v := ?_) (by kernel_rfl) (by kernel_rfl) (fun _ _ _ h => h) (Or.inl ⟨by rfl, ?_⟩) trivial ?_; (rotate_left; (intro wS hSw; (try dsimp only at hSw); go_simp; (try with_reducible rfl)); rotate_left); simp only [Act.put, List.setIfInBounds_toArray, List.set_cons_zero, List.set_cons_succ]
        refine lin_take (v := ?_) (by kernel_rfl) (by kernel_rfl) (fun _ _ _ h => h) (Or.inl ⟨by rfl, ?_⟩) trivial ?_; (rotate_left; (intro wS hSw; (try dsimp only at hSw); go_simp; (try with_reducible rfl)); rotate_left); simp only [Act.put, List.setIfInBounds_toArray, List.set_cons_zero, List.set_cons_succ]
        refine lin_take (v := ?_) (by kernel_rfl) (by kernel_rfl) (fun _ _ _ h => h) (Or.inl ⟨by rfl, ?_⟩) trivial ?_; (rotate_left; (intro wS hSw; (try dsimp only at hSw); go_simp; (try with_reducible rfl)); rotate_left); simp only [Act.put, List.setIfInBounds_toArray, List.set_cons_zero, List.set_cons_succ]
        refine lin_take (v := ?_) (by kernel_rfl) (by kernel_rfl) (fun _ _ _ h => h) (Or.inl ⟨by rfl, ?_⟩) trivial ?_; (rotate_left; (intro wS hSw; (try dsimp only at hSw); go_simp; (try with_reducible rfl)); rotate_left); simp only [Act.put, List.setIfInBounds_toArray, List.set_cons_zero, List.set_cons_succ]
        refine lin_take (v := ?_) (by kernel_rfl) (by kernel_rfl) (fun _ _ _ h => h) (Or.inl ⟨by rfl, ?_⟩) trivial ?_; (rotate_left; (intro wS hSw; (try dsimp only at hSw); go_simp; (try with_reducible rfl)); rotate_left); simp only [Act.put, List.setIfInBounds_toArray, List.set_cons_zero, List.set_cons_succ]
        refine lin_take (v := ?_) (by kernel_rfl) (by kernel_rfl) (fun _ _ _ h => h) (Or.inl ⟨by rfl, ?_⟩) trivial ?_; (rotate_left; (intro wS hSw; (try dsimp only at hSw); go_simp; (try with_reducible rfl)); rotate_left); simp only [Act.put, List.setIfInBounds_toArray, List.set_cons_zero, List.set_cons_succ]
        refine lin_take (v := ?_) (by kernel_rfl) (by kernel_rfl) (fun _ _ _ h => h) (Or.inl ⟨by rfl, ?_⟩) trivial ?_; (rotate_left; (intro wS hSw; (try dsimp only at hSw); go_simp; (try with_reducible rfl)); rotate_left); simp only [Act.put, List.setIfInBounds_toArray, List.set_cons_zero, List.set_cons_succ]
        refine lin_sole (by kernel_rfl) (fun K hK => ?_)
        go_simp
        refine hK.out _ _ trivial (fun hHeld => ?_)
        try simp only [Act.put, List.setIfInBounds_toArray, List.set_cons_zero, List.set_cons_succ]
        refine lin_law (by kernel_rfl) rfl ?_
        refine wpList_append_lit' wr.drew (by rfl) (.tmp 26) (.tmp 37) 85 (by rfl) 124 i1 (.agg #[.int .i64 0, .int .i64 0]) 2 16 Try.underlying85 hi1 hw0 hw1' hw2' rfl (by decide) (.slice lo n2 lc) n2 (pksC LL) (by rfl) hrow #[.int .i64 A, .int .i64 B] 124 1 wr.heap.size (by rfl) (by rfl) rfl (by simp [Value.oneCell']) (by unfold maxLen; omega) (by omega) ?_
        intro ao2 cap2 wz hr2 ht2 hf2
        refine wpList_nil ⟨rfl, trivial, fun hHeld => ?_⟩
        try simp only [Act.put, List.setIfInBounds_toArray, List.set_cons_zero, List.set_cons_succ]
        refine lin_take (v := ?_) (by kernel_rfl) (by kernel_rfl) (fun _ _ _ h => h) (Or.inl ⟨by rfl, ?_⟩) trivial ?_; (rotate_left; (intro wS hSw; (try dsimp only at hSw); go_simp; (try with_reducible rfl)); rotate_left); simp only [Act.put, List.setIfInBounds_toArray, List.set_cons_zero, List.set_cons_succ]
        refine lin_done (by kernel_rfl) ?_
        have hO2 := hOd.move 0 rfl (Moves.of_append hr2 ht2 hf2)
        have hO3 : Own w wz [rowA 124 2 (.slice ao2 (n2 + 1) cap2) (n2 + 1) (pksC (L ++ List.replicate (q + 1) ((A : Int), (B : Int))))] := by
          rw [hLn, pksC_app]; exact hO2
        go_wp2_with fail
        go_roundw
        case rel => exact ⟨q + 1, n2 + 1, ao2, cap2, by omega, by go_num, rfl, Lib.hid (by have := hn2.out; omega), hO3⟩
        case measure => simp [intOf]; omega
      · obtain rfl : q = C + 1 := by omega
        have e5 : ¬ ((C + 1 : Nat) : Int) ≤ (C : Int) := by omega
        go_wp2_with fail
        go_round
        case rel => exact ⟨j3, L ++ List.replicate (C + 1) ((A : Int), (B : Int)), lo, lc, n2, rfl, rfl, by omega, Lib.hid (by rw [List.length_append, List.length_replicate, ← hn.out]; exact hn2.out), Lib.hid (by have := hi3.out; omega), Lib.hid (by have := hn2.out; have := hnM.out; omega), hDL2, hO⟩
        case measure => simp [intOf]; omega
end Go.Proofs.Ytcegncbnanbenaa
