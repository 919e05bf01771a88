/- The walk through the law InsNames. -/
import Derived.Test.YtboiogjklecpaaaWorks03
import Derived.Test.YtboiogjklecpaaaInsRef2
import Derived.Test.YtboiogjklecpaaaArgs
set_option linter.unusedVariables false
set_option linter.unusedSimpArgs false
namespace Go.Proofs.Ytboiogjklecpaaa
open Go.RowKit
set_option maxRecDepth 100000
set_option maxHeartbeats 8000000
theorem names_any (w : World) : Calls Try.prog 16 #[] w fun e w' => ∃ b : Nat, e = .returned (.slice (some ⟨b, 0, none⟩) 26 26) ∧ (∀ k : Nat, k < 26 → w'.cell? ⟨b, k, none⟩ = some (.string ⟨(nameL (k : Int)).toArray⟩)) ∧ Below w.heap.size w w' := by
  go_enter Try.func16, Try.ntmps16
  go_wp2
  go_ret
  refine ⟨_, rfl, fun k hk => ?_, by go_grown⟩
  rw [cell_alloc_at]
  rcases (show k = 0 ∨ k = 1 ∨ k = 2 ∨ k = 3 ∨ k = 4 ∨ k = 5 ∨ k = 6 ∨ k = 7 ∨ k = 8 ∨ k = 9 ∨ k = 10 ∨ k = 11 ∨ k = 12 ∨ k = 13 ∨ k = 14 ∨ k = 15 ∨ k = 16 ∨ k = 17 ∨ k = 18 ∨ k = 19 ∨ k = 20 ∨ k = 21 ∨ k = 22 ∨ k = 23 ∨ k = 24 ∨ k = 25 by omega) with rfl | rfl | rfl | rfl | rfl | rfl | rfl | rfl | rfl | rfl | rfl | rfl | rfl | rfl | rfl | rfl | rfl | rfl | rfl | rfl | rfl | rfl | rfl | rfl | rfl | rfl <;> rfl
/-- The last operation of a name below k. -/
def lastN (s : List UInt8) : Nat → Option Nat
  | 0 => none
  | k + 1 => if nameL (k : Int) = s then some k else lastN s k
theorem ofN_none (s : List UInt8) : ∀ n k : Nat, (∀ j : Nat, k ≤ j → j < k + n → nameL (j : Int) ≠ s) → ofN s n k = none
  | 0, k, _ => rfl
  | n + 1, k, h => by
    unfold ofN
    rw [if_neg (h k (by omega) (by omega))]
    exact ofN_none s n (k + 1) (fun j h1 h2 => h j (by omega) (by omega))
theorem lastN_none (s : List UInt8) : ∀ k : Nat, (∀ j : Nat, j < k → nameL (j : Int) ≠ s) → lastN s k = none
  | 0, _ => rfl
  | k + 1, h => by
    unfold lastN
    rw [if_neg (h k (by omega))]
    exact lastN_none s k (fun j hj => h j (by omega))
theorem last_first (s : List UInt8) : lastN s 26 = ofN s 26 0 := by
  by_cases h : ∃ j : Nat, j < 26 ∧ nameL (j : Int) = s
  · obtain ⟨j, hj, rfl⟩ := h
    rcases (show j = 0 ∨ j = 1 ∨ j = 2 ∨ j = 3 ∨ j = 4 ∨ j = 5 ∨ j = 6 ∨ j = 7 ∨ j = 8 ∨ j = 9 ∨ j = 10 ∨ j = 11 ∨ j = 12 ∨ j = 13 ∨ j = 14 ∨ j = 15 ∨ j = 16 ∨ j = 17 ∨ j = 18 ∨ j = 19 ∨ j = 20 ∨ j = 21 ∨ j = 22 ∨ j = 23 ∨ j = 24 ∨ j = 25 by omega) with rfl | rfl | rfl | rfl | rfl | rfl | rfl | rfl | rfl | rfl | rfl | rfl | rfl | rfl | rfl | rfl | rfl | rfl | rfl | rfl | rfl | rfl | rfl | rfl | rfl | rfl <;> decide
  · have h' : ∀ j : Nat, j < 26 → nameL (j : Int) ≠ s := fun j hj he => h ⟨j, hj, he⟩
    rw [lastN_none s 26 h', ofN_none s 26 0 (fun j _ hj => h' j (by omega))]
theorem name_none (op : Int) : (nameL op == []) = !decide (0 ≤ op ∧ op ≤ 25) := by
  by_cases h : 0 ≤ op ∧ op ≤ 25
  · rw [decide_eq_true h]
    obtain ⟨k, rfl⟩ : ∃ k : Nat, op = k := ⟨op.toNat, by omega⟩
    rcases (show k = 0 ∨ k = 1 ∨ k = 2 ∨ k = 3 ∨ k = 4 ∨ k = 5 ∨ k = 6 ∨ k = 7 ∨ k = 8 ∨ k = 9 ∨ k = 10 ∨ k = 11 ∨ k = 12 ∨ k = 13 ∨ k = 14 ∨ k = 15 ∨ k = 16 ∨ k = 17 ∨ k = 18 ∨ k = 19 ∨ k = 20 ∨ k = 21 ∨ k = 22 ∨ k = 23 ∨ k = 24 ∨ k = 25 by omega) with rfl | rfl | rfl | rfl | rfl | rfl | rfl | rfl | rfl | rfl | rfl | rfl | rfl | rfl | rfl | rfl | rfl | rfl | rfl | rfl | rfl | rfl | rfl | rfl | rfl | rfl <;> rfl
  · rw [decide_eq_false h]
    unfold nameL
    rw [if_neg h]
    rfl
theorem inames_core (op : Int) (s : List UInt8) (hs : s.length ≤ maxLen) (w : World) :
    Calls Try.prog 3 #[.int .i64 op, .string ⟨s.toArray⟩] w fun e w' => e = .returned (.bool true) ∧ Below w.heap.size w w' := by
  have NM := Lib.hid (fun k w => name_any k w)
  have FM := Lib.hid (fun k w => form_any k w)
  have RM := Lib.hid (fun k w => rform_any k w)
  have OF := Lib.hid (fun w => of_core s hs w)
  go_enter Try.func3, Try.ntmps3
  go_wp2_with (go_at_call 15; refine (works03_any _).mono ?_; rintro e w1 ⟨rfl, hb1⟩)
  go_at_call 16
  refine (names_any _).mono ?_
  rintro e w2 ⟨b, rfl, hc, hb2⟩
  have hb := below_chain hb1 hb2
  clear hb1 hb2
  replace hc := Lib.hid hc
  go_wp2_with fail
  go_loopw [5, 6, 8] (fun av iv kv wr => ∃ k : Nat, k ≤ 26 ∧ kv = .int .i64 k ∧ av = .int .i64 ((lastN s k).getD 0 : Nat) ∧ iv = .bool (lastN s k).isSome ∧ Below w.heap.size w wr ∧ Below w2.heap.size w2 wr) (fun _ _ kv _ => (26 - intOf kv).toNat)
  case atStart => exact ⟨0, by omega, rfl, rfl, rfl, hb, Below.refl _ _⟩
  case round =>
    clear hb
    obtain ⟨k, hk, rfl, rfl, rfl, hb, hbw⟩ := hrel
    by_cases hlt : k < 26
    · have x0 := hc.out k hlt
      have x1 := (hbw.cell (World.block_lt_of_cell? _ _ x0)).trans x0
      have hz : ∃ A B, lastN s (k + 1) = B ∧ (lastN s k) = A ∧ ((nameL (k : Int) = s ∧ B = some k) ∨ (nameL (k : Int) ≠ s ∧ B = A)) := by
        refine ⟨_, _, rfl, rfl, ?_⟩
        by_cases h : nameL (k : Int) = s
        · exact .inl ⟨h, by simp [lastN, h]⟩
        · exact .inr ⟨h, by simp [lastN, h]⟩
      obtain ⟨A, B, hB, hA, hcase⟩ := hz
      rw [hA]
      replace hB := Lib.hid hB
      clear hA x0
      have N0 := fun w => NM.out (k : Int) w
      have F0 := fun w => FM.out (k : Int) w
      have R0 := fun w => RM.out (k : Int) w
      generalize nameL (k : Int) = nm at *
      generalize formL (k : Int) = fm at *
      replace N0 := Lib.hid N0
      replace F0 := Lib.hid F0
      replace R0 := Lib.hid R0
      have hS0 := (show (fun w' : World => w'.cell? ⟨b, k, none⟩ = some (.string ⟨nm.toArray⟩)) wr.drew from x1)
      rcases hcase with ⟨he, hBk⟩ | ⟨he, hBk⟩
      · have hb1 : (nm == s) = true := by rw [he]; exact beq_self_eq_true _
        go_upto_region 11 with fail
        refine lin_start (S := (fun w' : World => w'.cell? ⟨b, k, none⟩ = some (.string ⟨nm.toArray⟩))) rfl 14 rfl hS0 ?_
        simp only [numbered, Nat.zero_add, Nat.reduceAdd]
        refine lin_take (v := ?_) (by kernel_rfl) (by kernel_rfl) (fun _ _ _ h => h) (Or.inl ⟨by rfl, ?_⟩) (by assumption) ?_; (rotate_left; (intro wS hSw; (try dsimp only at hSw); go_simp; (try with_reducible rfl)); rotate_left); simp only [Act.put, List.setIfInBounds_toArray, List.set_cons_zero, List.set_cons_succ]
        refine lin_rot ?_; simp only [List.cons_append, List.nil_append]
        refine lin_take (v := ?_) (by kernel_rfl) (by kernel_rfl) (fun _ _ _ h => h) (Or.inl ⟨by rfl, ?_⟩) (by assumption) ?_; (rotate_left; (intro wS hSw; (try dsimp only at hSw); go_simp; (try with_reducible rfl)); rotate_left); simp only [Act.put, List.setIfInBounds_toArray, List.set_cons_zero, List.set_cons_succ]
        refine lin_take (v := ?_) (by kernel_rfl) (by kernel_rfl) (fun _ _ _ h => h) (Or.inl ⟨by rfl, ?_⟩) (by assumption) ?_; (rotate_left; (intro wS hSw; (try dsimp only at hSw); go_simp; (try with_reducible rfl)); rotate_left); simp only [Act.put, List.setIfInBounds_toArray, List.set_cons_zero, List.set_cons_succ]
        refine lin_take (v := ?_) (by kernel_rfl) (by kernel_rfl) (fun _ _ _ h => h) (Or.inl ⟨by rfl, ?_⟩) (by assumption) ?_; (rotate_left; (intro wS hSw; (try dsimp only at hSw); go_simp; (try with_reducible rfl)); rotate_left); simp only [Act.put, List.setIfInBounds_toArray, List.set_cons_zero, List.set_cons_succ]
        refine lin_take (v := ?_) (by kernel_rfl) (by kernel_rfl) (fun _ _ _ h => h) (Or.inl ⟨by rfl, ?_⟩) (by assumption) ?_; (rotate_left; (intro wS hSw; (try dsimp only at hSw); go_simp; (try with_reducible rfl)); rotate_left); simp only [Act.put, List.setIfInBounds_toArray, List.set_cons_zero, List.set_cons_succ]
        refine lin_rot ?_; simp only [List.cons_append, List.nil_append]
        refine lin_rot ?_; simp only [List.cons_append, List.nil_append]
        refine lin_rot ?_; simp only [List.cons_append, List.nil_append]
        refine lin_rot ?_; simp only [List.cons_append, List.nil_append]
        refine lin_rot ?_; simp only [List.cons_append, List.nil_append]
        refine lin_rot ?_; simp only [List.cons_append, List.nil_append]
        refine lin_rot ?_; simp only [List.cons_append, List.nil_append]
        refine lin_rot ?_; simp only [List.cons_append, List.nil_append]
        refine lin_sole (by kernel_rfl) (fun K hK => ?_)
        go_simp
        refine (N0.out _).mono ?_; rintro e w2 ⟨rfl, hb2⟩
        have x2 := (hb2.cell (World.block_lt_of_cell? _ _ hS0)).trans hS0
        refine hK.out _ _ x2 (fun hHeld => ?_)
        try simp only [Act.put, List.setIfInBounds_toArray, List.set_cons_zero, List.set_cons_succ]
        refine lin_take (v := ?_) (by kernel_rfl) (by kernel_rfl) (fun _ _ _ h => h) (Or.inl ⟨by rfl, ?_⟩) (by assumption) ?_; (rotate_left; (intro wS hSw; (try dsimp only at hSw); go_simp; (try with_reducible rfl)); rotate_left); simp only [Act.put, List.setIfInBounds_toArray, List.set_cons_zero, List.set_cons_succ]
        refine lin_take (v := ?_) (by kernel_rfl) (by kernel_rfl) (fun _ _ _ h => h) (Or.inl ⟨by rfl, ?_⟩) (by assumption) ?_; (rotate_left; (intro wS hSw; (try dsimp only at hSw); go_simp; (try with_reducible rfl)); rotate_left); simp only [Act.put, List.setIfInBounds_toArray, List.set_cons_zero, List.set_cons_succ]
        refine lin_take (v := ?_) (by kernel_rfl) (by kernel_rfl) (fun _ _ _ h => h) (Or.inl ⟨by rfl, ?_⟩) (by assumption) ?_; (rotate_left; (intro wS hSw; (try dsimp only at hSw); go_simp; (try with_reducible rfl)); rotate_left); simp only [Act.put, List.setIfInBounds_toArray, List.set_cons_zero, List.set_cons_succ]
        refine lin_rot ?_; simp only [List.cons_append, List.nil_append]
        refine lin_take (v := ?_) (by kernel_rfl) (by kernel_rfl) (fun _ _ _ h => h) (Or.inl ⟨by rfl, ?_⟩) (by assumption) ?_; (rotate_left; (intro wS hSw; (try dsimp only at hSw); go_simp; (try with_reducible rfl)); rotate_left); simp only [Act.put, List.setIfInBounds_toArray, List.set_cons_zero, List.set_cons_succ]
        refine lin_rot ?_; simp only [List.cons_append, List.nil_append]
        refine lin_rot ?_; simp only [List.cons_append, List.nil_append]
        refine lin_rot ?_; simp only [List.cons_append, List.nil_append]
        refine lin_sole (by kernel_rfl) (fun K hK => ?_)
        go_simp
        refine (F0.out _).mono ?_; rintro e w3 ⟨rfl, rfl⟩
        refine hK.out _ _ x2 (fun hHeld => ?_)
        try simp only [Act.put, List.setIfInBounds_toArray, List.set_cons_zero, List.set_cons_succ]
        refine lin_sole (by kernel_rfl) (fun K hK => ?_)
        go_simp
        refine (R0.out _).mono ?_; rintro e w4 ⟨rfl, hb4⟩
        have x4 := (hb4.cell (World.block_lt_of_cell? _ _ x2)).trans x2
        refine hK.out _ _ x4 (fun hHeld => ?_)
        try simp only [Act.put, List.setIfInBounds_toArray, List.set_cons_zero, List.set_cons_succ]
        refine lin_take (v := ?_) (by kernel_rfl) (by kernel_rfl) (fun _ _ _ h => h) (Or.inl ⟨by rfl, ?_⟩) (by assumption) ?_; (rotate_left; (intro wS hSw; (try dsimp only at hSw); go_simp; (try with_reducible rfl)); rotate_left); simp only [Act.put, List.setIfInBounds_toArray, List.set_cons_zero, List.set_cons_succ]
        refine lin_take (v := ?_) (by kernel_rfl) (by kernel_rfl) (fun _ _ _ h => h) (Or.inl ⟨by rfl, ?_⟩) (by assumption) ?_; (rotate_left; (intro wS hSw; (try dsimp only at hSw); go_simp; (try with_reducible rfl)); rotate_left); simp only [Act.put, List.setIfInBounds_toArray, List.set_cons_zero, List.set_cons_succ]
        refine lin_done (by kernel_rfl) ?_
        go_wp2_with fail
        go_roundw
        case rel => exact ⟨k + 1, by omega, by go_num, by rw [hB.out, hBk]; rfl, by rw [hB.out, hBk]; rfl, below_chain (below_chain hb.drew hb2) hb4, below_chain (below_chain hbw.drew hb2) hb4⟩
        case measure => simp [intOf]; omega
      · have hb1 : (nm == s) = false := beq_eq_false_iff_ne.2 he
        go_upto_region 11 with fail
        refine lin_start (S := (fun w' : World => w'.cell? ⟨b, k, none⟩ = some (.string ⟨nm.toArray⟩))) rfl 14 rfl hS0 ?_
        simp only [numbered, Nat.zero_add, Nat.reduceAdd]
        refine lin_take (v := ?_) (by kernel_rfl) (by kernel_rfl) (fun _ _ _ h => h) (Or.inl ⟨by rfl, ?_⟩) (by assumption) ?_; (rotate_left; (intro wS hSw; (try dsimp only at hSw); go_simp; (try with_reducible rfl)); rotate_left); simp only [Act.put, List.setIfInBounds_toArray, List.set_cons_zero, List.set_cons_succ]
        refine lin_rot ?_; simp only [List.cons_append, List.nil_append]
        refine lin_take (v := ?_) (by kernel_rfl) (by kernel_rfl) (fun _ _ _ h => h) (Or.inl ⟨by rfl, ?_⟩) (by assumption) ?_; (rotate_left; (intro wS hSw; (try dsimp only at hSw); go_simp; (try with_reducible rfl)); rotate_left); simp only [Act.put, List.setIfInBounds_toArray, List.set_cons_zero, List.set_cons_succ]
        refine lin_take (v := ?_) (by kernel_rfl) (by kernel_rfl) (fun _ _ _ h => h) (Or.inl ⟨by rfl, ?_⟩) (by assumption) ?_; (rotate_left; (intro wS hSw; (try dsimp only at hSw); go_simp; (try with_reducible rfl)); rotate_left); simp only [Act.put, List.setIfInBounds_toArray, List.set_cons_zero, List.set_cons_succ]
        refine lin_take (v := ?_) (by kernel_rfl) (by kernel_rfl) (fun _ _ _ h => h) (Or.inl ⟨by rfl, ?_⟩) (by assumption) ?_; (rotate_left; (intro wS hSw; (try dsimp only at hSw); go_simp; (try with_reducible rfl)); rotate_left); simp only [Act.put, List.setIfInBounds_toArray, List.set_cons_zero, List.set_cons_succ]
        refine lin_take (v := ?_) (by kernel_rfl) (by kernel_rfl) (fun _ _ _ h => h) (Or.inl ⟨by rfl, ?_⟩) (by assumption) ?_; (rotate_left; (intro wS hSw; (try dsimp only at hSw); go_simp; (try with_reducible rfl)); rotate_left); simp only [Act.put, List.setIfInBounds_toArray, List.set_cons_zero, List.set_cons_succ]
        refine lin_rot ?_; simp only [List.cons_append, List.nil_append]
        refine lin_rot ?_; simp only [List.cons_append, List.nil_append]
        refine lin_rot ?_; simp only [List.cons_append, List.nil_append]
        refine lin_rot ?_; simp only [List.cons_append, List.nil_append]
        refine lin_rot ?_; simp only [List.cons_append, List.nil_append]
        refine lin_rot ?_; simp only [List.cons_append, List.nil_append]
        refine lin_rot ?_; simp only [List.cons_append, List.nil_append]
        refine lin_rot ?_; simp only [List.cons_append, List.nil_append]
        refine lin_sole (by kernel_rfl) (fun K hK => ?_)
        go_simp
        refine (N0.out _).mono ?_; rintro e w2 ⟨rfl, hb2⟩
        have x2 := (hb2.cell (World.block_lt_of_cell? _ _ hS0)).trans hS0
        refine hK.out _ _ x2 (fun hHeld => ?_)
        try simp only [Act.put, List.setIfInBounds_toArray, List.set_cons_zero, List.set_cons_succ]
        refine lin_take (v := ?_) (by kernel_rfl) (by kernel_rfl) (fun _ _ _ h => h) (Or.inl ⟨by rfl, ?_⟩) (by assumption) ?_; (rotate_left; (intro wS hSw; (try dsimp only at hSw); go_simp; (try with_reducible rfl)); rotate_left); simp only [Act.put, List.setIfInBounds_toArray, List.set_cons_zero, List.set_cons_succ]
        refine lin_take (v := ?_) (by kernel_rfl) (by kernel_rfl) (fun _ _ _ h => h) (Or.inl ⟨by rfl, ?_⟩) (by assumption) ?_; (rotate_left; (intro wS hSw; (try dsimp only at hSw); go_simp; (try with_reducible rfl)); rotate_left); simp only [Act.put, List.setIfInBounds_toArray, List.set_cons_zero, List.set_cons_succ]
        refine lin_take (v := ?_) (by kernel_rfl) (by kernel_rfl) (fun _ _ _ h => h) (Or.inl ⟨by rfl, ?_⟩) (by assumption) ?_; (rotate_left; (intro wS hSw; (try dsimp only at hSw); go_simp; (try with_reducible rfl)); rotate_left); simp only [Act.put, List.setIfInBounds_toArray, List.set_cons_zero, List.set_cons_succ]
        refine lin_rot ?_; simp only [List.cons_append, List.nil_append]
        refine lin_take (v := ?_) (by kernel_rfl) (by kernel_rfl) (fun _ _ _ h => h) (Or.inl ⟨by rfl, ?_⟩) (by assumption) ?_; (rotate_left; (intro wS hSw; (try dsimp only at hSw); go_simp; (try with_reducible rfl)); rotate_left); simp only [Act.put, List.setIfInBounds_toArray, List.set_cons_zero, List.set_cons_succ]
        refine lin_rot ?_; simp only [List.cons_append, List.nil_append]
        refine lin_rot ?_; simp only [List.cons_append, List.nil_append]
        refine lin_rot ?_; simp only [List.cons_append, List.nil_append]
        refine lin_sole (by kernel_rfl) (fun K hK => ?_)
        go_simp
        refine (F0.out _).mono ?_; rintro e w3 ⟨rfl, rfl⟩
        refine hK.out _ _ x2 (fun hHeld => ?_)
        try simp only [Act.put, List.setIfInBounds_toArray, List.set_cons_zero, List.set_cons_succ]
        refine lin_sole (by kernel_rfl) (fun K hK => ?_)
        go_simp
        refine (R0.out _).mono ?_; rintro e w4 ⟨rfl, hb4⟩
        have x4 := (hb4.cell (World.block_lt_of_cell? _ _ x2)).trans x2
        refine hK.out _ _ x4 (fun hHeld => ?_)
        try simp only [Act.put, List.setIfInBounds_toArray, List.set_cons_zero, List.set_cons_succ]
        refine lin_take (v := ?_) (by kernel_rfl) (by kernel_rfl) (fun _ _ _ h => h) (Or.inl ⟨by rfl, ?_⟩) (by assumption) ?_; (rotate_left; (intro wS hSw; (try dsimp only at hSw); go_simp; (try with_reducible rfl)); rotate_left); simp only [Act.put, List.setIfInBounds_toArray, List.set_cons_zero, List.set_cons_succ]
        refine lin_take (v := ?_) (by kernel_rfl) (by kernel_rfl) (fun _ _ _ h => h) (Or.inl ⟨by rfl, ?_⟩) (by assumption) ?_; (rotate_left; (intro wS hSw; (try dsimp only at hSw); go_simp; (try with_reducible rfl)); rotate_left); simp only [Act.put, List.setIfInBounds_toArray, List.set_cons_zero, List.set_cons_succ]
        refine lin_done (by kernel_rfl) ?_
        go_wp2_with fail
        go_roundw
        case rel => exact ⟨k + 1, by omega, by go_num, by rw [hB.out, hBk], by rw [hB.out, hBk], below_chain (below_chain hb.drew hb2) hb4, below_chain (below_chain hbw.drew hb2) hb4⟩
        case measure => simp [intOf]; omega
    · obtain rfl : k = 26 := by omega
      rw [last_first]
      have OF0 := OF
      generalize ofN s 26 0 = A at *
      have N0 := Lib.hid (fun w => NM.out op w)
      have F0 := fun w => FM.out op w
      have R0 := fun w => RM.out op w
      have hno := name_none op
      generalize formL op = fm at *
      generalize nameL op = nm at *
      replace F0 := Lib.hid F0
      replace R0 := Lib.hid R0
      by_cases h1 : 0 ≤ op
      · by_cases h2 : op ≤ 25
        · have hn2 : (nm == []) = false := by rw [hno]; simp; omega
          clear hno
          go_wp2_with (first | (go_at_call 20; refine (OF0.out _).mono ?_; rintro e w3 ⟨rfl, hb3⟩) | (go_at_call 18; refine (F0.out _).mono ?_; rintro e w4 ⟨rfl, rfl⟩) | (go_at_call 19; refine (R0.out _).mono ?_; rintro e w5 ⟨rfl, hb5⟩) | (go_at_call 17; refine (N0.out _).mono ?_; rintro e w6 ⟨rfl, hb6⟩))
          go_ret
          exact ⟨by first | rfl | (simp <;> omega), below_chain (below_chain (below_chain hb hb3) hb5) hb6⟩
        · have hn2 : (nm == []) = true := by rw [hno]; simp; omega
          clear hno
          go_wp2_with (first | (go_at_call 20; refine (OF0.out _).mono ?_; rintro e w3 ⟨rfl, hb3⟩) | (go_at_call 18; refine (F0.out _).mono ?_; rintro e w4 ⟨rfl, rfl⟩) | (go_at_call 19; refine (R0.out _).mono ?_; rintro e w5 ⟨rfl, hb5⟩) | (go_at_call 17; refine (N0.out _).mono ?_; rintro e w6 ⟨rfl, hb6⟩))
          go_ret
          exact ⟨by first | rfl | (simp <;> omega), below_chain (below_chain (below_chain hb hb3) hb5) hb6⟩
      · have hn2 : (nm == []) = true := by rw [hno]; simp; omega
        clear hno
        go_wp2_with (first | (go_at_call 20; refine (OF0.out _).mono ?_; rintro e w3 ⟨rfl, hb3⟩) | (go_at_call 18; refine (F0.out _).mono ?_; rintro e w4 ⟨rfl, rfl⟩) | (go_at_call 19; refine (R0.out _).mono ?_; rintro e w5 ⟨rfl, hb5⟩) | (go_at_call 17; refine (N0.out _).mono ?_; rintro e w6 ⟨rfl, hb6⟩))
        go_ret
        exact ⟨by first | rfl | (simp <;> omega), below_chain (below_chain (below_chain hb hb3) hb5) hb6⟩
theorem walkInsNames (v0 v1 : Value) (w : World) (h0 : Arg Try.prog w 3 v0) (h1 : Arg Try.prog w 9 v1) :
    Calls Try.prog 3 #[v0, v1] w fun e w' => e = .returned (.bool true) ∧ Below w.heap.size w w' := by
  obtain ⟨op, rfl, _⟩ := h0.int Try.underlying3
  obtain ⟨s, rfl, hs⟩ := h1.string Try.underlying9
  obtain ⟨l, rfl⟩ := str_of s
  exact inames_core op l (by simpa [ByteArray.size] using hs) w
end Go.Proofs.Ytboiogjklecpaaa
