/- The walk through the law LayoutApart. -/
import Derived.Test.YtbadinmlnbabiaaWorks11
import Derived.Test.YtbadinmlnbabiaaLin
set_option linter.unusedVariables false
set_option linter.unusedSimpArgs false
namespace Go.Proofs.Ytbadinmlnbabiaa
open Go.RowKit
def idL (n : Nat) : List Int := (List.range n).map fun (i : Nat) => (i : Int)
theorem idL_length (n : Nat) : (idL n).length = n := by simp [idL]
theorem idL_get {n i : Nat} (h : i < n) : (idL n).getD i 0 = i := by simp [idL, h]
theorem idL_succ (n : Nat) : idL (n + 1) = idL n ++ [(n : Int)] := by simp [idL, List.range_succ]
theorem idL_app1 (n : Nat) : (idL n).map (Value.int .i64) ++ #[Value.int .i64 n].toList = (idL (n + 1)).map (.int .i64) := by simp [idL_succ]
theorem idL_app2 (n : Nat) : (idL n).map (Value.int .i64) ++ #[Value.int .i64 n, .int .i64 ((n : Int) + 1)].toList = (idL (n + 2)).map (.int .i64) := by
  rw [idL_succ, idL_succ]; simp
theorem idL_app4 (n : Nat) : (idL n).map (Value.int .i64) ++ #[Value.int .i64 n, .int .i64 ((n : Int) + 1), .int .i64 ((n : Int) + 2), .int .i64 ((n : Int) + 3)].toList = (idL (n + 4)).map (.int .i64) := by
  rw [idL_succ, idL_succ, idL_succ, idL_succ]; simp
def oneL (M i : Nat) : List Int := (List.range M).map fun j => if j < i then 1 else 0
theorem oneL_length (M i : Nat) : (oneL M i).length = M := by simp [oneL]
theorem oneL_get {M i j : Nat} (h : j < M) : (oneL M i).getD j 0 = if j < i then 1 else 0 := by simp [oneL, h]
theorem oneL_zero (M : Nat) : List.replicate M (0 : Int) = oneL M 0 := by
  refine List.ext_getElem? fun j => ?_
  by_cases h : j < M <;> simp [oneL, h]
theorem oneL_set {M i : Nat} (h : i < M) : (oneL M i).set i 1 = oneL M (i + 1) := by
  refine List.ext_getElem? fun j => ?_
  by_cases hj : j < M
  · by_cases hij : i = j
    · subst hij
      rw [List.getElem?_set_self (by rw [oneL_length]; exact h)]
      simp [oneL, h]
    · rw [List.getElem?_set_ne hij]
      simp only [oneL, List.getElem?_map, List.getElem?_range hj, Option.map_some]
      congr 1
      by_cases q : j < i
      · rw [if_pos q, if_pos (by omega)]
      · rw [if_neg q, if_neg (by omega)]
  · rw [List.getElem?_eq_none (by rw [List.length_set, oneL_length]; omega), List.getElem?_eq_none (by rw [oneL_length]; omega)]
theorem plan_keep {w0 w : World} {pb : Nat} {v0 v1 v2 v3 : Value} {t : TypeId} {l : List Ast} (h : Own w0 w (cellsA pb #[v0, v1, v2, v3] t :: l)) :
    w.cell? ⟨pb, 0, none⟩ = some v0 ∧ w.cell? ⟨pb, 1, none⟩ = some v1 ∧ w.cell? ⟨pb, 2, none⟩ = some v2 ∧ w.cell? ⟨pb, 3, none⟩ = some v3 :=
  ⟨(h.cget 0 rfl 0).1, (h.cget 0 rfl 1).1, (h.cget 0 rfl 2).1, (h.cget 0 rfl 3).1⟩
theorem Own.lift {P : Program} {f : FuncId} {args : Array Value} {w0 w : World} {l : List Ast} {v : Value} (h : Calls P f args w fun e w' => e = .returned v ∧ Below w.heap.size w w') (hO : Own w0 w l) (v' : Value) (hv : v = v') : Calls P f args w fun e w' => e = .returned v' ∧ Own w0 w' l := by
  subst hv
  exact h.mono fun e w' ⟨he, hb⟩ => ⟨he, hO.grow hb⟩
theorem base_at {a b c d D4 R : Nat} (hD : 4 + d = D4) {k n : Nat} (hk : k < a) (hn : n = k * D4) : baseV a d k = n := by
  have h1 : clamp (k : Int) 0 ((a : Int) - 1) = k := by unfold clamp; omega
  have h2 : wideV d = D4 := by unfold wideV; omega
  unfold baseV
  rw [h1, h2, hn, Int.natCast_mul]
theorem slot_at {a b c d D4 R : Nat} (hD : 4 + d = D4) {k n : Nat} (hk : k < a) {j m : Nat} (hj : j < d) (hn : n = k * D4) (hm : m = n + 4 + j) : slotV a d k j = m := by
  have h1 := base_at (b := 0) (c := 0) (R := 0) hD hk hn
  have h2 : max (j : Int) 0 % (d : Int) = j := by rw [show max (j : Int) 0 = j by omega]; exact Int.emod_eq_of_lt (by omega) (by omega)
  unfold slotV
  rw [h1, h2]
  omega
theorem frame_at {a b c d D4 R : Nat} (hD : 4 + d = D4) (hR : 2 + 4 * (c + 1) = R) {f n : Nat} (hf : f < b) (hn : n = a * D4 + f * R) : frameV a b c d (f + 1 : Nat) = n := by
  have h1 : clamp ((f + 1 : Nat) : Int) 1 b = (f : Int) + 1 := by unfold clamp; omega
  have h2 : wideV d = D4 := by unfold wideV; omega
  have h3 : roomV c = R := by unfold roomV; omega
  unfold frameV
  rw [h1, h2, h3, hn, show (f : Int) + 1 - 1 = f by omega, Int.natCast_add, Int.natCast_mul, Int.natCast_mul]
theorem word_at {a b c d D4 R : Nat} (hD : 4 + d = D4) (hR : 2 + 4 * (c + 1) = R) {f n : Nat} (hf : f < b) (hn : n = a * D4 + f * R) {q m j : Nat} (hq : q ≤ c) (hm : m = n + 2 + 4 * q + j) : wordV a b c d (f + 1 : Nat) q j = m := by
  have h1 := frame_at hD hR hf hn
  have h2 : max (q : Int) 0 % ((c : Int) + 1) = q := by rw [show max (q : Int) 0 = q by omega]; exact Int.emod_eq_of_lt (by omega) (by omega)
  unfold wordV
  rw [h1, h2]
  omega
set_option maxHeartbeats 20000000
set_option maxRecDepth 100000
theorem apart_core (m0 m1 m2 m3 a b c d : Nat) (w : World) (k0 : m0 ≤ 255) (k1 : m1 ≤ 255) (k2 : m2 ≤ 255) (k3 : m3 ≤ 255) (ha : (m0 : Int) % 6 + 1 = (a : Int)) (hb : (m1 : Int) % 6 + 1 = (b : Int)) (hc : (m2 : Int) % 6 + 1 = (c : Int)) (hd : (m3 : Int) % 6 + 2 = (d : Int)) :
    Calls Try.prog 6 #[.int .u8 m0, .int .u8 m1, .int .u8 m2, .int .u8 m3] w fun e w' => e = .returned (.bool true) ∧ Below w.heap.size w w' := by
  obtain ⟨i1, hi1, hw0, hw1', hw2'⟩ := info_parts' Try.infoIntK
  have ok : okPlan a b c d = true := by unfold okPlan; simp; omega
  obtain ⟨D4, hD4⟩ : ∃ D4, 4 + d = D4 := ⟨_, rfl⟩
  obtain ⟨R, hR⟩ : ∃ R, 2 + 4 * (c + 1) = R := ⟨_, rfl⟩
  have hsz : sizeV a b c d = ((a * D4 + b * R : Nat) : Int) := by
    unfold sizeV
    rw [show wideV d = (D4 : Int) by unfold wideV; omega, show roomV c = (R : Int) by unfold roomV; omega, Int.natCast_add, Int.natCast_mul, Int.natCast_mul]
  have hB0 : a * D4 ≤ 66 := Nat.le_trans (Nat.mul_le_mul (show a ≤ 6 by omega) (show D4 ≤ 11 by omega)) (by decide)
  have hB1 : b * R ≤ 180 := Nat.le_trans (Nat.mul_le_mul (show b ≤ 6 by omega) (show R ≤ 30 by omega)) (by decide)
  obtain ⟨M, hM⟩ : ∃ M, a * D4 + b * R = M := ⟨_, rfl⟩
  rw [hM] at hsz
  have hMl : M ≤ 246 := by omega
  have Z := Lib.hid (fun (w1 : World) (l : List Ast) (h : Own w w1 l) => Own.lift (size_ok ok w1) h (.int .i64 M) (by rw [hsz]))
  have dd : d ≤ 7 ∧ 2 ≤ d ∧ a ≤ 6 ∧ 1 ≤ a ∧ b ≤ 6 ∧ 1 ≤ b ∧ c ≤ 6 ∧ 1 ≤ c := by omega
  obtain ⟨d1, d2, a1, a2, b1, b2, c1, c2⟩ := dd
  replace hD4 := Lib.hid hD4
  replace hR := Lib.hid hR
  replace hM := Lib.hid hM
  replace ok := Lib.hid ok
  clear hsz
  go_enter Try.func6, Try.ntmps6
  go_wp2_with (go_at_call 13; refine (works11_any _).mono ?_; rintro e w1 ⟨rfl, hb1⟩)
  clear ha hb hc hd
  have hO1 : Own w (w1.alloc (.cells #[.int .i64 a, .int .i64 b, .int .i64 c, .int .i64 d] 24)) [cellsA w1.heap.size #[.int .i64 a, .int .i64 b, .int .i64 c, .int .i64 d] 24] := (Own.nil hb1).box #[.int .i64 a, .int .i64 b, .int .i64 c, .int .i64 d] 24
  generalize w1.alloc (.cells #[.int .i64 a, .int .i64 b, .int .i64 c, .int .i64 d] 24) = u1 at *
  generalize w1.heap.size = pb at *
  go_at_call 15
  refine (Z.out _ _ hO1).mono ?_
  rintro e w2 ⟨rfl, hO2⟩
  clear hO1
  obtain ⟨x0, x1, x2, x3⟩ := plan_keep hO2
  go_wp2_with fail
  go_at_call 15
  refine (Z.out _ _ hO2).mono ?_
  rintro e w3 ⟨rfl, hO3⟩
  clear hO2 x0 x1 x2 x3
  obtain ⟨x0, x1, x2, x3⟩ := plan_keep hO3
  go_wp2_with fail
  go_at_call 15
  refine (Z.out _ _ hO3).mono ?_
  rintro e w4 ⟨rfl, hO4⟩
  clear hO3 x0 x1 x2 x3 Z
  obtain ⟨x0, x1, x2, x3⟩ := plan_keep hO4
  go_wp2_with (first | (refine wpList_make_any _ rfl _ _ 42 rfl 3 i1 (.int .i64 0) 1 8 Try.underlying42 hi1 hw0 hw1' hw2' .i64 .i64 (M : Int) (M : Int) rfl rfl (by omega) (by omega) (by omega) (by decide) ?_))
  have hO5 : Own w (w4.alloc (.cells (madeCells #[Value.int .i64 0] M) 3)) [cellsA pb #[.int .i64 a, .int .i64 b, .int .i64 c, .int .i64 d] 24, intsA w4.heap.size M (List.replicate M 0), rowA 3 1 (.slice none 0 0) 0 ((idL 0).map (.int .i64))] := (hO4.ints_made (madeCells #[Value.int .i64 0] M) M (madeK_one _ _) (by unfold maxLen; omega)).push (Below.refl _ _) (rowA 3 1 (.slice none 0 0) 0 []) (Row.nil _ _ _) (by simp [rowA, Value.ownBlock])
  clear hO4 x0 x1 x2 x3
  have hzs := Lib.hid (oneL_zero M)
  generalize List.replicate M (0 : Int) = zs at *
  generalize w4.alloc (.cells (madeCells #[Value.int .i64 0] M) 3) = u5 at *
  generalize w4.heap.size = mb at *
  go_loopw [11, 12] (fun v i wr => ∃ (k n : Nat) (lo : Option Addr) (lc : Nat), k ≤ a ∧ i = .int .i64 k ∧ v = .slice lo n lc ∧ Hid (n = k * D4) ∧ Own w wr [cellsA pb #[.int .i64 a, .int .i64 b, .int .i64 c, .int .i64 d] 24, intsA mb M zs, rowA 3 1 (.slice lo n lc) n ((idL n).map (.int .i64))]) (fun _ i _ => (a - intOf i).toNat)
  case atStart => exact ⟨0, 0, none, 0, by omega, rfl, rfl, Lib.hid (by simp), hO5⟩
  case round =>
    clear hO5
    obtain ⟨k, n, lo, lc, hk, rfl, rfl, hn, hO⟩ := hrel
    obtain ⟨x0, x1, x2, x3⟩ := plan_keep hO
    have hnl : n ≤ 66 := by
      have := Nat.mul_le_mul hk (Nat.le_refl D4)
      rw [hn.out]; omega
    by_cases hlt : k < a
    · have B := Lib.hid (fun (w1 : World) (l : List Ast) (h : Own w w1 l) => Own.lift (base_ok ok.out k w1) h (.int .i64 n) (by rw [base_at (b := b) (c := c) (R := R) hD4.out hlt hn.out]))
      have e1 : IntKind.i64.wrap ((n : Int) + 1) = (n : Int) + 1 := IntWalk.i64_in _ (by omega)
      have e2 : IntKind.i64.wrap ((n : Int) + 2) = (n : Int) + 2 := IntWalk.i64_in _ (by omega)
      have e3 : IntKind.i64.wrap ((n : Int) + 3) = (n : Int) + 3 := IntWalk.i64_in _ (by omega)
      go_wp2_with fail
      have hS0 := plan_keep (hO.drewN 1)
      have hO5 := hO.drewN 1
      refine lin_start (S := (fun w' => w'.cell? ⟨pb, 0, none⟩ = some (.int .i64 a) ∧ w'.cell? ⟨pb, 1, none⟩ = some (.int .i64 b) ∧ w'.cell? ⟨pb, 2, none⟩ = some (.int .i64 c) ∧ w'.cell? ⟨pb, 3, none⟩ = some (.int .i64 d))) rfl 19 rfl hS0 ?_
      simp only [numbered, Nat.zero_add, Nat.reduceAdd]
      refine lin_take (v := ?_) (by kernel_rfl) (by kernel_rfl) (fun _ _ _ h => h) (Or.inl ⟨by rfl, ?_⟩) (by assumption) ?_; (rotate_left; (intro wS hSw; (try dsimp only at hSw); go_simp; (try with_reducible rfl)); rotate_left); simp only [Act.put, List.setIfInBounds_toArray, List.set_cons_zero, List.set_cons_succ]
      refine lin_take (v := ?_) (by kernel_rfl) (by kernel_rfl) (fun _ _ _ h => h) (Or.inl ⟨by rfl, ?_⟩) (by assumption) ?_; (rotate_left; (intro wS hSw; (try dsimp only at hSw); go_simp; (try with_reducible rfl)); rotate_left); simp only [Act.put, List.setIfInBounds_toArray, List.set_cons_zero, List.set_cons_succ]
      refine lin_take (v := ?_) (by kernel_rfl) (by kernel_rfl) (fun _ _ _ h => h) (Or.inl ⟨by rfl, ?_⟩) (by assumption) ?_; (rotate_left; (intro wS hSw; (try dsimp only at hSw); go_simp; (try with_reducible rfl)); rotate_left); simp only [Act.put, List.setIfInBounds_toArray, List.set_cons_zero, List.set_cons_succ]
      refine lin_rot ?_; simp only [List.cons_append, List.nil_append]
      refine lin_take (v := ?_) (by kernel_rfl) (by kernel_rfl) (fun _ _ _ h => h) (Or.inl ⟨by rfl, ?_⟩) (by assumption) ?_; (rotate_left; (intro wS hSw; (try dsimp only at hSw); go_simp; (try with_reducible rfl)); rotate_left); simp only [Act.put, List.setIfInBounds_toArray, List.set_cons_zero, List.set_cons_succ]
      refine lin_take (v := ?_) (by kernel_rfl) (by kernel_rfl) (fun _ _ _ h => h) (Or.inl ⟨by rfl, ?_⟩) (by assumption) ?_; (rotate_left; (intro wS hSw; (try dsimp only at hSw); go_simp; (try with_reducible rfl)); rotate_left); simp only [Act.put, List.setIfInBounds_toArray, List.set_cons_zero, List.set_cons_succ]
      refine lin_rot ?_; simp only [List.cons_append, List.nil_append]
      refine lin_rot ?_; simp only [List.cons_append, List.nil_append]
      refine lin_take (v := ?_) (by kernel_rfl) (by kernel_rfl) (fun _ _ _ h => h) (Or.inl ⟨by rfl, ?_⟩) (by assumption) ?_; (rotate_left; (intro wS hSw; (try dsimp only at hSw); go_simp; (try with_reducible rfl)); rotate_left); simp only [Act.put, List.setIfInBounds_toArray, List.set_cons_zero, List.set_cons_succ]
      refine lin_take (v := ?_) (by kernel_rfl) (by kernel_rfl) (fun _ _ _ h => h) (Or.inl ⟨by rfl, ?_⟩) (by assumption) ?_; (rotate_left; (intro wS hSw; (try dsimp only at hSw); go_simp; (try with_reducible rfl)); rotate_left); simp only [Act.put, List.setIfInBounds_toArray, List.set_cons_zero, List.set_cons_succ]
      refine lin_rot ?_; simp only [List.cons_append, List.nil_append]
      refine lin_rot ?_; simp only [List.cons_append, List.nil_append]
      refine lin_take (v := ?_) (by kernel_rfl) (by kernel_rfl) (fun _ _ _ h => h) (Or.inl ⟨by rfl, ?_⟩) (by assumption) ?_; (rotate_left; (intro wS hSw; (try dsimp only at hSw); go_simp; (try with_reducible rfl)); rotate_left); simp only [Act.put, List.setIfInBounds_toArray, List.set_cons_zero, List.set_cons_succ]
      refine lin_take (v := ?_) (by kernel_rfl) (by kernel_rfl) (fun _ _ _ h => h) (Or.inl ⟨by rfl, ?_⟩) (by assumption) ?_; (rotate_left; (intro wS hSw; (try dsimp only at hSw); go_simp; (try with_reducible rfl)); rotate_left); simp only [Act.put, List.setIfInBounds_toArray, List.set_cons_zero, List.set_cons_succ]
      refine lin_rot ?_; simp only [List.cons_append, List.nil_append]
      refine lin_rot ?_; simp only [List.cons_append, List.nil_append]
      refine lin_rot ?_; simp only [List.cons_append, List.nil_append]
      refine lin_rot ?_; simp only [List.cons_append, List.nil_append]
      refine lin_rot ?_; simp only [List.cons_append, List.nil_append]
      refine lin_sole (by kernel_rfl) (fun K hK => ?_)
      go_simp
      refine (B.out _ _ hO5).mono ?_
      rintro e w6 ⟨rfl, hO6⟩
      refine hK.out _ _ ?_ (fun hHeld => ?_)
      · exact plan_keep hO6
      try simp only [Act.put, List.setIfInBounds_toArray, List.set_cons_zero, List.set_cons_succ]
      refine lin_sole (by kernel_rfl) (fun K hK => ?_)
      go_simp
      refine (B.out _ _ hO6).mono ?_
      rintro e w7 ⟨rfl, hO7⟩
      refine hK.out _ _ ?_ (fun hHeld => ?_)
      · exact plan_keep hO7
      try simp only [Act.put, List.setIfInBounds_toArray, List.set_cons_zero, List.set_cons_succ]
      refine lin_take (v := ?_) (by kernel_rfl) (by kernel_rfl) (fun _ _ _ h => h) (Or.inl ⟨by rfl, ?_⟩) (by assumption) ?_; (rotate_left; (intro wS hSw; (try dsimp only at hSw); go_simp; (try with_reducible rfl)); rotate_left); simp only [Act.put, List.setIfInBounds_toArray, List.set_cons_zero, List.set_cons_succ]
      refine lin_sole (by kernel_rfl) (fun K hK => ?_)
      go_simp
      refine (B.out _ _ hO7).mono ?_
      rintro e w8 ⟨rfl, hO8⟩
      refine hK.out _ _ ?_ (fun hHeld => ?_)
      · exact plan_keep hO8
      try simp only [Act.put, List.setIfInBounds_toArray, List.set_cons_zero, List.set_cons_succ]
      refine lin_take (v := ?_) (by kernel_rfl) (by kernel_rfl) (fun _ _ _ h => h) (Or.inl ⟨by rfl, ?_⟩) (by assumption) ?_; (rotate_left; (intro wS hSw; (try dsimp only at hSw); go_simp; (try with_reducible rfl)); rotate_left); simp only [Act.put, List.setIfInBounds_toArray, List.set_cons_zero, List.set_cons_succ]
      refine lin_sole (by kernel_rfl) (fun K hK => ?_)
      go_simp
      refine (B.out _ _ hO8).mono ?_
      rintro e w9 ⟨rfl, hO9⟩
      refine hK.out _ _ ?_ (fun hHeld => ?_)
      · exact plan_keep hO9
      try simp only [Act.put, List.setIfInBounds_toArray, List.set_cons_zero, List.set_cons_succ]
      refine lin_take (v := ?_) (by kernel_rfl) (by kernel_rfl) (fun _ _ _ h => h) (Or.inl ⟨by rfl, ?_⟩) (by assumption) ?_; (rotate_left; (intro wS hSw; (try dsimp only at hSw); go_simp; (try with_reducible rfl)); rotate_left); simp only [Act.put, List.setIfInBounds_toArray, List.set_cons_zero, List.set_cons_succ]
      refine lin_sole (by kernel_rfl) (fun K hK => ?_)
      go_simp
      refine hK.out _ _ ?_ (fun hHeld => ?_)
      · exact plan_keep (hO9.alloc _)
      try simp only [Act.put, List.setIfInBounds_toArray, List.set_cons_zero, List.set_cons_succ]
      refine lin_law (by kernel_rfl) rfl ?_
      refine wpList_append_lit' _ rfl (.tmp 54) (.tmp 70) 42 rfl 3 i1 (.int .i64 0) 1 8 Try.underlying42 hi1 hw0 hw1' hw2' rfl (by decide) (.slice lo n lc) n ((idL n).map (.int .i64)) rfl (hO9.row 2 rfl) #[.int .i64 n, .int .i64 ((n : Int) + 1), .int .i64 ((n : Int) + 2), .int .i64 ((n : Int) + 3)] _ 4 _ rfl rfl rfl (by simp [Value.oneCell']) (by unfold maxLen; omega) (by omega) ?_
      intro ao2 cap2 wz hr2 ht2 hf2
      have hO9 := (hO9.move 2 rfl (Moves.of_append hr2 ht2 hf2)).cast (l' := [cellsA pb #[.int .i64 a, .int .i64 b, .int .i64 c, .int .i64 d] 24, intsA mb M zs, rowA 3 1 (.slice ao2 (n + 4) cap2) (n + 4) ((idL (n + 4)).map (.int .i64))]) (by rw [idL_app4]; rfl)
      refine wpList_nil ⟨rfl, ?_, fun hHeld => ?_⟩
      · exact plan_keep hO9
      try simp only [Act.put, List.setIfInBounds_toArray, List.set_cons_zero, List.set_cons_succ]
      refine lin_take (v := ?_) (by kernel_rfl) (by kernel_rfl) (fun _ _ _ h => h) (Or.inl ⟨by rfl, ?_⟩) (by assumption) ?_; (rotate_left; (intro wS hSw; (try dsimp only at hSw); go_simp; (try with_reducible rfl)); rotate_left); simp only [Act.put, List.setIfInBounds_toArray, List.set_cons_zero, List.set_cons_succ]
      refine lin_done (by kernel_rfl) ?_
      clear e1 e2 e3 B hHeld hO hO5 hO6 hO7 hO8 hr2 ht2 hf2 hS0 x0 x1 x2 x3
      generalize hn4 : n + 4 = n4 at *
      replace hn4 := Lib.hid hn4
      go_wp2_with fail
      go_loopw [11, 13] (fun v i wr => ∃ (j n1 : Nat) (lo : Option Addr) (lc : Nat), j ≤ d ∧ i = .int .i64 j ∧ v = .slice lo n1 lc ∧ Hid (n1 = n + 4 + j) ∧ Own w wr [cellsA pb #[.int .i64 a, .int .i64 b, .int .i64 c, .int .i64 d] 24, intsA mb M zs, rowA 3 1 (.slice lo n1 lc) n1 ((idL n1).map (.int .i64))]) (fun _ i _ => (d - intOf i).toNat)
      case atStart => exact ⟨0, n4, ao2, cap2, by omega, rfl, rfl, Lib.hid (by have := hn4.out; omega), hO9⟩
      case round =>
        clear hO9 hn4
        obtain ⟨j, n1, lo, lc, hj, rfl, rfl, hn1, hO⟩ := hrel
        obtain ⟨x0, x1, x2, x3⟩ := plan_keep hO
        have hnl1 : n1 ≤ 77 := by have := hn1.out; omega
        by_cases hlt1 : j < d
        · have SL := Lib.hid (fun (w1 : World) (l : List Ast) (h : Own w w1 l) => Own.lift (slot_ok ok.out k j w1) h (.int .i64 n1) (by rw [slot_at (b := b) (c := c) (R := R) hD4.out hlt hlt1 hn.out hn1.out]))
          go_wp2_with fail
          go_at_call 19
          refine (SL.out _ _ hO).mono ?_
          rintro e w5 ⟨rfl, hO5⟩
          have hr5 := hO5.row 2 rfl
          clear hO SL x0 x1 x2 x3
          obtain ⟨y0, y1, y2, y3⟩ := plan_keep hO5
          go_wp2_with (first | (at_builtin; refine wpList_append_lit' _ rfl (.tmp 78) (.tmp 83) 42 rfl 3 i1 (.int .i64 0) 1 8 Try.underlying42 hi1 hw0 hw1' hw2' rfl (by decide) (.slice lo n1 lc) n1 ((idL n1).map (.int .i64)) rfl hr5 #[.int .i64 n1] _ 1 _ rfl rfl rfl (by simp [Value.oneCell']) (by unfold maxLen; omega) (by omega) ?_; intro ao2 cap2 wz hr2 ht2 hf2))
          have hO9 := (hO5.move 2 rfl (Moves.of_append hr2 ht2 hf2)).cast (l' := [cellsA pb #[.int .i64 a, .int .i64 b, .int .i64 c, .int .i64 d] 24, intsA mb M zs, rowA 3 1 (.slice ao2 (n1 + 1) cap2) (n1 + 1) ((idL (n1 + 1)).map (.int .i64))]) (by rw [idL_app1]; rfl)
          go_roundw
          case rel => exact ⟨j + 1, n1 + 1, ao2, cap2, by omega, by go_num, rfl, Lib.hid (by have := hn1.out; omega), hO9⟩
          case measure => simp [intOf]; omega
        · obtain rfl : j = d := by omega
          go_wp2_with fail
          go_roundw
          case rel => exact ⟨k + 1, n1, lo, lc, by omega, by go_num, rfl, Lib.hid (by have h1 := hn1.out; have h2 := hn.out; have h3 := hD4.out; rw [Nat.succ_mul]; omega), hO⟩
          case measure => simp [intOf]; omega
    · obtain rfl : k = a := by omega
      go_wp2_with fail
      clear x0 x1 x2 x3
      go_loopw [11, 14] (fun v i wr => ∃ (f n2 : Nat) (lo : Option Addr) (lc : Nat), f ≤ b ∧ i = .int .i64 (f + 1 : Nat) ∧ v = .slice lo n2 lc ∧ Hid (n2 = k * D4 + f * R) ∧ Own w wr [cellsA pb #[.int .i64 k, .int .i64 b, .int .i64 c, .int .i64 d] 24, intsA mb M zs, rowA 3 1 (.slice lo n2 lc) n2 ((idL n2).map (.int .i64))]) (fun _ i _ => (b + 1 - intOf i).toNat)
      case atStart => exact ⟨0, n, lo, lc, by omega, rfl, rfl, Lib.hid (by rw [hn.out]; simp), hO⟩
      case round =>
        clear hO
        obtain ⟨f, n2, lo, lc, hf, rfl, rfl, hn2, hO⟩ := hrel
        obtain ⟨x0, x1, x2, x3⟩ := plan_keep hO
        have hRl : R ≤ 30 := by have := hR.out; omega
        have hnl2 : n2 ≤ 246 := by
          have := Nat.mul_le_mul hf (Nat.le_refl R)
          rw [hn2.out]; omega
        by_cases hlt : f < b
        · have FR := Lib.hid (fun (w1 : World) (l : List Ast) (h : Own w w1 l) => Own.lift (frame_ok ok.out (f + 1 : Nat) w1) h (.int .i64 n2) (by rw [frame_at hD4.out hR.out hlt hn2.out]))
          have NP := Lib.hid (fun (w1 : World) (l : List Ast) (h : Own w w1 l) => Own.lift (nap_ok ok.out (f + 1 : Nat) w1) h (.int .i64 ((n2 : Int) + 1)) (by rw [frame_at hD4.out hR.out hlt hn2.out]))
          go_wp2_with fail
          have hS0 := plan_keep (hO.drewN 1)
          have hO5 := hO.drewN 1
          refine lin_start (S := (fun w' => w'.cell? ⟨pb, 0, none⟩ = some (.int .i64 k) ∧ w'.cell? ⟨pb, 1, none⟩ = some (.int .i64 b) ∧ w'.cell? ⟨pb, 2, none⟩ = some (.int .i64 c) ∧ w'.cell? ⟨pb, 3, none⟩ = some (.int .i64 d))) rfl 10 rfl hS0 ?_
          simp only [numbered, Nat.zero_add, Nat.reduceAdd]
          refine lin_take (v := ?_) (by kernel_rfl) (by kernel_rfl) (fun _ _ _ h => h) (Or.inl ⟨by rfl, ?_⟩) (by assumption) ?_; (rotate_left; (intro wS hSw; (try dsimp only at hSw); go_simp; (try with_reducible rfl)); rotate_left); simp only [Act.put, List.setIfInBounds_toArray, List.set_cons_zero, List.set_cons_succ]
          refine lin_take (v := ?_) (by kernel_rfl) (by kernel_rfl) (fun _ _ _ h => h) (Or.inl ⟨by rfl, ?_⟩) (by assumption) ?_; (rotate_left; (intro wS hSw; (try dsimp only at hSw); go_simp; (try with_reducible rfl)); rotate_left); simp only [Act.put, List.setIfInBounds_toArray, List.set_cons_zero, List.set_cons_succ]
          refine lin_take (v := ?_) (by kernel_rfl) (by kernel_rfl) (fun _ _ _ h => h) (Or.inl ⟨by rfl, ?_⟩) (by assumption) ?_; (rotate_left; (intro wS hSw; (try dsimp only at hSw); go_simp; (try with_reducible rfl)); rotate_left); simp only [Act.put, List.setIfInBounds_toArray, List.set_cons_zero, List.set_cons_succ]
          refine lin_rot ?_; simp only [List.cons_append, List.nil_append]
          refine lin_take (v := ?_) (by kernel_rfl) (by kernel_rfl) (fun _ _ _ h => h) (Or.inl ⟨by rfl, ?_⟩) (by assumption) ?_; (rotate_left; (intro wS hSw; (try dsimp only at hSw); go_simp; (try with_reducible rfl)); rotate_left); simp only [Act.put, List.setIfInBounds_toArray, List.set_cons_zero, List.set_cons_succ]
          refine lin_take (v := ?_) (by kernel_rfl) (by kernel_rfl) (fun _ _ _ h => h) (Or.inl ⟨by rfl, ?_⟩) (by assumption) ?_; (rotate_left; (intro wS hSw; (try dsimp only at hSw); go_simp; (try with_reducible rfl)); rotate_left); simp only [Act.put, List.setIfInBounds_toArray, List.set_cons_zero, List.set_cons_succ]
          refine lin_rot ?_; simp only [List.cons_append, List.nil_append]
          refine lin_rot ?_; simp only [List.cons_append, List.nil_append]
          refine lin_rot ?_; simp only [List.cons_append, List.nil_append]
          refine lin_rot ?_; simp only [List.cons_append, List.nil_append]
          refine lin_sole (by kernel_rfl) (fun K hK => ?_)
          go_simp
          refine (FR.out _ _ hO5).mono ?_
          rintro e w6 ⟨rfl, hO6⟩
          refine hK.out _ _ ?_ (fun hHeld => ?_)
          · exact plan_keep hO6
          try simp only [Act.put, List.setIfInBounds_toArray, List.set_cons_zero, List.set_cons_succ]
          refine lin_sole (by kernel_rfl) (fun K hK => ?_)
          go_simp
          refine (NP.out _ _ hO6).mono ?_
          rintro e w7 ⟨rfl, hO7⟩
          refine hK.out _ _ ?_ (fun hHeld => ?_)
          · exact plan_keep hO7
          try simp only [Act.put, List.setIfInBounds_toArray, List.set_cons_zero, List.set_cons_succ]
          refine lin_sole (by kernel_rfl) (fun K hK => ?_)
          go_simp
          refine hK.out _ _ ?_ (fun hHeld => ?_)
          · exact plan_keep (hO7.alloc _)
          try simp only [Act.put, List.setIfInBounds_toArray, List.set_cons_zero, List.set_cons_succ]
          refine lin_law (by kernel_rfl) rfl ?_
          refine wpList_append_lit' _ rfl (.tmp 91) (.tmp 98) 42 rfl 3 i1 (.int .i64 0) 1 8 Try.underlying42 hi1 hw0 hw1' hw2' rfl (by decide) (.slice lo n2 lc) n2 ((idL n2).map (.int .i64)) rfl (hO7.row 2 rfl) #[.int .i64 n2, .int .i64 ((n2 : Int) + 1)] _ 2 _ rfl rfl rfl (by simp [Value.oneCell']) (by unfold maxLen; omega) (by omega) ?_
          intro ao2 cap2 wz hr2 ht2 hf2
          have hO9 := (hO7.move 2 rfl (Moves.of_append hr2 ht2 hf2)).cast (l' := [cellsA pb #[.int .i64 k, .int .i64 b, .int .i64 c, .int .i64 d] 24, intsA mb M zs, rowA 3 1 (.slice ao2 (n2 + 2) cap2) (n2 + 2) ((idL (n2 + 2)).map (.int .i64))]) (by rw [idL_app2]; rfl)
          refine wpList_nil ⟨rfl, ?_, fun hHeld => ?_⟩
          · exact plan_keep hO9
          try simp only [Act.put, List.setIfInBounds_toArray, List.set_cons_zero, List.set_cons_succ]
          refine lin_take (v := ?_) (by kernel_rfl) (by kernel_rfl) (fun _ _ _ h => h) (Or.inl ⟨by rfl, ?_⟩) (by assumption) ?_; (rotate_left; (intro wS hSw; (try dsimp only at hSw); go_simp; (try with_reducible rfl)); rotate_left); simp only [Act.put, List.setIfInBounds_toArray, List.set_cons_zero, List.set_cons_succ]
          refine lin_done (by kernel_rfl) ?_
          clear FR NP hHeld hO hO5 hO6 hO7 hr2 ht2 hf2 hS0 x0 x1 x2 x3
          generalize hn4 : n2 + 2 = n4 at *
          replace hn4 := Lib.hid hn4
          go_wp2_with fail
          go_loopw [11, 15] (fun v i wr => ∃ (q n3 : Nat) (lo : Option Addr) (lc : Nat), q ≤ c + 1 ∧ i = .int .i64 q ∧ v = .slice lo n3 lc ∧ Hid (n3 = n2 + 2 + 4 * q) ∧ Own w wr [cellsA pb #[.int .i64 k, .int .i64 b, .int .i64 c, .int .i64 d] 24, intsA mb M zs, rowA 3 1 (.slice lo n3 lc) n3 ((idL n3).map (.int .i64))]) (fun _ i _ => (c + 1 - intOf i).toNat)
          case atStart => exact ⟨0, n4, ao2, cap2, by omega, rfl, rfl, Lib.hid (by have := hn4.out; omega), hO9⟩
          case round =>
            clear hO9 hn4
            obtain ⟨q, n3, lo, lc, hq, rfl, rfl, hn3, hO⟩ := hrel
            obtain ⟨x0, x1, x2, x3⟩ := plan_keep hO
            have hnl3 : n3 ≤ 300 := by have := hn3.out; omega
            by_cases hlt1 : q ≤ c
            · have C0 := Lib.hid (fun (w1 : World) (l : List Ast) (h : Own w w1 l) => Own.lift (counter_ok ok.out (f + 1 : Nat) q w1) h (.int .i64 n3) (by rw [show wordV (k : Int) b c d (f + 1 : Nat) q 0 = (n3 : Nat) from word_at (j := 0) hD4.out hR.out hlt hn2.out hlt1 (by have := hn3.out; omega)]))
              have C1 := Lib.hid (fun (w1 : World) (l : List Ast) (h : Own w w1 l) => Own.lift (status_ok ok.out (f + 1 : Nat) q w1) h (.int .i64 ((n3 : Int) + 1)) (by rw [show wordV (k : Int) b c d (f + 1 : Nat) q 1 = (n3 + 1 : Nat) from word_at (j := 1) hD4.out hR.out hlt hn2.out hlt1 (by have := hn3.out; omega)]; rfl))
              have C2 := Lib.hid (fun (w1 : World) (l : List Ast) (h : Own w w1 l) => Own.lift (link_ok ok.out (f + 1 : Nat) q w1) h (.int .i64 ((n3 : Int) + 2)) (by rw [show wordV (k : Int) b c d (f + 1 : Nat) q 2 = (n3 + 2 : Nat) from word_at (j := 2) hD4.out hR.out hlt hn2.out hlt1 (by have := hn3.out; omega)]; rfl))
              have C3 := Lib.hid (fun (w1 : World) (l : List Ast) (h : Own w w1 l) => Own.lift (done_ok ok.out (f + 1 : Nat) q w1) h (.int .i64 ((n3 : Int) + 3)) (by rw [show wordV (k : Int) b c d (f + 1 : Nat) q 3 = (n3 + 3 : Nat) from word_at (j := 3) hD4.out hR.out hlt hn2.out hlt1 (by have := hn3.out; omega)]; rfl))
              go_wp2_with fail
              have hS0 := plan_keep (hO.drewN 1)
              have hO5 := hO.drewN 1
              refine lin_start (S := (fun w' => w'.cell? ⟨pb, 0, none⟩ = some (.int .i64 k) ∧ w'.cell? ⟨pb, 1, none⟩ = some (.int .i64 b) ∧ w'.cell? ⟨pb, 2, none⟩ = some (.int .i64 c) ∧ w'.cell? ⟨pb, 3, none⟩ = some (.int .i64 d))) rfl 20 rfl hS0 ?_
              simp only [numbered, Nat.zero_add, Nat.reduceAdd]
              refine lin_take (v := ?_) (by kernel_rfl) (by kernel_rfl) (fun _ _ _ h => h) (Or.inl ⟨by rfl, ?_⟩) (by assumption) ?_; (rotate_left; (intro wS hSw; (try dsimp only at hSw); go_simp; (try with_reducible rfl)); rotate_left); simp only [Act.put, List.setIfInBounds_toArray, List.set_cons_zero, List.set_cons_succ]
              refine lin_take (v := ?_) (by kernel_rfl) (by kernel_rfl) (fun _ _ _ h => h) (Or.inl ⟨by rfl, ?_⟩) (by assumption) ?_; (rotate_left; (intro wS hSw; (try dsimp only at hSw); go_simp; (try with_reducible rfl)); rotate_left); simp only [Act.put, List.setIfInBounds_toArray, List.set_cons_zero, List.set_cons_succ]
              refine lin_take (v := ?_) (by kernel_rfl) (by kernel_rfl) (fun _ _ _ h => h) (Or.inl ⟨by rfl, ?_⟩) (by assumption) ?_; (rotate_left; (intro wS hSw; (try dsimp only at hSw); go_simp; (try with_reducible rfl)); rotate_left); simp only [Act.put, List.setIfInBounds_toArray, List.set_cons_zero, List.set_cons_succ]
              refine lin_take (v := ?_) (by kernel_rfl) (by kernel_rfl) (fun _ _ _ h => h) (Or.inl ⟨by rfl, ?_⟩) (by assumption) ?_; (rotate_left; (intro wS hSw; (try dsimp only at hSw); go_simp; (try with_reducible rfl)); rotate_left); simp only [Act.put, List.setIfInBounds_toArray, List.set_cons_zero, List.set_cons_succ]
              refine lin_rot ?_; simp only [List.cons_append, List.nil_append]
              refine lin_take (v := ?_) (by kernel_rfl) (by kernel_rfl) (fun _ _ _ h => h) (Or.inl ⟨by rfl, ?_⟩) (by assumption) ?_; (rotate_left; (intro wS hSw; (try dsimp only at hSw); go_simp; (try with_reducible rfl)); rotate_left); simp only [Act.put, List.setIfInBounds_toArray, List.set_cons_zero, List.set_cons_succ]
              refine lin_take (v := ?_) (by kernel_rfl) (by kernel_rfl) (fun _ _ _ h => h) (Or.inl ⟨by rfl, ?_⟩) (by assumption) ?_; (rotate_left; (intro wS hSw; (try dsimp only at hSw); go_simp; (try with_reducible rfl)); rotate_left); simp only [Act.put, List.setIfInBounds_toArray, List.set_cons_zero, List.set_cons_succ]
              refine lin_take (v := ?_) (by kernel_rfl) (by kernel_rfl) (fun _ _ _ h => h) (Or.inl ⟨by rfl, ?_⟩) (by assumption) ?_; (rotate_left; (intro wS hSw; (try dsimp only at hSw); go_simp; (try with_reducible rfl)); rotate_left); simp only [Act.put, List.setIfInBounds_toArray, List.set_cons_zero, List.set_cons_succ]
              refine lin_rot ?_; simp only [List.cons_append, List.nil_append]
              refine lin_take (v := ?_) (by kernel_rfl) (by kernel_rfl) (fun _ _ _ h => h) (Or.inl ⟨by rfl, ?_⟩) (by assumption) ?_; (rotate_left; (intro wS hSw; (try dsimp only at hSw); go_simp; (try with_reducible rfl)); rotate_left); simp only [Act.put, List.setIfInBounds_toArray, List.set_cons_zero, List.set_cons_succ]
              refine lin_take (v := ?_) (by kernel_rfl) (by kernel_rfl) (fun _ _ _ h => h) (Or.inl ⟨by rfl, ?_⟩) (by assumption) ?_; (rotate_left; (intro wS hSw; (try dsimp only at hSw); go_simp; (try with_reducible rfl)); rotate_left); simp only [Act.put, List.setIfInBounds_toArray, List.set_cons_zero, List.set_cons_succ]
              refine lin_take (v := ?_) (by kernel_rfl) (by kernel_rfl) (fun _ _ _ h => h) (Or.inl ⟨by rfl, ?_⟩) (by assumption) ?_; (rotate_left; (intro wS hSw; (try dsimp only at hSw); go_simp; (try with_reducible rfl)); rotate_left); simp only [Act.put, List.setIfInBounds_toArray, List.set_cons_zero, List.set_cons_succ]
              refine lin_rot ?_; simp only [List.cons_append, List.nil_append]
              refine lin_take (v := ?_) (by kernel_rfl) (by kernel_rfl) (fun _ _ _ h => h) (Or.inl ⟨by rfl, ?_⟩) (by assumption) ?_; (rotate_left; (intro wS hSw; (try dsimp only at hSw); go_simp; (try with_reducible rfl)); rotate_left); simp only [Act.put, List.setIfInBounds_toArray, List.set_cons_zero, List.set_cons_succ]
              refine lin_take (v := ?_) (by kernel_rfl) (by kernel_rfl) (fun _ _ _ h => h) (Or.inl ⟨by rfl, ?_⟩) (by assumption) ?_; (rotate_left; (intro wS hSw; (try dsimp only at hSw); go_simp; (try with_reducible rfl)); rotate_left); simp only [Act.put, List.setIfInBounds_toArray, List.set_cons_zero, List.set_cons_succ]
              refine lin_take (v := ?_) (by kernel_rfl) (by kernel_rfl) (fun _ _ _ h => h) (Or.inl ⟨by rfl, ?_⟩) (by assumption) ?_; (rotate_left; (intro wS hSw; (try dsimp only at hSw); go_simp; (try with_reducible rfl)); rotate_left); simp only [Act.put, List.setIfInBounds_toArray, List.set_cons_zero, List.set_cons_succ]
              refine lin_rot ?_; simp only [List.cons_append, List.nil_append]
              refine lin_rot ?_; simp only [List.cons_append, List.nil_append]
              refine lin_rot ?_; simp only [List.cons_append, List.nil_append]
              refine lin_rot ?_; simp only [List.cons_append, List.nil_append]
              refine lin_sole (by kernel_rfl) (fun K hK => ?_)
              go_simp
              refine (C0.out _ _ hO5).mono ?_
              rintro e w6 ⟨rfl, hO6⟩
              refine hK.out _ _ ?_ (fun hHeld => ?_)
              · exact plan_keep hO6
              try simp only [Act.put, List.setIfInBounds_toArray, List.set_cons_zero, List.set_cons_succ]
              refine lin_sole (by kernel_rfl) (fun K hK => ?_)
              go_simp
              refine (C1.out _ _ hO6).mono ?_
              rintro e w7 ⟨rfl, hO7⟩
              refine hK.out _ _ ?_ (fun hHeld => ?_)
              · exact plan_keep hO7
              try simp only [Act.put, List.setIfInBounds_toArray, List.set_cons_zero, List.set_cons_succ]
              refine lin_sole (by kernel_rfl) (fun K hK => ?_)
              go_simp
              refine (C2.out _ _ hO7).mono ?_
              rintro e w8 ⟨rfl, hO8⟩
              refine hK.out _ _ ?_ (fun hHeld => ?_)
              · exact plan_keep hO8
              try simp only [Act.put, List.setIfInBounds_toArray, List.set_cons_zero, List.set_cons_succ]
              refine lin_sole (by kernel_rfl) (fun K hK => ?_)
              go_simp
              refine (C3.out _ _ hO8).mono ?_
              rintro e w9 ⟨rfl, hO9⟩
              refine hK.out _ _ ?_ (fun hHeld => ?_)
              · exact plan_keep hO9
              try simp only [Act.put, List.setIfInBounds_toArray, List.set_cons_zero, List.set_cons_succ]
              refine lin_sole (by kernel_rfl) (fun K hK => ?_)
              go_simp
              refine hK.out _ _ ?_ (fun hHeld => ?_)
              · exact plan_keep (hO9.alloc _)
              try simp only [Act.put, List.setIfInBounds_toArray, List.set_cons_zero, List.set_cons_succ]
              refine lin_law (by kernel_rfl) rfl ?_
              refine wpList_append_lit' _ rfl (.tmp 106) (.tmp 123) 42 rfl 3 i1 (.int .i64 0) 1 8 Try.underlying42 hi1 hw0 hw1' hw2' rfl (by decide) (.slice lo n3 lc) n3 ((idL n3).map (.int .i64)) rfl (hO9.row 2 rfl) #[.int .i64 n3, .int .i64 ((n3 : Int) + 1), .int .i64 ((n3 : Int) + 2), .int .i64 ((n3 : Int) + 3)] _ 4 _ rfl rfl rfl (by simp [Value.oneCell']) (by unfold maxLen; omega) (by omega) ?_
              intro ao2 cap2 wz hr2 ht2 hf2
              have hO9 := (hO9.move 2 rfl (Moves.of_append hr2 ht2 hf2)).cast (l' := [cellsA pb #[.int .i64 k, .int .i64 b, .int .i64 c, .int .i64 d] 24, intsA mb M zs, rowA 3 1 (.slice ao2 (n3 + 4) cap2) (n3 + 4) ((idL (n3 + 4)).map (.int .i64))]) (by rw [idL_app4]; rfl)
              refine wpList_nil ⟨rfl, ?_, fun hHeld => ?_⟩
              · exact plan_keep hO9
              try simp only [Act.put, List.setIfInBounds_toArray, List.set_cons_zero, List.set_cons_succ]
              refine lin_take (v := ?_) (by kernel_rfl) (by kernel_rfl) (fun _ _ _ h => h) (Or.inl ⟨by rfl, ?_⟩) (by assumption) ?_; (rotate_left; (intro wS hSw; (try dsimp only at hSw); go_simp; (try with_reducible rfl)); rotate_left); simp only [Act.put, List.setIfInBounds_toArray, List.set_cons_zero, List.set_cons_succ]
              refine lin_done (by kernel_rfl) ?_
              clear C0 C1 C2 C3 hHeld hO hO5 hO6 hO7 hO8 hr2 ht2 hf2 hS0 x0 x1 x2 x3
              go_wp2_with fail
              go_roundw
              case rel => exact ⟨q + 1, n3 + 4, ao2, cap2, by omega, by go_num, rfl, Lib.hid (by have := hn3.out; omega), hO9⟩
              case measure => simp [intOf]; omega
            · obtain rfl : q = c + 1 := by omega
              go_wp2_with fail
              go_roundw
              case rel => exact ⟨f + 1, n3, lo, lc, by omega, by go_num, rfl, Lib.hid (by have h1 := hn3.out; have h2 := hn2.out; have h3 := hR.out; rw [Nat.succ_mul]; omega), hO⟩
              case measure => simp [intOf]; omega
        · obtain rfl : f = b := by omega
          go_wp2_with fail
          clear x0 x1 x2 x3
          have hnM : n2 = M := by rw [hn2.out, hM.out]
          subst hnM
          have hz0 := hzs.out
          subst hz0
          have hlo := Lib.hid (fun (i : Nat) (hi : i < n2) (wx : World) (h : Row wx 3 1 (.slice lo n2 lc) n2 ((idL n2).map (.int .i64))) => show ∃ g off, lo = some ⟨g, off, none⟩ ∧ wx.cell? ⟨g, off + i, none⟩ = some (.int .i64 i) by
            obtain ⟨g3, off3, cap3, hv3, q1, q2, q3, q4⟩ := h.addr (by omega)
            simp only [Value.slice.injEq] at hv3
            refine ⟨g3, off3, hv3.1, ?_⟩
            rw [q3 i (by omega), getD_map (by rw [idL_length]; exact hi), idL_get hi])
          go_loopw [16] (fun v wr => ∃ i : Nat, i ≤ n2 ∧ v = .int .i64 i ∧ Own w wr [cellsA pb #[.int .i64 k, .int .i64 f, .int .i64 c, .int .i64 d] 24, intsA mb n2 (oneL n2 i), rowA 3 1 (.slice lo n2 lc) n2 ((idL n2).map (.int .i64))]) (fun v _ => (n2 - intOf v).toNat)
          case atStart => exact ⟨0, by omega, rfl, hO⟩
          case round =>
            clear hO
            obtain ⟨i, hi, rfl, hO⟩ := hrel
            by_cases hlt1 : i < n2
            · obtain ⟨g, off, rfl, y0⟩ := hlo.out i hlt1 _ (hO.row 2 rfl)
              have m0 := hO.ints_get 1 rfl (j := i) (by rw [oneL_length]; exact hlt1)
              rw [oneL_get hlt1, if_neg (by omega)] at m0
              have m1 := hO.ints_free 1 rfl (j := i) hlt1
              have hE := Lib.hid (hO.ints_set 1 rfl i 1 (oneL_set hlt1))
              clear hO
              go_wp2
              go_roundw
              case rel => exact ⟨i + 1, by omega, by go_num, hE.out⟩
              case measure => simp [intOf]; omega
            · obtain rfl : i = n2 := by omega
              go_wp2_with fail
              go_loop [17] (fun v => ∃ j : Nat, j ≤ i ∧ v = .int .i64 j) (fun v => (i - intOf v).toNat)
              case atStart => exact ⟨0, by omega, rfl⟩
              case round =>
                obtain ⟨j, hj, rfl⟩ := hrel
                by_cases hlt2 : j < i
                · have m0 := hO.ints_get 1 rfl (j := j) (by rw [oneL_length]; exact hlt2)
                  rw [oneL_get hlt2, if_pos hlt2] at m0
                  go_wp2
                  go_round
                  case rel => exact ⟨j + 1, by omega, by go_num⟩
                  case measure => simp [intOf]; omega
                · obtain rfl : j = i := by omega
                  go_wp2
                  go_ret
                  exact ⟨rfl, hO.below⟩
theorem walkLayoutApart (v0 v1 v2 v3 : Value) (w : World) (h0 : Arg Try.prog w 5 v0) (h1 : Arg Try.prog w 5 v1) (h2 : Arg Try.prog w 5 v2) (h3 : Arg Try.prog w 5 v3) :
    Calls Try.prog 6 #[v0, v1, v2, v3] w fun e w' => e = .returned (.bool true) ∧ Below w.heap.size w w' := by
  obtain ⟨m0, rfl, hs0⟩ := h0.int Try.underlying5
  obtain ⟨m1, rfl, hs1⟩ := h1.int Try.underlying5
  obtain ⟨m2, rfl, hs2⟩ := h2.int Try.underlying5
  obtain ⟨m3, rfl, hs3⟩ := h3.int Try.underlying5
  simp [Lit.wf, IntKind.min, IntKind.max, IntKind.signed, IntKind.bits] at hs0 hs1 hs2 hs3
  obtain ⟨m0, rfl⟩ : ∃ n : Nat, m0 = n := ⟨m0.toNat, by omega⟩
  obtain ⟨m1, rfl⟩ : ∃ n : Nat, m1 = n := ⟨m1.toNat, by omega⟩
  obtain ⟨m2, rfl⟩ : ∃ n : Nat, m2 = n := ⟨m2.toNat, by omega⟩
  obtain ⟨m3, rfl⟩ : ∃ n : Nat, m3 = n := ⟨m3.toNat, by omega⟩
  exact apart_core m0 m1 m2 m3 (m0 % 6 + 1) (m1 % 6 + 1) (m2 % 6 + 1) (m3 % 6 + 2) w (by omega) (by omega) (by omega) (by omega) (by omega) (by omega) (by omega) (by omega)
end Go.Proofs.Ytbadinmlnbabiaa
