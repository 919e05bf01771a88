/- Works of chapter 19. -/
import Derived.Test.YtooofpplhedgcaaCross
set_option linter.unusedVariables false
set_option linter.unusedSimpArgs false
namespace Go.Proofs.Ytooofpplhedgcaa
open Go.RowKit
set_option maxRecDepth 100000
set_option maxHeartbeats 8000000
theorem plan19_any (w : World) : Calls Try.prog 34 #[] w fun e w' => e = .returned (.agg #[.int .i64 1, .int .i64 3, .int .i64 3, .int .i64 3]) ∧ Below w.heap.size w w' := by
  go_enter Try.func34, Try.ntmps34
  go_wp2
  exact bodyPost_ret (v := .agg #[.int .i64 1, .int .i64 3, .int .i64 3, .int .i64 3]) (by simp [results, Try.results34, go_sem]) rfl ⟨rfl, by go_grown⟩
theorem works19_any (w : World) : Calls Try.prog 33 #[] w fun e w' => e = .returned (.bool true) ∧ Below w.heap.size w w' := by
  have ok : okPlan 1 3 3 3 = true := by decide
  have SZ := Lib.hid (fun (w1 : World) (l : List Ast) (h : Own w w1 l) => Own.lift (size_ok ok w1) h (.int .i64 61) (by rw [show sizeV 1 3 3 3 = 61 by decide]))
  have NW := Lib.hid (fun (w1 : World) (l : List Ast) (h : Own w w1 l) => own_new h 61 (List.replicate 61 0) rfl)
  have RN := Lib.hid (fun (w1 : World) (l : List Ast) (h : Own w w1 l) => Own.lift (rnew_any 1 3 3 3 2 1 w1) h _ rfl)
  have SL := Lib.hid (fun (w1 : World) (l : List Ast) (h : Own w w1 l) => park_new h 1 3 3 3 2 1 1 4)
  have CL := Lib.hid (fun (w1 : World) (l : List Ast) (h : Own w w1 l) => right_new h 1 3 3 3 2 1 0 1 5 (IntWalk.wrap64_in _ (by omega)))
  obtain ⟨m1, hm1⟩ : ∃ m1 : List Int, (List.replicate 61 (0 : Int)).set 33 3 = m1 := ⟨_, rfl⟩
  obtain ⟨m2, hm2⟩ : ∃ m2 : List Int, m1.set 32 1099512676356 = m2 := ⟨_, rfl⟩
  obtain ⟨m3, hm3⟩ : ∃ m3 : List Int, m2.set 27 5 = m3 := ⟨_, rfl⟩
  obtain ⟨m4, hm4⟩ : ∃ m4 : List Int, m3.set 32 0 = m4 := ⟨_, rfl⟩
  have l1 : m1.length = 61 := by rw [← hm1]; simp
  have l2 : m2.length = 61 := by rw [← hm2]; simp [l1]
  have l3 : m3.length = 61 := by rw [← hm3]; simp [l2]
  have l4 : m4.length = 61 := by rw [← hm4]; simp [l3]
  have v2 : m2.getD 27 0 = 0 := by rw [← hm2, ← hm1]; rfl
  have v3 : m3.getD 32 0 = 1099512676356 := by rw [← hm3, ← hm2, ← hm1]; rfl
  have v4 : m4.getD 33 0 = 3 := by rw [← hm4, ← hm3, ← hm2, ← hm1]; rfl
  have LK := Lib.hid (fun (w1 : World) (gs sb pb rb nb kb : Nat) (h : Own w w1 (storeA gs sb (List.replicate 61 0) :: [cellsA pb #[.int .i64 1, .int .i64 3, .int .i64 3, .int .i64 3] 26, cellsA rb #[.int .i64 1, .int .i64 3, .int .i64 3, .int .i64 3, .int .i64 2, .int .i64 1] 32])) => r_link h ok 2 1 1 3 (at_ := 33) (by decide) (by simp) m1 hm1)
  have N0 := Lib.hid (fun (w1 : World) (gs sb pb rb nb kb : Nat) (h : Own w w1 (storeA gs sb m1 :: [cellsA pb #[.int .i64 1, .int .i64 3, .int .i64 3, .int .i64 3] 26, cellsA rb #[.int .i64 1, .int .i64 3, .int .i64 3, .int .i64 3, .int .i64 2, .int .i64 1] 32, cellsA nb #[.int .i64 1, .int .i64 3, .int .i64 3, .int .i64 3, .int .i64 2, .int .i64 1, .int .i64 1, .int .i64 4, .int .i64 0, .bool false] 109])) => park_step0 2 1 1 ok 2 h rfl (at0 := 32) (by decide) (by omega) 1099512676356 (by decide) m2 hm2)
  have N1 := Lib.hid (fun (w1 : World) (gs sb pb rb nb kb : Nat) (h : Own w w1 (storeA gs sb m2 :: [cellsA pb #[.int .i64 1, .int .i64 3, .int .i64 3, .int .i64 3] 26, cellsA rb #[.int .i64 1, .int .i64 3, .int .i64 3, .int .i64 3, .int .i64 2, .int .i64 1] 32, cellsA nb #[.int .i64 1, .int .i64 3, .int .i64 3, .int .i64 3, .int .i64 2, .int .i64 1, .int .i64 1, .int .i64 4, .int .i64 1, .bool false] 109])) => park_step1 2 1 1 ok 2 h rfl 0 (IntWalk.wrap64_in _ (by omega)) (at0 := 27) (by decide) (by omega) 0 v2 false (by decide) 3 true (.inr ⟨rfl, rfl, rfl⟩))
  have GO := Lib.hid (fun (w1 : World) (gs sb pb rb nb kb : Nat) (h : Own w w1 (storeA gs sb m2 :: [cellsA pb #[.int .i64 1, .int .i64 3, .int .i64 3, .int .i64 3] 26, cellsA rb #[.int .i64 1, .int .i64 3, .int .i64 3, .int .i64 3, .int .i64 2, .int .i64 1] 32, cellsA nb #[.int .i64 1, .int .i64 3, .int .i64 3, .int .i64 3, .int .i64 2, .int .i64 1, .int .i64 1, .int .i64 4, .int .i64 3, .bool false] 109])) => r_go h ok 2 1 0 5 (at_ := 27) (by decide) (by omega) m3 hm3)
  have K0 := Lib.hid (fun (w1 : World) (gs sb pb rb nb kb : Nat) (h : Own w w1 (storeA gs sb m3 :: [cellsA pb #[.int .i64 1, .int .i64 3, .int .i64 3, .int .i64 3] 26, cellsA rb #[.int .i64 1, .int .i64 3, .int .i64 3, .int .i64 3, .int .i64 2, .int .i64 1] 32, cellsA nb #[.int .i64 1, .int .i64 3, .int .i64 3, .int .i64 3, .int .i64 2, .int .i64 1, .int .i64 1, .int .i64 4, .int .i64 3, .bool false] 109, cellsA kb #[.int .i64 1, .int .i64 3, .int .i64 3, .int .i64 3, .int .i64 2, .int .i64 1, .int .i64 1, .int .i64 5, .int .i64 0, .int .i64 0, .int .i64 0, .bool false] 107])) => right_step0 2 1 1 ok 3 h rfl (at0 := 32) (by decide) (by omega) 1099512676356 v3 true (by decide) 4 (by decide) 1 false (.inl ⟨rfl, rfl, rfl⟩))
  have K1 := Lib.hid (fun (w1 : World) (gs sb pb rb nb kb : Nat) (h : Own w w1 (storeA gs sb m3 :: [cellsA pb #[.int .i64 1, .int .i64 3, .int .i64 3, .int .i64 3] 26, cellsA rb #[.int .i64 1, .int .i64 3, .int .i64 3, .int .i64 3, .int .i64 2, .int .i64 1] 32, cellsA nb #[.int .i64 1, .int .i64 3, .int .i64 3, .int .i64 3, .int .i64 2, .int .i64 1, .int .i64 1, .int .i64 4, .int .i64 3, .bool false] 109, cellsA kb #[.int .i64 1, .int .i64 3, .int .i64 3, .int .i64 3, .int .i64 2, .int .i64 1, .int .i64 1, .int .i64 5, .int .i64 4, .int .i64 1, .int .i64 0, .bool false] 107])) => right_step1_yes 2 1 1 ok 3 h rfl (at0 := 32) (by decide) (by omega) 1099512676356 (by decide) v3 m4 hm4)
  have K2 := Lib.hid (fun (w1 : World) (gs sb pb rb nb kb : Nat) (h : Own w w1 (storeA gs sb m4 :: [cellsA pb #[.int .i64 1, .int .i64 3, .int .i64 3, .int .i64 3] 26, cellsA rb #[.int .i64 1, .int .i64 3, .int .i64 3, .int .i64 3, .int .i64 2, .int .i64 1] 32, cellsA nb #[.int .i64 1, .int .i64 3, .int .i64 3, .int .i64 3, .int .i64 2, .int .i64 1, .int .i64 1, .int .i64 4, .int .i64 3, .bool false] 109, cellsA kb #[.int .i64 1, .int .i64 3, .int .i64 3, .int .i64 3, .int .i64 2, .int .i64 1, .int .i64 1, .int .i64 5, .int .i64 4, .int .i64 2, .int .i64 0, .bool false] 107])) => right_step2 2 1 1 ok 3 h rfl (at0 := 33) (by decide) (by omega) 3 v4)
  have RG := Lib.hid (fun (w1 : World) (gs sb pb rb nb kb : Nat) (h : Own w w1 (storeA gs sb m4 :: [cellsA pb #[.int .i64 1, .int .i64 3, .int .i64 3, .int .i64 3] 26, cellsA rb #[.int .i64 1, .int .i64 3, .int .i64 3, .int .i64 3, .int .i64 2, .int .i64 1] 32, cellsA nb #[.int .i64 1, .int .i64 3, .int .i64 3, .int .i64 3, .int .i64 2, .int .i64 1, .int .i64 1, .int .i64 4, .int .i64 3, .bool false] 109, cellsA kb #[.int .i64 1, .int .i64 3, .int .i64 3, .int .i64 3, .int .i64 2, .int .i64 1, .int .i64 1, .int .i64 5, .int .i64 4, .int .i64 3, .int .i64 3, .bool true] 107])) => right_got 4 h rfl)
  have PB := Lib.hid (fun (w1 : World) (gs sb pb rb nb kb : Nat) (h : Own w w1 (storeA gs sb m4 :: [cellsA pb #[.int .i64 1, .int .i64 3, .int .i64 3, .int .i64 3] 26, cellsA rb #[.int .i64 1, .int .i64 3, .int .i64 3, .int .i64 3, .int .i64 2, .int .i64 1] 32, cellsA nb #[.int .i64 1, .int .i64 3, .int .i64 3, .int .i64 3, .int .i64 2, .int .i64 1, .int .i64 1, .int .i64 4, .int .i64 3, .bool false] 109, cellsA kb #[.int .i64 1, .int .i64 3, .int .i64 3, .int .i64 3, .int .i64 2, .int .i64 1, .int .i64 1, .int .i64 5, .int .i64 4, .int .i64 3, .int .i64 3, .bool true] 107])) => park_back 3 h rfl)
  clear hm1 hm2 hm3 hm4 l1 l2 l3 l4 v2 v3 v4 ok
  go_enter Try.func33, Try.ntmps33
  go_wp2_with fail
  go_at_call 34
  refine (plan19_any _).mono ?_
  rintro e w1 ⟨rfl, hb1⟩
  go_wp2_with fail
  have h1 := (Own.nil hb1).box #[.int .i64 1, .int .i64 3, .int .i64 3, .int .i64 3] 26
  go_at_call 12
  refine (SZ.out _ _ h1).mono ?_
  rintro e w2 ⟨rfl, h2⟩
  go_wp2_with fail
  go_at_call 11
  refine (NW.out _ _ h2).mono ?_
  rintro e w3 ⟨rfl, h3⟩
  have h4 := h3.sel [1, 0] (by decide)
  obtain ⟨x0, x1, x2, x3⟩ := cells4 1 h4 rfl
  clear h1 h2 h3
  generalize w2.heap.size = sb at *
  generalize w1.heap.size = pb at *
  go_wp2_with fail
  go_at_call 13
  refine (RN.out _ _ h4).mono ?_
  rintro e w5 ⟨rfl, h5⟩
  have h6 := h5.box #[.int .i64 1, .int .i64 3, .int .i64 3, .int .i64 3, .int .i64 2, .int .i64 1] 32
  clear h4 h5 x0 x1 x2 x3
  go_wp2_with fail
  generalize w5.alloc (.cells #[.int .i64 1, .int .i64 3, .int .i64 3, .int .i64 3, .int .i64 2, .int .i64 1] 32) = w6 at *
  generalize w5.heap.size = rb at *
  obtain ⟨y0, y1, y2, y3, y4, y5⟩ := cells6 2 h6 rfl
  obtain ⟨x0, x1, x2, x3⟩ := cells4 1 h6 rfl
  go_wp2_with fail
  go_at_call 35
  refine (LK.out _ _ _ _ _ 0 0 h6).mono ?_
  rintro e w7 ⟨rfl, h7⟩
  clear h6
  clear x0 x1 x2 x3 y0 y1 y2 y3 y4 y5
  obtain ⟨y0, y1, y2, y3, y4, y5⟩ := cells6 2 h7 rfl
  obtain ⟨x0, x1, x2, x3⟩ := cells4 1 h7 rfl
  go_wp2_with fail
  go_at_call 39
  refine (SL.out _ _ h7).mono ?_
  rintro e w8 ⟨nb, rfl, h8⟩
  clear h7
  clear x0 x1 x2 x3 y0 y1 y2 y3 y4 y5
  obtain ⟨y0, y1, y2, y3, y4, y5⟩ := cells6 2 h8 rfl
  obtain ⟨x0, x1, x2, x3⟩ := cells4 1 h8 rfl
  go_wp2_with fail
  go_at_call 46
  refine (N0.out _ _ _ _ _ _ 0 h8).mono ?_
  rintro e w9 ⟨rfl, h9⟩
  clear h8
  clear x0 x1 x2 x3 y0 y1 y2 y3 y4 y5
  obtain ⟨y0, y1, y2, y3, y4, y5⟩ := cells6 2 h9 rfl
  obtain ⟨x0, x1, x2, x3⟩ := cells4 1 h9 rfl
  go_wp2_with fail
  go_at_call 46
  refine (N1.out _ _ _ _ _ _ 0 h9).mono ?_
  rintro e w10 ⟨rfl, h10⟩
  clear h9
  clear x0 x1 x2 x3 y0 y1 y2 y3 y4 y5
  obtain ⟨y0, y1, y2, y3, y4, y5⟩ := cells6 2 h10 rfl
  obtain ⟨x0, x1, x2, x3⟩ := cells4 1 h10 rfl
  go_wp2_with fail
  go_at_call 50
  refine (GO.out _ _ _ _ _ _ 0 h10).mono ?_
  rintro e w11 ⟨rfl, h11⟩
  clear h10
  clear x0 x1 x2 x3 y0 y1 y2 y3 y4 y5
  obtain ⟨y0, y1, y2, y3, y4, y5⟩ := cells6 2 h11 rfl
  obtain ⟨x0, x1, x2, x3⟩ := cells4 1 h11 rfl
  go_wp2_with fail
  go_at_call 38
  refine (CL.out _ _ h11).mono ?_
  rintro e w12 ⟨kb, rfl, h12⟩
  clear h11
  clear x0 x1 x2 x3 y0 y1 y2 y3 y4 y5
  obtain ⟨y0, y1, y2, y3, y4, y5⟩ := cells6 2 h12 rfl
  obtain ⟨x0, x1, x2, x3⟩ := cells4 1 h12 rfl
  go_wp2_with fail
  go_at_call 44
  refine (K0.out _ _ _ _ _ _ _ h12).mono ?_
  rintro e w13 ⟨rfl, h13⟩
  clear h12
  clear x0 x1 x2 x3 y0 y1 y2 y3 y4 y5
  obtain ⟨y0, y1, y2, y3, y4, y5⟩ := cells6 2 h13 rfl
  obtain ⟨x0, x1, x2, x3⟩ := cells4 1 h13 rfl
  go_wp2_with fail
  go_at_call 44
  refine (K1.out _ _ _ _ _ _ _ h13).mono ?_
  rintro e w14 ⟨rfl, h14⟩
  clear h13
  clear x0 x1 x2 x3 y0 y1 y2 y3 y4 y5
  obtain ⟨y0, y1, y2, y3, y4, y5⟩ := cells6 2 h14 rfl
  obtain ⟨x0, x1, x2, x3⟩ := cells4 1 h14 rfl
  go_wp2_with fail
  go_at_call 44
  refine (K2.out _ _ _ _ _ _ _ h14).mono ?_
  rintro e w15 ⟨rfl, h15⟩
  clear h14
  clear x0 x1 x2 x3 y0 y1 y2 y3 y4 y5
  obtain ⟨y0, y1, y2, y3, y4, y5⟩ := cells6 2 h15 rfl
  obtain ⟨x0, x1, x2, x3⟩ := cells4 1 h15 rfl
  go_wp2_with fail
  go_at_call 45
  refine (RG.out _ _ _ _ _ _ _ h15).mono ?_
  rintro e w16 ⟨rfl, h16⟩
  clear h15
  clear x0 x1 x2 x3 y0 y1 y2 y3 y4 y5
  obtain ⟨y0, y1, y2, y3, y4, y5⟩ := cells6 2 h16 rfl
  obtain ⟨x0, x1, x2, x3⟩ := cells4 1 h16 rfl
  go_wp2_with fail
  go_at_call 12
  refine (SZ.out _ _ h16).mono ?_
  rintro e w17 ⟨rfl, h17⟩
  go_wp2_with (go_at_call 47; refine (PB.out _ _ _ _ _ _ _ h17).mono ?_; rintro e w18 ⟨rfl, rfl⟩)
  go_ret
  exact ⟨rfl, h17.below⟩
end Go.Proofs.Ytooofpplhedgcaa
