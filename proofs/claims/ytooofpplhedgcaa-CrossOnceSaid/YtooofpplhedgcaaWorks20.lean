/- Works of chapter 20. -/
import Derived.Test.YtooofpplhedgcaaThrottle
set_option linter.unusedVariables false
set_option linter.unusedSimpArgs false
namespace Go.Proofs.Ytooofpplhedgcaa
open Go.RowKit
set_option maxRecDepth 100000
set_option maxHeartbeats 8000000
theorem plan20_any (w : World) : Calls Try.prog 25 #[] w fun e w' => e = .returned (.agg #[.int .i64 1, .int .i64 2, .int .i64 2, .int .i64 2]) ∧ Below w.heap.size w w' := by
  go_enter Try.func25, Try.ntmps25
  go_wp2
  exact bodyPost_ret (v := .agg #[.int .i64 1, .int .i64 2, .int .i64 2, .int .i64 2]) (by simp [results, Try.results25, go_sem]) rfl ⟨rfl, by go_grown⟩
theorem works20_any (w : World) : Calls Try.prog 24 #[] w fun e w' => e = .returned (.bool true) ∧ Below w.heap.size w w' := by
  have ok : okPlan 1 2 2 2 = true := by decide
  have SZ := Lib.hid (fun (w1 : World) (l : List Ast) (h : Own w w1 l) => Own.lift (size_ok ok w1) h (.int .i64 34) (by rw [show sizeV 1 2 2 2 = 34 by decide]))
  have NW := Lib.hid (fun (w1 : World) (l : List Ast) (h : Own w w1 l) => own_new h 34 (List.replicate 34 0) rfl)
  have RN := Lib.hid (fun (w1 : World) (l : List Ast) (h : Own w w1 l) => Own.lift (rnew_any 1 2 2 2 1 1 w1) h _ rfl)
  have SL := Lib.hid (fun (w1 : World) (l : List Ast) (h : Own w w1 l) => nap_new h 1 2 2 2 1 1 0)
  have CL := Lib.hid (fun (w1 : World) (l : List Ast) (h : Own w w1 l) => wake_new h 1 2 2 2 1 1 0 true)
  obtain ⟨m1, hm1⟩ : ∃ m1 : List Int, (List.replicate 34 (0 : Int)).set 7 1099511627776 = m1 := ⟨_, rfl⟩
  obtain ⟨m2, hm2⟩ : ∃ m2 : List Int, m1.set 11 1099511627776 = m2 := ⟨_, rfl⟩
  obtain ⟨m3, hm3⟩ : ∃ m3 : List Int, m2.set 7 0 = m3 := ⟨_, rfl⟩
  have l1 : m1.length = 34 := by rw [← hm1]; simp
  have l2 : m2.length = 34 := by rw [← hm2]; simp [l1]
  have v1 : m1.getD 11 0 = 0 := by rw [← hm1]; rfl
  have v2 : m2.getD 7 0 = 1099511627776 := by rw [← hm2, ← hm1]; rfl
  have N0 := Lib.hid (fun (w1 : World) (gs sb pb rb nb kb : Nat) (h : Own w w1 (storeA gs sb (List.replicate 34 0) :: [cellsA pb #[.int .i64 1, .int .i64 2, .int .i64 2, .int .i64 2] 26, cellsA rb #[.int .i64 1, .int .i64 2, .int .i64 2, .int .i64 2, .int .i64 1, .int .i64 1] 32, cellsA nb #[.int .i64 1, .int .i64 2, .int .i64 2, .int .i64 2, .int .i64 1, .int .i64 1, .int .i64 0, .int .i64 0, .bool false, .bool false] 101])) => nap_step0 1 1 0 ok 2 h rfl (at0 := 7) (by decide) (by simp) 1099511627776 (by decide) m1 hm1)
  have N1 := Lib.hid (fun (w1 : World) (gs sb pb rb nb kb : Nat) (h : Own w w1 (storeA gs sb m1 :: [cellsA pb #[.int .i64 1, .int .i64 2, .int .i64 2, .int .i64 2] 26, cellsA rb #[.int .i64 1, .int .i64 2, .int .i64 2, .int .i64 2, .int .i64 1, .int .i64 1] 32, cellsA nb #[.int .i64 1, .int .i64 2, .int .i64 2, .int .i64 2, .int .i64 1, .int .i64 1, .int .i64 0, .int .i64 1, .bool false, .bool false] 101])) => nap_step1 1 1 0 ok 2 h rfl (at0 := 11) (by decide) (by omega) 1099511627776 0 (by decide) v1 false true (by decide) rfl)
  have NB := Lib.hid (fun (w1 : World) (gs sb pb rb nb kb : Nat) (h : Own w w1 (storeA gs sb m3 :: [cellsA pb #[.int .i64 1, .int .i64 2, .int .i64 2, .int .i64 2] 26, cellsA rb #[.int .i64 1, .int .i64 2, .int .i64 2, .int .i64 2, .int .i64 1, .int .i64 1] 32, cellsA nb #[.int .i64 1, .int .i64 2, .int .i64 2, .int .i64 2, .int .i64 1, .int .i64 1, .int .i64 0, .int .i64 2, .bool true, .bool false] 101, cellsA kb #[.int .i64 1, .int .i64 2, .int .i64 2, .int .i64 2, .int .i64 1, .int .i64 1, .int .i64 0, .int .i64 2, .bool true, .bool true, .bool true] 103])) => nap_won 3 h rfl)
  have K0 := Lib.hid (fun (w1 : World) (gs sb pb rb nb kb : Nat) (h : Own w w1 (storeA gs sb m1 :: [cellsA pb #[.int .i64 1, .int .i64 2, .int .i64 2, .int .i64 2] 26, cellsA rb #[.int .i64 1, .int .i64 2, .int .i64 2, .int .i64 2, .int .i64 1, .int .i64 1] 32, cellsA nb #[.int .i64 1, .int .i64 2, .int .i64 2, .int .i64 2, .int .i64 1, .int .i64 1, .int .i64 0, .int .i64 2, .bool true, .bool false] 101, cellsA kb #[.int .i64 1, .int .i64 2, .int .i64 2, .int .i64 2, .int .i64 1, .int .i64 1, .int .i64 0, .int .i64 0, .bool false, .bool false, .bool true] 103])) => wake_step0 1 1 0 ok 3 h rfl (at0 := 11) (by decide) (by omega) 1099511627776 (by decide) m2 hm2 false rfl)
  have K1 := Lib.hid (fun (w1 : World) (gs sb pb rb nb kb : Nat) (h : Own w w1 (storeA gs sb m2 :: [cellsA pb #[.int .i64 1, .int .i64 2, .int .i64 2, .int .i64 2] 26, cellsA rb #[.int .i64 1, .int .i64 2, .int .i64 2, .int .i64 2, .int .i64 1, .int .i64 1] 32, cellsA nb #[.int .i64 1, .int .i64 2, .int .i64 2, .int .i64 2, .int .i64 1, .int .i64 1, .int .i64 0, .int .i64 2, .bool true, .bool false] 101, cellsA kb #[.int .i64 1, .int .i64 2, .int .i64 2, .int .i64 2, .int .i64 1, .int .i64 1, .int .i64 0, .int .i64 1, .bool false, .bool false, .bool true] 103])) => wake_step1 1 1 0 ok 3 h rfl (at0 := 7) (by decide) (by omega) 1099511627776 1099511627776 (by decide) v2 true false (by decide) rfl)
  have K2 := Lib.hid (fun (w1 : World) (gs sb pb rb nb kb : Nat) (h : Own w w1 (storeA gs sb m2 :: [cellsA pb #[.int .i64 1, .int .i64 2, .int .i64 2, .int .i64 2] 26, cellsA rb #[.int .i64 1, .int .i64 2, .int .i64 2, .int .i64 2, .int .i64 1, .int .i64 1] 32, cellsA nb #[.int .i64 1, .int .i64 2, .int .i64 2, .int .i64 2, .int .i64 1, .int .i64 1, .int .i64 0, .int .i64 2, .bool true, .bool false] 101, cellsA kb #[.int .i64 1, .int .i64 2, .int .i64 2, .int .i64 2, .int .i64 1, .int .i64 1, .int .i64 0, .int .i64 2, .bool false, .bool false, .bool true] 103])) => wake_step2_yes 1 1 0 ok 3 h rfl (at0 := 7) (by decide) (by omega) 1099511627776 (by decide) v2 m3 hm3)
  have KG := Lib.hid (fun (w1 : World) (gs sb pb rb nb kb : Nat) (h : Own w w1 (storeA gs sb m3 :: [cellsA pb #[.int .i64 1, .int .i64 2, .int .i64 2, .int .i64 2] 26, cellsA rb #[.int .i64 1, .int .i64 2, .int .i64 2, .int .i64 2, .int .i64 1, .int .i64 1] 32, cellsA nb #[.int .i64 1, .int .i64 2, .int .i64 2, .int .i64 2, .int .i64 1, .int .i64 1, .int .i64 0, .int .i64 2, .bool true, .bool false] 101, cellsA kb #[.int .i64 1, .int .i64 2, .int .i64 2, .int .i64 2, .int .i64 1, .int .i64 1, .int .i64 0, .int .i64 2, .bool true, .bool true, .bool true] 103])) => wake_won 4 h rfl)
  have M1 := Lib.hid (fun w => may_any 3 4 0 (by omega) (by omega) w true (by decide))
  have M2 := Lib.hid (fun w => may_any 4 4 0 (by omega) (by omega) w false (by decide))
  clear hm1 hm2 hm3 l1 l2 v1 v2 ok
  go_enter Try.func24, Try.ntmps24
  go_wp2_with fail
  go_at_call 25
  refine (plan20_any _).mono ?_
  rintro e w1 ⟨rfl, hb1⟩
  go_wp2_with fail
  have h1 := (Own.nil hb1).box #[.int .i64 1, .int .i64 2, .int .i64 2, .int .i64 2] 26
  go_at_call 12
  refine (SZ.out _ _ h1).mono ?_
  rintro e w2 ⟨rfl, h2⟩
  go_wp2_with fail
  go_at_call 11
  refine (NW.out _ _ h2).mono ?_
  rintro e w3 ⟨rfl, h3⟩
  have h4 := h3.sel [1, 0] (by decide)
  obtain ⟨x0, x1, x2, x3⟩ := cells4 1 h4 rfl
  clear h1 h2 h3
  generalize w2.heap.size = sb at *
  generalize w1.heap.size = pb at *
  go_wp2_with fail
  go_at_call 13
  refine (RN.out _ _ h4).mono ?_
  rintro e w5 ⟨rfl, h5⟩
  have h6 := h5.box #[.int .i64 1, .int .i64 2, .int .i64 2, .int .i64 2, .int .i64 1, .int .i64 1] 32
  clear h4 h5 x0 x1 x2 x3
  go_wp2_with fail
  go_at_call 26
  refine (SL.out _ _ h6).mono ?_
  rintro e w7 ⟨nb, rfl, h7⟩
  clear h6
  generalize w5.heap.size = rb at *
  obtain ⟨y0, y1, y2, y3, y4, y5⟩ := cells6 2 h7 rfl
  obtain ⟨x0, x1, x2, x3⟩ := cells4 1 h7 rfl
  go_wp2_with fail
  go_at_call 28
  refine (N0.out _ _ _ _ _ _ 0 h7).mono ?_
  rintro e w8 ⟨rfl, h8⟩
  clear h7
  clear x0 x1 x2 x3 y0 y1 y2 y3 y4 y5
  obtain ⟨y0, y1, y2, y3, y4, y5⟩ := cells6 2 h8 rfl
  obtain ⟨x0, x1, x2, x3⟩ := cells4 1 h8 rfl
  go_wp2_with fail
  go_at_call 28
  refine (N1.out _ _ _ _ _ _ 0 h8).mono ?_
  rintro e w9 ⟨rfl, h9⟩
  clear h8
  clear x0 x1 x2 x3 y0 y1 y2 y3 y4 y5
  obtain ⟨y0, y1, y2, y3, y4, y5⟩ := cells6 2 h9 rfl
  obtain ⟨x0, x1, x2, x3⟩ := cells4 1 h9 rfl
  go_wp2_with fail
  go_at_call 27
  refine (CL.out _ _ h9).mono ?_
  rintro e w10 ⟨kb, rfl, h10⟩
  clear h9
  clear x0 x1 x2 x3 y0 y1 y2 y3 y4 y5
  obtain ⟨y0, y1, y2, y3, y4, y5⟩ := cells6 2 h10 rfl
  obtain ⟨x0, x1, x2, x3⟩ := cells4 1 h10 rfl
  go_wp2_with fail
  go_at_call 30
  refine (K0.out _ _ _ _ _ _ _ h10).mono ?_
  rintro e w11 ⟨rfl, h11⟩
  clear h10
  clear x0 x1 x2 x3 y0 y1 y2 y3 y4 y5
  obtain ⟨y0, y1, y2, y3, y4, y5⟩ := cells6 2 h11 rfl
  obtain ⟨x0, x1, x2, x3⟩ := cells4 1 h11 rfl
  go_wp2_with fail
  go_at_call 30
  refine (K1.out _ _ _ _ _ _ _ h11).mono ?_
  rintro e w12 ⟨rfl, h12⟩
  clear h11
  clear x0 x1 x2 x3 y0 y1 y2 y3 y4 y5
  obtain ⟨y0, y1, y2, y3, y4, y5⟩ := cells6 2 h12 rfl
  obtain ⟨x0, x1, x2, x3⟩ := cells4 1 h12 rfl
  go_wp2_with fail
  go_at_call 30
  refine (K2.out _ _ _ _ _ _ _ h12).mono ?_
  rintro e w13 ⟨rfl, h13⟩
  clear h12
  clear x0 x1 x2 x3 y0 y1 y2 y3 y4 y5
  obtain ⟨y0, y1, y2, y3, y4, y5⟩ := cells6 2 h13 rfl
  obtain ⟨x0, x1, x2, x3⟩ := cells4 1 h13 rfl
  go_wp2_with fail
  go_at_call 12
  refine (SZ.out _ _ h13).mono ?_
  rintro e w14 ⟨rfl, h14⟩
  go_wp2_with (first | (go_at_call 29; refine (NB.out _ _ _ _ _ _ _ h14).mono ?_; rintro e w15 ⟨rfl, rfl⟩) | (go_at_call 31; refine (KG.out _ _ _ _ _ _ _ h14).mono ?_; rintro e w15 ⟨rfl, rfl⟩) | (go_at_call 32; ((with_reducible refine (M1.out _).mono ?_); rintro e w15 ⟨rfl, rfl⟩)) | (go_at_call 32; ((with_reducible refine (M2.out _).mono ?_); rintro e w15 ⟨rfl, rfl⟩)))
  go_ret
  exact ⟨rfl, h14.below⟩
end Go.Proofs.Ytooofpplhedgcaa
