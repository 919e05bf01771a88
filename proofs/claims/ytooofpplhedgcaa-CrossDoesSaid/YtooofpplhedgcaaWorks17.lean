/- Works of chapter 17. -/
import Derived.Test.YtooofpplhedgcaaRing
set_option linter.unusedVariables false
set_option linter.unusedSimpArgs false
namespace Go.Proofs.Ytooofpplhedgcaa
open Go.RowKit
theorem cells4 {w0 w : World} {pb : Nat} {v0 v1 v2 v3 : Value} {t : TypeId} {l : List Ast} (i : Nat) (h : Own w0 w l) (hi : l[i]? = some (cellsA pb #[v0, v1, v2, v3] t)) :
    w.cell? ⟨pb, 0, none⟩ = some v0 ∧ w.cell? ⟨pb, 1, none⟩ = some v1 ∧ w.cell? ⟨pb, 2, none⟩ = some v2 ∧ w.cell? ⟨pb, 3, none⟩ = some v3 :=
  ⟨(h.cget i hi 0).1, (h.cget i hi 1).1, (h.cget i hi 2).1, (h.cget i hi 3).1⟩
set_option maxRecDepth 100000
set_option maxHeartbeats 8000000
theorem plan17_any (w : World) : Calls Try.prog 10 #[] w fun e w' => e = .returned (.agg #[.int .i64 2, .int .i64 4, .int .i64 3, .int .i64 4]) ∧ Below w.heap.size w w' := by
  go_enter Try.func10, Try.ntmps10
  go_wp2
  exact bodyPost_ret (v := .agg #[.int .i64 2, .int .i64 4, .int .i64 3, .int .i64 4]) (by simp [results, Try.results10, go_sem]) rfl ⟨rfl, by go_grown⟩
theorem works17_any (w : World) : Calls Try.prog 9 #[] w fun e w' => e = .returned (.bool true) ∧ Below w.heap.size w w' := by
  have ok : okPlan 2 4 3 4 = true := by decide
  have SZ := Lib.hid (fun (w1 : World) (l : List Ast) (h : Own w w1 l) => Own.lift (size_ok ok w1) h (.int .i64 88) (by rw [show sizeV 2 4 3 4 = 88 by decide]))
  have NW := Lib.hid (fun (w1 : World) (l : List Ast) (h : Own w w1 l) => own_new h 88 (List.replicate 88 0) rfl)
  have RN := Lib.hid (fun (w1 : World) (l : List Ast) (h : Own w w1 l) => Own.lift (rnew_any 2 4 3 4 2 7 w1) h _ rfl)
  obtain ⟨m1, hm1⟩ : ∃ m1 : List Int, (List.replicate 88 (0 : Int)).set 40 9 = m1 := ⟨_, rfl⟩
  obtain ⟨m2, hm2⟩ : ∃ m2 : List Int, m1.set 41 7696586637315 = m2 := ⟨_, rfl⟩
  obtain ⟨m3, hm3⟩ : ∃ m3 : List Int, m2.set 47 7696587685888 = m3 := ⟨_, rfl⟩
  obtain ⟨m4, hm4⟩ : ∃ m4 : List Int, m3.set 35 7696582443008 = m4 := ⟨_, rfl⟩
  obtain ⟨m5, hm5⟩ : ∃ m5 : List Int, m4.set 41 0 = m5 := ⟨_, rfl⟩
  obtain ⟨m6, hm6⟩ : ∃ m6 : List Int, m5.set 35 0 = m6 := ⟨_, rfl⟩
  have G := Lib.hid (fun (w1 : World) (l : List Ast) (gs sb : Nat) (h : Own w w1 (storeA gs sb (List.replicate 88 0) :: l)) => r_go h ok 2 7 5 9 (at_ := 40) (by decide) (by simp) m1 hm1)
  have l1 : m1.length = 88 := by rw [← hm1]; simp
  have l2 : m2.length = 88 := by rw [← hm2]; simp [l1]
  have l3 : m3.length = 88 := by rw [← hm3]; simp [l2]
  have l4 : m4.length = 88 := by rw [← hm4]; simp [l3]
  have l5 : m5.length = 88 := by rw [← hm5]; simp [l4]
  have l6 : m6.length = 88 := by rw [← hm6]; simp [l5]
  have WT := Lib.hid (fun (w1 : World) (l : List Ast) (gs sb : Nat) (h : Own w w1 (storeA gs sb m1 :: l)) => r_wait h ok 2 7 5 3 (at_ := 41) (by decide) (by omega) 7696586637315 (by decide) m2 hm2)
  have EN := Lib.hid (fun (w1 : World) (l : List Ast) (gs sb : Nat) (h : Own w w1 (storeA gs sb m2 :: l)) => r_end h ok 2 7 6 (at_ := 47) (by decide) (by omega) 7696587685888 (by decide) m3 hm3)
  have SL := Lib.hid (fun (w1 : World) (l : List Ast) (gs sb : Nat) (h : Own w w1 (storeA gs sb m3 :: l)) => r_sleep h ok 2 7 1 (at_ := 35) (by decide) (by omega) 7696582443008 (by decide) m4 hm4)
  have v1 : m4.getD 40 0 = 9 := by rw [← hm4, ← hm3, ← hm2, ← hm1]; rfl
  have v2 : m4.getD 41 0 = 7696586637315 := by rw [← hm4, ← hm3, ← hm2, ← hm1]; rfl
  have v3 : m5.getD 41 0 ≠ 7696586637315 := by rw [← hm5, ← hm4, ← hm3, ← hm2, ← hm1]; decide
  have v4 : m5.getD 47 0 = 7696587685888 := by rw [← hm5, ← hm4, ← hm3, ← hm2, ← hm1]; rfl
  have v5 : m5.getD 35 0 = 7696582443008 := by rw [← hm5, ← hm4, ← hm3, ← hm2, ← hm1]; rfl
  have v6 : m6.getD 35 0 ≠ 7696582443008 := by rw [← hm6, ← hm5, ← hm4, ← hm3, ← hm2, ← hm1]; decide
  have CO := Lib.hid (fun (w1 : World) (l : List Ast) (gs sb : Nat) (h : Own w w1 (storeA gs sb m4 :: l)) => r_come h ok 2 7 5 (at_ := 40) (by decide) (by omega) 9 v1)
  have WS := Lib.hid (fun (w1 : World) (l : List Ast) (gs sb : Nat) (h : Own w w1 (storeA gs sb m4 :: l)) => r_waits h ok 2 7 5 (at_ := 41) (by decide) (by omega) 7696586637315 v2)
  have FY := Lib.hid (fun (w1 : World) (l : List Ast) (gs sb : Nat) (h : Own w w1 (storeA gs sb m4 :: l)) => r_free_yes h ok 2 7 5 3 (at_ := 41) (by decide) (by omega) 7696586637315 (by decide) v2 m5 hm5)
  have FN := Lib.hid (fun (w1 : World) (l : List Ast) (gs sb : Nat) (h : Own w w1 (storeA gs sb m5 :: l)) => r_free_no h ok 2 7 5 3 (at_ := 41) (by decide) (by omega) 7696586637315 (by decide) v3)
  have E1 := Lib.hid (fun (w1 : World) (l : List Ast) (gs sb : Nat) (h : Own w w1 (storeA gs sb m5 :: l)) => r_ended h ok 2 7 6 (at_ := 47) (by decide) (by omega) 7696587685888 7696587685888 (by decide) v4 true (by decide))
  have E2 := Lib.hid (fun (w1 : World) (l : List Ast) (gs sb : Nat) (h : Own w w1 (storeA gs sb m5 :: l)) => r_ended h ok 2 7 2 (at_ := 47) (by decide) (by omega) 7696583491584 7696587685888 (by decide) v4 false (by decide))
  have SP := Lib.hid (fun (w1 : World) (l : List Ast) (gs sb : Nat) (h : Own w w1 (storeA gs sb m5 :: l)) => r_sleeps h ok 2 7 1 (at_ := 35) (by decide) (by omega) 7696582443008 7696582443008 (by decide) v5 true (by decide))
  have RY := Lib.hid (fun (w1 : World) (l : List Ast) (gs sb : Nat) (h : Own w w1 (storeA gs sb m5 :: l)) => r_rouse_yes h ok 2 7 1 (at_ := 35) (by decide) (by omega) 7696582443008 (by decide) v5 m6 hm6)
  have RX := Lib.hid (fun (w1 : World) (l : List Ast) (gs sb : Nat) (h : Own w w1 (storeA gs sb m6 :: l)) => r_rouse_no h ok 2 7 1 (at_ := 35) (by decide) (by omega) 7696582443008 (by decide) v6)
  clear hm1 hm2 hm3 hm4 hm5 hm6 l1 l2 l3 l4 l5 l6 v1 v2 v3 v4 v5 v6 ok
  go_enter Try.func9, Try.ntmps9
  go_wp2_with fail
  go_at_call 10
  refine (plan17_any _).mono ?_
  rintro e w1 ⟨rfl, hb1⟩
  go_wp2_with fail
  have h1 := (Own.nil hb1).box #[.int .i64 2, .int .i64 4, .int .i64 3, .int .i64 4] 26
  go_at_call 12
  refine (SZ.out _ _ h1).mono ?_
  rintro e w2 ⟨rfl, h2⟩
  go_wp2_with fail
  go_at_call 11
  refine (NW.out _ _ h2).mono ?_
  rintro e w3 ⟨rfl, h3⟩
  have h4 := h3.sel [1, 0] (by decide)
  obtain ⟨x0, x1, x2, x3⟩ := cells4 1 h4 rfl
  clear h1 h2 h3
  generalize w2.heap.size = sb at *
  generalize w1.heap.size = pb at *
  go_wp2_with fail
  go_at_call 13
  refine (RN.out _ _ h4).mono ?_
  rintro e w5 ⟨rfl, h5⟩
  go_wp2_with fail
  have h6 := h5.box #[.int .i64 2, .int .i64 4, .int .i64 3, .int .i64 4, .int .i64 2, .int .i64 7] 32
  clear h4 h5 x0 x1 x2 x3
  go_at_call 50
  refine (G.out _ _ _ _ h6).mono ?_
  rintro e w7 ⟨rfl, h7⟩
  clear h6
  generalize w5.heap.size = rb at *
  obtain ⟨x0, x1, x2, x3⟩ := cells4 1 h7 rfl
  obtain ⟨y0, y1, y2, y3, y4, y5⟩ := cells6 2 h7 rfl
  go_wp2_with fail
  go_at_call 14
  refine (WT.out _ _ _ _ h7).mono ?_
  rintro e w8 ⟨rfl, h8⟩
  clear h7 x0 x1 x2 x3 y0 y1 y2 y3 y4 y5
  obtain ⟨x0, x1, x2, x3⟩ := cells4 1 h8 rfl
  obtain ⟨y0, y1, y2, y3, y4, y5⟩ := cells6 2 h8 rfl
  go_wp2_with fail
  go_at_call 15
  refine (EN.out _ _ _ _ h8).mono ?_
  rintro e w9 ⟨rfl, h9⟩
  clear h8 x0 x1 x2 x3 y0 y1 y2 y3 y4 y5
  obtain ⟨x0, x1, x2, x3⟩ := cells4 1 h9 rfl
  obtain ⟨y0, y1, y2, y3, y4, y5⟩ := cells6 2 h9 rfl
  go_wp2_with fail
  go_at_call 16
  refine (SL.out _ _ _ _ h9).mono ?_
  rintro e w10 ⟨rfl, h10⟩
  clear h9 x0 x1 x2 x3 y0 y1 y2 y3 y4 y5
  obtain ⟨x0, x1, x2, x3⟩ := cells4 1 h10 rfl
  obtain ⟨y0, y1, y2, y3, y4, y5⟩ := cells6 2 h10 rfl
  go_wp2_with fail
  go_at_call 12
  refine (SZ.out _ _ h10).mono ?_
  rintro e w11 ⟨rfl, h11⟩
  clear h10 x0 x1 x2 x3 y0 y1 y2 y3 y4 y5
  obtain ⟨x0, x1, x2, x3⟩ := cells4 1 h11 rfl
  obtain ⟨y0, y1, y2, y3, y4, y5⟩ := cells6 2 h11 rfl
  go_wp2_with fail
  go_at_call 51
  refine (CO.out _ _ _ _ h11).mono ?_
  rintro e w12 ⟨rfl, h12⟩
  clear h11 x0 x1 x2 x3 y0 y1 y2 y3 y4 y5
  obtain ⟨x0, x1, x2, x3⟩ := cells4 1 h12 rfl
  obtain ⟨y0, y1, y2, y3, y4, y5⟩ := cells6 2 h12 rfl
  go_wp2_with fail
  go_at_call 52
  refine (WS.out _ _ _ _ h12).mono ?_
  rintro e w13 ⟨rfl, h13⟩
  clear h12 x0 x1 x2 x3 y0 y1 y2 y3 y4 y5
  obtain ⟨x0, x1, x2, x3⟩ := cells4 1 h13 rfl
  obtain ⟨y0, y1, y2, y3, y4, y5⟩ := cells6 2 h13 rfl
  go_wp2_with fail
  go_at_call 19
  refine (FY.out _ _ _ _ h13).mono ?_
  rintro e w14 ⟨rfl, h14⟩
  clear h13 x0 x1 x2 x3 y0 y1 y2 y3 y4 y5
  obtain ⟨x0, x1, x2, x3⟩ := cells4 1 h14 rfl
  obtain ⟨y0, y1, y2, y3, y4, y5⟩ := cells6 2 h14 rfl
  go_wp2_with fail
  go_at_call 19
  refine (FN.out _ _ _ _ h14).mono ?_
  rintro e w15 ⟨rfl, h15⟩
  clear h14 x0 x1 x2 x3 y0 y1 y2 y3 y4 y5
  obtain ⟨x0, x1, x2, x3⟩ := cells4 1 h15 rfl
  obtain ⟨y0, y1, y2, y3, y4, y5⟩ := cells6 2 h15 rfl
  go_wp2_with fail
  go_at_call 17
  refine (E1.out _ _ _ _ h15).mono ?_
  rintro e w16 ⟨rfl, h16⟩
  clear h15 x0 x1 x2 x3 y0 y1 y2 y3 y4 y5
  obtain ⟨x0, x1, x2, x3⟩ := cells4 1 h16 rfl
  obtain ⟨y0, y1, y2, y3, y4, y5⟩ := cells6 2 h16 rfl
  go_wp2_with fail
  go_at_call 17
  refine (E2.out _ _ _ _ h16).mono ?_
  rintro e w17 ⟨rfl, h17⟩
  clear h16 x0 x1 x2 x3 y0 y1 y2 y3 y4 y5
  obtain ⟨x0, x1, x2, x3⟩ := cells4 1 h17 rfl
  obtain ⟨y0, y1, y2, y3, y4, y5⟩ := cells6 2 h17 rfl
  go_wp2_with fail
  go_at_call 18
  refine (SP.out _ _ _ _ h17).mono ?_
  rintro e w18 ⟨rfl, h18⟩
  clear h17 x0 x1 x2 x3 y0 y1 y2 y3 y4 y5
  obtain ⟨x0, x1, x2, x3⟩ := cells4 1 h18 rfl
  obtain ⟨y0, y1, y2, y3, y4, y5⟩ := cells6 2 h18 rfl
  go_wp2_with fail
  go_at_call 20
  refine (RY.out _ _ _ _ h18).mono ?_
  rintro e w19 ⟨rfl, h19⟩
  clear h18 x0 x1 x2 x3 y0 y1 y2 y3 y4 y5
  obtain ⟨x0, x1, x2, x3⟩ := cells4 1 h19 rfl
  obtain ⟨y0, y1, y2, y3, y4, y5⟩ := cells6 2 h19 rfl
  go_wp2_with fail
  go_at_call 20
  refine (RX.out _ _ _ _ h19).mono ?_
  rintro e w20 ⟨rfl, h20⟩
  clear h19 x0 x1 x2 x3 y0 y1 y2 y3 y4 y5
  obtain ⟨x0, x1, x2, x3⟩ := cells4 1 h20 rfl
  obtain ⟨y0, y1, y2, y3, y4, y5⟩ := cells6 2 h20 rfl
  go_wp2_with fail
  go_ret
  exact ⟨rfl, h20.below⟩
end Go.Proofs.Ytooofpplhedgcaa
