/- The walk through the law FrameNone. -/
import Derived.Test.YtbadinmlnbabiaaWorks16b
import Derived.Test.YtbadinmlnbabiaaPlanArg
import Derived.Test.YtbadinmlnbabiaaLin
set_option linter.unusedVariables false
set_option linter.unusedSimpArgs false
namespace Go.Proofs.Ytbadinmlnbabiaa
open Go.RowKit
set_option maxRecDepth 100000
set_option maxHeartbeats 8000000
theorem fnone_core (a b c d : Int) (w : World) : Calls Try.prog 11 #[.agg #[.int .i64 a, .int .i64 b, .int .i64 c, .int .i64 d]] w fun e w' => e = .returned (.bool true) ∧ Below w.heap.size w w' := by
  have hO := (Own.nil (Below.refl _ w)).box #[.int .i64 a, .int .i64 b, .int .i64 c, .int .i64 d] 24
  have CK := fun w => check_any a b c d w
  have hck : checkOf a b c d = if okPlan a b c d = true then 0 else 3 := rfl
  obtain ⟨o, hok⟩ : ∃ o, okPlan a b c d = o := ⟨_, rfl⟩
  rw [hok] at hck
  rw [hck] at CK
  replace CK := Lib.hid CK
  replace hok := Lib.hid hok
  clear hck
  go_enter Try.func11, Try.ntmps11
  go_wp2_with fail
  go_at_call 43
  refine (works16_any _).mono ?_
  rintro e w1 ⟨rfl, hb1⟩
  have hO1 := hO.grow hb1
  generalize w.alloc (.cells #[.int .i64 a, .int .i64 b, .int .i64 c, .int .i64 d] 24) = u at *
  generalize hpb : w.heap.size = pb at hO1 ⊢
  clear hpb hO hb1
  obtain ⟨x0, x1, x2, x3⟩ := cells4p 0 hO1 rfl
  go_wp2_with fail
  go_at_call 14
  refine (CK.out _).mono ?_
  rintro e w2 ⟨rfl, hb2⟩
  have hO2 := hO1.grow hb2
  clear hO1 hb2 x0 x1 x2 x3 CK
  cases o with
  | true =>
    go_wp2
    go_ret
    exact ⟨rfl, hO2.below⟩
  | false =>
  simp only [Bool.false_eq_true, if_false]
  go_wp2_with fail
  have hB : Own w w2.drew [cellsA pb #[.int .i64 a, .int .i64 b, .int .i64 c, .int .i64 d] 24] := hO2.drewN 1
  have hS0 : (fun w' => w'.cell? ⟨pb, 0, none⟩ = some (.int .i64 a) ∧ w'.cell? ⟨pb, 1, none⟩ = some (.int .i64 b) ∧ w'.cell? ⟨pb, 2, none⟩ = some (.int .i64 c) ∧ w'.cell? ⟨pb, 3, none⟩ = some (.int .i64 d)) w2.drew := cells4p 0 hB rfl
  clear hO2
  refine lin_start (S := (fun w' => w'.cell? ⟨pb, 0, none⟩ = some (.int .i64 a) ∧ w'.cell? ⟨pb, 1, none⟩ = some (.int .i64 b) ∧ w'.cell? ⟨pb, 2, none⟩ = some (.int .i64 c) ∧ w'.cell? ⟨pb, 3, none⟩ = some (.int .i64 d))) rfl 4 rfl hS0 ?_
  simp only [numbered, Nat.zero_add, Nat.reduceAdd]
  generalize w2.drew = u0 at *
  refine lin_take (v := ?_) (by kernel_rfl) (by kernel_rfl) (fun _ _ _ h => h) (Or.inl ⟨by rfl, ?_⟩) (by assumption) ?_; (rotate_left; (intro wS hSw; (try dsimp only at hSw); go_simp; (try with_reducible rfl)); rotate_left); simp only [Act.put, List.setIfInBounds_toArray, List.set_cons_zero, List.set_cons_succ]
  refine lin_sole (by kernel_rfl) (fun K hK => ?_)
  go_simp
  refine (own_new hB 100 (List.replicate 100 0) rfl).mono ?_
  rintro e w4 ⟨rfl, hO4⟩
  have hO5 := hO4.sel [1, 0] (by decide)
  replace hO5 : Own w w4 (storeA (u0.heap.size + 1) u0.heap.size (List.replicate 100 0) :: [cellsA pb #[.int .i64 a, .int .i64 b, .int .i64 c, .int .i64 d] 24]) := hO5
  refine hK.out _ _ ?_ (fun hHeld => ?_)
  · exact cells4p 1 hO5 rfl
  try simp only [Act.put, List.setIfInBounds_toArray, List.set_cons_zero, List.set_cons_succ]
  clear hK hB hO4
  generalize u0.heap.size + 1 = gs at *
  generalize u0.heap.size = sb at *
  refine lin_sole (by kernel_rfl) (fun K hK => ?_)
  go_simp
  refine (tnew_any hO5 a b c d 0 (by rw [hok.out]; rfl) (by decide)).mono ?_
  rintro e w5 ⟨tb, ag, hb, rb, rfl, hT⟩
  refine hK.out _ _ ?_ (fun hHeld => ?_)
  · obtain ⟨bv, hO⟩ := hT
    exact cells4p 6 hO rfl
  try simp only [Act.put, List.setIfInBounds_toArray, List.set_cons_zero, List.set_cons_succ]
  clear hK hO5
  refine lin_take (v := ?_) (by kernel_rfl) (by kernel_rfl) (fun _ _ _ h => h) (Or.inl ⟨by rfl, ?_⟩) (by assumption) ?_; (rotate_left; (intro wS hSw; (try dsimp only at hSw); go_simp; (try with_reducible rfl)); rotate_left); simp only [Act.put, List.setIfInBounds_toArray, List.set_cons_zero, List.set_cons_succ]
  refine lin_done (by kernel_rfl) ?_
  go_wp2_with fail
  go_at_call 47
  refine (root_any _).mono ?_
  rintro e w6 ⟨rfl, hb6⟩
  have hT6 : TOwn w w6 tb gs sb ag hb rb 1 a b c d (List.replicate 100 0) _ [false] [] 0 0 [cellsA pb #[.int .i64 a, .int .i64 b, .int .i64 c, .int .i64 d] 24] := AOwn.grow hT hb6
  clear hT hb6 hHeld
  generalize (madeCells _ _).toList = xs at *
  generalize List.replicate 100 (0 : Int) = ms at *
  go_wp2_with fail
  go_at_call 50
  refine (make_no hT6 (by decide) (by decide) (by decide) rootV).mono ?_
  rintro e w7 ⟨rfl, hT7⟩
  clear hT6
  go_wp2_with fail
  go_at_call 51
  refine (at_no hT7 (by decide) 1 (by decide)).mono ?_
  rintro e w8 ⟨rfl, rfl⟩
  have TU := tused hT7 (by decide)
  rw [show cnt [false] = 0 by decide] at TU
  go_wp2_with fail
  go_at_call 52
  refine TU.mono ?_
  rintro e w9 ⟨rfl, hT9⟩
  clear hT7 TU
  go_wp2_with fail
  go_at_call 53
  refine (tpeak hT9).mono ?_
  rintro e w10 ⟨rfl, rfl⟩
  go_wp2
  go_ret
  exact ⟨rfl, AOwn.below hT9⟩
theorem walkFrameNone (v0 : Value) (w : World) (h0 : Arg Try.prog w 24 v0) :
    Calls Try.prog 11 #[v0] w fun e w' => e = .returned (.bool true) ∧ Below w.heap.size w w' := by
  obtain ⟨a, b, c, d, rfl, _⟩ := h0.plan
  exact fnone_core a b c d w
end Go.Proofs.Ytbadinmlnbabiaa
