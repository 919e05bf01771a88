/- The walk through the law InsPuts. -/
import Derived.Test.YtboiogjklecpaaaInsOnceWalk
import Derived.Test.YtboiogjklecpaaaInsRPut
set_option linter.unusedVariables false
set_option linter.unusedSimpArgs false
namespace Go.Proofs.Ytboiogjklecpaaa
open Go.RowKit
set_option maxRecDepth 100000
set_option maxHeartbeats 8000000
theorem four_of {S : List UInt8} (h : S.length = 4) : ∃ b0 b1 b2 b3, S = [b0, b1, b2, b3] := by
  match S, h with
  | [a, b, c, d], _ => exact ⟨a, b, c, d, rfl⟩
theorem iputs_core (o a b c : Int) (w : World) (ba : -9223372036854775808 ≤ a ∧ a ≤ 9223372036854775807) (bb : -9223372036854775808 ≤ b ∧ b ≤ 9223372036854775807) (bc : -9223372036854775808 ≤ c ∧ c ≤ 9223372036854775807) :
    Calls Try.prog 4 #[.agg #[.int .i64 o, .int .i64 a, .int .i64 b, .int .i64 c]] w fun e w' => e = .returned (.bool true) ∧ Below w.heap.size w w' := by
  have h2 := (Own.nil (Below.refl _ w)).box #[.int .i64 o, .int .i64 a, .int .i64 b, .int .i64 c] 30
  by_cases h0 : checkI o a b c = 0
  · have P1 := fun w => put_ok o a b c h0 w
    have P2 := fun w => rputi_ok o a b c h0 w ba bb bc
    have K := fun w => check_any o a b c w
    obtain ⟨b0, b1, b2, b3, hS⟩ := four_of (put_len (op := o) (a := a) (b := b) (c := c))
    have hg := get_put h0
    rw [hS] at P1 P2 hg
    rw [h0] at K
    have G := fun w => get_four b0 b1 b2 b3 w
    rw [hg] at G
    replace P1 := Lib.hid P1
    replace P2 := Lib.hid P2
    replace K := Lib.hid K
    replace G := Lib.hid G
    clear hg hS h0
    go_enter Try.func4, Try.ntmps4
    go_wp2_with fail
    go_at_call 15
    refine (works03_any _).mono ?_
    rintro e w1 ⟨rfl, hb1⟩
    have h3 := h2.grow hb1
    generalize (w.alloc (.cells #[.int .i64 o, .int .i64 a, .int .i64 b, .int .i64 c] 30)) = u at *
    generalize hxb : w.heap.size = xb at h3 ⊢
    clear h2 hb1
    obtain ⟨⟨x0, _⟩, ⟨x1, _⟩, ⟨x2, _⟩, ⟨x3, _⟩⟩ := cells4f 0 h3 rfl
    go_wp2_with fail
    go_at_call 21
    refine (P1.out _).mono ?_
    rintro e w2 ⟨rfl, hb2⟩
    have h4 := h3.grow hb2
    clear h3 hb2 x0 x1 x2 x3
    obtain ⟨⟨x0, _⟩, ⟨x1, _⟩, ⟨x2, _⟩, ⟨x3, _⟩⟩ := cells4f 0 h4 rfl
    go_wp2_with fail
    go_at_call 22
    refine (P2.out _).mono ?_
    rintro e w3 ⟨rfl, hb3⟩
    have h5 := h4.grow hb3
    clear h4 hb3 x0 x1 x2 x3
    go_wp2_with fail
    go_at_call 23
    refine (G.out _).mono ?_
    rintro e w4 ⟨rfl, hb4⟩
    have h6 := (h5.grow hb4).box #[.int .i64 o, .int .i64 a, .int .i64 b, .int .i64 c] 30
    clear h5 hb4
    unfold insV
    go_upto_region 6 with fail
    generalize (w4.alloc (.cells #[.int .i64 o, .int .i64 a, .int .i64 b, .int .i64 c] 30)) = w5 at *
    generalize w4.heap.size = yb at *
    obtain ⟨⟨x0, _⟩, ⟨x1, _⟩, ⟨x2, _⟩, ⟨x3, _⟩⟩ := cells4f 0 h6 rfl
    have KK := Lib.hid (fun (w' : World) (hb : Below w5.heap.size w5 w') => Lib.hid (h6.grow hb))
    go_wp2_with (go_at_call 24; refine (K.out _).mono ?_; rintro e w6 ⟨rfl, hb6⟩; have h7 := (KK.out _ hb6).out; obtain ⟨⟨y0, _⟩, ⟨y1, _⟩, ⟨y2, _⟩, ⟨y3, _⟩⟩ := cells4f 1 h7 rfl; obtain ⟨⟨z0, _⟩, ⟨z1, _⟩, ⟨z2, _⟩, ⟨z3, _⟩⟩ := cells4f 0 h7 rfl)
    go_ret
    exact ⟨by first | rfl | simp, h7.below⟩
  · obtain ⟨E, hE⟩ : ∃ E, checkI o a b c = E := ⟨_, rfl⟩
    have P1 := fun w => put_bad o a b c E hE (by rw [← hE]; exact h0) w
    have P2 := fun w => rputi_bad o a b c E hE (by rw [← hE]; exact h0) w
    have K := fun w => check_any o a b c w
    rw [hE] at K
    have G := Lib.hid (fun w => get_short [] (by simp) w)
    have hne : (E != 0) = true := by rw [← hE]; simpa using h0
    replace P1 := Lib.hid P1
    replace P2 := Lib.hid P2
    replace K := Lib.hid K
    clear hE h0
    go_enter Try.func4, Try.ntmps4
    go_wp2_with fail
    go_at_call 15
    refine (works03_any _).mono ?_
    rintro e w1 ⟨rfl, hb1⟩
    have h3 := h2.grow hb1
    generalize (w.alloc (.cells #[.int .i64 o, .int .i64 a, .int .i64 b, .int .i64 c] 30)) = u at *
    generalize hxb : w.heap.size = xb at h3 ⊢
    clear h2 hb1
    obtain ⟨⟨x0, _⟩, ⟨x1, _⟩, ⟨x2, _⟩, ⟨x3, _⟩⟩ := cells4f 0 h3 rfl
    go_wp2_with fail
    go_at_call 21
    refine (P1.out _).mono ?_
    rintro e w2 ⟨rfl, hb2⟩
    have h4 := h3.grow hb2
    clear h3 hb2 x0 x1 x2 x3
    obtain ⟨⟨x0, _⟩, ⟨x1, _⟩, ⟨x2, _⟩, ⟨x3, _⟩⟩ := cells4f 0 h4 rfl
    go_wp2_with fail
    go_at_call 22
    refine (P2.out _).mono ?_
    rintro e w3 ⟨rfl, hb3⟩
    have h5 := h4.grow hb3
    clear h4 hb3 x0 x1 x2 x3
    go_wp2_with fail
    go_at_call 23
    refine (G.out _).mono ?_
    rintro e w4 ⟨rfl, hb4⟩
    have h6 := (h5.grow hb4).box #[.int .i64 0, .int .i64 0, .int .i64 0, .int .i64 0] 30
    clear h5 hb4
    unfold insV
    go_upto_region 6 with fail
    generalize (w4.alloc (.cells #[.int .i64 0, .int .i64 0, .int .i64 0, .int .i64 0] 30)) = w5 at *
    generalize w4.heap.size = yb at *
    obtain ⟨⟨x0, _⟩, ⟨x1, _⟩, ⟨x2, _⟩, ⟨x3, _⟩⟩ := cells4f 0 h6 rfl
    go_wp2_with (go_at_call 24; refine (K.out _).mono ?_; rintro e w6 ⟨rfl, hb6⟩)
    go_ret
    exact ⟨by first | rfl | simp, below_chain h6.below hb6⟩
theorem walkInsPuts (v0 : Value) (w : World) (h0 : Arg Try.prog w 30 v0) :
    Calls Try.prog 4 #[v0] w fun e w' => e = .returned (.bool true) ∧ Below w.heap.size w w' := by
  obtain ⟨o, a, b, c, rfl, _, ba, bb, bc⟩ := h0.ins
  exact iputs_core o a b c w ba bb bc
end Go.Proofs.Ytboiogjklecpaaa
