/- The walk through the law InsOnce. -/
import Derived.Test.YtboiogjklecpaaaWorks03
import Derived.Test.YtboiogjklecpaaaInsRef2
import Derived.Test.YtboiogjklecpaaaArgs
set_option linter.unusedVariables false
set_option linter.unusedSimpArgs false
namespace Go.Proofs.Ytboiogjklecpaaa
open Go.RowKit
set_option maxRecDepth 100000
set_option maxHeartbeats 8000000
theorem put_inj {o a b c o' a' b' c' : Int} (h : checkI o a b c = 0) (h' : checkI o' a' b' c' = 0) (he : putI o a b c = putI o' a' b' c') : o = o' ∧ a = a' ∧ b = b' ∧ c = c' := by
  have h1 := get_put h
  rw [he, get_put h'] at h1
  simp at h1
  exact ⟨h1.1.symm, h1.2.1.symm, h1.2.2.1.symm, h1.2.2.2.symm⟩
/-- Put, with what it answers named. -/
theorem put_any' (o a b c : Int) (w : World) : ∃ (S : List UInt8) (E : Int), E = checkI o a b c ∧ (E = 0 → S = putI o a b c ∧ S.length = 4) ∧ (E ≠ 0 → S = []) ∧ ∀ w, Calls Try.prog 21 #[.agg #[.int .i64 o, .int .i64 a, .int .i64 b, .int .i64 c]] w fun e w' => e = .returned (.tuple #[.string ⟨S.toArray⟩, .int .i64 E]) ∧ Below w.heap.size w w' := by
  by_cases h : checkI o a b c = 0
  · exact ⟨_, 0, h.symm, fun _ => ⟨rfl, put_len⟩, fun h => absurd rfl h, fun w => put_ok o a b c h w⟩
  · exact ⟨[], _, rfl, fun h2 => absurd h2 h, fun _ => rfl, fun w => put_bad o a b c _ rfl h w⟩
theorem ionce_core (o a b c o' a' b' c' : Int) (w : World) :
    Calls Try.prog 6 #[.agg #[.int .i64 o, .int .i64 a, .int .i64 b, .int .i64 c], .agg #[.int .i64 o', .int .i64 a', .int .i64 b', .int .i64 c']] w fun e w' => e = .returned (.bool true) ∧ Below w.heap.size w w' := by
  have h2 := ((Own.nil (Below.refl _ w)).box #[.int .i64 o, .int .i64 a, .int .i64 b, .int .i64 c] 30).box #[.int .i64 o', .int .i64 a', .int .i64 b', .int .i64 c'] 30
  rw [World.size_alloc] at h2
  obtain ⟨S, E, hE, hS, hS0, P1⟩ := put_any' o a b c w
  obtain ⟨S', E', hE', hS', hS0', P2⟩ := put_any' o' a' b' c' w
  have R1 := fun w => rcheck_any o a b c w
  have R2 := fun w => rcheck_any o' a' b' c' w
  rw [← hE] at R1
  rw [← hE'] at R2
  replace P1 := Lib.hid P1
  replace P2 := Lib.hid P2
  replace R1 := Lib.hid R1
  replace R2 := Lib.hid R2
  replace hS := Lib.hid hS
  replace hS' := Lib.hid hS'
  clear hS0 hS0'
  replace hE := Lib.hid hE
  replace hE' := Lib.hid hE'
  go_enter Try.func6, Try.ntmps6
  go_wp2_with fail
  go_at_call 15
  refine (works03_any _).mono ?_
  rintro e w1 ⟨rfl, hb1⟩
  obtain ⟨yb, hyb⟩ : ∃ yb, w.heap.size + 1 = yb := ⟨_, rfl⟩
  rw [hyb] at h2 ⊢
  generalize (w.alloc (.cells #[.int .i64 o, .int .i64 a, .int .i64 b, .int .i64 c] 30)).alloc (.cells #[.int .i64 o', .int .i64 a', .int .i64 b', .int .i64 c'] 30) = u at *
  generalize hxb : w.heap.size = xb at h2 ⊢
  have h3 := h2.grow hb1
  clear hyb h2 hb1
  obtain ⟨⟨x0, _⟩, ⟨x1, _⟩, ⟨x2, _⟩, ⟨x3, _⟩⟩ := cells4f 0 h3 rfl
  obtain ⟨⟨y0, _⟩, ⟨y1, _⟩, ⟨y2, _⟩, ⟨y3, _⟩⟩ := cells4f 1 h3 rfl
  go_wp2_with fail
  go_at_call 21
  refine (P1.out _).mono ?_
  rintro e w2 ⟨rfl, hb2⟩
  have h4 := h3.grow hb2
  clear h3 hb2 x0 x1 x2 x3 y0 y1 y2 y3
  obtain ⟨⟨x0, _⟩, ⟨x1, _⟩, ⟨x2, _⟩, ⟨x3, _⟩⟩ := cells4f 0 h4 rfl
  obtain ⟨⟨y0, _⟩, ⟨y1, _⟩, ⟨y2, _⟩, ⟨y3, _⟩⟩ := cells4f 1 h4 rfl
  go_wp2_with fail
  go_at_call 21
  refine (P2.out _).mono ?_
  rintro e w3 ⟨rfl, hb3⟩
  have h5 := h4.grow hb3
  clear h4 hb3 x0 x1 x2 x3 y0 y1 y2 y3
  obtain ⟨⟨x0, _⟩, ⟨x1, _⟩, ⟨x2, _⟩, ⟨x3, _⟩⟩ := cells4f 0 h5 rfl
  obtain ⟨⟨y0, _⟩, ⟨y1, _⟩, ⟨y2, _⟩, ⟨y3, _⟩⟩ := cells4f 1 h5 rfl
  by_cases hok : E = 0 ∧ E' = 0
  · obtain ⟨rfl, rfl⟩ := hok
    obtain ⟨s1, s2⟩ := hS.out rfl
    obtain ⟨s3, s4⟩ := hS'.out rfl
    replace s1 := Lib.hid s1
    replace s3 := Lib.hid s3
    by_cases hxy : o = o' ∧ a = a' ∧ b = b' ∧ c = c'
    · obtain ⟨rfl, rfl, rfl, rfl⟩ := hxy
      obtain rfl : S = S' := by rw [s1.out, s3.out]
      go_wp2_with fail
      all_goals
        go_ret
        exact ⟨by simp, h5.below⟩
    · have hne : (S == S') = false := by
        rw [beq_eq_false_iff_ne]
        intro h
        rw [s1.out, s3.out] at h
        exact hxy (put_inj hE.out.symm hE'.out.symm h)
      go_wp2_with fail
      all_goals
        first
          | (exfalso; exact hxy ⟨by assumption, by assumption, by assumption, by assumption⟩)
          | (go_ret
             exact ⟨by first | rfl | simp [hne], h5.below⟩)
  · have R2' := R2
    by_cases h0 : E = 0
    · have h0' : E' ≠ 0 := fun h => hok ⟨h0, h⟩
      subst h0
      have hne : (E' != 0) = true := by simpa using h0'
      go_wp2_with fail
      go_at_call 26
      refine (R1.out _).mono ?_
      rintro e w4 ⟨rfl, hb4⟩
      have h6 := h5.grow hb4
      clear h5 hb4 x0 x1 x2 x3 y0 y1 y2 y3
      obtain ⟨⟨y0, _⟩, ⟨y1, _⟩, ⟨y2, _⟩, ⟨y3, _⟩⟩ := cells4f 1 h6 rfl
      go_wp2_with (go_at_call 26; refine (R2.out _).mono ?_; rintro e w5 ⟨rfl, hb5⟩)
      go_ret
      exact ⟨by simp, below_chain h6.below hb5⟩
    · have hne : (E != 0) = true := by simpa using h0
      go_wp2_with fail
      go_at_call 26
      refine (R1.out _).mono ?_
      rintro e w4 ⟨rfl, hb4⟩
      have h6 := h5.grow hb4
      clear h5 hb4 x0 x1 x2 x3 y0 y1 y2 y3
      obtain ⟨⟨y0, _⟩, ⟨y1, _⟩, ⟨y2, _⟩, ⟨y3, _⟩⟩ := cells4f 1 h6 rfl
      go_wp2_with (go_at_call 26; refine (R2.out _).mono ?_; rintro e w5 ⟨rfl, hb5⟩)
      go_ret
      exact ⟨by simp, below_chain h6.below hb5⟩
theorem Arg.ins {w : World} {v : Value} (h : Arg Try.prog w 30 v) : ∃ o a b c : Int, v = .agg #[.int .i64 o, .int .i64 a, .int .i64 b, .int .i64 c] ∧ (-9223372036854775808 ≤ o ∧ o ≤ 9223372036854775807) ∧ (-9223372036854775808 ≤ a ∧ a ≤ 9223372036854775807) ∧ (-9223372036854775808 ≤ b ∧ b ≤ 9223372036854775807) ∧ (-9223372036854775808 ≤ c ∧ c ≤ 9223372036854775807) := by
  obtain ⟨xs, hx, hl, hw⟩ := h.reads.intFields 4 (by kernel_rfl) Try.underlying3 (by kernel_rfl) (by kernel_rfl)
  obtain ⟨o, a, b, c, rfl⟩ : ∃ o a b c, xs = [o, a, b, c] := by
    match xs, hl with
    | [o, a, b, c], _ => exact ⟨o, a, b, c, rfl⟩
  obtain ⟨cs, rfl, _⟩ := agg_of (n := 4) (v := v) (by rw [hx]; simp) (by omega)
  have h0 := hw 0 (by omega)
  have h1 := hw 1 (by omega)
  have h2 := hw 2 (by omega)
  have h3 := hw 3 (by omega)
  simp [Lit.wf, IntKind.min, IntKind.max, IntKind.signed, IntKind.bits] at h0 h1 h2 h3
  refine ⟨o, a, b, c, ?_, h0, h1, h2, h3⟩
  have hcs : cs.toList = [.int .i64 o, .int .i64 a, .int .i64 b, .int .i64 c] := by simpa [Value.cells] using hx
  rw [show cs = #[.int .i64 o, .int .i64 a, .int .i64 b, .int .i64 c] from Array.toList_inj.1 hcs]
theorem walkInsOnce (v0 v1 : Value) (w : World) (h0 : Arg Try.prog w 30 v0) (h1 : Arg Try.prog w 30 v1) :
    Calls Try.prog 6 #[v0, v1] w fun e w' => e = .returned (.bool true) ∧ Below w.heap.size w w' := by
  obtain ⟨o, a, b, c, rfl, _⟩ := h0.ins
  obtain ⟨o', a', b', c', rfl, _⟩ := h1.ins
  exact ionce_core o a b c o' a' b' c' w
end Go.Proofs.Ytboiogjklecpaaa
