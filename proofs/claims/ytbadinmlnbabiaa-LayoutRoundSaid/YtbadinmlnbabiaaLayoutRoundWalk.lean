/- The walk through the law LayoutRound. -/
import Derived.Test.YtbadinmlnbabiaaWorks11
set_option linter.unusedVariables false
set_option linter.unusedSimpArgs false
namespace Go.Proofs.Ytbadinmlnbabiaa
open Go.RowKit
set_option maxHeartbeats 1000000
set_option maxRecDepth 100000
theorem box_keep' {w w1 w' : World} {bp : Nat} {C D : Int} (h : w1.cell? ⟨bp, 0, none⟩ = some (.int .i64 2) ∧ w1.cell? ⟨bp, 1, none⟩ = some (.int .i64 3) ∧ w1.cell? ⟨bp, 2, none⟩ = some (.int .i64 C) ∧ w1.cell? ⟨bp, 3, none⟩ = some (.int .i64 D) ∧ Below w.heap.size w w1) (hb : Below w1.heap.size w1 w') : w'.cell? ⟨bp, 0, none⟩ = some (.int .i64 2) ∧ w'.cell? ⟨bp, 1, none⟩ = some (.int .i64 3) ∧ w'.cell? ⟨bp, 2, none⟩ = some (.int .i64 C) ∧ w'.cell? ⟨bp, 3, none⟩ = some (.int .i64 D) ∧ Below w.heap.size w w' := by
  obtain ⟨h0, h1, h2, h3, h4⟩ := h
  have hk := cell_old hb
  exact ⟨by rw [hk _ (by rw [h0]; rfl), h0], by rw [hk _ (by rw [h1]; rfl), h1], by rw [hk _ (by rw [h2]; rfl), h2], by rw [hk _ (by rw [h3]; rfl), h3], below_chain h4 hb⟩
theorem box_drew' {w w1 : World} {bp : Nat} {C D : Int} (h : w1.cell? ⟨bp, 0, none⟩ = some (.int .i64 2) ∧ w1.cell? ⟨bp, 1, none⟩ = some (.int .i64 3) ∧ w1.cell? ⟨bp, 2, none⟩ = some (.int .i64 C) ∧ w1.cell? ⟨bp, 3, none⟩ = some (.int .i64 D) ∧ Below w.heap.size w w1) : w1.drew.cell? ⟨bp, 0, none⟩ = some (.int .i64 2) ∧ w1.drew.cell? ⟨bp, 1, none⟩ = some (.int .i64 3) ∧ w1.drew.cell? ⟨bp, 2, none⟩ = some (.int .i64 C) ∧ w1.drew.cell? ⟨bp, 3, none⟩ = some (.int .i64 D) ∧ Below w.heap.size w w1.drew := ⟨h.1, h.2.1, h.2.2.1, h.2.2.2.1, h.2.2.2.2.drew⟩
theorem tmod_iff (x y d : Int) : ((x - y).tmod d = 0) ↔ x % d = y % d := by
  rw [← Int.dvd_iff_tmod_eq_zero, Int.dvd_iff_emod_eq_zero, Int.emod_eq_emod_iff_emod_sub_eq_zero]
theorem round_facts (x y : Nat) {C D : Int} (a2 : 1 ≤ C ∧ C ≤ 64) (a3 : 2 ≤ D ∧ D ≤ 256) :
    okPlan 2 3 C D = true ∧ (slotV 2 D 1 x = slotV 2 D 1 y ↔ ((x : Int) - y).tmod D = 0) ∧ (∀ n, wordV 2 3 C D 2 x n = wordV 2 3 C D 2 y n ↔ ((x : Int) - y).tmod (C + 1) = 0) ∧ slotV 2 D 0 x ≠ slotV 2 D 1 y ∧ wordV 2 3 C D 1 x 2 ≠ wordV 2 3 C D 3 y 2 := by
  have mx : max (x : Int) 0 = x := by omega
  have my : max (y : Int) 0 = y := by omega
  have d1 := mod_bd (x := (x : Int)) (y := D) (by omega)
  have d2 := mod_bd (x := (y : Int)) (y := D) (by omega)
  have d3 := mod_bd (x := (x : Int)) (y := C + 1) (by omega)
  have d4 := mod_bd (x := (y : Int)) (y := C + 1) (by omega)
  have c0 : clamp 0 0 (2 - 1) = 0 := by decide
  have c1 : clamp 1 0 (2 - 1) = 1 := by decide
  have c2 : clamp 1 1 3 = 1 := by decide
  have c3 : clamp 3 1 3 = 3 := by decide
  refine ⟨by unfold okPlan; simp; omega, ?_, fun n => ?_, ?_, ?_⟩
  · rw [tmod_iff]
    simp only [slotV, baseV, c0, c1, mx, my]
    omega
  · rw [tmod_iff]
    simp only [wordV, mx, my]
    omega
  · simp only [slotV, baseV, c0, c1, mx, my, wideV]
    omega
  · simp only [wordV, frameV, c2, c3, mx, my, roomV]
    omega
set_option maxHeartbeats 4000000 in
theorem round_core (v0 v1 x y : Nat) (C D : Int) (w : World) (k0 : v0 ≤ 255) (k1 : v1 ≤ 255) (k2 : x ≤ 65535) (k3 : y ≤ 65535) (hC : (v0 : Int) % 64 + 1 = C) (hD : (v1 : Int) % 255 + 2 = D) :
    Calls Try.prog 4 #[.int .u8 v0, .int .u8 v1, .int .u16 x, .int .u16 y] w fun e w' => e = .returned (.bool true) ∧ Below w.heap.size w w' := by
  have a2 : 1 ≤ C ∧ C ≤ 64 := by omega
  have a3 : 2 ≤ D ∧ D ≤ 256 := by omega
  obtain ⟨ok, f1, f2, f3, f4⟩ := round_facts x y a2 a3
  have f2a := f2 0
  have f2b := f2 3
  have H1 := Lib.hid (fun w => slot_ok ok 1 x w)
  have H2 := Lib.hid (fun w => slot_ok ok 1 y w)
  have H3 := Lib.hid (fun w => counter_ok ok 2 x w)
  have H4 := Lib.hid (fun w => counter_ok ok 2 y w)
  have H5 := Lib.hid (fun w => done_ok ok 2 x w)
  have H6 := Lib.hid (fun w => done_ok ok 2 y w)
  have H7 := Lib.hid (fun w => slot_ok ok 0 x w)
  have H8 := Lib.hid (fun w => link_ok ok 1 x w)
  have H9 := Lib.hid (fun w => link_ok ok 3 y w)
  clear ok f2
  have r1 : -65535 ≤ (x : Int) - y ∧ (x : Int) - y ≤ 65535 := by omega
  have t1 : ∀ d : Int, 0 < d → d ≤ 256 → -65535 ≤ ((x : Int) - y).tmod d ∧ ((x : Int) - y).tmod d ≤ 65535 := fun d hd hd2 => by
    have e := Int.tmod_lt_of_pos ((x : Int) - y) hd
    have b1 := Int.lt_tmod_of_pos ((x : Int) - y) hd
    omega
  have t2 := t1 D (by omega) (by omega)
  have t3 := t1 (C + 1) (by omega) (by omega)
  clear t1
  generalize wordV 2 3 C D 2 x 0 = CX at *
  generalize wordV 2 3 C D 2 y 0 = CY at *
  generalize wordV 2 3 C D 2 x 3 = DX at *
  generalize wordV 2 3 C D 2 y 3 = DY at *
  generalize wordV 2 3 C D 1 x 2 = LX at *
  generalize wordV 2 3 C D 3 y 2 = LY at *
  generalize slotV 2 D 1 x = SX at *
  generalize slotV 2 D 1 y = SY at *
  generalize slotV 2 D 0 x = S0 at *
  generalize hM1 : ((x : Int) - y).tmod D = M1 at *
  generalize hM2 : ((x : Int) - y).tmod (C + 1) = M2 at *
  obtain ⟨B1, hB1⟩ : ∃ b, (M1 == 0) = b := ⟨_, rfl⟩
  obtain ⟨B2, hB2⟩ : ∃ b, (M2 == 0) = b := ⟨_, rfl⟩
  have e1 : (SX == SY) = B1 := by rw [← hB1, Bool.eq_iff_iff, beq_iff_eq, beq_iff_eq]; exact f1
  have e2 : (CX == CY) = B2 := by rw [← hB2, Bool.eq_iff_iff, beq_iff_eq, beq_iff_eq]; exact f2a
  have e3 : (DX == DY) = B2 := by rw [← hB2, Bool.eq_iff_iff, beq_iff_eq, beq_iff_eq]; exact f2b
  have e4 : (S0 != SY) = true := by simp [f3]
  have e5 : (LX != LY) = true := by simp [f4]
  have q1 : IntKind.i64.wrap ((x : Int) - y) = (x : Int) - y := IntWalk.i64_in _ (by omega)
  have q2 : IntKind.i64.wrap M1 = M1 := IntWalk.i64_in _ (by omega)
  have q3 : IntKind.i64.wrap M2 = M2 := IntWalk.i64_in _ (by omega)
  have q4 : IntKind.i64.wrap (C + 1) = C + 1 := IntWalk.i64_in _ (by omega)
  have q5 : ¬ D = 0 := by omega
  have q6 : ¬ D = -1 := by omega
  have q7 : ¬ C + 1 = 0 := by omega
  have q8 : ¬ C + 1 = -1 := by omega
  clear f1 f2a f2b f3 f4 t2 t3 r1
  replace hM1 := Lib.hid hM1
  replace hM2 := Lib.hid hM2
  replace hB1 := Lib.hid hB1
  replace hB2 := Lib.hid hB2
  replace e1 := Lib.hid e1
  replace e2 := Lib.hid e2
  replace e3 := Lib.hid e3
  replace e4 := Lib.hid e4
  replace e5 := Lib.hid e5
  replace q1 := Lib.hid q1
  replace q2 := Lib.hid q2
  replace q3 := Lib.hid q3
  go_enter Try.func4, Try.ntmps4
  go_wp2_with (go_at_call 13; refine (works11_any _).mono ?_; rintro e w1 ⟨rfl, hb1⟩)
  have hS0 : (w1.alloc (.cells #[.int .i64 2, .int .i64 3, .int .i64 C, .int .i64 D] 24)).cell? ⟨w1.heap.size, 0, none⟩ = some (.int .i64 2) ∧ (w1.alloc (.cells #[.int .i64 2, .int .i64 3, .int .i64 C, .int .i64 D] 24)).cell? ⟨w1.heap.size, 1, none⟩ = some (.int .i64 3) ∧ (w1.alloc (.cells #[.int .i64 2, .int .i64 3, .int .i64 C, .int .i64 D] 24)).cell? ⟨w1.heap.size, 2, none⟩ = some (.int .i64 C) ∧ (w1.alloc (.cells #[.int .i64 2, .int .i64 3, .int .i64 C, .int .i64 D] 24)).cell? ⟨w1.heap.size, 3, none⟩ = some (.int .i64 D) ∧ Below w.heap.size w (w1.alloc (.cells #[.int .i64 2, .int .i64 3, .int .i64 C, .int .i64 D] 24)) := ⟨cell_alloc_at .., cell_alloc_at .., cell_alloc_at .., cell_alloc_at .., by have := hb1.size; go_grown⟩
  generalize w1.alloc (.cells #[.int .i64 2, .int .i64 3, .int .i64 C, .int .i64 D] 24) = u at *
  generalize w1.heap.size = bp at *
  clear hb1
  replace hM1 := hM1.out
  replace hM2 := hM2.out
  replace hB1 := hB1.out
  replace hB2 := hB2.out
  replace e1 := e1.out
  replace e2 := e2.out
  replace e3 := e3.out
  replace e4 := e4.out
  replace e5 := e5.out
  replace q1 := q1.out
  replace q2 := q2.out
  replace q3 := q3.out
  simp only [List.append]
  go_region_held3 (fun w' => w'.cell? ⟨bp, 0, none⟩ = some (.int .i64 2) ∧ w'.cell? ⟨bp, 1, none⟩ = some (.int .i64 3) ∧ w'.cell? ⟨bp, 2, none⟩ = some (.int .i64 C) ∧ w'.cell? ⟨bp, 3, none⟩ = some (.int .i64 D) ∧ Below w.heap.size w w') (first | assumption | exact box_keep' (by assumption) hb | exact box_drew' hS0) (first | (go_at_call 19; (with_reducible refine (H1.out _).mono ?_); rintro e w' ⟨rfl, hb⟩) | (go_at_call 19; (with_reducible refine (H2.out _).mono ?_); rintro e w' ⟨rfl, hb⟩) | (go_at_call 19; (with_reducible refine (H7.out _).mono ?_); rintro e w' ⟨rfl, hb⟩) | (go_at_call 20; (with_reducible refine (H3.out _).mono ?_); rintro e w' ⟨rfl, hb⟩) | (go_at_call 20; (with_reducible refine (H4.out _).mono ?_); rintro e w' ⟨rfl, hb⟩) | (go_at_call 21; (with_reducible refine (H5.out _).mono ?_); rintro e w' ⟨rfl, hb⟩) | (go_at_call 21; (with_reducible refine (H6.out _).mono ?_); rintro e w' ⟨rfl, hb⟩) | (go_at_call 22; (with_reducible refine (H8.out _).mono ?_); rintro e w' ⟨rfl, hb⟩) | (go_at_call 22; (with_reducible refine (H9.out _).mono ?_); rintro e w' ⟨rfl, hb⟩))
  rename_i hS1
  obtain ⟨_, _, _, _, hB⟩ := hS1
  go_wp2
  go_ret
  exact ⟨rfl, hB⟩
theorem walkLayoutRound (v0 v1 v2 v3 : Value) (w : World) (h0 : Arg Try.prog w 5 v0) (h1 : Arg Try.prog w 5 v1) (h2 : Arg Try.prog w 30 v2) (h3 : Arg Try.prog w 30 v3) :
    Calls Try.prog 4 #[v0, v1, v2, v3] w fun e w' => e = .returned (.bool true) ∧ Below w.heap.size w w' := by
  obtain ⟨a, rfl, ha⟩ := h0.int Try.underlying5
  obtain ⟨b, rfl, hb⟩ := h1.int Try.underlying5
  obtain ⟨c, rfl, hc⟩ := h2.int Try.underlying30
  obtain ⟨d, rfl, hd⟩ := h3.int Try.underlying30
  simp [Lit.wf, IntKind.min, IntKind.max, IntKind.signed, IntKind.bits] at ha hb hc hd
  obtain ⟨a, rfl⟩ : ∃ n : Nat, a = n := ⟨a.toNat, by omega⟩
  obtain ⟨b, rfl⟩ : ∃ n : Nat, b = n := ⟨b.toNat, by omega⟩
  obtain ⟨c, rfl⟩ : ∃ n : Nat, c = n := ⟨c.toNat, by omega⟩
  obtain ⟨d, rfl⟩ : ∃ n : Nat, d = n := ⟨d.toNat, by omega⟩
  exact round_core a b c d _ _ w (by omega) (by omega) (by omega) (by omega) rfl rfl
end Go.Proofs.Ytbadinmlnbabiaa
