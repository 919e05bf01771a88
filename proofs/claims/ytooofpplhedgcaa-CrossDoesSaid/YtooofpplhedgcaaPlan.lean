/- Package layout: plans, and where each word is. -/
import Derived.Test.YtooofpplhedgcaaRow
set_option linter.unusedVariables false
set_option linter.unusedSimpArgs false
namespace Go.Proofs.Ytooofpplhedgcaa
open Go.RowKit
set_option maxHeartbeats 1000000
set_option maxRecDepth 100000
/-- A number, or the nearer end. -/
def clamp (n a b : Int) : Int := min (max n a) b
theorem between_any (n a b : Int) (w : World) : Calls Try.prog 86 #[.int .i64 n, .int .i64 a, .int .i64 b] w fun e w' => e = .returned (.int .i64 (clamp n a b)) ∧ w = w' := by
  go_enter Try.func86, Try.ntmps86
  go_wp2
  all_goals go_ret
  all_goals exact ⟨ret_int (by unfold clamp; omega), rfl⟩

/-- May a plan be? -/
def okPlan (a b c d : Int) : Bool := decide (1 ≤ a ∧ a ≤ 64 ∧ 1 ≤ b ∧ b ≤ 256 ∧ 1 ≤ c ∧ c ≤ 64 ∧ 2 ≤ d ∧ d ≤ 256)
def checkOf (a b c d : Int) : Int := if okPlan a b c d = true then 0 else 3
theorem check_core (a b c d A B C D : Int) (w : World) (hA : clamp a 1 64 = A) (hB : clamp b 1 256 = B) (hC : clamp c 1 64 = C) (hD : clamp d 2 256 = D) :
    Calls Try.prog 77 #[.agg #[.int .i64 a, .int .i64 b, .int .i64 c, .int .i64 d]] w fun e w' => e = .returned (.int .i64 (checkOf a b c d)) ∧ Below w.heap.size w w' := by
  have h1 := fun w => between_any a 1 64 w
  have h2 := fun w => between_any b 1 256 w
  have h3 := fun w => between_any c 1 64 w
  have h4 := fun w => between_any d 2 256 w
  rw [hA] at h1; rw [hB] at h2; rw [hC] at h3; rw [hD] at h4
  have H1 := Lib.hid h1
  have H2 := Lib.hid h2
  have H3 := Lib.hid h3
  have H4 := Lib.hid h4
  obtain ⟨R, hR⟩ : ∃ R, checkOf a b c d = R := ⟨_, rfl⟩
  rw [hR]
  have hres : Hid ((a = A ∧ b = B ∧ c = C ∧ d = D → R = 0) ∧ (¬ (a = A ∧ b = B ∧ c = C ∧ d = D) → R = 3)) := by
    refine Lib.hid ?_
    rw [← hR]
    unfold clamp at *
    constructor
    · intro h; unfold checkOf; rw [if_pos]; unfold okPlan; simp; omega
    · intro h; unfold checkOf; rw [if_neg]; unfold okPlan; simp; omega
  clear h1 h2 h3 h4 hA hB hC hD hR
  go_enter Try.func77, Try.ntmps77
  go_wp2_with fail
  go_region_held3 (fun w' => w'.cell? ⟨w.heap.size, 0, none⟩ = some (.int .i64 a) ∧ w'.cell? ⟨w.heap.size, 1, none⟩ = some (.int .i64 b) ∧ w'.cell? ⟨w.heap.size, 2, none⟩ = some (.int .i64 c) ∧ w'.cell? ⟨w.heap.size, 3, none⟩ = some (.int .i64 d)) (go_keep)
    (first | (go_at_call 86; (with_reducible refine (H1.out _).mono ?_); rintro e w' ⟨rfl, rfl⟩) | (go_at_call 86; (with_reducible refine (H2.out _).mono ?_); rintro e w' ⟨rfl, rfl⟩) | (go_at_call 86; (with_reducible refine (H3.out _).mono ?_); rintro e w' ⟨rfl, rfl⟩) | (go_at_call 86; (with_reducible refine (H4.out _).mono ?_); rintro e w' ⟨rfl, rfl⟩))
  all_goals (rename_i hS; clear hS)
  all_goals go_wp2
  all_goals go_ret
  all_goals have q := hres.out
  all_goals exact ⟨ret_int (by omega), by go_grown⟩
theorem check_any (a b c d : Int) (w : World) : Calls Try.prog 77 #[.agg #[.int .i64 a, .int .i64 b, .int .i64 c, .int .i64 d]] w fun e w' => e = .returned (.int .i64 (checkOf a b c d)) ∧ Below w.heap.size w w' :=
  check_core a b c d _ _ _ _ w rfl rfl rfl rfl
def wideV (d : Int) : Int := 4 + d
def roomV (c : Int) : Int := 2 + 4 * (c + 1)
def sizeV (a b c d : Int) : Int := a * wideV d + b * roomV c
def baseV (a d k : Int) : Int := clamp k 0 (a - 1) * wideV d
def slotV (a d k n : Int) : Int := baseV a d k + 4 + max n 0 % d
def frameV (a b c d id : Int) : Int := a * wideV d + (clamp id 1 b - 1) * roomV c
def wordV (a b c d id i n : Int) : Int := frameV a b c d id + 2 + 4 * (max i 0 % (c + 1)) + n
theorem ok_bd {a b c d : Int} (h : okPlan a b c d = true) : 1 ≤ a ∧ a ≤ 64 ∧ 1 ≤ b ∧ b ≤ 256 ∧ 1 ≤ c ∧ c ≤ 64 ∧ 2 ≤ d ∧ d ≤ 256 := by
  unfold okPlan at h; exact of_decide_eq_true h
theorem wideV_bd {a b c d : Int} (h : okPlan a b c d = true) : 6 ≤ wideV d ∧ wideV d ≤ 260 := by
  have := ok_bd h; unfold wideV; omega
theorem roomV_bd {a b c d : Int} (h : okPlan a b c d = true) : 10 ≤ roomV c ∧ roomV c ≤ 262 := by
  have := ok_bd h; unfold roomV; omega
theorem mul_bd {x y X Y : Int} (h0 : 0 ≤ x) (h1 : x ≤ X) (h2 : 0 ≤ y) (h3 : y ≤ Y) : 0 ≤ x * y ∧ x * y ≤ X * Y :=
  ⟨Int.mul_nonneg h0 h2, Int.mul_le_mul h1 h3 h2 (by omega)⟩
theorem sizeV_bd {a b c d : Int} (h : okPlan a b c d = true) : 0 ≤ a * wideV d ∧ a * wideV d ≤ 16640 ∧ 0 ≤ b * roomV c ∧ b * roomV c ≤ 67072 := by
  have h0 := ok_bd h
  have h1 := wideV_bd h
  have h2 := roomV_bd h
  have m1 := mul_bd (x := a) (X := 64) (y := wideV d) (Y := 260) (by omega) (by omega) (by omega) (by omega)
  have m2 := mul_bd (x := b) (X := 256) (y := roomV c) (Y := 262) (by omega) (by omega) (by omega) (by omega)
  omega
theorem baseV_bd {a b c d : Int} (h : okPlan a b c d = true) (k : Int) : 0 ≤ clamp k 0 (a - 1) ∧ clamp k 0 (a - 1) ≤ a - 1 ∧ 0 ≤ baseV a d k ∧ baseV a d k ≤ 16640 := by
  have h0 := ok_bd h
  have h1 := wideV_bd h
  have h2 : 0 ≤ clamp k 0 (a - 1) ∧ clamp k 0 (a - 1) ≤ a - 1 := by unfold clamp; omega
  have m1 := mul_bd (x := clamp k 0 (a - 1)) (X := 64) (y := wideV d) (Y := 260) (by omega) (by omega) (by omega) (by omega)
  unfold baseV
  omega
theorem frameV_bd {a b c d : Int} (h : okPlan a b c d = true) (id : Int) : 1 ≤ clamp id 1 b ∧ clamp id 1 b ≤ b ∧ 0 ≤ (clamp id 1 b - 1) * roomV c ∧ (clamp id 1 b - 1) * roomV c ≤ 67072 ∧ 0 ≤ frameV a b c d id ∧ frameV a b c d id ≤ 83712 := by
  have h0 := ok_bd h
  have h2 := roomV_bd h
  have h3 := sizeV_bd h
  have h4 : 1 ≤ clamp id 1 b ∧ clamp id 1 b ≤ b := by unfold clamp; omega
  have m1 := mul_bd (x := clamp id 1 b - 1) (X := 256) (y := roomV c) (Y := 262) (by omega) (by omega) (by omega) (by omega)
  unfold frameV
  omega
theorem mod_bd {x y : Int} (h : 0 < y) : 0 ≤ x % y ∧ x % y < y := ⟨Int.emod_nonneg _ (by omega), Int.emod_lt_of_pos _ h⟩
theorem bad_ok {a b c d : Int} (h : okPlan a b c d = true) (w : World) : Calls Try.prog 53 #[.agg #[.int .i64 a, .int .i64 b, .int .i64 c, .int .i64 d]] w fun e w' => e = .returned (.bool false) ∧ Below w.heap.size w w' := by
  have h1 := fun w => check_any a b c d w
  rw [show checkOf a b c d = 0 by unfold checkOf; rw [if_pos h]] at h1
  have H1 := Lib.hid h1
  clear h1 h
  go_enter Try.func53, Try.ntmps53
  go_wp2_with (first | (go_at_call 77; refine (H1.out _).mono ?_; rintro e w1 ⟨rfl, hb1⟩; have hk1 := cell_old hb1; have hz1 := hb1.size))
  go_ret
  exact ⟨rfl, below_chain (by go_grown) hb1⟩
theorem bad_no {a b c d : Int} (h : okPlan a b c d = false) (w : World) : Calls Try.prog 53 #[.agg #[.int .i64 a, .int .i64 b, .int .i64 c, .int .i64 d]] w fun e w' => e = .returned (.bool true) ∧ Below w.heap.size w w' := by
  have h1 := fun w => check_any a b c d w
  rw [show checkOf a b c d = 3 by unfold checkOf; rw [if_neg (by rw [h]; decide)]] at h1
  have H1 := Lib.hid h1
  clear h1 h
  go_enter Try.func53, Try.ntmps53
  go_wp2_with (first | (go_at_call 77; refine (H1.out _).mono ?_; rintro e w1 ⟨rfl, hb1⟩; have hk1 := cell_old hb1; have hz1 := hb1.size))
  go_ret
  exact ⟨rfl, below_chain (by go_grown) hb1⟩
theorem wide_any (a b c d : Int) (h0 : 0 ≤ d) (h1 : d ≤ 1000000) (w : World) : Calls Try.prog 54 #[.agg #[.int .i64 a, .int .i64 b, .int .i64 c, .int .i64 d]] w fun e w' => e = .returned (.int .i64 (wideV d)) ∧ Below w.heap.size w w' := by
  go_enter Try.func54, Try.ntmps54
  go_wp2
  go_ret
  exact ⟨ret_int (by unfold wideV; omega), by go_grown⟩
theorem room_no {a b c d : Int} (h : okPlan a b c d = false)  (w : World) : Calls Try.prog 55 #[.agg #[.int .i64 a, .int .i64 b, .int .i64 c, .int .i64 d]] w fun e w' => e = .returned (.int .i64 0) ∧ Below w.heap.size w w' := by
  have H1 := Lib.hid (fun w => bad_no h w)
  go_enter Try.func55, Try.ntmps55
  go_wp2_with (first | (go_at_call 53; refine (H1.out _).mono ?_; rintro e w1 ⟨rfl, hb1⟩; have hk1 := cell_old hb1; have hz1 := hb1.size))
  go_ret
  exact ⟨rfl, below_chain (by go_grown) hb1⟩
theorem size_no {a b c d : Int} (h : okPlan a b c d = false)  (w : World) : Calls Try.prog 12 #[.agg #[.int .i64 a, .int .i64 b, .int .i64 c, .int .i64 d]] w fun e w' => e = .returned (.int .i64 0) ∧ Below w.heap.size w w' := by
  have H1 := Lib.hid (fun w => bad_no h w)
  go_enter Try.func12, Try.ntmps12
  go_wp2_with (first | (go_at_call 53; refine (H1.out _).mono ?_; rintro e w1 ⟨rfl, hb1⟩; have hk1 := cell_old hb1; have hz1 := hb1.size))
  go_ret
  exact ⟨rfl, below_chain (by go_grown) hb1⟩
theorem frame_no {a b c d : Int} (h : okPlan a b c d = false) (k : Int) (w : World) : Calls Try.prog 80 #[.agg #[.int .i64 a, .int .i64 b, .int .i64 c, .int .i64 d], .int .i64 k] w fun e w' => e = .returned (.int .i64 0) ∧ Below w.heap.size w w' := by
  have H1 := Lib.hid (fun w => bad_no h w)
  go_enter Try.func80, Try.ntmps80
  go_wp2_with (first | (go_at_call 53; refine (H1.out _).mono ?_; rintro e w1 ⟨rfl, hb1⟩; have hk1 := cell_old hb1; have hz1 := hb1.size))
  go_ret
  exact ⟨rfl, below_chain (by go_grown) hb1⟩
theorem nap_no {a b c d : Int} (h : okPlan a b c d = false) (k : Int) (w : World) : Calls Try.prog 59 #[.agg #[.int .i64 a, .int .i64 b, .int .i64 c, .int .i64 d], .int .i64 k] w fun e w' => e = .returned (.int .i64 0) ∧ Below w.heap.size w w' := by
  have H1 := Lib.hid (fun w => bad_no h w)
  go_enter Try.func59, Try.ntmps59
  go_wp2_with (first | (go_at_call 53; refine (H1.out _).mono ?_; rintro e w1 ⟨rfl, hb1⟩; have hk1 := cell_old hb1; have hz1 := hb1.size))
  go_ret
  exact ⟨rfl, below_chain (by go_grown) hb1⟩
theorem word_no {a b c d : Int} (h : okPlan a b c d = false) (k i n : Int) (w : World) : Calls Try.prog 78 #[.agg #[.int .i64 a, .int .i64 b, .int .i64 c, .int .i64 d], .int .i64 k, .int .i64 i, .int .i64 n] w fun e w' => e = .returned (.int .i64 0) ∧ Below w.heap.size w w' := by
  have H1 := Lib.hid (fun w => bad_no h w)
  go_enter Try.func78, Try.ntmps78
  go_wp2_with (first | (go_at_call 53; refine (H1.out _).mono ?_; rintro e w1 ⟨rfl, hb1⟩; have hk1 := cell_old hb1; have hz1 := hb1.size))
  go_ret
  exact ⟨rfl, below_chain (by go_grown) hb1⟩
theorem room_ok {a b c d : Int} (h : okPlan a b c d = true) (w : World) : Calls Try.prog 55 #[.agg #[.int .i64 a, .int .i64 b, .int .i64 c, .int .i64 d]] w fun e w' => e = .returned (.int .i64 (roomV c)) ∧ Below w.heap.size w w' := by
  have H1 := Lib.hid (fun w => bad_ok h w)
  obtain ⟨b1, b2, b3, b4, b5, b6, b7, b8⟩ := ok_bd h
  clear h
  go_enter Try.func55, Try.ntmps55
  go_wp2_with (first | (go_at_call 53; refine (H1.out _).mono ?_; rintro e w1 ⟨rfl, hb1⟩; have hk1 := cell_old hb1; have hz1 := hb1.size))
  go_ret
  exact ⟨ret_int (by unfold roomV; omega), below_chain (by go_grown) hb1⟩
theorem box_keep {w w1 w' : World} {a b c d : Int} (h : w1.cell? ⟨w.heap.size, 0, none⟩ = some (.int .i64 a) ∧ w1.cell? ⟨w.heap.size, 1, none⟩ = some (.int .i64 b) ∧ w1.cell? ⟨w.heap.size, 2, none⟩ = some (.int .i64 c) ∧ w1.cell? ⟨w.heap.size, 3, none⟩ = some (.int .i64 d) ∧ Below w.heap.size w w1) (hb : Below w1.heap.size w1 w') : w'.cell? ⟨w.heap.size, 0, none⟩ = some (.int .i64 a) ∧ w'.cell? ⟨w.heap.size, 1, none⟩ = some (.int .i64 b) ∧ w'.cell? ⟨w.heap.size, 2, none⟩ = some (.int .i64 c) ∧ w'.cell? ⟨w.heap.size, 3, none⟩ = some (.int .i64 d) ∧ Below w.heap.size w w' := by
  obtain ⟨h0, h1, h2, h3, h4⟩ := h
  have hk := cell_old hb
  exact ⟨by rw [hk _ (by rw [h0]; rfl), h0], by rw [hk _ (by rw [h1]; rfl), h1], by rw [hk _ (by rw [h2]; rfl), h2], by rw [hk _ (by rw [h3]; rfl), h3], below_chain h4 hb⟩
theorem box_new {w w1 : World} {a b c d : Int} {t : TypeId} (hb : Below (w.alloc (.cells #[.int .i64 a, .int .i64 b, .int .i64 c, .int .i64 d] t)).heap.size (w.alloc (.cells #[.int .i64 a, .int .i64 b, .int .i64 c, .int .i64 d] t)) w1) : w1.cell? ⟨w.heap.size, 0, none⟩ = some (.int .i64 a) ∧ w1.cell? ⟨w.heap.size, 1, none⟩ = some (.int .i64 b) ∧ w1.cell? ⟨w.heap.size, 2, none⟩ = some (.int .i64 c) ∧ w1.cell? ⟨w.heap.size, 3, none⟩ = some (.int .i64 d) ∧ Below w.heap.size w w1 :=
  box_keep (w1 := w.alloc (.cells #[.int .i64 a, .int .i64 b, .int .i64 c, .int .i64 d] t)) ⟨cell_alloc_at .., cell_alloc_at .., cell_alloc_at .., cell_alloc_at .., by go_grown⟩ hb
theorem box_drew {w w1 : World} {a b c d : Int} (h : w1.cell? ⟨w.heap.size, 0, none⟩ = some (.int .i64 a) ∧ w1.cell? ⟨w.heap.size, 1, none⟩ = some (.int .i64 b) ∧ w1.cell? ⟨w.heap.size, 2, none⟩ = some (.int .i64 c) ∧ w1.cell? ⟨w.heap.size, 3, none⟩ = some (.int .i64 d) ∧ Below w.heap.size w w1) : w1.drew.cell? ⟨w.heap.size, 0, none⟩ = some (.int .i64 a) ∧ w1.drew.cell? ⟨w.heap.size, 1, none⟩ = some (.int .i64 b) ∧ w1.drew.cell? ⟨w.heap.size, 2, none⟩ = some (.int .i64 c) ∧ w1.drew.cell? ⟨w.heap.size, 3, none⟩ = some (.int .i64 d) ∧ Below w.heap.size w w1.drew := ⟨h.1, h.2.1, h.2.2.1, h.2.2.2.1, h.2.2.2.2.drew⟩
theorem size_ok {a b c d : Int} (h : okPlan a b c d = true) (w : World) : Calls Try.prog 12 #[.agg #[.int .i64 a, .int .i64 b, .int .i64 c, .int .i64 d]] w fun e w' => e = .returned (.int .i64 (sizeV a b c d)) ∧ Below w.heap.size w w' := by
  obtain ⟨b1, b2, b3, b4, b5, b6, b7, b8⟩ := ok_bd h
  have H1 := Lib.hid (fun w => bad_ok h w)
  have H2 := Lib.hid (fun w => wide_any a b c d (by omega) (by omega) w)
  have H3 := Lib.hid (fun w => room_ok h w)
  obtain ⟨s1, s2, s3, s4⟩ := sizeV_bd h
  unfold sizeV
  generalize wideV d = W at *
  generalize roomV c = R at *
  have q1 : IntKind.i64.wrap (a * W) = a * W := IntWalk.i64_in _ (by omega)
  have q2 : IntKind.i64.wrap (b * R) = b * R := IntWalk.i64_in _ (by omega)
  have q3 : IntKind.i64.wrap (a * W + b * R) = a * W + b * R := IntWalk.i64_in _ (by omega)
  clear h s1 s2 s3 s4
  go_enter Try.func12, Try.ntmps12
  go_wp2_with (first | (go_at_call 53; refine (H1.out _).mono ?_; rintro e w1 ⟨rfl, hb1⟩; have hk1 := cell_old hb1; have hz1 := hb1.size))
  have hS0 := box_new hb1
  clear hk1 hz1 hb1
  go_region_held3 (fun w' => w'.cell? ⟨w.heap.size, 0, none⟩ = some (.int .i64 a) ∧ w'.cell? ⟨w.heap.size, 1, none⟩ = some (.int .i64 b) ∧ w'.cell? ⟨w.heap.size, 2, none⟩ = some (.int .i64 c) ∧ w'.cell? ⟨w.heap.size, 3, none⟩ = some (.int .i64 d) ∧ Below w.heap.size w w') (first | assumption | exact box_keep (by assumption) hb | exact box_drew hS0) (first | (go_at_call 54; (with_reducible refine (H2.out _).mono ?_); rintro e w' ⟨rfl, hb⟩) | (go_at_call 55; (with_reducible refine (H3.out _).mono ?_); rintro e w' ⟨rfl, hb⟩))
  all_goals (rename_i hS; obtain ⟨_, _, _, _, hB⟩ := hS; go_wp2; go_ret; exact ⟨rfl, hB⟩)
end Go.Proofs.Ytooofpplhedgcaa
