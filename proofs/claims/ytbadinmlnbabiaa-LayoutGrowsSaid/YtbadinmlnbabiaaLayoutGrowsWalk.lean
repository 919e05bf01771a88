/- The walk through the law LayoutGrows. -/
import Derived.Test.YtbadinmlnbabiaaWorks11
import Derived.Deep.Cut
import Derived.Deep.CutRange
set_option linter.unusedVariables false
set_option linter.unusedSimpArgs false
namespace Go.Proofs.Ytbadinmlnbabiaa
open Go.RowKit
set_option maxHeartbeats 1000000
set_option maxRecDepth 100000
theorem three_keep {w w1 w' : World} {bp bq br : Nat} {A B C D : Int} (h : w1.cell? ⟨bp, 0, none⟩ = some (.int .i64 A) ∧ w1.cell? ⟨bp, 1, none⟩ = some (.int .i64 B) ∧ w1.cell? ⟨bp, 2, none⟩ = some (.int .i64 C) ∧ w1.cell? ⟨bp, 3, none⟩ = some (.int .i64 D) ∧ w1.cell? ⟨bq, 0, none⟩ = some (.int .i64 (A + 1)) ∧ w1.cell? ⟨bq, 1, none⟩ = some (.int .i64 B) ∧ w1.cell? ⟨bq, 2, none⟩ = some (.int .i64 C) ∧ w1.cell? ⟨bq, 3, none⟩ = some (.int .i64 D) ∧ w1.cell? ⟨br, 0, none⟩ = some (.int .i64 A) ∧ w1.cell? ⟨br, 1, none⟩ = some (.int .i64 (B + 1)) ∧ w1.cell? ⟨br, 2, none⟩ = some (.int .i64 C) ∧ w1.cell? ⟨br, 3, none⟩ = some (.int .i64 D) ∧ Below w.heap.size w w1) (hb : Below w1.heap.size w1 w') : w'.cell? ⟨bp, 0, none⟩ = some (.int .i64 A) ∧ w'.cell? ⟨bp, 1, none⟩ = some (.int .i64 B) ∧ w'.cell? ⟨bp, 2, none⟩ = some (.int .i64 C) ∧ w'.cell? ⟨bp, 3, none⟩ = some (.int .i64 D) ∧ w'.cell? ⟨bq, 0, none⟩ = some (.int .i64 (A + 1)) ∧ w'.cell? ⟨bq, 1, none⟩ = some (.int .i64 B) ∧ w'.cell? ⟨bq, 2, none⟩ = some (.int .i64 C) ∧ w'.cell? ⟨bq, 3, none⟩ = some (.int .i64 D) ∧ w'.cell? ⟨br, 0, none⟩ = some (.int .i64 A) ∧ w'.cell? ⟨br, 1, none⟩ = some (.int .i64 (B + 1)) ∧ w'.cell? ⟨br, 2, none⟩ = some (.int .i64 C) ∧ w'.cell? ⟨br, 3, none⟩ = some (.int .i64 D) ∧ Below w.heap.size w w' := by
  obtain ⟨x0, x1, x2, x3, x4, x5, x6, x7, x8, x9, x10, x11, hB⟩ := h
  have hk := cell_old hb
  exact ⟨by rw [hk _ (by rw [x0]; rfl), x0], by rw [hk _ (by rw [x1]; rfl), x1], by rw [hk _ (by rw [x2]; rfl), x2], by rw [hk _ (by rw [x3]; rfl), x3], by rw [hk _ (by rw [x4]; rfl), x4], by rw [hk _ (by rw [x5]; rfl), x5], by rw [hk _ (by rw [x6]; rfl), x6], by rw [hk _ (by rw [x7]; rfl), x7], by rw [hk _ (by rw [x8]; rfl), x8], by rw [hk _ (by rw [x9]; rfl), x9], by rw [hk _ (by rw [x10]; rfl), x10], by rw [hk _ (by rw [x11]; rfl), x11], below_chain hB hb⟩
theorem three_drew {w w1 : World} {bp bq br : Nat} {A B C D : Int} (h : w1.cell? ⟨bp, 0, none⟩ = some (.int .i64 A) ∧ w1.cell? ⟨bp, 1, none⟩ = some (.int .i64 B) ∧ w1.cell? ⟨bp, 2, none⟩ = some (.int .i64 C) ∧ w1.cell? ⟨bp, 3, none⟩ = some (.int .i64 D) ∧ w1.cell? ⟨bq, 0, none⟩ = some (.int .i64 (A + 1)) ∧ w1.cell? ⟨bq, 1, none⟩ = some (.int .i64 B) ∧ w1.cell? ⟨bq, 2, none⟩ = some (.int .i64 C) ∧ w1.cell? ⟨bq, 3, none⟩ = some (.int .i64 D) ∧ w1.cell? ⟨br, 0, none⟩ = some (.int .i64 A) ∧ w1.cell? ⟨br, 1, none⟩ = some (.int .i64 (B + 1)) ∧ w1.cell? ⟨br, 2, none⟩ = some (.int .i64 C) ∧ w1.cell? ⟨br, 3, none⟩ = some (.int .i64 D) ∧ Below w.heap.size w w1) : w1.drew.cell? ⟨bp, 0, none⟩ = some (.int .i64 A) ∧ w1.drew.cell? ⟨bp, 1, none⟩ = some (.int .i64 B) ∧ w1.drew.cell? ⟨bp, 2, none⟩ = some (.int .i64 C) ∧ w1.drew.cell? ⟨bp, 3, none⟩ = some (.int .i64 D) ∧ w1.drew.cell? ⟨bq, 0, none⟩ = some (.int .i64 (A + 1)) ∧ w1.drew.cell? ⟨bq, 1, none⟩ = some (.int .i64 B) ∧ w1.drew.cell? ⟨bq, 2, none⟩ = some (.int .i64 C) ∧ w1.drew.cell? ⟨bq, 3, none⟩ = some (.int .i64 D) ∧ w1.drew.cell? ⟨br, 0, none⟩ = some (.int .i64 A) ∧ w1.drew.cell? ⟨br, 1, none⟩ = some (.int .i64 (B + 1)) ∧ w1.drew.cell? ⟨br, 2, none⟩ = some (.int .i64 C) ∧ w1.drew.cell? ⟨br, 3, none⟩ = some (.int .i64 D) ∧ Below w.heap.size w w1.drew := by
  obtain ⟨x0, x1, x2, x3, x4, x5, x6, x7, x8, x9, x10, x11, hB⟩ := h
  exact ⟨x0, x1, x2, x3, x4, x5, x6, x7, x8, x9, x10, x11, hB.drew⟩
theorem three_made {w w1 : World} {bp bq br : Nat} {A B C D : Int} (hp : w1.heap[bp]? = some (.cells #[.int .i64 A, .int .i64 B, .int .i64 C, .int .i64 D] 24 (0, 0))) (hq : w1.heap[bq]? = some (.cells #[.int .i64 A, .int .i64 B, .int .i64 C, .int .i64 D] 24 (0, 0))) (hr : w1.heap[br]? = some (.cells #[.int .i64 A, .int .i64 B, .int .i64 C, .int .i64 D] 24 (0, 0))) (h1 : bp ≠ bq) (h2 : bp ≠ br) (h3 : bq ≠ br) (hB : Below w.heap.size w w1) (hq' : w.heap.size ≤ bq) (hr' : w.heap.size ≤ br) : ((w1.setCell ⟨bq, 0, none⟩ (.int .i64 (A + 1))).setCell ⟨br, 1, none⟩ (.int .i64 (B + 1))).cell? ⟨bp, 0, none⟩ = some (.int .i64 A) ∧ ((w1.setCell ⟨bq, 0, none⟩ (.int .i64 (A + 1))).setCell ⟨br, 1, none⟩ (.int .i64 (B + 1))).cell? ⟨bp, 1, none⟩ = some (.int .i64 B) ∧ ((w1.setCell ⟨bq, 0, none⟩ (.int .i64 (A + 1))).setCell ⟨br, 1, none⟩ (.int .i64 (B + 1))).cell? ⟨bp, 2, none⟩ = some (.int .i64 C) ∧ ((w1.setCell ⟨bq, 0, none⟩ (.int .i64 (A + 1))).setCell ⟨br, 1, none⟩ (.int .i64 (B + 1))).cell? ⟨bp, 3, none⟩ = some (.int .i64 D) ∧ ((w1.setCell ⟨bq, 0, none⟩ (.int .i64 (A + 1))).setCell ⟨br, 1, none⟩ (.int .i64 (B + 1))).cell? ⟨bq, 0, none⟩ = some (.int .i64 (A + 1)) ∧ ((w1.setCell ⟨bq, 0, none⟩ (.int .i64 (A + 1))).setCell ⟨br, 1, none⟩ (.int .i64 (B + 1))).cell? ⟨bq, 1, none⟩ = some (.int .i64 B) ∧ ((w1.setCell ⟨bq, 0, none⟩ (.int .i64 (A + 1))).setCell ⟨br, 1, none⟩ (.int .i64 (B + 1))).cell? ⟨bq, 2, none⟩ = some (.int .i64 C) ∧ ((w1.setCell ⟨bq, 0, none⟩ (.int .i64 (A + 1))).setCell ⟨br, 1, none⟩ (.int .i64 (B + 1))).cell? ⟨bq, 3, none⟩ = some (.int .i64 D) ∧ ((w1.setCell ⟨bq, 0, none⟩ (.int .i64 (A + 1))).setCell ⟨br, 1, none⟩ (.int .i64 (B + 1))).cell? ⟨br, 0, none⟩ = some (.int .i64 A) ∧ ((w1.setCell ⟨bq, 0, none⟩ (.int .i64 (A + 1))).setCell ⟨br, 1, none⟩ (.int .i64 (B + 1))).cell? ⟨br, 1, none⟩ = some (.int .i64 (B + 1)) ∧ ((w1.setCell ⟨bq, 0, none⟩ (.int .i64 (A + 1))).setCell ⟨br, 1, none⟩ (.int .i64 (B + 1))).cell? ⟨br, 2, none⟩ = some (.int .i64 C) ∧ ((w1.setCell ⟨bq, 0, none⟩ (.int .i64 (A + 1))).setCell ⟨br, 1, none⟩ (.int .i64 (B + 1))).cell? ⟨br, 3, none⟩ = some (.int .i64 D) ∧ Below w.heap.size w ((w1.setCell ⟨bq, 0, none⟩ (.int .i64 (A + 1))).setCell ⟨br, 1, none⟩ (.int .i64 (B + 1))) := by
  have e1 := set_at hq 0 (.int .i64 (A + 1))
  have e2 : ((w1.setCell ⟨bq, 0, none⟩ (.int .i64 (A + 1))).setCell ⟨br, 1, none⟩ (.int .i64 (B + 1))).heap[bq]? = _ := (set_else h3 1 _).trans e1
  have e3 : ((w1.setCell ⟨bq, 0, none⟩ (.int .i64 (A + 1))).setCell ⟨br, 1, none⟩ (.int .i64 (B + 1))).heap[br]? = _ := set_at ((set_else h3.symm 0 _).trans hr) 1 _
  have e4 : ((w1.setCell ⟨bq, 0, none⟩ (.int .i64 (A + 1))).setCell ⟨br, 1, none⟩ (.int .i64 (B + 1))).heap[bp]? = _ := (set_else h2 1 _).trans ((set_else h1 0 _).trans hp)
  exact ⟨cell_at e4 0, cell_at e4 1, cell_at e4 2, cell_at e4 3, cell_at e2 0, cell_at e2 1, cell_at e2 2, cell_at e2 3, cell_at e3 0, cell_at e3 1, cell_at e3 2, cell_at e3 3, (hB.setCell hq' _).setCell hr' _⟩
theorem grows_facts {A B C D : Int} (a0 : 1 ≤ A ∧ A ≤ 63) (a1 : 1 ≤ B ∧ B ≤ 255) (a2 : 1 ≤ C ∧ C ≤ 64) (a3 : 2 ≤ D ∧ D ≤ 256) :
    okPlan A B C D = true ∧ okPlan (A + 1) B C D = true ∧ okPlan A (B + 1) C D = true ∧ sizeV (A + 1) B C D - sizeV A B C D = 4 + D ∧ sizeV A (B + 1) C D - sizeV A B C D = roomV C ∧
      frameV (A + 1) B C D 1 - frameV A B C D 1 = 4 + D ∧ frameV A (B + 1) C D 1 = frameV A B C D 1 ∧ frameV A (B + 1) C D (B + 1) - frameV A B C D 1 = B * roomV C ∧ baseV (A + 1) D A = frameV A B C D 1 ∧ baseV A D 0 = 0 ∧ frameV A B C D B + roomV C = sizeV A B C D := by
  have c1 : clamp 1 1 B = 1 := by unfold clamp; omega
  have c2 : clamp 1 1 (B + 1) = 1 := by unfold clamp; omega
  have c3 : clamp (B + 1) 1 (B + 1) = B + 1 := by unfold clamp; omega
  have c4 : clamp A 0 (A + 1 - 1) = A := by unfold clamp; omega
  have c5 : clamp 0 0 (A - 1) = 0 := by unfold clamp; omega
  have c6 : clamp B 1 B = B := by unfold clamp; omega
  have d1 : B + 1 - 1 = B := by omega
  have d2 : (A + 1) * wideV D = A * wideV D + wideV D := by rw [Int.add_mul, Int.one_mul]
  have d3 : (B + 1) * roomV C = B * roomV C + roomV C := by rw [Int.add_mul, Int.one_mul]
  have d4 : (B - 1) * roomV C = B * roomV C - roomV C := by rw [Int.sub_mul, Int.one_mul]
  have d5 : wideV D = 4 + D := rfl
  refine ⟨by unfold okPlan; simp; omega, by unfold okPlan; simp; omega, by unfold okPlan; simp; omega, ?_, ?_, ?_, ?_, ?_, ?_, ?_, ?_⟩
  all_goals simp only [sizeV, frameV, baseV, c1, c2, c3, c4, c5, c6, d1, d2, d3, d4, Int.sub_self, Int.zero_mul]
  all_goals omega
set_option maxHeartbeats 4000000 in
theorem grows_core (v0 v1 v2 v3 : Nat) (A B C D : Int) (w : World) (k0 : v0 ≤ 255) (k1 : v1 ≤ 255) (k2 : v2 ≤ 255) (k3 : v3 ≤ 255) (hA : (v0 : Int) % 63 + 1 = A) (hB : (v1 : Int) % 255 + 1 = B) (hC : (v2 : Int) % 64 + 1 = C) (hD : (v3 : Int) % 255 + 2 = D) :
    Calls Try.prog 3 #[.int .u8 v0, .int .u8 v1, .int .u8 v2, .int .u8 v3] w fun e w' => e = .returned (.bool true) ∧ Below w.heap.size w w' := by
  have a0 : 1 ≤ A ∧ A ≤ 63 := by omega
  have a1 : 1 ≤ B ∧ B ≤ 255 := by omega
  have a2 : 1 ≤ C ∧ C ≤ 64 := by omega
  have a3 : 2 ≤ D ∧ D ≤ 256 := by omega
  obtain ⟨o1, o2, o3, f1, f2, f3, f4, f5, f6, f7, f8⟩ := grows_facts a0 a1 a2 a3
  have s1 := sizeV_bd o1
  have s4 := frameV_bd o1 1
  have s5 := frameV_bd o1 B
  have s6 := roomV_bd o1
  have HCp := fun w => check_any A B C D w
  have HCq := fun w => check_any (A + 1) B C D w
  have HCr := fun w => check_any A (B + 1) C D w
  rw [show checkOf A B C D = 0 by unfold checkOf; rw [if_pos o1]] at HCp
  rw [show checkOf (A + 1) B C D = 0 by unfold checkOf; rw [if_pos o2]] at HCq
  rw [show checkOf A (B + 1) C D = 0 by unfold checkOf; rw [if_pos o3]] at HCr
  have HSp := fun w => size_ok o1 w
  have HSq := fun w => size_ok o2 w
  have HSr := fun w => size_ok o3 w
  have HRm := fun w => room_ok o1 w
  have HFp := fun w => frame_ok o1 1 w
  have HFq := fun w => frame_ok o2 1 w
  have HFr := fun w => frame_ok o3 1 w
  have HFrr := fun w => frame_ok o3 (B + 1) w
  have HFpp := fun w => frame_ok o1 B w
  have HBq := fun w => base_ok o2 A w
  have HB0 := fun w => base_ok o1 0 w
  rw [f4] at HFr
  rw [f6] at HBq
  rw [f7] at HB0
  have u1 : 0 ≤ sizeV A B C D ∧ sizeV A B C D ≤ 83712 := by unfold sizeV; omega
  clear o1 o2 o3 f4 f6 f7
  generalize sizeV (A + 1) B C D = SQ at *
  generalize sizeV A (B + 1) C D = SR at *
  generalize sizeV A B C D = SP at *
  generalize frameV A (B + 1) C D (B + 1) = FRR at *
  generalize frameV (A + 1) B C D 1 = FQ at *
  generalize frameV A B C D 1 = FP at *
  generalize frameV A B C D B = FPP at *
  have q1 : IntKind.i64.wrap (SQ - SP) = 4 + D := by rw [f1]; exact IntWalk.i64_in _ (by omega)
  have q2 : IntKind.i64.wrap (4 + D) = 4 + D := IntWalk.i64_in _ (by omega)
  have q3 : IntKind.i64.wrap (SR - SP) = roomV C := by rw [f2]; exact IntWalk.i64_in _ (by omega)
  have q4 : IntKind.i64.wrap (FQ - FP) = 4 + D := by rw [f3]; exact IntWalk.i64_in _ (by omega)
  have q5 : IntKind.i64.wrap (FRR - FP) = B * roomV C := by rw [f5]; exact IntWalk.i64_in _ (by omega)
  have q6 : IntKind.i64.wrap (B * roomV C) = B * roomV C := IntWalk.i64_in _ (by omega)
  have q7 : IntKind.i64.wrap (FPP + roomV C) = SP := by rw [f8]; exact IntWalk.i64_in _ (by omega)
  generalize roomV C = R at *
  replace HCp := Lib.hid HCp
  replace HCq := Lib.hid HCq
  replace HCr := Lib.hid HCr
  replace HSp := Lib.hid HSp
  replace HSq := Lib.hid HSq
  replace HSr := Lib.hid HSr
  replace HRm := Lib.hid HRm
  replace HFp := Lib.hid HFp
  replace HFq := Lib.hid HFq
  replace HFr := Lib.hid HFr
  replace HFrr := Lib.hid HFrr
  replace HFpp := Lib.hid HFpp
  replace HBq := Lib.hid HBq
  replace HB0 := Lib.hid HB0
  replace q1 := Lib.hid q1
  replace q2 := Lib.hid q2
  replace q3 := Lib.hid q3
  replace q4 := Lib.hid q4
  replace q5 := Lib.hid q5
  replace q6 := Lib.hid q6
  replace q7 := Lib.hid q7
  clear f1 f2 f3 f5 f8 s1 s4 s5 s6 u1
  go_enter Try.func3, Try.ntmps3
  go_wp2_with (go_at_call 13; refine (works11_any _).mono ?_; rintro e w1 ⟨rfl, hb1⟩)
  go_cut [10, 11] from 31 to 32 (fun q r wx => ∃ bq br : Nat, q = .pointer (some ⟨bq, 0, none⟩) ∧ r = .pointer (some ⟨br, 0, none⟩) ∧ wx.heap[w1.heap.size]? = some (.cells #[.int .i64 A, .int .i64 B, .int .i64 C, .int .i64 D] 24 (0, 0)) ∧ wx.heap[bq]? = some (.cells #[.int .i64 A, .int .i64 B, .int .i64 C, .int .i64 D] 24 (0, 0)) ∧ wx.heap[br]? = some (.cells #[.int .i64 A, .int .i64 B, .int .i64 C, .int .i64 D] 24 (0, 0)) ∧ w1.heap.size ≠ bq ∧ w1.heap.size ≠ br ∧ bq ≠ br ∧ Below w.heap.size w wx ∧ w.heap.size ≤ bq ∧ w.heap.size ≤ br)
  case first =>
    go_region
    all_goals
      go_wp2
      go_meet
      have hz := hb1.size
      have e0 := alloc_new w1 (.cells #[.int .i64 A, .int .i64 B, .int .i64 C, .int .i64 D] 24)
      have e1 := alloc_new (w1.alloc (.cells #[.int .i64 A, .int .i64 B, .int .i64 C, .int .i64 D] 24)) (.cells #[.int .i64 A, .int .i64 B, .int .i64 C, .int .i64 D] 24)
      have e2 := alloc_new ((w1.alloc (.cells #[.int .i64 A, .int .i64 B, .int .i64 C, .int .i64 D] 24)).alloc (.cells #[.int .i64 A, .int .i64 B, .int .i64 C, .int .i64 D] 24)) (.cells #[.int .i64 A, .int .i64 B, .int .i64 C, .int .i64 D] 24)
      simp only [World.size_alloc] at e1 e2
      exact ⟨_, _, rfl, rfl, alloc_at (alloc_at e0 _) _, by first | exact e2 | exact alloc_at e1 _, by first | exact e2 | exact alloc_at e1 _, by omega, by omega, by omega, ((((hb1.alloc (by omega) _).alloc (by simp; omega) _).alloc (by simp; omega) _).drew), by omega, by omega⟩
  case rest =>
    obtain ⟨bq, br, rfl, rfl, hp, hq, hr, n1, n2, n3, hB, l1, l2⟩ := hcut
    generalize w1.heap.size = bp at *
    have hS := three_made hp hq hr n1 n2 n3 hB l1 l2
    have y0 := cell_at hq 0
    have y1 := free_at hq 0
    have y2 := cell_at hr 1
    have y3 := free_at hr 1
    simp at y0 y2
    have y4 := (World.cell?_of_block (a := ⟨br, 1, none⟩) (set_else n3.symm 0 (.int .i64 (A + 1)) : (wc.setCell ⟨bq, 0, none⟩ (.int .i64 (A + 1))).heap[br]? = wc.heap[br]?)).trans y2
    have y5 := (World.frozen?_of_block (a := ⟨br, 1, none⟩) (set_else n3.symm 0 (.int .i64 (A + 1)) : (wc.setCell ⟨bq, 0, none⟩ (.int .i64 (A + 1))).heap[br]? = wc.heap[br]?)).trans y3
    clear hp hq hr y2 y3
    go_upto_region 7 with fail
    generalize (wc.setCell ⟨bq, 0, none⟩ (.int .i64 (A + 1))).setCell ⟨br, 1, none⟩ (.int .i64 (B + 1)) = u at *
    clear y0 y1 y4 y5 hB
    obtain ⟨x0, x1, x2, x3, x4, x5, x6, x7, x8, x9, x10, x11, hB⟩ := id hS
    go_upto_region 9 with (first | (go_at_call 14; (with_reducible refine (HCp.out _).mono ?_); rintro e w' ⟨rfl, hb⟩; replace hS := three_keep hS hb; obtain ⟨x0, x1, x2, x3, x4, x5, x6, x7, x8, x9, x10, x11, hB⟩ := id hS) | (go_at_call 14; (with_reducible refine (HCq.out _).mono ?_); rintro e w' ⟨rfl, hb⟩; replace hS := three_keep hS hb; obtain ⟨x0, x1, x2, x3, x4, x5, x6, x7, x8, x9, x10, x11, hB⟩ := id hS) | (go_at_call 14; (with_reducible refine (HCr.out _).mono ?_); rintro e w' ⟨rfl, hb⟩; replace hS := three_keep hS hb; obtain ⟨x0, x1, x2, x3, x4, x5, x6, x7, x8, x9, x10, x11, hB⟩ := id hS))
    have hS0 := hS
    clear hS x0 x1 x2 x3 x4 x5 x6 x7 x8 x9 x10 x11 hB
    replace q1 := q1.out
    replace q2 := q2.out
    replace q3 := q3.out
    replace q4 := q4.out
    replace q5 := q5.out
    replace q6 := q6.out
    replace q7 := q7.out
    go_region_held3 (fun w' => w'.cell? ⟨bp, 0, none⟩ = some (.int .i64 A) ∧ w'.cell? ⟨bp, 1, none⟩ = some (.int .i64 B) ∧ w'.cell? ⟨bp, 2, none⟩ = some (.int .i64 C) ∧ w'.cell? ⟨bp, 3, none⟩ = some (.int .i64 D) ∧ w'.cell? ⟨bq, 0, none⟩ = some (.int .i64 (A + 1)) ∧ w'.cell? ⟨bq, 1, none⟩ = some (.int .i64 B) ∧ w'.cell? ⟨bq, 2, none⟩ = some (.int .i64 C) ∧ w'.cell? ⟨bq, 3, none⟩ = some (.int .i64 D) ∧ w'.cell? ⟨br, 0, none⟩ = some (.int .i64 A) ∧ w'.cell? ⟨br, 1, none⟩ = some (.int .i64 (B + 1)) ∧ w'.cell? ⟨br, 2, none⟩ = some (.int .i64 C) ∧ w'.cell? ⟨br, 3, none⟩ = some (.int .i64 D) ∧ Below w.heap.size w w') (first | assumption | exact three_keep (by assumption) hb | exact three_drew hS0) (first | (go_at_call 15; (with_reducible refine (HSp.out _).mono ?_); rintro e w' ⟨rfl, hb⟩) | (go_at_call 15; (with_reducible refine (HSq.out _).mono ?_); rintro e w' ⟨rfl, hb⟩) | (go_at_call 15; (with_reducible refine (HSr.out _).mono ?_); rintro e w' ⟨rfl, hb⟩) | (go_at_call 16; (with_reducible refine (HRm.out _).mono ?_); rintro e w' ⟨rfl, hb⟩) | (go_at_call 17; (with_reducible refine (HFp.out _).mono ?_); rintro e w' ⟨rfl, hb⟩) | (go_at_call 17; (with_reducible refine (HFq.out _).mono ?_); rintro e w' ⟨rfl, hb⟩) | (go_at_call 17; (with_reducible refine (HFr.out _).mono ?_); rintro e w' ⟨rfl, hb⟩))
    rename_i hS1
    replace hS0 := hS1
    clear hS1
    go_upto_region 11 with fail
    go_region_held3 (fun w' => w'.cell? ⟨bp, 0, none⟩ = some (.int .i64 A) ∧ w'.cell? ⟨bp, 1, none⟩ = some (.int .i64 B) ∧ w'.cell? ⟨bp, 2, none⟩ = some (.int .i64 C) ∧ w'.cell? ⟨bp, 3, none⟩ = some (.int .i64 D) ∧ w'.cell? ⟨bq, 0, none⟩ = some (.int .i64 (A + 1)) ∧ w'.cell? ⟨bq, 1, none⟩ = some (.int .i64 B) ∧ w'.cell? ⟨bq, 2, none⟩ = some (.int .i64 C) ∧ w'.cell? ⟨bq, 3, none⟩ = some (.int .i64 D) ∧ w'.cell? ⟨br, 0, none⟩ = some (.int .i64 A) ∧ w'.cell? ⟨br, 1, none⟩ = some (.int .i64 (B + 1)) ∧ w'.cell? ⟨br, 2, none⟩ = some (.int .i64 C) ∧ w'.cell? ⟨br, 3, none⟩ = some (.int .i64 D) ∧ Below w.heap.size w w') (first | assumption | exact three_keep (by assumption) hb | exact three_drew hS0) (first | (go_at_call 15; (with_reducible refine (HSp.out _).mono ?_); rintro e w' ⟨rfl, hb⟩) | (go_at_call 16; (with_reducible refine (HRm.out _).mono ?_); rintro e w' ⟨rfl, hb⟩) | (go_at_call 17; (with_reducible refine (HFrr.out _).mono ?_); rintro e w' ⟨rfl, hb⟩) | (go_at_call 17; (with_reducible refine (HFr.out _).mono ?_); rintro e w' ⟨rfl, hb⟩) | (go_at_call 17; (with_reducible refine (HFp.out _).mono ?_); rintro e w' ⟨rfl, hb⟩) | (go_at_call 17; (with_reducible refine (HFpp.out _).mono ?_); rintro e w' ⟨rfl, hb⟩) | (go_at_call 18; (with_reducible refine (HBq.out _).mono ?_); rintro e w' ⟨rfl, hb⟩) | (go_at_call 18; (with_reducible refine (HB0.out _).mono ?_); rintro e w' ⟨rfl, hb⟩))
    rename_i hS1
    obtain ⟨x0, x1, x2, x3, x4, x5, x6, x7, x8, x9, x10, x11, hB⟩ := hS1
    go_wp2
    go_ret
    exact ⟨rfl, hB⟩
theorem walkLayoutGrows (v0 v1 v2 v3 : Value) (w : World) (h0 : Arg Try.prog w 5 v0) (h1 : Arg Try.prog w 5 v1) (h2 : Arg Try.prog w 5 v2) (h3 : Arg Try.prog w 5 v3) :
    Calls Try.prog 3 #[v0, v1, v2, v3] w fun e w' => e = .returned (.bool true) ∧ Below w.heap.size w w' := by
  obtain ⟨a, rfl, ha⟩ := h0.int Try.underlying5
  obtain ⟨b, rfl, hb⟩ := h1.int Try.underlying5
  obtain ⟨c, rfl, hc⟩ := h2.int Try.underlying5
  obtain ⟨d, rfl, hd⟩ := h3.int Try.underlying5
  simp [Lit.wf, IntKind.min, IntKind.max, IntKind.signed, IntKind.bits] at ha hb hc hd
  obtain ⟨a, rfl⟩ : ∃ n : Nat, a = n := ⟨a.toNat, by omega⟩
  obtain ⟨b, rfl⟩ : ∃ n : Nat, b = n := ⟨b.toNat, by omega⟩
  obtain ⟨c, rfl⟩ : ∃ n : Nat, c = n := ⟨c.toNat, by omega⟩
  obtain ⟨d, rfl⟩ : ∃ n : Nat, d = n := ⟨d.toNat, by omega⟩
  exact grows_core a b c d _ _ _ _ w (by omega) (by omega) (by omega) (by omega) rfl rfl rfl rfl
end Go.Proofs.Ytbadinmlnbabiaa
