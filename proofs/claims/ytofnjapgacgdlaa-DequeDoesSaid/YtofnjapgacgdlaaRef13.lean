/- The document's deque: forebayref13's word, with, slot. -/
import Derived.Test.YtofnjapgacgdlaaDqWorks
import Derived.Test.YtofnjapgacgdlaaLies
import Derived.Lib.MinMax
set_option linter.unusedVariables false
set_option linter.unusedSimpArgs false
namespace Go.Proofs.Ytofnjapgacgdlaa
open Go.RowKit
set_option maxRecDepth 100000
set_option maxHeartbeats 8000000
theorem Try.infoIntR : (Try.prog.info? 3).map (fun i => (i.zero, i.size, i.bytes)) = some (some (.int .i64 0), 1, 8) := by kernel_rfl
def mRow (v : Value) (ms : List Int) : Ast := rowA 3 1 v ms.length (ms.map (.int .i64))
theorem one_cellsR (xs : List Int) : ∀ u ∈ xs.map (Value.int .i64), u.oneCell' = true := by
  intro u hu
  obtain ⟨x, _, rfl⟩ := List.mem_map.1 hu
  rfl
theorem rword {w : World} {ao : Option Addr} {c : Nat} {ms : List Int} (h : Lies w ao c ms) {k : Nat} (hk : k < ms.length) (y : Int) (hy : ms.getD k 0 = y) :
    Calls Try.prog 69 #[.slice ao ms.length c, .int .i64 k] w fun e w' => e = .returned (.int .i64 y) ∧ w = w' := by
  have hc := h.1
  have hc2 := h.2.1
  unfold maxLen at hc2
  obtain ⟨ad, rfl, hx⟩ := h.get hk
  rw [hy] at hx
  clear hy
  have k1 : decide ((k : Int) < 0) = false := decide_eq_false (by omega)
  have k2 : decide ((ms.length : Int) ≤ (k : Int)) = false := decide_eq_false (by omega)
  have k3 : decide (ms.length ≤ k) = false := decide_eq_false (by omega)
  go_enter Try.func69, Try.ntmps69
  go_wp2_with fail
  go_ret
  exact ⟨rfl, rfl⟩
theorem rwith {w0 w : World} {ao : Option Addr} {c : Nat} {ms : List Int} {l : List Ast} (hO : Own w0 w (mRow (.slice ao ms.length c) ms :: l)) {k : Nat} (hk : k < ms.length) (hl : ms.length ≤ 100000) (x : Int) (ms' : List Int) (hm : ms.set k x = ms') :
    Calls Try.prog 70 #[.slice ao ms.length c, .int .i64 k, .int .i64 x] w fun e w' => ∃ ao' c', e = .returned (.slice ao' ms'.length c') ∧ Own w0 w' (mRow (.slice ao' ms'.length c') ms' :: l) := by
  obtain ⟨i1, hi1, hw0, hw1', hw2'⟩ := info_parts' Try.infoIntR
  obtain ⟨_, _, hv, b1, b2, _⟩ := (hO.row 0 rfl).shape
  simp only [Value.slice.injEq] at hv
  obtain ⟨rfl, _, rfl⟩ := hv
  unfold maxLen at b2
  have hsrc := (hO.row 0 rfl).src'
  have hone := one_cellsR ms
  have hln : ms'.length = ms.length := by rw [← hm]; simp
  have hE := Lib.hid (fun (w2 : World) (ao2 : Option Addr) (cap2 : Nat) (hrow : Row w2 3 1 (.slice ao2 ms.length cap2) ms.length (ms.map (.int .i64))) (hb : Below w.heap.size w w2) (hf : ∀ k, Value.ownBlock (.slice ao2 ms.length cap2) = some k → w.heap.size ≤ k) =>
    show ∃ g off, ao2 = some ⟨g, off, none⟩ ∧ ms.length ≤ cap2 ∧ cap2 ≤ maxLen ∧ (∃ v, w2.cell? ⟨g, off + k, none⟩ = some v) ∧ w2.frozen? ⟨g, off + k, none⟩ = false ∧ Own w0 (w2.setCell ⟨g, off + k, none⟩ (.int .i64 x)) (mRow (.slice (some ⟨g, off, none⟩) ms'.length cap2) ms' :: l) from by
      have hO2 := hO.push hb (rowA 3 1 (.slice ao2 ms.length cap2) ms.length (ms.map (.int .i64))) hrow hf
      obtain ⟨g, off, cap3, hv3, q1, q2, q3, q4⟩ := hrow.addr (show 0 < ms.length by omega)
      simp only [Value.slice.injEq] at hv3
      obtain ⟨rfl, _, rfl⟩ := hv3
      have hO3 : Own w0 w2 (rowA 3 1 (.slice (some ⟨g, off, none⟩) ms.length cap2) ms.length (ms.map (.int .i64)) :: l) := (hO2.pm (List.perm_append_comm (l₁ := _ :: l) (l₂ := [_]))).sub (.cons_cons _ (.cons _ (List.Sublist.refl _)))
      have hs := hO3.rowset 0 rfl k (.int .i64 x) (xs' := ms'.map (.int .i64)) (by rw [map_set_i, hm])
      have hfr := hrow.free (j := k) (by omega)
      rw [Addr.add_lit] at hfr
      refine ⟨g, off, rfl, q1, q2, ⟨_, by rw [q3 k (by omega), getD_map hk]⟩, hfr, hs.cast ?_⟩
      simp [mRow, hln])
  clear hO hm
  have k1 : decide ((0 : Int) ≤ (k : Int)) = true := decide_eq_true (by omega)
  have k2 : decide ((k : Int) < (ms.length : Int)) = true := decide_eq_true (by omega)
  have k3 : (k : Int) < (ms.length : Int) := by omega
  have k4 : (0 : Int) ≤ (k : Int) := by omega
  go_enter Try.func70, Try.ntmps70
  go_wp2_with (at_builtin; refine wpList_append_copy' _ rfl _ _ 26 rfl 3 i1 (.int .i64 0) 1 8 Try.underlying26 hi1 hw0 hw1' hw2' rfl (by decide) _ (by simp) rfl ao ms.length c (ms.map (Value.int .i64)) rfl hsrc hone (by unfold maxLen; omega) (by omega) ?_; intro ao2 cap2 w2 hrow hb2 hf2; obtain ⟨g, off, rfl, q1, q2, ⟨v, y1⟩, y2, hS⟩ := hE.out _ _ _ hrow hb2 hf2; unfold maxLen at q2; replace hS := Lib.hid hS; clear hrow hf2)
  go_ret
  exact ⟨_, _, by rw [hln]; rfl, hS.out⟩
theorem rslot (kd D at_ t x n h : Int) (B : Nat) (got full : Bool) (y : Int) (w : World) (hD : 0 < D ∧ D ≤ 1000) (hB : B ≤ 100000) :
    Calls Try.prog 71 #[.agg #[.int .i64 kd, .int .i64 (B : Int), .int .i64 D, .int .i64 at_, .int .i64 t, .int .i64 x, .int .i64 n, .int .i64 h, .bool got, .bool full], .int .i64 y] w fun e w' => e = .returned (.int .i64 ((slotN B D y : Nat) : Int)) ∧ Below w.heap.size w w' := by
  have hb := below_alloc' w (.cells #[.int .i64 kd, .int .i64 (B : Int), .int .i64 D, .int .i64 at_, .int .i64 t, .int .i64 x, .int .i64 n, .int .i64 h, .bool got, .bool full] 68)
  have hN := alloc_new w (.cells #[.int .i64 kd, .int .i64 (B : Int), .int .i64 D, .int .i64 at_, .int .i64 t, .int .i64 x, .int .i64 n, .int .i64 h, .bool got, .bool full] 68)
  go_enter Try.func71, Try.ntmps71
  go_wp2_with fail
  generalize w.alloc (.cells #[.int .i64 kd, .int .i64 (B : Int), .int .i64 D, .int .i64 at_, .int .i64 t, .int .i64 x, .int .i64 n, .int .i64 h, .bool got, .bool full] 68) = u at *
  generalize hrb : w.heap.size = rb at hN ⊢
  clear hrb
  have hm := mod_bd (x := max y 0) (y := D) hD.1
  have e1 : IntKind.i64.wrap ((B : Int) + 4) = (B : Int) + 4 := IntWalk.i64_in _ (by omega)
  have e2 : (max y 0).tmod D = max y 0 % D := Int.tmod_eq_emod_of_nonneg (by omega)
  obtain ⟨m, hm2⟩ : ∃ m, max y 0 % D = m := ⟨_, rfl⟩
  rw [hm2] at e2 hm
  have e3 : IntKind.i64.wrap ((B : Int) + 4 + m) = ((slotN B D y : Nat) : Int) := by
    rw [IntWalk.i64_in _ (by omega)]
    unfold slotN
    rw [hm2]
    omega
  have e4 : ¬ D = 0 := by omega
  have e5 : (D == 0) = false := by simp; omega
  have e6 : IntKind.i64.wrap m = m := IntWalk.i64_in _ (by omega)
  have hS0 := (show (fun w' : World => w'.cell? ⟨rb, 1, none⟩ = some (.int .i64 (B : Int)) ∧ w'.cell? ⟨rb, 2, none⟩ = some (.int .i64 D)) u.drew from ⟨cell_at hN 1, cell_at hN 2⟩)
  clear hm hm2 hN
  refine lin_start (S := (fun w' : World => w'.cell? ⟨rb, 1, none⟩ = some (.int .i64 (B : Int)) ∧ w'.cell? ⟨rb, 2, none⟩ = some (.int .i64 D))) rfl 10 rfl hS0 ?_
  simp only [numbered, Nat.zero_add, Nat.reduceAdd]
  refine lin_take (v := ?_) (by kernel_rfl) (by kernel_rfl) (fun _ _ _ h => h) (Or.inl ⟨by rfl, ?_⟩) (by assumption) ?_; (rotate_left; (intro wS hSw; (try dsimp only at hSw); (try go_simp); (try with_reducible rfl)); rotate_left); simp only [Act.put, List.setIfInBounds_toArray, List.set_cons_zero, List.set_cons_succ]
  refine lin_take (v := ?_) (by kernel_rfl) (by kernel_rfl) (fun _ _ _ h => h) (Or.inl ⟨by rfl, ?_⟩) (by assumption) ?_; (rotate_left; (intro wS hSw; (try dsimp only at hSw); (try go_simp); (try with_reducible rfl)); rotate_left); simp only [Act.put, List.setIfInBounds_toArray, List.set_cons_zero, List.set_cons_succ]
  refine lin_take (v := ?_) (by kernel_rfl) (by kernel_rfl) (fun _ _ _ h => h) (Or.inl ⟨by rfl, ?_⟩) (by assumption) ?_; (rotate_left; (intro wS hSw; (try dsimp only at hSw); (try go_simp); (try with_reducible rfl)); rotate_left); simp only [Act.put, List.setIfInBounds_toArray, List.set_cons_zero, List.set_cons_succ]
  refine lin_take (v := ?_) (by kernel_rfl) (by kernel_rfl) (fun _ _ _ h => h) (Or.inl ⟨by rfl, ?_⟩) (by assumption) ?_; (rotate_left; (intro wS hSw; (try dsimp only at hSw); (try go_simp); (try with_reducible rfl)); rotate_left); simp only [Act.put, List.setIfInBounds_toArray, List.set_cons_zero, List.set_cons_succ]
  refine lin_take (v := ?_) (by kernel_rfl) (by kernel_rfl) (fun _ _ _ h => h) (Or.inl ⟨by rfl, ?_⟩) (by assumption) ?_; (rotate_left; (intro wS hSw; (try dsimp only at hSw); (try go_simp); (try with_reducible rfl)); rotate_left); simp only [Act.put, List.setIfInBounds_toArray, List.set_cons_zero, List.set_cons_succ]
  refine lin_take (v := ?_) (by kernel_rfl) (by kernel_rfl) (fun _ _ _ h => h) (Or.inl ⟨by rfl, ?_⟩) (by assumption) ?_; (rotate_left; (intro wS hSw; (try dsimp only at hSw); (try go_simp); (try with_reducible rfl)); rotate_left); simp only [Act.put, List.setIfInBounds_toArray, List.set_cons_zero, List.set_cons_succ]
  refine lin_take (v := ?_) (by kernel_rfl) (by kernel_rfl) (fun _ _ _ h => h) (Or.inl ⟨by rfl, ?_⟩) (by assumption) ?_; (rotate_left; (intro wS hSw; (try dsimp only at hSw); (try go_simp); (try with_reducible rfl)); rotate_left); simp only [Act.put, List.setIfInBounds_toArray, List.set_cons_zero, List.set_cons_succ]
  refine lin_take (v := ?_) (by kernel_rfl) (by kernel_rfl) (fun _ _ _ h => h) (Or.inl ⟨by rfl, ?_⟩) (by assumption) ?_; (rotate_left; (intro wS hSw; (try dsimp only at hSw); (try go_simp); (try with_reducible rfl)); rotate_left); simp only [Act.put, List.setIfInBounds_toArray, List.set_cons_zero, List.set_cons_succ]
  refine lin_take (v := ?_) (by kernel_rfl) (by kernel_rfl) (fun _ _ _ h => h) (Or.inl ⟨by rfl, ?_⟩) (by assumption) ?_; (rotate_left; (intro wS hSw; (try dsimp only at hSw); (try go_simp); (try with_reducible rfl)); rotate_left); simp only [Act.put, List.setIfInBounds_toArray, List.set_cons_zero, List.set_cons_succ]
  refine lin_take (v := ?_) (by kernel_rfl) (by kernel_rfl) (fun _ _ _ h => h) (Or.inl ⟨by rfl, ?_⟩) (by assumption) ?_; (rotate_left; (intro wS hSw; (try dsimp only at hSw); (try go_simp); (try with_reducible rfl)); rotate_left); simp only [Act.put, List.setIfInBounds_toArray, List.set_cons_zero, List.set_cons_succ]
  refine lin_done (by kernel_rfl) ?_
  go_wp2_with fail
  go_ret
  exact ⟨rfl, hb.drew⟩
end Go.Proofs.Ytofnjapgacgdlaa
