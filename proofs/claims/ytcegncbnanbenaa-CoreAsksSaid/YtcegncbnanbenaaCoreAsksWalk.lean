/- CoreAsks: what memory answers. -/
import Derived.Test.YtcegncbnanbenaaCor5
import Derived.Deep.Cut
import Derived.Deep.CutRange
import Derived.Deep.CutBlock
set_option linter.unusedVariables false
set_option linter.unusedSimpArgs false
namespace Go.Proofs.Ytcegncbnanbenaa
open Go.RowKit
set_option maxRecDepth 100000
set_option maxHeartbeats 4000000
theorem Row.below2 {w w' : World} {e : TypeId} {size : Nat} {v : Value} {n : Nat} {xs : List Value} (h : Row w e size v n xs) (hb : Below w.heap.size w w') : Row w' e size v n xs := h.same fun k hk => hb.block k (h.lt hk)
def fsR : List (List I4) := [[(0, 0, 0, 0)]]
def qR : QP := ⟨1, 1, 1, 2, 0, false, false⟩
theorem asksE {m : Nat} (hm : m ≤ 255) : coreE qR (m : Int) fsR ([] : List Int).length = 0 := by
  have h1 : checkP (m : Int) fsR = 0 := by
    unfold checkP sizesP
    rw [if_neg (show ¬ ((m : Int) < 0 ∨ 256 < (m : Int)) by omega)]
    rfl
  unfold coreE
  rw [if_neg (by simp [h1]), if_neg (by decide), if_neg (by simp)]
theorem walkCoreAsks (v0 v1 : Value) (w : World) (h0 : Arg Try.prog w 5 v0) (h1 : Arg Try.prog w 22 v1) : Calls Try.prog 3 #[v0, v1] w fun e w' => e = .returned (.bool true) ∧ Below w.heap.size w w' := by
  obtain ⟨x, rfl, hx⟩ := h0.int Try.underlying5
  obtain ⟨ao, cap, xs, rfl, hx1, hx2, hwf, g, off, hxc⟩ := h1.arrays' 4 Try.underlying22 Try.underlying37 Try.underlying3 (by kernel_rfl) (by kernel_rfl) (by decide)
  obtain ⟨i0, hi0, hz0, hz1, hz2⟩ := info_parts' Try.infoIntK
  simp [Lit.wf, IntKind.min, IntKind.max, IntKind.signed, IntKind.bits] at hx
  obtain ⟨N, rfl⟩ : ∃ N : Nat, x = (N : Int) := ⟨x.toNat, by omega⟩
  have hN : N ≤ 255 := by omega
  have W := Lib.hid (works25_any w)
  unfold maxLen at hx2
  have HC := Lib.hid hxc
  have HW := Lib.hid hwf
  have wN : IntKind.i64.wrap (N : Int) = (N : Int) := IntWalk.i64_in _ (by omega)
  clear h0 h1 hx hxc hwf
  go_enter Try.func3, Try.ntmps3
  go_upto_region 3 with (go_at_call 7; refine W.out.mono ?_; rintro e w0 ⟨rfl, hb0⟩)
  clear W
  by_cases hbig : 100 < xs.length
  · have hbig2 : (100 : Int) < (xs.length : Int) := by omega
    go_wp2
    go_ret
    exact ⟨rfl, hb0⟩
  have hsm : ¬ (100 : Int) < (xs.length : Int) := by omega
  have hL := liesF_lit w0 [(0, 0, 0, 0)] 1 rfl (by omega)
  rw [show (insL [(0, 0, 0, 0)]).toArray = #[.int .i64 0, .int .i64 0, .int .i64 0, .int .i64 0] from rfl] at hL
  have hb1 : Below w0.heap.size w0 ((w0.alloc (.cells #[.int .i64 0, .int .i64 0, .int .i64 0, .int .i64 0] 29)).alloc (.cells #[.slice (some ⟨w0.heap.size, 0, none⟩) 1 1] 30)) := by go_grown
  have KN := Lib.hid (show Calls Try.prog 8 #[.agg #[.int .i64 (N : Int), .slice (some ⟨w0.heap.size + 1, 0, none⟩) 1 1], .slice none 0 0, .agg #[.int .i64 1, .int .i64 1, .int .i64 1, .int .i64 2, .int .i64 0, .bool false, .bool false]] ((w0.alloc (.cells #[.int .i64 0, .int .i64 0, .int .i64 0, .int .i64 0] 29)).alloc (.cells #[.slice (some ⟨w0.heap.size, 0, none⟩) 1 1] 30)) fun e w' => ∃ cb, e = .returned (.tuple #[.pointer (some ⟨cb, 0, none⟩), .int .i64 0]) ∧ CoreNew ((w0.alloc (.cells #[.int .i64 0, .int .i64 0, .int .i64 0, .int .i64 0] 29)).alloc (.cells #[.slice (some ⟨w0.heap.size, 0, none⟩) 1 1] 30)) w' qR (N : Int) fsR [] cb from
    knew qR (N : Int) fsR (some ⟨w0.heap.size + 1, 0, none⟩) 1 [] none 0 _ hL (Lies.of_row (a := []) (Row.nil _ _ _) rfl) (asksE hN))
  have hbA := below_chain hb0 hb1
  clear hL hb0 hb1
  go_upto_region 6 with (go_at_call 8; refine KN.out.mono ?_; rintro e w4 ⟨cb, rfl, hNw⟩)
  obtain ⟨gs, sb, gd, sd, ob, lb, tb, ag, hb', rb, M, fa, fc, ps, bs', fr', pk', hM, hps, bv, hO⟩ := hNw
  replace hO := (hO.rebase hbA).sel [6, 7] (by decide)
  clear KN hbA hM hps
  obtain ⟨q, hq⟩ : ∃ q, qR = q := ⟨_, rfl⟩
  obtain ⟨fv, hfv⟩ : ∃ fv, Value.slice fa fsR.length fc = fv := ⟨_, rfl⟩
  obtain ⟨ft, hft⟩ : ∃ ft, Value.pointer (some ⟨tb, 0, none⟩) = ft := ⟨_, rfl⟩
  have hO : Own w w4 [coreC cb gs gd ob lb q fv ft 0 0 0, storeA gd sd (List.replicate N 0)] := by
    subst hq hfv hft
    exact hO
  clear hq hfv hft
  go_upto_region 8 with fail
  go_wp2_with (at_make; refine wpList_make_any _ rfl _ _ 36 rfl 3 i0 (.int .i64 0) 1 8 Try.underlying36 hi0 hz0 hz1 hz2 .i64 .i64 (N : Int) (N : Int) rfl rfl (by omega) (by omega) (by omega) (by decide) ?_)
  simp only [Value.cells, madeK_one, Nat.mul_one, Int.toNat_natCast]
  have hO3 := hO.row_made 3 1 (List.replicate N (Value.int .i64 0)).toArray N (by unfold maxLen; omega) (by simp)
  obtain ⟨mb, hmb⟩ : ∃ mb, w4.heap.size = mb := ⟨_, rfl⟩
  rw [hmb] at hO3 ⊢
  generalize w4.alloc (.cells (List.replicate N (Value.int .i64 0)).toArray 3) = w5 at *
  clear hmb hO
  have hO : Own w w5 [coreC cb gs gd ob lb q fv ft 0 0 0, storeA gd sd (List.replicate N 0), rowA 3 1 (.slice (some ⟨mb, 0, none⟩) N N) N (((List.replicate N 0)).map (.int .i64))] := hO3.cast (by simp)
  clear hO3
  have wr0 : ∀ r : Nat, r < xs.length → (r : Int) < (xs.length : Int) := fun r h => by omega
  replace wr0 := Lib.hid wr0
  go_wp2_with fail
  go_loopw [7, 9] (fun mv iv wr => ∃ (r : Nat) (ma : Option Addr) (mc : Nat) (ds : List Int), r ≤ xs.length ∧ iv = .int .i64 r ∧ mv = .slice ma N mc ∧ ds.length = N ∧ Own w wr [coreC cb gs gd ob lb q fv ft 0 0 0, storeA gd sd ds, rowA 3 1 (.slice ma N mc) N ((ds).map (.int .i64))]) (fun _ i _ => (xs.length - intOf i).toNat)
  case atStart => exact ⟨0, some ⟨mb, 0, none⟩, N, List.replicate N 0, by omega, rfl, rfl, by simp, hO⟩
  case round =>
  clear hO
  obtain ⟨r, ma, mc, ds, hr, rfl, rfl, hdl, hO⟩ := hrel
  by_cases hlt : r < xs.length
  · obtain ⟨rfl, hc⟩ := HC.out r hlt
    have hwj := HW.out r hlt
    have p0 := hc 0 (by omega)
    have p1 := hc 1 (by omega)
    have p2 := hc 2 (by omega)
    have p3 := hc 3 (by omega)
    have q0 := hwj 0 (by omega)
    have q1 := hwj 1 (by omega)
    have q2 := hwj 2 (by omega)
    have q3 := hwj 3 (by omega)
    rw [Nat.add_zero] at p0
    clear hc hwj
    generalize (xs.getD r []).getD 0 0 = k at *
    generalize (xs.getD r []).getD 1 0 = a at *
    generalize (xs.getD r []).getD 2 0 = v at *
    generalize (xs.getD r []).getD 3 0 = o at *
    simp [Lit.wf, IntKind.min, IntKind.max, IntKind.signed, IntKind.bits] at q0 q1 q2 q3
    have hwa : -9223372036854775808 ≤ a ∧ a ≤ 9223372036854775807 := by omega
    have hwv : -9223372036854775808 ≤ v ∧ v ≤ 9223372036854775807 := by omega
    have hwo : -9223372036854775808 ≤ o ∧ o ≤ 9223372036854775807 := by omega
    replace p0 := Lib.hid p0
    replace p1 := Lib.hid p1
    replace p2 := Lib.hid p2
    replace p3 := Lib.hid p3
    have hlti := wr0.out r hlt
    clear q1 q2 q3
    go_upto_region 13 with fail
    have hO' : Own w wr.drew _ := hO.drewN 1
    clear hO
    have hO := hO'
    clear hO'
    have hS0 : (fun w' : World => w'.cell? ⟨g, off + r * 4, none⟩ = some (.int .i64 k) ∧ w'.cell? ⟨g, off + r * 4 + 1, none⟩ = some (.int .i64 a) ∧ w'.cell? ⟨g, off + r * 4 + 2, none⟩ = some (.int .i64 v) ∧ w'.cell? ⟨g, off + r * 4 + 3, none⟩ = some (.int .i64 o)) wr.drew := ⟨hO.old p0.out, hO.old p1.out, hO.old p2.out, hO.old p3.out⟩
    refine lz_start (S := (fun w' : World => w'.cell? ⟨g, off + r * 4, none⟩ = some (.int .i64 k) ∧ w'.cell? ⟨g, off + r * 4 + 1, none⟩ = some (.int .i64 a) ∧ w'.cell? ⟨g, off + r * 4 + 2, none⟩ = some (.int .i64 v) ∧ w'.cell? ⟨g, off + r * 4 + 3, none⟩ = some (.int .i64 o))) rfl 22 23 rfl hS0 ?_
    simp only [numbered, Nat.zero_add, Nat.reduceAdd]
    generalize wr.drew = u0 at *
    refine lz_take (v := ?_) (by kernel_rfl) (by kernel_rfl) (by kernel_rfl) (fun _ _ _ h => h) (Or.inl ⟨by rfl, ?_⟩) (by assumption) ?_; (rotate_left; (intro wS hSw; (try dsimp only at hSw); go_simp; (try with_reducible rfl)); rotate_left); simp only [Act.put, List.setIfInBounds_toArray, List.set_cons_zero, List.set_cons_succ]
    refine lz_take (v := ?_) (by kernel_rfl) (by kernel_rfl) (by kernel_rfl) (fun _ _ _ h => h) (Or.inl ⟨by rfl, ?_⟩) (by assumption) ?_; (rotate_left; (intro wS hSw; (try dsimp only at hSw); go_simp; (try with_reducible rfl)); rotate_left); simp only [Act.put, List.setIfInBounds_toArray, List.set_cons_zero, List.set_cons_succ]
    refine lz_take (v := ?_) (by kernel_rfl) (by kernel_rfl) (by kernel_rfl) (fun _ _ _ h => h) (Or.inl ⟨by rfl, ?_⟩) (by assumption) ?_; (rotate_left; (intro wS hSw; (try dsimp only at hSw); go_simp; (try with_reducible rfl)); rotate_left); simp only [Act.put, List.setIfInBounds_toArray, List.set_cons_zero, List.set_cons_succ]
    refine lz_take (v := ?_) (by kernel_rfl) (by kernel_rfl) (by kernel_rfl) (fun _ _ _ h => h) (Or.inl ⟨by rfl, ?_⟩) (by assumption) ?_; (rotate_left; (intro wS hSw; (try dsimp only at hSw); go_simp; (try with_reducible rfl)); rotate_left); simp only [Act.put, List.setIfInBounds_toArray, List.set_cons_zero, List.set_cons_succ]
    refine lz_take (v := ?_) (by kernel_rfl) (by kernel_rfl) (by kernel_rfl) (fun _ _ _ h => h) (Or.inl ⟨by rfl, ?_⟩) (by assumption) ?_; (rotate_left; (intro wS hSw; (try dsimp only at hSw); go_simp; (try with_reducible rfl)); rotate_left); simp only [Act.put, List.setIfInBounds_toArray, List.set_cons_zero, List.set_cons_succ]
    refine lz_take (v := ?_) (by kernel_rfl) (by kernel_rfl) (by kernel_rfl) (fun _ _ _ h => h) (Or.inl ⟨by rfl, ?_⟩) (by assumption) ?_; (rotate_left; (intro wS hSw; (try dsimp only at hSw); go_simp; (try with_reducible rfl)); rotate_left); simp only [Act.put, List.setIfInBounds_toArray, List.set_cons_zero, List.set_cons_succ]
    refine lz_take (v := ?_) (by kernel_rfl) (by kernel_rfl) (by kernel_rfl) (fun _ _ _ h => h) (Or.inl ⟨by rfl, ?_⟩) (by assumption) ?_; (rotate_left; (intro wS hSw; (try dsimp only at hSw); go_simp; (try with_reducible rfl)); rotate_left); simp only [Act.put, List.setIfInBounds_toArray, List.set_cons_zero, List.set_cons_succ]
    refine lz_take (v := ?_) (by kernel_rfl) (by kernel_rfl) (by kernel_rfl) (fun _ _ _ h => h) (Or.inl ⟨by rfl, ?_⟩) (by assumption) ?_; (rotate_left; (intro wS hSw; (try dsimp only at hSw); go_simp; (try with_reducible rfl)); rotate_left); simp only [Act.put, List.setIfInBounds_toArray, List.set_cons_zero, List.set_cons_succ]
    refine lz_take (v := ?_) (by kernel_rfl) (by kernel_rfl) (by kernel_rfl) (fun _ _ _ h => h) (Or.inl ⟨by rfl, ?_⟩) (by assumption) ?_; (rotate_left; (intro wS hSw; (try dsimp only at hSw); go_simp; (try with_reducible rfl)); rotate_left); simp only [Act.put, List.setIfInBounds_toArray, List.set_cons_zero, List.set_cons_succ]
    refine lz_take (v := ?_) (by kernel_rfl) (by kernel_rfl) (by kernel_rfl) (fun _ _ _ h => h) (Or.inl ⟨by rfl, ?_⟩) (by assumption) ?_; (rotate_left; (intro wS hSw; (try dsimp only at hSw); go_simp; (try with_reducible rfl)); rotate_left); simp only [Act.put, List.setIfInBounds_toArray, List.set_cons_zero, List.set_cons_succ]
    refine lz_take (v := ?_) (by kernel_rfl) (by kernel_rfl) (by kernel_rfl) (fun _ _ _ h => h) (Or.inl ⟨by rfl, ?_⟩) (by assumption) ?_; (rotate_left; (intro wS hSw; (try dsimp only at hSw); go_simp; (try with_reducible rfl)); rotate_left); simp only [Act.put, List.setIfInBounds_toArray, List.set_cons_zero, List.set_cons_succ]
    refine lz_take (v := ?_) (by kernel_rfl) (by kernel_rfl) (by kernel_rfl) (fun _ _ _ h => h) (Or.inl ⟨by rfl, ?_⟩) (by assumption) ?_; (rotate_left; (intro wS hSw; (try dsimp only at hSw); go_simp; (try with_reducible rfl)); rotate_left); simp only [Act.put, List.setIfInBounds_toArray, List.set_cons_zero, List.set_cons_succ]
    refine lz_take (v := ?_) (by kernel_rfl) (by kernel_rfl) (by kernel_rfl) (fun _ _ _ h => h) (Or.inl ⟨by rfl, ?_⟩) (by assumption) ?_; (rotate_left; (intro wS hSw; (try dsimp only at hSw); go_simp; (try with_reducible rfl)); rotate_left); simp only [Act.put, List.setIfInBounds_toArray, List.set_cons_zero, List.set_cons_succ]
    refine lz_take (v := ?_) (by kernel_rfl) (by kernel_rfl) (by kernel_rfl) (fun _ _ _ h => h) (Or.inl ⟨by rfl, ?_⟩) (by assumption) ?_; (rotate_left; (intro wS hSw; (try dsimp only at hSw); go_simp; (try with_reducible rfl)); rotate_left); simp only [Act.put, List.setIfInBounds_toArray, List.set_cons_zero, List.set_cons_succ]
    refine lz_take (v := ?_) (by kernel_rfl) (by kernel_rfl) (by kernel_rfl) (fun _ _ _ h => h) (Or.inl ⟨by rfl, ?_⟩) (by assumption) ?_; (rotate_left; (intro wS hSw; (try dsimp only at hSw); go_simp; (try with_reducible rfl)); rotate_left); simp only [Act.put, List.setIfInBounds_toArray, List.set_cons_zero, List.set_cons_succ]
    refine lz_take (v := ?_) (by kernel_rfl) (by kernel_rfl) (by kernel_rfl) (fun _ _ _ h => h) (Or.inl ⟨by rfl, ?_⟩) (by assumption) ?_; (rotate_left; (intro wS hSw; (try dsimp only at hSw); go_simp; (try with_reducible rfl)); rotate_left); simp only [Act.put, List.setIfInBounds_toArray, List.set_cons_zero, List.set_cons_succ]
    refine lz_take (v := ?_) (by kernel_rfl) (by kernel_rfl) (by kernel_rfl) (fun _ _ _ h => h) (Or.inl ⟨by rfl, ?_⟩) (by assumption) ?_; (rotate_left; (intro wS hSw; (try dsimp only at hSw); go_simp; (try with_reducible rfl)); rotate_left); simp only [Act.put, List.setIfInBounds_toArray, List.set_cons_zero, List.set_cons_succ]
    refine lz_take (v := ?_) (by kernel_rfl) (by kernel_rfl) (by kernel_rfl) (fun _ _ _ h => h) (Or.inl ⟨by rfl, ?_⟩) (by assumption) ?_; (rotate_left; (intro wS hSw; (try dsimp only at hSw); go_simp; (try with_reducible rfl)); rotate_left); simp only [Act.put, List.setIfInBounds_toArray, List.set_cons_zero, List.set_cons_succ]
    refine lz_take (v := ?_) (by kernel_rfl) (by kernel_rfl) (by kernel_rfl) (fun _ _ _ h => h) (Or.inl ⟨by rfl, ?_⟩) (by assumption) ?_; (rotate_left; (intro wS hSw; (try dsimp only at hSw); go_simp; (try with_reducible rfl)); rotate_left); simp only [Act.put, List.setIfInBounds_toArray, List.set_cons_zero, List.set_cons_succ]
    refine lz_take (v := ?_) (by kernel_rfl) (by kernel_rfl) (by kernel_rfl) (fun _ _ _ h => h) (Or.inl ⟨by rfl, ?_⟩) (by assumption) ?_; (rotate_left; (intro wS hSw; (try dsimp only at hSw); go_simp; (try with_reducible rfl)); rotate_left); simp only [Act.put, List.setIfInBounds_toArray, List.set_cons_zero, List.set_cons_succ]
    refine lz_take (v := ?_) (by kernel_rfl) (by kernel_rfl) (by kernel_rfl) (fun _ _ _ h => h) (Or.inl ⟨by rfl, ?_⟩) (by assumption) ?_; (rotate_left; (intro wS hSw; (try dsimp only at hSw); go_simp; (try with_reducible rfl)); rotate_left); simp only [Act.put, List.setIfInBounds_toArray, List.set_cons_zero, List.set_cons_succ]
    refine lz_sole (by kernel_rfl) (fun K hK => ?_)
    go_simp
    have hO1 : Own w _ _ := hO.box #[.int .i64 0, .int .i64 0, .int .i64 0, .int .i64 0, .int .i64 0] 39
    obtain ⟨xb, hxb⟩ : ∃ xb, u0.heap.size = xb := ⟨_, rfl⟩
    rw [hxb] at hO1 ⊢
    generalize u0.alloc (.cells #[.int .i64 0, .int .i64 0, .int .i64 0, .int .i64 0, .int .i64 0] 39) = u1 at *
    clear hxb
    refine hK.out _ _ ?_ (fun hHeld => ?_)
    · exact .inr ⟨hO1.old p0.out, hO1.old p1.out, hO1.old p2.out, hO1.old p3.out⟩
    try simp only [Act.put, List.setIfInBounds_toArray, List.set_cons_zero, List.set_cons_succ]
    clear hK hHeld
    obtain ⟨o0, f0⟩ := hO1.cget 3 rfl 0
    obtain ⟨o1, f1⟩ := hO1.cget 3 rfl 1
    obtain ⟨o2, f2⟩ := hO1.cget 3 rfl 2
    obtain ⟨o3, f3⟩ := hO1.cget 3 rfl 3
    obtain ⟨o4, f4⟩ := hO1.cget 3 rfl 4
    simp at o0 o1 o2 o3 o4
    refine lz_sole (by kernel_rfl) (fun K hK => ?_)
    go_simp
    have hO2 := ((((hO1.cset 3 rfl 0 (.int .i64 k)).cset 3 rfl 1 (.int .i64 a)).cset 3 rfl 2 (.int .i64 v)).cset 3 rfl 3 (.int .i64 o)).cset 3 rfl 4 (.int .i64 0)
    refine hK.out _ _ (.inl rfl) (fun hHeld => ?_)
    try simp only [Act.put, List.setIfInBounds_toArray, List.set_cons_zero, List.set_cons_succ]
    clear hK hHeld o0 o1 o2 o3 o4 f0 f1 f2 f3 f4
    refine lz_done (by kernel_rfl) ?_
    clear hS0 hO1
    have hO : Own w _ [coreC cb gs gd ob lb q fv ft 0 0 0, storeA gd sd ds, rowA 3 1 (.slice ma N mc) N ((ds).map (.int .i64)), cellsA xb #[.int .i64 k, .int .i64 a, .int .i64 v, .int .i64 o, .int .i64 0] 39] := hO2
    clear hO2
    generalize ((((u1.setCell ⟨xb, 0, none⟩ (.int .i64 k)).setCell ⟨xb, 1, none⟩ (.int .i64 a)).setCell ⟨xb, 2, none⟩ (.int .i64 v)).setCell ⟨xb, 3, none⟩ (.int .i64 o)).setCell ⟨xb, 4, none⟩ (.int .i64 0) = u2 at *
    obtain ⟨ds', n, b, hr⟩ : ∃ ds' n b, askD k a v o ds = (ds', n, b) := ⟨_, _, _, rfl⟩
    have hdl2 : ds'.length = N := by have h2 := askD_length k a v o ds; rw [hr] at h2; exact h2.trans hdl
    have P1 := Lib.hid (cask (cb := cb) (gs := gs) (gd := gd) (sd := sd) (ob := ob) (lb := lb) (q := q) (fv := fv) (ft := ft) (se := 0) (st := 0) (wy := 0) (ds := ds) hO 0 1 rfl rfl k a v o 0 ds' n b hr)
    have x0 := (hO.cget 3 rfl 0).1
    have x1 := (hO.cget 3 rfl 1).1
    have x2 := (hO.cget 3 rfl 2).1
    have x3 := (hO.cget 3 rfl 3).1
    have x4 := (hO.cget 3 rfl 4).1
    simp at x0 x1 x2 x3 x4
    clear hO
    go_upto_region 15 with (go_at_call 9; refine P1.out.mono ?_; rintro e w6 ⟨rfl, hO⟩)
    have hB : Own w w6 [coreC cb gs gd ob lb q fv ft 0 0 0, storeA gd sd ds', rowA 3 1 (.slice ma N mc) N ((ds).map (.int .i64)), cellsA xb #[.int .i64 k, .int .i64 a, .int .i64 v, .int .i64 o, .int .i64 0] 39] := hO
    clear P1 hO x0 x1 x2 x3 x4
    generalize hwu : w6 = u at *
    clear hwu
    by_cases hk : 1 ≤ k ∧ k ≤ 4
    · by_cases hk4 : k = 4
      · have hr2 : stepD (k - 1) a o v ds = (ds', n, b) := by
          unfold askD at hr
          rw [if_pos hk] at hr
          rw [if_pos hk4, if_pos hk4] at hr
          exact hr
        have hrw : Row u (3) 1 (.slice ma N mc) N (ds.map (.int .i64)) := hB.row 2 rfl
        have kw : IntKind.i64.wrap (k - 1) = k - 1 := IntWalk.i64_in _ (by omega)
        have DO := Lib.hid (fun (w' : World) (hb : Below u.heap.size u w') => show Calls Try.prog 10 #[.slice ma N mc, .agg #[.int .i64 (k - 1), .int .i64 a, .int .i64 o, .int .i64 v]] w' fun e w7 => ∃ na nc, e = .returned (.tuple #[.slice na N nc, .int .i64 n, .bool b]) ∧ Own w w7 [coreC cb gs gd ob lb q fv ft 0 0 0, storeA gd sd ds', rowA 3 1 (.slice na N nc) N ((ds').map (.int .i64)), cellsA xb #[.int .i64 k, .int .i64 a, .int .i64 v, .int .i64 o, .int .i64 0] 39] from by
          have D := refDo_any (ao := ma) (cap := mc) (ms := ds) (w := w') (by rw [hdl]; exact (hrw.below2 hb).src') (by rw [hdl]; omega) (k - 1) a o v (by omega) hwa hwo ds' n b hr2
          rw [hdl] at D
          refine D.mono ?_
          rintro e w7 ⟨na, nc, rfl, hrN, hnN, hb7⟩
          rw [hdl] at *
          exact ⟨na, nc, rfl, (((hB.sel [0, 1, 3] (by decide)).push (below_chain hb hb7) (rowA 3 1 (.slice na N nc) N (ds'.map (.int .i64))) hrN (fun k hk => Nat.le_trans hb.size (hnN k hk)))).pm (.cons _ (.cons _ (.swap _ _ _)))⟩)
        have x0 := (hB.cget 3 rfl 0).1
        have x1 := (hB.cget 3 rfl 1).1
        have x2 := (hB.cget 3 rfl 2).1
        have x3 := (hB.cget 3 rfl 3).1
        simp at x0 x1 x2 x3
        have k1 : (1 : Int) ≤ k := hk.1
        have k2 : k ≤ 4 := hk.2
        have hxl : xb < u.heap.size := World.block_lt_of_cell? _ _ x0
        have X := Lib.hid (fun (w' : World) (hb : Below u.heap.size u w') (j : Nat) (z : Value) (h : u.cell? ⟨xb, j, none⟩ = some z) => (cell_old hb _ (by rw [h]; rfl)).trans h)
        have y0 := X.out (u.alloc (.cells #[.int .i64 (k - 1), .int .i64 a, .int .i64 v, .int .i64 0] 43)) (by go_grown) 0 _ x0
        have y2 := X.out (u.alloc (.cells #[.int .i64 (k - 1), .int .i64 a, .int .i64 v, .int .i64 0] 43)) (by go_grown) 2 _ x2
        have y3 := X.out (u.alloc (.cells #[.int .i64 (k - 1), .int .i64 a, .int .i64 v, .int .i64 0] 43)) (by go_grown) 3 _ x3
        have hk4' : (k == 4) = true := by simpa using hk4
        clear hrw hr2 hr hk X hB
        subst hk4
        go_upto_region 25 with (go_at_call 10; go_loud (refine (DO.out _ (by go_grown)).mono ?_); rintro e w7 ⟨ma', mc', rfl, hO⟩)
        clear DO x0 x1 x2 x3 y0 y2 y3
        have x0 := (hO.cget 3 rfl 0).1
        have x1 := (hO.cget 3 rfl 1).1
        have x2 := (hO.cget 3 rfl 2).1
        have x3 := (hO.cget 3 rfl 3).1
        have x4 := (hO.cget 3 rfl 4).1
        simp at x0 x1 x2 x3 x4
        have Q1 := Lib.hid (cask_nil hO 4 a v o 0)
        clear hO
        go_upto_region 26 with (go_at_call 9; refine Q1.out.mono ?_; rintro e w8 ⟨rfl, hO⟩)
        have Q2 := Lib.hid (cdata (w := w8) (cb := cb) (v := .pointer (some ⟨gd, 0, none⟩)) (hO.cget 0 rfl 9).1)
        have Q3 := Lib.hid (own_all hO 1 rfl)
        have Q4 := Lib.hid (fun (w' : World) (al : Option Addr) (cl : Nat) (h' : Own w w' [coreC cb gs gd ob lb q fv ft 0 0 0, storeA gd sd ds', rowA 3 1 (.slice ma' N mc') N ((ds').map (.int .i64)), cellsA xb #[.int .i64 4, .int .i64 a, .int .i64 v, .int .i64 o, .int .i64 0] 39]) (hl : Lies w' al cl ds') => show Calls Try.prog 11 #[.slice al N cl, .slice ma' N mc'] w' fun e w2 => e = .returned (.bool true) ∧ Own w w2 [coreC cb gs gd ob lb q fv ft 0 0 0, storeA gd sd ds', rowA 3 1 (.slice ma' N mc') N ((ds').map (.int .i64)), cellsA xb #[.int .i64 4, .int .i64 a, .int .i64 v, .int .i64 o, .int .i64 0] 39] from by
          have hrm : Row w' 3 1 (.slice ma' N mc') N (ds'.map (.int .i64)) := h'.row 2 rfl
          have I := ints_any al ma' cl mc' ds' ds' w' hl (Lies.of_row hrm hdl2.symm)
          rw [hdl2] at I
          refine I.mono ?_
          rintro e w2 ⟨rfl, mm, rfl⟩
          exact ⟨by simp, h'.drewN mm⟩)
        rw [hdl2] at Q3
        clear hO x0 x1 x2 x3 x4 Q1
        go_wp2_with (first | (go_at_call 12; refine Q2.out.mono ?_; rintro e w9 ⟨rfl, rfl⟩) | (go_at_call 13; refine Q3.out.mono ?_; rintro e w10 ⟨al, cl, rfl, hO2, hLL, hjunk⟩; clear hjunk; replace hO2 := Lib.hid hO2; replace hLL := Lib.hid hLL) | (go_at_call 11; refine (Q4.out _ _ _ hO2.out hLL.out).mono ?_; rintro e w11 ⟨rfl, hO3⟩; replace hO3 := Lib.hid hO3))
        go_round
        case rel => exact ⟨r + 1, ma', mc', ds', by omega, by first | rfl | trivial | go_num, rfl, hdl2, hO3.out.sel [0, 1, 2] (by decide)⟩
        case measure => simp [intOf]; omega
      · have hr2 : stepD (k - 1) a v 0 ds = (ds', n, b) := by
          unfold askD at hr
          rw [if_pos hk] at hr
          rw [if_neg hk4, if_neg hk4] at hr
          exact hr
        have hrw : Row u (3) 1 (.slice ma N mc) N (ds.map (.int .i64)) := hB.row 2 rfl
        have kw : IntKind.i64.wrap (k - 1) = k - 1 := IntWalk.i64_in _ (by omega)
        have DO := Lib.hid (fun (w' : World) (hb : Below u.heap.size u w') => show Calls Try.prog 10 #[.slice ma N mc, .agg #[.int .i64 (k - 1), .int .i64 a, .int .i64 v, .int .i64 0]] w' fun e w7 => ∃ na nc, e = .returned (.tuple #[.slice na N nc, .int .i64 n, .bool b]) ∧ Own w w7 [coreC cb gs gd ob lb q fv ft 0 0 0, storeA gd sd ds', rowA 3 1 (.slice na N nc) N ((ds').map (.int .i64)), cellsA xb #[.int .i64 k, .int .i64 a, .int .i64 v, .int .i64 o, .int .i64 0] 39] from by
          have D := refDo_any (ao := ma) (cap := mc) (ms := ds) (w := w') (by rw [hdl]; exact (hrw.below2 hb).src') (by rw [hdl]; omega) (k - 1) a v 0 (by omega) hwa hwv ds' n b hr2
          rw [hdl] at D
          refine D.mono ?_
          rintro e w7 ⟨na, nc, rfl, hrN, hnN, hb7⟩
          rw [hdl] at *
          exact ⟨na, nc, rfl, (((hB.sel [0, 1, 3] (by decide)).push (below_chain hb hb7) (rowA 3 1 (.slice na N nc) N (ds'.map (.int .i64))) hrN (fun k hk => Nat.le_trans hb.size (hnN k hk)))).pm (.cons _ (.cons _ (.swap _ _ _)))⟩)
        have x0 := (hB.cget 3 rfl 0).1
        have x1 := (hB.cget 3 rfl 1).1
        have x2 := (hB.cget 3 rfl 2).1
        have x3 := (hB.cget 3 rfl 3).1
        simp at x0 x1 x2 x3
        have k1 : (1 : Int) ≤ k := hk.1
        have k2 : k ≤ 4 := hk.2
        have hxl : xb < u.heap.size := World.block_lt_of_cell? _ _ x0
        have X := Lib.hid (fun (w' : World) (hb : Below u.heap.size u w') (j : Nat) (z : Value) (h : u.cell? ⟨xb, j, none⟩ = some z) => (cell_old hb _ (by rw [h]; rfl)).trans h)
        have y0 := X.out (u.alloc (.cells #[.int .i64 (k - 1), .int .i64 a, .int .i64 v, .int .i64 0] 43)) (by go_grown) 0 _ x0
        have y2 := X.out (u.alloc (.cells #[.int .i64 (k - 1), .int .i64 a, .int .i64 v, .int .i64 0] 43)) (by go_grown) 2 _ x2
        have y3 := X.out (u.alloc (.cells #[.int .i64 (k - 1), .int .i64 a, .int .i64 v, .int .i64 0] 43)) (by go_grown) 3 _ x3
        have hk4' : (k == 4) = false := by simpa using hk4
        clear hrw hr2 hr hk X hB
        go_upto_region 25 with (go_at_call 10; go_loud (refine (DO.out _ (by go_grown)).mono ?_); rintro e w7 ⟨ma', mc', rfl, hO⟩)
        clear DO x0 x1 x2 x3 y0 y2 y3
        have x0 := (hO.cget 3 rfl 0).1
        have x1 := (hO.cget 3 rfl 1).1
        have x2 := (hO.cget 3 rfl 2).1
        have x3 := (hO.cget 3 rfl 3).1
        have x4 := (hO.cget 3 rfl 4).1
        simp at x0 x1 x2 x3 x4
        have Q1 := Lib.hid (cask_nil hO k a v o 0)
        clear hO
        go_upto_region 26 with (go_at_call 9; refine Q1.out.mono ?_; rintro e w8 ⟨rfl, hO⟩)
        have Q2 := Lib.hid (cdata (w := w8) (cb := cb) (v := .pointer (some ⟨gd, 0, none⟩)) (hO.cget 0 rfl 9).1)
        have Q3 := Lib.hid (own_all hO 1 rfl)
        have Q4 := Lib.hid (fun (w' : World) (al : Option Addr) (cl : Nat) (h' : Own w w' [coreC cb gs gd ob lb q fv ft 0 0 0, storeA gd sd ds', rowA 3 1 (.slice ma' N mc') N ((ds').map (.int .i64)), cellsA xb #[.int .i64 k, .int .i64 a, .int .i64 v, .int .i64 o, .int .i64 0] 39]) (hl : Lies w' al cl ds') => show Calls Try.prog 11 #[.slice al N cl, .slice ma' N mc'] w' fun e w2 => e = .returned (.bool true) ∧ Own w w2 [coreC cb gs gd ob lb q fv ft 0 0 0, storeA gd sd ds', rowA 3 1 (.slice ma' N mc') N ((ds').map (.int .i64)), cellsA xb #[.int .i64 k, .int .i64 a, .int .i64 v, .int .i64 o, .int .i64 0] 39] from by
          have hrm : Row w' 3 1 (.slice ma' N mc') N (ds'.map (.int .i64)) := h'.row 2 rfl
          have I := ints_any al ma' cl mc' ds' ds' w' hl (Lies.of_row hrm hdl2.symm)
          rw [hdl2] at I
          refine I.mono ?_
          rintro e w2 ⟨rfl, mm, rfl⟩
          exact ⟨by simp, h'.drewN mm⟩)
        rw [hdl2] at Q3
        clear hO x0 x1 x2 x3 x4 Q1
        go_wp2_with (first | (go_at_call 12; refine Q2.out.mono ?_; rintro e w9 ⟨rfl, rfl⟩) | (go_at_call 13; refine Q3.out.mono ?_; rintro e w10 ⟨al, cl, rfl, hO2, hLL, hjunk⟩; clear hjunk; replace hO2 := Lib.hid hO2; replace hLL := Lib.hid hLL) | (go_at_call 11; refine (Q4.out _ _ _ hO2.out hLL.out).mono ?_; rintro e w11 ⟨rfl, hO3⟩; replace hO3 := Lib.hid hO3))
        go_round
        case rel => exact ⟨r + 1, ma', mc', ds', by omega, by first | rfl | trivial | go_num, rfl, hdl2, hO3.out.sel [0, 1, 2] (by decide)⟩
        case measure => simp [intOf]; omega
    · unfold askD at hr
      rw [if_neg hk] at hr
      simp only [Prod.mk.injEq] at hr
      obtain ⟨rfl, rfl, rfl⟩ := hr
      have x0 := (hB.cget 3 rfl 0).1
      simp at x0
      by_cases hk1 : 1 ≤ k
      · have hk2 : ¬ k ≤ 4 := fun h => hk ⟨hk1, h⟩
        clear hk
        go_upto_region 25 with fail
        have hO := hB
        clear hB x0
        have x0 := (hO.cget 3 rfl 0).1
        have x1 := (hO.cget 3 rfl 1).1
        have x2 := (hO.cget 3 rfl 2).1
        have x3 := (hO.cget 3 rfl 3).1
        have x4 := (hO.cget 3 rfl 4).1
        simp at x0 x1 x2 x3 x4
        have Q1 := Lib.hid (cask_nil hO k a v o 0)
        clear hO
        go_upto_region 26 with (go_at_call 9; refine Q1.out.mono ?_; rintro e w8 ⟨rfl, hO⟩)
        have Q2 := Lib.hid (cdata (w := w8) (cb := cb) (v := .pointer (some ⟨gd, 0, none⟩)) (hO.cget 0 rfl 9).1)
        have Q3 := Lib.hid (own_all hO 1 rfl)
        have Q4 := Lib.hid (fun (w' : World) (al : Option Addr) (cl : Nat) (h' : Own w w' [coreC cb gs gd ob lb q fv ft 0 0 0, storeA gd sd ds, rowA 3 1 (.slice ma N mc) N ((ds).map (.int .i64)), cellsA xb #[.int .i64 k, .int .i64 a, .int .i64 v, .int .i64 o, .int .i64 0] 39]) (hl : Lies w' al cl ds) => show Calls Try.prog 11 #[.slice al N cl, .slice ma N mc] w' fun e w2 => e = .returned (.bool true) ∧ Own w w2 [coreC cb gs gd ob lb q fv ft 0 0 0, storeA gd sd ds, rowA 3 1 (.slice ma N mc) N ((ds).map (.int .i64)), cellsA xb #[.int .i64 k, .int .i64 a, .int .i64 v, .int .i64 o, .int .i64 0] 39] from by
          have hrm : Row w' 3 1 (.slice ma N mc) N (ds.map (.int .i64)) := h'.row 2 rfl
          have I := ints_any al ma cl mc ds ds w' hl (Lies.of_row hrm hdl2.symm)
          rw [hdl2] at I
          refine I.mono ?_
          rintro e w2 ⟨rfl, mm, rfl⟩
          exact ⟨by simp, h'.drewN mm⟩)
        rw [hdl2] at Q3
        clear hO x0 x1 x2 x3 x4 Q1
        go_wp2_with (first | (go_at_call 12; refine Q2.out.mono ?_; rintro e w9 ⟨rfl, rfl⟩) | (go_at_call 13; refine Q3.out.mono ?_; rintro e w10 ⟨al, cl, rfl, hO2, hLL, hjunk⟩; clear hjunk; replace hO2 := Lib.hid hO2; replace hLL := Lib.hid hLL) | (go_at_call 11; refine (Q4.out _ _ _ hO2.out hLL.out).mono ?_; rintro e w11 ⟨rfl, hO3⟩; replace hO3 := Lib.hid hO3))
        go_round
        case rel => exact ⟨r + 1, ma, mc, ds, by omega, by first | rfl | trivial | go_num, rfl, hdl2, hO3.out.sel [0, 1, 2] (by decide)⟩
        case measure => simp [intOf]; omega
      · clear hk
        go_upto_region 25 with fail
        have hO := hB
        clear hB x0
        have x0 := (hO.cget 3 rfl 0).1
        have x1 := (hO.cget 3 rfl 1).1
        have x2 := (hO.cget 3 rfl 2).1
        have x3 := (hO.cget 3 rfl 3).1
        have x4 := (hO.cget 3 rfl 4).1
        simp at x0 x1 x2 x3 x4
        have Q1 := Lib.hid (cask_nil hO k a v o 0)
        clear hO
        go_upto_region 26 with (go_at_call 9; refine Q1.out.mono ?_; rintro e w8 ⟨rfl, hO⟩)
        have Q2 := Lib.hid (cdata (w := w8) (cb := cb) (v := .pointer (some ⟨gd, 0, none⟩)) (hO.cget 0 rfl 9).1)
        have Q3 := Lib.hid (own_all hO 1 rfl)
        have Q4 := Lib.hid (fun (w' : World) (al : Option Addr) (cl : Nat) (h' : Own w w' [coreC cb gs gd ob lb q fv ft 0 0 0, storeA gd sd ds, rowA 3 1 (.slice ma N mc) N ((ds).map (.int .i64)), cellsA xb #[.int .i64 k, .int .i64 a, .int .i64 v, .int .i64 o, .int .i64 0] 39]) (hl : Lies w' al cl ds) => show Calls Try.prog 11 #[.slice al N cl, .slice ma N mc] w' fun e w2 => e = .returned (.bool true) ∧ Own w w2 [coreC cb gs gd ob lb q fv ft 0 0 0, storeA gd sd ds, rowA 3 1 (.slice ma N mc) N ((ds).map (.int .i64)), cellsA xb #[.int .i64 k, .int .i64 a, .int .i64 v, .int .i64 o, .int .i64 0] 39] from by
          have hrm : Row w' 3 1 (.slice ma N mc) N (ds.map (.int .i64)) := h'.row 2 rfl
          have I := ints_any al ma cl mc ds ds w' hl (Lies.of_row hrm hdl2.symm)
          rw [hdl2] at I
          refine I.mono ?_
          rintro e w2 ⟨rfl, mm, rfl⟩
          exact ⟨by simp, h'.drewN mm⟩)
        rw [hdl2] at Q3
        clear hO x0 x1 x2 x3 x4 Q1
        go_wp2_with (first | (go_at_call 12; refine Q2.out.mono ?_; rintro e w9 ⟨rfl, rfl⟩) | (go_at_call 13; refine Q3.out.mono ?_; rintro e w10 ⟨al, cl, rfl, hO2, hLL, hjunk⟩; clear hjunk; replace hO2 := Lib.hid hO2; replace hLL := Lib.hid hLL) | (go_at_call 11; refine (Q4.out _ _ _ hO2.out hLL.out).mono ?_; rintro e w11 ⟨rfl, hO3⟩; replace hO3 := Lib.hid hO3))
        go_round
        case rel => exact ⟨r + 1, ma, mc, ds, by omega, by first | rfl | trivial | go_num, rfl, hdl2, hO3.out.sel [0, 1, 2] (by decide)⟩
        case measure => simp [intOf]; omega
  obtain rfl : r = xs.length := by omega
  go_wp2
  go_ret
  exact ⟨rfl, hO.below⟩
end Go.Proofs.Ytcegncbnanbenaa
