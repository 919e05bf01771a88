/- Package arena: what its iterator and Used do. -/
import Derived.Test.YtbadinmlnbabiaaKit
import Derived.RangeFuncNested
import Derived.RangeFuncBound
import Derived.RangeFuncCalls
import Derived.RangeFuncLeaves
import Derived.Shelf.Abstract
import Derived.Shelf.RegionOpen
import Derived.WalkKit
import Derived.OwnWalkIn
import Derived.TacticsInMore
import Derived.LoopNIn
import Derived.LoopIn
set_option linter.unusedVariables false
set_option linter.unusedSimpArgs false
namespace Go.Proofs.Ytbadinmlnbabiaa
open Go.RowKit Go.Shelf
attribute [local go_sem] Oper.semAt_some
theorem cell_new_l (W : World) (v : Value) (t : TypeId) : (W.alloc (.cells #[v] t)).cell? ⟨W.heap.size, 0, none⟩ = some v ∧ (W.alloc (.cells #[v] t)).frozen? ⟨W.heap.size, 0, none⟩ = false :=
  ⟨cell_at (alloc_new _ _) 0, free_at (alloc_new _ _) 0⟩
theorem cell_alloc_l {W : World} {a : Addr} {v : Value} (o : Obj) (h : W.cell? a = some v) : (W.alloc o).cell? a = some v := cell_kept h (World.grownBy_alloc W o none) (fun r e => by cases e)
theorem frozen_alloc_l {W : World} {a : Addr} {v : Value} (o : Obj) (h : W.cell? a = some v) (hf : W.frozen? a = false) : (W.alloc o).frozen? a = false := (frozen_kept h (World.grownBy_alloc W o none) (fun r e => by cases e)).trans hf
/-- The numbers below k that are taken. -/
def trues (hs : List Bool) (k : Nat) : List Int := ((List.range k).filter fun j => hs.getD j false).map fun (j : Nat) => (j : Int)
theorem trues_succ (hs : List Bool) (k : Nat) : trues hs (k + 1) = if hs.getD k false = true then trues hs k ++ [(k : Int)] else trues hs k := by
  unfold trues
  rw [List.range_succ, List.filter_append, List.map_append]
  by_cases h : hs.getD k false = true
  · rw [if_pos h, List.filter_cons, if_pos h]; rfl
  · rw [if_neg h, List.filter_cons, if_neg h]; simp
theorem trues_length (hs : List Bool) (k : Nat) : (trues hs k).length ≤ k := by
  unfold trues
  rw [List.length_map]
  exact Nat.le_trans (List.length_filter_le _ _) (by simp)
set_option maxRecDepth 100000
set_option maxHeartbeats 4000000
theorem all1_in (F : Fence) (n : Nat) (h69 : F.fn 69) (hro : F.round = none) (hn : 1 ≤ n) (l Bs n₀ g hb : Nat) (hs : List Bool) (hreach : hs.length ≤ 4096) (hbn : hb < n₀) (J Jx : List Int → World → Prop)
    (hY : ∀ pre x W, J pre W → pre.length < hs.length → YieldAt F (n - 1) Try.prog l #[.int .i64 x] W fun e W' =>
      (e = .returned (.bool true) ∧ J (pre ++ [x]) W' ∧ Below n₀ W W') ∨ (e = .returned (.bool false) ∧ Jx (pre ++ [x]) W'))
    (W : World) (hBs : W.cell? ⟨Bs, 0, none⟩ = some (.pointer (some ⟨g, 0, none⟩))) (hg : W.cell? ⟨g, 0, none⟩ = some (.slice (some ⟨hb, 0, none⟩) hs.length hs.length)) (hc : ∀ j, j < hs.length → W.cell? ⟨hb, j, none⟩ = some (.bool (hs.getD j false))) (h0 : J [] W) :
    CallsIn F n Try.prog 69 #[.func (.yield l) #[] #[], .pointer (some ⟨Bs, 0, none⟩)] W fun e W' => (∃ v, e = .returned v) ∧
      ((∃ ys, ys = trues hs hs.length ∧ J ys W') ∨ (∃ pre, (∃ k, k ≤ hs.length ∧ pre = trues hs k) ∧ Jx pre W')) := by
  refine callsIn_of_wp Try.func69 rfl h69 ?_ hro
  simp only [Try.ntmps69, List.size_toArray, List.length_cons, List.length_nil, Nat.reduceAdd, Nat.reduceSub, Array.replicate_succ, Array.replicate_zero, List.push_toArray, List.append_toArray, List.nil_append, List.cons_append]
  replace hc := Lib.hid hc
  gi_wp2
  gi_loopw [12] (fun i wr => ∃ k : Nat, k ≤ hs.length ∧ i = .int .i64 k ∧ J (trues hs k) wr ∧ Below n₀ W wr)
    (fun i _ => hs.length - (intOf i).toNat)
  case atStart => exact ⟨0, Nat.zero_le _, rfl, h0, Below.refl _ _⟩
  case round =>
    obtain ⟨k, hk, rfl, hJs, hnx⟩ := hrel
    by_cases hlt : k < hs.length
    · have hcx : wr.cell? ⟨hb, k, none⟩ = some (.bool (hs.getD k false)) := (hnx.cell (p := ⟨hb, k, none⟩) hbn).trans (hc.out k hlt)
      have hsn := trues_succ hs k
      generalize hq : hs.getD k false = q at *
      cases q with
      | true =>
        rw [if_pos rfl] at hsn
        replace hsn := Lib.hid hsn
        have hll := trues_length hs k
        obtain ⟨fn, tmps, assign, body, hy, hR⟩ := hY _ (k : Int) wr hJs (by omega)
        clear hq
        gi_wp2
        refine hR.mono ?_
        rintro e W3 (⟨rfl, hJ3, hk3⟩ | ⟨rfl, hJx3⟩)
        · gi_wp2
          go_roundw
          case rel => exact ⟨k + 1, by omega, by simp, by rw [hsn.out]; exact hJ3, hnx.trans hk3⟩
          case measure => simp [intOf]; omega
        · gi_wp2
          refine bodyPost_ret (results_none rfl _ _ _) rfl ?_
          exact ⟨⟨_, rfl⟩, .inr ⟨_, ⟨k + 1, by omega, hsn.out.symm⟩, hJx3⟩⟩
      | false =>
        rw [if_neg (by simp)] at hsn
        replace hsn := Lib.hid hsn
        clear hq
        gi_wp2
        refine ⟨fun f hf => (by cases hf), ?_⟩
        gi_wp2
        go_roundw
        case rel => exact ⟨k + 1, by omega, by simp, by rw [hsn.out]; exact hJs, hnx⟩
        case measure => simp [intOf]; omega
    · obtain rfl : k = hs.length := by omega
      gi_wp2
      go_end0
      exact ⟨⟨_, rfl⟩, .inl ⟨_, rfl, hJs⟩⟩
theorem all1_nil_in (F : Fence) (n : Nat) (h69 : F.fn 69) (hro : F.round = none) (l Bs : Nat) (J : List Int → World → Prop) (W : World) (hBs : W.cell? ⟨Bs, 0, none⟩ = some (.pointer none)) (h0 : J [] W) :
    CallsIn F n Try.prog 69 #[.func (.yield l) #[] #[], .pointer (some ⟨Bs, 0, none⟩)] W fun e W' => (∃ v, e = .returned v) ∧ J [] W' := by
  refine callsIn_of_wp Try.func69 rfl h69 ?_ hro
  simp only [Try.ntmps69, List.size_toArray, List.length_cons, List.length_nil, Nat.reduceAdd, Nat.reduceSub, Array.replicate_succ, Array.replicate_zero, List.push_toArray, List.append_toArray, List.nil_append, List.cons_append]
  gi_wp2
  refine bodyPost_ret (results_none rfl _ _ _) rfl ?_
  exact ⟨⟨_, rfl⟩, h0⟩
theorem all_in (F : Fence) (n : Nat) (h63 : F.fn 63) (hro : F.round = none) (p : Option Addr) (w : World) :
    CallsIn F n Try.prog 63 #[.pointer p] w fun e w' => e = .returned (.func (.func 69) #[] #[.pointer (some ⟨w.heap.size, 0, none⟩)]) ∧ w' = w.alloc (.cells #[.pointer p] 44) := by
  refine callsIn_of_wp Try.func63 rfl h63 ?_ hro
  simp only [Try.ntmps63, List.size_toArray, List.length_cons, List.length_nil, Nat.reduceAdd, Nat.reduceSub, Array.replicate_succ, Array.replicate_zero, List.push_toArray, List.append_toArray, List.nil_append, List.cons_append]
  gi_wp2
  go_ret
  exact ⟨rfl, rfl⟩
/-- Whose numbers these are, in memory below n₀; or nobody's. -/
def HeldIs (n₀ : Nat) (w : World) (p : Option Addr) (hs : List Bool) : Prop :=
  (p = none ∧ hs = []) ∨ ∃ g hb, p = some ⟨g, 0, none⟩ ∧ g < n₀ ∧ hb < n₀ ∧ w.cell? ⟨g, 0, none⟩ = some (.slice (some ⟨hb, 0, none⟩) hs.length hs.length) ∧ ∀ j, j < hs.length → w.cell? ⟨hb, j, none⟩ = some (.bool (hs.getD j false))
theorem HeldIs.below {n₀ : Nat} {w w' : World} {p : Option Addr} {hs : List Bool} (h : HeldIs n₀ w p hs) (hb : Below n₀ w w') : HeldIs n₀ w' p hs := by
  rcases h with h | ⟨g, hb0, h1, h2, h3, h4, h5⟩
  · exact .inl h
  · exact .inr ⟨g, hb0, h1, h2, h3, (hb.cell (p := ⟨g, 0, none⟩) h2).trans h4, fun j hj => (hb.cell (p := ⟨hb0, j, none⟩) h3).trans (h5 j hj)⟩
theorem all_stops (F : Fence) (n : Nat) (h69 : F.fn 69) (hro : F.round = none) (hn : 1 ≤ n) (Bs n₀ : Nat) (p : Option Addr) (hs : List Bool) (hreach : hs.length ≤ 4096) (w : World) (hBs : Bs < w.heap.size) (hn₀ : n₀ ≤ w.heap.size)
    (hc : w.cell? ⟨Bs, 0, none⟩ = some (.pointer p)) (hI : HeldIs n₀ w p hs) :
    SeqStopsK F n Try.prog 69 #[.pointer (some ⟨Bs, 0, none⟩)] (fun x : Int => #[Value.int .i64 x]) (Below n₀) (fun ys => ys = trues hs hs.length) (fun pre => True) hs.length w := fun l J Jx W hW _ _ hY h0 => by
  have hc' := (hW.cell (p := ⟨Bs, 0, none⟩) hBs).trans hc
  rcases hI.below (hW.mono hn₀) with ⟨rfl, rfl⟩ | ⟨g, hb, rfl, hg, hb', h4, h5⟩
  · exact (all1_nil_in F n h69 hro l Bs J W hc' h0).mono fun e W' ⟨he, hj⟩ => ⟨he, .inl ⟨_, rfl, hj⟩⟩
  · refine (all1_in F n h69 hro hn l Bs n₀ g hb hs hreach hb' J Jx hY W hc' h4 h5 h0).mono ?_
    rintro e W' ⟨he, ⟨ys, rfl, hj⟩ | ⟨pre, ⟨k, hk, rfl⟩, hj⟩⟩
    · exact ⟨he, .inl ⟨_, rfl, hj⟩⟩
    · exact ⟨he, .inr ⟨_, trivial, hj⟩⟩
theorem used_in (F : Fence) (n : Nat) (h36 : F.fn 36) (h63 : F.fn 63) (h69 : F.fn 69) (hro : F.round = none) (hn : 3 ≤ n) (p : Option Addr) (hs : List Bool) (hreach : hs.length ≤ 4096) (w : World) (hL : HeldIs w.heap.size w p hs) :
    CallsIn F n Try.prog 36 #[.pointer p] w fun e W' => e = .returned (.int .i64 (trues hs hs.length).length) ∧ Below w.heap.size w W' := by
  have h1 : 1 ≤ n := by omega
  have hll := trues_length hs hs.length
  refine callsIn_of_wp_marks Try.func36 rfl h36 ?_ hro
  simp only [Try.ntmps36, List.size_toArray, List.length_cons, List.length_nil, Nat.reduceAdd, Nat.reduceSub, Array.replicate_succ, Array.replicate_zero, List.push_toArray, List.append_toArray, List.nil_append, List.cons_append]
  gi_wp2_with (gi_at_call 63; refine (all_in F (n - 1) h63 hro _ _).mono ?_; rintro e w' ⟨rfl, rfl⟩)
  have hs0 := cell_new_l w (.int .i64 0) 3
  have hb := cell_new_l (w.alloc (.cells #[.int .i64 0] 3)) (.pointer p) 44
  rw [World.size_alloc] at hb
  have hB0 : Below w.heap.size w ((w.alloc (.cells #[.int .i64 0] 3)).alloc (.cells #[.pointer p] 44)) := ((Below.refl _ w).alloc (Nat.le_refl _) _).alloc (by simp) _
  refine wpIn_rangeFunc_ownF hro h1 (gf := 69) (lb := #[.pointer (some ⟨w.heap.size + 1, 0, none⟩)]) rfl h69 (enters_of Try.func69 (by kernel_rfl) rfl)
    (all_stops F (n - 1) h69 hro (by omega) (w.heap.size + 1) w.heap.size p hs hreach _ (by simp) (by simp; omega) hb.1 (hL.below hB0)) belowK_t (belowK_b (by simp; omega)) (Below.refl _ _) (fun _ => rfl)
    (fun pre W => (W.cell? ⟨w.heap.size, 0, none⟩ = some (.int .i64 pre.length) ∧ W.frozen? ⟨w.heap.size, 0, none⟩ = false) ∧ Below w.heap.size w W)
    (fun _ _ _ => False)
    (OwnFrom.and (Own.from (fun s A B row hs hg hr => ⟨cell_kept hs.1 hg hr, (frozen_kept hs.1 hg hr).trans hs.2⟩) _) (ownFrom_below (Nat.le_refl _) (by simp; omega)))
    (fun _ _ _ _ _ hs _ _ => hs)
    ⟨⟨cell_alloc_l _ hs0.1, frozen_alloc_l _ hs0.1 hs0.2⟩, hB0⟩
    (fun x => { tmps := #[.pointer p, undef, .int .i64 0, .pointer (some ⟨w.heap.size, 0, none⟩), .pointer p, .func (.func 69) #[] #[.pointer (some ⟨w.heap.size + 1, 0, none⟩)], .int .i64 x, undef, undef, undef], defers := [] }) ?assign ?body ?done ?stop
  case assign =>
    intro l x W K hK
    gi_wp2
    simpa using hK
  case body =>
    rintro l pre x W ⟨⟨hc, hf⟩, hB⟩ hlen
    have hbd : pre.length ≤ 4096 := by omega
    gi_wp2
    exact ⟨KeepsOthers.setCell _ _ _, (Below.refl w.heap.size W).setCell (p := ⟨w.heap.size, 0, none⟩) (Nat.le_refl _) _, ⟨by rw [show (((pre ++ [x]).length : Nat) : Int) = (pre.length : Int) + 1 by simp]; exact World.cell?_setCell_same' _ _ _ (by rw [hc]; rfl), by rw [World.frozen?_setCell]; exact hf⟩, hB.setCell (p := ⟨w.heap.size, 0, none⟩) (Nat.le_refl _) _⟩
  case done =>
    rintro D ys W hD rfl ⟨⟨hc, _⟩, hB⟩ hK
    gi_wp2
    refine ⟨by simp, .inl ⟨_, _, rfl, run_takeDeferred hK, ?_⟩⟩
    exact ⟨_, results_tmp rfl _ _ _, rfl, hB.trans (belowK_b (w := w) (Nat.le_refl _) W D _ _ (by simp at hD; omega) hK rfl rfl)⟩
  case stop =>
    rintro D c pre W _ _ h _
    exact h.elim
/-- How many are taken. -/
theorem used_any (p : Option Addr) (hs : List Bool) (hreach : hs.length ≤ 4096) (w : World) (hL : HeldIs w.heap.size w p hs) :
    Calls Try.prog 36 #[.pointer p] w fun e W' => e = .returned (.int .i64 (trues hs hs.length).length) ∧ Below w.heap.size w W' :=
  (callsIn_wide (n := 3)).1 (used_in Fence.wide 3 trivial trivial trivial rfl (by omega) p hs hreach w hL)
end Go.Proofs.Ytbadinmlnbabiaa
