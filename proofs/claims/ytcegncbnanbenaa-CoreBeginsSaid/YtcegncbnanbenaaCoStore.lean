/- Contracts and plain facts, cut out of the texts that other statements use:  Arena, Arena2, Store, StoreA, Fill, Plan, Plan2, StoreDo, StoreNone, StoreRef, StoreRef2, Bound. -/
import Derived.Test.YtcegncbnanbenaaCoBase
import Derived.RangeFuncNested
import Derived.RangeFuncBound
import Derived.RangeFuncCalls
import Derived.RangeFuncLeaves
import Derived.Shelf.Abstract
import Derived.Shelf.RegionOpen
import Derived.WalkKit
import Derived.OwnWalkIn
import Derived.TacticsInMore
import Derived.LoopNIn
import Derived.LoopIn
import Derived.Lib.MinMax
import Derived.Laws.EntriesVeiled
set_option linter.unusedVariables false
set_option linter.unusedSimpArgs false
namespace Go.Proofs.Ytcegncbnanbenaa
section
open Go.RowKit Go.Shelf
attribute [local go_sem] Oper.semAt_some
theorem cell_new_l (W : World) (v : Value) (t : TypeId) : (W.alloc (.cells #[v] t)).cell? ⟨W.heap.size, 0, none⟩ = some v ∧ (W.alloc (.cells #[v] t)).frozen? ⟨W.heap.size, 0, none⟩ = false :=
  ⟨cell_at (alloc_new _ _) 0, free_at (alloc_new _ _) 0⟩
theorem cell_alloc_l {W : World} {a : Addr} {v : Value} (o : Obj) (h : W.cell? a = some v) : (W.alloc o).cell? a = some v := cell_kept h (World.grownBy_alloc W o none) (fun r e => by cases e)
theorem frozen_alloc_l {W : World} {a : Addr} {v : Value} (o : Obj) (h : W.cell? a = some v) (hf : W.frozen? a = false) : (W.alloc o).frozen? a = false := (frozen_kept h (World.grownBy_alloc W o none) (fun r e => by cases e)).trans hf
/-- The numbers below k that are taken. -/
def trues (hs : List Bool) (k : Nat) : List Int := ((List.range k).filter fun j => hs.getD j false).map fun (j : Nat) => (j : Int)
theorem trues_succ (hs : List Bool) (k : Nat) : trues hs (k + 1) = if hs.getD k false = true then trues hs k ++ [(k : Int)] else trues hs k := by
  unfold trues
  rw [List.range_succ, List.filter_append, List.map_append]
  by_cases h : hs.getD k false = true
  · rw [if_pos h, List.filter_cons, if_pos h]; rfl
  · rw [if_neg h, List.filter_cons, if_neg h]; simp
theorem trues_length (hs : List Bool) (k : Nat) : (trues hs k).length ≤ k := by
  unfold trues
  rw [List.length_map]
  exact Nat.le_trans (List.length_filter_le _ _) (by simp)
set_option maxRecDepth 100000
set_option maxHeartbeats 4000000
theorem all1_in (F : Fence) (n : Nat) (h69 : F.fn 93) (hro : F.round = none) (hn : 1 ≤ n) (l Bs n₀ g hb : Nat) (hs : List Bool) (hreach : hs.length ≤ 4096) (hbn : hb < n₀) (J Jx : List Int → World → Prop)
    (hY : ∀ pre x W, J pre W → pre.length < hs.length → YieldAt F (n - 1) Try.prog l #[.int .i64 x] W fun e W' =>
      (e = .returned (.bool true) ∧ J (pre ++ [x]) W' ∧ Below n₀ W W') ∨ (e = .returned (.bool false) ∧ Jx (pre ++ [x]) W'))
    (W : World) (hBs : W.cell? ⟨Bs, 0, none⟩ = some (.pointer (some ⟨g, 0, none⟩))) (hg : W.cell? ⟨g, 0, none⟩ = some (.slice (some ⟨hb, 0, none⟩) hs.length hs.length)) (hc : ∀ j, j < hs.length → W.cell? ⟨hb, j, none⟩ = some (.bool (hs.getD j false))) (h0 : J [] W) :
    CallsIn F n Try.prog 93 #[.func (.yield l) #[] #[], .pointer (some ⟨Bs, 0, none⟩)] W fun e W' => (∃ v, e = .returned v) ∧
      ((∃ ys, ys = trues hs hs.length ∧ J ys W') ∨ (∃ pre, (∃ k, k ≤ hs.length ∧ pre = trues hs k) ∧ Jx pre W')) := by
  refine callsIn_of_wp Try.func93 rfl h69 ?_ hro
  simp only [Try.ntmps93, List.size_toArray, List.length_cons, List.length_nil, Nat.reduceAdd, Nat.reduceSub, Array.replicate_succ, Array.replicate_zero, List.push_toArray, List.append_toArray, List.nil_append, List.cons_append]
  replace hc := Lib.hid hc
  gi_wp2
  gi_loopw [12] (fun i wr => ∃ k : Nat, k ≤ hs.length ∧ i = .int .i64 k ∧ J (trues hs k) wr ∧ Below n₀ W wr)
    (fun i _ => hs.length - (intOf i).toNat)
  case atStart => exact ⟨0, Nat.zero_le _, rfl, h0, Below.refl _ _⟩
  case round =>
    obtain ⟨k, hk, rfl, hJs, hnx⟩ := hrel
    by_cases hlt : k < hs.length
    · have hcx : wr.cell? ⟨hb, k, none⟩ = some (.bool (hs.getD k false)) := (hnx.cell (p := ⟨hb, k, none⟩) hbn).trans (hc.out k hlt)
      have hsn := trues_succ hs k
      generalize hq : hs.getD k false = q at *
      cases q with
      | true =>
        rw [if_pos rfl] at hsn
        replace hsn := Lib.hid hsn
        have hll := trues_length hs k
        obtain ⟨fn, tmps, assign, body, hy, hR⟩ := hY _ (k : Int) wr hJs (by omega)
        clear hq
        gi_wp2
        refine hR.mono ?_
        rintro e W3 (⟨rfl, hJ3, hk3⟩ | ⟨rfl, hJx3⟩)
        · gi_wp2
          go_roundw
          case rel => exact ⟨k + 1, by omega, by simp, by rw [hsn.out]; exact hJ3, hnx.trans hk3⟩
          case measure => simp [intOf]; omega
        · gi_wp2
          refine bodyPost_ret (results_none rfl _ _ _) rfl ?_
          exact ⟨⟨_, rfl⟩, .inr ⟨_, ⟨k + 1, by omega, hsn.out.symm⟩, hJx3⟩⟩
      | false =>
        rw [if_neg (by simp)] at hsn
        replace hsn := Lib.hid hsn
        clear hq
        gi_wp2
        refine ⟨fun f hf => (by cases hf), ?_⟩
        gi_wp2
        go_roundw
        case rel => exact ⟨k + 1, by omega, by simp, by rw [hsn.out]; exact hJs, hnx⟩
        case measure => simp [intOf]; omega
    · obtain rfl : k = hs.length := by omega
      gi_wp2
      go_end0
      exact ⟨⟨_, rfl⟩, .inl ⟨_, rfl, hJs⟩⟩
theorem all1_nil_in (F : Fence) (n : Nat) (h69 : F.fn 93) (hro : F.round = none) (l Bs : Nat) (J : List Int → World → Prop) (W : World) (hBs : W.cell? ⟨Bs, 0, none⟩ = some (.pointer none)) (h0 : J [] W) :
    CallsIn F n Try.prog 93 #[.func (.yield l) #[] #[], .pointer (some ⟨Bs, 0, none⟩)] W fun e W' => (∃ v, e = .returned v) ∧ J [] W' := by
  refine callsIn_of_wp Try.func93 rfl h69 ?_ hro
  simp only [Try.ntmps93, List.size_toArray, List.length_cons, List.length_nil, Nat.reduceAdd, Nat.reduceSub, Array.replicate_succ, Array.replicate_zero, List.push_toArray, List.append_toArray, List.nil_append, List.cons_append]
  gi_wp2
  refine bodyPost_ret (results_none rfl _ _ _) rfl ?_
  exact ⟨⟨_, rfl⟩, h0⟩
theorem all_in (F : Fence) (n : Nat) (h63 : F.fn 85) (hro : F.round = none) (p : Option Addr) (w : World) :
    CallsIn F n Try.prog 85 #[.pointer p] w fun e w' => e = .returned (.func (.func 93) #[] #[.pointer (some ⟨w.heap.size, 0, none⟩)]) ∧ w' = w.alloc (.cells #[.pointer p] 115) := by
  refine callsIn_of_wp Try.func85 rfl h63 ?_ hro
  simp only [Try.ntmps85, List.size_toArray, List.length_cons, List.length_nil, Nat.reduceAdd, Nat.reduceSub, Array.replicate_succ, Array.replicate_zero, List.push_toArray, List.append_toArray, List.nil_append, List.cons_append]
  gi_wp2
  go_ret
  exact ⟨rfl, rfl⟩
/-- Whose numbers these are, in memory below n₀; or nobody's. -/
def HeldIs (n₀ : Nat) (w : World) (p : Option Addr) (hs : List Bool) : Prop :=
  (p = none ∧ hs = []) ∨ ∃ g hb, p = some ⟨g, 0, none⟩ ∧ g < n₀ ∧ hb < n₀ ∧ w.cell? ⟨g, 0, none⟩ = some (.slice (some ⟨hb, 0, none⟩) hs.length hs.length) ∧ ∀ j, j < hs.length → w.cell? ⟨hb, j, none⟩ = some (.bool (hs.getD j false))
theorem HeldIs.below {n₀ : Nat} {w w' : World} {p : Option Addr} {hs : List Bool} (h : HeldIs n₀ w p hs) (hb : Below n₀ w w') : HeldIs n₀ w' p hs := by
  rcases h with h | ⟨g, hb0, h1, h2, h3, h4, h5⟩
  · exact .inl h
  · exact .inr ⟨g, hb0, h1, h2, h3, (hb.cell (p := ⟨g, 0, none⟩) h2).trans h4, fun j hj => (hb.cell (p := ⟨hb0, j, none⟩) h3).trans (h5 j hj)⟩
theorem all_stops (F : Fence) (n : Nat) (h69 : F.fn 93) (hro : F.round = none) (hn : 1 ≤ n) (Bs n₀ : Nat) (p : Option Addr) (hs : List Bool) (hreach : hs.length ≤ 4096) (w : World) (hBs : Bs < w.heap.size) (hn₀ : n₀ ≤ w.heap.size)
    (hc : w.cell? ⟨Bs, 0, none⟩ = some (.pointer p)) (hI : HeldIs n₀ w p hs) :
    SeqStopsK F n Try.prog 93 #[.pointer (some ⟨Bs, 0, none⟩)] (fun x : Int => #[Value.int .i64 x]) (Below n₀) (fun ys => ys = trues hs hs.length) (fun pre => True) hs.length w := fun l J Jx W hW _ _ hY h0 => by
  have hc' := (hW.cell (p := ⟨Bs, 0, none⟩) hBs).trans hc
  rcases hI.below (hW.mono hn₀) with ⟨rfl, rfl⟩ | ⟨g, hb, rfl, hg, hb', h4, h5⟩
  · exact (all1_nil_in F n h69 hro l Bs J W hc' h0).mono fun e W' ⟨he, hj⟩ => ⟨he, .inl ⟨_, rfl, hj⟩⟩
  · refine (all1_in F n h69 hro hn l Bs n₀ g hb hs hreach hb' J Jx hY W hc' h4 h5 h0).mono ?_
    rintro e W' ⟨he, ⟨ys, rfl, hj⟩ | ⟨pre, ⟨k, hk, rfl⟩, hj⟩⟩
    · exact ⟨he, .inl ⟨_, rfl, hj⟩⟩
    · exact ⟨he, .inr ⟨_, trivial, hj⟩⟩
theorem used_in (F : Fence) (n : Nat) (h36 : F.fn 75) (h63 : F.fn 85) (h69 : F.fn 93) (hro : F.round = none) (hn : 3 ≤ n) (p : Option Addr) (hs : List Bool) (hreach : hs.length ≤ 4096) (w : World) (hL : HeldIs w.heap.size w p hs) :
    CallsIn F n Try.prog 75 #[.pointer p] w fun e W' => e = .returned (.int .i64 (trues hs hs.length).length) ∧ Below w.heap.size w W' := by
  have h1 : 1 ≤ n := by omega
  have hll := trues_length hs hs.length
  refine callsIn_of_wp_marks Try.func75 rfl h36 ?_ hro
  simp only [Try.ntmps75, List.size_toArray, List.length_cons, List.length_nil, Nat.reduceAdd, Nat.reduceSub, Array.replicate_succ, Array.replicate_zero, List.push_toArray, List.append_toArray, List.nil_append, List.cons_append]
  gi_wp2_with (gi_at_call 85; refine (all_in F (n - 1) h63 hro _ _).mono ?_; rintro e w' ⟨rfl, rfl⟩)
  have hs0 := cell_new_l w (.int .i64 0) 3
  have hb := cell_new_l (w.alloc (.cells #[.int .i64 0] 3)) (.pointer p) 115
  rw [World.size_alloc] at hb
  have hB0 : Below w.heap.size w ((w.alloc (.cells #[.int .i64 0] 3)).alloc (.cells #[.pointer p] 115)) := ((Below.refl _ w).alloc (Nat.le_refl _) _).alloc (by simp) _
  refine wpIn_rangeFunc_ownF hro h1 (gf := 93) (lb := #[.pointer (some ⟨w.heap.size + 1, 0, none⟩)]) rfl h69 (enters_of Try.func93 (by kernel_rfl) rfl)
    (all_stops F (n - 1) h69 hro (by omega) (w.heap.size + 1) w.heap.size p hs hreach _ (by simp) (by simp; omega) hb.1 (hL.below hB0)) belowK_t (belowK_b (by simp; omega)) (Below.refl _ _) (fun _ => rfl)
    (fun pre W => (W.cell? ⟨w.heap.size, 0, none⟩ = some (.int .i64 pre.length) ∧ W.frozen? ⟨w.heap.size, 0, none⟩ = false) ∧ Below w.heap.size w W)
    (fun _ _ _ => False)
    (OwnFrom.and (Own.from (fun s A B row hs hg hr => ⟨cell_kept hs.1 hg hr, (frozen_kept hs.1 hg hr).trans hs.2⟩) _) (ownFrom_below (Nat.le_refl _) (by simp; omega)))
    (fun _ _ _ _ _ hs _ _ => hs)
    ⟨⟨cell_alloc_l _ hs0.1, frozen_alloc_l _ hs0.1 hs0.2⟩, hB0⟩
    (fun x => { tmps := #[.pointer p, undef, .int .i64 0, .pointer (some ⟨w.heap.size, 0, none⟩), .pointer p, .func (.func 93) #[] #[.pointer (some ⟨w.heap.size + 1, 0, none⟩)], .int .i64 x, undef, undef, undef], defers := [] }) ?assign ?body ?done ?stop
  case assign =>
    intro l x W K hK
    gi_wp2
    simpa using hK
  case body =>
    rintro l pre x W ⟨⟨hc, hf⟩, hB⟩ hlen
    have hbd : pre.length ≤ 4096 := by omega
    gi_wp2
    exact ⟨KeepsOthers.setCell _ _ _, (Below.refl w.heap.size W).setCell (p := ⟨w.heap.size, 0, none⟩) (Nat.le_refl _) _, ⟨by rw [show (((pre ++ [x]).length : Nat) : Int) = (pre.length : Int) + 1 by simp]; exact World.cell?_setCell_same' _ _ _ (by rw [hc]; rfl), by rw [World.frozen?_setCell]; exact hf⟩, hB.setCell (p := ⟨w.heap.size, 0, none⟩) (Nat.le_refl _) _⟩
  case done =>
    rintro D ys W hD rfl ⟨⟨hc, _⟩, hB⟩ hK
    gi_wp2
    refine ⟨by simp, .inl ⟨_, _, rfl, run_takeDeferred hK, ?_⟩⟩
    exact ⟨_, results_tmp rfl _ _ _, rfl, hB.trans (belowK_b (w := w) (Nat.le_refl _) W D _ _ (by simp at hD; omega) hK rfl rfl)⟩
  case stop =>
    rintro D c pre W _ _ h _
    exact h.elim
/-- How many are taken. -/
theorem used_any (p : Option Addr) (hs : List Bool) (hreach : hs.length ≤ 4096) (w : World) (hL : HeldIs w.heap.size w p hs) :
    Calls Try.prog 75 #[.pointer p] w fun e W' => e = .returned (.int .i64 (trues hs hs.length).length) ∧ Below w.heap.size w W' :=
  (callsIn_wide (n := 3)).1 (used_in Fence.wide 3 trivial trivial trivial rfl (by omega) p hs hreach w hL)
end
section
open Go.RowKit
theorem Try.infoBoolK : (Try.prog.info? 4).map (fun i => (i.zero, i.size, i.bytes)) = some (some (.bool false), 1, 1) := by kernel_rfl
def cnt (hs : List Bool) : Int := (trues hs hs.length).length
def arenaL (g hb : Nat) (bv : Value) (hs : List Bool) (bs : List Int) (fr : Nat) (pk : Int) (l : List Ast) : List Ast :=
  cellsA g #[.slice (some ⟨hb, 0, none⟩) hs.length hs.length, bv, .int .i64 fr, .int .i64 pk] 142 :: rowA 4 1 (.slice (some ⟨hb, 0, none⟩) hs.length hs.length) hs.length (hs.map .bool) :: rowA 3 1 bv bs.length (bs.map (.int .i64)) :: l
/-- An arena of one's own. -/
def AOwn (w0 w : World) (g hb : Nat) (hs : List Bool) (bs : List Int) (fr : Nat) (pk : Int) (l : List Ast) : Prop := ∃ bv, Own w0 w (arenaL g hb bv hs bs fr pk l)
theorem AOwn.old {w0 w : World} {g hb : Nat} {hs : List Bool} {bs : List Int} {fr : Nat} {pk : Int} {l : List Ast} (h : AOwn w0 w g hb hs bs fr pk l) {p : Addr} {v : Value} (hp : w0.cell? p = some v) : w.cell? p = some v := h.elim fun bv h => h.old hp
theorem AOwn.below {w0 w : World} {g hb : Nat} {hs : List Bool} {bs : List Int} {fr : Nat} {pk : Int} {l : List Ast} (h : AOwn w0 w g hb hs bs fr pk l) : Below w0.heap.size w0 w := h.elim fun bv h => h.below
theorem AOwn.grow {w0 w w' : World} {g hb : Nat} {hs : List Bool} {bs : List Int} {fr : Nat} {pk : Int} {l : List Ast} (h : AOwn w0 w g hb hs bs fr pk l) (hw : Below w.heap.size w w') : AOwn w0 w' g hb hs bs fr pk l := h.elim fun bv h => ⟨bv, h.grow hw⟩
theorem AOwn.drewN {w0 w : World} {g hb : Nat} {hs : List Bool} {bs : List Int} {fr : Nat} {pk : Int} {l : List Ast} (h : AOwn w0 w g hb hs bs fr pk l) (n : Nat) : AOwn w0 (w.drewN n) g hb hs bs fr pk l := h.elim fun bv h => ⟨bv, h.drewN n⟩
theorem AOwn.box {w0 w : World} {g hb : Nat} {hs : List Bool} {bs : List Int} {fr : Nat} {pk : Int} {l : List Ast} (h : AOwn w0 w g hb hs bs fr pk l) (cs : Array Value) (t : TypeId) : AOwn w0 (w.alloc (.cells cs t)) g hb hs bs fr pk (l ++ [cellsA w.heap.size cs t]) := h.elim fun bv h => ⟨bv, h.box cs t⟩
theorem bool_map {hs : List Bool} {a : Nat} (ha : a < hs.length) : (hs.map Value.bool)[a]? = some (.bool (hs.getD a false)) := by
  rw [List.getElem?_map, List.getElem?_eq_getElem ha, List.getD_eq_getElem?_getD, List.getElem?_eq_getElem ha]; rfl
theorem AOwn.held {w0 w : World} {g hb : Nat} {hs : List Bool} {bs : List Int} {fr : Nat} {pk : Int} {l : List Ast} (h : AOwn w0 w g hb hs bs fr pk l) : HeldIs w.heap.size w (some ⟨g, 0, none⟩) hs := by
  obtain ⟨bv, h⟩ := h
  refine .inr ⟨g, hb, rfl, lt_at (h.at 0 rfl), (h.row 1 rfl).lt rfl, (h.cget 0 rfl 0).1, fun j hj => ?_⟩
  exact h.row_get 1 rfl (bool_map hj)
set_option maxRecDepth 100000
set_option maxHeartbeats 4000000
theorem used_own {w0 w : World} {g hb : Nat} {hs : List Bool} {bs : List Int} {fr : Nat} {pk : Int} {l : List Ast} (h : AOwn w0 w g hb hs bs fr pk l) (hl : hs.length ≤ 4096) :
    Calls Try.prog 75 #[.pointer (some ⟨g, 0, none⟩)] w fun e w' => e = .returned (.int .i64 (cnt hs)) ∧ AOwn w0 w' g hb hs bs fr pk l :=
  (used_any _ hs hl w h.held).mono fun e w' ⟨he, hb⟩ => ⟨he, h.grow hb⟩
theorem aNew_any (n : Int) (M : Nat) (hM : min (max n 0) 1000 = (M : Int)) {w0 w : World} (h : Below w0.heap.size w0 w) : Calls Try.prog 77 #[.int .i64 n] w fun e w' => e = .returned (.pointer (some ⟨w.heap.size + 1, 0, none⟩)) ∧ AOwn w0 w' (w.heap.size + 1) w.heap.size (List.replicate (M + 1) false) [] 0 0 [] := by
  obtain ⟨i0, hi, hz0, hz1', hz2'⟩ := info_parts' Try.infoBoolK
  have hMl : M ≤ 1000 := by omega
  have h1 := (Own.nil h).row_made 4 1 (madeCells #[.bool false] (M + 1)) (M + 1) (by unfold maxLen; omega) (by simp [madeCells])
  have h2 := (h1.box #[.slice (some ⟨w.heap.size, 0, none⟩) (M + 1) (M + 1), .slice none 0 0, .int .i64 0, .int .i64 0] 142).push (Below.refl _ _) (rowA 3 1 (.slice none 0 0) 0 []) (Row.nil _ _ _) (by simp [rowA, Value.ownBlock])
  have h3 : AOwn w0 ((w.alloc (.cells (madeCells #[.bool false] (M + 1)) 4)).alloc (.cells #[.slice (some ⟨w.heap.size, 0, none⟩) (M + 1) (M + 1), .slice none 0 0, .int .i64 0, .int .i64 0] 142)) (w.heap.size + 1) w.heap.size (List.replicate (M + 1) false) [] 0 0 [] := by
    refine ⟨.slice none 0 0, (h2.sel [1, 0, 2] (by decide)).cast ?_⟩
    simp [arenaL, madeK_one]
  replace h3 := Lib.hid h3
  clear h1 h2 h
  go_enter Try.func77, Try.ntmps77
  go_wp2_with (first | (refine wpList_make_any _ rfl _ _ 140 rfl 4 i0 (.bool false) 1 1 Try.underlying140 hi hz0 hz1' hz2' .i64 .i64 ((M : Int) + 1) ((M : Int) + 1) rfl rfl (by omega) (by omega) (by omega) (by decide) ?_))
  go_ret
  exact ⟨rfl, h3.out⟩
/-- The number that is taken next. -/
def nextA (hs : List Bool) (bs : List Int) (fr : Nat) : Option (Int × List Int × Nat) :=
  if bs = [] then (if hs.length ≤ fr + 1 then none else some (((fr + 1 : Nat) : Int), [], fr + 1)) else some (bs.getLast?.getD 0, bs.dropLast, fr)
theorem next_own {w0 w : World} {g hb : Nat} {hs : List Bool} {bs : List Int} {fr : Nat} {pk : Int} {l : List Ast} (h : AOwn w0 w g hb hs bs fr pk l) (hl : hs.length ≤ 4096) (hbl : bs.length ≤ 100000) (hfr : fr ≤ 4096) {id : Int} {bs' : List Int} {fr' : Nat} (hn : nextA hs bs fr = some (id, bs', fr')) :
    Calls Try.prog 87 #[.pointer (some ⟨g, 0, none⟩)] w fun e w' => e = .returned (.tuple #[.int .i64 id, .bool true]) ∧ AOwn w0 w' g hb hs bs' fr' pk l := by
  obtain ⟨bv, hO⟩ := h
  obtain ⟨bo, bc, rfl, b1, b2, _⟩ := (hO.row 2 rfl).shape
  unfold maxLen at b2
  obtain ⟨c0, c1, c2, c3⟩ := And.intro (hO.cget 0 rfl 0).1 (And.intro (hO.cget 0 rfl 1).1 (And.intro (hO.cget 0 rfl 2).1 (hO.cget 0 rfl 3).1))
  simp at c0 c1 c2 c3
  unfold nextA at hn
  by_cases hb0 : bs = []
  · subst hb0
    rw [if_pos rfl] at hn
    by_cases hlt : hs.length ≤ fr + 1
    · rw [if_pos hlt] at hn; cases hn
    · rw [if_neg hlt] at hn
      simp only [Option.some.injEq, Prod.mk.injEq] at hn
      obtain ⟨rfl, rfl, rfl⟩ := hn
      have hlt' : fr + 1 < hs.length := by omega
      have f2 := (hO.cget 0 rfl 2).2
      have hE := Lib.hid (fun (m : Nat) => ((hO.drewN m).cset 0 rfl 2 (.int .i64 ((fr + 1 : Nat) : Int))))
      clear hO
      go_enter Try.func87, Try.ntmps87
      go_wp2_with fail
      go_quiet (fail)
      go_wp2
      go_ret2
      exact ⟨by simp, _, hE.out _⟩
  · rw [if_neg hb0] at hn
    simp only [Option.some.injEq, Prod.mk.injEq] at hn
    obtain ⟨rfl, rfl, rfl⟩ := hn
    have hp : 0 < bs.length := List.length_pos_iff.2 hb0
    obtain ⟨k, hk⟩ : ∃ k, bs.length = k + 1 := ⟨bs.length - 1, by omega⟩
    obtain ⟨g3, off3, cap3, hv3, q1, q2, q3, q4⟩ := (hO.row 2 rfl).addr hp
    simp only [Value.slice.injEq] at hv3
    obtain ⟨rfl, _, rfl⟩ := hv3
    have x0 := q3 k (by omega)
    rw [getD_map (by omega)] at x0
    have hlast : bs.getLast?.getD 0 = bs.getD k 0 := by
      rw [List.getLast?_eq_getElem?, hk, List.getD_eq_getElem?_getD]; rfl
    rw [hlast]
    have f1 := (hO.cget 0 rfl 1).2
    have hm : Moves (rowA 3 1 (.slice (some ⟨g3, off3, none⟩) bs.length bc) bs.length (bs.map (.int .i64))) (rowA 3 1 (.slice (some ⟨g3, off3, none⟩) k bc) k ((bs.dropLast).map (.int .i64))) w w := ⟨by
      have := (hO.row 2 rfl).take (i := k) (by omega)
      rw [Nat.mul_one, ← List.map_take] at this
      rw [List.dropLast_eq_take, hk]
      exact this, Touch.refl _ _, fun k hk => .inl hk⟩
    have hE : Own w0 (w.setCell ⟨g, 1, none⟩ (.slice (some ⟨g3, off3, none⟩) k bc)) (arenaL g hb (.slice (some ⟨g3, off3, none⟩) k bc) hs bs.dropLast fr pk l) := ((hO.move 2 rfl hm).cset 0 rfl 1 (.slice (some ⟨g3, off3, none⟩) k bc)).cast (by
      have : bs.dropLast.length = k := by simp [hk]
      simp [arenaL, this])
    replace hE := Lib.hid hE
    rw [hk] at c1 b1
    clear hO hm hlast q3 q4
    generalize bs.getD k 0 = X at *
    go_enter Try.func87, Try.ntmps87
    go_wp2
    go_ret2
    exact ⟨rfl, _, hE.out⟩
theorem take_yes {w0 w : World} {g hb : Nat} {hs : List Bool} {bs : List Int} {fr : Nat} {pk : Int} {l : List Ast} (h : AOwn w0 w g hb hs bs fr pk l) (hl : hs.length ≤ 4096) (hbl : bs.length ≤ 100000) (hfr : fr ≤ 4096) {id : Nat} {bs' : List Int} {fr' : Nat} (hn : nextA hs bs fr = some ((id : Int), bs', fr')) (hid : id < hs.length) (hs' : List Bool) (pk' : Int) (hh : hs.set id true = hs') (hp : max pk (cnt hs') = pk') :
    Calls Try.prog 78 #[.pointer (some ⟨g, 0, none⟩)] w fun e w' => e = .returned (.tuple #[.int .i64 id, .bool true]) ∧ AOwn w0 w' g hb hs' bs' fr' pk' l := by
  have N := Lib.hid (next_own h hl hbl hfr hn)
  have hlen' : hs'.length = hs.length := by rw [← hh]; simp
  have G := Lib.hid (fun (w5 : World) (h : AOwn w0 w5 g hb hs bs' fr' pk l) => show w5.cell? ⟨g, 0, none⟩ = some (.slice (some ⟨hb, 0, none⟩) hs.length hs.length) ∧ (∃ v, w5.cell? ⟨hb, id, none⟩ = some (.bool v)) ∧ w5.frozen? ⟨hb, id, none⟩ = false ∧ AOwn w0 (w5.setCell ⟨hb, id, none⟩ (.bool true)) g hb hs' bs' fr' pk l by
    obtain ⟨bv, hO⟩ := h
    refine ⟨(hO.cget 0 rfl 0).1, ⟨_, hO.row_get 1 rfl (bool_map hid)⟩, hO.row_free 1 rfl (by omega), bv, (hO.row_set 1 rfl id (.bool true) rfl).cast ?_⟩
    simp only [arenaL, List.set_cons_succ, List.set_cons_zero]
    rw [show (hs.map Value.bool).set id (.bool true) = hs'.map .bool by rw [← hh, List.map_set], hlen'])
  have U := Lib.hid (fun (w5 : World) (h : AOwn w0 w5 g hb hs' bs' fr' pk l) => used_own h (by omega))
  have G2 := Lib.hid (fun (w5 : World) (h : AOwn w0 w5 g hb hs' bs' fr' pk l) => show w5.cell? ⟨g, 3, none⟩ = some (.int .i64 pk) ∧ w5.frozen? ⟨g, 3, none⟩ = false ∧ AOwn w0 (w5.setCell ⟨g, 3, none⟩ (.int .i64 pk')) g hb hs' bs' fr' pk' l by
    obtain ⟨bv, hO⟩ := h
    exact ⟨(hO.cget 0 rfl 3).1, (hO.cget 0 rfl 3).2, bv, hO.cset 0 rfl 3 (.int .i64 pk')⟩)
  clear h hn hh hlen'
  generalize cnt hs' = C at *
  go_enter Try.func78, Try.ntmps78
  go_wp2_with fail
  go_at_call 87
  refine N.out.mono ?_
  rintro e w5 ⟨rfl, h5⟩
  obtain ⟨c0, ⟨v, c1⟩, f1, h6⟩ := G.out _ h5
  clear N G h5
  go_wp2_with fail
  generalize w5.setCell ⟨hb, id, none⟩ (.bool true) = w6 at *
  obtain ⟨d0, d1, _⟩ := G2.out _ h6
  have h7 := h6.drewN 1
  have hS0 : (fun w' : World => w'.cell? ⟨g, 3, none⟩ = some (.int .i64 pk)) w6.drew := d0
  go_region_with (first | (go_at_call 75; refine (U.out _ h7).mono ?_; rintro e w8 ⟨rfl, h8⟩; obtain ⟨e0, e1, hE2⟩ := G2.out _ h8))
  all_goals go_wp2
  all_goals go_ret2
  all_goals exact ⟨rfl, hE2⟩
def heldB (hs : List Bool) (id : Int) : Bool := decide (0 < id) && (decide (id < hs.length) && hs.getD id.toNat false)
theorem held_own {w0 w : World} {g hb : Nat} {hs : List Bool} {bs : List Int} {fr : Nat} {pk : Int} {l : List Ast} (h : AOwn w0 w g hb hs bs fr pk l) (hl : hs.length ≤ 4096) (id : Int) (t : Bool) (ht : heldB hs id = t) :
    Calls Try.prog 66 #[.pointer (some ⟨g, 0, none⟩), .int .i64 id] w fun e w' => e = .returned (.bool t) ∧ w = w' := by
  obtain ⟨bv, hO⟩ := h
  have c0 := (hO.cget 0 rfl 0).1
  simp at c0
  unfold heldB at ht
  by_cases h1 : 0 < id
  · by_cases h2 : id < hs.length
    · obtain ⟨a, rfl⟩ : ∃ a : Nat, id = a := ⟨id.toNat, by omega⟩
      have c1 := hO.row_get 1 rfl (bool_map (a := a) (by omega))
      simp only [h1, h2, decide_true, Bool.true_and, Int.toNat_natCast] at ht
      rw [ht] at c1
      clear hO ht
      go_enter Try.func66, Try.ntmps66
      go_wp2
      go_ret
      exact ⟨rfl, rfl⟩
    · simp only [h1, h2, decide_true, decide_false, Bool.true_and, Bool.false_and] at ht
      subst ht
      clear hO
      go_enter Try.func66, Try.ntmps66
      go_wp2
      go_ret
      exact ⟨rfl, rfl⟩
  · simp only [h1, decide_false, Bool.false_and] at ht
    subst ht
    clear hO
    go_enter Try.func66, Try.ntmps66
    go_wp2
    go_ret
    exact ⟨rfl, rfl⟩
end
section
open Go.RowKit
theorem Try.infoIntS : (Try.prog.info? 3).map (fun i => (i.zero, i.size, i.bytes)) = some (some (.int .i64 0), 1, 8) := by kernel_rfl
/-- Blocks g and b are a store of the words ms, with the hook hk. -/
def StoreIs (w : World) (g b : Nat) (ms : List Int) (hk : Value) : Prop :=
  g ≠ b ∧ ms.length ≤ 1048576 ∧ w.heap[g]? = some (.cells #[.slice (some ⟨b, 0, none⟩) ms.length ms.length, hk] 109 (0, 0)) ∧ w.heap[b]? = some (.cells (ms.map (Value.int .i64)).toArray 3 (0, 0))
theorem StoreIs.set {w : World} {g b : Nat} {ms : List Int} {hk : Value} (h : StoreIs w g b ms hk) (k : Nat) (n : Int) : StoreIs (w.setCell ⟨b, k, none⟩ (.int .i64 n)) g b (ms.set k n) hk := by
  obtain ⟨h1, h2, h3, h4⟩ := h
  refine ⟨h1, by simpa using h2, ?_, ?_⟩
  · rw [set_else h1, List.length_set]; exact h3
  · rw [set_at h4, List.setIfInBounds_toArray, List.map_set]
theorem StoreIs.same {w w' : World} {g b : Nat} {ms : List Int} {hk : Value} (h : StoreIs w g b ms hk) (hg : w'.heap[g]? = w.heap[g]?) (hb : w'.heap[b]? = w.heap[b]?) : StoreIs w' g b ms hk :=
  ⟨h.1, h.2.1, hg.trans h.2.2.1, hb.trans h.2.2.2⟩
theorem StoreIs.ltg {w : World} {g b : Nat} {ms : List Int} {hk : Value} (h : StoreIs w g b ms hk) : g < w.heap.size := lt_at h.2.2.1
theorem StoreIs.ltb {w : World} {g b : Nat} {ms : List Int} {hk : Value} (h : StoreIs w g b ms hk) : b < w.heap.size := lt_at h.2.2.2
theorem StoreIs.below {w w' : World} {g b : Nat} {ms : List Int} {hk : Value} (h : StoreIs w g b ms hk) (hb : Below w.heap.size w w') : StoreIs w' g b ms hk :=
  h.same (hb.block g h.ltg) (hb.block b h.ltb)
theorem StoreIs.alloc {w : World} {g b : Nat} {ms : List Int} {hk : Value} (h : StoreIs w g b ms hk) (o : Obj) : StoreIs (w.alloc o) g b ms hk :=
  h.same (Below.heap_alloc _ _ _ h.ltg) (Below.heap_alloc _ _ _ h.ltb)
theorem StoreIs.touch {S : Nat → Prop} {w w' : World} {g b : Nat} {ms : List Int} {hk : Value} (h : StoreIs w g b ms hk) (t : Touch S w w') (hg : ¬ S g) (hb : ¬ S b) : StoreIs w' g b ms hk :=
  h.same (t.block g h.ltg hg) (t.block b h.ltb hb)
theorem StoreIs.drewN {w : World} {g b : Nat} {ms : List Int} {hk : Value} (h : StoreIs w g b ms hk) (n : Nat) : StoreIs (w.drewN n) g b ms hk := h
theorem StoreIs.setCell {w : World} {g b : Nat} {ms : List Int} {hk : Value} (h : StoreIs w g b ms hk) {k i : Nat} (hg : g ≠ k) (hb : b ≠ k) (u : Value) : StoreIs (w.setCell ⟨k, i, none⟩ u) g b ms hk :=
  h.same (set_else hg i u) (set_else hb i u)
theorem StoreIs.word {w : World} {g b : Nat} {ms : List Int} {hk : Value} (h : StoreIs w g b ms hk) {k : Nat} (hl : k < ms.length) : w.cell? ⟨b, k, none⟩ = some (.int .i64 (ms.getD k 0)) := by
  rw [cell_at h.2.2.2]; simp [hl]
theorem StoreIs.free {w : World} {g b : Nat} {ms : List Int} {hk : Value} (h : StoreIs w g b ms hk) (k : Nat) : w.frozen? ⟨b, k, none⟩ = false := free_at h.2.2.2 k
theorem StoreIs.c0 {w : World} {g b : Nat} {ms : List Int} {hk : Value} (h : StoreIs w g b ms hk) : w.cell? ⟨g, 0, none⟩ = some (.slice (some ⟨b, 0, none⟩) ms.length ms.length) := by
  rw [cell_at h.2.2.1]; rfl
theorem StoreIs.c1 {w : World} {g b : Nat} {ms : List Int} {hk : Value} (h : StoreIs w g b ms hk) : w.cell? ⟨g, 1, none⟩ = some hk := by
  rw [cell_at h.2.2.1]; rfl
theorem StoreIs.src {w : World} {g b : Nat} {ms : List Int} {hk : Value} (h : StoreIs w g b ms hk) : Src w (some ⟨b, 0, none⟩) ms.length ms.length 1 (ms.map (Value.int .i64)) := by
  refine ⟨by simp, by simp, ?_⟩
  rintro ad had j u hu
  cases had
  have hj : j < ms.length := by have := (List.getElem?_eq_some_iff.1 hu).1; simpa using this
  rw [Addr.add_lit, Nat.zero_add, h.word hj]
  simp [hj] at hu ⊢; exact hu
set_option maxHeartbeats 1000000
set_option maxRecDepth 100000
theorem madeCells_one (v : Value) (m : Nat) : madeCells #[v] m = (List.replicate m v).toArray := by
  refine Array.ext (by simp [madeCells]) fun i h1 h2 => ?_
  simp [madeCells, Nat.mod_one]
/-- 'make([]T, n)' of one-celled elements. -/
theorem wpList_make_int {P : Program} (w : World) {ops : Array Oper} {rest : List Oper} {o : Oper} {a : Act} {Q : Exit → Act → World → Prop}
    (hg : o.guard = none) (l c : Operand) (t : TypeId) (hop : o.op = Op.makeSlice t l c)
    (e : TypeId) (i : TypeInfo) (z : Value) (bytes : Nat) (ht : P.underlying t = some (.slice e)) (hi : P.info? e = some i) (hz : i.zero = some z) (hsize : i.size = 1) (hbs : i.bytes = bytes) (hz1 : z.cells = #[z])
    (kl kc : IntKind) (n : Int) (hl : a.eval l = .int kl n) (hc : a.eval c = .int kc n) (h0 : 0 ≤ n) (h1 : n ≤ 4294967296) (hb : bytes ≤ 256)
    (hK : wpList P ops Q rest (a.put o.dst (.slice (some ⟨w.heap.size, 0, none⟩) n.toNat n.toNat)) (w.alloc (.cells (List.replicate n.toNat z).toArray e))) :
    wpList P ops Q (o :: rest) a w := by
  refine wpList_plain hg fun K hK' => ?_
  have hm : (i.bytes : Int) * n ≤ 281474976710656 := by
    rw [hbs]
    have := Int.mul_le_mul (a := (bytes : Int)) (b := n) (c := 256) (d := 4294967296) (by omega) h1 h0 (by omega)
    omega
  have hrun := run_make (P := P) w t e i z ht hi hz kl kc n n h0 (Int.le_refl _) hm (by omega)
  rw [hsize, Nat.mul_one, hz1, madeCells_one] at hrun
  unfold Oper.wp
  simp [execOp, hop, hl, hc, hrun, Result.andThen]
  exact hK' _ _ hK
theorem new_store (w : World) (cs : Array Value) (m : Nat) (M : Int) (hcs : cs = (List.replicate m (.int .i64 0)).toArray) (h : m = M.toNat) (h1 : m ≤ 1048576) : StoreIs ((w.alloc (.cells cs 3)).alloc (.cells #[.slice (some ⟨w.heap.size, 0, none⟩) m m, .nilFunc] 109)) (w.heap.size + 1) w.heap.size (List.replicate M.toNat 0) .nilFunc := by
  subst h hcs
  have e := alloc_new (w.alloc (.cells (List.replicate M.toNat (.int .i64 0)).toArray 3)) (.cells #[.slice (some ⟨w.heap.size, 0, none⟩) M.toNat M.toNat, .nilFunc] 109)
  rw [World.size_alloc] at e
  refine ⟨by omega, by simp; omega, by simpa using e, ?_⟩
  rw [alloc_at (alloc_new _ _)]
  simp
theorem new_any (n : Int) (w : World) : Calls Try.prog 46 #[.int .i64 n] w fun e w' => e = .returned (.pointer (some ⟨w.heap.size + 1, 0, none⟩)) ∧ StoreIs w' (w.heap.size + 1) w.heap.size (List.replicate (min (max n 0) 1048576).toNat 0) .nilFunc ∧ Below w.heap.size w w' := by
  obtain ⟨i0, hi, hz0, hz1', hz2'⟩ := info_parts' Try.infoIntS
  go_enter Try.func46, Try.ntmps46
  go_wp2_with (first | (refine wpList_make_int _ rfl _ _ 36 rfl 3 i0 (.int .i64 0) 8 Try.underlying36 hi hz0 hz1' hz2' rfl .i64 .i64 _ rfl rfl ?_ ?_ (by decide) ?_; all_goals (try omega)))
  all_goals go_ret
  all_goals exact ⟨rfl, new_store w _ _ _ (by first | rfl | (rw [List.toArray_replicate]) | simp) (by omega) (by omega), by go_grown⟩
theorem size_any {w : World} {g b : Nat} {ms : List Int} {hk : Value} (h : StoreIs w g b ms hk) : Calls Try.prog 86 #[.pointer (some ⟨g, 0, none⟩)] w fun e w' => e = .returned (.int .i64 ms.length) ∧ w = w' := by
  have c0 := h.c0
  clear h
  go_enter Try.func86, Try.ntmps86
  go_wp2
  go_ret
  exact ⟨rfl, rfl⟩
theorem size_none (w : World) : Calls Try.prog 86 #[.pointer none] w fun e w' => e = .returned (.int .i64 0) ∧ w = w' := by
  go_enter Try.func86, Try.ntmps86
  go_wp2
  go_ret
  exact ⟨rfl, rfl⟩
theorem nilHook : ∀ w, Sem.run Try.prog (binOp BinOp.neq 107 Value.nilFunc Value.nilFunc) w = .ok (.bool false) w := fun w => by kernel_rfl
theorem word_in {w : World} {g b : Nat} {ms : List Int} (h : StoreIs w g b ms .nilFunc) {k : Nat} (hl : k < ms.length) (wr : Bool) : Calls Try.prog 76 #[.pointer (some ⟨g, 0, none⟩), .int .i64 k, .bool wr] w fun e w' => e = .returned (.pointer (some ⟨b, k, none⟩)) ∧ w = w' := by
  have hs := Lib.hid (size_any h)
  have c0 := h.c0
  have c1 := h.c1
  have h2 := h.2.1
  clear h
  have g1 : decide ((k : Int) < 0) = false := by simp
  have g2 : decide ((ms.length : Int) ≤ (k : Int)) = false := by simp; omega
  have hrun := nilHook
  go_enter Try.func76, Try.ntmps76
  go_wp2_with (first | (go_at_call 86; refine hs.out.mono ?_; rintro e w1 ⟨rfl, rfl⟩))
  go_ret
  exact ⟨rfl, rfl⟩
theorem word_out {w : World} {g b : Nat} {ms : List Int} {hk : Value} (h : StoreIs w g b ms hk) {k : Int} (hl : k < 0 ∨ (ms.length : Int) ≤ k) (wr : Bool) : Calls Try.prog 76 #[.pointer (some ⟨g, 0, none⟩), .int .i64 k, .bool wr] w fun e w' => e = .returned (.pointer none) ∧ w = w' := by
  have hs := Lib.hid (size_any h)
  clear h
  rcases hl with hl | hl
  · have g1 : decide (k < 0) = true := by simp; omega
    go_enter Try.func76, Try.ntmps76
    go_wp2
    go_ret
    exact ⟨rfl, rfl⟩
  · have g1 : decide (k < 0) = false := by simp; omega
    have g2 : decide ((ms.length : Int) ≤ k) = true := by simp; omega
    go_enter Try.func76, Try.ntmps76
    go_wp2_with (first | (go_at_call 86; refine hs.out.mono ?_; rintro e w1 ⟨rfl, rfl⟩))
    go_ret
    exact ⟨rfl, rfl⟩
theorem load_in {w : World} {g b : Nat} {ms : List Int} (h : StoreIs w g b ms .nilFunc) {k : Nat} (hl : k < ms.length) : Calls Try.prog 54 #[.pointer (some ⟨g, 0, none⟩), .int .i64 k] w fun e w' => e = .returned (.tuple #[.int .i64 (ms.getD k 0), .bool true]) ∧ w = w' := by
  have hs := Lib.hid (word_in h hl false)
  have hw := h.word hl
  clear h
  generalize ms.getD k 0 = X at *
  go_enter Try.func54, Try.ntmps54
  go_wp2_with (first | (go_at_call 76; refine hs.out.mono ?_; rintro e w1 ⟨rfl, rfl⟩))
  go_ret2
  exact ⟨rfl, rfl⟩
theorem load_out {w : World} {g b : Nat} {ms : List Int} {hk : Value} (h : StoreIs w g b ms hk) {k : Int} (hl : k < 0 ∨ (ms.length : Int) ≤ k) : Calls Try.prog 54 #[.pointer (some ⟨g, 0, none⟩), .int .i64 k] w fun e w' => e = .returned (.tuple #[.int .i64 0, .bool false]) ∧ w = w' := by
  have hs := Lib.hid (word_out h hl false)
  clear h
  go_enter Try.func54, Try.ntmps54
  go_wp2_with (first | (go_at_call 76; refine hs.out.mono ?_; rintro e w1 ⟨rfl, rfl⟩))
  go_ret2
  exact ⟨rfl, rfl⟩
theorem store_in {w : World} {g b : Nat} {ms : List Int} (h : StoreIs w g b ms .nilFunc) {k : Nat} (hl : k < ms.length) (n : Int) : Calls Try.prog 51 #[.pointer (some ⟨g, 0, none⟩), .int .i64 k, .int .i64 n] w fun e w' => e = .returned (.bool true) ∧ w.setCell ⟨b, k, none⟩ (.int .i64 n) = w' := by
  have hs := Lib.hid (word_in h hl true)
  have hw := h.word hl
  have hf := h.free k
  clear h
  go_enter Try.func51, Try.ntmps51
  go_wp2_with (first | (go_at_call 76; refine hs.out.mono ?_; rintro e w1 ⟨rfl, rfl⟩))
  go_ret
  exact ⟨rfl, rfl⟩
theorem store_out {w : World} {g b : Nat} {ms : List Int} {hk : Value} (h : StoreIs w g b ms hk) {k : Int} (hl : k < 0 ∨ (ms.length : Int) ≤ k) (n : Int) : Calls Try.prog 51 #[.pointer (some ⟨g, 0, none⟩), .int .i64 k, .int .i64 n] w fun e w' => e = .returned (.bool false) ∧ w = w' := by
  have hs := Lib.hid (word_out h hl true)
  clear h
  go_enter Try.func51, Try.ntmps51
  go_wp2_with (first | (go_at_call 76; refine hs.out.mono ?_; rintro e w1 ⟨rfl, rfl⟩))
  go_ret
  exact ⟨rfl, rfl⟩
theorem add_in {w : World} {g b : Nat} {ms : List Int} (h : StoreIs w g b ms .nilFunc) {k : Nat} (hl : k < ms.length) (n : Int) : Calls Try.prog 55 #[.pointer (some ⟨g, 0, none⟩), .int .i64 k, .int .i64 n] w fun e w' => e = .returned (.tuple #[.int .i64 (ms.getD k 0), .bool true]) ∧ w.setCell ⟨b, k, none⟩ (.int .i64 (wrap64 (ms.getD k 0 + n))) = w' := by
  have hs := Lib.hid (word_in h hl true)
  have hw := h.word hl
  have hf := h.free k
  clear h
  generalize ms.getD k 0 = X at *
  go_enter Try.func55, Try.ntmps55
  go_wp2_with (first | (go_at_call 76; refine hs.out.mono ?_; rintro e w1 ⟨rfl, rfl⟩))
  go_ret2
  exact ⟨rfl, rfl⟩
theorem add_out {w : World} {g b : Nat} {ms : List Int} {hk : Value} (h : StoreIs w g b ms hk) {k : Int} (hl : k < 0 ∨ (ms.length : Int) ≤ k) (n : Int) : Calls Try.prog 55 #[.pointer (some ⟨g, 0, none⟩), .int .i64 k, .int .i64 n] w fun e w' => e = .returned (.tuple #[.int .i64 0, .bool false]) ∧ w = w' := by
  have hs := Lib.hid (word_out h hl true)
  clear h
  go_enter Try.func55, Try.ntmps55
  go_wp2_with (first | (go_at_call 76; refine hs.out.mono ?_; rintro e w1 ⟨rfl, rfl⟩))
  go_ret2
  exact ⟨rfl, rfl⟩
theorem swap_yes {w : World} {g b : Nat} {ms : List Int} (h : StoreIs w g b ms .nilFunc) {k : Nat} (hl : k < ms.length) (n : Int) : Calls Try.prog 56 #[.pointer (some ⟨g, 0, none⟩), .int .i64 k, .int .i64 (ms.getD k 0), .int .i64 n] w fun e w' => e = .returned (.tuple #[.int .i64 (ms.getD k 0), .bool true]) ∧ w.setCell ⟨b, k, none⟩ (.int .i64 n) = w' := by
  have hs := Lib.hid (word_in h hl true)
  have hw := h.word hl
  have hf := h.free k
  clear h
  generalize ms.getD k 0 = X at *
  go_enter Try.func56, Try.ntmps56
  go_wp2_with (first | (go_at_call 76; refine hs.out.mono ?_; rintro e w1 ⟨rfl, rfl⟩))
  go_ret2
  exact ⟨rfl, rfl⟩
theorem swap_no {w : World} {g b : Nat} {ms : List Int} (h : StoreIs w g b ms .nilFunc) {k : Nat} (hl : k < ms.length) (o n : Int) (hne : ms.getD k 0 ≠ o) : Calls Try.prog 56 #[.pointer (some ⟨g, 0, none⟩), .int .i64 k, .int .i64 o, .int .i64 n] w fun e w' => e = .returned (.tuple #[.int .i64 (ms.getD k 0), .bool true]) ∧ w = w' := by
  have hs := Lib.hid (word_in h hl true)
  have hw := h.word hl
  have hf := h.free k
  clear h
  generalize ms.getD k 0 = X at *
  have hq : (X == o) = false := by simp [hne]
  go_enter Try.func56, Try.ntmps56
  go_wp2_with (first | (go_at_call 76; refine hs.out.mono ?_; rintro e w1 ⟨rfl, rfl⟩))
  go_ret2
  exact ⟨rfl, rfl⟩
theorem swap_out {w : World} {g b : Nat} {ms : List Int} {hk : Value} (h : StoreIs w g b ms hk) {k : Int} (hl : k < 0 ∨ (ms.length : Int) ≤ k) (o n : Int) : Calls Try.prog 56 #[.pointer (some ⟨g, 0, none⟩), .int .i64 k, .int .i64 o, .int .i64 n] w fun e w' => e = .returned (.tuple #[.int .i64 0, .bool false]) ∧ w = w' := by
  have hs := Lib.hid (word_out h hl true)
  clear h
  go_enter Try.func56, Try.ntmps56
  go_wp2_with (first | (go_at_call 76; refine hs.out.mono ?_; rintro e w1 ⟨rfl, rfl⟩))
  go_ret2
  exact ⟨rfl, rfl⟩
theorem clone_any {ao : Option Addr} {cap : Nat} {zs : List Int} {w : World} (hsrc : Src w ao zs.length cap 1 (zs.map (.int .i64))) (hl : zs.length ≤ 1048576) : Calls Try.prog 57 #[.slice ao zs.length cap] w fun e w' => ∃ ao' cap', e = .returned (.slice ao' zs.length cap') ∧ Row w' 3 1 (.slice ao' zs.length cap') zs.length (zs.map (.int .i64)) ∧ (∀ k, Value.ownBlock (.slice ao' zs.length cap') = some k → w.heap.size ≤ k) ∧ Below w.heap.size w w' := by
  obtain ⟨i0, hi, hz0, hz1', hz2'⟩ := info_parts' Try.infoIntS
  have hnil := fun (w : World) (a : Option Addr) (n c n' c' : Nat) => Lib.run_eql_slice_nil (P := Try.prog) w 36 3 a n c n' c' Try.underlying36
  cases ao with
  | none =>
    obtain ⟨h0, h1⟩ := hsrc.2.1 rfl
    have hn : zs = [] := List.eq_nil_of_length_eq_zero h0
    subst hn h1
    clear hsrc
    go_enter Try.func57, Try.ntmps57
    go_wp2
    go_ret
    exact ⟨none, 0, rfl, Row.nil _ _ _, by simp [Value.ownBlock], by go_grown⟩
  | some ad =>
    go_enter Try.func57, Try.ntmps57
    go_wp2_with (at_builtin; go_must (refine wpList_append_copy _ rfl _ _ 36 rfl 3 i0 (.int .i64 0) 1 8 Try.underlying36 hi hz0 hz1' hz2' rfl (by decide) rfl (some ad) zs.length cap (zs.map (Value.int .i64)) rfl hsrc (by simp [Value.oneCell']) (by unfold maxLen; omega) (by omega) ?_); intro ao2 cap2 w2 hrow hb2 hf2)
    go_ret
    exact ⟨ao2, cap2, rfl, hrow, hf2, hb2⟩
theorem all_any {w : World} {g b : Nat} {ms : List Int} {hk : Value} (h : StoreIs w g b ms hk) : Calls Try.prog 13 #[.pointer (some ⟨g, 0, none⟩)] w fun e w' => ∃ ao' cap', e = .returned (.slice ao' ms.length cap') ∧ Row w' 3 1 (.slice ao' ms.length cap') ms.length (ms.map (.int .i64)) ∧ (∀ k, Value.ownBlock (.slice ao' ms.length cap') = some k → w.heap.size ≤ k) ∧ Below w.heap.size w w' := by
  have c0 := h.c0
  have hsrc := h.src
  have hl := h.2.1
  clear h
  go_enter Try.func13, Try.ntmps13
  go_wp2_with (first | (go_at_call 57; refine (clone_any hsrc hl).mono ?_; rintro e w1 ⟨ao2, cap2, rfl, hrow, hf2, hb2⟩))
  go_ret
  exact ⟨ao2, cap2, rfl, hrow, hf2, hb2⟩
end
section
open Go.RowKit
def storeA (g b : Nat) (ms : List Int) : Ast where
  F k := k = g ∨ k = b
  hold w := StoreIs w g b ms .nilFunc
  loc h hb := h.same (hb g (.inl rfl)) (hb b (.inr rfl))
  lt h k hk := by
    rcases hk with rfl | rfl
    · exact h.ltg
    · exact h.ltb
set_option maxHeartbeats 1000000
set_option maxRecDepth 100000
theorem st_moves {w : World} {g b : Nat} {ms ms' : List Int} (h : StoreIs w g b ms .nilFunc) {k : Nat} {n : Int} (e : ms.set k n = ms') : Moves (storeA g b ms) (storeA g b ms') w (w.setCell ⟨b, k, none⟩ (.int .i64 n)) := by
  subst e
  exact ⟨h.set k n, (Touch.refl _ _).setCell (.inr (.inr rfl)) _, fun k hk => .inl hk⟩
theorem Own.st {w0 w : World} {l : List Ast} (h : Own w0 w l) (i : Nat) {g b : Nat} {ms : List Int} (hi : l[i]? = some (storeA g b ms)) : StoreIs w g b ms .nilFunc := h.at i hi
theorem own_new {w0 w : World} {l : List Ast} (h : Own w0 w l) (n : Int) (ms : List Int) (hms : List.replicate (min (max n 0) 1048576).toNat 0 = ms) : Calls Try.prog 46 #[.int .i64 n] w fun e w' => e = .returned (.pointer (some ⟨w.heap.size + 1, 0, none⟩)) ∧ Own w0 w' (l ++ [storeA (w.heap.size + 1) w.heap.size ms]) := by
  subst hms
  refine (new_any n w).mono ?_
  rintro e w' ⟨rfl, hs, hb⟩
  exact ⟨rfl, h.push hb (storeA _ _ _) hs fun k hk => by rcases hk with rfl | rfl <;> omega⟩
theorem own_load {w0 w : World} {l : List Ast} (h : Own w0 w l) (i : Nat) {g b : Nat} {ms : List Int} (hi : l[i]? = some (storeA g b ms)) {k : Nat} (hl : k < ms.length) (x : Int) (hx : ms.getD k 0 = x) : Calls Try.prog 54 #[.pointer (some ⟨g, 0, none⟩), .int .i64 k] w fun e w' => e = .returned (.tuple #[.int .i64 x, .bool true]) ∧ w = w' := by
  subst hx; exact load_in (h.st i hi) hl
theorem own_store {w0 w : World} {l : List Ast} (h : Own w0 w l) (i : Nat) {g b : Nat} {ms : List Int} (hi : l[i]? = some (storeA g b ms)) {k : Nat} (hl : k < ms.length) (n : Int) (ms' : List Int) (hm : ms.set k n = ms') : Calls Try.prog 51 #[.pointer (some ⟨g, 0, none⟩), .int .i64 k, .int .i64 n] w fun e w' => e = .returned (.bool true) ∧ Own w0 w' (l.set i (storeA g b ms')) := by
  refine (store_in (h.st i hi) hl n).mono ?_
  rintro e w' ⟨rfl, rfl⟩
  exact ⟨rfl, h.move i hi (st_moves (h.st i hi) hm)⟩
theorem own_add {w0 w : World} {l : List Ast} (h : Own w0 w l) (i : Nat) {g b : Nat} {ms : List Int} (hi : l[i]? = some (storeA g b ms)) {k : Nat} (hl : k < ms.length) (n x : Int) (hx : ms.getD k 0 = x) (ms' : List Int) (hm : ms.set k (wrap64 (x + n)) = ms') : Calls Try.prog 55 #[.pointer (some ⟨g, 0, none⟩), .int .i64 k, .int .i64 n] w fun e w' => e = .returned (.tuple #[.int .i64 x, .bool true]) ∧ Own w0 w' (l.set i (storeA g b ms')) := by
  subst hx
  refine (add_in (h.st i hi) hl n).mono ?_
  rintro e w' ⟨rfl, rfl⟩
  exact ⟨rfl, h.move i hi (st_moves (h.st i hi) hm)⟩
theorem own_all {w0 w : World} {l : List Ast} (h : Own w0 w l) (i : Nat) {g b : Nat} {ms : List Int} (hi : l[i]? = some (storeA g b ms)) : Calls Try.prog 13 #[.pointer (some ⟨g, 0, none⟩)] w fun e w' => ∃ ao cap, e = .returned (.slice ao ms.length cap) ∧ Own w0 w' l ∧ Lies w' ao cap ms ∧ Row w' 3 1 (.slice ao ms.length cap) ms.length (ms.map (.int .i64)) ∧ (∀ k, Value.ownBlock (.slice ao ms.length cap) = some k → w.heap.size ≤ k) ∧ Below w.heap.size w w' := by
  refine (all_any (h.st i hi)).mono ?_
  rintro e w' ⟨ao, cap, rfl, hr, hf, hb⟩
  exact ⟨ao, cap, rfl, h.grow hb, Lies.of_row hr rfl, hr, hf, hb⟩
end
section
open Go.RowKit
/-- The words, of which the first k ones are filled where it is told so. -/
def fillL (ms : List Int) (A M n : Int) (k : Nat) : List Int := ms.mapIdx fun i x => if i < k ∧ 0 ≤ A ∧ A ≤ i ∧ (i : Int) - A < M then n else x
theorem fillL_length (ms : List Int) (A M n : Int) (k : Nat) : (fillL ms A M n k).length = ms.length := by simp [fillL]
theorem fillL_zero (ms : List Int) (A M n : Int) : fillL ms A M n 0 = ms := by
  refine List.ext_getElem? fun i => ?_
  simp [fillL, List.getElem?_mapIdx]
theorem fillL_get (ms : List Int) (A M n : Int) (k i : Nat) (h : i < ms.length) : (fillL ms A M n k)[i]? = some (if i < k ∧ 0 ≤ A ∧ A ≤ i ∧ (i : Int) - A < M then n else ms[i]) := by
  simp [fillL, List.getElem?_mapIdx, List.getElem?_eq_getElem h]
theorem fillL_yes {ms : List Int} {A M n : Int} {k : Nat} (hk : k < ms.length) (h : 0 ≤ A ∧ A ≤ k ∧ (k : Int) - A < M) : (fillL ms A M n k).set k n = fillL ms A M n (k + 1) := by
  refine List.ext_getElem? fun i => ?_
  by_cases hi : i < ms.length
  · by_cases hik : k = i
    · subst hik
      rw [List.getElem?_set_self (by rw [fillL_length]; exact hk), fillL_get _ _ _ _ _ _ hi, if_pos (by omega)]
    · rw [List.getElem?_set_ne hik, fillL_get _ _ _ _ _ _ hi, fillL_get _ _ _ _ _ _ hi]
      congr 1
      by_cases hc : i < k ∧ 0 ≤ A ∧ A ≤ i ∧ (i : Int) - A < M
      · rw [if_pos hc, if_pos (by omega)]
      · rw [if_neg hc, if_neg (by omega)]
  · rw [List.getElem?_eq_none (by rw [List.length_set, fillL_length]; omega), List.getElem?_eq_none (by rw [fillL_length]; omega)]
theorem fillL_no {ms : List Int} {A M n : Int} {k : Nat} (h : ¬ (0 ≤ A ∧ A ≤ k ∧ (k : Int) - A < M)) : fillL ms A M n k = fillL ms A M n (k + 1) := by
  refine List.ext_getElem? fun i => ?_
  by_cases hi : i < ms.length
  · rw [fillL_get _ _ _ _ _ _ hi, fillL_get _ _ _ _ _ _ hi]
    congr 1
    by_cases hc : i < k ∧ 0 ≤ A ∧ A ≤ i ∧ (i : Int) - A < M
    · rw [if_pos hc, if_pos (by omega)]
    · by_cases hik : i = k
      · subst hik
        rw [if_neg hc, if_neg (by omega)]
      · rw [if_neg hc, if_neg (by omega)]
  · rw [List.getElem?_eq_none (by rw [fillL_length]; omega), List.getElem?_eq_none (by rw [fillL_length]; omega)]
set_option maxHeartbeats 2000000
set_option maxRecDepth 100000
theorem fill_core {w : World} {g b : Nat} {ms : List Int} {hk : Value} (h : StoreIs w g b ms hk) (at_ many n A M : Int) (h0 : -9223372036854775808 ≤ at_ ∧ at_ ≤ 9223372036854775807) (h1 : -9223372036854775808 ≤ many ∧ many ≤ 9223372036854775807)
    (hc : (at_ < 0 ∧ 0 < many ∧ A = 0 ∧ M = many + at_) ∨ (¬ at_ < 0 ∧ A = at_ ∧ M = many) ∨ (at_ < 0 ∧ ¬ 0 < many ∧ A = at_ ∧ M = many)) :
    Calls Try.prog 79 #[.pointer (some ⟨g, 0, none⟩), .int .i64 at_, .int .i64 many, .int .i64 n] w fun e w' => e = .returned (.tuple #[]) ∧ StoreIs w' g b (fillL ms A M n ms.length) hk ∧ Touch (fun k => k = b) w w' := by
  have hl := h.2.1
  have hs := Lib.hid (size_any h)
  have hz := Lib.hid (fillL_zero ms A M n)
  have hlen := Lib.hid (fun k => fillL_length ms A M n k)
  have hb : -9223372036854775808 ≤ M ∧ M ≤ 9223372036854775807 := by omega
  have hA : (at_ < 0 ∧ 0 < many ∧ Hid (A = 0) ∧ Hid (M = many + at_)) ∨ (¬ at_ < 0 ∧ Hid (A = at_) ∧ Hid (M = many)) ∨ (at_ < 0 ∧ ¬ 0 < many ∧ Hid (A = at_) ∧ Hid (M = many)) := by
    rcases hc with ⟨c1, c2, c3, c4⟩ | ⟨c1, c3, c4⟩ | ⟨c1, c2, c3, c4⟩
    · exact .inl ⟨c1, c2, Lib.hid c3, Lib.hid c4⟩
    · exact .inr (.inl ⟨c1, Lib.hid c3, Lib.hid c4⟩)
    · exact .inr (.inr ⟨c1, c2, Lib.hid c3, Lib.hid c4⟩)
  have hAb : A ≤ 9223372036854775807 := by omega
  clear hc
  rcases hA with ⟨c1, c2, c3, c4⟩ | ⟨c1, c3, c4⟩ | ⟨c1, c2, c3, c4⟩
  · have e1 := c3.out
    subst e1
    clear c3
    go_enter Try.func79, Try.ntmps79
    go_wp2_with (go_at_call 86; refine hs.out.mono ?_; rintro e w1 ⟨rfl, rfl⟩)
    rw [← c4.out]
    clear c4
    go_loopw [20] (fun i wr => ∃ k : Nat, k ≤ ms.length ∧ i = .int .i64 k ∧ StoreIs wr g b (fillL ms (0 : Int) M n k) hk ∧ Touch (fun k => k = b) w wr) (fun i _ => (ms.length - intOf i).toNat)
    case atStart => exact ⟨0, by omega, rfl, by rw [hz.out]; exact h, Touch.refl _ _⟩
    case round =>
      obtain ⟨k, hkl, rfl, hS, hT⟩ := hrel
      by_cases hlt : k < ms.length
      · by_cases h2 : 0 ≤ (0 : Int)
        · have d1 : decide ((0 : Int) ≤ (0 : Int)) = true := by simp [h2]
          by_cases h3 : (0 : Int) ≤ k
          · have d2 : decide ((0 : Int) ≤ (k : Int)) = true := by simp [h3]
            by_cases h4 : (k : Int) - (0 : Int) < M
            · have d3 : decide ((k : Int) < M) = true := by simp; omega
              have x0 := hS.word (k := k) (by rw [hlen.out k]; exact hlt)
              have x1 := hS.free k
              have x2 := hS.c0
              rw [hlen.out k] at x2
              have hy := Lib.hid (fillL_yes (n := n) hlt ⟨h2, h3, h4⟩)
              generalize (fillL ms (0 : Int) M n k).getD k 0 = X at *
              go_wp2_with fail
              go_roundw
              case rel => exact ⟨k + 1, by omega, by go_num, by rw [← hy.out]; exact hS.set k n, hT.setCell (.inr rfl) _⟩
              case measure => simp [intOf]; omega
            · have d3 : decide ((k : Int) < M) = false := by simp; omega
              have hy := Lib.hid (fillL_no (ms := ms) (A := 0) (M := M) (n := n) (k := k) (fun hh => h4 hh.2.2))
              go_wp2_with fail
              go_roundw
              case rel => exact ⟨k + 1, by omega, by go_num, by rw [← hy.out]; exact hS, hT⟩
              case measure => simp [intOf]; omega
          · have d2 : decide ((0 : Int) ≤ (k : Int)) = false := by simp; omega
            have hy := Lib.hid (fillL_no (ms := ms) (A := 0) (M := M) (n := n) (k := k) (fun hh => h3 hh.2.1))
            go_wp2_with fail
            go_roundw
            case rel => exact ⟨k + 1, by omega, by go_num, by rw [← hy.out]; exact hS, hT⟩
            case measure => simp [intOf]; omega
        · exfalso; omega
      · obtain rfl : k = ms.length := by omega
        go_wp2_with fail
        go_end0
        exact ⟨rfl, hS, hT⟩
  · have e1 := c3.out
    have e2 := c4.out
    subst e1 e2
    clear c3 c4
    go_enter Try.func79, Try.ntmps79
    go_wp2_with (go_at_call 86; refine hs.out.mono ?_; rintro e w1 ⟨rfl, rfl⟩)
    go_loopw [20] (fun i wr => ∃ k : Nat, k ≤ ms.length ∧ i = .int .i64 k ∧ StoreIs wr g b (fillL ms A M n k) hk ∧ Touch (fun k => k = b) w wr) (fun i _ => (ms.length - intOf i).toNat)
    case atStart => exact ⟨0, by omega, rfl, by rw [hz.out]; exact h, Touch.refl _ _⟩
    case round =>
      obtain ⟨k, hkl, rfl, hS, hT⟩ := hrel
      by_cases hlt : k < ms.length
      · by_cases h2 : 0 ≤ A
        · have d1 : decide ((0 : Int) ≤ A) = true := by simp [h2]
          by_cases h3 : A ≤ k
          · have d2 : decide (A ≤ (k : Int)) = true := by simp [h3]
            by_cases h4 : (k : Int) - A < M
            · have d3 : decide ((k : Int) - A < M) = true := by simp [h4]
              have x0 := hS.word (k := k) (by rw [hlen.out k]; exact hlt)
              have x1 := hS.free k
              have x2 := hS.c0
              rw [hlen.out k] at x2
              have hy := Lib.hid (fillL_yes (n := n) hlt ⟨h2, h3, h4⟩)
              generalize (fillL ms A M n k).getD k 0 = X at *
              go_wp2_with fail
              go_roundw
              case rel => exact ⟨k + 1, by omega, by go_num, by rw [← hy.out]; exact hS.set k n, hT.setCell (.inr rfl) _⟩
              case measure => simp [intOf]; omega
            · have d3 : decide ((k : Int) - A < M) = false := by simp; omega
              have hy := Lib.hid (fillL_no (ms := ms) (A := A) (M := M) (n := n) (k := k) (fun hh => h4 hh.2.2))
              go_wp2_with fail
              go_roundw
              case rel => exact ⟨k + 1, by omega, by go_num, by rw [← hy.out]; exact hS, hT⟩
              case measure => simp [intOf]; omega
          · have d2 : decide (A ≤ (k : Int)) = false := by simp; omega
            have hy := Lib.hid (fillL_no (ms := ms) (A := A) (M := M) (n := n) (k := k) (fun hh => h3 hh.2.1))
            go_wp2_with fail
            go_roundw
            case rel => exact ⟨k + 1, by omega, by go_num, by rw [← hy.out]; exact hS, hT⟩
            case measure => simp [intOf]; omega
        · exfalso; omega
      · obtain rfl : k = ms.length := by omega
        go_wp2_with fail
        go_end0
        exact ⟨rfl, hS, hT⟩
  · have e1 := c3.out
    have e2 := c4.out
    subst e1 e2
    clear c3 c4
    go_enter Try.func79, Try.ntmps79
    go_wp2_with (go_at_call 86; refine hs.out.mono ?_; rintro e w1 ⟨rfl, rfl⟩)
    go_loopw [20] (fun i wr => ∃ k : Nat, k ≤ ms.length ∧ i = .int .i64 k ∧ StoreIs wr g b (fillL ms A M n k) hk ∧ Touch (fun k => k = b) w wr) (fun i _ => (ms.length - intOf i).toNat)
    case atStart => exact ⟨0, by omega, rfl, by rw [hz.out]; exact h, Touch.refl _ _⟩
    case round =>
      obtain ⟨k, hkl, rfl, hS, hT⟩ := hrel
      by_cases hlt : k < ms.length
      · by_cases h2 : 0 ≤ A
        · exfalso; omega
        · have d1 : decide ((0 : Int) ≤ A) = false := by simp; omega
          have hy := Lib.hid (fillL_no (ms := ms) (A := A) (M := M) (n := n) (k := k) (fun hh => h2 hh.1))
          go_wp2_with fail
          go_roundw
          case rel => exact ⟨k + 1, by omega, by go_num, by rw [← hy.out]; exact hS, hT⟩
          case measure => simp [intOf]; omega
      · obtain rfl : k = ms.length := by omega
        go_wp2_with fail
        go_end0
        exact ⟨rfl, hS, hT⟩
end
section
open Go.RowKit
set_option maxHeartbeats 1000000
set_option maxRecDepth 100000
/-- A number, or the nearer end. -/
def clamp (n a b : Int) : Int := min (max n a) b
theorem between_any (n a b : Int) (w : World) : Calls Try.prog 64 #[.int .i64 n, .int .i64 a, .int .i64 b] w fun e w' => e = .returned (.int .i64 (clamp n a b)) ∧ w = w' := by
  go_enter Try.func64, Try.ntmps64
  go_wp2
  all_goals go_ret
  all_goals exact ⟨ret_int (by unfold clamp; omega), rfl⟩
/-- May a plan be? -/
def okPlan (a b c d : Int) : Bool := decide (1 ≤ a ∧ a ≤ 64 ∧ 1 ≤ b ∧ b ≤ 256 ∧ 1 ≤ c ∧ c ≤ 64 ∧ 2 ≤ d ∧ d ≤ 256)
def checkOf (a b c d : Int) : Int := if okPlan a b c d = true then 0 else 3
theorem check_core (a b c d A B C D : Int) (w : World) (hA : clamp a 1 64 = A) (hB : clamp b 1 256 = B) (hC : clamp c 1 64 = C) (hD : clamp d 2 256 = D) :
    Calls Try.prog 61 #[.agg #[.int .i64 a, .int .i64 b, .int .i64 c, .int .i64 d]] w fun e w' => e = .returned (.int .i64 (checkOf a b c d)) ∧ Below w.heap.size w w' := by
  have h1 := fun w => between_any a 1 64 w
  have h2 := fun w => between_any b 1 256 w
  have h3 := fun w => between_any c 1 64 w
  have h4 := fun w => between_any d 2 256 w
  rw [hA] at h1; rw [hB] at h2; rw [hC] at h3; rw [hD] at h4
  have H1 := Lib.hid h1
  have H2 := Lib.hid h2
  have H3 := Lib.hid h3
  have H4 := Lib.hid h4
  obtain ⟨R, hR⟩ : ∃ R, checkOf a b c d = R := ⟨_, rfl⟩
  rw [hR]
  have hres : Hid ((a = A ∧ b = B ∧ c = C ∧ d = D → R = 0) ∧ (¬ (a = A ∧ b = B ∧ c = C ∧ d = D) → R = 3)) := by
    refine Lib.hid ?_
    rw [← hR]
    unfold clamp at *
    constructor
    · intro h; unfold checkOf; rw [if_pos]; unfold okPlan; simp; omega
    · intro h; unfold checkOf; rw [if_neg]; unfold okPlan; simp; omega
  clear h1 h2 h3 h4 hA hB hC hD hR
  go_enter Try.func61, Try.ntmps61
  go_wp2_with fail
  go_region_held3 (fun w' => w'.cell? ⟨w.heap.size, 0, none⟩ = some (.int .i64 a) ∧ w'.cell? ⟨w.heap.size, 1, none⟩ = some (.int .i64 b) ∧ w'.cell? ⟨w.heap.size, 2, none⟩ = some (.int .i64 c) ∧ w'.cell? ⟨w.heap.size, 3, none⟩ = some (.int .i64 d)) (go_keep)
    (first | (go_at_call 64; (with_reducible refine (H1.out _).mono ?_); rintro e w' ⟨rfl, rfl⟩) | (go_at_call 64; (with_reducible refine (H2.out _).mono ?_); rintro e w' ⟨rfl, rfl⟩) | (go_at_call 64; (with_reducible refine (H3.out _).mono ?_); rintro e w' ⟨rfl, rfl⟩) | (go_at_call 64; (with_reducible refine (H4.out _).mono ?_); rintro e w' ⟨rfl, rfl⟩))
  all_goals (rename_i hS; clear hS)
  all_goals go_wp2
  all_goals go_ret
  all_goals have q := hres.out
  all_goals exact ⟨ret_int (by omega), by go_grown⟩
theorem check_any (a b c d : Int) (w : World) : Calls Try.prog 61 #[.agg #[.int .i64 a, .int .i64 b, .int .i64 c, .int .i64 d]] w fun e w' => e = .returned (.int .i64 (checkOf a b c d)) ∧ Below w.heap.size w w' :=
  check_core a b c d _ _ _ _ w rfl rfl rfl rfl
def wideV (d : Int) : Int := 4 + d
def roomV (c : Int) : Int := 2 + 4 * (c + 1)
def sizeV (a b c d : Int) : Int := a * wideV d + b * roomV c
def frameV (a b c d id : Int) : Int := a * wideV d + (clamp id 1 b - 1) * roomV c
theorem ok_bd {a b c d : Int} (h : okPlan a b c d = true) : 1 ≤ a ∧ a ≤ 64 ∧ 1 ≤ b ∧ b ≤ 256 ∧ 1 ≤ c ∧ c ≤ 64 ∧ 2 ≤ d ∧ d ≤ 256 := by
  unfold okPlan at h; exact of_decide_eq_true h
theorem wideV_bd {a b c d : Int} (h : okPlan a b c d = true) : 6 ≤ wideV d ∧ wideV d ≤ 260 := by
  have := ok_bd h; unfold wideV; omega
theorem roomV_bd {a b c d : Int} (h : okPlan a b c d = true) : 10 ≤ roomV c ∧ roomV c ≤ 262 := by
  have := ok_bd h; unfold roomV; omega
theorem mul_bd {x y X Y : Int} (h0 : 0 ≤ x) (h1 : x ≤ X) (h2 : 0 ≤ y) (h3 : y ≤ Y) : 0 ≤ x * y ∧ x * y ≤ X * Y :=
  ⟨Int.mul_nonneg h0 h2, Int.mul_le_mul h1 h3 h2 (by omega)⟩
theorem sizeV_bd {a b c d : Int} (h : okPlan a b c d = true) : 0 ≤ a * wideV d ∧ a * wideV d ≤ 16640 ∧ 0 ≤ b * roomV c ∧ b * roomV c ≤ 67072 := by
  have h0 := ok_bd h
  have h1 := wideV_bd h
  have h2 := roomV_bd h
  have m1 := mul_bd (x := a) (X := 64) (y := wideV d) (Y := 260) (by omega) (by omega) (by omega) (by omega)
  have m2 := mul_bd (x := b) (X := 256) (y := roomV c) (Y := 262) (by omega) (by omega) (by omega) (by omega)
  omega
theorem frameV_bd {a b c d : Int} (h : okPlan a b c d = true) (id : Int) : 1 ≤ clamp id 1 b ∧ clamp id 1 b ≤ b ∧ 0 ≤ (clamp id 1 b - 1) * roomV c ∧ (clamp id 1 b - 1) * roomV c ≤ 67072 ∧ 0 ≤ frameV a b c d id ∧ frameV a b c d id ≤ 83712 := by
  have h0 := ok_bd h
  have h2 := roomV_bd h
  have h3 := sizeV_bd h
  have h4 : 1 ≤ clamp id 1 b ∧ clamp id 1 b ≤ b := by unfold clamp; omega
  have m1 := mul_bd (x := clamp id 1 b - 1) (X := 256) (y := roomV c) (Y := 262) (by omega) (by omega) (by omega) (by omega)
  unfold frameV
  omega
theorem bad_ok {a b c d : Int} (h : okPlan a b c d = true) (w : World) : Calls Try.prog 62 #[.agg #[.int .i64 a, .int .i64 b, .int .i64 c, .int .i64 d]] w fun e w' => e = .returned (.bool false) ∧ Below w.heap.size w w' := by
  have h1 := fun w => check_any a b c d w
  rw [show checkOf a b c d = 0 by unfold checkOf; rw [if_pos h]] at h1
  have H1 := Lib.hid h1
  clear h1 h
  go_enter Try.func62, Try.ntmps62
  go_wp2_with (first | (go_at_call 61; refine (H1.out _).mono ?_; rintro e w1 ⟨rfl, hb1⟩; have hk1 := cell_old hb1; have hz1 := hb1.size))
  go_ret
  exact ⟨rfl, below_chain (by go_grown) hb1⟩
theorem wide_any (a b c d : Int) (h0 : 0 ≤ d) (h1 : d ≤ 1000000) (w : World) : Calls Try.prog 63 #[.agg #[.int .i64 a, .int .i64 b, .int .i64 c, .int .i64 d]] w fun e w' => e = .returned (.int .i64 (wideV d)) ∧ Below w.heap.size w w' := by
  go_enter Try.func63, Try.ntmps63
  go_wp2
  go_ret
  exact ⟨ret_int (by unfold wideV; omega), by go_grown⟩
theorem room_ok {a b c d : Int} (h : okPlan a b c d = true) (w : World) : Calls Try.prog 65 #[.agg #[.int .i64 a, .int .i64 b, .int .i64 c, .int .i64 d]] w fun e w' => e = .returned (.int .i64 (roomV c)) ∧ Below w.heap.size w w' := by
  have H1 := Lib.hid (fun w => bad_ok h w)
  obtain ⟨b1, b2, b3, b4, b5, b6, b7, b8⟩ := ok_bd h
  clear h
  go_enter Try.func65, Try.ntmps65
  go_wp2_with (first | (go_at_call 62; refine (H1.out _).mono ?_; rintro e w1 ⟨rfl, hb1⟩; have hk1 := cell_old hb1; have hz1 := hb1.size))
  go_ret
  exact ⟨ret_int (by unfold roomV; omega), below_chain (by go_grown) hb1⟩
theorem box_keep {w w1 w' : World} {a b c d : Int} (h : w1.cell? ⟨w.heap.size, 0, none⟩ = some (.int .i64 a) ∧ w1.cell? ⟨w.heap.size, 1, none⟩ = some (.int .i64 b) ∧ w1.cell? ⟨w.heap.size, 2, none⟩ = some (.int .i64 c) ∧ w1.cell? ⟨w.heap.size, 3, none⟩ = some (.int .i64 d) ∧ Below w.heap.size w w1) (hb : Below w1.heap.size w1 w') : w'.cell? ⟨w.heap.size, 0, none⟩ = some (.int .i64 a) ∧ w'.cell? ⟨w.heap.size, 1, none⟩ = some (.int .i64 b) ∧ w'.cell? ⟨w.heap.size, 2, none⟩ = some (.int .i64 c) ∧ w'.cell? ⟨w.heap.size, 3, none⟩ = some (.int .i64 d) ∧ Below w.heap.size w w' := by
  obtain ⟨h0, h1, h2, h3, h4⟩ := h
  have hk := cell_old hb
  exact ⟨by rw [hk _ (by rw [h0]; rfl), h0], by rw [hk _ (by rw [h1]; rfl), h1], by rw [hk _ (by rw [h2]; rfl), h2], by rw [hk _ (by rw [h3]; rfl), h3], below_chain h4 hb⟩
theorem box_new {w w1 : World} {a b c d : Int} {t : TypeId} (hb : Below (w.alloc (.cells #[.int .i64 a, .int .i64 b, .int .i64 c, .int .i64 d] t)).heap.size (w.alloc (.cells #[.int .i64 a, .int .i64 b, .int .i64 c, .int .i64 d] t)) w1) : w1.cell? ⟨w.heap.size, 0, none⟩ = some (.int .i64 a) ∧ w1.cell? ⟨w.heap.size, 1, none⟩ = some (.int .i64 b) ∧ w1.cell? ⟨w.heap.size, 2, none⟩ = some (.int .i64 c) ∧ w1.cell? ⟨w.heap.size, 3, none⟩ = some (.int .i64 d) ∧ Below w.heap.size w w1 :=
  box_keep (w1 := w.alloc (.cells #[.int .i64 a, .int .i64 b, .int .i64 c, .int .i64 d] t)) ⟨cell_alloc_at .., cell_alloc_at .., cell_alloc_at .., cell_alloc_at .., by go_grown⟩ hb
theorem box_drew {w w1 : World} {a b c d : Int} (h : w1.cell? ⟨w.heap.size, 0, none⟩ = some (.int .i64 a) ∧ w1.cell? ⟨w.heap.size, 1, none⟩ = some (.int .i64 b) ∧ w1.cell? ⟨w.heap.size, 2, none⟩ = some (.int .i64 c) ∧ w1.cell? ⟨w.heap.size, 3, none⟩ = some (.int .i64 d) ∧ Below w.heap.size w w1) : w1.drew.cell? ⟨w.heap.size, 0, none⟩ = some (.int .i64 a) ∧ w1.drew.cell? ⟨w.heap.size, 1, none⟩ = some (.int .i64 b) ∧ w1.drew.cell? ⟨w.heap.size, 2, none⟩ = some (.int .i64 c) ∧ w1.drew.cell? ⟨w.heap.size, 3, none⟩ = some (.int .i64 d) ∧ Below w.heap.size w w1.drew := ⟨h.1, h.2.1, h.2.2.1, h.2.2.2.1, h.2.2.2.2.drew⟩
theorem size_ok {a b c d : Int} (h : okPlan a b c d = true) (w : World) : Calls Try.prog 32 #[.agg #[.int .i64 a, .int .i64 b, .int .i64 c, .int .i64 d]] w fun e w' => e = .returned (.int .i64 (sizeV a b c d)) ∧ Below w.heap.size w w' := by
  obtain ⟨b1, b2, b3, b4, b5, b6, b7, b8⟩ := ok_bd h
  have H1 := Lib.hid (fun w => bad_ok h w)
  have H2 := Lib.hid (fun w => wide_any a b c d (by omega) (by omega) w)
  have H3 := Lib.hid (fun w => room_ok h w)
  obtain ⟨s1, s2, s3, s4⟩ := sizeV_bd h
  unfold sizeV
  generalize wideV d = W at *
  generalize roomV c = R at *
  have q1 : IntKind.i64.wrap (a * W) = a * W := IntWalk.i64_in _ (by omega)
  have q2 : IntKind.i64.wrap (b * R) = b * R := IntWalk.i64_in _ (by omega)
  have q3 : IntKind.i64.wrap (a * W + b * R) = a * W + b * R := IntWalk.i64_in _ (by omega)
  clear h s1 s2 s3 s4
  go_enter Try.func32, Try.ntmps32
  go_wp2_with (first | (go_at_call 62; refine (H1.out _).mono ?_; rintro e w1 ⟨rfl, hb1⟩; have hk1 := cell_old hb1; have hz1 := hb1.size))
  have hS0 := box_new hb1
  clear hk1 hz1 hb1
  go_region_held3 (fun w' => w'.cell? ⟨w.heap.size, 0, none⟩ = some (.int .i64 a) ∧ w'.cell? ⟨w.heap.size, 1, none⟩ = some (.int .i64 b) ∧ w'.cell? ⟨w.heap.size, 2, none⟩ = some (.int .i64 c) ∧ w'.cell? ⟨w.heap.size, 3, none⟩ = some (.int .i64 d) ∧ Below w.heap.size w w') (first | assumption | exact box_keep (by assumption) hb | exact box_drew hS0) (first | (go_at_call 63; (with_reducible refine (H2.out _).mono ?_); rintro e w' ⟨rfl, hb⟩) | (go_at_call 65; (with_reducible refine (H3.out _).mono ?_); rintro e w' ⟨rfl, hb⟩))
  all_goals (rename_i hS; obtain ⟨_, _, _, _, hB⟩ := hS; go_wp2; go_ret; exact ⟨rfl, hB⟩)
end
section
open Go.RowKit
set_option maxHeartbeats 1000000
set_option maxRecDepth 100000
theorem frame_ok {a b c d : Int} (h : okPlan a b c d = true) (k : Int) (w : World) : Calls Try.prog 29 #[.agg #[.int .i64 a, .int .i64 b, .int .i64 c, .int .i64 d], .int .i64 k] w fun e w' => e = .returned (.int .i64 (frameV a b c d k)) ∧ Below w.heap.size w w' := by
  obtain ⟨b1, b2, b3, b4, b5, b6, b7, b8⟩ := ok_bd h
  have H1 := Lib.hid (fun w => bad_ok h w)
  have H2 := Lib.hid (fun w => wide_any a b c d (by omega) (by omega) w)
  have H3 := Lib.hid (fun w => between_any k 1 b w)
  have H4 := Lib.hid (fun w => room_ok h w)
  obtain ⟨s1, s2, s3, s4, s5, s6⟩ := frameV_bd h k
  obtain ⟨t1, t2, t3, t4⟩ := sizeV_bd h
  unfold frameV at *
  generalize wideV d = W at *
  generalize roomV c = R at *
  generalize clamp k 1 b = C at *
  have q0 : IntKind.i64.wrap (C - 1) = C - 1 := IntWalk.i64_in _ (by omega)
  have q1 : IntKind.i64.wrap ((C - 1) * R) = (C - 1) * R := IntWalk.i64_in _ (by omega)
  have q2 : IntKind.i64.wrap (a * W) = a * W := IntWalk.i64_in _ (by omega)
  have q3 : IntKind.i64.wrap (a * W + (C - 1) * R) = a * W + (C - 1) * R := IntWalk.i64_in _ (by omega)
  clear h s3 s4 s5 s6 t1 t2 t3 t4
  go_enter Try.func29, Try.ntmps29
  go_wp2_with (first | (go_at_call 62; refine (H1.out _).mono ?_; rintro e w1 ⟨rfl, hb1⟩; have hk1 := cell_old hb1; have hz1 := hb1.size))
  have hS0 := box_new hb1
  clear hk1 hz1 hb1
  go_region_held3 (fun w' => w'.cell? ⟨w.heap.size, 0, none⟩ = some (.int .i64 a) ∧ w'.cell? ⟨w.heap.size, 1, none⟩ = some (.int .i64 b) ∧ w'.cell? ⟨w.heap.size, 2, none⟩ = some (.int .i64 c) ∧ w'.cell? ⟨w.heap.size, 3, none⟩ = some (.int .i64 d) ∧ Below w.heap.size w w') (first | assumption | exact box_keep (by assumption) hb | exact box_drew hS0) (first | (go_at_call 63; (with_reducible refine (H2.out _).mono ?_); rintro e w' ⟨rfl, hb⟩) | (go_at_call 64; (with_reducible refine (H3.out _).mono ?_); rintro e w' ⟨rfl, rfl⟩) | (go_at_call 65; (with_reducible refine (H4.out _).mono ?_); rintro e w' ⟨rfl, hb⟩))
  all_goals (rename_i hS; obtain ⟨_, _, _, _, hB⟩ := hS; go_wp2; go_ret; exact ⟨rfl, hB⟩)
end
section
open Go.RowKit
def fillA (at_ many : Int) : Int := if at_ < 0 ∧ 0 < many then 0 else at_
def fillM (at_ many : Int) : Int := if at_ < 0 ∧ 0 < many then many + at_ else many
theorem fill_case (at_ many : Int) : (at_ < 0 ∧ 0 < many ∧ fillA at_ many = 0 ∧ fillM at_ many = many + at_) ∨ (¬ at_ < 0 ∧ fillA at_ many = at_ ∧ fillM at_ many = many) ∨ (at_ < 0 ∧ ¬ 0 < many ∧ fillA at_ many = at_ ∧ fillM at_ many = many) := by
  unfold fillA fillM
  by_cases h1 : at_ < 0
  · by_cases h2 : 0 < many
    · exact .inl ⟨h1, h2, by simp [h1, h2], by simp [h1, h2]⟩
    · exact .inr (.inr ⟨h1, h2, by simp [h2], by simp [h2]⟩)
  · exact .inr (.inl ⟨h1, by simp [h1], by simp [h1]⟩)
/-- What a step answers, and what the words are then. -/
def stepD (kd at_ n old : Int) (ms : List Int) : List Int × Int × Bool :=
  if kd = 4 then (fillL ms (fillA at_ n) (fillM at_ n) old ms.length, 0, true)
  else if at_ < 0 ∨ (ms.length : Int) ≤ at_ then (ms, 0, false)
  else if kd = 0 then (ms, ms.getD at_.toNat 0, true)
  else if kd = 1 then (ms.set at_.toNat n, 0, true)
  else if kd = 2 then (ms.set at_.toNat (wrap64 (ms.getD at_.toNat 0 + n)), ms.getD at_.toNat 0, true)
  else if ms.getD at_.toNat 0 = old then (ms.set at_.toNat n, ms.getD at_.toNat 0, true) else (ms, ms.getD at_.toNat 0, true)
theorem stepD_length (kd at_ n old : Int) (ms : List Int) : (stepD kd at_ n old ms).1.length = ms.length := by
  unfold stepD
  repeat' split
  all_goals simp [fillL_length]
set_option maxHeartbeats 4000000
set_option maxRecDepth 100000
theorem own_fillA {w0 w : World} {l : List Ast} (h : Own w0 w l) (i : Nat) {g b : Nat} {ms : List Int} (hi : l[i]? = some (storeA g b ms)) (at_ many n : Int) (h0 : -9223372036854775808 ≤ at_ ∧ at_ ≤ 9223372036854775807) (h1 : -9223372036854775808 ≤ many ∧ many ≤ 9223372036854775807) (ms' : List Int) (hm : fillL ms (fillA at_ many) (fillM at_ many) n ms.length = ms') :
    Calls Try.prog 79 #[.pointer (some ⟨g, 0, none⟩), .int .i64 at_, .int .i64 many, .int .i64 n] w fun e w' => e = .returned (.tuple #[]) ∧ Own w0 w' (l.set i (storeA g b ms')) := by
  subst hm
  refine (fill_core (h.st i hi) at_ many n _ _ h0 h1 (fill_case at_ many)).mono ?_
  rintro e w' ⟨rfl, hS, hT⟩
  exact ⟨rfl, h.move i hi ⟨hS, hT.mono fun k hk => .inr hk, fun k hk => .inl hk⟩⟩
theorem own_swap_yes {w0 w : World} {l : List Ast} (h : Own w0 w l) (i : Nat) {g b : Nat} {ms : List Int} (hi : l[i]? = some (storeA g b ms)) {k : Nat} (hl : k < ms.length) (n x : Int) (hx : ms.getD k 0 = x) (ms' : List Int) (hm : ms.set k n = ms') : Calls Try.prog 56 #[.pointer (some ⟨g, 0, none⟩), .int .i64 k, .int .i64 x, .int .i64 n] w fun e w' => e = .returned (.tuple #[.int .i64 x, .bool true]) ∧ Own w0 w' (l.set i (storeA g b ms')) := by
  subst hx hm
  refine (swap_yes (h.st i hi) hl n).mono ?_
  rintro e w' ⟨rfl, rfl⟩
  exact ⟨rfl, h.move i hi (st_moves (h.st i hi) rfl)⟩
theorem own_swap_no {w0 w : World} {l : List Ast} (h : Own w0 w l) (i : Nat) {g b : Nat} {ms : List Int} (hi : l[i]? = some (storeA g b ms)) {k : Nat} (hl : k < ms.length) (o n x : Int) (hx : ms.getD k 0 = x) (hne : x ≠ o) : Calls Try.prog 56 #[.pointer (some ⟨g, 0, none⟩), .int .i64 k, .int .i64 o, .int .i64 n] w fun e w' => e = .returned (.tuple #[.int .i64 x, .bool true]) ∧ w = w' := by
  subst hx
  exact swap_no (h.st i hi) hl o n hne
end
section
open Go.RowKit
set_option maxHeartbeats 2000000
set_option maxRecDepth 100000
theorem word_none (k : Int) (wr : Bool) (w : World) : Calls Try.prog 76 #[.pointer none, .int .i64 k, .bool wr] w fun e w' => e = .returned (.pointer none) ∧ w = w' := by
  by_cases hl : k < 0
  · have g1 : decide (k < 0) = true := by simp; omega
    go_enter Try.func76, Try.ntmps76
    go_wp2
    go_ret
    exact ⟨rfl, rfl⟩
  · have g1 : decide (k < 0) = false := by simp; omega
    have g2 : decide ((0 : Int) ≤ k) = true := by simp; omega
    go_enter Try.func76, Try.ntmps76
    go_wp2_with (first | (go_at_call 86; refine (size_none _).mono ?_; rintro e w1 ⟨rfl, rfl⟩))
    go_ret
    exact ⟨rfl, rfl⟩
theorem load_none (k : Int) (w : World) : Calls Try.prog 54 #[.pointer none, .int .i64 k] w fun e w' => e = .returned (.tuple #[.int .i64 0, .bool false]) ∧ w = w' := by
  go_enter Try.func54, Try.ntmps54
  go_wp2_with (first | (go_at_call 76; refine (word_none _ _ _).mono ?_; rintro e w1 ⟨rfl, rfl⟩))
  go_ret2
  exact ⟨rfl, rfl⟩
theorem store_none (k n : Int) (w : World) : Calls Try.prog 51 #[.pointer none, .int .i64 k, .int .i64 n] w fun e w' => e = .returned (.bool false) ∧ w = w' := by
  go_enter Try.func51, Try.ntmps51
  go_wp2_with (first | (go_at_call 76; refine (word_none _ _ _).mono ?_; rintro e w1 ⟨rfl, rfl⟩))
  go_ret
  exact ⟨rfl, rfl⟩
theorem add_none (k n : Int) (w : World) : Calls Try.prog 55 #[.pointer none, .int .i64 k, .int .i64 n] w fun e w' => e = .returned (.tuple #[.int .i64 0, .bool false]) ∧ w = w' := by
  go_enter Try.func55, Try.ntmps55
  go_wp2_with (first | (go_at_call 76; refine (word_none _ _ _).mono ?_; rintro e w1 ⟨rfl, rfl⟩))
  go_ret2
  exact ⟨rfl, rfl⟩
theorem swap_none (k o n : Int) (w : World) : Calls Try.prog 56 #[.pointer none, .int .i64 k, .int .i64 o, .int .i64 n] w fun e w' => e = .returned (.tuple #[.int .i64 0, .bool false]) ∧ w = w' := by
  go_enter Try.func56, Try.ntmps56
  go_wp2_with (first | (go_at_call 76; refine (word_none _ _ _).mono ?_; rintro e w1 ⟨rfl, rfl⟩))
  go_ret2
  exact ⟨rfl, rfl⟩
theorem all_none (w : World) : Calls Try.prog 13 #[.pointer none] w fun e w' => e = .returned (.slice none 0 0) ∧ w = w' := by
  go_enter Try.func13, Try.ntmps13
  go_wp2
  go_ret
  exact ⟨rfl, rfl⟩
theorem fill_none (at_ many n : Int) (w : World) : Calls Try.prog 79 #[.pointer none, .int .i64 at_, .int .i64 many, .int .i64 n] w fun e w' => e = .returned (.tuple #[]) ∧ w = w' := by
  go_enter Try.func79, Try.ntmps79
  go_wp2_with (go_at_call 86; refine (size_none _).mono ?_; rintro e w1 ⟨rfl, rfl⟩)
  all_goals
    go_loopw [20] (fun i wr => i = .int .i64 0 ∧ w = wr) (fun _ _ => 0)
    case atStart => exact ⟨rfl, rfl⟩
    case round =>
      obtain ⟨rfl, rfl⟩ := hrel
      go_wp2_with fail
      go_end0
      exact ⟨rfl, rfl⟩
end
section
open Go.RowKit
set_option maxHeartbeats 4000000
set_option maxRecDepth 100000
theorem fill_next {ms : List Int} {A M n : Int} {k : Nat} (hk : k < ms.length) (t : Bool) (h : t = true ↔ (0 ≤ A ∧ A ≤ k ∧ (k : Int) - A < M)) : fillL ms A M n (k + 1) = if t = true then (fillL ms A M n k).set k n else fillL ms A M n k := by
  by_cases c : t = true
  · rw [if_pos c, fillL_yes hk (h.1 c)]
  · rw [if_neg c, fillL_no (fun q => c (h.2 q))]
/-- What a step of the document answers. -/
def RefDone (ms' : List Int) (x : Int) (t : Bool) (len : Nat) (w : World) (e : Ending) (w' : World) : Prop :=
  ∃ ao' cap', e = .returned (.tuple #[.slice ao' len cap', .int .i64 x, .bool t]) ∧ Row w' 3 1 (.slice ao' len cap') len (ms'.map (.int .i64)) ∧ (∀ k, Value.ownBlock (.slice ao' len cap') = some k → w.heap.size ≤ k) ∧ Below w.heap.size w w'
theorem refFill_any {ao : Option Addr} {cap : Nat} {ms : List Int} {w : World} (hsrc : Src w ao ms.length cap 1 (ms.map (.int .i64))) (hl : ms.length ≤ 1048576) (at_ n old : Int) (h0 : -9223372036854775808 ≤ at_ ∧ at_ ≤ 9223372036854775807) (h1 : -9223372036854775808 ≤ n ∧ n ≤ 9223372036854775807) :
    Calls Try.prog 10 #[.slice ao ms.length cap, .agg #[.int .i64 4, .int .i64 at_, .int .i64 n, .int .i64 old]] w (RefDone (fillL ms (fillA at_ n) (fillM at_ n) old ms.length) 0 true ms.length w) := by
  obtain ⟨i1, hi1, hw0, hw1', hw2'⟩ := info_parts' Try.infoIntS
  have hB : Own w (w.alloc (.cells #[.int .i64 4, .int .i64 at_, .int .i64 n, .int .i64 old] 43)) [cellsA w.heap.size #[.int .i64 4, .int .i64 at_, .int .i64 n, .int .i64 old] 43] := (Own.nil (Below.refl w.heap.size w)).box #[.int .i64 4, .int .i64 at_, .int .i64 n, .int .i64 old] 43
  have hsrc2 := hsrc.alloc (.cells #[.int .i64 4, .int .i64 at_, .int .i64 n, .int .i64 old] 43)
  have hcase := fill_case at_ n
  have hz := Lib.hid (fillL_zero ms (fillA at_ n) (fillM at_ n) old)
  have hnx := fun (k : Nat) (hk : k < ms.length) (t : Bool) h => fill_next (ms := ms) (A := fillA at_ n) (M := fillM at_ n) (n := old) hk t h
  have hlen := Lib.hid (fun k => fillL_length ms (fillA at_ n) (fillM at_ n) old k)
  generalize fillA at_ n = A at *
  generalize fillM at_ n = M at *
  replace hnx := Lib.hid hnx
  have hcase2 := Lib.hid hcase
  clear hcase hsrc
  go_enter Try.func10, Try.ntmps10
  go_wp2_with (at_builtin; go_must (refine wpList_append_copy' _ rfl _ _ 36 rfl 3 i1 (.int .i64 0) 1 8 Try.underlying36 hi1 hw0 hw1' hw2' rfl (by decide) _ (by simp) rfl ao ms.length cap (ms.map (Value.int .i64)) rfl hsrc2 (by simp [Value.oneCell']) (by unfold maxLen; omega) (by omega) ?_); intro ao2 cap2 w2 hrow hb2 hf2; have hO2 := hB.push hb2 (rowA 3 1 (.slice ao2 ms.length cap2) ms.length (ms.map (.int .i64))) hrow hf2; have c0 := (hO2.cget 0 rfl 0).1; simp at c0)
  generalize w.heap.size = bk at *
  go_loopw [8] (fun i wr => ∃ k : Nat, k ≤ ms.length ∧ i = .int .i64 k ∧ Own w wr [cellsA bk #[.int .i64 4, .int .i64 at_, .int .i64 n, .int .i64 old] 43, rowA 3 1 (.slice ao2 ms.length cap2) ms.length ((fillL ms A M old k).map (.int .i64))]) (fun i _ => (ms.length - intOf i).toNat)
  case atStart => exact ⟨0, by omega, rfl, by rw [hz.out]; exact hO2⟩
  case round =>
    clear hO2 c0 hz
    obtain ⟨k, hk, rfl, hO⟩ := hrel
    have c1 := (hO.cget 0 rfl 1).1
    have c2 := (hO.cget 0 rfl 2).1
    have c3 := (hO.cget 0 rfl 3).1
    simp at c1 c2 c3
    by_cases hlt : k < ms.length
    · obtain ⟨g3, off3, cap3, hv3, q1, q2, q3, q4⟩ := (hO.row 1 rfl).addr (by omega)
      simp only [Value.slice.injEq] at hv3
      obtain ⟨rfl, _, rfl⟩ := hv3
      have x0 := q3 k (by omega)
      have xf := q4 k (by omega)
      rw [List.getElem?_map, List.getElem?_eq_getElem (by rw [hlen.out]; exact hlt)] at x0
      simp only [Option.map_some] at x0
      obtain ⟨X0, hX0⟩ : ∃ X0, wr.cell? ⟨g3, off3 + k, none⟩ = some (.int .i64 X0) := ⟨_, x0⟩
      clear x0
      clear q3 q4
      have hY := Lib.hid (fun (q : 0 ≤ A ∧ A ≤ (k : Int) ∧ (k : Int) - A < M) => (hO.rowset 1 rfl k (.int .i64 old) rfl).cast (l' := [cellsA bk #[.int .i64 4, .int .i64 at_, .int .i64 n, .int .i64 old] 43, rowA 3 1 (.slice (some ⟨g3, off3, none⟩) ms.length cap2) ms.length ((fillL ms A M old (k + 1)).map (.int .i64))]) (by rw [map_set_i, show fillL ms A M old (k + 1) = (fillL ms A M old k).set k old from (hnx.out k hlt true (by simpa using q)).trans (if_pos rfl)]; rfl))
      have hN := Lib.hid (fun (q : ¬ (0 ≤ A ∧ A ≤ (k : Int) ∧ (k : Int) - A < M)) => hO.cast (l' := [cellsA bk #[.int .i64 4, .int .i64 at_, .int .i64 n, .int .i64 old] 43, rowA 3 1 (.slice (some ⟨g3, off3, none⟩) ms.length cap2) ms.length ((fillL ms A M old (k + 1)).map (.int .i64))]) (by rw [show fillL ms A M old (k + 1) = fillL ms A M old k from (hnx.out k hlt false (by simpa using q)).trans (if_neg (by simp))]))
      clear hnx
      by_cases hp : 0 ≤ at_
      · by_cases hp1 : at_ ≤ (k : Int)
        · by_cases hp2 : (k : Int) - at_ < n
          · go_wp2
            go_roundw
            case rel => exact ⟨k + 1, by omega, by go_num, hY.out (by have := hcase2.out; omega)⟩
            case measure => simp [intOf]; omega
          · have d0 : ¬ at_ < 0 := by omega
            go_wp2
            go_roundw
            case rel => exact ⟨k + 1, by omega, by go_num, hN.out (by have := hcase2.out; omega)⟩
            case measure => simp [intOf]; omega
        · have d0 : ¬ at_ < 0 := by omega
          go_wp2
          go_roundw
          case rel => exact ⟨k + 1, by omega, by go_num, hN.out (by have := hcase2.out; omega)⟩
          case measure => simp [intOf]; omega
      · by_cases hp1 : 0 < n
        · have hs : wrap64 (at_ + n) = at_ + n := IntWalk.wrap64_in _ (by omega)
          by_cases hp2 : (k : Int) < at_ + n
          · go_wp2
            go_roundw
            case rel => exact ⟨k + 1, by omega, by go_num, hY.out (by have := hcase2.out; omega)⟩
            case measure => simp [intOf]; omega
          · go_wp2
            go_roundw
            case rel => exact ⟨k + 1, by omega, by go_num, hN.out (by have := hcase2.out; omega)⟩
            case measure => simp [intOf]; omega
        · go_wp2
          go_roundw
          case rel => exact ⟨k + 1, by omega, by go_num, hN.out (by have := hcase2.out; omega)⟩
          case measure => simp [intOf]; omega
    · obtain rfl : k = ms.length := by omega
      have hE : RefDone (fillL ms A M old ms.length) 0 true ms.length w (.returned (.tuple #[.slice ao2 ms.length cap2, .int .i64 0, .bool true])) wr := ⟨ao2, cap2, rfl, hO.row 1 rfl, hO.own _ (List.mem_of_getElem? (i := 1) rfl), hO.below⟩
      replace hE := Lib.hid hE
      clear hlen hnx
      go_wp2
      exact bodyPost_ret (v := .tuple #[.slice ao2 ms.length cap2, .int .i64 0, .bool true]) (by simp [results, Try.results10, go_sem]) rfl hE.out
end
section
open Go.RowKit
set_option maxHeartbeats 4000000
set_option maxRecDepth 100000
theorem refOut_any {ao : Option Addr} {cap : Nat} {ms : List Int} {w : World} (hsrc : Src w ao ms.length cap 1 (ms.map (.int .i64))) (hl : ms.length ≤ 1048576) (kd at_ n old : Int) (hk : (kd == 4) = false) (hin : at_ < 0 ∨ (ms.length : Int) ≤ at_) :
    Calls Try.prog 10 #[.slice ao ms.length cap, .agg #[.int .i64 kd, .int .i64 at_, .int .i64 n, .int .i64 old]] w (RefDone ms 0 false ms.length w) := by
  obtain ⟨i1, hi1, hw0, hw1', hw2'⟩ := info_parts' Try.infoIntS
  have hB : Own w (w.alloc (.cells #[.int .i64 kd, .int .i64 at_, .int .i64 n, .int .i64 old] 43)) [cellsA w.heap.size #[.int .i64 kd, .int .i64 at_, .int .i64 n, .int .i64 old] 43] := (Own.nil (Below.refl w.heap.size w)).box #[.int .i64 kd, .int .i64 at_, .int .i64 n, .int .i64 old] 43
  have hsrc2 := hsrc.alloc (.cells #[.int .i64 kd, .int .i64 at_, .int .i64 n, .int .i64 old] 43)
  clear hsrc
  rcases hin with hin | hin
  · go_enter Try.func10, Try.ntmps10
    go_wp2_with (at_builtin; go_must (refine wpList_append_copy' _ rfl _ _ 36 rfl 3 i1 (.int .i64 0) 1 8 Try.underlying36 hi1 hw0 hw1' hw2' rfl (by decide) _ (by simp) rfl ao ms.length cap (ms.map (Value.int .i64)) rfl hsrc2 (by simp [Value.oneCell']) (by unfold maxLen; omega) (by omega) ?_); intro ao2 cap2 w2 hrow hb2 hf2; have hO2 := hB.push hb2 (rowA 3 1 (.slice ao2 ms.length cap2) ms.length (ms.map (.int .i64))) hrow hf2; have c0 := (hO2.cget 0 rfl 0).1; have c1 := (hO2.cget 0 rfl 1).1; have c2 := (hO2.cget 0 rfl 2).1; have c3 := (hO2.cget 0 rfl 3).1; simp at c0 c1 c2 c3)
    exact bodyPost_ret (v := .tuple #[.slice ao2 ms.length cap2, .int .i64 0, .bool false]) (by simp [results, Try.results10, go_sem]) rfl ⟨ao2, cap2, rfl, hO2.row 1 rfl, hO2.own _ (List.mem_of_getElem? (i := 1) rfl), hO2.below⟩
  · have g0 : ¬ at_ < 0 := by omega
    go_enter Try.func10, Try.ntmps10
    go_wp2_with (at_builtin; go_must (refine wpList_append_copy' _ rfl _ _ 36 rfl 3 i1 (.int .i64 0) 1 8 Try.underlying36 hi1 hw0 hw1' hw2' rfl (by decide) _ (by simp) rfl ao ms.length cap (ms.map (Value.int .i64)) rfl hsrc2 (by simp [Value.oneCell']) (by unfold maxLen; omega) (by omega) ?_); intro ao2 cap2 w2 hrow hb2 hf2; have hO2 := hB.push hb2 (rowA 3 1 (.slice ao2 ms.length cap2) ms.length (ms.map (.int .i64))) hrow hf2; have c0 := (hO2.cget 0 rfl 0).1; have c1 := (hO2.cget 0 rfl 1).1; have c2 := (hO2.cget 0 rfl 2).1; have c3 := (hO2.cget 0 rfl 3).1; simp at c0 c1 c2 c3)
    exact bodyPost_ret (v := .tuple #[.slice ao2 ms.length cap2, .int .i64 0, .bool false]) (by simp [results, Try.results10, go_sem]) rfl ⟨ao2, cap2, rfl, hO2.row 1 rfl, hO2.own _ (List.mem_of_getElem? (i := 1) rfl), hO2.below⟩
theorem refIn_any {ao : Option Addr} {cap : Nat} {ms : List Int} {w : World} (hsrc : Src w ao ms.length cap 1 (ms.map (.int .i64))) (hl : ms.length ≤ 1048576) (kd n old : Int) (a : Nat) (hk : kd = 0 ∨ kd = 1 ∨ kd = 2 ∨ kd = 3) (ha : a < ms.length) (ms' : List Int) (x : Int) (hr : stepD kd a n old ms = (ms', x, true)) :
    Calls Try.prog 10 #[.slice ao ms.length cap, .agg #[.int .i64 kd, .int .i64 a, .int .i64 n, .int .i64 old]] w (RefDone ms' x true ms.length w) := by
  obtain ⟨i1, hi1, hw0, hw1', hw2'⟩ := info_parts' Try.infoIntS
  have hB : Own w (w.alloc (.cells #[.int .i64 kd, .int .i64 a, .int .i64 n, .int .i64 old] 43)) [cellsA w.heap.size #[.int .i64 kd, .int .i64 a, .int .i64 n, .int .i64 old] 43] := (Own.nil (Below.refl w.heap.size w)).box #[.int .i64 kd, .int .i64 a, .int .i64 n, .int .i64 old] 43
  have hsrc2 := hsrc.alloc (.cells #[.int .i64 kd, .int .i64 a, .int .i64 n, .int .i64 old] 43)
  obtain ⟨ad, rfl⟩ : ∃ ad, ao = some ad := by
    cases ao with
    | none => obtain ⟨q1, q2⟩ := hsrc.2.1 rfl; omega
    | some ad => exact ⟨ad, rfl⟩
  have hy0 := hsrc.2.2 ad rfl a _ (getD_map ha)
  clear hsrc
  have g0 : decide ((a : Int) < 0) = false := by simp
  have g1 : decide ((ms.length : Int) ≤ (a : Int)) = false := by simp; omega
  unfold stepD at hr
  rw [if_neg (by omega), if_neg (by omega)] at hr
  simp only [Int.toNat_natCast] at hr
  have hset := fun (w2 : World) (ao2 : Option Addr) (cap2 : Nat) (y : Int) (h : Own w w2 [cellsA w.heap.size #[.int .i64 kd, .int .i64 a, .int .i64 n, .int .i64 old] 43, rowA 3 1 (.slice ao2 ms.length cap2) ms.length (ms.map (.int .i64))]) => (show ∃ g off, ao2 = some ⟨g, off, none⟩ ∧ (∃ X, w2.cell? ⟨g, off + a, none⟩ = some (.int .i64 X)) ∧ w2.frozen? ⟨g, off + a, none⟩ = false ∧ ∀ y, Own w (w2.setCell ⟨g, off + a, none⟩ (.int .i64 y)) [cellsA w.heap.size #[.int .i64 kd, .int .i64 a, .int .i64 n, .int .i64 old] 43, rowA 3 1 (.slice ao2 ms.length cap2) ms.length ((ms.set a y).map (.int .i64))] by
    obtain ⟨g3, off3, cap3, hv3, q1, q2, q3, q4⟩ := (h.row 1 rfl).addr (by omega)
    simp only [Value.slice.injEq] at hv3
    obtain ⟨rfl, _, rfl⟩ := hv3
    have x0 := q3 a (by omega)
    rw [getD_map ha] at x0
    exact ⟨g3, off3, rfl, ⟨_, x0⟩, q4 a (by omega), fun y => (h.rowset 1 rfl a (.int .i64 y) rfl).cast (by rw [map_set_i]; rfl)⟩)
  generalize hY : ms.getD a 0 = Y at *
  replace hset := Lib.hid hset
  clear hY
  rcases hk with rfl | rfl | rfl | rfl
  · simp only [if_true, Prod.mk.injEq] at hr
    obtain ⟨rfl, rfl, _⟩ := hr
    go_enter Try.func10, Try.ntmps10
    go_wp2_with (at_builtin; go_must (refine wpList_append_copy' _ rfl _ _ 36 rfl 3 i1 (.int .i64 0) 1 8 Try.underlying36 hi1 hw0 hw1' hw2' rfl (by decide) _ (by simp) rfl (some ad) ms.length cap (ms.map (Value.int .i64)) rfl hsrc2 (by simp [Value.oneCell']) (by unfold maxLen; omega) (by omega) ?_); intro ao2 cap2 w2 hrow hb2 hf2; have hO2 := hB.push hb2 (rowA 3 1 (.slice ao2 ms.length cap2) ms.length (ms.map (.int .i64))) hrow hf2; have c0 := (hO2.cget 0 rfl 0).1; have c1 := (hO2.cget 0 rfl 1).1; have c2 := (hO2.cget 0 rfl 2).1; have c3 := (hO2.cget 0 rfl 3).1; simp at c0 c1 c2 c3; have hy := hO2.old hy0)
    exact bodyPost_ret (v := .tuple #[.slice ao2 ms.length cap2, .int .i64 Y, .bool true]) (by simp [results, Try.results10, go_sem]) rfl ⟨ao2, cap2, rfl, hO2.row 1 rfl, hO2.own _ (List.mem_of_getElem? (i := 1) rfl), hO2.below⟩
  · rw [if_neg (by omega), if_pos rfl] at hr
    simp only [Prod.mk.injEq] at hr
    obtain ⟨rfl, rfl, _⟩ := hr
    go_enter Try.func10, Try.ntmps10
    go_wp2_with (at_builtin; go_must (refine wpList_append_copy' _ rfl _ _ 36 rfl 3 i1 (.int .i64 0) 1 8 Try.underlying36 hi1 hw0 hw1' hw2' rfl (by decide) _ (by simp) rfl (some ad) ms.length cap (ms.map (Value.int .i64)) rfl hsrc2 (by simp [Value.oneCell']) (by unfold maxLen; omega) (by omega) ?_); intro ao2 cap2 w2 hrow hb2 hf2; have hO2 := hB.push hb2 (rowA 3 1 (.slice ao2 ms.length cap2) ms.length (ms.map (.int .i64))) hrow hf2; have c0 := (hO2.cget 0 rfl 0).1; have c1 := (hO2.cget 0 rfl 1).1; have c2 := (hO2.cget 0 rfl 2).1; have c3 := (hO2.cget 0 rfl 3).1; simp at c0 c1 c2 c3; have hy := hO2.old hy0; obtain ⟨g, off, rfl, ⟨X, hX⟩, hf, hS⟩ := hset.out _ _ _ n hO2; have hS := Lib.hid hS; clear hO2 hrow hf2)
    have hO3 := hS.out n
    exact bodyPost_ret (v := .tuple #[.slice (some ⟨g, off, none⟩) ms.length cap2, .int .i64 0, .bool true]) (by simp [results, Try.results10, go_sem]) rfl ⟨_, cap2, rfl, hO3.row 1 rfl, hO3.own _ (List.mem_of_getElem? (i := 1) rfl), hO3.below⟩
  · rw [if_neg (by omega), if_neg (by omega), if_pos rfl] at hr
    simp only [Prod.mk.injEq] at hr
    obtain ⟨rfl, rfl, _⟩ := hr
    go_enter Try.func10, Try.ntmps10
    go_wp2_with (at_builtin; go_must (refine wpList_append_copy' _ rfl _ _ 36 rfl 3 i1 (.int .i64 0) 1 8 Try.underlying36 hi1 hw0 hw1' hw2' rfl (by decide) _ (by simp) rfl (some ad) ms.length cap (ms.map (Value.int .i64)) rfl hsrc2 (by simp [Value.oneCell']) (by unfold maxLen; omega) (by omega) ?_); intro ao2 cap2 w2 hrow hb2 hf2; have hO2 := hB.push hb2 (rowA 3 1 (.slice ao2 ms.length cap2) ms.length (ms.map (.int .i64))) hrow hf2; have c0 := (hO2.cget 0 rfl 0).1; have c1 := (hO2.cget 0 rfl 1).1; have c2 := (hO2.cget 0 rfl 2).1; have c3 := (hO2.cget 0 rfl 3).1; simp at c0 c1 c2 c3; have hy := hO2.old hy0; obtain ⟨g, off, rfl, ⟨X, hX⟩, hf, hS⟩ := hset.out _ _ _ n hO2; have hS := Lib.hid hS; clear hO2 hrow hf2)
    have hO3 := hS.out (wrap64 (Y + n))
    exact bodyPost_ret (v := .tuple #[.slice (some ⟨g, off, none⟩) ms.length cap2, .int .i64 Y, .bool true]) (by simp [results, Try.results10, go_sem]) rfl ⟨_, cap2, rfl, hO3.row 1 rfl, hO3.own _ (List.mem_of_getElem? (i := 1) rfl), hO3.below⟩
  · rw [if_neg (by omega), if_neg (by omega), if_neg (by omega)] at hr
    by_cases hq : Y = old
    · rw [if_pos hq] at hr
      simp only [Prod.mk.injEq] at hr
      obtain ⟨rfl, rfl, _⟩ := hr
      subst hq
      go_enter Try.func10, Try.ntmps10
      go_wp2_with (at_builtin; go_must (refine wpList_append_copy' _ rfl _ _ 36 rfl 3 i1 (.int .i64 0) 1 8 Try.underlying36 hi1 hw0 hw1' hw2' rfl (by decide) _ (by simp) rfl (some ad) ms.length cap (ms.map (Value.int .i64)) rfl hsrc2 (by simp [Value.oneCell']) (by unfold maxLen; omega) (by omega) ?_); intro ao2 cap2 w2 hrow hb2 hf2; have hO2 := hB.push hb2 (rowA 3 1 (.slice ao2 ms.length cap2) ms.length (ms.map (.int .i64))) hrow hf2; have c0 := (hO2.cget 0 rfl 0).1; have c1 := (hO2.cget 0 rfl 1).1; have c2 := (hO2.cget 0 rfl 2).1; have c3 := (hO2.cget 0 rfl 3).1; simp at c0 c1 c2 c3; have hy := hO2.old hy0; obtain ⟨g, off, rfl, ⟨X, hX⟩, hf, hS⟩ := hset.out _ _ _ n hO2; have hS := Lib.hid hS; clear hO2 hrow hf2)
      have hO3 := hS.out n
      exact bodyPost_ret (v := .tuple #[.slice (some ⟨g, off, none⟩) ms.length cap2, .int .i64 Y, .bool true]) (by simp [results, Try.results10, go_sem]) rfl ⟨_, cap2, rfl, hO3.row 1 rfl, hO3.own _ (List.mem_of_getElem? (i := 1) rfl), hO3.below⟩
    · rw [if_neg hq] at hr
      simp only [Prod.mk.injEq] at hr
      obtain ⟨rfl, rfl, _⟩ := hr
      have hq' : (Y == old) = false := by simp [hq]
      go_enter Try.func10, Try.ntmps10
      go_wp2_with (at_builtin; go_must (refine wpList_append_copy' _ rfl _ _ 36 rfl 3 i1 (.int .i64 0) 1 8 Try.underlying36 hi1 hw0 hw1' hw2' rfl (by decide) _ (by simp) rfl (some ad) ms.length cap (ms.map (Value.int .i64)) rfl hsrc2 (by simp [Value.oneCell']) (by unfold maxLen; omega) (by omega) ?_); intro ao2 cap2 w2 hrow hb2 hf2; have hO2 := hB.push hb2 (rowA 3 1 (.slice ao2 ms.length cap2) ms.length (ms.map (.int .i64))) hrow hf2; have c0 := (hO2.cget 0 rfl 0).1; have c1 := (hO2.cget 0 rfl 1).1; have c2 := (hO2.cget 0 rfl 2).1; have c3 := (hO2.cget 0 rfl 3).1; simp at c0 c1 c2 c3; have hy := hO2.old hy0)
      exact bodyPost_ret (v := .tuple #[.slice ao2 ms.length cap2, .int .i64 Y, .bool true]) (by simp [results, Try.results10, go_sem]) rfl ⟨ao2, cap2, rfl, hO2.row 1 rfl, hO2.own _ (List.mem_of_getElem? (i := 1) rfl), hO2.below⟩
/-- The document's step, whatever is asked. -/
theorem refDo_any {ao : Option Addr} {cap : Nat} {ms : List Int} {w : World} (hsrc : Src w ao ms.length cap 1 (ms.map (.int .i64))) (hl : ms.length ≤ 1048576) (kd at_ n old : Int) (hk : 0 ≤ kd ∧ kd ≤ 4) (h0 : -9223372036854775808 ≤ at_ ∧ at_ ≤ 9223372036854775807) (h1 : -9223372036854775808 ≤ n ∧ n ≤ 9223372036854775807) (ms' : List Int) (x : Int) (t : Bool) (hr : stepD kd at_ n old ms = (ms', x, t)) :
    Calls Try.prog 10 #[.slice ao ms.length cap, .agg #[.int .i64 kd, .int .i64 at_, .int .i64 n, .int .i64 old]] w (RefDone ms' x t ms.length w) := by
  by_cases hk4 : kd = 4
  · subst hk4
    simp only [stepD, if_true, Prod.mk.injEq] at hr
    obtain ⟨rfl, rfl, rfl⟩ := hr
    exact refFill_any hsrc hl at_ n old h0 h1
  · by_cases hin : at_ < 0 ∨ (ms.length : Int) ≤ at_
    · unfold stepD at hr
      rw [if_neg hk4, if_pos hin] at hr
      simp only [Prod.mk.injEq] at hr
      obtain ⟨rfl, rfl, rfl⟩ := hr
      exact refOut_any hsrc hl kd at_ n old (by simp [hk4]) hin
    · obtain ⟨a, rfl⟩ : ∃ a : Nat, at_ = a := ⟨at_.toNat, by omega⟩
      have ht : t = true := by
        unfold stepD at hr
        rw [if_neg hk4, if_neg hin] at hr
        repeat' split at hr
        all_goals (simp only [Prod.mk.injEq] at hr; exact hr.2.2.symm)
      subst ht
      exact refIn_any hsrc hl kd n old a (by omega) (by omega) ms' x hr
end
section
open Go.RowKit
set_option maxHeartbeats 400000
set_option maxRecDepth 100000
theorem right_any (a b c d : Int) (w : World) : Calls Try.prog 59 #[.agg #[.int .i64 a, .int .i64 b, .int .i64 c, .int .i64 d]] w fun e w' => e = .returned (.bool (okPlan a b c d)) ∧ Below w.heap.size w w' := by
  go_enter Try.func59, Try.ntmps59
  go_wp2
  all_goals go_ret
  all_goals exact ⟨ret_bool (by unfold okPlan; rw [Bool.eq_iff_iff]; simp; omega), by go_grown⟩
end
end Go.Proofs.Ytcegncbnanbenaa
