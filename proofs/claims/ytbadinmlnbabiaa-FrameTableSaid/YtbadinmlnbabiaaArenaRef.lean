/- The document's arena: forebayref10. -/
import Derived.Test.YtbadinmlnbabiaaArenaInv
set_option linter.unusedVariables false
set_option linter.unusedSimpArgs false
namespace Go.Proofs.Ytbadinmlnbabiaa
open Go.RowKit
def refL (g : Nat) (N : Int) (bv : Value) (bs : List Int) (tv : Value) (tk : List Int) (fr : Nat) (pk : Int) (l : List Ast) : List Ast :=
  cellsA g #[.int .i64 N, bv, tv, .int .i64 fr, .int .i64 pk] 54 :: rowA 3 1 bv bs.length (bs.map (.int .i64)) :: rowA 3 1 tv tk.length (tk.map (.int .i64)) :: l
def ROwn (w0 w : World) (g : Nat) (N : Int) (bs tk : List Int) (fr : Nat) (pk : Int) (l : List Ast) : Prop := ∃ bv tv, Own w0 w (refL g N bv bs tv tk fr pk l)
set_option maxRecDepth 100000
set_option maxHeartbeats 4000000
theorem has_any {ao : Option Addr} {c : Nat} {zs : List Int} {w : World} (h : Lies w ao c zs) (x : Int) (t : Bool) (ht : decide (x ∈ zs) = t) :
    Calls Try.prog 39 #[.slice ao zs.length c, .int .i64 x] w fun e w' => e = .returned (.bool t) ∧ w = w' := by
  have hc := h.1
  have hc2 := h.2.1
  unfold maxLen at hc2
  replace ht := Lib.hid ht
  go_enter Try.func39, Try.ntmps39
  go_wp2
  go_loop [5] (fun i => ∃ k : Nat, k ≤ zs.length ∧ i = .int .i64 k ∧ Hid (∀ j, j < k → zs.getD j 0 ≠ x)) (fun i => (zs.length - intOf i).toNat)
  case atStart => exact ⟨0, by omega, rfl, Lib.hid (fun j hj => by omega)⟩
  case round =>
    obtain ⟨k, hk, rfl, hn⟩ := hrel
    by_cases hlt : k < zs.length
    · obtain ⟨ad, rfl, hx⟩ := h.get hlt
      by_cases hq : zs.getD k 0 = x
      · have ht1 := ht.out
        rw [decide_eq_true (by rw [← hq, List.getD_eq_getElem?_getD, List.getElem?_eq_getElem hlt]; exact List.getElem_mem hlt)] at ht1
        subst ht1
        rw [hq] at hx
        clear hq
        go_wp2
        go_ret
        exact ⟨rfl, rfl⟩
      · have hn' := Lib.hid (show ∀ j, j < k + 1 → zs.getD j 0 ≠ x from fun j hj => by
          by_cases hjk : j = k
          · rw [hjk]; exact hq
          · exact hn.out j (by omega))
        generalize zs.getD k 0 = X at *
        have hq' : (X == x) = false := by simp [hq]
        go_wp2
        go_round
        case rel => exact ⟨k + 1, by omega, by go_num, hn'⟩
        case measure => simp [intOf]; omega
    · obtain rfl : k = zs.length := by omega
      have ht1 := ht.out
      rw [decide_eq_false (fun hm => by
        obtain ⟨j, hj, he⟩ := List.getElem_of_mem hm
        refine hn.out j hj ?_
        rw [List.getD_eq_getElem?_getD, List.getElem?_eq_getElem hj]; exact he)] at ht1
      subst ht1
      go_wp2
      go_ret
      exact ⟨rfl, rfl⟩
theorem rNew_any (n : Int) (M : Nat) (hM : min (max n 0) 1000 = (M : Int)) {w0 w : World} {l : List Ast} (h : Own w0 w l) : Calls Try.prog 31 #[.int .i64 n] w fun e w' => e = .returned (.pointer (some ⟨w.heap.size, 0, none⟩)) ∧ Own w0 w' (l ++ refL w.heap.size M (.slice none 0 0) [] (.slice none 0 0) [] 0 0 []) := by
  have h3 : Own w0 (w.alloc (.cells #[.int .i64 M, .slice none 0 0, .slice none 0 0, .int .i64 0, .int .i64 0] 54)) (l ++ refL w.heap.size M (.slice none 0 0) [] (.slice none 0 0) [] 0 0 []) := by
    have q := ((h.box #[.int .i64 M, .slice none 0 0, .slice none 0 0, .int .i64 0, .int .i64 0] 54).push (Below.refl _ _) (rowA 3 1 (.slice none 0 0) 0 []) (Row.nil _ _ _) (by simp [rowA, Value.ownBlock])).push (Below.refl _ _) (rowA 3 1 (.slice none 0 0) 0 []) (Row.nil _ _ _) (by simp [rowA, Value.ownBlock])
    exact q.cast (by simp [refL])
  replace h3 := Lib.hid h3
  clear h
  go_enter Try.func31, Try.ntmps31
  go_wp2
  go_ret
  exact ⟨rfl, h3.out⟩
theorem rTake_fresh {w0 w : World} {g : Nat} {N : Int} {tk : List Int} {fr : Nat} {pk : Int} {l : List Ast} (h : ROwn w0 w g N [] tk fr pk l) (ht : tk.length ≤ 100000) (hfr : (fr : Int) < N) (hN : N ≤ 1000) (pk' : Int) (hpk : max pk ((tk.length : Int) + 1) = pk') :
    Calls Try.prog 33 #[.pointer (some ⟨g, 0, none⟩)] w fun e w' => e = .returned (.tuple #[.int .i64 ((fr : Int) + 1), .bool true]) ∧ ROwn w0 w' g N [] (tk ++ [((fr : Int) + 1)]) (fr + 1) pk' l := by
  obtain ⟨i1, hi1, hw0, hw1', hw2'⟩ := info_parts' Try.infoIntK
  obtain ⟨bv, tv, hO⟩ := h
  obtain ⟨bo, bc, rfl, b1, b2, _⟩ := (hO.row 1 rfl).shape
  obtain ⟨tO, tc, rfl, t1, t2, _⟩ := (hO.row 2 rfl).shape
  unfold maxLen at t2 b2
  obtain ⟨c0, c1, c2, c3, c4⟩ := And.intro (hO.cget 0 rfl 0).1 (And.intro (hO.cget 0 rfl 1).1 (And.intro (hO.cget 0 rfl 2).1 (And.intro (hO.cget 0 rfl 3).1 (hO.cget 0 rfl 4).1)))
  simp at c0 c1 c2 c3 c4
  have hq : ((fr : Int) == N) = false := by simp; omega
  go_enter Try.func33, Try.ntmps33
  go_wp2_with fail
  go_quiet (fail)
  have hO1 := hO.drewN nq
  generalize w.drewN nq = u at *
  clear c0 c1 c2 c3 c4 hO
  obtain ⟨c0, c1, c2, c3, c4⟩ := And.intro (hO1.cget 0 rfl 0).1 (And.intro (hO1.cget 0 rfl 1).1 (And.intro (hO1.cget 0 rfl 2).1 (And.intro (hO1.cget 0 rfl 3).1 (hO1.cget 0 rfl 4).1)))
  simp at c0 c1 c2 c3 c4
  have f3 := (hO1.cget 0 rfl 3).2
  have hO2 : Own w0 (u.setCell ⟨g, 3, none⟩ (.int .i64 ((fr : Int) + 1))) (refL g N (.slice bo 0 bc) [] (.slice tO tk.length tc) tk (fr + 1) pk l) := hO1.cset 0 rfl 3 (.int .i64 ((fr : Int) + 1))
  go_upto_region 9 with (fail)
  clear hO1 c0 c1 c2 c3 c4 f3
  generalize hu2 : u.setCell ⟨g, 3, none⟩ (.int .i64 ((fr : Int) + 1)) = u2 at *
  clear hu2
  obtain ⟨c0, c1, c2, c3, c4⟩ := And.intro (hO2.cget 0 rfl 0).1 (And.intro (hO2.cget 0 rfl 1).1 (And.intro (hO2.cget 0 rfl 2).1 (And.intro (hO2.cget 0 rfl 3).1 (hO2.cget 0 rfl 4).1)))
  simp at c0 c1 c2 c3 c4
  have hsrc := (hO2.row 2 rfl).src'
  have x2 := ((hO2.alloc (.cells #[] 3)).cget 0 rfl 2).1
  simp at x2
  have G := Lib.hid (fun (w3 : World) (h : Own w0 w3 (refL g N (.slice bo 0 bc) [] (.slice tO tk.length tc) tk (fr + 1) pk l)) => And.intro (h.cget 0 rfl 2).1 (h.cget 0 rfl 2).2)
  go_upto_region 10 with (first | (at_builtin; refine wpList_append_copy' _ rfl (.tmp 60) (.tmp 64) 42 rfl 3 i1 (.int .i64 0) 1 8 Try.underlying42 hi1 hw0 hw1' hw2' rfl (by decide) _ (by simp) rfl tO tk.length tc (tk.map (Value.int .i64)) rfl hsrc (by simp [Value.oneCell']) (by unfold maxLen; omega) (by omega) ?_; intro ao2 cap2 w2 hrow hb2 hf2; clear x2 c0 c1 c2 c3 c4) | (at_builtin; refine wpList_append_lit' _ rfl (.tmp 65) (.tmp 67) 42 rfl 3 i1 (.int .i64 0) 1 8 Try.underlying42 hi1 hw0 hw1' hw2' rfl (by decide) (.slice ao2 tk.length cap2) tk.length (tk.map (.int .i64)) rfl hrow #[.int .i64 ((fr : Int) + 1)] _ 1 _ (by simp) rfl rfl (by simp [Value.oneCell']) (by unfold maxLen; omega) (by omega) ?_; intro ao3 cap3 w3 hr3 ht3 hf3; have hb3 := ht3.below hb2 hb2.size hf2; have hf3' : ∀ k, Value.ownBlock (.slice ao3 (tk.length + 1) cap3) = some k → u2.heap.size ≤ k := (fun k hk => (hf3 k hk).elim (fun q => hf2 k q) (fun q => Nat.le_trans hb2.size q)); obtain ⟨g0, g1⟩ := G.out _ (hO2.grow hb3); simp at g0))
  have hO6 := hO2.move 2 rfl (A' := rowA 3 1 (.slice ao3 (tk.length + 1) cap3) (tk.length + 1) (tk.map (Value.int .i64) ++ [Value.int .i64 ((fr : Int) + 1)])) ⟨hr3, Touch.of_below hb3, fun k hk => .inr (hf3' k hk)⟩
  have hO7 : Own w0 (w3.setCell ⟨g, 2, none⟩ (.slice ao3 (tk.length + 1) cap3)) (refL g N (.slice bo 0 bc) [] (.slice ao3 (tk ++ [((fr : Int) + 1)]).length cap3) (tk ++ [((fr : Int) + 1)]) (fr + 1) pk l) := (hO6.cset 0 rfl 2 (.slice ao3 (tk.length + 1) cap3)).cast (by simp [refL])
  clear hO6 hO2 hr3 ht3 hf3 hb3 hf3' hrow hb2 hf2 hsrc g0 g1 G
  generalize w3.setCell ⟨g, 2, none⟩ (.slice ao3 (tk.length + 1) cap3) = u7 at *
  have hO8 := hO7.drewN 1
  have hl1 : (tk ++ [((fr : Int) + 1)]).length = tk.length + 1 := by simp
  obtain ⟨c0, c1, c2, c3, c4⟩ := And.intro (hO7.cget 0 rfl 0).1 (And.intro (hO7.cget 0 rfl 1).1 (And.intro (hO7.cget 0 rfl 2).1 (And.intro (hO7.cget 0 rfl 3).1 (hO7.cget 0 rfl 4).1)))
  simp at c0 c1 c2 c3 c4
  have f4 := (hO7.cget 0 rfl 4).2
  have hO9 : Own w0 (u7.drew.setCell ⟨g, 4, none⟩ (.int .i64 pk')) (refL g N (.slice bo 0 bc) [] (.slice ao3 (tk ++ [((fr : Int) + 1)]).length cap3) (tk ++ [((fr : Int) + 1)]) (fr + 1) pk' l) := hO8.cset 0 rfl 4 (.int .i64 pk')
  replace hO9 := Lib.hid hO9
  clear hO7 hO8 hl1
  go_still_tail 13, (by kernel_rfl)
  go_wp2
  go_ret2
  exact ⟨rfl, _, _, hO9.out⟩

theorem rTake_back {w0 w : World} {g : Nat} {N : Int} {bs tk : List Int} {x : Int} {fr : Nat} {pk : Int} {l : List Ast} (h : ROwn w0 w g N (bs ++ [x]) tk fr pk l) (ht : tk.length ≤ 100000) (hbl : bs.length ≤ 100000) (pk' : Int) (hpk : max pk ((tk.length : Int) + 1) = pk') :
    Calls Try.prog 33 #[.pointer (some ⟨g, 0, none⟩)] w fun e w' => e = .returned (.tuple #[.int .i64 x, .bool true]) ∧ ROwn w0 w' g N bs (tk ++ [x]) fr pk' l := by
  obtain ⟨i1, hi1, hw0, hw1', hw2'⟩ := info_parts' Try.infoIntK
  obtain ⟨bv, tv, hO⟩ := h
  obtain ⟨bo, bc, rfl, b1, b2, _⟩ := (hO.row 1 rfl).shape
  obtain ⟨tO, tc, rfl, t1, t2, _⟩ := (hO.row 2 rfl).shape
  unfold maxLen at t2 b2
  obtain ⟨g3, off3, cap3, hv3, q1, q2, q3, q4⟩ := (hO.row 1 rfl).addr (by simp)
  simp only [Value.slice.injEq] at hv3
  obtain ⟨rfl, _, rfl⟩ := hv3
  have x0 := q3 bs.length (by simp)
  rw [getD_map (by simp)] at x0
  simp at x0
  have hm : Moves (rowA 3 1 (.slice (some ⟨g3, off3, none⟩) (bs ++ [x]).length bc) (bs ++ [x]).length ((bs ++ [x]).map (.int .i64))) (rowA 3 1 (.slice (some ⟨g3, off3, none⟩) bs.length bc) bs.length (bs.map (.int .i64))) w w := ⟨by
    have := (hO.row 1 rfl).take (i := bs.length) (by simp)
    rw [Nat.mul_one, ← List.map_take, List.take_left] at this
    exact this, Touch.refl _ _, fun k hk => .inl hk⟩
  have hO0 : Own w0 w (cellsA g #[.int .i64 N, .slice (some ⟨g3, off3, none⟩) (bs.length + 1) bc, .slice tO tk.length tc, .int .i64 fr, .int .i64 pk] 54 :: rowA 3 1 (.slice (some ⟨g3, off3, none⟩) bs.length bc) bs.length (bs.map (.int .i64)) :: rowA 3 1 (.slice tO tk.length tc) tk.length (tk.map (.int .i64)) :: l) := (hO.move 1 rfl hm).cast (by simp [refL])
  have b1' : bs.length + 1 ≤ bc := by simpa using b1
  clear hO hm q3 q4 q1 q2 b1
  obtain ⟨c0, c1, c2, c3, c4⟩ := And.intro (hO0.cget 0 rfl 0).1 (And.intro (hO0.cget 0 rfl 1).1 (And.intro (hO0.cget 0 rfl 2).1 (And.intro (hO0.cget 0 rfl 3).1 (hO0.cget 0 rfl 4).1)))
  simp at c0 c1 c2 c3 c4
  have e1 : IntKind.i64.wrap (((bs.length : Int) + 1) - 1) = (bs.length : Int) := by rw [show ((bs.length : Int) + 1) - 1 = (bs.length : Int) by omega]; exact IntWalk.i64_in _ (by omega)
  have e2 : IntKind.i64.wrap (bs.length : Int) = (bs.length : Int) := IntWalk.i64_in _ (by omega)
  go_enter Try.func33, Try.ntmps33
  go_wp2_with fail
  go_quiet (fail)
  have hO1 := hO0.drewN nq
  have x1 : (w.drewN nq).cell? ⟨g3, off3 + bs.length, none⟩ = some (.int .i64 x) := x0
  generalize w.drewN nq = u at *
  clear c0 c1 c2 c3 c4 hO0 x0
  obtain ⟨c0, c1, c2, c3, c4⟩ := And.intro (hO1.cget 0 rfl 0).1 (And.intro (hO1.cget 0 rfl 1).1 (And.intro (hO1.cget 0 rfl 2).1 (And.intro (hO1.cget 0 rfl 3).1 (hO1.cget 0 rfl 4).1)))
  simp at c0 c1 c2 c3 c4
  have f1 := (hO1.cget 0 rfl 1).2
  have hO2 : Own w0 (u.setCell ⟨g, 1, none⟩ (.slice (some ⟨g3, off3, none⟩) bs.length bc)).drew (refL g N (.slice (some ⟨g3, off3, none⟩) bs.length bc) bs (.slice tO tk.length tc) tk fr pk l) := (hO1.drewN 1).cset 0 rfl 1 (.slice (some ⟨g3, off3, none⟩) bs.length bc)
  have hz1 : ¬ bc = 0 := by omega
  have hz2 : bs.length ≤ bc := by omega
  go_wp2_with fail
  go_still_tail 14, (by kernel_rfl)
  go_upto_region 9 with (fail)
  clear hO1 c0 c1 c2 c3 c4 f1 x1 e1 e2 hz1 hz2
  generalize hu2 : (u.setCell ⟨g, 1, none⟩ (.slice (some ⟨g3, off3, none⟩) bs.length bc)).drew = u2 at *
  clear hu2
  obtain ⟨c0, c1, c2, c3, c4⟩ := And.intro (hO2.cget 0 rfl 0).1 (And.intro (hO2.cget 0 rfl 1).1 (And.intro (hO2.cget 0 rfl 2).1 (And.intro (hO2.cget 0 rfl 3).1 (hO2.cget 0 rfl 4).1)))
  simp at c0 c1 c2 c3 c4
  have hsrc := (hO2.row 2 rfl).src'
  have x2 := ((hO2.alloc (.cells #[] 3)).cget 0 rfl 2).1
  simp at x2
  have G := Lib.hid (fun (w3 : World) (h : Own w0 w3 (refL g N (.slice (some ⟨g3, off3, none⟩) bs.length bc) bs (.slice tO tk.length tc) tk fr pk l)) => And.intro (h.cget 0 rfl 2).1 (h.cget 0 rfl 2).2)
  go_upto_region 10 with (first | (at_builtin; refine wpList_append_copy' _ rfl (.tmp 60) (.tmp 64) 42 rfl 3 i1 (.int .i64 0) 1 8 Try.underlying42 hi1 hw0 hw1' hw2' rfl (by decide) _ (by simp) rfl tO tk.length tc (tk.map (Value.int .i64)) rfl hsrc (by simp [Value.oneCell']) (by unfold maxLen; omega) (by omega) ?_; intro ao2 cap2 w2 hrow hb2 hf2; clear x2 c0 c1 c2 c3 c4) | (at_builtin; refine wpList_append_lit' _ rfl (.tmp 65) (.tmp 67) 42 rfl 3 i1 (.int .i64 0) 1 8 Try.underlying42 hi1 hw0 hw1' hw2' rfl (by decide) (.slice ao2 tk.length cap2) tk.length (tk.map (.int .i64)) rfl hrow #[.int .i64 x] _ 1 _ (by simp) rfl rfl (by simp [Value.oneCell']) (by unfold maxLen; omega) (by omega) ?_; intro ao3 cap3 w3 hr3 ht3 hf3; have hb3 := ht3.below hb2 hb2.size hf2; have hf3' : ∀ k, Value.ownBlock (.slice ao3 (tk.length + 1) cap3) = some k → u2.heap.size ≤ k := (fun k hk => (hf3 k hk).elim (fun q => hf2 k q) (fun q => Nat.le_trans hb2.size q)); obtain ⟨g0, g1⟩ := G.out _ (hO2.grow hb3); simp at g0))
  have hO6 := hO2.move 2 rfl (A' := rowA 3 1 (.slice ao3 (tk.length + 1) cap3) (tk.length + 1) (tk.map (Value.int .i64) ++ [Value.int .i64 x])) ⟨hr3, Touch.of_below hb3, fun k hk => .inr (hf3' k hk)⟩
  have hO7 : Own w0 (w3.setCell ⟨g, 2, none⟩ (.slice ao3 (tk.length + 1) cap3)) (refL g N (.slice (some ⟨g3, off3, none⟩) bs.length bc) bs (.slice ao3 (tk ++ [x]).length cap3) (tk ++ [x]) fr pk l) := (hO6.cset 0 rfl 2 (.slice ao3 (tk.length + 1) cap3)).cast (by simp [refL])
  clear hO6 hO2 hr3 ht3 hf3 hb3 hf3' hrow hb2 hf2 hsrc g0 g1 G
  generalize w3.setCell ⟨g, 2, none⟩ (.slice ao3 (tk.length + 1) cap3) = u7 at *
  have hO8 := hO7.drewN 1
  have hl1 : (tk ++ [x]).length = tk.length + 1 := by simp
  obtain ⟨c0, c1, c2, c3, c4⟩ := And.intro (hO7.cget 0 rfl 0).1 (And.intro (hO7.cget 0 rfl 1).1 (And.intro (hO7.cget 0 rfl 2).1 (And.intro (hO7.cget 0 rfl 3).1 (hO7.cget 0 rfl 4).1)))
  simp at c0 c1 c2 c3 c4
  have f4 := (hO7.cget 0 rfl 4).2
  have hO9 : Own w0 (u7.drew.setCell ⟨g, 4, none⟩ (.int .i64 pk')) (refL g N (.slice (some ⟨g3, off3, none⟩) bs.length bc) bs (.slice ao3 (tk ++ [x]).length cap3) (tk ++ [x]) fr pk' l) := hO8.cset 0 rfl 4 (.int .i64 pk')
  replace hO9 := Lib.hid hO9
  clear hO7 hO8 hl1
  go_still_tail 13, (by kernel_rfl)
  go_wp2
  go_ret2
  exact ⟨rfl, _, _, hO9.out⟩

theorem rTake_full {w0 w : World} {g : Nat} {N : Int} {tk : List Int} {fr : Nat} {pk : Int} {l : List Ast} (h : ROwn w0 w g N [] tk fr pk l) (hfr : (fr : Int) = N) :
    Calls Try.prog 33 #[.pointer (some ⟨g, 0, none⟩)] w fun e w' => e = .returned (.tuple #[.int .i64 0, .bool false]) ∧ ROwn w0 w' g N [] tk fr pk l := by
  obtain ⟨bv, tv, hO⟩ := h
  obtain ⟨bo, bc, rfl, b1, b2, _⟩ := (hO.row 1 rfl).shape
  obtain ⟨c0, c1, c2, c3, c4⟩ := And.intro (hO.cget 0 rfl 0).1 (And.intro (hO.cget 0 rfl 1).1 (And.intro (hO.cget 0 rfl 2).1 (And.intro (hO.cget 0 rfl 3).1 (hO.cget 0 rfl 4).1)))
  simp at c0 c1 c2 c3 c4
  subst hfr
  have hE := Lib.hid (fun (m : Nat) => hO.drewN m)
  clear hO
  go_enter Try.func33, Try.ntmps33
  go_wp2_with fail
  go_quiet (fail)
  go_wp2
  go_ret2
  exact ⟨rfl, _, _, hE.out _⟩
theorem rHas {w0 w : World} {g : Nat} {N : Int} {bs tk : List Int} {fr : Nat} {pk : Int} {l : List Ast} (h : ROwn w0 w g N bs tk fr pk l) : ∃ tv tc, w.cell? ⟨g, 2, none⟩ = some (.slice tv tk.length tc) ∧ Lies w tv tc tk := by
  obtain ⟨bv, tv, hO⟩ := h
  obtain ⟨tO, tc, rfl, t1, t2, _⟩ := (hO.row 2 rfl).shape
  exact ⟨tO, tc, (hO.cget 0 rfl 2).1, Lies.of_row (hO.row 2 rfl) rfl⟩
theorem rGive_no {w0 w : World} {g : Nat} {N : Int} {bs tk : List Int} {fr : Nat} {pk : Int} {l : List Ast} (h : ROwn w0 w g N bs tk fr pk l) (x : Int) (hx : decide (x ∈ tk) = false) :
    Calls Try.prog 35 #[.pointer (some ⟨g, 0, none⟩), .int .i64 x] w fun e w' => e = .returned (.bool false) ∧ w = w' := by
  obtain ⟨tv, tc, c2, hL⟩ := rHas h
  have H := Lib.hid (has_any hL x false hx)
  clear h hL hx
  go_enter Try.func35, Try.ntmps35
  go_wp2_with (first | (go_at_call 39; refine H.out.mono ?_; rintro e w5 ⟨rfl, rfl⟩))
  go_ret
  exact ⟨rfl, rfl⟩
theorem Own.perm {w0 w : World} {l l' : List Ast} (h : Own w0 w l) (hp : l.Perm l') : Own w0 w l' :=
  ⟨h.below, fun A hA => h.all A (hp.mem_iff.2 hA), fun A hA => h.own A (hp.mem_iff.2 hA), (hp.pairwise_iff (fun {A B} hab k hB hA => hab k hA hB)).1 h.sep⟩
def without (tk : List Int) (x : Int) : List Int := tk.filter fun y => y != x
theorem without_snoc {tk : List Int} {x : Int} {k : Nat} (hk : k < tk.length) : without (tk.take (k + 1)) x = if tk.getD k 0 = x then without (tk.take k) x else without (tk.take k) x ++ [tk.getD k 0] := by
  have e : tk.getD k 0 = tk[k] := by rw [List.getD_eq_getElem?_getD, List.getElem?_eq_getElem hk]; rfl
  rw [List.take_succ_eq_append_getElem hk, without, List.filter_append, e]
  by_cases h : tk[k] = x
  · rw [if_pos h]; simp [h, without]
  · rw [if_neg h]; simp [h, without]
theorem without_length (tk : List Int) (x : Int) : (without tk x).length ≤ tk.length := List.length_filter_le _ _
theorem rGive_yes {w0 w : World} {g : Nat} {N : Int} {bs tk : List Int} {fr : Nat} {pk : Int} {l : List Ast} (h : ROwn w0 w g N bs tk fr pk l) (ht : tk.length ≤ 100000) (hbl : bs.length ≤ 100000) (x : Int) (hx : decide (x ∈ tk) = true) :
    Calls Try.prog 35 #[.pointer (some ⟨g, 0, none⟩), .int .i64 x] w fun e w' => e = .returned (.bool true) ∧ ROwn w0 w' g N (bs ++ [x]) (without tk x) fr pk l := by
  obtain ⟨i1, hi1, hw0, hw1', hw2'⟩ := info_parts' Try.infoIntK
  obtain ⟨bv, tv, hO⟩ := h
  obtain ⟨bo, bc, rfl, b1, b2, _⟩ := (hO.row 1 rfl).shape
  obtain ⟨tO, tc, rfl, t1, t2, _⟩ := (hO.row 2 rfl).shape
  unfold maxLen at t2 b2
  have H := Lib.hid (has_any (Lies.of_row (hO.row 2 rfl) rfl) x true hx)
  obtain ⟨c0, c1, c2, c3, c4⟩ := And.intro (hO.cget 0 rfl 0).1 (And.intro (hO.cget 0 rfl 1).1 (And.intro (hO.cget 0 rfl 2).1 (And.intro (hO.cget 0 rfl 3).1 (hO.cget 0 rfl 4).1)))
  simp at c0 c1 c2 c3 c4
  clear hx
  have hO0 : Own w0 w (rowA 3 1 (.slice none 0 0) (without (tk.take 0) x).length ((without (tk.take 0) x).map (.int .i64)) :: refL g N (.slice bo bs.length bc) bs (.slice tO tk.length tc) tk fr pk l) := (hO.push (Below.refl _ _) (rowA 3 1 (.slice none 0 0) 0 []) (Row.nil _ _ _) (by simp [rowA, Value.ownBlock])).perm (List.perm_append_singleton _ _)
  clear hO
  go_enter Try.func35, Try.ntmps35
  go_wp2_with (first | (go_at_call 39; refine H.out.mono ?_; rintro e w5 ⟨rfl, rfl⟩))
  clear H c0 c1 c2 c3 c4
  go_loopw [5, 6] (fun v i wr => ∃ (k m : Nat) (fo : Option Addr) (fc : Nat), k ≤ tk.length ∧ i = .int .i64 k ∧ v = .slice fo m fc ∧ Hid (m = (without (tk.take k) x).length) ∧ Own w0 wr (rowA 3 1 (.slice fo m fc) m ((without (tk.take k) x).map (.int .i64)) :: refL g N (.slice bo bs.length bc) bs (.slice tO tk.length tc) tk fr pk l)) (fun _ i _ => (tk.length - intOf i).toNat)
  case atStart => exact ⟨0, 0, none, 0, by omega, rfl, rfl, Lib.hid (by simp [without]), hO0⟩
  case round =>
    clear hO0
    obtain ⟨k, m, fo, fc, hk, rfl, rfl, hm, hO⟩ := hrel
    have c2 := (hO.cget 1 rfl 2).1
    simp at c2
    have hml : m ≤ 100000 := by
      have := without_length (tk.take k) x
      rw [hm.out]; simp at this; omega
    by_cases hlt : k < tk.length
    · have hsn := without_snoc (x := x) hlt
      obtain ⟨g3, off3, cap3, hv3, q1, q2, q3, q4⟩ := (hO.row 3 rfl).addr (by omega)
      simp only [Value.slice.injEq] at hv3
      obtain ⟨rfl, _, rfl⟩ := hv3
      have x0 := q3 k (by omega)
      rw [getD_map hlt] at x0
      clear q3 q4
      by_cases hq : tk.getD k 0 = x
      · rw [if_pos hq] at hsn
        rw [hq] at x0
        replace hsn := Lib.hid hsn
        clear hq
        go_wp2
        go_roundw
        case rel => exact ⟨k + 1, m, fo, fc, by omega, by go_num, rfl, Lib.hid (by rw [hsn.out]; exact hm.out), by rw [hsn.out]; exact hO⟩
        case measure => simp [intOf]; omega
      · rw [if_neg hq] at hsn
        replace hsn := Lib.hid hsn
        generalize tk.getD k 0 = X at *
        have hq' : (X == x) = false := by simp [hq]
        have hr3 := hO.row 0 rfl
        go_wp2_with (first | (at_builtin; refine wpList_append_lit' _ rfl (.tmp 32) (.tmp 40) 42 rfl 3 i1 (.int .i64 0) 1 8 Try.underlying42 hi1 hw0 hw1' hw2' rfl (by decide) (.slice fo m fc) m ((without (tk.take k) x).map (.int .i64)) rfl hr3 #[.int .i64 X] _ 1 _ rfl rfl rfl (by simp [Value.oneCell']) (by unfold maxLen; omega) (by omega) ?_; intro ao2 cap2 wz hr2 ht2 hf2))
        have hO9 := hO.move 0 rfl (Moves.of_append hr2 ht2 hf2)
        go_roundw
        case rel => exact ⟨k + 1, m + 1, ao2, cap2, by omega, by go_num, rfl, Lib.hid (by rw [hsn.out, List.length_append, ← hm.out]; rfl), hO9.cast (by rw [hsn.out, List.map_append]; rfl)⟩
        case measure => simp [intOf]; omega
    · obtain rfl : k = tk.length := by omega
      rw [List.take_length] at hO hm
      have f2 := (hO.cget 1 rfl 2).2
      have hO1 : Own w0 (wr.setCell ⟨g, 2, none⟩ (.slice fo m fc)) (cellsA g #[.int .i64 N, .slice bo bs.length bc, .slice fo m fc, .int .i64 fr, .int .i64 pk] 54 :: rowA 3 1 (.slice bo bs.length bc) bs.length (bs.map (.int .i64)) :: rowA 3 1 (.slice fo m fc) m ((without tk x).map (.int .i64)) :: l) := by
        have q := (hO.cset 1 rfl 2 (.slice fo m fc)).sub (l' := rowA 3 1 (.slice fo m fc) m ((without tk x).map (.int .i64)) :: cellsA g #[.int .i64 N, .slice bo bs.length bc, .slice fo m fc, .int .i64 fr, .int .i64 pk] 54 :: rowA 3 1 (.slice bo bs.length bc) bs.length (bs.map (.int .i64)) :: l) (.cons_cons _ (.cons_cons _ (.cons_cons _ (.cons _ (List.Sublist.refl _)))))
        exact q.perm ((List.Perm.swap _ _ _).trans (.cons _ (.swap _ _ _)))
      go_upto_region 10 with (fail)
      clear hO f2 c2
      generalize wr.setCell ⟨g, 2, none⟩ (.slice fo m fc) = u2 at *
      obtain ⟨c0, c1, c2, c3, c4⟩ := And.intro (hO1.cget 0 rfl 0).1 (And.intro (hO1.cget 0 rfl 1).1 (And.intro (hO1.cget 0 rfl 2).1 (And.intro (hO1.cget 0 rfl 3).1 (hO1.cget 0 rfl 4).1)))
      simp at c0 c1 c2 c3 c4
      have hsrc := (hO1.row 1 rfl).src'
      have x2 := ((hO1.alloc (.cells #[] 3)).cget 0 rfl 1).1
      simp at x2
      have G := Lib.hid (fun (w3 : World) (h : Own w0 w3 (cellsA g #[.int .i64 N, .slice bo bs.length bc, .slice fo m fc, .int .i64 fr, .int .i64 pk] 54 :: rowA 3 1 (.slice bo bs.length bc) bs.length (bs.map (.int .i64)) :: rowA 3 1 (.slice fo m fc) m ((without tk x).map (.int .i64)) :: l)) => And.intro (h.cget 0 rfl 1).1 (h.cget 0 rfl 1).2)
      go_wp2_with (first | (at_builtin; refine wpList_append_copy' _ rfl (.tmp 47) (.tmp 51) 42 rfl 3 i1 (.int .i64 0) 1 8 Try.underlying42 hi1 hw0 hw1' hw2' rfl (by decide) _ (by simp) rfl bo bs.length bc (bs.map (Value.int .i64)) rfl hsrc (by simp [Value.oneCell']) (by unfold maxLen; omega) (by omega) ?_; intro ao2 cap2 w2 hrow hb2 hf2; clear x2 c0 c1 c2 c3 c4) | (at_builtin; refine wpList_append_lit' _ rfl (.tmp 52) (.tmp 54) 42 rfl 3 i1 (.int .i64 0) 1 8 Try.underlying42 hi1 hw0 hw1' hw2' rfl (by decide) (.slice ao2 bs.length cap2) bs.length (bs.map (.int .i64)) rfl hrow #[.int .i64 x] _ 1 _ (by simp) rfl rfl (by simp [Value.oneCell']) (by unfold maxLen; omega) (by omega) ?_; intro ao3 cap3 w3 hr3 ht3 hf3; have hb3 := ht3.below hb2 hb2.size hf2; have hf3' : ∀ k, Value.ownBlock (.slice ao3 (bs.length + 1) cap3) = some k → u2.heap.size ≤ k := (fun k hk => (hf3 k hk).elim (fun q => hf2 k q) (fun q => Nat.le_trans hb2.size q)); obtain ⟨g0, g1⟩ := G.out _ (hO1.grow hb3); simp at g0))
      have hO6 := hO1.move 1 rfl (A' := rowA 3 1 (.slice ao3 (bs.length + 1) cap3) (bs.length + 1) (bs.map (Value.int .i64) ++ [Value.int .i64 x])) ⟨hr3, Touch.of_below hb3, fun k hk => .inr (hf3' k hk)⟩
      have hO7 : Own w0 (w3.setCell ⟨g, 1, none⟩ (.slice ao3 (bs.length + 1) cap3)) (refL g N (.slice ao3 (bs.length + 1) cap3) (bs ++ [x]) (.slice fo m fc) (without tk x) fr pk l) := (hO6.cset 0 rfl 1 (.slice ao3 (bs.length + 1) cap3)).cast (by simp [refL, hm.out])
      go_ret
      exact ⟨rfl, _, _, hO7⟩
end Go.Proofs.Ytbadinmlnbabiaa
