/- Package arena's numbers, told one after the other to a function of the law's own. -/
import Derived.Test.YtbadinmlnbabiaaArenaRef
set_option linter.unusedVariables false
set_option linter.unusedSimpArgs false
namespace Go.Proofs.Ytbadinmlnbabiaa
open Go.RowKit
theorem trues_prefix (hs : List Bool) {k n : Nat} (h : k ≤ n) : trues hs k <+: trues hs n := by
  induction n with
  | zero => obtain rfl : k = 0 := by omega
            exact List.prefix_refl _
  | succ n ih =>
    by_cases hk : k = n + 1
    · subst hk; exact List.prefix_refl _
    · refine (ih (by omega)).trans ?_
      rw [trues_succ]
      split
      · exact List.prefix_append _ _
      · exact List.prefix_refl _
theorem trues_cut {hs : List Bool} {k n m : Nat} (h : k ≤ n) (hl : (trues hs k).length = m) : trues hs k = (trues hs n).take m := by
  obtain ⟨t, ht⟩ := trues_prefix hs h
  rw [← ht, ← hl, List.take_left]
def allS (lb : Nat) (lv : Value) (xs : List Int) (mb m : Nat) (l : List Ast) : List Ast :=
  cellsA lb #[lv] 42 :: rowA 3 1 lv xs.length (xs.map (.int .i64)) :: cellsA mb #[.int .i64 m] 3 :: l
def AllOwn (w0 w : World) (lb : Nat) (xs : List Int) (mb m : Nat) (l : List Ast) : Prop := ∃ lv, Own w0 w (allS lb lv xs mb m l)
set_option maxRecDepth 100000
set_option maxHeartbeats 4000000
theorem all_yield {w0 w : World} {lb : Nat} {xs : List Int} {mb m : Nat} {l : List Ast} (h : AllOwn w0 w lb xs mb m l) (hx : xs.length ≤ 100000) (hm : m ≤ 100000) (x : Int) (t : Bool) (ht : decide (((xs.length : Int) + 1) < m) = t) :
    Calls Try.prog 64 #[.int .i64 x, .pointer (some ⟨lb, 0, none⟩), .pointer (some ⟨mb, 0, none⟩)] w fun e w' => e = .returned (.bool t) ∧ AllOwn w0 w' lb (xs ++ [x]) mb m l := by
  obtain ⟨i1, hi1, hw0, hw1', hw2'⟩ := info_parts' Try.infoIntK
  obtain ⟨lv, hO⟩ := h
  obtain ⟨so, sc, rfl, s1, s2, s3⟩ := (hO.row 1 rfl).shape
  unfold maxLen at s2
  have c0 := (hO.cget 0 rfl 0).1
  simp at c0
  have hr := hO.row 1 rfl
  have hE := Lib.hid (fun (w2 : World) (ao2 : Option Addr) (cap2 : Nat) (hr2 : Row w2 3 1 (.slice ao2 (xs.length + 1) cap2) (xs.length + 1) (xs.map (.int .i64) ++ [.int .i64 x])) (ht2 : Touch (fun k => Value.ownBlock (.slice so xs.length sc) = some k) w w2) (hf2 : ∀ k, Value.ownBlock (.slice ao2 (xs.length + 1) cap2) = some k → Value.ownBlock (.slice so xs.length sc) = some k ∨ w.heap.size ≤ k) =>
    show (∃ v, w2.cell? ⟨lb, 0, none⟩ = some v) ∧ w2.frozen? ⟨lb, 0, none⟩ = false ∧ w2.cell? ⟨mb, 0, none⟩ = some (.int .i64 m) ∧ (w2.setCell ⟨lb, 0, none⟩ (.slice ao2 (xs.length + 1) cap2)).cell? ⟨lb, 0, none⟩ = some (.slice ao2 (xs.length + 1) cap2) ∧ (w2.setCell ⟨lb, 0, none⟩ (.slice ao2 (xs.length + 1) cap2)).cell? ⟨mb, 0, none⟩ = some (.int .i64 m) ∧ AllOwn w0 (w2.setCell ⟨lb, 0, none⟩ (.slice ao2 (xs.length + 1) cap2)) lb (xs ++ [x]) mb m l by
      have q := hO.move 1 rfl (Moves.of_append hr2 ht2 hf2)
      have q2 := q.cset 0 rfl 0 (.slice ao2 (xs.length + 1) cap2)
      exact ⟨⟨_, (q.cget 0 rfl 0).1⟩, (q.cget 0 rfl 0).2, (q.cget 2 rfl 0).1, (q2.cget 0 rfl 0).1, (q2.cget 2 rfl 0).1, .slice ao2 (xs.length + 1) cap2, q2.cast (by simp [allS])⟩)
  clear hO
  go_enter Try.func64, Try.ntmps64
  go_wp2_with (first | (at_builtin; refine wpList_append_lit' _ rfl (.tmp 5) (.tmp 7) 42 rfl 3 i1 (.int .i64 0) 1 8 Try.underlying42 hi1 hw0 hw1' hw2' rfl (by decide) (.slice so xs.length sc) xs.length (xs.map (.int .i64)) rfl hr #[.int .i64 x] _ 1 _ rfl rfl rfl (by simp [Value.oneCell']) (by unfold maxLen; omega) (by omega) ?_; intro ao2 cap2 w2 hr2 ht2 hf2; obtain ⟨⟨v, d0⟩, d1, d2, d3, d4, hE2⟩ := hE.out _ _ _ hr2 ht2 hf2))
  go_ret
  exact ⟨rfl, hE2⟩
theorem all1_plain {w0 w : World} {lb : Nat} {mb m Bs g hb : Nat} {bv : Value} {hs : List Bool} {bs : List Int} {fr : Nat} {pk : Int} {l : List Ast} (h : AllOwn w0 w lb [] mb m (cellsA Bs #[.pointer (some ⟨g, 0, none⟩)] 44 :: arenaL g hb bv hs bs fr pk l)) (hl : hs.length ≤ 4096) (hm : m ≤ 100000) :
    Calls Try.prog 69 #[.func (.func 64) #[] #[.pointer (some ⟨lb, 0, none⟩), .pointer (some ⟨mb, 0, none⟩)], .pointer (some ⟨Bs, 0, none⟩)] w fun e w' => e = .returned (.tuple #[]) ∧ AllOwn w0 w' lb ((trues hs hs.length).take (max m 1)) mb m (cellsA Bs #[.pointer (some ⟨g, 0, none⟩)] 44 :: arenaL g hb bv hs bs fr pk l) := by
  have F := Lib.hid (fun (w5 : World) (xs : List Int) (h : AllOwn w0 w5 lb xs mb m (cellsA Bs #[.pointer (some ⟨g, 0, none⟩)] 44 :: arenaL g hb bv hs bs fr pk l)) => show w5.cell? ⟨Bs, 0, none⟩ = some (.pointer (some ⟨g, 0, none⟩)) ∧ w5.cell? ⟨g, 0, none⟩ = some (.slice (some ⟨hb, 0, none⟩) hs.length hs.length) ∧ ∀ k, k < hs.length → w5.cell? ⟨hb, k, none⟩ = some (.bool (hs.getD k false)) from h.elim fun lv h => ⟨(h.cget 3 rfl 0).1, (h.cget 4 rfl 0).1, fun k hk => h.row_get 5 rfl (bool_map hk)⟩)
  obtain ⟨c0, c1, _⟩ := F.out _ _ h
  go_enter Try.func69, Try.ntmps69
  go_wp2_with fail
  clear c0 c1
  go_loopw [12] (fun i wr => ∃ k : Nat, k ≤ hs.length ∧ i = .int .i64 k ∧ Hid (trues hs k = [] ∨ (trues hs k).length < m) ∧ AllOwn w0 wr lb (trues hs k) mb m (cellsA Bs #[.pointer (some ⟨g, 0, none⟩)] 44 :: arenaL g hb bv hs bs fr pk l)) (fun i _ => (hs.length - intOf i).toNat)
  case atStart => exact ⟨0, by omega, rfl, Lib.hid (.inl rfl), h⟩
  case round =>
    clear h
    obtain ⟨k, hk, rfl, hT, hO⟩ := hrel
    have hll := trues_length hs k
    by_cases hlt : k < hs.length
    · obtain ⟨d0, d1, c2f⟩ := F.out _ _ hO
      have c2 := c2f k hlt
      clear c2f
      have hsn := trues_succ hs k
      cases hq : hs.getD k false with
      | true =>
        rw [hq] at c2
        rw [hq, if_pos rfl] at hsn
        by_cases hmm : (trues hs k).length + 1 < m
        · have Y := all_yield hO (by omega) hm (k : Int) true (by simp; omega)
          rw [← hsn] at Y
          have hT' := Lib.hid (show trues hs (k + 1) = [] ∨ (trues hs (k + 1)).length < m from .inr (by rw [hsn, List.length_append]; simpa using hmm))
          replace Y := Lib.hid Y
          clear hsn hq
          go_wp2_with (first | (go_at_call 64; refine Y.out.mono ?_; rintro e w5 ⟨rfl, h5⟩))
          go_roundw
          case rel => exact ⟨k + 1, by omega, by go_num, hT', h5⟩
          case measure => simp [intOf]; omega
        · have Y := all_yield hO (by omega) hm (k : Int) false (by simp; omega)
          rw [← hsn] at Y
          have hl2 : (trues hs (k + 1)).length = max m 1 := by
            rw [hsn, List.length_append]
            rcases hT.out with q | q
            · rw [q] at hmm ⊢; simp at hmm ⊢; omega
            · simp; omega
          rw [trues_cut (hs := hs) (n := hs.length) (by omega) hl2] at Y
          replace Y := Lib.hid Y
          clear hsn hq hl2
          go_wp2_with (first | (go_at_call 64; refine Y.out.mono ?_; rintro e w5 ⟨rfl, h5⟩))
          refine bodyPost_ret (results_none rfl _ _ _) rfl ?_
          exact ⟨rfl, h5⟩
      | false =>
        rw [hq] at c2
        rw [hq, if_neg (by simp)] at hsn
        have hT' := Lib.hid (show trues hs (k + 1) = [] ∨ (trues hs (k + 1)).length < m by rw [hsn]; exact hT.out)
        rw [← hsn] at hO
        clear hsn hq
        go_wp2_with fail
        go_roundw
        case rel => exact ⟨k + 1, by omega, by go_num, hT', hO⟩
        case measure => simp [intOf]; omega
    · obtain rfl : k = hs.length := by omega
      rw [show trues hs hs.length = (trues hs hs.length).take (max m 1) by
        rw [List.take_of_length_le]
        rcases hT.out with q | q
        · rw [q]; simp
        · omega] at hO
      go_wp2_with fail
      go_end0
      exact ⟨rfl, hO⟩
theorem All_any (p : Option Addr) (w : World) : Calls Try.prog 63 #[.pointer p] w fun e w' => e = .returned (.func (.func 69) #[] #[.pointer (some ⟨w.heap.size, 0, none⟩)]) ∧ w.alloc (.cells #[.pointer p] 44) = w' := by
  go_enter Try.func63, Try.ntmps63
  go_wp2
  go_ret
  exact ⟨rfl, rfl⟩
theorem eachHook : ∀ (c : Nat) w, Sem.run Try.prog (binOp BinOp.eql 89 (.func (.func 69) #[] #[.pointer (some ⟨c, 0, none⟩)]) Value.nilFunc) w = .ok (.bool false) w := fun c w => by kernel_rfl
theorem all_own10 {w0 w : World} {g hb : Nat} {hs : List Bool} {bs : List Int} {fr : Nat} {pk : Int} {l : List Ast} (h : AOwn w0 w g hb hs bs fr pk l) (hl : hs.length ≤ 4096) (m : Nat) (hm : m ≤ 100000) (ys : List Int) (hys : (trues hs hs.length).take (max m 1) = ys) :
    Calls Try.prog 42 #[.pointer (some ⟨g, 0, none⟩), .int .i64 m] w fun e w' => ∃ ao c, e = .returned (.slice ao ys.length c) ∧ ∃ bv, Own w0 w' (rowA 3 1 (.slice ao ys.length c) ys.length (ys.map (.int .i64)) :: arenaL g hb bv hs bs fr pk l) := by
  obtain ⟨bv, hO⟩ := h
  have h1 := hO.box #[.int .i64 m] 3
  have h2 := h1.box #[.slice none 0 0] 42
  have h3 := h2.box #[.pointer (some ⟨g, 0, none⟩)] 44
  simp only [World.size_alloc] at h2 h3
  have h4 := h3.push (Below.refl _ _) (rowA 3 1 (.slice none 0 0) 0 []) (Row.nil _ _ _) (by simp [rowA, Value.ownBlock])
  have h5 : AllOwn w0 (((w.alloc (.cells #[.int .i64 m] 3)).alloc (.cells #[.slice none 0 0] 42)).alloc (.cells #[.pointer (some ⟨g, 0, none⟩)] 44)) (w.heap.size + 1) [] w.heap.size m (cellsA (w.heap.size + 1 + 1) #[.pointer (some ⟨g, 0, none⟩)] 44 :: arenaL g hb bv hs bs fr pk l) := by
    refine ⟨.slice none 0 0, h4.perm ?_⟩
    simp only [List.append_assoc, List.cons_append, List.nil_append]
    exact List.perm_append_comm.trans (((List.Perm.swap _ _ _).trans (.cons _ ((List.Perm.cons _ (.swap _ _ _)).trans (.swap _ _ _)))).trans (.cons _ (.cons _ (.refl _))) |>.append_right _)
  have E := all1_plain h5 hl hm
  rw [hys] at E
  have R := Lib.hid (fun (w5 : World) (h : AllOwn w0 w5 (w.heap.size + 1) ys w.heap.size m (cellsA (w.heap.size + 1 + 1) #[.pointer (some ⟨g, 0, none⟩)] 44 :: arenaL g hb bv hs bs fr pk l)) => show ∃ ao c, w5.cell? ⟨w.heap.size + 1, 0, none⟩ = some (.slice ao ys.length c) ∧ Own w0 w5 (rowA 3 1 (.slice ao ys.length c) ys.length (ys.map (.int .i64)) :: arenaL g hb bv hs bs fr pk l) by
    obtain ⟨lv, h⟩ := h
    obtain ⟨ao, c, rfl, _, _, _⟩ := (h.row 1 rfl).shape
    exact ⟨ao, c, (h.cget 0 rfl 0).1, h.sub (.cons _ (.cons_cons _ (.cons _ (.cons _ (List.Sublist.refl _)))))⟩)
  have hrun := eachHook
  replace E := Lib.hid E
  clear h1 h2 h3 h4 h5 hys hO
  go_enter Try.func42, Try.ntmps42
  go_wp2_with (first | (go_at_call 63; refine (All_any _ _).mono ?_; rintro e w5 ⟨rfl, rfl⟩) | (go_at_call 69; refine E.out.mono ?_; rintro e w6 ⟨rfl, h6⟩; obtain ⟨ao, c, d0, hR⟩ := R.out _ h6))
  go_ret
  exact ⟨ao, c, rfl, bv, hR⟩
theorem all1_none {w : World} {Bs : Nat} {f : Value} (h : w.cell? ⟨Bs, 0, none⟩ = some (.pointer none)) : Calls Try.prog 69 #[f, .pointer (some ⟨Bs, 0, none⟩)] w fun e w' => e = .returned (.tuple #[]) ∧ w = w' := by
  go_enter Try.func69, Try.ntmps69
  go_wp2
  refine bodyPost_ret (results_none rfl _ _ _) rfl ?_
  exact ⟨rfl, rfl⟩
theorem all_none10 (m : Int) (w : World) : Calls Try.prog 42 #[.pointer none, .int .i64 m] w fun e w' => e = .returned (.slice none 0 0) ∧ Below w.heap.size w w' := by
  have hrun := eachHook
  have c0 : (((w.alloc (.cells #[.int .i64 m] 3)).alloc (.cells #[.slice none 0 0] 42)).alloc (.cells #[.pointer none] 44)).cell? ⟨w.heap.size + 1 + 1, 0, none⟩ = some (.pointer none) := by
    have := cell_alloc_at ((w.alloc (.cells #[.int .i64 m] 3)).alloc (.cells #[.slice none 0 0] 42)) #[.pointer none] 44 (0, 0) 0
    simpa using this
  have E := Lib.hid (fun f => all1_none (f := f) c0)
  clear c0
  go_enter Try.func42, Try.ntmps42
  go_wp2_with (first | (go_at_call 63; refine (All_any _ _).mono ?_; rintro e w5 ⟨rfl, rfl⟩) | (go_at_call 69; refine (E.out _).mono ?_; rintro e w6 ⟨rfl, rfl⟩))
  go_ret
  exact ⟨rfl, by go_grown⟩
theorem rising_any {ao : Option Addr} {c : Nat} {tk : List Int} {w : World} (hL : Lies w ao c tk) (hs : List Bool) (m : Nat) (hm : m ≤ 1000) (hh : ∀ j : Nat, decide ((j : Int) ∈ tk) = hs.getD j false) (h0 : hs.getD 0 false = false) :
    Calls Try.prog 40 #[.slice ao tk.length c, .int .i64 m] w fun e w' => ∃ ao' c', e = .returned (.slice ao' (trues hs (m + 1)).length c') ∧ Row w' 3 1 (.slice ao' (trues hs (m + 1)).length c') (trues hs (m + 1)).length ((trues hs (m + 1)).map (.int .i64)) ∧ (∀ k, Value.ownBlock (.slice ao' (trues hs (m + 1)).length c') = some k → w.heap.size ≤ k) ∧ Below w.heap.size w w' := by
  obtain ⟨i1, hi1, hw0, hw1', hw2'⟩ := info_parts' Try.infoIntK
  replace hh := Lib.hid hh
  have h01 := Lib.hid (show trues hs (0 + 1) = [] by rw [trues_succ, h0, if_neg (by simp)]; rfl)
  have hLw := Lib.hid (fun (w1 : World) (h : Below w.heap.size w w1) => hL.below h)
  have hO0 : Own w w [rowA 3 1 (.slice none 0 0) 0 []] := (Own.nil (Below.refl _ _)).push (Below.refl _ _) (rowA 3 1 (.slice none 0 0) 0 []) (Row.nil _ _ _) (by simp [rowA, Value.ownBlock])
  clear h0
  go_enter Try.func40, Try.ntmps40
  go_wp2
  go_loopw [5, 6] (fun v i wr => ∃ (k n : Nat) (fo : Option Addr) (fc : Nat), k ≤ m ∧ i = .int .i64 ((k : Int) + 1) ∧ v = .slice fo n fc ∧ Hid (n = (trues hs (k + 1)).length) ∧ Own w wr [rowA 3 1 (.slice fo n fc) n ((trues hs (k + 1)).map (.int .i64))]) (fun _ i _ => (m + 1 - intOf i).toNat)
  case atStart => exact ⟨0, 0, none, 0, by omega, rfl, rfl, Lib.hid (by rw [h01.out]; rfl), by rw [h01.out]; exact hO0⟩
  case round =>
    clear hO0 h01
    obtain ⟨k, n, fo, fc, hk, rfl, rfl, hn, hO⟩ := hrel
    have hnl : n ≤ 1001 := by
      have := trues_length hs (k + 1)
      rw [hn.out]; omega
    by_cases hlt : k < m
    · have hsn := trues_succ hs (k + 1)
      have hhk := hh.out (k + 1)
      rw [show ((k + 1 : Nat) : Int) = (k : Int) + 1 by omega] at hhk hsn
      have H := Lib.hid (has_any (hLw.out _ hO.below) ((k : Int) + 1) _ hhk)
      cases hq : hs.getD (k + 1) false with
      | true =>
        rw [hq] at H
        rw [hq, if_pos rfl] at hsn
        replace hsn := Lib.hid hsn
        have hr3 := hO.row 0 rfl
        obtain ⟨_, _, q0, s1, s2, s3⟩ := hr3.shape
        simp only [Value.slice.injEq] at q0
        obtain ⟨rfl, _, rfl⟩ := q0
        clear hq hhk
        go_wp2_with (first | (go_at_call 39; refine H.out.mono ?_; rintro e w5 ⟨rfl, rfl⟩) | (at_builtin; refine wpList_append_lit' _ rfl (.tmp 15) (.tmp 17) 42 rfl 3 i1 (.int .i64 0) 1 8 Try.underlying42 hi1 hw0 hw1' hw2' rfl (by decide) (.slice fo n fc) n ((trues hs (k + 1)).map (.int .i64)) rfl hr3 #[.int .i64 ((k : Int) + 1)] _ 1 _ rfl rfl rfl (by simp [Value.oneCell']) (by unfold maxLen; omega) (by omega) ?_; intro ao2 cap2 wz hr2 ht2 hf2))
        have hO9 := hO.move 0 rfl (Moves.of_append hr2 ht2 hf2)
        go_roundw
        case rel => exact ⟨k + 1, n + 1, ao2, cap2, by omega, by go_num, rfl, Lib.hid (by rw [hsn.out, List.length_append, ← hn.out]; rfl), hO9.cast (by rw [hsn.out, List.map_append]; rfl)⟩
        case measure => simp [intOf]; omega
      | false =>
        rw [hq] at H
        rw [hq, if_neg (by simp)] at hsn
        rw [← hsn] at hO hn
        clear hq hhk hsn
        go_wp2_with (first | (go_at_call 39; refine H.out.mono ?_; rintro e w5 ⟨rfl, rfl⟩))
        go_roundw
        case rel => exact ⟨k + 1, n, fo, fc, by omega, by go_num, rfl, hn, hO⟩
        case measure => simp [intOf]; omega
    · obtain rfl : k = m := by omega
      have hE := Lib.hid (show ∃ ao' c', Value.slice fo n fc = .slice ao' (trues hs (k + 1)).length c' ∧ Row wr 3 1 (.slice ao' (trues hs (k + 1)).length c') (trues hs (k + 1)).length ((trues hs (k + 1)).map (.int .i64)) ∧ (∀ k', Value.ownBlock (.slice ao' (trues hs (k + 1)).length c') = some k' → w.heap.size ≤ k') ∧ Below w.heap.size w wr by
        rw [← hn.out]
        exact ⟨fo, fc, rfl, hO.row 0 rfl, hO.own _ (List.mem_of_getElem? (i := 0) rfl), hO.below⟩)
      go_wp2
      go_ret
      obtain ⟨a, b, c, d⟩ := hE.out
      exact ⟨a, b, by rw [c]; rfl, d⟩
end Go.Proofs.Ytbadinmlnbabiaa
