/- Package model: what is taken from either end. -/
import Derived.Test.YtofnjapgacgdlaaModel
set_option linter.unusedVariables false
set_option linter.unusedSimpArgs false
namespace Go.Proofs.Ytofnjapgacgdlaa
open Go.RowKit
set_option maxRecDepth 100000
set_option maxHeartbeats 8000000
theorem map_erase (xs : List Int) (i : Nat) : ((xs.map (Value.int .i64)).take i ++ (xs.map (Value.int .i64)).drop (i + 1)) = (xs.eraseIdx i).map (.int .i64) := by
  rw [List.eraseIdx_eq_take_drop_succ, List.map_append, List.map_take, List.map_drop]
theorem one_cells (xs : List Int) : ∀ u ∈ xs.map (Value.int .i64), u.oneCell' = true := fun u hu => by
  obtain ⟨x, _, rfl⟩ := List.mem_map.1 hu
  rfl
theorem dTake {w0 w : World} {db : Nat} {M : Int} {xs : List Int} {l : List Ast} (h : DOwn w0 w db M xs l) (i : Nat) (hi : i < xs.length) (hM : xs.length ≤ 1000) : Calls Try.prog 41 #[.pointer (some ⟨db, 0, none⟩), .int .i64 i] w fun e w' => e = .returned (.int .i64 (xs.getD i 0)) ∧ DOwn w0 w' db M (xs.eraseIdx i) l := by
  obtain ⟨i1, hi1, hw0, hw1', hw2'⟩ := info_parts' Try.infoIntM
  obtain ⟨bv, hO⟩ := h
  obtain ⟨g3, off3, cap3, rfl, b1, b2, q3, q4⟩ := (hO.row 1 rfl).addr (show 0 < xs.length by omega)
  unfold maxLen at b2
  have c0 := (hO.cget 0 rfl 0).1
  simp at c0
  have x0 := q3 i (by omega)
  rw [getD_map hi] at x0
  have hlen : (xs.eraseIdx i).length = i + (xs.length - (i + 1)) := by rw [List.length_eraseIdx, if_pos hi]; omega
  generalize hX : xs.getD i 0 = X at *
  -- behind the make
  have hA := Lib.hid (fun (cs : Array Value) (hs : cs.size = xs.length) => show Own w0 (w.alloc (.cells cs 3)) (cellsA db #[.slice (some ⟨g3, off3, none⟩) xs.length cap3, .int .i64 M] 76 :: rowA 3 1 (.slice (some ⟨g3, off3, none⟩) xs.length cap3) xs.length (xs.map (.int .i64)) :: rowA 3 1 (.slice (some ⟨w.heap.size, 0, none⟩) 0 xs.length) 0 [] :: l) from
    (hO.push (w' := w.alloc (.cells cs 3)) (by go_grown) (rowA 3 1 (.slice (some ⟨w.heap.size, 0, none⟩) 0 xs.length) 0 []) (show Row (w.alloc (.cells cs 3)) 3 1 (.slice (some ⟨w.heap.size, 0, none⟩) 0 xs.length) 0 [] by simpa using (Row.lit w 3 1 cs xs.length (by unfold maxLen; omega) (by omega)).take (i := 0) (by omega)) (fun k hk => by simp [rowA, Value.ownBlock] at hk; omega)).pmm (by
      simp only [dqL, List.cons_append]
      refine List.Perm.cons _ (List.Perm.cons _ ?_)
      exact List.perm_append_comm (l₁ := l) (l₂ := [_])))
  have hB := Lib.hid (fun (w1 w2 : World) (rb : Nat) (v2 : Value) (h1 : Own w0 w1 (cellsA db #[.slice (some ⟨g3, off3, none⟩) xs.length cap3, .int .i64 M] 76 :: rowA 3 1 (.slice (some ⟨g3, off3, none⟩) xs.length cap3) xs.length (xs.map (.int .i64)) :: rowA 3 1 (.slice (some ⟨rb, 0, none⟩) 0 xs.length) 0 [] :: l)) (hr : Row w2 3 1 v2 i ([] ++ (xs.map (Value.int .i64)).take i)) (ht : Touch (fun k => Value.ownBlock (.slice (some ⟨rb, 0, none⟩) 0 xs.length) = some k) w1 w2) (hf : ∀ k, v2.ownBlock = some k → Value.ownBlock (.slice (some ⟨rb, 0, none⟩) 0 xs.length) = some k ∨ w1.heap.size ≤ k) =>
    show Own w0 w2 (cellsA db #[.slice (some ⟨g3, off3, none⟩) xs.length cap3, .int .i64 M] 76 :: rowA 3 1 (.slice (some ⟨g3, off3, none⟩) xs.length cap3) xs.length (xs.map (.int .i64)) :: rowA 3 1 v2 i ((xs.map (Value.int .i64)).take i) :: l) from
      h1.move 2 rfl (Moves.of_append (hr.cast rfl (by simp)) ht hf))
  have hC := Lib.hid (fun (w2 w3 : World) (v2 v3 : Value) (h1 : Own w0 w2 (cellsA db #[.slice (some ⟨g3, off3, none⟩) xs.length cap3, .int .i64 M] 76 :: rowA 3 1 (.slice (some ⟨g3, off3, none⟩) xs.length cap3) xs.length (xs.map (.int .i64)) :: rowA 3 1 v2 i ((xs.map (Value.int .i64)).take i) :: l)) (hr : Row w3 3 1 v3 (i + (xs.length - (i + 1))) ((xs.map (Value.int .i64)).take i ++ (xs.map (Value.int .i64)).drop (i + 1))) (ht : Touch (fun k => v2.ownBlock = some k) w2 w3) (hf : ∀ k, v3.ownBlock = some k → v2.ownBlock = some k ∨ w2.heap.size ≤ k) =>
    show (∃ v, w3.cell? ⟨db, 0, none⟩ = some v) ∧ w3.frozen? ⟨db, 0, none⟩ = false ∧ DOwn w0 (w3.setCell ⟨db, 0, none⟩ v3) db M (xs.eraseIdx i) l by
      have q := h1.move 2 rfl (Moves.of_append hr ht hf)
      refine ⟨⟨_, (q.cget 0 rfl 0).1⟩, (q.cget 0 rfl 0).2, v3, ?_⟩
      have q2 := q.cset 0 rfl 0 v3
      refine q2.sub ?_
      simp only [dqL, List.set_cons_succ, List.set_cons_zero]
      rw [map_erase, ← hlen]
      exact List.Sublist.cons_cons _ (List.Sublist.cons _ (List.Sublist.refl _)))
  have srcA := Lib.hid (fun (w1 : World) (L : List Ast) (h1 : Own w0 w1 (cellsA db #[.slice (some ⟨g3, off3, none⟩) xs.length cap3, .int .i64 M] 76 :: rowA 3 1 (.slice (some ⟨g3, off3, none⟩) xs.length cap3) xs.length (xs.map (.int .i64)) :: L)) =>
    show w1.cell? ⟨db, 0, none⟩ = some (.slice (some ⟨g3, off3, none⟩) xs.length cap3) ∧ Src w1 (some ⟨g3, off3, none⟩) i cap3 1 ((xs.map (Value.int .i64)).take i) ∧ Src w1 (some ⟨g3, if cap3 = i + 1 then off3 else off3 + (i + 1), none⟩) (xs.length - (i + 1)) (cap3 - (i + 1)) 1 ((xs.map (Value.int .i64)).drop (i + 1)) from
      ⟨(h1.cget 0 rfl 0).1, by simpa using ((h1.row 1 rfl).take (i := i) (by omega)).src', by
        have := ((h1.row 1 rfl).drop (i := i + 1) (by omega)).src'
        rw [Nat.mul_one] at this
        by_cases hc : cap3 = i + 1
        · rw [if_pos hc]
          refine ⟨this.1, fun h => (by cases h), fun ad had j u hj => ?_⟩
          rw [List.drop_eq_nil_of_le (by simp; omega)] at hj
          simp at hj
        · rw [if_neg hc]; exact this⟩)
  clear hO q3 q4
  obtain ⟨oo, hoo⟩ : ∃ oo, (if cap3 = i + 1 then off3 else off3 + (i + 1)) = oo := ⟨_, rfl⟩
  rw [hoo] at srcA
  have hm0 := one_cells xs
  by_cases hc : cap3 = i + 1
  · rw [if_pos hc] at hoo
    subst hoo
    subst hc
    have en : xs.length - (i + 1) = 0 := by omega
    have ec : i + 1 - (i + 1) = 0 := by omega
    simp only [en, ec] at srcA hC
    clear en ec
    go_enter Try.func41, Try.ntmps41
    go_wp2_with (first
      | (refine wpList_make_any _ rfl _ _ 26 rfl 3 i1 (.int .i64 0) 1 8 Try.underlying26 hi1 hw0 hw1' hw2' .i64 .i64 0 (xs.length : Int) rfl rfl (by omega) (by omega) (by omega) (by decide) ?_; rw [show ((xs.length : Int).toNat * 1) = xs.length by omega]; have h1 := hA.out (madeCells (Value.int .i64 0).cells xs.length) (by simp [madeCells]); obtain ⟨d0, s1, s2⟩ := srcA.out _ _ h1; generalize w.alloc (.cells (madeCells (Value.int .i64 0).cells xs.length) 3) = w1 at *; generalize w.heap.size = rb at *)
      | (at_builtin; refine wpList_append_row _ rfl (.tmp 20) (.tmp 26) 26 rfl 3 i1 (.int .i64 0) 1 8 Try.underlying26 hi1 hw0 hw1' hw2' rfl (by decide) (.slice (some ⟨rb, 0, none⟩) 0 xs.length) 0 [] rfl (h1.row 2 rfl) (some ⟨g3, off3, none⟩) i (i + 1) ((xs.map (Value.int .i64)).take i) rfl s1.1 s1.2.1 s1.2.2 (fun u hu => hm0 u (List.mem_of_mem_take hu)) (by unfold maxLen; omega) (by omega) ?_; intro v2 w2 hr2 ht2 hf2; simp only [Nat.zero_add] at hr2; obtain ⟨ao2, c2, rfl, p1, p2, _⟩ := hr2.shape; have h2 := hB.out _ _ _ _ h1 hr2 ht2 hf2; obtain ⟨d1, s3, s4⟩ := srcA.out _ _ h2; unfold maxLen at p2)
      | (at_builtin; go_loud (refine wpList_append_row _ rfl (.tmp 29) (.tmp 36) 26 rfl 3 i1 (.int .i64 0) 1 8 Try.underlying26 hi1 hw0 hw1' hw2' rfl (by decide) (.slice ao2 i c2) i ((xs.map (Value.int .i64)).take i) rfl (h2.row 2 rfl) (some ⟨g3, off3, none⟩) 0 0 ((xs.map (Value.int .i64)).drop (i + 1)) rfl s4.1 s4.2.1 s4.2.2 (fun u hu => hm0 u (List.mem_of_mem_drop hu)) (by unfold maxLen; omega) (by omega) ?_); intro v3 w3 hr3 ht3 hf3; obtain ⟨ao3, c3, rfl, _, _, _⟩ := hr3.shape; obtain ⟨⟨v, g1⟩, g2, hE2⟩ := hC.out _ _ _ _ h2 hr3 ht3 hf3))
    go_ret
    exact ⟨rfl, hE2⟩
  · rw [if_neg hc] at hoo
    subst hoo
    go_enter Try.func41, Try.ntmps41
    go_wp2_with (first
      | (refine wpList_make_any _ rfl _ _ 26 rfl 3 i1 (.int .i64 0) 1 8 Try.underlying26 hi1 hw0 hw1' hw2' .i64 .i64 0 (xs.length : Int) rfl rfl (by omega) (by omega) (by omega) (by decide) ?_; rw [show ((xs.length : Int).toNat * 1) = xs.length by omega]; have h1 := hA.out (madeCells (Value.int .i64 0).cells xs.length) (by simp [madeCells]); obtain ⟨d0, s1, s2⟩ := srcA.out _ _ h1; generalize w.alloc (.cells (madeCells (Value.int .i64 0).cells xs.length) 3) = w1 at *; generalize w.heap.size = rb at *)
      | (at_builtin; refine wpList_append_row _ rfl (.tmp 20) (.tmp 26) 26 rfl 3 i1 (.int .i64 0) 1 8 Try.underlying26 hi1 hw0 hw1' hw2' rfl (by decide) (.slice (some ⟨rb, 0, none⟩) 0 xs.length) 0 [] rfl (h1.row 2 rfl) (some ⟨g3, off3, none⟩) i cap3 ((xs.map (Value.int .i64)).take i) rfl s1.1 s1.2.1 s1.2.2 (fun u hu => hm0 u (List.mem_of_mem_take hu)) (by unfold maxLen; omega) (by omega) ?_; intro v2 w2 hr2 ht2 hf2; simp only [Nat.zero_add] at hr2; obtain ⟨ao2, c2, rfl, p1, p2, _⟩ := hr2.shape; have h2 := hB.out _ _ _ _ h1 hr2 ht2 hf2; obtain ⟨d1, s3, s4⟩ := srcA.out _ _ h2; unfold maxLen at p2)
      | (at_builtin; go_loud (refine wpList_append_row _ rfl (.tmp 29) (.tmp 36) 26 rfl 3 i1 (.int .i64 0) 1 8 Try.underlying26 hi1 hw0 hw1' hw2' rfl (by decide) (.slice ao2 i c2) i ((xs.map (Value.int .i64)).take i) rfl (h2.row 2 rfl) (some ⟨g3, off3 + (i + 1), none⟩) (xs.length - (i + 1)) (cap3 - (i + 1)) ((xs.map (Value.int .i64)).drop (i + 1)) rfl s4.1 s4.2.1 s4.2.2 (fun u hu => hm0 u (List.mem_of_mem_drop hu)) (by unfold maxLen; omega) (by omega) ?_); intro v3 w3 hr3 ht3 hf3; obtain ⟨ao3, c3, rfl, _, _, _⟩ := hr3.shape; obtain ⟨⟨v, g1⟩, g2, hE2⟩ := hC.out _ _ _ _ h2 hr3 ht3 hf3))
    go_ret
    exact ⟨rfl, hE2⟩
theorem dPop_yes {w0 w : World} {db : Nat} {M : Int} {xs : List Int} {l : List Ast} (h : DOwn w0 w db M xs l) (hp : 0 < xs.length) (hM : xs.length ≤ 1000) : Calls Try.prog 14 #[.pointer (some ⟨db, 0, none⟩)] w fun e w' => e = .returned (.tuple #[.int .i64 (xs.getD (xs.length - 1) 0), .bool true]) ∧ DOwn w0 w' db M (xs.eraseIdx (xs.length - 1)) l := by
  have hL := Lib.hid (dLen h)
  have hT := Lib.hid (dTake h (xs.length - 1) (by omega) hM)
  obtain ⟨bv, hO⟩ := h
  obtain ⟨bo, bc, rfl, b1, b2, _⟩ := (hO.row 1 rfl).shape
  unfold maxLen at b2
  have c0 := (hO.cget 0 rfl 0).1
  simp at c0
  clear hO
  have e1 : ((xs.length : Int) - 1) = ((xs.length - 1 : Nat) : Int) := by omega
  generalize xs.getD (xs.length - 1) 0 = X at *
  go_enter Try.func14, Try.ntmps14
  go_wp2_with (first | (go_at_call 17; refine hL.out.mono ?_; rintro e w1 ⟨rfl, rfl⟩) | (go_at_call 41; refine hT.out.mono ?_; rintro e w2 ⟨rfl, h2⟩))
  go_ret2
  exact ⟨by simp, h2⟩
theorem dPop_no {w0 w : World} {db : Nat} {M : Int} {l : List Ast} (h : DOwn w0 w db M [] l) : Calls Try.prog 14 #[.pointer (some ⟨db, 0, none⟩)] w fun e w' => e = .returned (.tuple #[.int .i64 0, .bool false]) ∧ w = w' := by
  have hL := Lib.hid (dLen h)
  clear h
  go_enter Try.func14, Try.ntmps14
  go_wp2_with (first | (go_at_call 17; refine hL.out.mono ?_; rintro e w1 ⟨rfl, rfl⟩))
  go_ret2
  exact ⟨by simp, rfl⟩
theorem dPop_none (w : World) : Calls Try.prog 14 #[.pointer none] w fun e w' => e = .returned (.tuple #[.int .i64 0, .bool false]) ∧ w = w' := by
  go_enter Try.func14, Try.ntmps14
  go_wp2_with (first | (go_at_call 17; refine (dLen_none _).mono ?_; rintro e w1 ⟨rfl, rfl⟩))
  go_ret2
  exact ⟨by simp, rfl⟩
theorem dSteal_yes {w0 w : World} {db : Nat} {M : Int} {xs : List Int} {l : List Ast} (h : DOwn w0 w db M xs l) (hp : 0 < xs.length) (hM : xs.length ≤ 1000) : Calls Try.prog 15 #[.pointer (some ⟨db, 0, none⟩)] w fun e w' => e = .returned (.tuple #[.int .i64 (xs.getD 0 0), .bool true]) ∧ DOwn w0 w' db M (xs.eraseIdx 0) l := by
  have hL := Lib.hid (dLen h)
  have hT := Lib.hid (dTake h 0 (by omega) hM)
  clear h
  generalize xs.getD 0 0 = X at *
  go_enter Try.func15, Try.ntmps15
  go_wp2_with (first | (go_at_call 17; refine hL.out.mono ?_; rintro e w1 ⟨rfl, rfl⟩) | (go_at_call 41; refine hT.out.mono ?_; rintro e w2 ⟨rfl, h2⟩))
  go_ret2
  exact ⟨by simp, h2⟩
theorem dSteal_no {w0 w : World} {db : Nat} {M : Int} {l : List Ast} (h : DOwn w0 w db M [] l) : Calls Try.prog 15 #[.pointer (some ⟨db, 0, none⟩)] w fun e w' => e = .returned (.tuple #[.int .i64 0, .bool false]) ∧ w = w' := by
  have hL := Lib.hid (dLen h)
  clear h
  go_enter Try.func15, Try.ntmps15
  go_wp2_with (first | (go_at_call 17; refine hL.out.mono ?_; rintro e w1 ⟨rfl, rfl⟩))
  go_ret2
  exact ⟨by simp, rfl⟩
theorem dSteal_none (w : World) : Calls Try.prog 15 #[.pointer none] w fun e w' => e = .returned (.tuple #[.int .i64 0, .bool false]) ∧ w = w' := by
  go_enter Try.func15, Try.ntmps15
  go_wp2_with (first | (go_at_call 17; refine (dLen_none _).mono ?_; rintro e w1 ⟨rfl, rfl⟩))
  go_ret2
  exact ⟨by simp, rfl⟩
end Go.Proofs.Ytofnjapgacgdlaa
