/- forebayref11: Words and At; forebaylaw11.held. -/
import Derived.Test.YtbadinmlnbabiaaWordsSpec
import Derived.Test.YtbadinmlnbabiaaWorks11
import Derived.Test.YtbadinmlnbabiaaKit
import Derived.Test.YtbadinmlnbabiaaFill
set_option linter.unusedVariables false
set_option linter.unusedSimpArgs false
namespace Go.Proofs.Ytbadinmlnbabiaa
open Go.RowKit
set_option maxRecDepth 100000
set_option maxHeartbeats 8000000
theorem plan_k {w0 w : World} {pb : Nat} {v0 v1 v2 v3 : Value} {t : TypeId} {l : List Ast} (h : Own w0 w (cellsA pb #[v0, v1, v2, v3] t :: l)) :
    w.cell? ⟨pb, 0, none⟩ = some v0 ∧ w.cell? ⟨pb, 1, none⟩ = some v1 ∧ w.cell? ⟨pb, 2, none⟩ = some v2 ∧ w.cell? ⟨pb, 3, none⟩ = some v3 :=
  ⟨(h.cget 0 rfl 0).1, (h.cget 0 rfl 1).1, (h.cget 0 rfl 2).1, (h.cget 0 rfl 3).1⟩
theorem cells3f {w0 w : World} {l : List Ast} {b : Nat} {v0 v1 v2 : Value} {t : TypeId} (i : Nat) (h : Own w0 w l) (hi : l[i]? = some (cellsA b #[v0, v1, v2] t)) : w.cell? ⟨b, 0, none⟩ = some v0 ∧ w.cell? ⟨b, 1, none⟩ = some v1 ∧ w.cell? ⟨b, 2, none⟩ = some v2 :=
  ⟨(h.cget i hi 0).1, (h.cget i hi 1).1, (h.cget i hi 2).1⟩
def wordC (x : W3) : List Value := [.int .i64 x.1, .int .i64 x.2.1, .int .i64 x.2.2]
def wordsC (l : List W3) : List Value := l.flatMap wordC
theorem wordsC_app (l r : List W3) : wordsC (l ++ r) = wordsC l ++ wordsC r := by simp [wordsC]
theorem wordsC_len (l : List W3) : (wordsC l).length = l.length * 3 := by
  induction l with
  | nil => rfl
  | cons x l ih =>
    have e : wordsC (x :: l) = wordC x ++ wordsC l := by simp [wordsC, List.flatMap_cons]
    rw [e, List.length_append, ih, List.length_cons]; simp [wordC]; omega
theorem wordsC_get {l : List W3} {i : Nat} {x : W3} (h : l[i]? = some x) (j : Nat) (hj : j < 3) : (wordsC l)[i * 3 + j]? = (wordC x)[j]? := by
  induction l generalizing i with
  | nil => simp at h
  | cons y l ih =>
    have e : wordsC (y :: l) = wordC y ++ wordsC l := by simp [wordsC, List.flatMap_cons]
    have hy : (wordC y).length = 3 := rfl
    rw [e]
    cases i with
    | zero =>
      simp at h
      subst h
      rw [Nat.zero_mul, Nat.zero_add, List.getElem?_append_left (by omega)]
    | succ i =>
      simp at h
      rw [List.getElem?_append_right (by omega), hy, ← ih h]
      congr 1; omega
theorem Try.infoWord : (Try.prog.info? 40).map (fun i => (i.zero, i.size, i.bytes)) = some (some (.agg #[.int .i64 0, .int .i64 0, .int .i64 0]), 3, 24) := by kernel_rfl
/-- One word more of a deque. -/
theorem heads_next (d w j : Nat) (P : List W3) : P ++ (List.range (j + 1)).map (fun j => ((j, w, 0) : W3)) = (P ++ (List.range j).map fun j => (j, w, 0)) ++ [(j, w, 0)] := by
  rw [List.range_succ]; simp
theorem slots_next (w j : Nat) (P : List W3) : P ++ (List.range (j + 1)).map (fun n => ((4, w, n) : W3)) = (P ++ (List.range j).map fun n => (4, w, n)) ++ [(4, w, j)] := by
  rw [List.range_succ]; simp
theorem fours_next (f q : Nat) (P : List W3) : P ++ (List.range (q + 1)).flatMap (fourW f) = (P ++ (List.range q).flatMap (fourW f)) ++ fourW f q := by
  rw [List.range_succ]; simp
theorem deques_next (d k : Nat) : (List.range (k + 1)).flatMap (dequeW d) = ((List.range k).flatMap (dequeW d) ++ (List.range 4).map fun j => (j, k, 0)) ++ (List.range d).map fun n => (4, k, n) := by
  rw [List.range_succ, List.flatMap_append, List.append_assoc]
  simp [dequeW, List.range_succ]
theorem frames_next (c f : Nat) (P : List W3) : P ++ (List.range (f + 1)).flatMap (fun f => frameW c (f + 1)) = ((P ++ (List.range f).flatMap fun f => frameW c (f + 1)) ++ [(5, f + 1, 0), (6, f + 1, 0)]) ++ (List.range (c + 1)).flatMap (fourW (f + 1)) := by
  rw [List.range_succ, List.flatMap_append]
  simp [frameW]
set_option maxHeartbeats 20000000
theorem words_any (a b c d : Nat) (ha : a ≤ 64) (hb : b ≤ 256) (hc : c ≤ 64) (hd : d ≤ 256) (w : World) :
    Calls Try.prog 26 #[.agg #[.int .i64 a, .int .i64 b, .int .i64 c, .int .i64 d]] w fun e w' => ∃ ao n cap, e = .returned (.slice ao n cap) ∧ n = (wordsW a b c d).length ∧ Own w w' [rowA 40 3 (.slice ao n cap) n (wordsC (wordsW a b c d))] := by
  obtain ⟨i1, hi1, hw0, hw1', hw2'⟩ := info_parts' Try.infoWord
  have hO : Own w (w.alloc (.cells #[.int .i64 a, .int .i64 b, .int .i64 c, .int .i64 d] 33)) [cellsA w.heap.size #[.int .i64 a, .int .i64 b, .int .i64 c, .int .i64 d] 33, rowA 40 3 (.slice none 0 0) 0 (wordsC [])] := ((Own.nil (Below.refl _ w)).box #[.int .i64 a, .int .i64 b, .int .i64 c, .int .i64 d] 33).push (Below.refl _ _) (rowA 40 3 (.slice none 0 0) 0 []) (Row.nil _ _ _) (by simp [rowA, Value.ownBlock])
  go_enter Try.func26, Try.ntmps26
  go_wp2_with fail
  generalize w.alloc (.cells #[.int .i64 a, .int .i64 b, .int .i64 c, .int .i64 d] 33) = u at *
  generalize w.heap.size = pb at *
  go_loopw [3, 4] (fun v i wr => ∃ (k n : Nat) (L : List W3) (lo : Option Addr) (lc : Nat), k ≤ a ∧ i = .int .i64 k ∧ v = .slice lo n lc ∧ Hid (n = k * (4 + d)) ∧ Hid (L = (List.range k).flatMap (dequeW d)) ∧ Own w wr [cellsA pb #[.int .i64 a, .int .i64 b, .int .i64 c, .int .i64 d] 33, rowA 40 3 (.slice lo n lc) n (wordsC (L))]) (fun _ i _ => (a - intOf i).toNat)
  case atStart => exact ⟨0, 0, [], none, 0, by omega, rfl, rfl, Lib.hid (by simp), Lib.hid (by simp), hO⟩
  case round =>
    clear hO
    obtain ⟨k, n, L, lo, lc, hk, rfl, rfl, hn, hL, hO⟩ := hrel
    obtain ⟨x0, x1, x2, x3⟩ := plan_k hO
    have hnl : n ≤ 16640 := by
      have := Nat.mul_le_mul (Nat.le_trans hk ha) (show 4 + d ≤ 260 by omega)
      rw [hn.out]; omega
    by_cases hlt : k < a
    · go_wp2_with fail
      clear x0 x1 x2 x3
      go_loopw [3, 5] (fun v i wr => ∃ (j n1 : Nat) (L1 : List W3) (lo : Option Addr) (lc : Nat), j ≤ 4 ∧ i = .int .i64 j ∧ v = .slice lo n1 lc ∧ Hid (n1 = n + j) ∧ Hid (L1 = L ++ (List.range j).map fun j => (j, k, 0)) ∧ Own w wr [cellsA pb #[.int .i64 a, .int .i64 b, .int .i64 c, .int .i64 d] 33, rowA 40 3 (.slice lo n1 lc) n1 (wordsC (L1))]) (fun _ i _ => (4 - intOf i).toNat)
      case atStart => exact ⟨0, n, L, lo, lc, by omega, rfl, rfl, Lib.hid (by omega), Lib.hid (by simp), hO⟩
      case round =>
        clear hO
        obtain ⟨j, n1, L1, lo, lc, hj, rfl, rfl, hn1, hL1, hO⟩ := hrel
        have hnl1 : n1 ≤ 16650 := by have := hn1.out; omega
        by_cases hlt1 : j < 4
        · have hrow := hO.row 1 rfl
          go_wp2_with (first | (at_builtin; refine wpList_append_lit' _ rfl (.tmp 19) (.tmp 23) 35 rfl 40 i1 (.agg #[.int .i64 0, .int .i64 0, .int .i64 0]) 3 24 Try.underlying35 hi1 hw0 hw1' hw2' rfl (by decide) (.slice lo n1 lc) n1 (wordsC (L1)) rfl hrow #[.int .i64 j, .int .i64 k, .int .i64 0] _ 1 _ rfl rfl rfl (by simp [Value.oneCell']) (by unfold maxLen; omega) (by omega) ?_; intro ao2 cap2 wz hr2 ht2 hf2))
          have hO2 := (hO.move 1 rfl (Moves.of_append hr2 ht2 hf2)).cast (l' := [cellsA pb #[.int .i64 a, .int .i64 b, .int .i64 c, .int .i64 d] 33, rowA 40 3 (.slice ao2 (n1 + 1) cap2) (n1 + 1) (wordsC (L1 ++ [(j, k, 0)]))]) (by rw [wordsC_app]; rfl)
          go_roundw
          case rel => exact ⟨j + 1, n1 + 1, L1 ++ [(j, k, 0)], ao2, cap2, by omega, by go_num, rfl, Lib.hid (by have := hn1.out; omega), Lib.hid (by rw [hL1.out]; exact (heads_next d k j L).symm), hO2⟩
          case measure => simp [intOf]; omega
        · obtain rfl : j = 4 := by omega
          go_wp2_with fail
          go_loopw [3, 6] (fun v i wr => ∃ (j n2 : Nat) (L2 : List W3) (lo : Option Addr) (lc : Nat), j ≤ d ∧ i = .int .i64 j ∧ v = .slice lo n2 lc ∧ Hid (n2 = n1 + j) ∧ Hid (L2 = L1 ++ (List.range j).map fun n => (4, k, n)) ∧ Own w wr [cellsA pb #[.int .i64 a, .int .i64 b, .int .i64 c, .int .i64 d] 33, rowA 40 3 (.slice lo n2 lc) n2 (wordsC (L2))]) (fun _ i _ => (d - intOf i).toNat)
          case atStart => exact ⟨0, n1, L1, lo, lc, by omega, rfl, rfl, Lib.hid (by omega), Lib.hid (by simp), hO⟩
          case round =>
            clear hO
            obtain ⟨j, n2, L2, lo, lc, hj, rfl, rfl, hn2, hL2, hO⟩ := hrel
            have hnl2 : n2 ≤ 16920 := by have := hn2.out; omega
            obtain ⟨x0, x1, x2, x3⟩ := plan_k hO
            by_cases hlt1 : j < d
            · have hrow := hO.row 1 rfl
              go_wp2_with (first | (at_builtin; refine wpList_append_lit' _ rfl (.tmp 31) (.tmp 35) 35 rfl 40 i1 (.agg #[.int .i64 0, .int .i64 0, .int .i64 0]) 3 24 Try.underlying35 hi1 hw0 hw1' hw2' rfl (by decide) (.slice lo n2 lc) n2 (wordsC (L2)) rfl hrow #[.int .i64 4, .int .i64 k, .int .i64 j] _ 1 _ rfl rfl rfl (by simp [Value.oneCell']) (by unfold maxLen; omega) (by omega) ?_; intro ao2 cap2 wz hr2 ht2 hf2))
              have hO2 := (hO.move 1 rfl (Moves.of_append hr2 ht2 hf2)).cast (l' := [cellsA pb #[.int .i64 a, .int .i64 b, .int .i64 c, .int .i64 d] 33, rowA 40 3 (.slice ao2 (n2 + 1) cap2) (n2 + 1) (wordsC (L2 ++ [(4, k, j)]))]) (by rw [wordsC_app]; rfl)
              go_roundw
              case rel => exact ⟨j + 1, by omega, by go_num, n2 + 1, L2 ++ [(4, k, j)], ao2, cap2, ⟨rfl, rfl, rfl⟩, Lib.hid (by have := hn2.out; omega), Lib.hid (by rw [hL2.out]; exact (slots_next k j L1).symm), hO2⟩
              case measure => simp [intOf]; omega
            · obtain rfl : j = d := by omega
              go_wp2_with fail
              go_roundw
              case rel => exact ⟨k + 1, n2, L2, lo, lc, by omega, by go_num, rfl, Lib.hid (by have := hn1.out; have := hn2.out; have := hn.out; rw [Nat.succ_mul]; omega), Lib.hid (by rw [hL2.out, hL1.out, hL.out]; exact (deques_next j k).symm), hO⟩
              case measure => simp [intOf]; omega
    · obtain rfl : k = a := by omega
      go_wp2_with fail
      clear x0 x1 x2 x3
      go_loopw [3, 7] (fun v i wr => ∃ (f n1 : Nat) (L1 : List W3) (lo : Option Addr) (lc : Nat), f ≤ b ∧ i = .int .i64 (f + 1 : Nat) ∧ v = .slice lo n1 lc ∧ Hid (n1 = n + f * (2 + 4 * (c + 1))) ∧ Hid (L1 = L ++ (List.range f).flatMap fun f => frameW c (f + 1)) ∧ Own w wr [cellsA pb #[.int .i64 k, .int .i64 b, .int .i64 c, .int .i64 d] 33, rowA 40 3 (.slice lo n1 lc) n1 (wordsC (L1))]) (fun _ i _ => (b + 1 - intOf i).toNat)
      case atStart => exact ⟨0, n, L, lo, lc, by omega, rfl, rfl, Lib.hid (by omega), Lib.hid (by simp), hO⟩
      case round =>
        clear hO
        obtain ⟨f, n1, L1, lo, lc, hf, rfl, rfl, hn1, hL1, hO⟩ := hrel
        obtain ⟨x0, x1, x2, x3⟩ := plan_k hO
        have hnl1 : n1 ≤ 83712 := by
          have := Nat.mul_le_mul (Nat.le_trans hf hb) (show 2 + 4 * (c + 1) ≤ 262 by omega)
          rw [hn1.out]; omega
        by_cases hlt : f < b
        · have hrow := hO.row 1 rfl
          go_wp2_with (first | (at_builtin; refine wpList_append_lit' _ rfl (.tmp 43) (.tmp 48) 35 rfl 40 i1 (.agg #[.int .i64 0, .int .i64 0, .int .i64 0]) 3 24 Try.underlying35 hi1 hw0 hw1' hw2' rfl (by decide) (.slice lo n1 lc) n1 (wordsC (L1)) rfl hrow #[.int .i64 5, .int .i64 (f + 1 : Nat), .int .i64 0, .int .i64 6, .int .i64 (f + 1 : Nat), .int .i64 0] _ 2 _ rfl rfl rfl (by simp [Value.oneCell']) (by unfold maxLen; omega) (by omega) ?_; intro ao2 cap2 wz hr2 ht2 hf2))
          have hO2 := (hO.move 1 rfl (Moves.of_append hr2 ht2 hf2)).cast (l' := [cellsA pb #[.int .i64 k, .int .i64 b, .int .i64 c, .int .i64 d] 33, rowA 40 3 (.slice ao2 (n1 + 2) cap2) (n1 + 2) (wordsC (L1 ++ [(5, f + 1, 0), (6, f + 1, 0)]))]) (by rw [wordsC_app]; rfl)
          clear hO hrow hr2 ht2 hf2 x0 x1 x2 x3
          go_loopw [3, 8] (fun v i wr => ∃ (q n2 : Nat) (L2 : List W3) (lo : Option Addr) (lc : Nat), q ≤ c + 1 ∧ i = .int .i64 q ∧ v = .slice lo n2 lc ∧ Hid (n2 = n1 + 2 + 4 * q) ∧ Hid (L2 = (L1 ++ [(5, f + 1, 0), (6, f + 1, 0)]) ++ (List.range q).flatMap (fourW (f + 1))) ∧ Own w wr [cellsA pb #[.int .i64 k, .int .i64 b, .int .i64 c, .int .i64 d] 33, rowA 40 3 (.slice lo n2 lc) n2 (wordsC (L2))]) (fun _ i _ => (c + 1 - intOf i).toNat)
          case atStart => exact ⟨0, n1 + 2, L1 ++ [(5, f + 1, 0), (6, f + 1, 0)], ao2, cap2, by omega, rfl, rfl, Lib.hid (by omega), Lib.hid (by simp), hO2⟩
          case round =>
            clear hO2
            obtain ⟨q, n2, L2, lo, lc, hq, rfl, rfl, hn2, hL2, hO⟩ := hrel
            have hnl2 : n2 ≤ 84000 := by have := hn2.out; omega
            obtain ⟨x0, x1, x2, x3⟩ := plan_k hO
            by_cases hlt1 : q ≤ c
            · have hrow := hO.row 1 rfl
              go_wp2_with (first | (at_builtin; refine wpList_append_lit' _ rfl (.tmp 56) (.tmp 69) 35 rfl 40 i1 (.agg #[.int .i64 0, .int .i64 0, .int .i64 0]) 3 24 Try.underlying35 hi1 hw0 hw1' hw2' rfl (by decide) (.slice lo n2 lc) n2 (wordsC (L2)) rfl hrow #[.int .i64 7, .int .i64 (f + 1 : Nat), .int .i64 q, .int .i64 8, .int .i64 (f + 1 : Nat), .int .i64 q, .int .i64 9, .int .i64 (f + 1 : Nat), .int .i64 q, .int .i64 10, .int .i64 (f + 1 : Nat), .int .i64 q] _ 4 _ rfl rfl rfl (by simp [Value.oneCell']) (by unfold maxLen; omega) (by omega) ?_; intro ao2 cap2 wz hr2 ht2 hf2))
              have hO2 := (hO.move 1 rfl (Moves.of_append hr2 ht2 hf2)).cast (l' := [cellsA pb #[.int .i64 k, .int .i64 b, .int .i64 c, .int .i64 d] 33, rowA 40 3 (.slice ao2 (n2 + 4) cap2) (n2 + 4) (wordsC (L2 ++ fourW (f + 1) q))]) (by rw [wordsC_app]; rfl)
              go_roundw
              case rel => exact ⟨q + 1, n2 + 4, L2 ++ fourW (f + 1) q, ao2, cap2, by omega, by go_num, rfl, Lib.hid (by have := hn2.out; omega), Lib.hid (by rw [hL2.out]; exact (fours_next (f + 1) q _).symm), hO2⟩
              case measure => simp [intOf]; omega
            · obtain rfl : q = c + 1 := by omega
              go_wp2_with fail
              go_roundw
              case rel => exact ⟨f + 1, n2, L2, lo, lc, by omega, by go_num, rfl, Lib.hid (by have := hn1.out; have := hn2.out; rw [Nat.succ_mul]; omega), Lib.hid (by rw [hL2.out, hL1.out]; exact (frames_next c f L).symm), hO⟩
              case measure => simp [intOf]; omega
        · obtain rfl : f = b := by omega
          go_wp2_with fail
          refine bodyPost_ret (v := .slice lo n1 lc) (by simp [results, Try.results26, go_sem]) rfl ⟨lo, n1, lc, rfl, ?_, ?_⟩
          · rw [words_len, hn1.out, hn.out]
          · have h1 : L1 = wordsW k f c d := by rw [hL1.out, hL.out]; rfl
            subst h1
            exact hO.sel [1] (by decide)
/-- Words that lie in memory. -/
def LiesW (w : World) (ao : Option Addr) (l : List W3) : Prop :=
  ∀ i x, l[i]? = some x → ∃ g off, ao = some ⟨g, off, none⟩ ∧ w.cell? ⟨g, off + i * 3, none⟩ = some (.int .i64 x.1) ∧ w.cell? ⟨g, off + i * 3 + 1, none⟩ = some (.int .i64 x.2.1) ∧ w.cell? ⟨g, off + i * 3 + 2, none⟩ = some (.int .i64 x.2.2)
theorem LiesW.below {w w' : World} {ao : Option Addr} {l : List W3} (h : LiesW w ao l) (hb : Below w.heap.size w w') : LiesW w' ao l := by
  intro i x hx
  obtain ⟨g, off, e, h0, h1, h2⟩ := h i x hx
  exact ⟨g, off, e, by rw [cell_old hb _ (by rw [h0]; rfl)]; exact h0, by rw [cell_old hb _ (by rw [h1]; rfl)]; exact h1, by rw [cell_old hb _ (by rw [h2]; rfl)]; exact h2⟩
theorem Row.liesW {w : World} {ao : Option Addr} {c n : Nat} {l : List W3} (h : Row w 40 3 (.slice ao n c) n (wordsC l)) (hn : n = l.length) : LiesW w ao l := by
  intro i x hx
  have hi := (List.getElem?_eq_some_iff.1 hx).1
  obtain ⟨g, off, cap, hv, _, _, hc, _⟩ := h.addr (by omega)
  simp only [Value.slice.injEq] at hv
  obtain ⟨rfl, _, rfl⟩ := hv
  have q : ∀ j, j < 3 → w.cell? ⟨g, off + (i * 3 + j), none⟩ = (wordC x)[j]? := fun j hj => by rw [hc _ (by omega), wordsC_get hx j hj]
  exact ⟨g, off, rfl, by simpa [wordC] using q 0 (by omega), by simpa [wordC, Nat.add_assoc] using q 1 (by omega), by simpa [wordC, Nat.add_assoc] using q 2 (by omega)⟩
theorem at_any (l : List W3) (X Y Z : Int) (x : W3) (hx : x = (X.toNat, Y.toNat, Z.toNat)) (hx0 : 0 ≤ X ∧ 0 ≤ Y ∧ 0 ≤ Z) (P n : Nat) (hn : n = l.length) (hP : l[P]? = some x) (hu : ∀ i, l[i]? = some x → i = P) (ao : Option Addr) (cap : Nat) (hnc : n ≤ cap) (w : World) (h : LiesW w ao l) (hlm : n ≤ 100000) :
    Calls Try.prog 28 #[.slice ao n cap, .agg #[.int .i64 X, .int .i64 Y, .int .i64 Z]] w fun e w' => e = .returned (.int .i64 P) ∧ Below w.heap.size w w' := by
  obtain ⟨x0, x1, x2⟩ := hx0
  have hPn : P < n := by rw [hn]; exact (List.getElem?_eq_some_iff.1 hP).1
  have hO := (Own.nil (Below.refl _ w)).box #[.int .i64 X, .int .i64 Y, .int .i64 Z] 40
  replace hn := Lib.hid hn
  replace hP := Lib.hid hP
  replace hu := Lib.hid hu
  replace hx := Lib.hid hx
  go_enter Try.func28, Try.ntmps28
  go_wp2_with fail
  generalize w.alloc (.cells #[.int .i64 X, .int .i64 Y, .int .i64 Z] 40) = u at *
  generalize w.heap.size = pb at *
  go_loopw [5] (fun i wr => ∃ r : Nat, r ≤ P ∧ i = .int .i64 r ∧ Own w wr [cellsA pb #[.int .i64 X, .int .i64 Y, .int .i64 Z] 40]) (fun i _ => (P - intOf i).toNat)
  case atStart => exact ⟨0, by omega, rfl, hO⟩
  case round =>
    clear hO
    obtain ⟨r, hr, rfl, hO⟩ := hrel
    obtain ⟨z0, z1, z2⟩ := cells3f 0 hO rfl
    have hrn : r < n := by omega
    obtain ⟨y, hy⟩ : ∃ y, l[r]? = some y := ⟨_, List.getElem?_eq_getElem (by rw [← hn.out]; omega)⟩
    obtain ⟨g, off, rfl, c0, c1, c2⟩ := (h.below hO.below) r y hy
    obtain ⟨y0, y1, y2⟩ := y
    simp only at c0 c1 c2
    replace hy := Lib.hid hy
    by_cases hrP : r = P
    · subst hrP
      have hxy : x = (y0, y1, y2) := by
        have := hP.out
        rw [hy.out] at this
        simpa using this.symm
      have e := hx.out
      rw [hxy] at e
      simp only [Prod.mk.injEq] at e
      obtain ⟨e0, e1, e2⟩ := e
      obtain rfl : X = (y0 : Int) := by omega
      obtain rfl : Y = (y1 : Int) := by omega
      obtain rfl : Z = (y2 : Int) := by omega
      clear e0 e1 e2 hxy
      go_wp2_with fail
      go_quiet (fail)
      go_wp2
      go_ret
      exact ⟨rfl, (hO.drewN _).below⟩
    · have hne : ¬ ((y0 : Int) = X ∧ (y1 : Int) = Y ∧ (y2 : Int) = Z) := by
        rintro ⟨rfl, rfl, rfl⟩
        apply hrP
        apply hu.out r
        rw [hy.out, hx.out]
        simp
      rcases (show ((y0 : Int) ≠ X) ∨ ((y0 : Int) = X ∧ (y1 : Int) ≠ Y) ∨ ((y0 : Int) = X ∧ (y1 : Int) = Y ∧ (y2 : Int) ≠ Z) by omega) with k | ⟨k', k⟩ | ⟨k', k'', k⟩
      · have k0 : ((y0 : Int) == X) = false := by simpa using k
        clear hne
        go_wp2_with fail
        go_quiet (fail)
        go_wp2
        go_round
        case rel => exact ⟨r + 1, by omega, by go_num, hO.drewN _⟩
        case measure => simp [intOf]; omega
      · have k0 : ((y1 : Int) == Y) = false := by simpa using k
        clear hne
        subst k'
        go_wp2_with fail
        go_quiet (fail)
        go_wp2
        go_round
        case rel => exact ⟨r + 1, by omega, by go_num, hO.drewN _⟩
        case measure => simp [intOf]; omega
      · have k0 : ((y2 : Int) == Z) = false := by simpa using k
        clear hne
        subst k'
        subst k''
        go_wp2_with fail
        go_quiet (fail)
        go_wp2
        go_round
        case rel => exact ⟨r + 1, by omega, by go_num, hO.drewN _⟩
        case measure => simp [intOf]; omega
end Go.Proofs.Ytbadinmlnbabiaa
