/- Package model: each thing in a deque, told to a function; two deques compared. -/
import Derived.Test.YtofnjapgacgdlaaModel2
set_option linter.unusedVariables false
set_option linter.unusedSimpArgs false
namespace Go.Proofs.Ytofnjapgacgdlaa
open Go.RowKit
set_option maxRecDepth 100000
set_option maxHeartbeats 8000000
/-- A local slice that is written through its address, and its row. -/
def AccOwn (w0 w : World) (tb : Nat) (ys : List Int) (l : List Ast) : Prop := ∃ v, Own w0 w (cellsA tb #[v] 26 :: rowA 3 1 v ys.length (ys.map (.int .i64)) :: l)
theorem yield_acc {w0 w : World} {tb : Nat} {ys : List Int} {l : List Ast} (h : AccOwn w0 w tb ys l) (x : Int) (hys : ys.length ≤ 100000) : Calls Try.prog 43 #[.int .i64 x, .pointer (some ⟨tb, 0, none⟩)] w fun e w' => e = .returned (.bool true) ∧ AccOwn w0 w' tb (ys ++ [x]) l := by
  obtain ⟨i1, hi1, hw0, hw1', hw2'⟩ := info_parts' Try.infoIntM
  obtain ⟨bv, hO⟩ := h
  obtain ⟨bo, bc, rfl, b1, b2, _⟩ := (hO.row 1 rfl).shape
  unfold maxLen at b2
  have c0 := (hO.cget 0 rfl 0).1
  have f0 := (hO.cget 0 rfl 0).2
  simp at c0
  have hr2 := hO.row 1 rfl
  have hE := Lib.hid (fun (w2 : World) (ao2 : Option Addr) (cap2 : Nat) (hr : Row w2 3 1 (.slice ao2 (ys.length + 1) cap2) (ys.length + 1) (ys.map (.int .i64) ++ [.int .i64 x])) (ht2 : Touch (fun k => Value.ownBlock (.slice bo ys.length bc) = some k) w w2) (hf2 : ∀ k, Value.ownBlock (.slice ao2 (ys.length + 1) cap2) = some k → Value.ownBlock (.slice bo ys.length bc) = some k ∨ w.heap.size ≤ k) =>
    show (∃ v, w2.cell? ⟨tb, 0, none⟩ = some v) ∧ w2.frozen? ⟨tb, 0, none⟩ = false ∧ AccOwn w0 (w2.setCell ⟨tb, 0, none⟩ (.slice ao2 (ys.length + 1) cap2)) tb (ys ++ [x]) l by
      have q := hO.move 1 rfl (Moves.of_append hr ht2 hf2)
      refine ⟨⟨_, (q.cget 0 rfl 0).1⟩, (q.cget 0 rfl 0).2, .slice ao2 (ys.length + 1) cap2, (q.cset 0 rfl 0 (.slice ao2 (ys.length + 1) cap2)).cast ?_⟩
      simp)
  clear hO
  go_enter Try.func43, Try.ntmps43
  go_wp2_with (first | (at_builtin; refine wpList_append_lit' _ rfl (.tmp 4) (.tmp 6) 26 rfl 3 i1 (.int .i64 0) 1 8 Try.underlying26 hi1 hw0 hw1' hw2' rfl (by decide) (.slice bo ys.length bc) ys.length (ys.map (.int .i64)) rfl hr2 #[.int .i64 x] _ 1 _ (by simp) rfl rfl (by simp [Value.oneCell']) (by unfold maxLen; omega) (by omega) ?_; intro ao2 cap2 wz hr3 ht3 hf3; obtain ⟨⟨v, g1⟩, g2, hE2⟩ := hE.out _ _ _ hr3 ht3 hf3))
  go_ret
  exact ⟨rfl, hE2⟩
theorem dLenC (db : Nat) (ao : Option Addr) (n c : Nat) (w : World) (c0 : w.cell? ⟨db, 0, none⟩ = some (.slice ao n c)) (h1 : n ≤ c) (h2 : c ≤ maxLen) : Calls Try.prog 17 #[.pointer (some ⟨db, 0, none⟩)] w fun e w' => e = .returned (.int .i64 n) ∧ w = w' := by
  unfold maxLen at h2
  go_enter Try.func17, Try.ntmps17
  go_wp2
  go_ret
  exact ⟨rfl, rfl⟩
theorem dAll (p : Option Addr) (w : World) : Calls Try.prog 42 #[.pointer p] w fun e w' => e = .returned (.func (.func 57) #[] #[.pointer (some ⟨w.heap.size, 0, none⟩)]) ∧ w' = w.alloc (.cells #[.pointer p] 24) := by
  have hmf : ∀ (fn : Fn) (first cap : Array Value) (w : World), (Instr.makeFunc fn first cap).run Try.prog w = .ok (.func fn first cap) w := fun _ _ _ _ => rfl
  go_enter Try.func42, Try.ntmps42
  go_wp2
  go_ret
  exact ⟨rfl, rfl⟩
theorem dAll1 {w0 w : World} {tb bb db : Nat} {bv : Value} {M : Int} {xs : List Int} {l : List Ast} (h : AccOwn w0 w tb [] (cellsA bb #[.pointer (some ⟨db, 0, none⟩)] 24 :: dqL db bv M xs l)) (hM : xs.length ≤ 1000) : Calls Try.prog 57 #[.func (.func 43) #[] #[.pointer (some ⟨tb, 0, none⟩)], .pointer (some ⟨bb, 0, none⟩)] w fun e w' => e = .returned (.tuple #[]) ∧ AccOwn w0 w' tb xs (cellsA bb #[.pointer (some ⟨db, 0, none⟩)] 24 :: dqL db bv M xs l) := by
  have hF := Lib.hid (fun (w1 : World) (ys : List Int) (h1 : AccOwn w0 w1 tb ys (cellsA bb #[.pointer (some ⟨db, 0, none⟩)] 24 :: dqL db bv M xs l)) =>
    show ∃ bo bc, bv = .slice bo xs.length bc ∧ xs.length ≤ bc ∧ bc ≤ maxLen ∧ w1.cell? ⟨bb, 0, none⟩ = some (.pointer (some ⟨db, 0, none⟩)) ∧ w1.cell? ⟨db, 0, none⟩ = some bv ∧ (∀ k, k < xs.length → ∃ g off, bo = some ⟨g, off, none⟩ ∧ w1.cell? ⟨g, off + k, none⟩ = some (.int .i64 (xs.getD k 0))) by
      obtain ⟨v, hO⟩ := h1
      obtain ⟨bo, bc, rfl, b1, b2, _⟩ := (hO.row 4 rfl).shape
      refine ⟨bo, bc, rfl, b1, b2, (hO.cget 2 rfl 0).1, (hO.cget 3 rfl 0).1, fun k hk => ?_⟩
      obtain ⟨g3, off3, cap3, hv3, q1, q2, q3, q4⟩ := (hO.row 4 rfl).addr (show 0 < xs.length by omega)
      simp only [Value.slice.injEq] at hv3
      obtain ⟨rfl, _, rfl⟩ := hv3
      exact ⟨g3, off3, rfl, by rw [q3 k (by omega), getD_map hk]⟩)
  obtain ⟨bo, bc, rfl, b1, b2, c0, c1, _⟩ := hF.out _ _ h
  have hL := Lib.hid (dLenC db bo xs.length bc w c1 b1 b2)
  unfold maxLen at b2
  go_enter Try.func57, Try.ntmps57
  go_wp2_with (go_at_call 17; refine hL.out.mono ?_; rintro e w1 ⟨rfl, rfl⟩)
  clear c0 c1
  replace h := Lib.hid h
  go_loopw [6] (fun kv wr => ∃ k, k ≤ xs.length ∧ kv = .int .i64 k ∧ Hid (AccOwn w0 wr tb (xs.take k) (cellsA bb #[.pointer (some ⟨db, 0, none⟩)] 24 :: dqL db (.slice bo xs.length bc) M xs l))) (fun kv _ => (xs.length - intOf kv).toNat)
  case atStart => exact ⟨0, by omega, rfl, h⟩
  case round =>
    clear h
    obtain ⟨k, hk, rfl, hO⟩ := hrel
    obtain ⟨_, _, he, _, _, c0, c1, c2⟩ := hF.out _ _ hO.out
    cases he
    by_cases hlt : k < xs.length
    · obtain ⟨g, off, rfl, c3⟩ := c2 k hlt
      clear c2
      have Y := Lib.hid (yield_acc hO.out (xs.getD k 0) (by simp; omega))
      rw [show xs.take k ++ [xs.getD k 0] = xs.take (k + 1) by
        rw [List.take_succ_eq_append_getElem hlt, List.getD_eq_getElem?_getD, List.getElem?_eq_getElem hlt]; rfl] at Y
      generalize xs.getD k 0 = X at *
      go_wp2_with (go_at_call 43; refine Y.out.mono ?_; rintro e w2 ⟨rfl, h2⟩)
      go_roundw
      case rel => exact ⟨k + 1, by omega, by go_num, Lib.hid h2⟩
      case measure => simp [intOf]; omega
    · obtain rfl : k = xs.length := by omega
      have h2 := hO.out
      rw [List.take_length] at h2
      replace h2 := Lib.hid h2
      go_wp2_with fail
      go_end0
      exact ⟨rfl, h2.out⟩
theorem dAll1_none (tb bb : Nat) (w : World) (h : w.cell? ⟨bb, 0, none⟩ = some (.pointer none)) : Calls Try.prog 57 #[.func (.func 43) #[] #[.pointer (some ⟨tb, 0, none⟩)], .pointer (some ⟨bb, 0, none⟩)] w fun e w' => e = .returned (.tuple #[]) ∧ w = w' := by
  go_enter Try.func57, Try.ntmps57
  go_wp2_with (go_at_call 17; refine (dLen_none _).mono ?_; rintro e w1 ⟨rfl, rfl⟩)
  go_loopw [6] (fun kv wr => kv = .int .i64 0 ∧ w = wr) (fun kv _ => 0)
  case atStart => exact ⟨rfl, rfl⟩
  case round =>
    obtain ⟨rfl, rfl⟩ := hrel
    go_wp2_with fail
    go_end0
    exact ⟨rfl, rfl⟩
end Go.Proofs.Ytofnjapgacgdlaa
