/- Package model: all of a deque as a list; two deques compared; works of layer 14. -/
import Derived.Test.YtofnjapgacgdlaaModel3
set_option linter.unusedVariables false
set_option linter.unusedSimpArgs false
namespace Go.Proofs.Ytofnjapgacgdlaa
open Go.RowKit
set_option maxRecDepth 100000
set_option maxHeartbeats 8000000
theorem all_own {w0 w : World} {db : Nat} {M : Int} {xs : List Int} {l : List Ast} (h : DOwn w0 w db M xs l) (hM : xs.length ≤ 1000) : Calls Try.prog 19 #[.pointer (some ⟨db, 0, none⟩)] w fun e w' => ∃ ao c, e = .returned (.slice ao xs.length c) ∧ DOwn w0 w' db M xs (l ++ [rowA 3 1 (.slice ao xs.length c) xs.length (xs.map (.int .i64))]) := by
  have hmf : ∀ (fn : Fn) (first cap : Array Value) (w : World), (Instr.makeFunc fn first cap).run Try.prog w = .ok (.func fn first cap) w := fun _ _ _ _ => rfl
  obtain ⟨bv, hO⟩ := h
  have h1 := (hO.box #[.slice none 0 0] 26).nils.box #[.pointer (some ⟨db, 0, none⟩)] 24
  rw [World.size_alloc] at h1
  have h2 : AccOwn w0 ((w.alloc (.cells #[.slice none 0 0] 26)).alloc (.cells #[.pointer (some ⟨db, 0, none⟩)] 24)) w.heap.size [] (cellsA (w.heap.size + 1) #[.pointer (some ⟨db, 0, none⟩)] 24 :: dqL db bv M xs l) :=
    ⟨.slice none 0 0, h1.pmm (by
      simp only [List.append_assoc]
      exact List.perm_append_comm (l₂ := [_, _, _]))⟩
  have H := Lib.hid (dAll1 h2 hM)
  clear h1 h2 hO
  have hbe : ∀ (f : Fn) (a b : Array Value) (w : World), Sem.run Try.prog (binOp BinOp.eql 77 (.func f a b) .nilFunc) w = .ok (.bool false) w := fun f a b w => by rfl
  go_enter Try.func19, Try.ntmps19
  go_wp2_with (first | (go_at_call 42; refine (dAll _ _).mono ?_; rintro e w1 ⟨rfl, rfl⟩; rw [World.size_alloc]) | (go_at_call 57; refine H.out.mono ?_; rintro e w3 ⟨rfl, v, h3⟩; obtain ⟨ao, c, rfl, _, _, _⟩ := (h3.row 1 rfl).shape; have d0 := (h3.cget 0 rfl 0).1; simp at d0))
  go_ret
  refine ⟨ao, c, rfl, bv, ?_⟩
  refine (h3.sub (l' := rowA 3 1 (.slice ao xs.length c) xs.length (xs.map (.int .i64)) :: dqL db bv M xs l) (List.Sublist.cons _ (List.Sublist.cons_cons _ (List.Sublist.cons _ (List.Sublist.refl _))))).pmm ?_
  exact List.perm_append_comm (l₁ := [_]) (l₂ := dqL db bv M xs l)
theorem all_none (w : World) : Calls Try.prog 19 #[.pointer none] w fun e w' => e = .returned (.slice none 0 0) ∧ Below w.heap.size w w' := by
  have hmf : ∀ (fn : Fn) (first cap : Array Value) (w : World), (Instr.makeFunc fn first cap).run Try.prog w = .ok (.func fn first cap) w := fun _ _ _ _ => rfl
  have h0 : ((w.alloc (.cells #[.slice none 0 0] 26)).alloc (.cells #[.pointer none] 24)).cell? ⟨w.heap.size + 1, 0, none⟩ = some (.pointer none) := by
    have := cell_alloc_at (w.alloc (.cells #[.slice none 0 0] 26)) #[.pointer none] 24 (0, 0) 0
    rw [World.size_alloc] at this
    exact this
  have h1 : ((w.alloc (.cells #[.slice none 0 0] 26)).alloc (.cells #[.pointer none] 24)).cell? ⟨w.heap.size, 0, none⟩ = some (.slice none 0 0) := by
    rw [cell_alloc_lt _ (by rw [World.size_alloc]; omega)]
    exact cell_alloc_at w #[.slice none 0 0] 26 (0, 0) 0
  have H := Lib.hid (dAll1_none w.heap.size _ _ h0)
  have hbe : ∀ (f : Fn) (a b : Array Value) (w : World), Sem.run Try.prog (binOp BinOp.eql 77 (.func f a b) .nilFunc) w = .ok (.bool false) w := fun f a b w => by rfl
  go_enter Try.func19, Try.ntmps19
  go_wp2_with (first | (go_at_call 42; refine (dAll _ _).mono ?_; rintro e w1 ⟨rfl, rfl⟩; rw [World.size_alloc]) | (go_at_call 57; refine H.out.mono ?_; rintro e w3 ⟨rfl, rfl⟩))
  go_ret
  exact ⟨rfl, by go_grown⟩
/-- A deque as it can be read. -/
def LDq (w : World) (db : Nat) (xs : List Int) : Prop := ∃ ao c, w.cell? ⟨db, 0, none⟩ = some (.slice ao xs.length c) ∧ Lies w ao c xs
theorem DOwn.ldq {w0 w : World} {db : Nat} {M : Int} {xs : List Int} {l : List Ast} (h : DOwn w0 w db M xs l) : LDq w db xs := by
  obtain ⟨bv, hO⟩ := h
  obtain ⟨bo, bc, rfl, b1, b2, _⟩ := (hO.row 1 rfl).shape
  exact ⟨bo, bc, (hO.cget 0 rfl 0).1, Lies.of_row (hO.row 1 rfl) rfl⟩
theorem eq_any {w : World} {d1 d2 : Nat} {a b : List Int} (h1 : LDq w d1 a) (h2 : LDq w d2 b) : Calls Try.prog 20 #[.pointer (some ⟨d1, 0, none⟩), .pointer (some ⟨d2, 0, none⟩)] w fun e w' => e = .returned (.bool (a == b)) ∧ ∃ m, w' = w.drewN m := by
  obtain ⟨ao, c, c1, ha⟩ := h1
  obtain ⟨bo, d, c2, hb⟩ := h2
  have hc := ha.1
  have hc2 := ha.2.1
  have hd := hb.1
  have hd2 := hb.2.1
  have hp1 := Lib.hid (fun w1 h => dLenC d1 ao a.length c w1 h hc hc2)
  have hp2 := Lib.hid (fun w1 h => dLenC d2 bo b.length d w1 h hd hd2)
  have L1 := Lib.hid (hp1.out _ c1)
  have L2 := Lib.hid (hp2.out _ c2)
  unfold maxLen at hc2 hd2
  by_cases hl : a.length = b.length
  · go_enter Try.func20, Try.ntmps20
    go_wp2_with (first | (go_at_call 17; (with_reducible refine L1.out.mono ?_); rintro e w1 ⟨rfl, rfl⟩) | (go_at_call 17; (with_reducible refine L2.out.mono ?_); rintro e w1 ⟨rfl, rfl⟩))
    go_loopw [13] (fun i wr => ∃ r m : Nat, r ≤ a.length ∧ i = .int .i64 r ∧ a.take r = b.take r ∧ wr = w.drewN m) (fun i _ => (a.length - intOf i).toNat)
    case atStart => exact ⟨0, 0, by omega, rfl, rfl, rfl⟩
    case round =>
      obtain ⟨r, m, hr, rfl, ht, rfl⟩ := hrel
      by_cases hlt : r < a.length
      · obtain ⟨ad, rfl, hx⟩ := ha.get hlt
        obtain ⟨bd, rfl, hy⟩ := hb.get (r := r) (by omega)
        have hlt2 : r < b.length := by omega
        by_cases hq : a.getD r 0 = b.getD r 0
        · have ht' := Lib.hid (take_next hlt (by omega) ht hq)
          generalize a.getD r 0 = X at *
          generalize b.getD r 0 = Y at *
          subst hq
          clear ht
          go_wp2
          go_quiet (fail)
          go_wp2
          go_round
          case rel => exact ⟨r + 1, _, by omega, by go_num, ht'.out, by first | rfl | exact drewN_two⟩
          case measure => simp [intOf]; omega
        · have hne : (a == b) = false := by
            rw [beq_eq_false_iff_ne]
            rintro rfl
            exact hq rfl
          have hne' := Lib.hid hne
          generalize a.getD r 0 = X at *
          generalize b.getD r 0 = Y at *
          clear ht hne
          go_wp2
          go_quiet (fail)
          go_wp2
          go_ret
          exact ⟨ret_bool hne'.out.symm, _, by first | rfl | exact drewN_two⟩
      · obtain rfl : r = a.length := by omega
        have he : (a == b) = true := by
          rw [beq_iff_eq]
          rw [List.take_length, hl, List.take_length] at ht
          exact ht
        have he' := Lib.hid he
        clear he ht
        go_wp2
        go_ret
        exact ⟨ret_bool he'.out.symm, _, rfl⟩
  · have hne : (a == b) = false := by
      rw [beq_eq_false_iff_ne]
      rintro rfl
      exact hl rfl
    have hne' := Lib.hid hne
    clear hne
    go_enter Try.func20, Try.ntmps20
    go_wp2_with (first | (go_at_call 17; (with_reducible refine L1.out.mono ?_); rintro e w1 ⟨rfl, rfl⟩) | (go_at_call 17; (with_reducible refine L2.out.mono ?_); rintro e w1 ⟨rfl, rfl⟩))
    go_ret
    exact ⟨ret_bool hne'.out.symm, 0, rfl⟩
theorem eq_none {w : World} {d2 : Nat} {b : List Int} (h2 : LDq w d2 b) : Calls Try.prog 20 #[.pointer none, .pointer (some ⟨d2, 0, none⟩)] w fun e w' => e = .returned (.bool (b.length == 0)) ∧ w = w' := by
  obtain ⟨bo, d, c2, hb⟩ := h2
  have hd := hb.1
  have hd2 := hb.2.1
  have L2 := Lib.hid (dLenC d2 bo b.length d w c2 hd hd2)
  unfold maxLen at hd2
  by_cases hz : b.length = 0
  · rw [hz] at L2
    go_enter Try.func20, Try.ntmps20
    go_wp2_with (first | (go_at_call 17; (with_reducible refine L2.out.mono ?_); rintro e w1 ⟨rfl, rfl⟩) | (go_at_call 17; (with_reducible refine (dLen_none _).mono ?_); rintro e w1 ⟨rfl, rfl⟩))
    go_loopw [13] (fun kv wr => kv = .int .i64 0 ∧ w = wr) (fun kv _ => 0)
    case atStart => exact ⟨rfl, rfl⟩
    case round =>
      obtain ⟨rfl, rfl⟩ := hrel
      go_wp2_with fail
      go_ret
      exact ⟨ret_bool (by simp [hz]), rfl⟩
  · have hz2 : ((0 : Int) != (b.length : Int)) = true := by simp; omega
    go_enter Try.func20, Try.ntmps20
    go_wp2_with (first | (go_at_call 17; (with_reducible refine L2.out.mono ?_); rintro e w1 ⟨rfl, rfl⟩) | (go_at_call 17; (with_reducible refine (dLen_none _).mono ?_); rintro e w1 ⟨rfl, rfl⟩))
    go_ret
    exact ⟨ret_bool (by simp [hz]), rfl⟩
end Go.Proofs.Ytofnjapgacgdlaa
