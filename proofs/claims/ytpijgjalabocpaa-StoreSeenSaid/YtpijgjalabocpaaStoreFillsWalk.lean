/- The walk through the law StoreFills. -/
import Derived.Test.YtpijgjalabocpaaTicketOrderWalk
import Derived.Test.YtpijgjalabocpaaWorks09
import Derived.Test.YtpijgjalabocpaaFill
set_option linter.unusedVariables false
set_option linter.unusedSimpArgs false
namespace Go.Proofs.Ytpijgjalabocpaa
open Go.RowKit
def storeH (g b : Nat) (ms : List Int) (hk : Value) : Ast where
  F k := k = g ∨ k = b
  hold w := StoreIs w g b ms hk
  loc h hb := h.same (hb g (.inl rfl)) (hb b (.inr rfl))
  lt h k hk := by
    rcases hk with rfl | rfl
    · exact h.ltg
    · exact h.ltb
set_option maxHeartbeats 2000000
set_option maxRecDepth 100000
theorem own_fillH {w0 w : World} {l : List Ast} (h : Own w0 w l) (i : Nat) {g b : Nat} {ms : List Int} {hk : Value} (hi : l[i]? = some (storeH g b ms hk)) (at_ many n A M : Int) (h0 : -9223372036854775808 ≤ at_ ∧ at_ ≤ 9223372036854775807) (h1 : -9223372036854775808 ≤ many ∧ many ≤ 9223372036854775807)
    (hc : (at_ < 0 ∧ 0 < many ∧ A = 0 ∧ M = many + at_) ∨ (¬ at_ < 0 ∧ A = at_ ∧ M = many) ∨ (at_ < 0 ∧ ¬ 0 < many ∧ A = at_ ∧ M = many)) (ms' : List Int) (hm : fillL ms A M n ms.length = ms') :
    Calls Try.prog 20 #[.pointer (some ⟨g, 0, none⟩), .int .i64 at_, .int .i64 many, .int .i64 n] w fun e w' => e = .returned (.tuple #[]) ∧ Own w0 w' (l.set i (storeH g b ms' hk)) := by
  subst hm
  refine (fill_core (h.at i hi : StoreIs w g b ms hk) at_ many n A M h0 h1 hc).mono ?_
  rintro e w' ⟨rfl, hS, hT⟩
  exact ⟨rfl, h.move i hi ⟨hS, hT.mono fun k hk => .inr hk, fun k hk => .inl hk⟩⟩
theorem own_hookH {w0 w : World} {l : List Ast} (h : Own w0 w l) (i : Nat) {g b : Nat} {ms : List Int} {hk : Value} (hi : l[i]? = some (storeH g b ms hk)) (fn : Fn) (first captured : Array Value) :
    Calls Try.prog 21 #[.pointer (some ⟨g, 0, none⟩), .func fn first captured] w fun e w' => e = .returned (.tuple #[]) ∧ Own w0 w' (l.set i (storeH g b ms (.func fn first captured))) := by
  have hS : StoreIs w g b ms hk := h.at i hi
  have c1 := hS.c1
  have f1 := free_at hS.2.2.1 1
  have hm : Moves (storeH g b ms hk) (storeH g b ms (.func fn first captured)) w (w.setCell ⟨g, 1, none⟩ (.func fn first captured)) := by
    obtain ⟨q1, q2, q3, q4⟩ := hS
    refine ⟨⟨q1, q2, (set_at q3 1 _).trans (by simp), (set_else q1.symm 1 _).trans q4⟩, (Touch.refl (storeH g b ms hk).F w).setCell (p := ⟨g, 1, none⟩) (.inr (.inl rfl)) _, fun k hk => .inl hk⟩
  have hE := Lib.hid (h.move i hi hm)
  clear hS hm h hi
  go_enter Try.func21, Try.ntmps21
  go_wp2
  go_end0
  exact ⟨rfl, hE.out⟩
theorem own_allH {w0 w : World} {l : List Ast} (h : Own w0 w l) (i : Nat) {g b : Nat} {ms : List Int} {hk : Value} (hi : l[i]? = some (storeH g b ms hk)) : Calls Try.prog 18 #[.pointer (some ⟨g, 0, none⟩)] w fun e w' => ∃ ao cap, e = .returned (.slice ao ms.length cap) ∧ Own w0 w' (l ++ [rowA 3 1 (.slice ao ms.length cap) ms.length (ms.map (.int .i64))]) := by
  refine (all_any (h.at i hi : StoreIs w g b ms hk)).mono ?_
  rintro e w' ⟨ao, cap, rfl, hr, hf, hb⟩
  exact ⟨ao, cap, rfl, h.push hb (rowA 3 1 (.slice ao ms.length cap) ms.length (ms.map (.int .i64))) hr hf⟩
theorem fill_whole (sz : Nat) (x : Int) : fillL (List.replicate sz 0) 0 sz x (List.replicate sz (0 : Int)).length = List.replicate sz x := by
  refine List.ext_getElem? fun i => ?_
  by_cases hi : i < sz
  · rw [fillL_get _ _ _ _ _ _ (by simpa using hi), if_pos (by simp; omega)]
    simp [hi]
  · rw [List.getElem?_eq_none (by rw [fillL_length]; simp; omega), List.getElem?_eq_none (by simp; omega)]
theorem fills_get (sz : Nat) (x n at_ many A M : Int) (hc : (at_ < 0 ∧ 0 < many ∧ A = 0 ∧ M = many + at_) ∨ (¬ at_ < 0 ∧ A = at_ ∧ M = many) ∨ (at_ < 0 ∧ ¬ 0 < many ∧ A = at_ ∧ M = many)) {i : Nat} (hi : i < sz) :
    (fillL (List.replicate sz x) A M n (List.replicate sz x).length).getD i 0 = if at_ ≤ i ∧ (i : Int) < at_ + many then n else x := by
  rw [List.getD_eq_getElem?_getD, fillL_get _ _ _ _ _ _ (by simpa using hi)]
  simp only [Option.getD_some, List.length_replicate, List.getElem_replicate]
  by_cases h : at_ ≤ i ∧ (i : Int) < at_ + many
  · rw [if_pos h, if_pos (by omega)]
  · rw [if_neg h, if_neg (by omega)]
theorem fills_core (sz : Nat) (at_ many n first A M : Int) (w : World) (hsz : sz ≤ 255) (h0 : -1099511627776 ≤ at_ ∧ at_ ≤ 1099511627776) (h1 : -1099511627776 ≤ many ∧ many ≤ 1099511627776)
    (hc : (at_ < 0 ∧ 0 < many ∧ A = 0 ∧ M = many + at_) ∨ (¬ at_ < 0 ∧ A = at_ ∧ M = many) ∨ (at_ < 0 ∧ ¬ 0 < many ∧ A = at_ ∧ M = many)) :
    Calls Try.prog 5 #[.int .u8 sz, .int .i64 at_, .int .i64 many, .int .i64 n, .int .i64 first] w fun e w' => e = .returned (.bool true) ∧ Below w.heap.size w w' := by
  obtain ⟨i1, hi1, hw0, hw1', hw2'⟩ := info_parts' Try.infoIntS
  obtain ⟨h0a, h0b⟩ := h0
  obtain ⟨h1a, h1b⟩ := h1
  have hget := fun i (hi : i < sz) => fills_get sz first n at_ many A M hc hi
  have hlen : (fillL (List.replicate sz first) A M n (List.replicate sz first).length).length = sz := by rw [fillL_length]; simp
  have F2 := fun (w1 : World) (l : List Ast) (i g b : Nat) (hk : Value) (h : Own w w1 l) (hi : l[i]? = some (storeH g b (List.replicate sz first) hk)) => own_fillH h i hi at_ many n A M (by omega) (by omega) hc _ rfl
  have F1 := fun (w1 : World) (l : List Ast) (i g b : Nat) (hk : Value) (h : Own w w1 l) (hi : l[i]? = some (storeH g b (List.replicate sz 0) hk)) => own_fillH h i hi 0 sz first 0 sz (by omega) (by omega) (.inr (.inl ⟨by omega, rfl, rfl⟩)) _ (fill_whole sz first)
  have N := fun (w1 : World) => new_any sz w1
  rw [show (min (max (sz : Int) 0) 1048576).toNat = sz by omega] at N
  generalize fillL (List.replicate sz first) A M n (List.replicate sz first).length = ms2 at *
  generalize List.replicate sz first = ms1 at *
  generalize List.replicate sz (0 : Int) = ms0 at *
  replace hget := Lib.hid hget
  replace hlen := Lib.hid hlen
  replace F1 := Lib.hid F1
  replace F2 := Lib.hid F2
  replace N := Lib.hid N
  clear hc
  go_enter Try.func5, Try.ntmps5
  go_wp2_with (go_at_call 14; refine (works09_any _).mono ?_; rintro e w1 ⟨rfl, hb1⟩)
  go_at_call 15
  refine (N.out _).mono ?_
  rintro e w2 ⟨rfl, hs2, hb2⟩
  have hO : Own w w2 [storeH (w1.heap.size + 1) w1.heap.size ms0 .nilFunc] := (Own.nil hb1).push hb2 (storeH (w1.heap.size + 1) w1.heap.size ms0 .nilFunc) hs2 (fun k hk => by rcases hk with rfl | rfl <;> omega)
  clear hs2 hb2 hb1 N
  generalize w1.heap.size = b at *
  go_wp2_with fail
  go_at_call 20
  refine (F1.out _ _ 0 _ _ _ hO rfl).mono ?_
  rintro e w3 ⟨rfl, hO3⟩
  clear hO F1
  have hO4 : Own w (w3.alloc (.cells #[.int .i64 0] 3)) [storeH (b + 1) b ms1 .nilFunc, cellsA w3.heap.size #[.int .i64 0] 3] := hO3.box #[.int .i64 0] 3
  clear hO3
  go_wp2_with fail
  go_at_call 21
  generalize w3.alloc (.cells #[.int .i64 0] 3) = u at *
  generalize w3.heap.size = sb at *
  refine (own_hookH hO4 0 rfl _ _ _).mono ?_
  rintro e w5 ⟨rfl, hO5⟩
  clear hO4
  go_wp2_with fail
  go_at_call 20
  refine (F2.out _ _ 0 _ _ _ hO5 rfl).mono ?_
  rintro e w6 ⟨rfl, hO6⟩
  clear hO5 F2
  have A6 := own_allH hO6 0 rfl
  rw [hlen.out] at A6
  replace A6 := Lib.hid A6
  go_wp2_with (go_at_call 18; refine A6.out.mono ?_; rintro e w7 ⟨ao, cap, rfl, hO7⟩)
  obtain ⟨FN, hO8⟩ : ∃ FN, Own w w7 [storeH (b + 1) b ms2 FN, cellsA sb #[.int .i64 0] 3, rowA 3 1 (.slice ao sz cap) sz (ms2.map (.int .i64)), rowA 3 1 (.slice none 0 0) 0 ((ms2.take 0).map (.int .i64))] := ⟨_, hO7.push (Below.refl _ _) (rowA 3 1 (.slice none 0 0) 0 ((ms2.take 0).map (.int .i64))) (Row.nil _ _ _) (by simp [rowA, Value.ownBlock])⟩
  clear hO7 hO6 A6
  go_loopw [14, 15] (fun v i wr => ∃ k : Nat, k ≤ sz ∧ i = .int .i64 k ∧ Own w wr [storeH (b + 1) b ms2 FN, cellsA sb #[.int .i64 0] 3, rowA 3 1 (.slice ao sz cap) sz (ms2.map (.int .i64)), rowA 3 1 v k ((ms2.take k).map (.int .i64))]) (fun _ i _ => (sz - intOf i).toNat)
  case atStart => exact ⟨0, by omega, rfl, hO8⟩
  case round =>
    clear hO8
    obtain ⟨k, hk, rfl, hO⟩ := hrel
    have hr3 := hO.row 3 rfl
    obtain ⟨wo, wc, rfl, hw1, hw2, _⟩ := hr3.shape
    by_cases hlt : k < sz
    · have hg := hget.out k hlt
      by_cases hc1 : at_ ≤ k
      · have d1 : decide (at_ ≤ (k : Int)) = true := by simp [hc1]
        by_cases hc2 : (k : Int) < at_ + many
        · have d2 : decide ((k : Int) < at_ + many) = true := by simp [hc2]
          rw [if_pos ⟨hc1, hc2⟩] at hg
          have hmt := Lib.hid (map_take_snoc (l := ms2) (n := k) (by rw [hlen.out]; exact hlt) hg)
          clear hg
          go_wp2_with (first | (at_builtin; refine wpList_append_lit' _ rfl (.tmp 66) (.tmp 68) 22 rfl 3 i1 (.int .i64 0) 1 8 Try.underlying22 hi1 hw0 hw1' hw2' rfl (by decide) (.slice wo k wc) k ((ms2.take k).map (.int .i64)) rfl hr3 #[.int .i64 n] _ 1 _ rfl rfl rfl (by simp [Value.oneCell']) (by unfold maxLen; omega) (by omega) ?_; intro ao2 cap2 wz hr2 ht2 hf2))
          have hO9 := hO.move 3 rfl (Moves.of_append hr2 ht2 hf2)
          go_roundw
          case rel => exact ⟨k + 1, by omega, by go_num, by rw [← hmt.out]; exact hO9⟩
          case measure => simp [intOf]; omega
        · have d2 : decide ((k : Int) < at_ + many) = false := by simp; omega
          rw [if_neg (fun h => hc2 h.2)] at hg
          have hmt := Lib.hid (map_take_snoc (l := ms2) (n := k) (by rw [hlen.out]; exact hlt) hg)
          clear hg
          go_wp2_with (first | (at_builtin; refine wpList_append_lit' _ rfl (.tmp 70) (.tmp 72) 22 rfl 3 i1 (.int .i64 0) 1 8 Try.underlying22 hi1 hw0 hw1' hw2' rfl (by decide) (.slice wo k wc) k ((ms2.take k).map (.int .i64)) rfl hr3 #[.int .i64 first] _ 1 _ rfl rfl rfl (by simp [Value.oneCell']) (by unfold maxLen; omega) (by omega) ?_; intro ao2 cap2 wz hr2 ht2 hf2))
          have hO9 := hO.move 3 rfl (Moves.of_append hr2 ht2 hf2)
          go_roundw
          case rel => exact ⟨k + 1, by omega, by go_num, by rw [← hmt.out]; exact hO9⟩
          case measure => simp [intOf]; omega
      · have d1 : decide (at_ ≤ (k : Int)) = false := by simp; omega
        rw [if_neg (fun h => hc1 h.1)] at hg
        have hmt := Lib.hid (map_take_snoc (l := ms2) (n := k) (by rw [hlen.out]; exact hlt) hg)
        clear hg
        go_wp2_with (first | (at_builtin; refine wpList_append_lit' _ rfl (.tmp 70) (.tmp 72) 22 rfl 3 i1 (.int .i64 0) 1 8 Try.underlying22 hi1 hw0 hw1' hw2' rfl (by decide) (.slice wo k wc) k ((ms2.take k).map (.int .i64)) rfl hr3 #[.int .i64 first] _ 1 _ rfl rfl rfl (by simp [Value.oneCell']) (by unfold maxLen; omega) (by omega) ?_; intro ao2 cap2 wz hr2 ht2 hf2))
        have hO9 := hO.move 3 rfl (Moves.of_append hr2 ht2 hf2)
        go_roundw
        case rel => exact ⟨k + 1, by omega, by go_num, by rw [← hmt.out]; exact hO9⟩
        case measure => simp [intOf]; omega
    · obtain rfl : k = sz := by omega
      have I := ints_any ao wo cap wc ms2 (ms2.take k) wr (Lies.of_row (hO.row 2 rfl) hlen.out.symm) (Lies.of_row hr3 (by rw [List.length_take, hlen.out]; omega))
      rw [show (ms2.take k).length = k by rw [List.length_take, hlen.out]; omega, hlen.out, show (ms2 == ms2.take k) = true by rw [beq_iff_eq, List.take_of_length_le (by rw [hlen.out]; omega)]] at I
      replace I := Lib.hid I
      clear hr3
      go_wp2_with (first | (go_at_call 23; refine I.out.mono ?_; rintro e w8 ⟨rfl, m8, hw8⟩; have hO9 := hO.drewN m8; rw [← hw8] at hO9; clear hw8; have z0 := (hO9.cget 1 rfl 0).1; simp at z0))
      go_ret
      exact ⟨rfl, hO9.below⟩
theorem walkStoreFills (v0 v1 v2 v3 v4 : Value) (w : World) (h0 : Arg Try.prog w 5 v0) (h1 : Arg Try.prog w 3 v1) (h2 : Arg Try.prog w 3 v2) (h3 : Arg Try.prog w 3 v3) (h4 : Arg Try.prog w 3 v4) :
    Calls Try.prog 5 #[v0, v1, v2, v3, v4] w fun e w' => e = .returned (.bool true) ∧ Below w.heap.size w w' := by
  obtain ⟨sz, rfl, hs⟩ := h0.int Try.underlying5
  simp [Lit.wf, IntKind.min, IntKind.max, IntKind.signed, IntKind.bits] at hs
  obtain ⟨sz, rfl⟩ : ∃ n : Nat, sz = n := ⟨sz.toNat, by omega⟩
  obtain ⟨a, rfl, _⟩ := h1.int Try.underlying3
  obtain ⟨m, rfl, _⟩ := h2.int Try.underlying3
  obtain ⟨n, rfl, _⟩ := h3.int Try.underlying3
  obtain ⟨f, rfl, _⟩ := h4.int Try.underlying3
  by_cases c1 : 1099511627776 < a
  · go_enter Try.func5, Try.ntmps5
    go_wp2_with (go_at_call 14; refine (works09_any _).mono ?_; rintro e w1 ⟨rfl, hb1⟩)
    go_ret
    exact ⟨rfl, hb1⟩
  by_cases c2 : a < -1099511627776
  · go_enter Try.func5, Try.ntmps5
    go_wp2_with (go_at_call 14; refine (works09_any _).mono ?_; rintro e w1 ⟨rfl, hb1⟩)
    go_ret
    exact ⟨rfl, hb1⟩
  by_cases c3 : 1099511627776 < m
  · go_enter Try.func5, Try.ntmps5
    go_wp2_with (go_at_call 14; refine (works09_any _).mono ?_; rintro e w1 ⟨rfl, hb1⟩)
    go_ret
    exact ⟨rfl, hb1⟩
  by_cases c4 : m < -1099511627776
  · go_enter Try.func5, Try.ntmps5
    go_wp2_with (go_at_call 14; refine (works09_any _).mono ?_; rintro e w1 ⟨rfl, hb1⟩)
    go_ret
    exact ⟨rfl, hb1⟩
  by_cases d1 : a < 0
  · by_cases d2 : 0 < m
    · exact fills_core sz a m n f 0 (m + a) w (by omega) (by omega) (by omega) (.inl ⟨d1, d2, rfl, rfl⟩)
    · exact fills_core sz a m n f a m w (by omega) (by omega) (by omega) (.inr (.inr ⟨d1, d2, rfl, rfl⟩))
  · exact fills_core sz a m n f a m w (by omega) (by omega) (by omega) (.inr (.inl ⟨d1, rfl, rfl⟩))
end Go.Proofs.Ytpijgjalabocpaa
