/- The walk through the law TicketDoes: its body. -/
import Derived.Test.YtpijgjalabocpaaTicket2
import Derived.Test.YtpijgjalabocpaaRegion
import Derived.Lib.MinMax
set_option linter.unusedVariables false
set_option linter.unusedSimpArgs false
namespace Go.Proofs.Ytpijgjalabocpaa
open Go.RowKit
theorem Own.pop1 {w0 w : World} {A B C D E F : Ast} (h : Own w0 w [A, B, C, D, E, F]) : Own w0 w [A, B, C, D, E] := Own.pop (l := [A, B, C, D, E]) (l' := [F]) h
theorem Own.row_at {w0 w : World} {l : List Ast} (h : Own w0 w l) (i : Nat) {e : TypeId} {size g off n c : Nat} {xs : List Value} (hi : l[i]? = some (rowA e size (.slice (some ⟨g, off, none⟩) n c) n xs)) {j : Nat} {u : Value} (hj : xs[j]? = some u) : w.cell? ⟨g, off + j, none⟩ = some u := by
  have := (h.row i hi).cells ⟨g, off, none⟩ rfl j u hj
  rwa [Addr.add_lit] at this
set_option maxHeartbeats 40000000
set_option maxRecDepth 100000
theorem tdoes_core (sz : Nat) (ls : List (List Int)) (lo : Option Addr) (lc : Nat) (w : World) (hsz : sz ≤ 255) (hl1 : ls.length ≤ lc) (hl2 : lc ≤ maxLen) (hll : ls.length ≤ 200)
    (g2 off : Nat) (hl : ∀ i, i < ls.length → lo = some ⟨g2, off, none⟩ ∧ ∀ j, j < 3 → w.cell? ⟨g2, off + i * 3 + j, none⟩ = some (.int .i64 ((ls.getD i []).getD j 0))) :
    Calls Try.prog 10 #[.int .u8 sz, .slice lo ls.length lc] w fun e w' => e = .returned (.bool true) ∧ Below w.heap.size w w' := by
  obtain ⟨i0, hi, hz0, hz1', hz2'⟩ := info_parts' Try.infoTurn
  obtain ⟨i1, hi1, hw0, hw1', hw2'⟩ := info_parts' Try.infoIntS
  unfold maxLen at hl2
  replace hl := Lib.hid hl
  have N := Lib.hid (fun (w1 : World) (h : Below w.heap.size w w1) => own_new (Own.nil h) sz (List.replicate sz 0) (by congr 1; omega))
  go_enter Try.func10, Try.ntmps10
  go_wp2_with (go_at_call 29; refine (works12_any _).mono ?_; rintro e w1 ⟨rfl, hb1⟩)
  go_at_call 15
  refine (N.out _ hb1).mono ?_
  rintro e w2 ⟨rfl, hO0⟩
  clear hb1
  go_wp2_with (first | (refine wpList_make_int _ rfl _ _ 22 rfl 3 i1 (.int .i64 0) 8 Try.underlying22 hi1 hw0 hw1' hw2' rfl .i64 .i64 _ rfl rfl ?_ ?_ (by decide) ?_; all_goals (try omega)))
  have hO1 := (((hO0.ints_made (Array.replicate sz (.int .i64 0)) sz (by simp) (by unfold maxLen; omega)).push (Below.refl _ _) (rowA 57 2 (.slice none 0 0) 0 []) (Row.nil _ _ _) (by simp [rowA, Value.ownBlock])).push (Below.refl _ _) (rowA 3 1 (.slice none 0 0) 0 []) (Row.nil _ _ _) (by simp [rowA, Value.ownBlock])).push (Below.refl _ _) (rowA 3 1 (.slice none 0 0) 0 []) (Row.nil _ _ _) (by simp [rowA, Value.ownBlock])
  have hO2 : Own w (w2.alloc (.cells (Array.replicate sz (.int .i64 0)) 3)) [storeA (w1.heap.size + 1) w1.heap.size (List.replicate sz 0), intsA w2.heap.size sz (List.replicate sz 0), rowA 57 2 (.slice none 0 0) 0 [], rowA 3 1 (.slice none 0 0) 0 (([] : List Int).map (.int .i64)), rowA 3 1 (.slice none 0 0) 0 (([] : List Int).map (.int .i64))] := hO1
  have hml0 : (List.replicate sz (0 : Int)).length = sz := by simp
  clear hO1
  generalize List.replicate sz (0 : Int) = ms0 at *
  generalize w2.alloc (.cells (Array.replicate sz (.int .i64 0)) 3) = u at *
  generalize w2.heap.size = bm at *
  generalize w1.heap.size = b at *
  replace hml0 := Lib.hid hml0
  clear hO0
  go_loopw [7, 8, 9, 10] (fun tv av nv i wr => ∃ (k n : Nat) (ms ats nums : List Int) (xs : List Value), k ≤ ls.length ∧ n ≤ k ∧ i = .int .i64 k ∧ Hid (ms.length = sz) ∧ Hid (ats.length = n ∧ TurnsL ats nums xs) ∧ Hid (∀ v, v < n → -1048576 ≤ ats.getD v 0 ∧ ats.getD v 0 ≤ 1048576) ∧ Own w wr [storeA (b + 1) b ms, intsA bm sz ms, rowA 57 2 tv n xs, rowA 3 1 av n (ats.map (.int .i64)), rowA 3 1 nv n (nums.map (.int .i64))]) (fun _ _ _ i _ => (ls.length - intOf i).toNat)
  case atStart => exact ⟨0, 0, ms0, [], [], [], by omega, by omega, rfl, hml0, Lib.hid ⟨rfl, TurnsL.nil⟩, Lib.hid (fun v hv => absurd hv (by omega)), hO2⟩
  case round =>
    clear hO2 hml0
    obtain ⟨k, n, ms, ats, nums, xs, hk, hnk, rfl, hml, hT0, hat, hO⟩ := hrel
    obtain ⟨tao, tcap, rfl, t1, t2, _⟩ := (hO.row 2 rfl).shape
    obtain ⟨aao, acap, rfl, a1, a2, _⟩ := (hO.row 3 rfl).shape
    obtain ⟨nao, ncap, rfl, n1, n2, _⟩ := (hO.row 4 rfl).shape
    unfold maxLen at t2 a2 n2
    by_cases hlt : k < ls.length
    · obtain ⟨rfl, hx⟩ := hl.out k hlt
      have x0 := hx 0 (by omega)
      have x1 := hx 1 (by omega)
      have x2 := hx 2 (by omega)
      generalize (ls.getD k []).getD 0 0 = kd at *
      generalize (ls.getD k []).getD 1 0 = at_ at *
      generalize (ls.getD k []).getD 2 0 = nn at *
      rw [Nat.add_zero] at x0
      have z0 := hO.old x0
      have z1 := hO.old x1
      have z2 := hO.old x2
      clear hx x0 x1 x2
      have hT := Lib.hid hT0.out.2
      have hln := Lib.hid hT0.out.1
      have hB := hO.box #[.int .i64 kd, .int .i64 at_, .int .i64 nn] 65
      have hB6 : Own w (wr.alloc (.cells #[.int .i64 kd, .int .i64 at_, .int .i64 nn] 65)) [storeA (b + 1) b ms, intsA bm sz ms, rowA 57 2 (.slice tao n tcap) n xs, rowA 3 1 (.slice aao n acap) n (ats.map (.int .i64)), rowA 3 1 (.slice nao n ncap) n (nums.map (.int .i64)), cellsA wr.heap.size #[.int .i64 kd, .int .i64 at_, .int .i64 nn] 65] := hB
      clear hB
      obtain ⟨v, qv, hv⟩ : ∃ v : Nat, wrap64 ((IntKind.u64.wrap nn).tmod (max (n : Int) 1)) = v ∧ (n ≠ 0 → v < n) := by
        have hU : 0 ≤ IntKind.u64.wrap nn := by simp [IntKind.wrap, IntKind.bits, IntKind.signed]; omega
        generalize IntKind.u64.wrap nn = U at *
        have h1 := Int.tmod_lt_of_pos U (show (0 : Int) < max (n : Int) 1 by omega)
        have h2 := Int.tmod_nonneg (max (n : Int) 1) hU
        generalize U.tmod (max (n : Int) 1) = T at *
        exact ⟨T.toNat, by rw [IntWalk.wrap64_in _ (by omega)]; omega, fun h => by omega⟩
      replace hv := Lib.hid hv
      have AI := fun (w5 : World) (ms' : List Int) (l' : List Ast) (hml' : Hid (ms'.length = sz)) (h : Own w w5 (storeA (b + 1) b ms' :: intsA bm sz ms' :: l')) => own_all h 0 rfl
      have II := fun (w6 : World) (ms' : List Int) (l' : List Ast) (hml' : Hid (ms'.length = sz)) (ao : Option Addr) (cap : Nat) (h : Own w w6 (storeA (b + 1) b ms' :: intsA bm sz ms' :: l')) (hli : Lies w6 ao cap ms') => ints_any ao (some ⟨bm, 0, none⟩) cap sz ms' ms' w6 hli (h.ints_lies 1 rfl hml'.out.symm)
      replace AI := Lib.hid AI
      replace II := Lib.hid II
      go_wp2_with fail
      all_goals
        clear hO z0 z1 z2
        generalize wr.alloc (.cells #[.int .i64 kd, .int .i64 at_, .int .i64 nn] 65) = wq at *
        generalize wr.heap.size = bx at *
        have hO := hB6
        clear hB6

      · skip
        have A := AI.out _ _ _ hml hO
        rw [hml.out] at A
        replace A := Lib.hid A
        go_at_call 18
        refine A.out.mono ?_
        rintro e w7 ⟨ao, cap, rfl, hO7, hli, _, _, _⟩
        go_wp2_with fail
        have I := II.out w7 _ _ hml ao cap hO7 hli
        rw [hml.out, beq_self_eq_true] at I
        replace I := Lib.hid I
        go_at_call 23
        refine I.out.mono ?_
        rintro e w8 ⟨rfl, m8, hw8⟩
        have hO8 := hO7.drewN m8
        rw [← hw8] at hO8
        clear hw8
        go_wp2
        go_roundw
        case rel => exact ⟨k + 1, n, ms, ats, nums, xs, by omega, by omega, by go_num, hml, hT0, hat, hO8.pop1⟩
        case measure => simp [intOf]; omega
      · have hT' := fun x => Lib.hid (And.intro (show (ats ++ [at_]).length = n + 1 by rw [List.length_append, hln.out]; rfl) (hT.out.snoc at_ x))
        have hxl := Lib.hid (show ∀ x y : Value, (xs ++ [x, y])[n * 2]? = some x ∧ (xs ++ [x, y])[n * 2 + 1]? = some y by
          intro x y
          have h1 := hT.out.1
          rw [hln.out] at h1
          rw [List.getElem?_append_right (by omega), List.getElem?_append_right (by omega), h1]
          simp)
        have hat' := Lib.hid (show ∀ v, v < n + 1 → -1048576 ≤ (ats ++ [at_]).getD v 0 ∧ (ats ++ [at_]).getD v 0 ≤ 1048576 by
          intro v hv
          by_cases hvn : v < n
          · rw [getD_app (by rw [hln.out]; exact hvn)]; exact hat.out v hvn
          · have : v = ats.length := by rw [hln.out]; omega
            subst this
            rw [List.getD_eq_getElem?_getD, List.getElem?_append_right (by omega)]; simp; omega)
        have c1 := (hO.cget 5 rfl 1).1
        simp at c1
        by_cases hin : 0 ≤ at_ ∧ at_ < sz
        · skip
          obtain ⟨hin1, hin2⟩ := hin
          obtain ⟨a, rfl⟩ : ∃ n : Nat, at_ = n := ⟨at_.toNat, by omega⟩
          have ha : a < sz := by omega
          have g0 := hO.ints_get 1 rfl (j := a) (by rw [hml.out]; exact ha)
          have g1 := hO.ints_free 1 rfl (j := a) ha
          have hml' := Lib.hid (show (ms.set a (wrap64 (ms.getD a 0 + 1))).length = sz by rw [List.length_set, hml.out])
          have hO2 := hO.ints_set 1 rfl a (wrap64 (ms.getD a 0 + 1)) rfl
          have B1 := hO2.cget 5 rfl 1
          have A1 := own_ask hO2 0 rfl (k := a) (by rw [hml.out]; exact ha) (ms.getD a 0) rfl _ rfl
          generalize hX : ms.getD a 0 = X at *
          replace hX := Lib.hid hX
          generalize hms : ms.set a (wrap64 (X + 1)) = ms' at *
          replace hms := Lib.hid hms
          have C := Lib.hid (in12_any bm sz a wq true (by simp; omega))
          have b1 := B1.1
          simp at b1
          clear B1
          go_at_call 33
          refine C.out.mono ?_
          rintro e w4 ⟨rfl, rfl⟩
          replace A1 := Lib.hid A1
          have G1 := Lib.hid (fun (w5 : World) (h : Own w w5 [storeA (b + 1) b ms', intsA bm sz ms', rowA 57 2 (.slice tao n tcap) n xs, rowA 3 1 (.slice aao n acap) n (ats.map (.int .i64)), rowA 3 1 (.slice nao n ncap) n (nums.map (.int .i64)), cellsA bx #[.int .i64 kd, .int .i64 (a : Int), .int .i64 nn] 65]) => h.row 2 rfl)
          go_wp2_with (first | (go_at_call 33; refine C.out.mono ?_; rintro e w4 ⟨rfl, rfl⟩) | (go_at_call 30; refine A1.out.mono ?_; rintro e w5 ⟨rfl, hO5⟩; have hr5 := G1.out _ hO5; clear hO) | (at_builtin; refine wpList_append_lit' _ rfl (.tmp 73) (.tmp 78) 55 rfl 57 i0 (.agg #[.int .i64 0, .int .i64 0]) 2 16 Try.underlying55 hi hz0 hz1' hz2' rfl (by decide) (.slice tao n tcap) n xs rfl hr5 #[.int .i64 (a : Int), .int .i64 X] _ 1 _ (by simp) rfl rfl (by simp [Value.oneCell']) (by unfold maxLen; omega) (by omega) ?_; intro tao2 tcap2 wz hr6 ht6 hf6; have hO6 := hO5.move 2 rfl (Moves.of_append hr6 ht6 hf6); have hr8 := hO6.row 3 rfl; have bb := (hO6.cget 5 rfl 1).1; simp at bb) | (at_builtin; refine wpList_append_lit' _ rfl (.tmp 80) (.tmp 83) 22 rfl 3 i1 (.int .i64 0) 1 8 Try.underlying22 hi1 hw0 hw1' hw2' rfl (by decide) (.slice aao n acap) n (ats.map (.int .i64)) rfl hr8 #[.int .i64 (a : Int)] _ 1 _ (by simp) rfl rfl (by simp [Value.oneCell']) (by unfold maxLen; omega) (by omega) ?_; intro aao2 acap2 wy hr9 ht9 hf9; have hO9 := hO6.move 3 rfl (Moves.of_append hr9 ht9 hf9); have hr10 := hO9.row 4 rfl) | (at_builtin; refine wpList_append_lit' _ rfl (.tmp 85) (.tmp 87) 22 rfl 3 i1 (.int .i64 0) 1 8 Try.underlying22 hi1 hw0 hw1' hw2' rfl (by decide) (.slice nao n ncap) n (nums.map (.int .i64)) rfl hr10 #[.int .i64 X] _ 1 _ (by simp) rfl rfl (by simp [Value.oneCell']) (by unfold maxLen; omega) (by omega) ?_; intro nao2 ncap2 wx hr11 ht11 hf11; have hO11 := hO9.move 4 rfl (Moves.of_append hr11 ht11 hf11); obtain ⟨tg, toff, tc2, htv, _, _, tcell, _⟩ := (hO11.row 2 rfl).addr (Nat.succ_pos n); simp only [Value.slice.injEq] at htv; obtain ⟨rfl, _, rfl⟩ := htv; have tt0 := tcell (n * 2) (by omega); have tt1 := tcell (n * 2 + 1) (by omega); rw [(hxl.out _ _).1] at tt0; rw [(hxl.out _ _).2, ← Nat.add_assoc] at tt1; clear tcell) | (go_at_call 34; refine (number_any _ _ _).mono ?_; rintro e w13 ⟨rfl, hb13⟩))
          have hO13 := hO11.grow hb13
          have A := AI.out _ _ _ hml' hO13
          rw [hml'.out] at A
          replace A := Lib.hid A
          go_at_call 18
          refine A.out.mono ?_
          rintro e w7 ⟨ao, cap, rfl, hO7, hli, _, _, _⟩
          go_wp2_with fail
          have I := II.out w7 _ _ hml' ao cap hO7 hli
          rw [hml'.out, beq_self_eq_true] at I
          replace I := Lib.hid I
          go_at_call 23
          refine I.out.mono ?_
          rintro e w8 ⟨rfl, m8, hw8⟩
          have hO8 := hO7.drewN m8
          rw [← hw8] at hO8
          clear hw8
          go_wp2
          go_roundw
          case rel => exact ⟨k + 1, n + 1, _, ats ++ [(a : Int)], nums ++ [X], _, by omega, by omega, by go_num, hml', hT' X, hat', by rw [List.map_append, List.map_append]; exact hO8.pop1⟩
          case measure => simp [intOf]; omega
        · skip
          have A1 := own_ask_no hO 0 rfl (k := at_) (by rw [hml.out]; omega)
          have C := Lib.hid (in12_any bm sz at_ wq false (by simp; omega))
          have hX : True := trivial
          go_at_call 33
          refine C.out.mono ?_
          rintro e w4 ⟨rfl, rfl⟩
          replace A1 := Lib.hid A1
          have G1 := Lib.hid (fun (w5 : World) (h : Own w w5 [storeA (b + 1) b ms, intsA bm sz ms, rowA 57 2 (.slice tao n tcap) n xs, rowA 3 1 (.slice aao n acap) n (ats.map (.int .i64)), rowA 3 1 (.slice nao n ncap) n (nums.map (.int .i64)), cellsA bx #[.int .i64 kd, .int .i64 at_, .int .i64 nn] 65]) => h.row 2 rfl)
          go_wp2_with (first | (go_at_call 33; refine C.out.mono ?_; rintro e w4 ⟨rfl, rfl⟩) | (go_at_call 30; refine A1.out.mono ?_; rintro e w5 ⟨rfl, hO5⟩; have hr5 := G1.out _ hO5; clear hO) | (at_builtin; refine wpList_append_lit' _ rfl (.tmp 73) (.tmp 78) 55 rfl 57 i0 (.agg #[.int .i64 0, .int .i64 0]) 2 16 Try.underlying55 hi hz0 hz1' hz2' rfl (by decide) (.slice tao n tcap) n xs rfl hr5 #[.int .i64 at_, .int .i64 0] _ 1 _ (by simp) rfl rfl (by simp [Value.oneCell']) (by unfold maxLen; omega) (by omega) ?_; intro tao2 tcap2 wz hr6 ht6 hf6; have hO6 := hO5.move 2 rfl (Moves.of_append hr6 ht6 hf6); have hr8 := hO6.row 3 rfl; have bb := (hO6.cget 5 rfl 1).1; simp at bb) | (at_builtin; refine wpList_append_lit' _ rfl (.tmp 80) (.tmp 83) 22 rfl 3 i1 (.int .i64 0) 1 8 Try.underlying22 hi1 hw0 hw1' hw2' rfl (by decide) (.slice aao n acap) n (ats.map (.int .i64)) rfl hr8 #[.int .i64 at_] _ 1 _ (by simp) rfl rfl (by simp [Value.oneCell']) (by unfold maxLen; omega) (by omega) ?_; intro aao2 acap2 wy hr9 ht9 hf9; have hO9 := hO6.move 3 rfl (Moves.of_append hr9 ht9 hf9); have hr10 := hO9.row 4 rfl) | (at_builtin; refine wpList_append_lit' _ rfl (.tmp 85) (.tmp 87) 22 rfl 3 i1 (.int .i64 0) 1 8 Try.underlying22 hi1 hw0 hw1' hw2' rfl (by decide) (.slice nao n ncap) n (nums.map (.int .i64)) rfl hr10 #[.int .i64 0] _ 1 _ (by simp) rfl rfl (by simp [Value.oneCell']) (by unfold maxLen; omega) (by omega) ?_; intro nao2 ncap2 wx hr11 ht11 hf11; have hO11 := hO9.move 4 rfl (Moves.of_append hr11 ht11 hf11); obtain ⟨tg, toff, tc2, htv, _, _, tcell, _⟩ := (hO11.row 2 rfl).addr (Nat.succ_pos n); simp only [Value.slice.injEq] at htv; obtain ⟨rfl, _, rfl⟩ := htv; have tt0 := tcell (n * 2) (by omega); have tt1 := tcell (n * 2 + 1) (by omega); rw [(hxl.out _ _).1] at tt0; rw [(hxl.out _ _).2, ← Nat.add_assoc] at tt1; clear tcell) | (go_at_call 34; refine (number_any _ _ _).mono ?_; rintro e w13 ⟨rfl, hb13⟩))
          have hO13 := hO11.grow hb13
          have A := AI.out _ _ _ hml hO13
          rw [hml.out] at A
          replace A := Lib.hid A
          go_at_call 18
          refine A.out.mono ?_
          rintro e w7 ⟨ao, cap, rfl, hO7, hli, _, _, _⟩
          go_wp2_with fail
          have I := II.out w7 _ _ hml ao cap hO7 hli
          rw [hml.out, beq_self_eq_true] at I
          replace I := Lib.hid I
          go_at_call 23
          refine I.out.mono ?_
          rintro e w8 ⟨rfl, m8, hw8⟩
          have hO8 := hO7.drewN m8
          rw [← hw8] at hO8
          clear hw8
          go_wp2
          go_roundw
          case rel => exact ⟨k + 1, n + 1, _, ats ++ [at_], nums ++ [0], _, by omega, by omega, by go_num, hml, hT' 0, hat', by rw [List.map_append, List.map_append]; exact hO8.pop1⟩
          case measure => simp [intOf]; omega
      · skip
        have A := AI.out _ _ _ hml hO
        rw [hml.out] at A
        replace A := Lib.hid A
        go_at_call 18
        refine A.out.mono ?_
        rintro e w7 ⟨ao, cap, rfl, hO7, hli, _, _, _⟩
        go_wp2_with fail
        have I := II.out w7 _ _ hml ao cap hO7 hli
        rw [hml.out, beq_self_eq_true] at I
        replace I := Lib.hid I
        go_at_call 23
        refine I.out.mono ?_
        rintro e w8 ⟨rfl, m8, hw8⟩
        have hO8 := hO7.drewN m8
        rw [← hw8] at hO8
        clear hw8
        go_wp2
        go_roundw
        case rel => exact ⟨k + 1, n, ms, ats, nums, xs, by omega, by omega, by go_num, hml, hT0, hat, hO8.pop1⟩
        case measure => simp [intOf]; omega
      · skip
        have hn0 : 0 < n := by
          rcases Nat.eq_zero_or_pos n with h | h
          · subst h; simp at *
          · exact h
        have hvn := hv.out (by omega)
        obtain ⟨tg, toff, tc, htv, _, _, _, _⟩ := (hO.row 2 rfl).addr hn0
        obtain ⟨ag, aoff, ac, hav, _, _, _, _⟩ := (hO.row 3 rfl).addr hn0
        obtain ⟨ng, noff, nc, hnv, _, _, _, _⟩ := (hO.row 4 rfl).addr hn0
        simp only [Value.slice.injEq] at htv hav hnv
        obtain ⟨rfl, _, rfl⟩ := htv
        obtain ⟨rfl, _, rfl⟩ := hav
        obtain ⟨rfl, _, rfl⟩ := hnv
        obtain ⟨T1, T2, T3⟩ := hT.out
        obtain ⟨q0, q1⟩ := T3 v (by rw [hln.out]; exact hvn)
        have q2 : (ats.map (Value.int .i64))[v]? = some (.int .i64 (ats.getD v 0)) := by
          rw [List.getElem?_map, List.getElem?_eq_getElem (by rw [hln.out]; exact hvn), List.getD_eq_getElem?_getD, List.getElem?_eq_getElem (by rw [hln.out]; exact hvn)]; rfl
        have q3 : (nums.map (Value.int .i64))[v]? = some (.int .i64 (nums.getD v 0)) := by
          have hnl : v < nums.length := by rw [T2, hln.out]; exact hvn
          rw [List.getElem?_map, List.getElem?_eq_getElem hnl, List.getD_eq_getElem?_getD, List.getElem?_eq_getElem hnl]; rfl
        have hA := hat.out v hvn
        generalize ats.getD v 0 = A at *
        generalize nums.getD v 0 = Nn at *
        clear T1 T2 T3
        have i1 : (0 : Int) ≤ (v : Int) := by omega
        have i2 : (v : Int) < (n : Int) := by omega
        have GS := Lib.hid (fun (w' : World) (ms' mm' : List Int) (h : Own w w' [storeA (b + 1) b ms', intsA bm sz mm', rowA 57 2 (.slice (some ⟨tg, toff, none⟩) n tcap) n xs, rowA 3 1 (.slice (some ⟨ag, aoff, none⟩) n acap) n (ats.map (.int .i64)), rowA 3 1 (.slice (some ⟨ng, noff, none⟩) n ncap) n (nums.map (.int .i64)), cellsA bx #[.int .i64 kd, .int .i64 at_, .int .i64 nn] 65]) => show w'.cell? ⟨tg, toff + v * 2, none⟩ = some (.int .i64 A) ∧ w'.cell? ⟨tg, toff + v * 2 + 1, none⟩ = some (.int .i64 Nn) ∧ w'.cell? ⟨ag, aoff + v, none⟩ = some (.int .i64 A) ∧ w'.cell? ⟨ng, noff + v, none⟩ = some (.int .i64 Nn) from ⟨h.row_at 2 rfl q0, by have := h.row_at 2 rfl q1; rwa [← Nat.add_assoc] at this, h.row_at 3 rfl q2, h.row_at 4 rfl q3⟩)
        clear q0 q1 q2 q3
        by_cases hin : 0 ≤ A + 1 ∧ A + 1 < sz
        · skip
          obtain ⟨hin1, hin2⟩ := hin
          obtain ⟨j, hj⟩ : ∃ j : Nat, A + 1 = j := ⟨(A + 1).toNat, by omega⟩
          have hjs : j < sz := by omega
          have qw : wrap64 (A + 1) = (j : Int) := by rw [IntWalk.wrap64_in _ (by omega)]; exact hj
          have qx : IntKind.i64.wrap (A + 1) = (j : Int) := (IntWalk.i64_left _).trans qw
          have qn : IntKind.i64.wrap (Nn + 1) = wrap64 (Nn + 1) := IntWalk.i64_left _
          have i3 : (0 : Int) ≤ (j : Int) := by omega
          have i4 : (j : Int) < (sz : Int) := by omega
          obtain ⟨t, ht⟩ : ∃ t, (ms.getD j 0 == Nn) = t := ⟨_, rfl⟩
          have M := Lib.hid (own_mine_a (hO.drewN 1) 0 rfl hj (by rw [hml.out]; exact hjs) (by omega) Nn _ rfl t ht)
          have GM := Lib.hid (fun (w' : World) (h : Own w w' [storeA (b + 1) b ms, intsA bm sz ms, rowA 57 2 (.slice (some ⟨tg, toff, none⟩) n tcap) n xs, rowA 3 1 (.slice (some ⟨ag, aoff, none⟩) n acap) n (ats.map (.int .i64)), rowA 3 1 (.slice (some ⟨ng, noff, none⟩) n ncap) n (nums.map (.int .i64)), cellsA bx #[.int .i64 kd, .int .i64 at_, .int .i64 nn] 65]) => h.ints_get 1 rfl (j := j) (by rw [hml.out]; exact hjs))
          have m0 := GM.out _ hO
          generalize ms.getD j 0 = X at *
          have C := Lib.hid (fun w6 => in12_any bm sz j w6 true (by simp; omega))
          clear hj hin1 hin2
          have hS0 : (fun w' => w'.cell? ⟨tg, toff + v * 2, none⟩ = some (.int .i64 A) ∧ w'.cell? ⟨tg, toff + v * 2 + 1, none⟩ = some (.int .i64 Nn) ∧ w'.cell? ⟨ag, aoff + v, none⟩ = some (.int .i64 A) ∧ w'.cell? ⟨ng, noff + v, none⟩ = some (.int .i64 Nn) ∧ w'.cell? ⟨bm, j, none⟩ = some (.int .i64 X)) wq.drew := by obtain ⟨s1, s2, s3, s4⟩ := GS.out _ _ _ hO; exact ⟨s1, s2, s3, s4, m0⟩
          dsimp only at hS0
          refine lin_start (S := (fun w' => w'.cell? ⟨tg, toff + v * 2, none⟩ = some (.int .i64 A) ∧ w'.cell? ⟨tg, toff + v * 2 + 1, none⟩ = some (.int .i64 Nn) ∧ w'.cell? ⟨ag, aoff + v, none⟩ = some (.int .i64 A) ∧ w'.cell? ⟨ng, noff + v, none⟩ = some (.int .i64 Nn) ∧ w'.cell? ⟨bm, j, none⟩ = some (.int .i64 X))) rfl 29 rfl hS0 ?_
          simp only [numbered, Nat.zero_add, Nat.reduceAdd]
          refine lin_take (v := ?_) (by kernel_rfl) (by kernel_rfl) (fun _ _ _ h => h) (Or.inl ⟨by rfl, ?_⟩) (by assumption) ?_; (rotate_left; (intro wS hSw; (try dsimp only at hSw); go_simp; (try with_reducible rfl)); rotate_left); simp only [Act.put, List.setIfInBounds_toArray, List.set_cons_zero, List.set_cons_succ]
          refine lin_take (v := ?_) (by kernel_rfl) (by kernel_rfl) (fun _ _ _ h => h) (Or.inl ⟨by rfl, ?_⟩) (by assumption) ?_; (rotate_left; (intro wS hSw; (try dsimp only at hSw); go_simp; (try with_reducible rfl)); rotate_left); simp only [Act.put, List.setIfInBounds_toArray, List.set_cons_zero, List.set_cons_succ]
          refine lin_take (v := ?_) (by kernel_rfl) (by kernel_rfl) (fun _ _ _ h => h) (Or.inl ⟨by rfl, ?_⟩) (by assumption) ?_; (rotate_left; (intro wS hSw; (try dsimp only at hSw); go_simp; (try with_reducible rfl)); rotate_left); simp only [Act.put, List.setIfInBounds_toArray, List.set_cons_zero, List.set_cons_succ]
          refine lin_take (v := ?_) (by kernel_rfl) (by kernel_rfl) (fun _ _ _ h => h) (Or.inl ⟨by rfl, ?_⟩) (by assumption) ?_; (rotate_left; (intro wS hSw; (try dsimp only at hSw); go_simp; (try with_reducible rfl)); rotate_left); simp only [Act.put, List.setIfInBounds_toArray, List.set_cons_zero, List.set_cons_succ]
          refine lin_take (v := ?_) (by kernel_rfl) (by kernel_rfl) (fun _ _ _ h => h) (Or.inl ⟨by rfl, ?_⟩) (by assumption) ?_; (rotate_left; (intro wS hSw; (try dsimp only at hSw); go_simp; (try with_reducible rfl)); rotate_left); simp only [Act.put, List.setIfInBounds_toArray, List.set_cons_zero, List.set_cons_succ]
          refine lin_rot ?_; simp only [List.cons_append, List.nil_append]
          refine lin_take (v := ?_) (by kernel_rfl) (by kernel_rfl) (fun _ _ _ h => h) (Or.inl ⟨by rfl, ?_⟩) (by assumption) ?_; (rotate_left; (intro wS hSw; (try dsimp only at hSw); go_simp; (try with_reducible rfl)); rotate_left); simp only [Act.put, List.setIfInBounds_toArray, List.set_cons_zero, List.set_cons_succ]
          refine lin_take (v := ?_) (by kernel_rfl) (by kernel_rfl) (fun _ _ _ h => h) (Or.inl ⟨by rfl, ?_⟩) (by assumption) ?_; (rotate_left; (intro wS hSw; (try dsimp only at hSw); go_simp; (try with_reducible rfl)); rotate_left); simp only [Act.put, List.setIfInBounds_toArray, List.set_cons_zero, List.set_cons_succ]
          refine lin_take (v := ?_) (by kernel_rfl) (by kernel_rfl) (fun _ _ _ h => h) (Or.inl ⟨by rfl, ?_⟩) (by assumption) ?_; (rotate_left; (intro wS hSw; (try dsimp only at hSw); go_simp; (try with_reducible rfl)); rotate_left); simp only [Act.put, List.setIfInBounds_toArray, List.set_cons_zero, List.set_cons_succ]
          refine lin_take (v := ?_) (by kernel_rfl) (by kernel_rfl) (fun _ _ _ h => h) (Or.inl ⟨by rfl, ?_⟩) (by assumption) ?_; (rotate_left; (intro wS hSw; (try dsimp only at hSw); go_simp; (try with_reducible rfl)); rotate_left); simp only [Act.put, List.setIfInBounds_toArray, List.set_cons_zero, List.set_cons_succ]
          refine lin_take (v := ?_) (by kernel_rfl) (by kernel_rfl) (fun _ _ _ h => h) (Or.inl ⟨by rfl, ?_⟩) (by assumption) ?_; (rotate_left; (intro wS hSw; (try dsimp only at hSw); go_simp; (try with_reducible rfl)); rotate_left); simp only [Act.put, List.setIfInBounds_toArray, List.set_cons_zero, List.set_cons_succ]
          refine lin_take (v := ?_) (by kernel_rfl) (by kernel_rfl) (fun _ _ _ h => h) (Or.inl ⟨by rfl, ?_⟩) (by assumption) ?_; (rotate_left; (intro wS hSw; (try dsimp only at hSw); go_simp; (try with_reducible rfl)); rotate_left); simp only [Act.put, List.setIfInBounds_toArray, List.set_cons_zero, List.set_cons_succ]
          refine lin_rot ?_; simp only [List.cons_append, List.nil_append]
          refine lin_rot ?_; simp only [List.cons_append, List.nil_append]
          refine lin_rot ?_; simp only [List.cons_append, List.nil_append]
          refine lin_rot ?_; simp only [List.cons_append, List.nil_append]
          refine lin_rot ?_; simp only [List.cons_append, List.nil_append]
          refine lin_rot ?_; simp only [List.cons_append, List.nil_append]
          refine lin_rot ?_; simp only [List.cons_append, List.nil_append]
          refine lin_rot ?_; simp only [List.cons_append, List.nil_append]
          refine lin_rot ?_; simp only [List.cons_append, List.nil_append]
          refine lin_rot ?_; simp only [List.cons_append, List.nil_append]
          refine lin_rot ?_; simp only [List.cons_append, List.nil_append]
          refine lin_rot ?_; simp only [List.cons_append, List.nil_append]
          refine lin_rot ?_; simp only [List.cons_append, List.nil_append]
          refine lin_rot ?_; simp only [List.cons_append, List.nil_append]
          refine lin_rot ?_; simp only [List.cons_append, List.nil_append]
          refine lin_rot ?_; simp only [List.cons_append, List.nil_append]
          refine lin_rot ?_; simp only [List.cons_append, List.nil_append]
          refine lin_sole (by kernel_rfl) (fun K hK => ?_)
          go_simp
          (refine M.out.mono ?_; rintro e w5 ⟨rfl, hO5⟩)
          refine hK.out _ _ ?_ (fun hHeld => ?_)
          · obtain ⟨s1, s2, s3, s4⟩ := GS.out _ _ _ hO5; exact ⟨s1, s2, s3, s4, GM.out _ hO5⟩
          try simp only [Act.put, List.setIfInBounds_toArray, List.set_cons_zero, List.set_cons_succ]
          refine lin_sole (by kernel_rfl) (fun K hK => ?_)
          go_simp
          (refine (C.out _).mono ?_; rintro e w6 ⟨rfl, rfl⟩)
          refine hK.out _ _ ?_ (fun hHeld => ?_)
          · exact hHeld
          try simp only [Act.put, List.setIfInBounds_toArray, List.set_cons_zero, List.set_cons_succ]
          refine lin_take (v := ?_) (by kernel_rfl) (by kernel_rfl) (fun _ _ _ h => h) (Or.inl ⟨by rfl, ?_⟩) (by assumption) ?_; (rotate_left; (intro wS hSw; (try dsimp only at hSw); go_simp; (try with_reducible rfl)); rotate_left); simp only [Act.put, List.setIfInBounds_toArray, List.set_cons_zero, List.set_cons_succ]
          refine lin_take (v := ?_) (by kernel_rfl) (by kernel_rfl) (fun _ _ _ h => h) (Or.inl ⟨by rfl, ?_⟩) (by assumption) ?_; (rotate_left; (intro wS hSw; (try dsimp only at hSw); go_simp; (try with_reducible rfl)); rotate_left); simp only [Act.put, List.setIfInBounds_toArray, List.set_cons_zero, List.set_cons_succ]
          refine lin_take (v := ?_) (by kernel_rfl) (by kernel_rfl) (fun _ _ _ h => h) (Or.inl ⟨by rfl, ?_⟩) (by assumption) ?_; (rotate_left; (intro wS hSw; (try dsimp only at hSw); go_simp; (try with_reducible rfl)); rotate_left); simp only [Act.put, List.setIfInBounds_toArray, List.set_cons_zero, List.set_cons_succ]
          refine lin_take (v := ?_) (by kernel_rfl) (by kernel_rfl) (fun _ _ _ h => h) (Or.inl ⟨by rfl, ?_⟩) (by assumption) ?_; (rotate_left; (intro wS hSw; (try dsimp only at hSw); go_simp; (try with_reducible rfl)); rotate_left); simp only [Act.put, List.setIfInBounds_toArray, List.set_cons_zero, List.set_cons_succ]
          refine lin_take (v := ?_) (by kernel_rfl) (by kernel_rfl) (fun _ _ _ h => h) (Or.inl ⟨by rfl, ?_⟩) (by assumption) ?_; (rotate_left; (intro wS hSw; (try dsimp only at hSw); go_simp; (try with_reducible rfl)); rotate_left); simp only [Act.put, List.setIfInBounds_toArray, List.set_cons_zero, List.set_cons_succ]
          refine lin_take (v := ?_) (by kernel_rfl) (by kernel_rfl) (fun _ _ _ h => h) (Or.inl ⟨by rfl, ?_⟩) (by assumption) ?_; (rotate_left; (intro wS hSw; (try dsimp only at hSw); go_simp; (try with_reducible rfl)); rotate_left); simp only [Act.put, List.setIfInBounds_toArray, List.set_cons_zero, List.set_cons_succ]
          refine lin_take (v := ?_) (by kernel_rfl) (by kernel_rfl) (fun _ _ _ h => h) (Or.inl ⟨by rfl, ?_⟩) (by assumption) ?_; (rotate_left; (intro wS hSw; (try dsimp only at hSw); go_simp; (try with_reducible rfl)); rotate_left); simp only [Act.put, List.setIfInBounds_toArray, List.set_cons_zero, List.set_cons_succ]
          refine lin_take (v := ?_) (by kernel_rfl) (by kernel_rfl) (fun _ _ _ h => h) (Or.inl ⟨by rfl, ?_⟩) (by assumption) ?_; (rotate_left; (intro wS hSw; (try dsimp only at hSw); go_simp; (try with_reducible rfl)); rotate_left); simp only [Act.put, List.setIfInBounds_toArray, List.set_cons_zero, List.set_cons_succ]
          refine lin_take (v := ?_) (by kernel_rfl) (by kernel_rfl) (fun _ _ _ h => h) (Or.inl ⟨by rfl, ?_⟩) (by assumption) ?_; (rotate_left; (intro wS hSw; (try dsimp only at hSw); go_simp; (try with_reducible rfl)); rotate_left); simp only [Act.put, List.setIfInBounds_toArray, List.set_cons_zero, List.set_cons_succ]
          refine lin_take (v := ?_) (by kernel_rfl) (by kernel_rfl) (fun _ _ _ h => h) (Or.inl ⟨by rfl, ?_⟩) (by assumption) ?_; (rotate_left; (intro wS hSw; (try dsimp only at hSw); go_simp; (try with_reducible rfl)); rotate_left); simp only [Act.put, List.setIfInBounds_toArray, List.set_cons_zero, List.set_cons_succ]
          refine lin_take (v := ?_) (by kernel_rfl) (by kernel_rfl) (fun _ _ _ h => h) (Or.inl ⟨by rfl, ?_⟩) (by assumption) ?_; (rotate_left; (intro wS hSw; (try dsimp only at hSw); go_simp; (try with_reducible rfl)); rotate_left); simp only [Act.put, List.setIfInBounds_toArray, List.set_cons_zero, List.set_cons_succ]
          refine lin_take (v := ?_) (by kernel_rfl) (by kernel_rfl) (fun _ _ _ h => h) (Or.inl ⟨by rfl, ?_⟩) (by assumption) ?_; (rotate_left; (intro wS hSw; (try dsimp only at hSw); go_simp; (try with_reducible rfl)); rotate_left); simp only [Act.put, List.setIfInBounds_toArray, List.set_cons_zero, List.set_cons_succ]
          refine lin_take (v := ?_) (by kernel_rfl) (by kernel_rfl) (fun _ _ _ h => h) (Or.inl ⟨by rfl, ?_⟩) (by assumption) ?_; (rotate_left; (intro wS hSw; (try dsimp only at hSw); go_simp; (try with_reducible rfl)); rotate_left); simp only [Act.put, List.setIfInBounds_toArray, List.set_cons_zero, List.set_cons_succ]
          refine lin_take (v := ?_) (by kernel_rfl) (by kernel_rfl) (fun _ _ _ h => h) (Or.inl ⟨by rfl, ?_⟩) (by assumption) ?_; (rotate_left; (intro wS hSw; (try dsimp only at hSw); go_simp; (try with_reducible rfl)); rotate_left); simp only [Act.put, List.setIfInBounds_toArray, List.set_cons_zero, List.set_cons_succ]
          refine lin_take (v := ?_) (by kernel_rfl) (by kernel_rfl) (fun _ _ _ h => h) (Or.inl ⟨by rfl, ?_⟩) (by assumption) ?_; (rotate_left; (intro wS hSw; (try dsimp only at hSw); go_simp; (try with_reducible rfl)); rotate_left); simp only [Act.put, List.setIfInBounds_toArray, List.set_cons_zero, List.set_cons_succ]
          refine lin_take (v := ?_) (by kernel_rfl) (by kernel_rfl) (fun _ _ _ h => h) (Or.inl ⟨by rfl, ?_⟩) (by assumption) ?_; (rotate_left; (intro wS hSw; (try dsimp only at hSw); go_simp; (try with_reducible rfl)); rotate_left); simp only [Act.put, List.setIfInBounds_toArray, List.set_cons_zero, List.set_cons_succ]
          refine lin_done (by kernel_rfl) ?_
          go_wp2_with fail
          have A := AI.out _ _ _ hml hO5
          rw [hml.out] at A
          replace A := Lib.hid A
          go_at_call 18
          refine A.out.mono ?_
          rintro e w7 ⟨ao, cap, rfl, hO7, hli, _, _, _⟩
          go_wp2_with fail
          have I := II.out w7 _ _ hml ao cap hO7 hli
          rw [hml.out, beq_self_eq_true] at I
          replace I := Lib.hid I
          go_at_call 23
          refine I.out.mono ?_
          rintro e w8 ⟨rfl, m8, hw8⟩
          have hO8 := hO7.drewN m8
          rw [← hw8] at hO8
          clear hw8
          go_wp2
          go_roundw
          case rel => exact ⟨k + 1, n, ms, ats, nums, xs, by omega, by omega, by go_num, hml, hT0, hat, hO8.pop1⟩
          case measure => simp [intOf]; omega
        · skip
          have M := Lib.hid (own_mine_no (hO.drewN 1) 0 rfl (a := A) (by omega) (by rw [hml.out]; omega) Nn)
          have qw : wrap64 (A + 1) = A + 1 := IntWalk.wrap64_in _ (by omega)
          have qx : IntKind.i64.wrap (A + 1) = A + 1 := (IntWalk.i64_left _).trans qw
          have C := Lib.hid (fun w6 => in12_any bm sz (A + 1) w6 false (by simp; omega))
          clear hin
          have hS0 : (fun w' => w'.cell? ⟨tg, toff + v * 2, none⟩ = some (.int .i64 A) ∧ w'.cell? ⟨tg, toff + v * 2 + 1, none⟩ = some (.int .i64 Nn) ∧ w'.cell? ⟨ag, aoff + v, none⟩ = some (.int .i64 A) ∧ w'.cell? ⟨ng, noff + v, none⟩ = some (.int .i64 Nn)) wq.drew := GS.out _ _ _ (hO.drewN 1)
          dsimp only at hS0
          refine lin_start (S := (fun w' => w'.cell? ⟨tg, toff + v * 2, none⟩ = some (.int .i64 A) ∧ w'.cell? ⟨tg, toff + v * 2 + 1, none⟩ = some (.int .i64 Nn) ∧ w'.cell? ⟨ag, aoff + v, none⟩ = some (.int .i64 A) ∧ w'.cell? ⟨ng, noff + v, none⟩ = some (.int .i64 Nn))) rfl 29 rfl hS0 ?_
          simp only [numbered, Nat.zero_add, Nat.reduceAdd]
          refine lin_take (v := ?_) (by kernel_rfl) (by kernel_rfl) (fun _ _ _ h => h) (Or.inl ⟨by rfl, ?_⟩) (by assumption) ?_; (rotate_left; (intro wS hSw; (try dsimp only at hSw); go_simp; (try with_reducible rfl)); rotate_left); simp only [Act.put, List.setIfInBounds_toArray, List.set_cons_zero, List.set_cons_succ]
          refine lin_take (v := ?_) (by kernel_rfl) (by kernel_rfl) (fun _ _ _ h => h) (Or.inl ⟨by rfl, ?_⟩) (by assumption) ?_; (rotate_left; (intro wS hSw; (try dsimp only at hSw); go_simp; (try with_reducible rfl)); rotate_left); simp only [Act.put, List.setIfInBounds_toArray, List.set_cons_zero, List.set_cons_succ]
          refine lin_take (v := ?_) (by kernel_rfl) (by kernel_rfl) (fun _ _ _ h => h) (Or.inl ⟨by rfl, ?_⟩) (by assumption) ?_; (rotate_left; (intro wS hSw; (try dsimp only at hSw); go_simp; (try with_reducible rfl)); rotate_left); simp only [Act.put, List.setIfInBounds_toArray, List.set_cons_zero, List.set_cons_succ]
          refine lin_take (v := ?_) (by kernel_rfl) (by kernel_rfl) (fun _ _ _ h => h) (Or.inl ⟨by rfl, ?_⟩) (by assumption) ?_; (rotate_left; (intro wS hSw; (try dsimp only at hSw); go_simp; (try with_reducible rfl)); rotate_left); simp only [Act.put, List.setIfInBounds_toArray, List.set_cons_zero, List.set_cons_succ]
          refine lin_take (v := ?_) (by kernel_rfl) (by kernel_rfl) (fun _ _ _ h => h) (Or.inl ⟨by rfl, ?_⟩) (by assumption) ?_; (rotate_left; (intro wS hSw; (try dsimp only at hSw); go_simp; (try with_reducible rfl)); rotate_left); simp only [Act.put, List.setIfInBounds_toArray, List.set_cons_zero, List.set_cons_succ]
          refine lin_rot ?_; simp only [List.cons_append, List.nil_append]
          refine lin_take (v := ?_) (by kernel_rfl) (by kernel_rfl) (fun _ _ _ h => h) (Or.inl ⟨by rfl, ?_⟩) (by assumption) ?_; (rotate_left; (intro wS hSw; (try dsimp only at hSw); go_simp; (try with_reducible rfl)); rotate_left); simp only [Act.put, List.setIfInBounds_toArray, List.set_cons_zero, List.set_cons_succ]
          refine lin_take (v := ?_) (by kernel_rfl) (by kernel_rfl) (fun _ _ _ h => h) (Or.inl ⟨by rfl, ?_⟩) (by assumption) ?_; (rotate_left; (intro wS hSw; (try dsimp only at hSw); go_simp; (try with_reducible rfl)); rotate_left); simp only [Act.put, List.setIfInBounds_toArray, List.set_cons_zero, List.set_cons_succ]
          refine lin_take (v := ?_) (by kernel_rfl) (by kernel_rfl) (fun _ _ _ h => h) (Or.inl ⟨by rfl, ?_⟩) (by assumption) ?_; (rotate_left; (intro wS hSw; (try dsimp only at hSw); go_simp; (try with_reducible rfl)); rotate_left); simp only [Act.put, List.setIfInBounds_toArray, List.set_cons_zero, List.set_cons_succ]
          refine lin_take (v := ?_) (by kernel_rfl) (by kernel_rfl) (fun _ _ _ h => h) (Or.inl ⟨by rfl, ?_⟩) (by assumption) ?_; (rotate_left; (intro wS hSw; (try dsimp only at hSw); go_simp; (try with_reducible rfl)); rotate_left); simp only [Act.put, List.setIfInBounds_toArray, List.set_cons_zero, List.set_cons_succ]
          refine lin_take (v := ?_) (by kernel_rfl) (by kernel_rfl) (fun _ _ _ h => h) (Or.inl ⟨by rfl, ?_⟩) (by assumption) ?_; (rotate_left; (intro wS hSw; (try dsimp only at hSw); go_simp; (try with_reducible rfl)); rotate_left); simp only [Act.put, List.setIfInBounds_toArray, List.set_cons_zero, List.set_cons_succ]
          refine lin_take (v := ?_) (by kernel_rfl) (by kernel_rfl) (fun _ _ _ h => h) (Or.inl ⟨by rfl, ?_⟩) (by assumption) ?_; (rotate_left; (intro wS hSw; (try dsimp only at hSw); go_simp; (try with_reducible rfl)); rotate_left); simp only [Act.put, List.setIfInBounds_toArray, List.set_cons_zero, List.set_cons_succ]
          refine lin_rot ?_; simp only [List.cons_append, List.nil_append]
          refine lin_rot ?_; simp only [List.cons_append, List.nil_append]
          refine lin_rot ?_; simp only [List.cons_append, List.nil_append]
          refine lin_rot ?_; simp only [List.cons_append, List.nil_append]
          refine lin_rot ?_; simp only [List.cons_append, List.nil_append]
          refine lin_rot ?_; simp only [List.cons_append, List.nil_append]
          refine lin_rot ?_; simp only [List.cons_append, List.nil_append]
          refine lin_rot ?_; simp only [List.cons_append, List.nil_append]
          refine lin_rot ?_; simp only [List.cons_append, List.nil_append]
          refine lin_rot ?_; simp only [List.cons_append, List.nil_append]
          refine lin_rot ?_; simp only [List.cons_append, List.nil_append]
          refine lin_rot ?_; simp only [List.cons_append, List.nil_append]
          refine lin_rot ?_; simp only [List.cons_append, List.nil_append]
          refine lin_rot ?_; simp only [List.cons_append, List.nil_append]
          refine lin_rot ?_; simp only [List.cons_append, List.nil_append]
          refine lin_rot ?_; simp only [List.cons_append, List.nil_append]
          refine lin_rot ?_; simp only [List.cons_append, List.nil_append]
          refine lin_sole (by kernel_rfl) (fun K hK => ?_)
          go_simp
          (refine M.out.mono ?_; rintro e w5 ⟨rfl, hO5⟩)
          refine hK.out _ _ ?_ (fun hHeld => ?_)
          · exact GS.out _ _ _ hO5
          try simp only [Act.put, List.setIfInBounds_toArray, List.set_cons_zero, List.set_cons_succ]
          refine lin_sole (by kernel_rfl) (fun K hK => ?_)
          go_simp
          (refine (C.out _).mono ?_; rintro e w6 ⟨rfl, rfl⟩)
          refine hK.out _ _ ?_ (fun hHeld => ?_)
          · exact hHeld
          try simp only [Act.put, List.setIfInBounds_toArray, List.set_cons_zero, List.set_cons_succ]
          refine lin_take (v := ?_) (by kernel_rfl) (by kernel_rfl) (fun _ _ _ h => h) (Or.inl ⟨by rfl, ?_⟩) (by assumption) ?_; (rotate_left; (intro wS hSw; (try dsimp only at hSw); go_simp; (try with_reducible rfl)); rotate_left); simp only [Act.put, List.setIfInBounds_toArray, List.set_cons_zero, List.set_cons_succ]
          refine lin_take (v := undef) (by kernel_rfl) (by kernel_rfl) (fun _ _ _ h => h) (Or.inr ⟨by rfl, rfl⟩) (by assumption) ?_; simp only [Act.put, List.setIfInBounds_toArray, List.set_cons_zero, List.set_cons_succ]
          refine lin_take (v := undef) (by kernel_rfl) (by kernel_rfl) (fun _ _ _ h => h) (Or.inr ⟨by rfl, rfl⟩) (by assumption) ?_; simp only [Act.put, List.setIfInBounds_toArray, List.set_cons_zero, List.set_cons_succ]
          refine lin_take (v := undef) (by kernel_rfl) (by kernel_rfl) (fun _ _ _ h => h) (Or.inr ⟨by rfl, rfl⟩) (by assumption) ?_; simp only [Act.put, List.setIfInBounds_toArray, List.set_cons_zero, List.set_cons_succ]
          refine lin_take (v := undef) (by kernel_rfl) (by kernel_rfl) (fun _ _ _ h => h) (Or.inr ⟨by rfl, rfl⟩) (by assumption) ?_; simp only [Act.put, List.setIfInBounds_toArray, List.set_cons_zero, List.set_cons_succ]
          refine lin_take (v := undef) (by kernel_rfl) (by kernel_rfl) (fun _ _ _ h => h) (Or.inr ⟨by rfl, rfl⟩) (by assumption) ?_; simp only [Act.put, List.setIfInBounds_toArray, List.set_cons_zero, List.set_cons_succ]
          refine lin_take (v := undef) (by kernel_rfl) (by kernel_rfl) (fun _ _ _ h => h) (Or.inr ⟨by rfl, rfl⟩) (by assumption) ?_; simp only [Act.put, List.setIfInBounds_toArray, List.set_cons_zero, List.set_cons_succ]
          refine lin_take (v := undef) (by kernel_rfl) (by kernel_rfl) (fun _ _ _ h => h) (Or.inr ⟨by rfl, rfl⟩) (by assumption) ?_; simp only [Act.put, List.setIfInBounds_toArray, List.set_cons_zero, List.set_cons_succ]
          refine lin_take (v := undef) (by kernel_rfl) (by kernel_rfl) (fun _ _ _ h => h) (Or.inr ⟨by rfl, rfl⟩) (by assumption) ?_; simp only [Act.put, List.setIfInBounds_toArray, List.set_cons_zero, List.set_cons_succ]
          refine lin_take (v := undef) (by kernel_rfl) (by kernel_rfl) (fun _ _ _ h => h) (Or.inr ⟨by rfl, rfl⟩) (by assumption) ?_; simp only [Act.put, List.setIfInBounds_toArray, List.set_cons_zero, List.set_cons_succ]
          refine lin_take (v := undef) (by kernel_rfl) (by kernel_rfl) (fun _ _ _ h => h) (Or.inr ⟨by rfl, rfl⟩) (by assumption) ?_; simp only [Act.put, List.setIfInBounds_toArray, List.set_cons_zero, List.set_cons_succ]
          refine lin_take (v := undef) (by kernel_rfl) (by kernel_rfl) (fun _ _ _ h => h) (Or.inr ⟨by rfl, rfl⟩) (by assumption) ?_; simp only [Act.put, List.setIfInBounds_toArray, List.set_cons_zero, List.set_cons_succ]
          refine lin_take (v := undef) (by kernel_rfl) (by kernel_rfl) (fun _ _ _ h => h) (Or.inr ⟨by rfl, rfl⟩) (by assumption) ?_; simp only [Act.put, List.setIfInBounds_toArray, List.set_cons_zero, List.set_cons_succ]
          refine lin_take (v := undef) (by kernel_rfl) (by kernel_rfl) (fun _ _ _ h => h) (Or.inr ⟨by rfl, rfl⟩) (by assumption) ?_; simp only [Act.put, List.setIfInBounds_toArray, List.set_cons_zero, List.set_cons_succ]
          refine lin_take (v := ?_) (by kernel_rfl) (by kernel_rfl) (fun _ _ _ h => h) (Or.inl ⟨by rfl, ?_⟩) (by assumption) ?_; (rotate_left; (intro wS hSw; (try dsimp only at hSw); go_simp; (try with_reducible rfl)); rotate_left); simp only [Act.put, List.setIfInBounds_toArray, List.set_cons_zero, List.set_cons_succ]
          refine lin_take (v := ?_) (by kernel_rfl) (by kernel_rfl) (fun _ _ _ h => h) (Or.inl ⟨by rfl, ?_⟩) (by assumption) ?_; (rotate_left; (intro wS hSw; (try dsimp only at hSw); go_simp; (try with_reducible rfl)); rotate_left); simp only [Act.put, List.setIfInBounds_toArray, List.set_cons_zero, List.set_cons_succ]
          refine lin_done (by kernel_rfl) ?_
          go_wp2_with fail
          have A := AI.out _ _ _ hml hO5
          rw [hml.out] at A
          replace A := Lib.hid A
          go_at_call 18
          refine A.out.mono ?_
          rintro e w7 ⟨ao, cap, rfl, hO7, hli, _, _, _⟩
          go_wp2_with fail
          have I := II.out w7 _ _ hml ao cap hO7 hli
          rw [hml.out, beq_self_eq_true] at I
          replace I := Lib.hid I
          go_at_call 23
          refine I.out.mono ?_
          rintro e w8 ⟨rfl, m8, hw8⟩
          have hO8 := hO7.drewN m8
          rw [← hw8] at hO8
          clear hw8
          go_wp2
          go_roundw
          case rel => exact ⟨k + 1, n, ms, ats, nums, xs, by omega, by omega, by go_num, hml, hT0, hat, hO8.pop1⟩
          case measure => simp [intOf]; omega
      · skip
        have hn0 : 0 < n := by
          rcases Nat.eq_zero_or_pos n with h | h
          · subst h; simp at *
          · exact h
        have hvn := hv.out (by omega)
        obtain ⟨tg, toff, tc, htv, _, _, _, _⟩ := (hO.row 2 rfl).addr hn0
        obtain ⟨ag, aoff, ac, hav, _, _, _, _⟩ := (hO.row 3 rfl).addr hn0
        obtain ⟨ng, noff, nc, hnv, _, _, _, _⟩ := (hO.row 4 rfl).addr hn0
        simp only [Value.slice.injEq] at htv hav hnv
        obtain ⟨rfl, _, rfl⟩ := htv
        obtain ⟨rfl, _, rfl⟩ := hav
        obtain ⟨rfl, _, rfl⟩ := hnv
        obtain ⟨T1, T2, T3⟩ := hT.out
        obtain ⟨q0, q1⟩ := T3 v (by rw [hln.out]; exact hvn)
        have q2 : (ats.map (Value.int .i64))[v]? = some (.int .i64 (ats.getD v 0)) := by
          rw [List.getElem?_map, List.getElem?_eq_getElem (by rw [hln.out]; exact hvn), List.getD_eq_getElem?_getD, List.getElem?_eq_getElem (by rw [hln.out]; exact hvn)]; rfl
        have q3 : (nums.map (Value.int .i64))[v]? = some (.int .i64 (nums.getD v 0)) := by
          have hnl : v < nums.length := by rw [T2, hln.out]; exact hvn
          rw [List.getElem?_map, List.getElem?_eq_getElem hnl, List.getD_eq_getElem?_getD, List.getElem?_eq_getElem hnl]; rfl
        have hA := hat.out v hvn
        generalize ats.getD v 0 = A at *
        generalize nums.getD v 0 = Nn at *
        clear T1 T2 T3
        have i1 : (0 : Int) ≤ (v : Int) := by omega
        have i2 : (v : Int) < (n : Int) := by omega
        have GS := Lib.hid (fun (w' : World) (ms' mm' : List Int) (h : Own w w' [storeA (b + 1) b ms', intsA bm sz mm', rowA 57 2 (.slice (some ⟨tg, toff, none⟩) n tcap) n xs, rowA 3 1 (.slice (some ⟨ag, aoff, none⟩) n acap) n (ats.map (.int .i64)), rowA 3 1 (.slice (some ⟨ng, noff, none⟩) n ncap) n (nums.map (.int .i64)), cellsA bx #[.int .i64 kd, .int .i64 at_, .int .i64 nn] 65]) => show w'.cell? ⟨tg, toff + v * 2, none⟩ = some (.int .i64 A) ∧ w'.cell? ⟨tg, toff + v * 2 + 1, none⟩ = some (.int .i64 Nn) ∧ w'.cell? ⟨ag, aoff + v, none⟩ = some (.int .i64 A) ∧ w'.cell? ⟨ng, noff + v, none⟩ = some (.int .i64 Nn) from ⟨h.row_at 2 rfl q0, by have := h.row_at 2 rfl q1; rwa [← Nat.add_assoc] at this, h.row_at 3 rfl q2, h.row_at 4 rfl q3⟩)
        clear q0 q1 q2 q3
        by_cases hin : 0 ≤ A + 1 ∧ A + 1 < sz
        · skip
          obtain ⟨hin1, hin2⟩ := hin
          obtain ⟨j, hj⟩ : ∃ j : Nat, A + 1 = j := ⟨(A + 1).toNat, by omega⟩
          have hjs : j < sz := by omega
          have qw : wrap64 (A + 1) = (j : Int) := by rw [IntWalk.wrap64_in _ (by omega)]; exact hj
          have qx : IntKind.i64.wrap (A + 1) = (j : Int) := (IntWalk.i64_left _).trans qw
          have qn : IntKind.i64.wrap (Nn + 1) = wrap64 (Nn + 1) := IntWalk.i64_left _
          have i3 : (0 : Int) ≤ (j : Int) := by omega
          have i4 : (j : Int) < (sz : Int) := by omega
          have hml' := Lib.hid (show (ms.set j (wrap64 (Nn + 1))).length = sz by rw [List.length_set, hml.out])
          have M := own_done_a (hO.drewN 1) 0 rfl hj (by rw [hml.out]; exact hjs) (by omega) Nn _ rfl
          generalize hms : ms.set j (wrap64 (Nn + 1)) = ms' at *
          replace hms := Lib.hid hms
          replace M := Lib.hid M
          have GM := Lib.hid (fun (w' : World) (h : Own w w' [storeA (b + 1) b ms', intsA bm sz ms, rowA 57 2 (.slice (some ⟨tg, toff, none⟩) n tcap) n xs, rowA 3 1 (.slice (some ⟨ag, aoff, none⟩) n acap) n (ats.map (.int .i64)), rowA 3 1 (.slice (some ⟨ng, noff, none⟩) n ncap) n (nums.map (.int .i64)), cellsA bx #[.int .i64 kd, .int .i64 at_, .int .i64 nn] 65]) => h.ints_set 1 rfl j (wrap64 (Nn + 1)) hms.out)
          have GF := Lib.hid (fun (w' : World) (h : Own w w' [storeA (b + 1) b ms', intsA bm sz ms, rowA 57 2 (.slice (some ⟨tg, toff, none⟩) n tcap) n xs, rowA 3 1 (.slice (some ⟨ag, aoff, none⟩) n acap) n (ats.map (.int .i64)), rowA 3 1 (.slice (some ⟨ng, noff, none⟩) n ncap) n (nums.map (.int .i64)), cellsA bx #[.int .i64 kd, .int .i64 at_, .int .i64 nn] 65]) => h.ints_free 1 rfl (j := j) hjs)
          have C := Lib.hid (fun w6 => in12_any bm sz j w6 true (by simp; omega))
          clear hj hin1 hin2
          have hS0 : (fun w' => w'.cell? ⟨tg, toff + v * 2, none⟩ = some (.int .i64 A) ∧ w'.cell? ⟨tg, toff + v * 2 + 1, none⟩ = some (.int .i64 Nn) ∧ w'.cell? ⟨ag, aoff + v, none⟩ = some (.int .i64 A) ∧ w'.cell? ⟨ng, noff + v, none⟩ = some (.int .i64 Nn)) wq.drew := GS.out _ _ _ (hO.drewN 1)
          dsimp only at hS0
          refine lin_start (S := (fun w' => w'.cell? ⟨tg, toff + v * 2, none⟩ = some (.int .i64 A) ∧ w'.cell? ⟨tg, toff + v * 2 + 1, none⟩ = some (.int .i64 Nn) ∧ w'.cell? ⟨ag, aoff + v, none⟩ = some (.int .i64 A) ∧ w'.cell? ⟨ng, noff + v, none⟩ = some (.int .i64 Nn))) rfl 14 rfl hS0 ?_
          simp only [numbered, Nat.zero_add, Nat.reduceAdd]
          refine lin_take (v := ?_) (by kernel_rfl) (by kernel_rfl) (fun _ _ _ h => h) (Or.inl ⟨by rfl, ?_⟩) (by assumption) ?_; (rotate_left; (intro wS hSw; (try dsimp only at hSw); go_simp; (try with_reducible rfl)); rotate_left); simp only [Act.put, List.setIfInBounds_toArray, List.set_cons_zero, List.set_cons_succ]
          refine lin_take (v := ?_) (by kernel_rfl) (by kernel_rfl) (fun _ _ _ h => h) (Or.inl ⟨by rfl, ?_⟩) (by assumption) ?_; (rotate_left; (intro wS hSw; (try dsimp only at hSw); go_simp; (try with_reducible rfl)); rotate_left); simp only [Act.put, List.setIfInBounds_toArray, List.set_cons_zero, List.set_cons_succ]
          refine lin_take (v := ?_) (by kernel_rfl) (by kernel_rfl) (fun _ _ _ h => h) (Or.inl ⟨by rfl, ?_⟩) (by assumption) ?_; (rotate_left; (intro wS hSw; (try dsimp only at hSw); go_simp; (try with_reducible rfl)); rotate_left); simp only [Act.put, List.setIfInBounds_toArray, List.set_cons_zero, List.set_cons_succ]
          refine lin_take (v := ?_) (by kernel_rfl) (by kernel_rfl) (fun _ _ _ h => h) (Or.inl ⟨by rfl, ?_⟩) (by assumption) ?_; (rotate_left; (intro wS hSw; (try dsimp only at hSw); go_simp; (try with_reducible rfl)); rotate_left); simp only [Act.put, List.setIfInBounds_toArray, List.set_cons_zero, List.set_cons_succ]
          refine lin_take (v := ?_) (by kernel_rfl) (by kernel_rfl) (fun _ _ _ h => h) (Or.inl ⟨by rfl, ?_⟩) (by assumption) ?_; (rotate_left; (intro wS hSw; (try dsimp only at hSw); go_simp; (try with_reducible rfl)); rotate_left); simp only [Act.put, List.setIfInBounds_toArray, List.set_cons_zero, List.set_cons_succ]
          refine lin_rot ?_; simp only [List.cons_append, List.nil_append]
          refine lin_take (v := ?_) (by kernel_rfl) (by kernel_rfl) (fun _ _ _ h => h) (Or.inl ⟨by rfl, ?_⟩) (by assumption) ?_; (rotate_left; (intro wS hSw; (try dsimp only at hSw); go_simp; (try with_reducible rfl)); rotate_left); simp only [Act.put, List.setIfInBounds_toArray, List.set_cons_zero, List.set_cons_succ]
          refine lin_take (v := ?_) (by kernel_rfl) (by kernel_rfl) (fun _ _ _ h => h) (Or.inl ⟨by rfl, ?_⟩) (by assumption) ?_; (rotate_left; (intro wS hSw; (try dsimp only at hSw); go_simp; (try with_reducible rfl)); rotate_left); simp only [Act.put, List.setIfInBounds_toArray, List.set_cons_zero, List.set_cons_succ]
          refine lin_take (v := ?_) (by kernel_rfl) (by kernel_rfl) (fun _ _ _ h => h) (Or.inl ⟨by rfl, ?_⟩) (by assumption) ?_; (rotate_left; (intro wS hSw; (try dsimp only at hSw); go_simp; (try with_reducible rfl)); rotate_left); simp only [Act.put, List.setIfInBounds_toArray, List.set_cons_zero, List.set_cons_succ]
          refine lin_take (v := ?_) (by kernel_rfl) (by kernel_rfl) (fun _ _ _ h => h) (Or.inl ⟨by rfl, ?_⟩) (by assumption) ?_; (rotate_left; (intro wS hSw; (try dsimp only at hSw); go_simp; (try with_reducible rfl)); rotate_left); simp only [Act.put, List.setIfInBounds_toArray, List.set_cons_zero, List.set_cons_succ]
          refine lin_take (v := ?_) (by kernel_rfl) (by kernel_rfl) (fun _ _ _ h => h) (Or.inl ⟨by rfl, ?_⟩) (by assumption) ?_; (rotate_left; (intro wS hSw; (try dsimp only at hSw); go_simp; (try with_reducible rfl)); rotate_left); simp only [Act.put, List.setIfInBounds_toArray, List.set_cons_zero, List.set_cons_succ]
          refine lin_take (v := ?_) (by kernel_rfl) (by kernel_rfl) (fun _ _ _ h => h) (Or.inl ⟨by rfl, ?_⟩) (by assumption) ?_; (rotate_left; (intro wS hSw; (try dsimp only at hSw); go_simp; (try with_reducible rfl)); rotate_left); simp only [Act.put, List.setIfInBounds_toArray, List.set_cons_zero, List.set_cons_succ]
          refine lin_rot ?_; simp only [List.cons_append, List.nil_append]
          refine lin_rot ?_; simp only [List.cons_append, List.nil_append]
          refine lin_sole (by kernel_rfl) (fun K hK => ?_)
          go_simp
          (refine M.out.mono ?_; rintro e w5 ⟨rfl, hO5⟩)
          refine hK.out _ _ ?_ (fun hHeld => ?_)
          · exact GS.out _ _ _ hO5
          try simp only [Act.put, List.setIfInBounds_toArray, List.set_cons_zero, List.set_cons_succ]
          refine lin_sole (by kernel_rfl) (fun K hK => ?_)
          go_simp
          (refine (C.out _).mono ?_; rintro e w6 ⟨rfl, rfl⟩)
          refine hK.out _ _ ?_ (fun hHeld => ?_)
          · exact hHeld
          try simp only [Act.put, List.setIfInBounds_toArray, List.set_cons_zero, List.set_cons_succ]
          refine lin_take (v := ?_) (by kernel_rfl) (by kernel_rfl) (fun _ _ _ h => h) (Or.inl ⟨by rfl, ?_⟩) (by assumption) ?_; (rotate_left; (intro wS hSw; (try dsimp only at hSw); go_simp; (try with_reducible rfl)); rotate_left); simp only [Act.put, List.setIfInBounds_toArray, List.set_cons_zero, List.set_cons_succ]
          refine lin_done (by kernel_rfl) ?_
          obtain ⟨s1, s2, s3, s4⟩ := GS.out _ _ _ hO5
          go_wp2_with (first | (go_at_call 33; refine (C.out _).mono ?_; rintro e w7 ⟨rfl, rfl⟩))
          have f0 := GF.out _ hO5
          have f1 : w5.drew.frozen? ⟨bm, j, none⟩ = false := GF.out _ (hO5.drewN 1)
          have m0 := hO5.ints_get 1 rfl (j := j) (by rw [hml.out]; exact hjs)
          have m1 : w5.drew.cell? ⟨bm, j, none⟩ = some (.int .i64 (ms.getD j 0)) := m0
          have hS1 : (fun w' => w'.cell? ⟨tg, toff + v * 2, none⟩ = some (.int .i64 A) ∧ w'.cell? ⟨tg, toff + v * 2 + 1, none⟩ = some (.int .i64 Nn) ∧ w'.cell? ⟨ag, aoff + v, none⟩ = some (.int .i64 A) ∧ w'.cell? ⟨ng, noff + v, none⟩ = some (.int .i64 Nn)) w5.drew := ⟨s1, s2, s3, s4⟩
          dsimp only at hS1
          refine lin_start (S := (fun w' => w'.cell? ⟨tg, toff + v * 2, none⟩ = some (.int .i64 A) ∧ w'.cell? ⟨tg, toff + v * 2 + 1, none⟩ = some (.int .i64 Nn) ∧ w'.cell? ⟨ag, aoff + v, none⟩ = some (.int .i64 A) ∧ w'.cell? ⟨ng, noff + v, none⟩ = some (.int .i64 Nn))) rfl 13 rfl hS1 ?_
          simp only [numbered, Nat.zero_add, Nat.reduceAdd]
          refine lin_take (v := ?_) (by kernel_rfl) (by kernel_rfl) (fun _ _ _ h => h) (Or.inl ⟨by rfl, ?_⟩) (by assumption) ?_; (rotate_left; (intro wS hSw; (try dsimp only at hSw); go_simp; (try with_reducible rfl)); rotate_left); simp only [Act.put, List.setIfInBounds_toArray, List.set_cons_zero, List.set_cons_succ]
          refine lin_take (v := ?_) (by kernel_rfl) (by kernel_rfl) (fun _ _ _ h => h) (Or.inl ⟨by rfl, ?_⟩) (by assumption) ?_; (rotate_left; (intro wS hSw; (try dsimp only at hSw); go_simp; (try with_reducible rfl)); rotate_left); simp only [Act.put, List.setIfInBounds_toArray, List.set_cons_zero, List.set_cons_succ]
          refine lin_take (v := ?_) (by kernel_rfl) (by kernel_rfl) (fun _ _ _ h => h) (Or.inl ⟨by rfl, ?_⟩) (by assumption) ?_; (rotate_left; (intro wS hSw; (try dsimp only at hSw); go_simp; (try with_reducible rfl)); rotate_left); simp only [Act.put, List.setIfInBounds_toArray, List.set_cons_zero, List.set_cons_succ]
          refine lin_take (v := ?_) (by kernel_rfl) (by kernel_rfl) (fun _ _ _ h => h) (Or.inl ⟨by rfl, ?_⟩) (by assumption) ?_; (rotate_left; (intro wS hSw; (try dsimp only at hSw); go_simp; (try with_reducible rfl)); rotate_left); simp only [Act.put, List.setIfInBounds_toArray, List.set_cons_zero, List.set_cons_succ]
          refine lin_take (v := ?_) (by kernel_rfl) (by kernel_rfl) (fun _ _ _ h => h) (Or.inl ⟨by rfl, ?_⟩) (by assumption) ?_; (rotate_left; (intro wS hSw; (try dsimp only at hSw); go_simp; (try with_reducible rfl)); rotate_left); simp only [Act.put, List.setIfInBounds_toArray, List.set_cons_zero, List.set_cons_succ]
          refine lin_take (v := ?_) (by kernel_rfl) (by kernel_rfl) (fun _ _ _ h => h) (Or.inl ⟨by rfl, ?_⟩) (by assumption) ?_; (rotate_left; (intro wS hSw; (try dsimp only at hSw); go_simp; (try with_reducible rfl)); rotate_left); simp only [Act.put, List.setIfInBounds_toArray, List.set_cons_zero, List.set_cons_succ]
          refine lin_take (v := ?_) (by kernel_rfl) (by kernel_rfl) (fun _ _ _ h => h) (Or.inl ⟨by rfl, ?_⟩) (by assumption) ?_; (rotate_left; (intro wS hSw; (try dsimp only at hSw); go_simp; (try with_reducible rfl)); rotate_left); simp only [Act.put, List.setIfInBounds_toArray, List.set_cons_zero, List.set_cons_succ]
          refine lin_take (v := ?_) (by kernel_rfl) (by kernel_rfl) (fun _ _ _ h => h) (Or.inl ⟨by rfl, ?_⟩) (by assumption) ?_; (rotate_left; (intro wS hSw; (try dsimp only at hSw); go_simp; (try with_reducible rfl)); rotate_left); simp only [Act.put, List.setIfInBounds_toArray, List.set_cons_zero, List.set_cons_succ]
          refine lin_take (v := ?_) (by kernel_rfl) (by kernel_rfl) (fun _ _ _ h => h) (Or.inl ⟨by rfl, ?_⟩) (by assumption) ?_; (rotate_left; (intro wS hSw; (try dsimp only at hSw); go_simp; (try with_reducible rfl)); rotate_left); simp only [Act.put, List.setIfInBounds_toArray, List.set_cons_zero, List.set_cons_succ]
          refine lin_take (v := ?_) (by kernel_rfl) (by kernel_rfl) (fun _ _ _ h => h) (Or.inl ⟨by rfl, ?_⟩) (by assumption) ?_; (rotate_left; (intro wS hSw; (try dsimp only at hSw); go_simp; (try with_reducible rfl)); rotate_left); simp only [Act.put, List.setIfInBounds_toArray, List.set_cons_zero, List.set_cons_succ]
          refine lin_take (v := ?_) (by kernel_rfl) (by kernel_rfl) (fun _ _ _ h => h) (Or.inl ⟨by rfl, ?_⟩) (by assumption) ?_; (rotate_left; (intro wS hSw; (try dsimp only at hSw); go_simp; (try with_reducible rfl)); rotate_left); simp only [Act.put, List.setIfInBounds_toArray, List.set_cons_zero, List.set_cons_succ]
          refine lin_take (v := ?_) (by kernel_rfl) (by kernel_rfl) (fun _ _ _ h => h) (Or.inl ⟨by rfl, ?_⟩) (by assumption) ?_; (rotate_left; (intro wS hSw; (try dsimp only at hSw); go_simp; (try with_reducible rfl)); rotate_left); simp only [Act.put, List.setIfInBounds_toArray, List.set_cons_zero, List.set_cons_succ]
          refine lin_sole (by kernel_rfl) (fun K hK => ?_)
          go_simp
          skip
          refine hK.out _ _ ?_ (fun hHeld => ?_)
          · exact GS.out _ _ _ (GM.out _ (hO5.drewN 1))
          try simp only [Act.put, List.setIfInBounds_toArray, List.set_cons_zero, List.set_cons_succ]
          refine lin_done (by kernel_rfl) ?_
          have hO6 := GM.out _ (hO5.drewN 1)
          go_wp2_with fail
          have A := AI.out _ _ _ hml' hO6
          rw [hml'.out] at A
          replace A := Lib.hid A
          go_at_call 18
          refine A.out.mono ?_
          rintro e w7 ⟨ao, cap, rfl, hO7, hli, _, _, _⟩
          go_wp2_with fail
          have I := II.out w7 _ _ hml' ao cap hO7 hli
          rw [hml'.out, beq_self_eq_true] at I
          replace I := Lib.hid I
          go_at_call 23
          refine I.out.mono ?_
          rintro e w8 ⟨rfl, m8, hw8⟩
          have hO8 := hO7.drewN m8
          rw [← hw8] at hO8
          clear hw8
          go_wp2
          go_roundw
          case rel => exact ⟨k + 1, n, ms', ats, nums, xs, by omega, by omega, by go_num, hml', hT0, hat, hO8.pop1⟩
          case measure => simp [intOf]; omega
        · skip
          have M := Lib.hid (own_done_no (hO.drewN 1) 0 rfl (a := A) (by omega) (by rw [hml.out]; omega) Nn)
          have qw : wrap64 (A + 1) = A + 1 := IntWalk.wrap64_in _ (by omega)
          have qx : IntKind.i64.wrap (A + 1) = A + 1 := (IntWalk.i64_left _).trans qw
          have C := Lib.hid (fun w6 => in12_any bm sz (A + 1) w6 false (by simp; omega))
          clear hin
          have hS0 : (fun w' => w'.cell? ⟨tg, toff + v * 2, none⟩ = some (.int .i64 A) ∧ w'.cell? ⟨tg, toff + v * 2 + 1, none⟩ = some (.int .i64 Nn) ∧ w'.cell? ⟨ag, aoff + v, none⟩ = some (.int .i64 A) ∧ w'.cell? ⟨ng, noff + v, none⟩ = some (.int .i64 Nn)) wq.drew := GS.out _ _ _ (hO.drewN 1)
          dsimp only at hS0
          refine lin_start (S := (fun w' => w'.cell? ⟨tg, toff + v * 2, none⟩ = some (.int .i64 A) ∧ w'.cell? ⟨tg, toff + v * 2 + 1, none⟩ = some (.int .i64 Nn) ∧ w'.cell? ⟨ag, aoff + v, none⟩ = some (.int .i64 A) ∧ w'.cell? ⟨ng, noff + v, none⟩ = some (.int .i64 Nn))) rfl 14 rfl hS0 ?_
          simp only [numbered, Nat.zero_add, Nat.reduceAdd]
          refine lin_take (v := ?_) (by kernel_rfl) (by kernel_rfl) (fun _ _ _ h => h) (Or.inl ⟨by rfl, ?_⟩) (by assumption) ?_; (rotate_left; (intro wS hSw; (try dsimp only at hSw); go_simp; (try with_reducible rfl)); rotate_left); simp only [Act.put, List.setIfInBounds_toArray, List.set_cons_zero, List.set_cons_succ]
          refine lin_take (v := ?_) (by kernel_rfl) (by kernel_rfl) (fun _ _ _ h => h) (Or.inl ⟨by rfl, ?_⟩) (by assumption) ?_; (rotate_left; (intro wS hSw; (try dsimp only at hSw); go_simp; (try with_reducible rfl)); rotate_left); simp only [Act.put, List.setIfInBounds_toArray, List.set_cons_zero, List.set_cons_succ]
          refine lin_take (v := ?_) (by kernel_rfl) (by kernel_rfl) (fun _ _ _ h => h) (Or.inl ⟨by rfl, ?_⟩) (by assumption) ?_; (rotate_left; (intro wS hSw; (try dsimp only at hSw); go_simp; (try with_reducible rfl)); rotate_left); simp only [Act.put, List.setIfInBounds_toArray, List.set_cons_zero, List.set_cons_succ]
          refine lin_take (v := ?_) (by kernel_rfl) (by kernel_rfl) (fun _ _ _ h => h) (Or.inl ⟨by rfl, ?_⟩) (by assumption) ?_; (rotate_left; (intro wS hSw; (try dsimp only at hSw); go_simp; (try with_reducible rfl)); rotate_left); simp only [Act.put, List.setIfInBounds_toArray, List.set_cons_zero, List.set_cons_succ]
          refine lin_take (v := ?_) (by kernel_rfl) (by kernel_rfl) (fun _ _ _ h => h) (Or.inl ⟨by rfl, ?_⟩) (by assumption) ?_; (rotate_left; (intro wS hSw; (try dsimp only at hSw); go_simp; (try with_reducible rfl)); rotate_left); simp only [Act.put, List.setIfInBounds_toArray, List.set_cons_zero, List.set_cons_succ]
          refine lin_rot ?_; simp only [List.cons_append, List.nil_append]
          refine lin_take (v := ?_) (by kernel_rfl) (by kernel_rfl) (fun _ _ _ h => h) (Or.inl ⟨by rfl, ?_⟩) (by assumption) ?_; (rotate_left; (intro wS hSw; (try dsimp only at hSw); go_simp; (try with_reducible rfl)); rotate_left); simp only [Act.put, List.setIfInBounds_toArray, List.set_cons_zero, List.set_cons_succ]
          refine lin_take (v := ?_) (by kernel_rfl) (by kernel_rfl) (fun _ _ _ h => h) (Or.inl ⟨by rfl, ?_⟩) (by assumption) ?_; (rotate_left; (intro wS hSw; (try dsimp only at hSw); go_simp; (try with_reducible rfl)); rotate_left); simp only [Act.put, List.setIfInBounds_toArray, List.set_cons_zero, List.set_cons_succ]
          refine lin_take (v := ?_) (by kernel_rfl) (by kernel_rfl) (fun _ _ _ h => h) (Or.inl ⟨by rfl, ?_⟩) (by assumption) ?_; (rotate_left; (intro wS hSw; (try dsimp only at hSw); go_simp; (try with_reducible rfl)); rotate_left); simp only [Act.put, List.setIfInBounds_toArray, List.set_cons_zero, List.set_cons_succ]
          refine lin_take (v := ?_) (by kernel_rfl) (by kernel_rfl) (fun _ _ _ h => h) (Or.inl ⟨by rfl, ?_⟩) (by assumption) ?_; (rotate_left; (intro wS hSw; (try dsimp only at hSw); go_simp; (try with_reducible rfl)); rotate_left); simp only [Act.put, List.setIfInBounds_toArray, List.set_cons_zero, List.set_cons_succ]
          refine lin_take (v := ?_) (by kernel_rfl) (by kernel_rfl) (fun _ _ _ h => h) (Or.inl ⟨by rfl, ?_⟩) (by assumption) ?_; (rotate_left; (intro wS hSw; (try dsimp only at hSw); go_simp; (try with_reducible rfl)); rotate_left); simp only [Act.put, List.setIfInBounds_toArray, List.set_cons_zero, List.set_cons_succ]
          refine lin_take (v := ?_) (by kernel_rfl) (by kernel_rfl) (fun _ _ _ h => h) (Or.inl ⟨by rfl, ?_⟩) (by assumption) ?_; (rotate_left; (intro wS hSw; (try dsimp only at hSw); go_simp; (try with_reducible rfl)); rotate_left); simp only [Act.put, List.setIfInBounds_toArray, List.set_cons_zero, List.set_cons_succ]
          refine lin_rot ?_; simp only [List.cons_append, List.nil_append]
          refine lin_rot ?_; simp only [List.cons_append, List.nil_append]
          refine lin_sole (by kernel_rfl) (fun K hK => ?_)
          go_simp
          (refine M.out.mono ?_; rintro e w5 ⟨rfl, hO5⟩)
          refine hK.out _ _ ?_ (fun hHeld => ?_)
          · exact GS.out _ _ _ hO5
          try simp only [Act.put, List.setIfInBounds_toArray, List.set_cons_zero, List.set_cons_succ]
          refine lin_sole (by kernel_rfl) (fun K hK => ?_)
          go_simp
          (refine (C.out _).mono ?_; rintro e w6 ⟨rfl, rfl⟩)
          refine hK.out _ _ ?_ (fun hHeld => ?_)
          · exact hHeld
          try simp only [Act.put, List.setIfInBounds_toArray, List.set_cons_zero, List.set_cons_succ]
          refine lin_take (v := ?_) (by kernel_rfl) (by kernel_rfl) (fun _ _ _ h => h) (Or.inl ⟨by rfl, ?_⟩) (by assumption) ?_; (rotate_left; (intro wS hSw; (try dsimp only at hSw); go_simp; (try with_reducible rfl)); rotate_left); simp only [Act.put, List.setIfInBounds_toArray, List.set_cons_zero, List.set_cons_succ]
          refine lin_done (by kernel_rfl) ?_
          obtain ⟨s1, s2, s3, s4⟩ := GS.out _ _ _ hO5
          go_wp2_with (first | (go_at_call 33; refine (C.out _).mono ?_; rintro e w7 ⟨rfl, rfl⟩))
          have A := AI.out _ _ _ hml hO5
          rw [hml.out] at A
          replace A := Lib.hid A
          go_at_call 18
          refine A.out.mono ?_
          rintro e w7 ⟨ao, cap, rfl, hO7, hli, _, _, _⟩
          go_wp2_with fail
          have I := II.out w7 _ _ hml ao cap hO7 hli
          rw [hml.out, beq_self_eq_true] at I
          replace I := Lib.hid I
          go_at_call 23
          refine I.out.mono ?_
          rintro e w8 ⟨rfl, m8, hw8⟩
          have hO8 := hO7.drewN m8
          rw [← hw8] at hO8
          clear hw8
          go_wp2
          go_roundw
          case rel => exact ⟨k + 1, n, ms, ats, nums, xs, by omega, by omega, by go_num, hml, hT0, hat, hO8.pop1⟩
          case measure => simp [intOf]; omega
      · skip
        have A := AI.out _ _ _ hml hO
        rw [hml.out] at A
        replace A := Lib.hid A
        go_at_call 18
        refine A.out.mono ?_
        rintro e w7 ⟨ao, cap, rfl, hO7, hli, _, _, _⟩
        go_wp2_with fail
        have I := II.out w7 _ _ hml ao cap hO7 hli
        rw [hml.out, beq_self_eq_true] at I
        replace I := Lib.hid I
        go_at_call 23
        refine I.out.mono ?_
        rintro e w8 ⟨rfl, m8, hw8⟩
        have hO8 := hO7.drewN m8
        rw [← hw8] at hO8
        clear hw8
        go_wp2
        go_roundw
        case rel => exact ⟨k + 1, n, ms, ats, nums, xs, by omega, by omega, by go_num, hml, hT0, hat, hO8.pop1⟩
        case measure => simp [intOf]; omega
      · skip
        have A := AI.out _ _ _ hml hO
        rw [hml.out] at A
        replace A := Lib.hid A
        go_at_call 18
        refine A.out.mono ?_
        rintro e w7 ⟨ao, cap, rfl, hO7, hli, _, _, _⟩
        go_wp2_with fail
        have I := II.out w7 _ _ hml ao cap hO7 hli
        rw [hml.out, beq_self_eq_true] at I
        replace I := Lib.hid I
        go_at_call 23
        refine I.out.mono ?_
        rintro e w8 ⟨rfl, m8, hw8⟩
        have hO8 := hO7.drewN m8
        rw [← hw8] at hO8
        clear hw8
        go_wp2
        go_roundw
        case rel => exact ⟨k + 1, n, ms, ats, nums, xs, by omega, by omega, by go_num, hml, hT0, hat, hO8.pop1⟩
        case measure => simp [intOf]; omega
    · go_wp2_with fail
      go_ret
      exact ⟨rfl, hO.below⟩
end Go.Proofs.Ytpijgjalabocpaa

