/- The walk through the law ModelDoes. -/
import Derived.Test.YtofnjapgacgdlaaWorks14
import Derived.Test.YtofnjapgacgdlaaPair
import Derived.Test.YtofnjapgacgdlaaArgs
import Derived.Deep.Cut
import Derived.Deep.CutRange
import Derived.Deep.CutBlock
set_option linter.unusedVariables false
set_option linter.unusedSimpArgs false
namespace Go.Proofs.Ytofnjapgacgdlaa
open Go.RowKit
set_option maxRecDepth 100000
set_option maxHeartbeats 20000000
theorem DOwn.take0 {w0 w : World} {db : Nat} {M : Int} {ys : List Int} {ao : Option Addr} {n c : Nat} {zs : List Value} (h : DOwn w0 w db M ys [rowA 3 1 (.slice ao n c) n zs]) {k : Nat} (hk : k ≤ n) : DOwn w0 w db M ys [rowA 3 1 (.slice ao k c) k (zs.take k)] := by
  obtain ⟨bv, hO⟩ := h
  have hr := (hO.row 2 rfl).take hk
  rw [Nat.mul_one] at hr
  exact ⟨bv, hO.move 2 rfl ⟨hr, Touch.refl _ _, fun k hk => .inl (by cases ao with | none => simp [rowA, Value.ownBlock] at hk | some a => simpa [rowA, Value.ownBlock] using hk)⟩⟩
theorem DOwn.tail0 {w0 w : World} {db : Nat} {M : Int} {ys : List Int} {g off n c : Nat} {zs : List Value} (h : DOwn w0 w db M ys [rowA 3 1 (.slice (some ⟨g, off, none⟩) (n + 1) c) (n + 1) zs]) : DOwn w0 w db M ys [rowA 3 1 (.slice (some ⟨g, if c = 1 then off else off + 1, none⟩) n (c - 1)) n (zs.drop 1)] := by
  obtain ⟨bv, hO⟩ := h
  have hr0 := hO.row 2 rfl
  have hr : Row w 3 1 (.slice (some ⟨g, if c = 1 then off else off + 1, none⟩) n (c - 1)) n (zs.drop 1) := by
    have h1 := hr0.drop (i := 1) (by omega)
    obtain ⟨_, _, hv, b1, _⟩ := hr0.shape
    simp only [Value.slice.injEq] at hv
    obtain ⟨_, _, rfl⟩ := hv
    by_cases hc : c = 1
    · subst hc
      obtain rfl : n = 0 := by omega
      refine ⟨by have := h1.1; simpa using this, .inr ?_⟩
      rcases hr0.2 with ⟨h0, _⟩ | ⟨g', off', cap', cur, fr, hv, hh, q1, q2, q3, q4, q5⟩
      · simp at h0
      · simp only [Value.slice.injEq, Option.some.injEq, Addr.mk.injEq] at hv
        obtain ⟨⟨rfl, rfl, _⟩, _, rfl⟩ := hv
        exact ⟨g, off, 0, cur, fr, by simp, hh, by omega, by decide, by omega, by simp, by simp⟩
    · rw [if_neg hc]
      simpa using h1
  exact ⟨bv, hO.move 2 rfl ⟨hr, Touch.refl _ _, fun k hk => .inl (by simpa [rowA, Value.ownBlock] using hk)⟩⟩
theorem snoc_of {xs : List Int} {n : Nat} (hn : xs.length = n + 1) : xs = xs.take n ++ [xs.getD n 0] := by
  have h : n < xs.length := by omega
  conv => lhs; rw [← List.take_length (l := xs), hn, List.take_succ_eq_append_getElem h]
  rw [List.getD_eq_getElem?_getD, List.getElem?_eq_getElem h]; rfl
theorem cons_of {xs : List Int} {n : Nat} (hn : xs.length = n + 1) : xs = xs.getD 0 0 :: xs.drop 1 := by
  cases xs with
  | nil => simp at hn
  | cons x xs => simp
theorem mdoes_core (most M : Int) (os : List (List Int)) (oo : Option Addr) (oc g off : Nat) (w : World) (hM : min (max most 0) 1000 = M) (h1 : os.length ≤ oc) (h2 : oc ≤ maxLen) (hl : os.length ≤ 200)
    (ho : ∀ i, i < os.length → oo = some ⟨g, off, none⟩ ∧ ∀ j, j < 2 → w.cell? ⟨g, off + i * 2 + j, none⟩ = some (.int .i64 ((os.getD i []).getD j 0))) :
    Calls Try.prog 3 #[.int .i64 most, .slice oo os.length oc] w fun e w' => e = .returned (.bool true) ∧ Below w.heap.size w w' := by
  obtain ⟨i1, hi1, hw0, hw1', hw2'⟩ := info_parts' Try.infoIntM
  unfold maxLen at h2
  have hM0 : 0 ≤ M ∧ M ≤ 1000 := by omega
  replace ho := Lib.hid ho
  go_enter Try.func3, Try.ntmps3
  go_wp2_with (go_at_call 12; refine (works14_any _).mono ?_; rintro e wa ⟨rfl, hb1⟩)
  go_at_call 13
  refine (dNew_any most M hM (Own.nil hb1).nils).mono ?_
  rintro e w1 ⟨db, rfl, hD⟩
  clear hb1
  go_wp2_with fail
  replace hD := Lib.hid hD
  go_loopw [7, 8] (fun mv kv wr => ∃ (k : Nat) (xs : List Int) (mo : Option Addr) (mc : Nat), k ≤ os.length ∧ mv = .slice mo xs.length mc ∧ kv = .int .i64 k ∧ xs.length ≤ k ∧ (xs.length : Int) ≤ M ∧ Hid (DOwn w wr db M xs [rowA 3 1 (.slice mo xs.length mc) xs.length (xs.map (.int .i64))])) (fun _ kv _ => (os.length - intOf kv).toNat)
  case atStart => exact ⟨0, [], none, 0, by omega, rfl, rfl, by simp, by simp; omega, hD⟩
  case round =>
    clear hD
    obtain ⟨k, xs, mo, mc, hk, rfl, rfl, hxk, hxM, hO⟩ := hrel
    by_cases hlt : k < os.length
    · obtain ⟨rfl, hcell⟩ := ho.out k hlt
      have y0 := hcell 0 (by omega)
      have y1 := hcell 1 (by omega)
      rw [Nat.add_zero] at y0
      have x0 := hO.out.old y0
      have x1 := hO.out.old y1
      clear hcell
      generalize (os.getD k []).getD 0 0 = K at *
      generalize (os.getD k []).getD 1 0 = X at *
      obtain ⟨_, _, hv, mb1, mb2, _⟩ := (hO.out.row 0 rfl).shape
      simp only [Value.slice.injEq] at hv
      obtain ⟨rfl, _, rfl⟩ := hv
      unfold maxLen at mb2
      go_upto_block 2 with fail
      go_cut [7, 9, 10, 11, 12] from 38 to 93 (fun m a b c d wx => ∃ (V : Int) (B : Bool) (ys : List Int) (mo2 : Option Addr) (mc2 : Nat), m = .slice mo2 ys.length mc2 ∧ a = .int .i64 V ∧ b = .bool B ∧ c = .int .i64 V ∧ d = .bool B ∧ ys.length ≤ k + 1 ∧ (ys.length : Int) ≤ M ∧ Hid (DOwn w wx db M ys [rowA 3 1 (.slice mo2 ys.length mc2) ys.length (ys.map (.int .i64))]))
      case first =>
        by_cases hK2 : K = 2
        · subst hK2
          by_cases he : xs.length = 0
          · obtain rfl : xs = [] := List.eq_nil_of_length_eq_zero he
            have P := Lib.hid (dPop_no hO.out)
            go_wp2_with (go_at_call 14; refine P.out.mono ?_; rintro e w2 ⟨rfl, rfl⟩)
            go_meet
            exact ⟨0, false, [], mo, mc, rfl, rfl, rfl, rfl, rfl, by simp, hxM, hO⟩
          · have hn : xs.length = (xs.length - 1) + 1 := by omega
            have P := Lib.hid (dPop_as hO.out (xs.getD (xs.length - 1) 0) (xs.take (xs.length - 1)) (snoc_of hn) (by omega))
            have hlt2 : (xs.take (xs.length - 1)).length = xs.length - 1 := by simp
            have C := Lib.hid (fun (w2 : World) (h : DOwn w w2 db M (xs.take (xs.length - 1)) [rowA 3 1 (.slice mo xs.length mc) xs.length (xs.map (.int .i64))]) =>
              show (∃ g2 off2, mo = some ⟨g2, off2, none⟩ ∧ w2.cell? ⟨g2, off2 + (xs.length - 1), none⟩ = some (.int .i64 (xs.getD (xs.length - 1) 0))) ∧ DOwn w w2 db M (xs.take (xs.length - 1)) [rowA 3 1 (.slice mo (xs.take (xs.length - 1)).length mc) (xs.take (xs.length - 1)).length ((xs.take (xs.length - 1)).map (.int .i64))] by
                refine ⟨?_, ?_⟩
                · obtain ⟨g2, off2, cap2, hv, _, _, q3, _⟩ := (h.row 0 rfl).addr (by omega)
                  simp only [Value.slice.injEq] at hv
                  exact ⟨g2, off2, hv.1, by rw [q3 (xs.length - 1) (by omega), getD_map (by omega)]⟩
                · have h2 := h.take0 (k := xs.length - 1) (by omega)
                  rw [hlt2, List.map_take]
                  exact h2)
            have hm : ∃ g2 off2, mo = some ⟨g2, off2, none⟩ := by
              obtain ⟨g2, off2, cap2, hv, _⟩ := (hO.out.row 0 rfl).addr (by omega)
              simp only [Value.slice.injEq] at hv
              exact ⟨g2, off2, hv.1⟩
            obtain ⟨g2, off2, rfl⟩ := hm
            generalize hX : xs.getD (xs.length - 1) 0 = V at *
            clear hn
            go_wp2_with (go_at_call 14; refine P.out.mono ?_; rintro e w2 ⟨rfl, h2⟩; obtain ⟨⟨_, _, hge, z0⟩, h3⟩ := C.out _ h2; cases hge)
            go_meet
            exact ⟨V, true, xs.take (xs.length - 1), some ⟨g2, off2, none⟩, mc, by rw [hlt2], rfl, rfl, rfl, by rw [decide_eq_true (by omega)], by omega, by omega, Lib.hid h3⟩
        · by_cases hK3 : K = 3
          · subst hK3
            by_cases he : xs.length = 0
            · obtain rfl : xs = [] := List.eq_nil_of_length_eq_zero he
              have P := Lib.hid (dSteal_no hO.out)
              go_wp2_with (go_at_call 15; refine P.out.mono ?_; rintro e w2 ⟨rfl, rfl⟩)
              go_meet
              exact ⟨0, false, [], mo, mc, rfl, rfl, rfl, rfl, rfl, by simp, hxM, hO⟩
            · have hn : xs.length = (xs.length - 1) + 1 := by omega
              have hm : ∃ g2 off2, mo = some ⟨g2, off2, none⟩ := by
                obtain ⟨g2, off2, cap2, hv, _⟩ := (hO.out.row 0 rfl).addr (by omega)
                simp only [Value.slice.injEq] at hv
                exact ⟨g2, off2, hv.1⟩
              obtain ⟨g2, off2, rfl⟩ := hm
              have hlt2 : (xs.drop 1).length = xs.length - 1 := by simp
              have P := Lib.hid (dSteal_as hO.out (xs.getD 0 0) (xs.drop 1) (cons_of hn) (by omega))
              have C := Lib.hid (fun (w2 : World) (h : DOwn w w2 db M (xs.drop 1) [rowA 3 1 (.slice (some ⟨g2, off2, none⟩) xs.length mc) xs.length (xs.map (.int .i64))]) =>
                show w2.cell? ⟨g2, off2, none⟩ = some (.int .i64 (xs.getD 0 0)) ∧ DOwn w w2 db M (xs.drop 1) [rowA 3 1 (.slice (some ⟨g2, if mc = 1 then off2 else off2 + 1, none⟩) (xs.drop 1).length (mc - 1)) (xs.drop 1).length ((xs.drop 1).map (.int .i64))] by
                  refine ⟨?_, ?_⟩
                  · obtain ⟨g3, off3, cap3, hv, _, _, q3, _⟩ := (h.row 0 rfl).addr (by omega)
                    simp only [Value.slice.injEq, Option.some.injEq, Addr.mk.injEq] at hv
                    obtain ⟨⟨rfl, rfl, _⟩, _, rfl⟩ := hv
                    have := q3 0 (by omega)
                    rw [Nat.add_zero, getD_map (by omega)] at this
                    exact this
                  · have h1 : DOwn w w2 db M (xs.drop 1) [rowA 3 1 (.slice (some ⟨g2, off2, none⟩) ((xs.length - 1) + 1) mc) ((xs.length - 1) + 1) (xs.map (.int .i64))] := by rw [← hn]; exact h
                    have h2 := h1.tail0
                    rw [hlt2, List.map_drop]
                    exact h2)
              generalize hX : xs.getD 0 0 = V at *
              by_cases hc : mc = 1
              · subst hc
                rw [if_pos rfl] at C
                clear hn
                go_wp2_with (go_at_call 15; refine P.out.mono ?_; rintro e w2 ⟨rfl, h2⟩; obtain ⟨z0, h3⟩ := C.out _ h2)
                go_meet
                exact ⟨V, true, xs.drop 1, some ⟨g2, off2, none⟩, 0, by rw [hlt2, show xs.length - 1 = 0 by omega], rfl, rfl, rfl, by rw [decide_eq_true (by omega)], by omega, by omega, Lib.hid h3⟩
              · rw [if_neg hc] at C
                clear hn
                go_wp2_with (go_at_call 15; refine P.out.mono ?_; rintro e w2 ⟨rfl, h2⟩; obtain ⟨z0, h3⟩ := C.out _ h2)
                go_meet
                exact ⟨V, true, xs.drop 1, some ⟨g2, off2 + 1, none⟩, mc - 1, by rw [hlt2], rfl, rfl, rfl, by rw [decide_eq_true (by omega)], by omega, by omega, Lib.hid h3⟩
          · by_cases hf : (xs.length : Int) < M
            · have P := Lib.hid (dPush_as hO.out X hf hM0.2 (xs ++ [X]) rfl)
              have D := Lib.hid (fun (w2 : World) (h : DOwn w w2 db M (xs ++ [X]) [rowA 3 1 (.slice mo xs.length mc) xs.length (xs.map (.int .i64))]) => h.old y1)
              have hone := one_cells xs
              have hf2 : decide ((xs.length : Int) < M) = true := by simp; omega
              go_upto_region 17 with (go_at_call 16; refine P.out.mono ?_; rintro e w2 ⟨rfl, h2⟩; have z1 := D.out _ h2)
              obtain ⟨bv, hO1⟩ := h2
              have hO2 : Own w w2.drew _ := hO1.drewN 1
              clear hO1 hO
              refine lin_start (S := (fun w' : World => w'.cell? ⟨g, off + k * 2 + 1, none⟩ = some (.int .i64 X))) rfl 11 rfl ((hO2.old y1)) ?_
              simp only [numbered, Nat.zero_add, Nat.reduceAdd]
              generalize w2.drew = u0 at *
              have hHeld := (hO2.old y1)
              refine lin_rot ?_; simp only [List.cons_append, List.nil_append]
              refine lin_take (v := ?_) (by kernel_rfl) (by kernel_rfl) (fun _ _ _ h => h) (Or.inl ⟨by rfl, ?_⟩) (by assumption) ?_; (rotate_left; (intro wS hSw; (try dsimp only at hSw); go_simp; (try with_reducible rfl)); rotate_left); simp only [Act.put, List.setIfInBounds_toArray, List.set_cons_zero, List.set_cons_succ]
              refine lin_rot ?_; simp only [List.cons_append, List.nil_append]
              refine lin_take (v := ?_) (by kernel_rfl) (by kernel_rfl) (fun _ _ _ h => h) (Or.inl ⟨by rfl, ?_⟩) (by assumption) ?_; (rotate_left; (intro wS hSw; (try dsimp only at hSw); go_simp; (try with_reducible rfl)); rotate_left); simp only [Act.put, List.setIfInBounds_toArray, List.set_cons_zero, List.set_cons_succ]
              refine lin_take (v := ?_) (by kernel_rfl) (by kernel_rfl) (fun _ _ _ h => h) (Or.inl ⟨by rfl, ?_⟩) (by assumption) ?_; (rotate_left; (intro wS hSw; (try dsimp only at hSw); go_simp; (try with_reducible rfl)); rotate_left); simp only [Act.put, List.setIfInBounds_toArray, List.set_cons_zero, List.set_cons_succ]
              refine lin_take (v := ?_) (by kernel_rfl) (by kernel_rfl) (fun _ _ _ h => h) (Or.inl ⟨by rfl, ?_⟩) (by assumption) ?_; (rotate_left; (intro wS hSw; (try dsimp only at hSw); go_simp; (try with_reducible rfl)); rotate_left); simp only [Act.put, List.setIfInBounds_toArray, List.set_cons_zero, List.set_cons_succ]
              refine lin_take (v := ?_) (by kernel_rfl) (by kernel_rfl) (fun _ _ _ h => h) (Or.inl ⟨by rfl, ?_⟩) (by assumption) ?_; (rotate_left; (intro wS hSw; (try dsimp only at hSw); go_simp; (try with_reducible rfl)); rotate_left); simp only [Act.put, List.setIfInBounds_toArray, List.set_cons_zero, List.set_cons_succ]
              refine lin_take (v := ?_) (by kernel_rfl) (by kernel_rfl) (fun _ _ _ h => h) (Or.inl ⟨by rfl, ?_⟩) (by assumption) ?_; (rotate_left; (intro wS hSw; (try dsimp only at hSw); go_simp; (try with_reducible rfl)); rotate_left); simp only [Act.put, List.setIfInBounds_toArray, List.set_cons_zero, List.set_cons_succ]
              refine lin_rot ?_; simp only [List.cons_append, List.nil_append]
              refine lin_rot ?_; simp only [List.cons_append, List.nil_append]
              refine lin_rot ?_; simp only [List.cons_append, List.nil_append]
              refine lin_rot ?_; simp only [List.cons_append, List.nil_append]
              refine lin_swap ?_
              refine lin_rot ?_; simp only [List.cons_append, List.nil_append]
              refine lin_rot ?_; simp only [List.cons_append, List.nil_append]
              refine lin_rot ?_; simp only [List.cons_append, List.nil_append]
              refine lin_rot ?_; simp only [List.cons_append, List.nil_append]
              refine lin_pair (by kernel_rfl) ?pone ?ptwo
              case' pone =>
                intro K hK
                go_simp
                have hB := hO2.base 3 1
                refine hK.out _ _ ((hB.old y1)) (fun hHeld => ?_)
                try simp only [Act.put, List.setIfInBounds_toArray, List.set_cons_zero, List.set_cons_succ]
                clear hK hHeld hO2; generalize u0.alloc (.cells #[] 3) = u1 at *; generalize u0.heap.size = bb0 at *
                have hHeld := (hB.old y1)
                refine lin_pair (by kernel_rfl) ?pthree ?pfour
                case' pthree =>
                  intro K hK
                  go_simp
                  have hC := hB.lit1 3 (.int .i64 X)
                  refine hK.out _ _ ((hC.old y1)) (fun hHeld => ?_)
                  try simp only [Act.put, List.setIfInBounds_toArray, List.set_cons_zero, List.set_cons_succ]
                  clear hK hHeld hB; generalize u1.alloc (.cells #[(.int .i64 X)] 3) = u2 at *; generalize u1.heap.size = lb0 at *
                  have hHeld := (hC.old y1)
                  refine lin_law (by kernel_rfl) rfl ?_
                  have s1 := (hC.row 2 rfl).src'
                  refine wpList_append_row _ rfl (.tmp 52) (.tmp 53) 26 rfl 3 i1 (.int .i64 0) 1 8 Try.underlying26 hi1 hw0 hw1' hw2' rfl (by decide) (.slice (some ⟨bb0, 0, none⟩) 0 0) 0 [] rfl (hC.row 3 rfl) _ xs.length _ (xs.map (.int .i64)) rfl s1.1 s1.2.1 s1.2.2 hone (by unfold maxLen; omega) (by omega) ?_
                  intro v2 u3 hr2 ht2 hf2; simp only [Nat.zero_add, List.nil_append] at hr2; obtain ⟨ao2, c2, rfl, p1, p2, _⟩ := hr2.shape
                  have hD := hC.move 3 rfl (Moves.of_append hr2 ht2 hf2)
                  refine wpList_nil ⟨rfl, (hD.old y1), fun hHeld => ?_⟩
                  try simp only [Act.put, List.setIfInBounds_toArray, List.set_cons_zero, List.set_cons_succ]
                  clear hC s1 hHeld ht2 hf2; have hHeld := (hD.old y1)
                  refine lin_law (by kernel_rfl) rfl ?_
                  have s2 := (hD.row 4 rfl).src'
                  refine wpList_append_row _ rfl (.tmp 54) (.tmp 60) 26 rfl 3 i1 (.int .i64 0) 1 8 Try.underlying26 hi1 hw0 hw1' hw2' rfl (by decide) (.slice ao2 xs.length c2) xs.length (xs.map (.int .i64)) rfl (hD.row 3 rfl) _ 1 1 [(.int .i64 X)] rfl s2.1 s2.2.1 s2.2.2 (by simp [Value.oneCell']) (by unfold maxLen; omega) (by omega) ?_
                  intro v3 w3 hr3 ht3 hf3; obtain ⟨ao3, c3, rfl, p3, p4, _⟩ := hr3.shape
                  have hG := (hD.move 3 rfl (Moves.of_append hr3 ht3 hf3)).sel [0, 1, 3] (by decide)
                  refine wpList_nil ⟨rfl, (hG.old y1), fun hHeld => ?_⟩
                  try simp only [Act.put, List.setIfInBounds_toArray, List.set_cons_zero, List.set_cons_succ]
                  clear hD s2 hHeld ht3 hf3 hr2; have hHeld := (hG.old y1)
                  refine lin_take (v := ?_) (by kernel_rfl) (by kernel_rfl) (fun _ _ _ h => h) (Or.inl ⟨by rfl, ?_⟩) (by assumption) ?_; (rotate_left; (intro wS hSw; (try dsimp only at hSw); go_simp; (try with_reducible rfl)); rotate_left); simp only [Act.put, List.setIfInBounds_toArray, List.set_cons_zero, List.set_cons_succ]
                  refine lin_done (by kernel_rfl) ?_
                case' pfour =>
                  refine comes_law rfl ?_
                  have s1 := (hB.row 2 rfl).src'
                  refine wpList_append_row _ rfl (.tmp 52) (.tmp 53) 26 rfl 3 i1 (.int .i64 0) 1 8 Try.underlying26 hi1 hw0 hw1' hw2' rfl (by decide) (.slice (some ⟨bb0, 0, none⟩) 0 0) 0 [] rfl (hB.row 3 rfl) _ xs.length _ (xs.map (.int .i64)) rfl s1.1 s1.2.1 s1.2.2 hone (by unfold maxLen; omega) (by omega) ?_
                  intro v2 u2 hr2 ht2 hf2; simp only [Nat.zero_add, List.nil_append] at hr2; obtain ⟨ao2, c2, rfl, p1, p2, _⟩ := hr2.shape
                  have hC := hB.move 3 rfl (Moves.of_append hr2 ht2 hf2)
                  refine wpList_nil ⟨rfl, (hC.old y1), fun hHeld => ?_⟩
                  try simp only [Act.put, List.setIfInBounds_toArray, List.set_cons_zero, List.set_cons_succ]
                  clear hB s1 hHeld ht2 hf2; have hHeld := (hC.old y1)
                  refine lin_sole (by kernel_rfl) (fun K hK => ?_)
                  go_simp
                  have hD := hC.lit1 3 (.int .i64 X)
                  refine hK.out _ _ ((hD.old y1)) (fun hHeld => ?_)
                  try simp only [Act.put, List.setIfInBounds_toArray, List.set_cons_zero, List.set_cons_succ]
                  clear hK hHeld hC; generalize u2.alloc (.cells #[(.int .i64 X)] 3) = u3 at *; generalize u2.heap.size = lb0 at *
                  have hHeld := (hD.old y1)
                  refine lin_law (by kernel_rfl) rfl ?_
                  have s2 := (hD.row 4 rfl).src'
                  refine wpList_append_row _ rfl (.tmp 54) (.tmp 60) 26 rfl 3 i1 (.int .i64 0) 1 8 Try.underlying26 hi1 hw0 hw1' hw2' rfl (by decide) (.slice ao2 xs.length c2) xs.length (xs.map (.int .i64)) rfl (hD.row 3 rfl) _ 1 1 [(.int .i64 X)] rfl s2.1 s2.2.1 s2.2.2 (by simp [Value.oneCell']) (by unfold maxLen; omega) (by omega) ?_
                  intro v3 w3 hr3 ht3 hf3; obtain ⟨ao3, c3, rfl, p3, p4, _⟩ := hr3.shape
                  have hG := (hD.move 3 rfl (Moves.of_append hr3 ht3 hf3)).sel [0, 1, 3] (by decide)
                  refine wpList_nil ⟨rfl, (hG.old y1), fun hHeld => ?_⟩
                  try simp only [Act.put, List.setIfInBounds_toArray, List.set_cons_zero, List.set_cons_succ]
                  clear hD s2 hHeld ht3 hf3 hr2; have hHeld := (hG.old y1)
                  refine lin_take (v := ?_) (by kernel_rfl) (by kernel_rfl) (fun _ _ _ h => h) (Or.inl ⟨by rfl, ?_⟩) (by assumption) ?_; (rotate_left; (intro wS hSw; (try dsimp only at hSw); go_simp; (try with_reducible rfl)); rotate_left); simp only [Act.put, List.setIfInBounds_toArray, List.set_cons_zero, List.set_cons_succ]
                  refine lin_done (by kernel_rfl) ?_
              case' ptwo =>
                intro K hK
                go_simp
                have hB := hO2.lit1 3 (.int .i64 X)
                refine hK.out _ _ ((hB.old y1)) (fun hHeld => ?_)
                try simp only [Act.put, List.setIfInBounds_toArray, List.set_cons_zero, List.set_cons_succ]
                clear hK hHeld hO2; generalize u0.alloc (.cells #[(.int .i64 X)] 3) = u1 at *; generalize u0.heap.size = lb0 at *
                have hHeld := (hB.old y1)
                refine lin_sole (by kernel_rfl) (fun K hK => ?_)
                go_simp
                have hC := hB.base 3 1
                refine hK.out _ _ ((hC.old y1)) (fun hHeld => ?_)
                try simp only [Act.put, List.setIfInBounds_toArray, List.set_cons_zero, List.set_cons_succ]
                clear hK hHeld hB; generalize u1.alloc (.cells #[] 3) = u2 at *; generalize u1.heap.size = bb0 at *
                have hHeld := (hC.old y1)
                refine lin_law (by kernel_rfl) rfl ?_
                have s1 := (hC.row 2 rfl).src'
                refine wpList_append_row _ rfl (.tmp 52) (.tmp 53) 26 rfl 3 i1 (.int .i64 0) 1 8 Try.underlying26 hi1 hw0 hw1' hw2' rfl (by decide) (.slice (some ⟨bb0, 0, none⟩) 0 0) 0 [] rfl (hC.row 4 rfl) _ xs.length _ (xs.map (.int .i64)) rfl s1.1 s1.2.1 s1.2.2 hone (by unfold maxLen; omega) (by omega) ?_
                intro v2 u3 hr2 ht2 hf2; simp only [Nat.zero_add, List.nil_append] at hr2; obtain ⟨ao2, c2, rfl, p1, p2, _⟩ := hr2.shape
                have hD := hC.move 4 rfl (Moves.of_append hr2 ht2 hf2)
                refine wpList_nil ⟨rfl, (hD.old y1), fun hHeld => ?_⟩
                try simp only [Act.put, List.setIfInBounds_toArray, List.set_cons_zero, List.set_cons_succ]
                clear hC s1 hHeld ht2 hf2; have hHeld := (hD.old y1)
                refine lin_law (by kernel_rfl) rfl ?_
                have s2 := (hD.row 3 rfl).src'
                refine wpList_append_row _ rfl (.tmp 54) (.tmp 60) 26 rfl 3 i1 (.int .i64 0) 1 8 Try.underlying26 hi1 hw0 hw1' hw2' rfl (by decide) (.slice ao2 xs.length c2) xs.length (xs.map (.int .i64)) rfl (hD.row 4 rfl) _ 1 1 [(.int .i64 X)] rfl s2.1 s2.2.1 s2.2.2 (by simp [Value.oneCell']) (by unfold maxLen; omega) (by omega) ?_
                intro v3 w3 hr3 ht3 hf3; obtain ⟨ao3, c3, rfl, p3, p4, _⟩ := hr3.shape
                have hG := (hD.move 4 rfl (Moves.of_append hr3 ht3 hf3)).sel [0, 1, 4] (by decide)
                refine wpList_nil ⟨rfl, (hG.old y1), fun hHeld => ?_⟩
                try simp only [Act.put, List.setIfInBounds_toArray, List.set_cons_zero, List.set_cons_succ]
                clear hD s2 hHeld ht3 hf3 hr2; have hHeld := (hG.old y1)
                refine lin_take (v := ?_) (by kernel_rfl) (by kernel_rfl) (fun _ _ _ h => h) (Or.inl ⟨by rfl, ?_⟩) (by assumption) ?_; (rotate_left; (intro wS hSw; (try dsimp only at hSw); go_simp; (try with_reducible rfl)); rotate_left); simp only [Act.put, List.setIfInBounds_toArray, List.set_cons_zero, List.set_cons_succ]
                refine lin_done (by kernel_rfl) ?_
              all_goals
                have hl3 : (xs ++ [X]).length = xs.length + 1 := by simp
                have hFin : DOwn w w3 db M (xs ++ [X]) [rowA 3 1 (.slice ao3 (xs ++ [X]).length c3) (xs ++ [X]).length ((xs ++ [X]).map (.int .i64))] := by
                  rw [hl3, List.map_append]
                  exact ⟨bv, hG⟩
                replace hFin := Lib.hid hFin
                clear hG hHeld
                go_wp2_with fail
                go_meet
                exact ⟨0, true, xs ++ [X], ao3, c3, by rw [hl3], rfl, rfl, rfl, rfl, by omega, by omega, hFin⟩
            · have P := Lib.hid (dPush_no hO.out X (by omega))
              have hf2 : decide ((xs.length : Int) < M) = false := by simp; omega
              go_wp2_with (go_at_call 16; refine P.out.mono ?_; rintro e w2 ⟨rfl, h2⟩)
              go_meet
              exact ⟨0, false, xs, mo, mc, rfl, rfl, rfl, rfl, rfl, by omega, hxM, Lib.hid h2⟩
      case rest =>
        clear hO mb1 mb2
        obtain ⟨V, B, ys, mo2, mc2, rfl, rfl, rfl, rfl, rfl, hy1, hy2, hO⟩ := hcut
        obtain ⟨_, _, hv, mb1, mb2, _⟩ := (hO.out.row 0 rfl).shape
        simp only [Value.slice.injEq] at hv
        obtain ⟨rfl, _, rfl⟩ := hv
        unfold maxLen at mb2
        have L := Lib.hid (dLen hO.out)
        have A := Lib.hid (all_own hO.out (by omega))
        clear x0 x1
        go_wp2_with (first
          | (go_at_call 17; refine L.out.mono ?_; rintro e w3 ⟨rfl, rfl⟩)
          | (go_at_call 19; refine A.out.mono ?_; rintro e w4 ⟨ao, c, rfl, h4⟩; have I := Lib.hid (ints_any ao mo2 c mc2 ys ys w4 (Lies.of_row (h4.row 1 rfl) rfl) (Lies.of_row (h4.row 0 rfl) rfl)); have hE := Lib.hid (fun m => Lib.hid ((DOwn.pop (l := [_]) (l' := [_]) h4).drewN m)); clear h4)
          | (go_at_call 18; refine I.out.mono ?_; rintro e w5 ⟨rfl, m, rfl⟩; rw [beq_self_eq_true]))
        go_roundw
        case rel => exact ⟨k + 1, ys, mo2, mc2, by omega, rfl, by go_num, hy1, hy2, hE.out _⟩
        case measure => simp [intOf]; omega
    · obtain rfl : k = os.length := by omega
      have hB := hO.out.below
      clear hO
      go_wp2_with (first
        | (go_at_call 14; refine (dPop_none _).mono ?_; rintro e w3 ⟨rfl, rfl⟩)
        | (go_at_call 15; refine (dSteal_none _).mono ?_; rintro e w3 ⟨rfl, rfl⟩)
        | (go_at_call 16; refine (dPush_none _ _).mono ?_; rintro e w3 ⟨rfl, m3, rfl⟩; have hB2 := below_drewN' hB m3)
        | (go_at_call 17; refine (dLen_none _).mono ?_; rintro e w3 ⟨rfl, rfl⟩)
        | (go_at_call 19; refine (all_none _).mono ?_; rintro e w4 ⟨rfl, hb4⟩))
      go_ret
      exact ⟨rfl, below_chain hB2 hb4⟩
theorem walkModelDoes (v0 v1 : Value) (w : World) (h0 : Arg Try.prog w 3 v0) (h1 : Arg Try.prog w 22 v1) :
    Calls Try.prog 3 #[v0, v1] w fun e w' => e = .returned (.bool true) ∧ Below w.heap.size w w' := by
  obtain ⟨m, rfl, hm⟩ := h0.int Try.underlying3
  obtain ⟨oo, oc, os, rfl, p1, p2, _, g, off, p4⟩ := h1.structs' 2 Try.underlying22 (by kernel_rfl) Try.underlying3 (by kernel_rfl) (by kernel_rfl) (by omega)
  by_cases hl : os.length ≤ 200
  · exact mdoes_core m _ os oo oc g off w rfl p1 p2 hl p4
  · unfold maxLen at p2
    clear p4
    have hl2 : 200 < os.length := by omega
    go_enter Try.func3, Try.ntmps3
    go_wp2_with (go_at_call 12; refine (works14_any _).mono ?_; rintro e w1 ⟨rfl, hb1⟩)
    go_ret
    exact ⟨rfl, hb1⟩
end Go.Proofs.Ytofnjapgacgdlaa
