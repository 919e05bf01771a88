/- The walk through the law SinkDoes. -/
import Derived.Test.YtkmccbknmpjkhaaSink4
import Derived.Lib.MinMax
set_option linter.unusedVariables false
set_option linter.unusedSimpArgs false
namespace Go.Proofs.Ytkmccbknmpjkhaa
open Go.RowKit
theorem take_more {l : List Int} {k : Nat} (h : k < l.length) : l.take k ++ [l.getD k 0] = l.take (k + 1) := by
  rw [List.take_succ_eq_append_getElem h]; simp [h]
theorem own_start {w w1 : World} {g : Nat} {M : Int} (hs : SinkIs w1 g M [] w1.heap.size) : True := trivial
theorem sink_begin {w : World} {g B : Nat} {M : Int} {zs : List Int} (h : SinkIs w g M zs B) : ∃ v, (sinkA g M v zs).hold w ∧ ∀ k, (sinkA g M v zs).F k → B ≤ k := by
  obtain ⟨h1, h2, ao, cap, h3, h4, h5, h6, h7⟩ := h
  refine ⟨.slice ao zs.length cap, ⟨h3, h6, fun hk => (h7 g hk).2 rfl⟩, fun k hk => ?_⟩
  rcases hk with rfl | hk
  · exact h1
  · exact (h7 k hk).1
set_option maxHeartbeats 2000000
set_option maxRecDepth 100000
theorem sdoes_core (m : Int) (l : List Int) (lo : Option Addr) (cl R n : Nat) (w : World) (hR : min (max m 0) 1000 = (R : Int)) (hR2 : R ≤ 1000) (hn : min (l.length : Int) (R : Int) = (n : Int)) (hl : Lies w lo cl l) (hll : l.length ≤ 1200) :
    Calls Try.prog 11 #[.int .i64 m, .slice lo l.length cl] w fun e w' => e = .returned (.bool true) ∧ Below w.heap.size w w' := by
  have h1 := hl.1
  have h2 := hl.2.1
  unfold maxLen at h2
  have N := fun w => new_any m w
  rw [hR] at N
  replace N := Lib.hid N
  have n1 : n ≤ l.length := by omega
  have n2 : n ≤ R := by omega
  have HN := Lib.hid hn
  clear hn
  go_enter Try.func11, Try.ntmps11
  go_wp2_with (go_at_call 32; refine (works22_any _).mono ?_; rintro e w1 ⟨rfl, hb1⟩)
  go_at_call 37
  refine (N.out _).mono ?_
  rintro e w2 ⟨rfl, hs2, hb2⟩
  obtain ⟨v, hv, hvF⟩ := sink_begin hs2
  have hO : Own w w2 [sinkA w1.heap.size R v [], rowA 3 1 (.slice none 0 0) 0 []] :=
    ((Own.nil hb1).push hb2 _ hv hvF).push (Below.refl _ _) (rowA 3 1 (.slice none 0 0) 0 []) (Row.nil _ _ _) (by simp [rowA, Value.ownBlock])
  clear hs2 hb2 hb1 hv hvF
  generalize w1.heap.size = g at *
  go_wp2_with fail
  go_loopw [7, 8] (fun a i wr => ∃ (k : Nat) (zs ws : List Int) (v : Value), k ≤ l.length ∧ i = .int .i64 k ∧ zs.length = min k R ∧ Hid (zs = l.take (min k R)) ∧ Own w wr [sinkA g R v zs, rowA 3 1 a ws.length (ws.map (.int .i64))] ∧ Hid (ws <+: zs)) (fun _ i _ => (l.length - intOf i).toNat)
  case atStart => exact ⟨0, [], [], v, by omega, rfl, by simp, Lib.hid (by simp), hO, Lib.hid (List.nil_prefix)⟩
  case round =>
    clear hO
    obtain ⟨k, zs, ws, v, hk, rfl, hzl, hz, hO, hw⟩ := hrel
    by_cases hlt : k < l.length
    · obtain ⟨ad, rfl, hx0⟩ := hl.get hlt
      have hx := hO.old hx0
      have hsn := Lib.hid (take_more hlt)
      generalize l.getD k 0 = X at *
      clear hx0
      by_cases hkR : k < R
      · have hzk : zs.length = k := by omega
        have E := Lib.hid (emit_yes X (hO.at 0 rfl) (by omega) (by omega))
        have hz1 : (zs ++ [X]).length = k + 1 := by simp [hzk]
        have hz2 : zs ++ [X] = l.take (k + 1) := by rw [hz.out, Nat.min_eq_left (Nat.le_of_lt hkR)]; exact hsn.out
        have hw2 : ws <+: zs ++ [X] := hw.out.trans (List.prefix_append _ _)
        have hmn : min ((k : Int) + 1) (R : Int) = (k : Int) + 1 := by omega
        have hkr : decide ((k : Int) < (R : Int)) = true := by simp [hkR]
        generalize hzs : zs ++ [X] = zs' at *
        replace hz2 := Lib.hid hz2
        replace hw2 := Lib.hid hw2
        replace hz1 := Lib.hid hz1
        replace hzs := Lib.hid hzs
        have Lm := Lib.hid (fun (w5 : World) (h : (sinkA g R v zs').hold w5) => True.intro)
        clear hz hw hzl hzk Lm
        cases hh : ((k : Int) == (l.length : Int) / 2)
        all_goals
          go_wp2_with (go_at_call 38; refine E.out.mono ?_; rintro e w5 ⟨rfl, v', hm⟩; have hO5 := hO.move 0 rfl hm)
          have Ln := len_any (sinkA_is (hO5.at 0 rfl))
          rw [hz1.out, show ((k + 1 : Nat) : Int) = (k : Int) + 1 by omega] at Ln
          replace Ln := Lib.hid Ln
          go_at_call 39
          refine Ln.out.mono ?_
          rintro e w6 ⟨rfl, rfl⟩
          go_wp2_with (go_at_call 40; refine (all_any (sinkA_is (hO5.at 0 rfl)) (by have := hz1.out; omega)).mono ?_; rintro e w7 ⟨ao2, cap2, rfl, hrow, hf2, hb7⟩)
          go_roundw
          case rel => first | exact ⟨k + 1, zs', ws, v', by omega, by go_num, by rw [hz1.out]; omega, Lib.hid (by rw [hz2.out, Nat.min_eq_left hkR]), hO5, hw2⟩ | exact ⟨k + 1, zs', zs', v', by omega, by go_num, by rw [hz1.out]; omega, Lib.hid (by rw [hz2.out, Nat.min_eq_left hkR]), (Own.pop (l := [sinkA g R v' zs']) hO5).push hb7 (rowA 3 1 (.slice ao2 zs'.length cap2) zs'.length (zs'.map (.int .i64))) hrow hf2, Lib.hid (List.prefix_rfl)⟩
          case measure => simp [intOf]; omega
      · have hzk : zs.length = R := by omega
        have E := Lib.hid (emit_no X (hO.at 0 rfl) (by omega))
        have hmn : min ((k : Int) + 1) (R : Int) = (R : Int) := by omega
        have hkr : decide ((k : Int) < (R : Int)) = false := by simp; omega
        have hz2 := Lib.hid (show zs = l.take (min (k + 1) R) by rw [hz.out, Nat.min_eq_right (by omega), Nat.min_eq_right (by omega)])
        replace hzk := Lib.hid hzk
        clear hz hzl hsn
        cases hh : ((k : Int) == (l.length : Int) / 2)
        all_goals
          go_wp2_with (go_at_call 38; refine E.out.mono ?_; rintro e w5 ⟨rfl, m5, hw5⟩; have hO5 : Own w w5 [sinkA g R v zs, _] := hw5 ▸ hO.drewN m5; have hx5 := hO5.below; clear hw5 hx5)
          have Ln := len_any (sinkA_is (hO5.at 0 rfl))
          rw [hzk.out] at Ln
          replace Ln := Lib.hid Ln
          go_at_call 39
          refine Ln.out.mono ?_
          rintro e w6 ⟨rfl, rfl⟩
          go_wp2_with (go_at_call 40; refine (all_any (sinkA_is (hO5.at 0 rfl)) (by have := hzk.out; omega)).mono ?_; rintro e w7 ⟨ao2, cap2, rfl, hrow, hf2, hb7⟩)
          go_roundw
          case rel => first | exact ⟨k + 1, zs, ws, v, by omega, by go_num, by rw [hzk.out]; omega, hz2, hO5, hw⟩ | exact ⟨k + 1, zs, zs, v, by omega, by go_num, by rw [hzk.out]; omega, hz2, (Own.pop (l := [sinkA g R v zs]) hO5).push hb7 (rowA 3 1 (.slice ao2 zs.length cap2) zs.length (zs.map (.int .i64))) hrow hf2, Lib.hid (List.prefix_rfl)⟩
          case measure => simp [intOf]; omega
    · have hkl : k = l.length := by omega
      have hzn : zs.length = n := by
        have := HN.out
        omega
      have hzt : zs = l.take n := by
        rw [hz.out, hkl]
        congr 1
        have := HN.out
        omega
      have hr1 := hO.row 1 rfl
      obtain ⟨wo, wc, rfl, hw1, hw2, _⟩ := hr1.shape
      have hpre : ws.isPrefixOf zs = true := by rw [List.isPrefixOf_iff_prefix]; exact hw.out
      have hAl := all_any (sinkA_is (hO.at 0 rfl)) (by omega)
      rw [hzn] at hAl
      replace hAl := Lib.hid hAl
      have hmin := HN.out
      replace hzn := Lib.hid hzn
      replace hzt := Lib.hid hzt
      replace hpre := Lib.hid hpre
      clear hz hzl hkl hw hr1
      unfold maxLen at hw2
      go_wp2_with (go_at_call 40; refine hAl.out.mono ?_; rintro e w7 ⟨ao2, cap2, rfl, hrow, hf2, hb7⟩)
      have hO7 : Own w w7 [sinkA g R v zs, rowA 3 1 (.slice wo ws.length wc) ws.length (ws.map (.int .i64)), rowA 3 1 (.slice ao2 n cap2) n (zs.map (.int .i64))] := hO.push hb7 (rowA 3 1 (.slice ao2 n cap2) n (zs.map (.int .i64))) hrow hf2
      have I1 := ints_any ao2 lo cap2 cl zs zs w7 (Lies.of_row hrow hzn.out.symm) (by rw [hzt.out]; exact (hl.below hO7.below).take n1)
      rw [hzn.out, show (zs == zs) = true by simp] at I1
      replace I1 := Lib.hid I1
      clear hrow hf2 hb7 hO hAl
      go_at_call 41
      refine I1.out.mono ?_
      rintro e w8 ⟨rfl, m8, hw8⟩
      have hO8 := hO7.drewN m8
      rw [← hw8] at hO8
      clear hw8 hO7 I1
      have B1 := begins_any wo ao2 wc cap2 ws zs w8 (Lies.of_row (hO8.row 1 rfl) rfl) (Lies.of_row (hO8.row 2 rfl) hzn.out.symm)
      rw [hzn.out, hpre.out] at B1
      replace B1 := Lib.hid B1
      go_wp2_with (go_at_call 35; refine B1.out.mono ?_; rintro e w9 ⟨rfl, m9, hw9⟩; have hO9 := hO8.drewN m9; rw [← hw9] at hO9; clear hw9)
      clear hO8 B1
      go_at_call 38
      refine (emit_nil 1 _).mono ?_
      rintro e w10 ⟨rfl, m10, hw10⟩
      have hO10 := hO9.drewN m10
      rw [← hw10] at hO10
      clear hw10 hO9
      have hA2 := fun (w11 : World) (l' : List Ast) (h : Own w w11 (sinkA g R v zs :: l')) => all_any (sinkA_is (h.at 0 rfl)) (by rw [hzn.out]; omega)
      rw [hzn.out] at hA2
      replace hA2 := Lib.hid hA2
      have hI2 := fun (w12 : World) (ao3 : Option Addr) (cap3 : Nat) (hb : Below w.heap.size w w12) (hr : Row w12 3 1 (.slice ao3 n cap3) n (zs.map (.int .i64))) => ints_any ao3 lo cap3 cl zs zs w12 (Lies.of_row hr hzn.out.symm) (by rw [hzt.out]; exact (hl.below hb).take n1)
      rw [hzn.out, show (zs == zs) = true by simp] at hI2
      replace hI2 := Lib.hid hI2
      rcases Nat.eq_zero_or_pos n with hn0 | hn0
      · subst hn0
        go_wp2_with (first | (go_at_call 39; refine (len_nil _).mono ?_; rintro e w11 ⟨rfl, rfl⟩) | (go_at_call 40; refine (all_nil _).mono ?_; rintro e w11 ⟨rfl, rfl⟩))
        have hOd := hO10.drewN 1
        go_region_held3 (fun w' => Below w.heap.size w w') (first | exact hB13 | exact hB12 | exact hOd.below | assumption) (first | (go_at_call 40; refine (hA2.out _ _ hOd).mono ?_; rintro e w12 ⟨ao3, cap3, rfl, hrow3, hf3, hb12⟩; have hB12 := below_chain hOd.below hb12) | (go_at_call 41; refine (hI2.out _ _ _ hB12 hrow3).mono ?_; rintro e w13 ⟨rfl, m13, rfl⟩; have hB13 := below_drewN' hB12 m13))
        all_goals go_wp2
        all_goals go_ret
        all_goals exact ⟨rfl, hB13⟩
      · have hr2 := hO10.row 2 rfl
        obtain ⟨g2, off, cap', hv2, q1, q2, q3, q4⟩ := hr2.addr hn0
        simp only [Value.slice.injEq] at hv2
        obtain ⟨rfl, _, rfl⟩ := hv2
        have x0 := q3 0 (by omega)
        have x1 := q4 0 (by omega)
        obtain ⟨X, hX⟩ : ∃ X : Int, (zs.map (Value.int .i64))[0]? = some (.int .i64 X) := by
          have hz0 : 0 < zs.length := by rw [hzn.out]; exact hn0
          exact ⟨zs[0], by simp [hz0]⟩
        rw [hX, Nat.add_zero] at x0
        rw [Nat.add_zero] at x1
        have hO11 := fun (u : Value) => hO10.set 2 rfl 0 u
        replace hO11 := Lib.hid hO11
        clear q3 q4 hX hr2
        go_wp2_with (first | (go_at_call 39; refine (len_nil _).mono ?_; rintro e w11 ⟨rfl, rfl⟩) | (go_at_call 40; refine (all_nil _).mono ?_; rintro e w11 ⟨rfl, rfl⟩))
        have hO12 := hO11.out (.int .i64 (wrap64 (X + 1)))
        rw [Addr.add_lit, Nat.add_zero] at hO12
        generalize w10.setCell ⟨g2, off, none⟩ (.int .i64 (wrap64 (X + 1))) = u12 at *
        have hOd := hO12.drewN 1
        have i1 : (0 : Int) ≤ (n : Int) := by omega
        have i2 : (n : Int) ≤ (cl : Int) := by omega
        go_region_held3 (fun w' => Below w.heap.size w w') (first | exact hB13 | exact hB12 | exact hOd.below | assumption) (first | (go_at_call 40; refine (hA2.out _ _ hOd).mono ?_; rintro e w12 ⟨ao3, cap3, rfl, hrow3, hf3, hb12⟩; have hB12 := below_chain hOd.below hb12) | (go_at_call 41; refine (hI2.out _ _ _ hB12 hrow3).mono ?_; rintro e w13 ⟨rfl, m13, rfl⟩; have hB13 := below_drewN' hB12 m13))
        all_goals go_wp2
        all_goals go_ret
        all_goals exact ⟨rfl, hB13⟩
theorem walkSinkDoes (v0 v1 : Value) (w : World) (h0 : Arg Try.prog w 3 v0) (h1 : Arg Try.prog w 22 v1) :
    Calls Try.prog 11 #[v0, v1] w fun e w' => e = .returned (.bool true) ∧ Below w.heap.size w w' := by
  obtain ⟨m, rfl, hm⟩ := h0.int Try.underlying3
  obtain ⟨lo, cl, l, rfl, hl, _, _⟩ := h1.lies Try.underlying22 Try.underlying3 (by kernel_rfl)
  by_cases hll : l.length ≤ 1200
  · exact sdoes_core m l lo cl (min (max m 0) 1000).toNat (min l.length (min (max m 0) 1000).toNat) w (by omega) (by omega) (by omega) hl hll
  · have h1 := hl.1
    have h2 := hl.2.1
    unfold maxLen at h2
    have h3 : 1200 < l.length := by omega
    clear hl hm
    go_enter Try.func11, Try.ntmps11
    go_wp2_with (go_at_call 32; refine (works22_any _).mono ?_; rintro e w1 ⟨rfl, hb1⟩)
    go_ret
    exact ⟨rfl, hb1⟩
end Go.Proofs.Ytkmccbknmpjkhaa
