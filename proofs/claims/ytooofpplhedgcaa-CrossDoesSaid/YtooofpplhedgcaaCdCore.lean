/- The walk through the law CrossDoes. -/
import Derived.Test.YtooofpplhedgcaaCrSwA
import Derived.Test.YtooofpplhedgcaaCrSwB
import Derived.Test.YtooofpplhedgcaaCrSwC
import Derived.Test.YtooofpplhedgcaaCrSwD
import Derived.Test.YtooofpplhedgcaaCrSwE
import Derived.Test.YtooofpplhedgcaaArgs
import Derived.Deep.Cut
import Derived.Deep.CutRange
import Derived.Deep.CutBlock
set_option linter.unusedVariables false
set_option linter.unusedSimpArgs false
namespace Go.Proofs.Ytooofpplhedgcaa
open Go.RowKit
set_option maxRecDepth 1000000
set_option maxHeartbeats 8000000
theorem Try.infoRightP : (Try.prog.info? 56).map (fun i => (i.zero, i.size, i.bytes)) = some (some (.pointer none), 1, 8) := by kernel_rfl
theorem Try.infoParkP : (Try.prog.info? 60).map (fun i => (i.zero, i.size, i.bytes)) = some (some (.pointer none), 1, 8) := by kernel_rfl
theorem Try.infoWalkC : (Try.prog.info? 75).map (fun i => (i.zero, i.size, i.bytes)) = some (some (.agg #[.bool false, .int .i64 0, .int .i64 0, .int .i64 0, .int .i64 0, .int .i64 0, .int .i64 0, .int .i64 0, .bool false]), 9, 72) := by kernel_rfl
theorem right_got_nil (w : World) : Calls Try.prog 45 #[.pointer none] w fun e w' => e = .returned (.tuple #[.int .i64 0, .bool false]) ∧ w = w' := by
  go_enter Try.func45, Try.ntmps45
  go_wp2
  go_ret2
  exact ⟨rfl, rfl⟩
theorem right_step_nil (v : Value) (w : World) : Calls Try.prog 44 #[.pointer none, v] w fun e w' => e = .returned (.bool true) ∧ w = w' := by
  go_enter Try.func44, Try.ntmps44
  go_wp2
  go_ret
  exact ⟨rfl, rfl⟩
theorem park_step_nil (v : Value) (w : World) : Calls Try.prog 46 #[.pointer none, v] w fun e w' => e = .returned (.bool true) ∧ w = w' := by
  go_enter Try.func46, Try.ntmps46
  go_wp2
  go_ret
  exact ⟨rfl, rfl⟩
theorem park_back_nil (w : World) : Calls Try.prog 47 #[.pointer none] w fun e w' => e = .returned (.bool false) ∧ w = w' := by
  go_enter Try.func47, Try.ntmps47
  go_wp2
  go_ret
  exact ⟨rfl, rfl⟩
def zeroF : Nat → Value := fun j => if j = 0 then .bool false else if j = 8 then .bool false else .int .i64 0
theorem cdoes_core (ls : List (List Int)) (lo : Option Addr) (lc g0 off : Nat) (w : World) (h1 : ls.length ≤ lc) (h2 : lc ≤ maxLen) (hl : ls.length ≤ 200)
    (ho : ∀ i, i < ls.length → lo = some ⟨g0, off, none⟩ ∧ (∀ j, j < 5 → (Lit.int .i64 ((ls.getD i []).getD j 0)).wf = true) ∧ ∀ j, j < 5 → w.cell? ⟨g0, off + i * 5 + j, none⟩ = some (.int .i64 ((ls.getD i []).getD j 0))) :
    Calls Try.prog 8 #[.slice lo ls.length lc] w fun e w' => e = .returned (.bool true) ∧ Below w.heap.size w w' := by
  obtain ⟨ti1, hi1, hw0, hw1', hw2'⟩ := info_parts' Try.infoIntC
  obtain ⟨ti2, hi2, hq0, hq1', hq2'⟩ := info_parts' Try.infoRightP
  obtain ⟨ti3, hi3, hp0, hp1', hp2'⟩ := info_parts' Try.infoParkP
  obtain ⟨ti4, hi4, hr0, hr1', hr2'⟩ := info_parts' Try.infoWalkC
  have ok : okPlan 1 3 3 3 = true := by decide
  have SZ := Lib.hid (fun (w1 : World) => show Calls Try.prog 12 #[.agg #[.int .i64 1, .int .i64 3, .int .i64 3, .int .i64 3]] w1 fun e w' => e = .returned (.int .i64 61) ∧ Below w1.heap.size w1 w' from (show sizeV 1 3 3 3 = 61 by decide) ▸ size_ok ok w1)
  have NW := Lib.hid (fun (w1 : World) (l : List Ast) (h : Own w w1 l) => own_new h 61 (List.replicate 61 0) rfl)
  unfold maxLen at h2
  replace ho := Lib.hid ho
  go_enter Try.func8, Try.ntmps8
  go_wp2_with (go_at_call 33; refine (works19_any _).mono ?_; rintro e wa ⟨rfl, hb0⟩)
  go_at_call 34
  refine (plan19_any _).mono ?_
  rintro e wb ⟨rfl, hb1⟩
  have k1 := ((Own.nil (below_chain hb0 hb1)).box #[.int .i64 1, .int .i64 3, .int .i64 3, .int .i64 3] 26).box #[.int .i64 1, .int .i64 3, .int .i64 3, .int .i64 3] 66
  rw [alloc_szC] at k1
  clear hb0 hb1
  go_upto_region 7 with fail
  generalize (wb.alloc (.cells #[.int .i64 1, .int .i64 3, .int .i64 3, .int .i64 3] 26)).alloc (.cells #[.int .i64 1, .int .i64 3, .int .i64 3, .int .i64 3] 66) = wp at *
  generalize wb.heap.size + 1 = qb at *
  generalize wb.heap.size = pb at *
  have y0 := (k1.cget 0 rfl 0).1
  have y1 := (k1.cget 0 rfl 1).1
  have y2 := (k1.cget 0 rfl 2).1
  have y3 := (k1.cget 0 rfl 3).1
  simp at y0 y1 y2 y3
  go_wp2_with fail
  go_at_call 12
  refine (SZ.out _).mono ?_
  rintro e w2 ⟨rfl, hb2⟩
  have k2 := k1.grow hb2
  clear k1 hb2 y0 y1 y2 y3
  go_wp2_with fail
  go_at_call 11
  refine (NW.out _ _ k2).mono ?_
  rintro e w3 ⟨rfl, k3⟩
  replace k3 : Own w w3 [planC19 pb, planR19 qb, storeA (w2.heap.size + 1) w2.heap.size (List.replicate 61 0)] := k3
  clear k2
  generalize w2.heap.size = sb at *
  generalize hg : sb + 1 = g at *
  clear hg
  have y0 := (k3.cget 0 rfl 0).1
  have y1 := (k3.cget 0 rfl 1).1
  have y2 := (k3.cget 0 rfl 2).1
  have y3 := (k3.cget 0 rfl 3).1
  simp at y0 y1 y2 y3
  go_wp2_with fail
  go_at_call 12
  refine (SZ.out _).mono ?_
  rintro e w4 ⟨rfl, hb4⟩
  have k4 := k3.grow hb4
  clear k3 hb4 y0 y1 y2 y3
  have k5 := k4.row_made 3 1 (madeCells #[.int .i64 0] 61) 61 (by unfold maxLen; omega) (by simp [madeCells])
  have hm1 : (madeCells #[Value.int .i64 0] 61).toList = (List.replicate 61 (0 : Int)).map (.int .i64) := by rw [madeK_one]; simp
  have hm2 : (madeCells #[Value.pointer none] 3).toList = [.pointer none, .pointer none, .pointer none] := by rw [madeK_one]; rfl
  have hm3 : (madeCells #[.bool false, .int .i64 0, .int .i64 0, .int .i64 0, .int .i64 0, .int .i64 0, .int .i64 0, .int .i64 0, .bool false] 27).toList = rrL (fun _ => zeroF) := by kernel_rfl
  rw [hm1] at k5
  go_upto_region 9 with (refine wpList_make_any _ rfl _ _ 67 rfl 3 ti1 (.int .i64 0) 1 8 Try.underlying67 hi1 hw0 hw1' hw2' .i64 .i64 (61 : Int) (61 : Int) rfl rfl (by omega) (by omega) (by omega) (by decide) ?_)
  replace k5 : Own w (w4.alloc (.cells (madeCells #[.int .i64 0] 61) 3)) [planC19 pb, planR19 qb, storeA g sb (List.replicate 61 0), mRow (.slice (some ⟨w4.heap.size, 0, none⟩) 61 61) (List.replicate 61 0)] := k5.cast (by simp [mRow])
  generalize w4.alloc (.cells (madeCells #[.int .i64 0] 61) 3) = w5 at *
  generalize w4.heap.size = mb at *
  clear k4 hm1
  go_cut [7, 8] from 51 to 52 (fun rv pv wx => ∃ rb kb, rv = .slice (some ⟨rb, 0, none⟩) 3 3 ∧ pv = .slice (some ⟨kb, 0, none⟩) 3 3 ∧ Own w wx [planC19 pb, planR19 qb, storeA g sb (List.replicate 61 0), mRow (.slice (some ⟨mb, 0, none⟩) 61 61) (List.replicate 61 0), rrow rb (fun _ => .pointer none), prow kb (fun _ => .pointer none)])
  case first =>
    refine lin_start (S := (fun _ : World => True)) rfl 4 rfl trivial ?_
    simp only [numbered, Nat.zero_add, Nat.reduceAdd]
    refine lin_pair (by kernel_rfl) ?pone ?ptwo
    case' pone =>
      refine comes_law rfl ?_
      refine wpList_make_any _ rfl _ _ 68 rfl 56 ti2 (.pointer none) 1 8 Try.underlying68 hi2 hq0 hq1' hq2' .i64 .i64 (3 : Int) (3 : Int) rfl rfl (by omega) (by omega) (by omega) (by decide) ?_
      refine wpList_nil ⟨rfl, trivial, fun hHeld => ?_⟩
      try simp only [Act.put, List.setIfInBounds_toArray, List.set_cons_zero, List.set_cons_succ]
      refine lin_rot ?_; simp only [List.cons_append, List.nil_append]
      refine lin_take (v := ?_) (by kernel_rfl) (by kernel_rfl) (fun _ _ _ h => h) (Or.inl ⟨by rfl, ?_⟩) (by assumption) ?_; (rotate_left; (intro wS hSw; (try dsimp only at hSw); go_simp; (try with_reducible rfl)); rotate_left); simp only [Act.put, List.setIfInBounds_toArray, List.set_cons_zero, List.set_cons_succ]
      refine lin_rot ?_; simp only [List.cons_append, List.nil_append]
      refine lin_law (by kernel_rfl) rfl ?_
      refine wpList_make_any _ rfl _ _ 69 rfl 60 ti3 (.pointer none) 1 8 Try.underlying69 hi3 hp0 hp1' hp2' .i64 .i64 (3 : Int) (3 : Int) rfl rfl (by omega) (by omega) (by omega) (by decide) ?_
      refine wpList_nil ⟨rfl, trivial, fun hHeld => ?_⟩
      try simp only [Act.put, List.setIfInBounds_toArray, List.set_cons_zero, List.set_cons_succ]
      have k7 := (k5.row_made 56 1 (madeCells #[.pointer none] 3) 3 (by decide) (by simp [madeCells])).row_made 60 1 (madeCells #[.pointer none] 3) 3 (by decide) (by simp [madeCells])
      rw [hm2, alloc_szC] at k7
    case' ptwo =>
      refine comes_law rfl ?_
      refine wpList_make_any _ rfl _ _ 69 rfl 60 ti3 (.pointer none) 1 8 Try.underlying69 hi3 hp0 hp1' hp2' .i64 .i64 (3 : Int) (3 : Int) rfl rfl (by omega) (by omega) (by omega) (by decide) ?_
      refine wpList_nil ⟨rfl, trivial, fun hHeld => ?_⟩
      try simp only [Act.put, List.setIfInBounds_toArray, List.set_cons_zero, List.set_cons_succ]
      refine lin_law (by kernel_rfl) rfl ?_
      refine wpList_make_any _ rfl _ _ 68 rfl 56 ti2 (.pointer none) 1 8 Try.underlying68 hi2 hq0 hq1' hq2' .i64 .i64 (3 : Int) (3 : Int) rfl rfl (by omega) (by omega) (by omega) (by decide) ?_
      refine wpList_nil ⟨rfl, trivial, fun hHeld => ?_⟩
      try simp only [Act.put, List.setIfInBounds_toArray, List.set_cons_zero, List.set_cons_succ]
      have k7 := ((k5.row_made 60 1 (madeCells #[.pointer none] 3) 3 (by decide) (by simp [madeCells])).row_made 56 1 (madeCells #[.pointer none] 3) 3 (by decide) (by simp [madeCells])).sel [0, 1, 2, 3, 5, 4] (by decide)
      rw [hm2, alloc_szC] at k7
      refine lin_take (v := ?_) (by kernel_rfl) (by kernel_rfl) (fun _ _ _ h => h) (Or.inl ⟨by rfl, ?_⟩) (by assumption) ?_; (rotate_left; (intro wS hSw; (try dsimp only at hSw); go_simp; (try with_reducible rfl)); rotate_left); simp only [Act.put, List.setIfInBounds_toArray, List.set_cons_zero, List.set_cons_succ]
    all_goals
      refine lin_take (v := ?_) (by kernel_rfl) (by kernel_rfl) (fun _ _ _ h => h) (Or.inl ⟨by rfl, ?_⟩) (by assumption) ?_; (rotate_left; (intro wS hSw; (try dsimp only at hSw); go_simp; (try with_reducible rfl)); rotate_left); simp only [Act.put, List.setIfInBounds_toArray, List.set_cons_zero, List.set_cons_succ]
      refine lin_done (by kernel_rfl) ?_
      go_wp2_with fail
      go_meet
      exact ⟨_, _, rfl, rfl, k7.drewN 1⟩
  case rest =>
    obtain ⟨rb, kb, rfl, rfl, k6⟩ := hcut
    clear k5
    have k7 := (k6.row_made 75 9 (madeCells #[.bool false, .int .i64 0, .int .i64 0, .int .i64 0, .int .i64 0, .int .i64 0, .int .i64 0, .int .i64 0, .bool false] 27) 3 (by decide) (by simp [madeCells]))
    rw [hm3] at k7
    clear hm2 hm3
    have k8 := (k7.empty.empty.empty).sel [5, 3, 4, 7, 8, 6, 9, 0, 1, 2] (by decide)
    go_upto_region 11 with (refine wpList_make_any _ rfl _ _ 70 rfl 75 ti4 (.agg #[.bool false, .int .i64 0, .int .i64 0, .int .i64 0, .int .i64 0, .int .i64 0, .int .i64 0, .int .i64 0, .bool false]) 9 72 Try.underlying70 hi4 hr0 hr1' hr2' .i64 .i64 (3 : Int) (3 : Int) rfl rfl (by omega) (by omega) (by omega) (by decide) ?_)
    have hS : CState w (wc.alloc (.cells (madeCells #[.bool false, .int .i64 0, .int .i64 0, .int .i64 0, .int .i64 0, .int .i64 0, .int .i64 0, .int .i64 0, .bool false] 27) 75)) g sb pb qb rb kb wc.heap.size (.slice (some ⟨mb, 0, none⟩) 61 61) (List.replicate 61 0) := ⟨fun _ => .pointer none, fun _ => .pointer none, fun _ => emptyA, fun _ => zeroF, fun i _ => .inl ⟨rfl, rfl, rfl⟩, k8⟩
    clear k6 k7 k8
    replace hS := Lib.hid hS
    generalize wc.alloc (.cells (madeCells #[.bool false, .int .i64 0, .int .i64 0, .int .i64 0, .int .i64 0, .int .i64 0, .int .i64 0, .int .i64 0, .bool false] 27) 75) = w6 at *
    generalize wc.heap.size = fb at *
    go_wp2_with fail
    go_loopw [6, 10] (fun mv iv wr => ∃ (i : Nat) (mo : Option Addr) (mc : Nat), i ≤ ls.length ∧ mv = .slice mo 61 mc ∧ iv = .int .i64 i ∧ Hid (∃ m, m.length = 61 ∧ CState w wr g sb pb qb rb kb fb (.slice mo 61 mc) m)) (fun _ iv _ => (ls.length - intOf iv).toNat)
    case atStart => exact ⟨0, some ⟨mb, 0, none⟩, 61, by omega, rfl, rfl, Lib.hid ⟨_, by simp, hS.out⟩⟩
    case round =>
      clear hS
      obtain ⟨i, mo, mc, hi, rfl, rfl, hH⟩ := hrel
      by_cases hlt : i < ls.length
      · obtain ⟨m, hml, hS⟩ := hH.out
        obtain ⟨rfl, hwf, hcl⟩ := ho.out i hlt
        have x0 := hcl 0 (by omega)
        have x1 := hcl 1 (by omega)
        have x2 := hcl 2 (by omega)
        have x3 := hcl 3 (by omega)
        have x4 := hcl 4 (by omega)
        have q1 := hwf 1 (by omega)
        have q3 := hwf 3 (by omega)
        obtain ⟨kd, hkd⟩ : ∃ z, (ls.getD i []).getD 0 0 = z := ⟨_, rfl⟩
        obtain ⟨who, hwho⟩ : ∃ z, (ls.getD i []).getD 1 0 = z := ⟨_, rfl⟩
        obtain ⟨se, hse⟩ : ∃ z, (ls.getD i []).getD 2 0 = z := ⟨_, rfl⟩
        obtain ⟨it, hit⟩ : ∃ z, (ls.getD i []).getD 3 0 = z := ⟨_, rfl⟩
        obtain ⟨n, hn⟩ : ∃ z, (ls.getD i []).getD 4 0 = z := ⟨_, rfl⟩
        rw [hkd] at x0
        rw [hwho] at x1 q1
        rw [hse] at x2
        rw [hit] at x3 q3
        rw [hn] at x4
        simp only [Nat.add_zero] at x0
        clear hkd hwho hse hit hn hwf hcl
        simp [Lit.wf, IntKind.min, IntKind.max, IntKind.signed, IntKind.bits] at q1 q3
        obtain ⟨U, hU⟩ : ∃ U : Nat, IntKind.u64.wrap who = (U : Int) ∧ U ≤ 18446744073709551615 := by
          by_cases c : 0 ≤ who
          · exact ⟨who.toNat, by rw [IntWalk.u64_in _ (by omega)]; omega, by omega⟩
          · refine ⟨(who + 18446744073709551616).toNat, ?_, by omega⟩
            have e : IntKind.u64.wrap who = who + 18446744073709551616 := by
              simp [IntKind.wrap, IntKind.signed, IntKind.bits, IntKind.max]
              omega
            rw [e]; omega
        obtain ⟨hU, hUb⟩ := hU
        obtain ⟨K, hK⟩ : ∃ K : Nat, U % 3 = K := ⟨_, rfl⟩
        have hK3 : K < 3 := by omega
        have hK3i : (K : Int) < 3 := by omega
        have eK : (U : Int).tmod 3 = (K : Int) := by rw [Int.tmod_eq_emod_of_nonneg (by omega)]; omega
        have eK2 : (U : Int) % 3 = (K : Int) := by omega
        have iK : IntKind.i64.wrap (K : Int) = (K : Int) := IntWalk.i64_in _ (by omega)
        have iK2 : IntKind.u64.wrap (K : Int) = (K : Int) := IntWalk.u64_in _ (by omega)
        clear hK
        obtain ⟨Rv, Pv, As, F, rest, hwd, hr, hO⟩ := hS.pick hK3
        replace x0 := hO.old x0
        replace x1 := hO.old x1
        replace x2 := hO.old x2
        replace x3 := hO.old x3
        replace x4 := hO.old x4
        clear hS hH
        have hili : (i : Int) < (ls.length : Int) := by omega
        have h3 := CB.box hO #[.int .i64 kd, .int .i64 who, .int .i64 se, .int .i64 it, .int .i64 n] 72
        replace h3 : Own w (wr.alloc (.cells #[.int .i64 kd, .int .i64 who, .int .i64 se, .int .i64 it, .int .i64 n] 72)) (storeA g sb m :: As K :: CB pb qb rb kb fb Rv Pv F (.slice mo 61 mc) m (rest ++ [cellsA wr.heap.size #[.int .i64 kd, .int .i64 who, .int .i64 se, .int .i64 it, .int .i64 n] 72])) := h3
        clear hO
        replace hwd := Lib.hid hwd
        replace hr := Lib.hid hr
        replace hml := Lib.hid hml
        go_upto_region 15 with fail
        clear x0 x1 x2 x3 x4
        generalize wr.alloc (.cells #[.int .i64 kd, .int .i64 who, .int .i64 se, .int .i64 it, .int .i64 n] 72) = wo at *
        generalize wr.heap.size = ob at *
        have x0 := CB.get h3 (nb := ob) (cs := #[.int .i64 kd, .int .i64 who, .int .i64 se, .int .i64 it, .int .i64 n]) (t := 72) (by simp) 0
        have x1 := CB.get h3 (nb := ob) (cs := #[.int .i64 kd, .int .i64 who, .int .i64 se, .int .i64 it, .int .i64 n]) (t := 72) (by simp) 1
        have x2 := CB.get h3 (nb := ob) (cs := #[.int .i64 kd, .int .i64 who, .int .i64 se, .int .i64 it, .int .i64 n]) (t := 72) (by simp) 2
        have x3 := CB.get h3 (nb := ob) (cs := #[.int .i64 kd, .int .i64 who, .int .i64 se, .int .i64 it, .int .i64 n]) (t := 72) (by simp) 3
        simp at x0 x1 x2 x3
        by_cases hrg : -1099511627776 ≤ it ∧ it ≤ 1099511627776
        rotate_left
        · have hB := Lib.hid h3.below
          clear h3
          by_cases c : 1099511627776 < it
          · have d1 : decide (1099511627776 < it) = true := decide_eq_true c
            go_wp2_with fail
            go_ret
            exact ⟨rfl, hB.out⟩
          · have d1 : decide (1099511627776 < it) = false := decide_eq_false c
            have d2 : decide (it < -1099511627776) = true := decide_eq_true (by omega)
            go_wp2_with fail
            go_ret
            exact ⟨rfl, hB.out⟩
        · have d1 : decide (1099511627776 < it) = false := decide_eq_false (by omega)
          have d2 : decide (it < -1099511627776) = false := decide_eq_false (by omega)
          go_upto_region 18 with fail
          clear d1 d2
          obtain ⟨⟨p0, p1, p2, p3⟩, -⟩ := CB.plan h3
          go_upto_block 2 with (go_at_call 13; refine (rnew_any 1 3 3 3 2 se _).mono ?_; rintro e w7 ⟨rfl, hb7⟩)
          have h4 := CB.box (h3.grow hb7) #[.int .i64 1, .int .i64 3, .int .i64 3, .int .i64 3, .int .i64 2, .int .i64 se] 32
          clear h3 hb7 x0 x1 x2 x3 p0 p1 p2 p3
          generalize w7.alloc (.cells #[.int .i64 1, .int .i64 3, .int .i64 3, .int .i64 3, .int .i64 2, .int .i64 se] 32) = u at *
          generalize w7.heap.size = xb at *
          obtain ⟨ex, hex⟩ : ∃ ex, rest ++ [cellsA ob #[.int .i64 kd, .int .i64 who, .int .i64 se, .int .i64 it, .int .i64 n] 72, cellsA xb #[.int .i64 1, .int .i64 3, .int .i64 3, .int .i64 3, .int .i64 2, .int .i64 se] 32] = ex := ⟨_, rfl⟩
          replace h4 : Own w u (storeA g sb m :: (As K) :: CB pb qb rb kb fb Rv Pv F (.slice mo 61 mc) m ex) := h4.cast (by simp [CB, ← hex])
          have hOB : (cellsA ob #[.int .i64 kd, .int .i64 who, .int .i64 se, .int .i64 it, .int .i64 n] 72) ∈ ex := by rw [← hex]; simp
          have hXB : (cellsA xb #[.int .i64 1, .int .i64 3, .int .i64 3, .int .i64 3, .int .i64 2, .int .i64 se] 32) ∈ ex := by rw [← hex]; simp
          have OC := Lib.hid (fun (w1 : World) (m1 m2 : List Int) (A : Ast) (Rv1 Pv1 : Nat → Value) (F1 : Nat → Nat → Value) (mv : Value) (l : List Ast) (h : Own w w1 (storeA g sb m1 :: A :: CB pb qb rb kb fb Rv1 Pv1 F1 mv m2 (ex ++ l))) => show (w1.cell? ⟨ob, 0, none⟩ = some (.int .i64 kd) ∧ w1.cell? ⟨ob, 2, none⟩ = some (.int .i64 se) ∧ w1.cell? ⟨ob, 3, none⟩ = some (.int .i64 it) ∧ w1.cell? ⟨ob, 4, none⟩ = some (.int .i64 n)) ∧ (w1.cell? ⟨xb, 0, none⟩ = some (.int .i64 1) ∧ w1.cell? ⟨xb, 1, none⟩ = some (.int .i64 3) ∧ w1.cell? ⟨xb, 2, none⟩ = some (.int .i64 3) ∧ w1.cell? ⟨xb, 3, none⟩ = some (.int .i64 3) ∧ w1.cell? ⟨xb, 4, none⟩ = some (.int .i64 2) ∧ w1.cell? ⟨xb, 5, none⟩ = some (.int .i64 se)) from
            ⟨⟨CB.get h (List.mem_append_left _ hOB) 0, CB.get h (List.mem_append_left _ hOB) 2, CB.get h (List.mem_append_left _ hOB) 3, CB.get h (List.mem_append_left _ hOB) 4⟩, CB.get h (List.mem_append_left _ hXB) 0, CB.get h (List.mem_append_left _ hXB) 1, CB.get h (List.mem_append_left _ hXB) 2, CB.get h (List.mem_append_left _ hXB) 3, CB.get h (List.mem_append_left _ hXB) 4, CB.get h (List.mem_append_left _ hXB) 5⟩)
          have FIN := Lib.hid (show ∀ (w1 : World) (m1 : List Int) (mv : Value) (Rv' Pv' : Nat → Value) (F' : Nat → Nat → Value) (A : Ast), (∀ i, i ≠ K → Rv' i = Rv i) → (∀ i, i ≠ K → Pv' i = Pv i) → (∀ i, i ≠ K → F' i = F i) → CWD (Rv' K) (Pv' K) A (F' K) → Own w w1 (storeA g sb m1 :: A :: CB pb qb rb kb fb Rv' Pv' F' mv m1 ex) → CState w w1 g sb pb qb rb kb fb mv m1 from fun w1 m1 mv Rv' Pv' F' A e1 e2 e3 hk h => CState.put hwd.out hr.out e1 e2 e3 hk (extra := [cellsA ob #[.int .i64 kd, .int .i64 who, .int .i64 se, .int .i64 it, .int .i64 n] 72, cellsA xb #[.int .i64 1, .int .i64 3, .int .i64 3, .int .i64 3, .int .i64 2, .int .i64 se] 32]) (by rw [hex]; exact h))
          have OUT := Lib.hid (show ∀ (mv : Value) (w' : World), SwOut w w' g sb pb qb rb kb fb K Rv Pv F ex mv → ∃ mo' mc', mv = .slice mo' 61 mc' ∧ Hid (∃ m', m'.length = 61 ∧ CState w w' g sb pb qb rb kb fb mv m') from fun mv w' ⟨mo', mc', m', Rv', Pv', F', A, e, hl, e1, e2, e3, hk, h⟩ => by
            subst e
            exact ⟨mo', mc', rfl, Lib.hid ⟨m', hl, FIN.out w' m' _ Rv' Pv' F' A e1 e2 e3 hk h⟩⟩)
          clear hex hr FIN OC
          have hcw := hwd.out K hK3
          clear hwd
          replace h4 := Lib.hid h4
          go_cut [6] from 81 to 265 (fun mv2 wx => ∃ mo' mc', mv2 = .slice mo' 61 mc' ∧ Hid (∃ m', m'.length = 61 ∧ CState w wx g sb pb qb rb kb fb mv2 m'))
          case first =>
            by_cases k3 : kd = 3
            · subst k3
              refine sw3 _ _ _ _ _ _ _ _ _ _ _ _ _ _ _ _ _ _ _ _ _ _ _ _ _ _ _ _ _ _ _ _ _ _ _ _ _ _ _ _ _ _ _ _ _ _ _ _ _ _ _ _ _ _ _ _ _ _ _ _ _ _ _ _ _ _ _ _ _ _ _ _ _ _ _ _ _ _ _ _ _ _ _ _ _ _ _ _ _ _ _ _ _ _ _ _ _ _ _ _ _ _ _ _ _ _ _ _ _ _ _ _ _ _ _ _ _ _ _ _ _ _ _ _ _ _ _ _ _ _ _ _ _ _ _ _ _ _ _ _ _ _ _ _ _ _ _ _ _ _ _ _ _ _ _ _ _ _ _ _ _ _ _ _ _ _ _ _ _ _ _ _ _ _ _ _ _ _ _ _ _ _ _ _ _ _ _ _ _ _ _ _ _ _ _ _ _ _ _ _ _ _ _ _ _ _ _ _ _ _ _ _ _ _ _ _ _ _ _ _ _ _ _ _ _ _ _ _ _ _ _ _ _ _ _ _ _ _ _ _ _ _ _ _ _ _ _ _ _ _ _ _ _ _ _ _ _ _ _ _ _ _ _ _ _ _ _ _ _ _ _ _ _ _ _ _ _ _ _ _ _ _ _ (by intro ch aa ab ww hd hh; obtain ⟨ta, da⟩ := aa; obtain ⟨tb, db⟩ := ab; cases hd; exact hh) hOB hXB hml.out hK3 hrg h4.out  ?_
              intro _ _ _ _ _ _ _ _ _ _ _ _ _ _ _ _ _ _ _ _ _ _ _ _ _ _ _ _ _ _ _ _ _ _ _ _ _ _ _ _ _ _ _ _ _ _ _ _ _ _ _ _ _ _ _ _ _ _ _ _ _ _ _ _ _ _ _ _ _ _ _ _ _ _ _ _ _ _ _ _ _ _ _ _ _ _ _ _ _ _ _ _ _ _ _ _ _ _ _ _ _ _ _ _ _ _ _ _ _ _ _ _ _ _ _ _ _ _ _ _ _ _ _ _ _ _ _ _ _ _ _ _ _ _ _ _ _ _ _ _ _ _ _ _ _ _ _ _ _ _ _ _ _ _ _ _ _ _ _ _ _ _ _ _ _ _ _ _ _ _ _ _ _ _ _ _ _ _ _ _ _ _ _ _ _ _ _ _ _ _ _ _ _ _ _ _ _ mv w9 hsw
              go_wp2_with fail
              go_meet
              exact OUT.out _ _ hsw
            by_cases k4 : kd = 4
            · subst k4
              refine sw4 _ _ _ _ _ _ _ _ _ _ _ _ _ _ _ _ _ _ _ _ _ _ _ _ _ _ _ _ _ _ _ _ _ _ _ _ _ _ _ _ _ _ _ _ _ _ _ _ _ _ _ _ _ _ _ _ _ _ _ _ _ _ _ _ _ _ _ _ _ _ _ _ _ _ _ _ _ _ _ _ _ _ _ _ _ _ _ _ _ _ _ _ _ _ _ _ _ _ _ _ _ _ _ _ _ _ _ _ _ _ _ _ _ _ _ _ _ _ _ _ _ _ _ _ _ _ _ _ _ _ _ _ _ _ _ _ _ _ _ _ _ _ _ _ _ _ _ _ _ _ _ _ _ _ _ _ _ _ _ _ _ _ _ _ _ _ _ _ _ _ _ _ _ _ _ _ _ _ _ _ _ _ _ _ _ _ _ _ _ _ _ _ _ _ _ _ _ _ _ _ _ _ _ _ _ _ _ _ _ _ _ _ _ _ _ _ _ _ _ _ _ _ _ _ _ _ _ _ _ _ _ _ _ _ _ _ _ _ _ _ _ _ _ _ _ _ _ _ _ _ _ _ _ _ _ _ _ _ _ _ _ _ _ _ _ _ _ _ _ _ _ _ _ _ _ _ _ _ _ _ _ _ _ (by intro ch aa ab ww hd hh; obtain ⟨ta, da⟩ := aa; obtain ⟨tb, db⟩ := ab; cases hd; exact hh) hOB hXB hml.out hK3 hrg h4.out  ?_
              intro _ _ _ _ _ _ _ _ _ _ _ _ _ _ _ _ _ _ _ _ _ _ _ _ _ _ _ _ _ _ _ _ _ _ _ _ _ _ _ _ _ _ _ _ _ _ _ _ _ _ _ _ _ _ _ _ _ _ _ _ _ _ _ _ _ _ _ _ _ _ _ _ _ _ _ _ _ _ _ _ _ _ _ _ _ _ _ _ _ _ _ _ _ _ _ _ _ _ _ _ _ _ _ _ _ _ _ _ _ _ _ _ _ _ _ _ _ _ _ _ _ _ _ _ _ _ _ _ _ _ _ _ _ _ _ _ _ _ _ _ _ _ _ _ _ _ _ _ _ _ _ _ _ _ _ _ _ _ _ _ _ _ _ _ _ _ _ _ _ _ _ _ _ _ _ _ _ _ _ _ _ _ _ _ _ _ _ _ _ _ _ _ _ _ _ _ _ mv w9 hsw
              go_wp2_with fail
              go_meet
              exact OUT.out _ _ hsw
            by_cases k5 : kd = 5
            · subst k5
              refine sw5 _ _ _ _ _ _ _ _ _ _ _ _ _ _ _ _ _ _ _ _ _ _ _ _ _ _ _ _ _ _ _ _ _ _ _ _ _ _ _ _ _ _ _ _ _ _ _ _ _ _ _ _ _ _ _ _ _ _ _ _ _ _ _ _ _ _ _ _ _ _ _ _ _ _ _ _ _ _ _ _ _ _ _ _ _ _ _ _ _ _ _ _ _ _ _ _ _ _ _ _ _ _ _ _ _ _ _ _ _ _ _ _ _ _ _ _ _ _ _ _ _ _ _ _ _ _ _ _ _ _ _ _ _ _ _ _ _ _ _ _ _ _ _ _ _ _ _ _ _ _ _ _ _ _ _ _ _ _ _ _ _ _ _ _ _ _ _ _ _ _ _ _ _ _ _ _ _ _ _ _ _ _ _ _ _ _ _ _ _ _ _ _ _ _ _ _ _ _ _ _ _ _ _ _ _ _ _ _ _ _ _ _ _ _ _ _ _ _ _ _ _ _ _ _ _ _ _ _ _ _ _ _ _ _ _ _ _ _ _ _ _ _ _ _ _ _ _ _ _ _ _ _ _ _ _ _ _ _ _ _ _ _ _ _ _ _ _ _ _ _ _ _ _ _ _ _ _ _ _ _ _ _ _ (by intro ch aa ab ww hd hh; obtain ⟨ta, da⟩ := aa; obtain ⟨tb, db⟩ := ab; cases hd; exact hh) hOB hXB hml.out hK3 hrg h4.out hcw ?_
              intro _ _ _ _ _ _ _ _ _ _ _ _ _ _ _ _ _ _ _ _ _ _ _ _ _ _ _ _ _ _ _ _ _ _ _ _ _ _ _ _ _ _ _ _ _ _ _ _ _ _ _ _ _ _ _ _ _ _ _ _ _ _ _ _ _ _ _ _ _ _ _ _ _ _ _ _ _ _ _ _ _ _ _ _ _ _ _ _ _ _ _ _ _ _ _ _ _ _ _ _ _ _ _ _ _ _ _ _ _ _ _ _ _ _ _ _ _ _ _ _ _ _ _ _ _ _ _ _ _ _ _ _ _ _ _ _ _ _ _ _ _ _ _ _ _ _ _ _ _ _ _ _ _ _ _ _ _ _ _ _ _ _ _ _ _ _ _ _ _ _ _ _ _ _ _ _ _ _ _ _ _ _ _ _ _ _ _ _ _ _ _ _ _ _ _ _ _ mv w9 hsw
              go_wp2_with fail
              go_meet
              exact OUT.out _ _ hsw
            by_cases k6 : kd = 6
            · subst k6
              refine sw6 _ _ _ _ _ _ _ _ _ _ _ _ _ _ _ _ _ _ _ _ _ _ _ _ _ _ _ _ _ _ _ _ _ _ _ _ _ _ _ _ _ _ _ _ _ _ _ _ _ _ _ _ _ _ _ _ _ _ _ _ _ _ _ _ _ _ _ _ _ _ _ _ _ _ _ _ _ _ _ _ _ _ _ _ _ _ _ _ _ _ _ _ _ _ _ _ _ _ _ _ _ _ _ _ _ _ _ _ _ _ _ _ _ _ _ _ _ _ _ _ _ _ _ _ _ _ _ _ _ _ _ _ _ _ _ _ _ _ _ _ _ _ _ _ _ _ _ _ _ _ _ _ _ _ _ _ _ _ _ _ _ _ _ _ _ _ _ _ _ _ _ _ _ _ _ _ _ _ _ _ _ _ _ _ _ _ _ _ _ _ _ _ _ _ _ _ _ _ _ _ _ _ _ _ _ _ _ _ _ _ _ _ _ _ _ _ _ _ _ _ _ _ _ _ _ _ _ _ _ _ _ _ _ _ _ _ _ _ _ _ _ _ _ _ _ _ _ _ _ _ _ _ _ _ _ _ _ _ _ _ _ _ _ _ _ _ _ _ _ _ _ _ _ _ _ _ _ _ _ _ _ _ _ (by intro ch aa ab ww hd hh; obtain ⟨ta, da⟩ := aa; obtain ⟨tb, db⟩ := ab; cases hd; exact hh) hOB hXB hml.out hK3 hrg h4.out hcw ?_
              intro _ _ _ _ _ _ _ _ _ _ _ _ _ _ _ _ _ _ _ _ _ _ _ _ _ _ _ _ _ _ _ _ _ _ _ _ _ _ _ _ _ _ _ _ _ _ _ _ _ _ _ _ _ _ _ _ _ _ _ _ _ _ _ _ _ _ _ _ _ _ _ _ _ _ _ _ _ _ _ _ _ _ _ _ _ _ _ _ _ _ _ _ _ _ _ _ _ _ _ _ _ _ _ _ _ _ _ _ _ _ _ _ _ _ _ _ _ _ _ _ _ _ _ _ _ _ _ _ _ _ _ _ _ _ _ _ _ _ _ _ _ _ _ _ _ _ _ _ _ _ _ _ _ _ _ _ _ _ _ _ _ _ _ _ _ _ _ _ _ _ _ _ _ _ _ _ _ _ _ _ _ _ _ _ _ _ _ _ _ _ _ _ _ _ _ _ _ mv w9 hsw
              go_wp2_with fail
              go_meet
              exact OUT.out _ _ hsw
            by_cases k7 : kd = 7
            · subst k7
              refine sw7 _ _ _ _ _ _ _ _ _ _ _ _ _ _ _ _ _ _ _ _ _ _ _ _ _ _ _ _ _ _ _ _ _ _ _ _ _ _ _ _ _ _ _ _ _ _ _ _ _ _ _ _ _ _ _ _ _ _ _ _ _ _ _ _ _ _ _ _ _ _ _ _ _ _ _ _ _ _ _ _ _ _ _ _ _ _ _ _ _ _ _ _ _ _ _ _ _ _ _ _ _ _ _ _ _ _ _ _ _ _ _ _ _ _ _ _ _ _ _ _ _ _ _ _ _ _ _ _ _ _ _ _ _ _ _ _ _ _ _ _ _ _ _ _ _ _ _ _ _ _ _ _ _ _ _ _ _ _ _ _ _ _ _ _ _ _ _ _ _ _ _ _ _ _ _ _ _ _ _ _ _ _ _ _ _ _ _ _ _ _ _ _ _ _ _ _ _ _ _ _ _ _ _ _ _ _ _ _ _ _ _ _ _ _ _ _ _ _ _ _ _ _ _ _ _ _ _ _ _ _ _ _ _ _ _ _ _ _ _ _ _ _ _ _ _ _ _ _ _ _ _ _ _ _ _ _ _ _ _ _ _ _ _ _ _ _ _ _ _ _ _ _ _ _ _ _ _ _ _ _ _ _ _ (by intro ch aa ab ww hd hh; obtain ⟨ta, da⟩ := aa; obtain ⟨tb, db⟩ := ab; cases hd; exact hh) hOB hXB hml.out hK3 hrg h4.out hcw ?_
              intro _ _ _ _ _ _ _ _ _ _ _ _ _ _ _ _ _ _ _ _ _ _ _ _ _ _ _ _ _ _ _ _ _ _ _ _ _ _ _ _ _ _ _ _ _ _ _ _ _ _ _ _ _ _ _ _ _ _ _ _ _ _ _ _ _ _ _ _ _ _ _ _ _ _ _ _ _ _ _ _ _ _ _ _ _ _ _ _ _ _ _ _ _ _ _ _ _ _ _ _ _ _ _ _ _ _ _ _ _ _ _ _ _ _ _ _ _ _ _ _ _ _ _ _ _ _ _ _ _ _ _ _ _ _ _ _ _ _ _ _ _ _ _ _ _ _ _ _ _ _ _ _ _ _ _ _ _ _ _ _ _ _ _ _ _ _ _ _ _ _ _ _ _ _ _ _ _ _ _ _ _ _ _ _ _ _ _ _ _ _ _ _ _ _ _ _ _ mv w9 hsw
              go_wp2_with fail
              go_meet
              exact OUT.out _ _ hsw
            have b3 : (kd == 3) = false := by simpa using k3
            have b4 : (kd == 4) = false := by simpa using k4
            have b57 : decide (5 ≤ kd) = false ∨ (decide (5 ≤ kd) = true ∧ decide (kd ≤ 7) = false) := by
              by_cases c : 5 ≤ kd
              · exact .inr ⟨decide_eq_true c, decide_eq_false (by omega)⟩
              · exact .inl (decide_eq_false c)
            clear k3 k4 k5 k6 k7
            rcases hcw with ⟨hv1, hv2, hA⟩ | ⟨s, nb, hok, hA, hF, ⟨hp, hv1, hv2⟩ | ⟨hp, hv1, hv2⟩⟩
            · refine swN _ _ _ _ _ _ _ _ _ _ _ _ _ _ _ _ _ _ _ _ _ _ _ _ _ _ _ _ _ _ _ _ _ _ _ _ _ _ _ _ _ _ _ _ _ _ _ _ _ _ _ _ _ _ _ _ _ _ _ _ _ _ _ _ _ _ _ _ _ _ _ _ _ _ _ _ _ _ _ _ _ _ _ _ _ _ _ _ _ _ _ _ _ _ _ _ _ _ _ _ _ _ _ _ _ _ _ _ _ _ _ _ _ _ _ _ _ _ _ _ _ _ _ _ _ _ _ _ _ _ _ _ _ _ _ _ _ _ _ _ _ _ _ _ _ _ _ _ _ _ _ _ _ _ _ _ _ _ _ _ _ _ _ _ _ _ _ _ _ _ _ _ _ _ _ _ _ _ _ _ _ _ _ _ _ _ _ _ _ _ _ _ _ _ _ _ _ _ _ _ _ _ _ _ _ _ _ _ _ _ _ _ _ _ _ _ _ _ _ _ _ _ _ _ _ _ _ _ _ _ _ _ _ _ _ _ _ _ _ _ _ _ _ _ _ _ _ _ _ _ _ _ _ _ _ _ _ _ _ _ _ _ _ _ _ _ _ _ _ _ _ _ _ _ _ _ _ _ _ _ _ _ _ (by intro ch aa ab ww hd hh; obtain ⟨ta, da⟩ := aa; obtain ⟨tb, db⟩ := ab; cases hd; exact hh) hOB hXB hml.out hK3 hrg h4.out b3 b4 b57 hv1 hv2 hA ?_
              intro _ _ _ _ _ _ _ _ _ _ _ _ _ _ _ _ _ _ _ _ _ _ _ _ _ _ _ _ _ _ _ _ _ _ _ _ _ _ _ _ _ _ _ _ _ _ _ _ _ _ _ _ _ _ _ _ _ _ _ _ _ _ _ _ _ _ _ _ _ _ _ _ _ _ _ _ _ _ _ _ _ _ _ _ _ _ _ _ _ _ _ _ _ _ _ _ _ _ _ _ _ _ _ _ _ _ _ _ _ _ _ _ _ _ _ _ _ _ _ _ _ _ _ _ _ _ _ _ _ _ _ _ _ _ _ _ _ _ _ _ _ _ _ _ _ _ _ _ _ _ _ _ _ _ _ _ _ _ _ _ _ _ _ _ _ _ _ _ _ _ _ _ _ _ _ _ _ _ _ _ _ _ _ _ _ _ _ _ _ _ _ _ _ _ _ _ _ mv w9 hsw
              go_wp2_with fail
              go_meet
              exact OUT.out _ _ hsw
            · refine swR _ _ _ _ _ _ _ _ _ _ _ _ _ _ _ _ _ _ _ _ _ _ _ _ _ _ _ _ _ _ _ _ _ _ _ _ _ _ _ _ _ _ _ _ _ _ _ _ _ _ _ _ _ _ _ _ _ _ _ _ _ _ _ _ _ _ _ _ _ _ _ _ _ _ _ _ _ _ _ _ _ _ _ _ _ _ _ _ _ _ _ _ _ _ _ _ _ _ _ _ _ _ _ _ _ _ _ _ _ _ _ _ _ _ _ _ _ _ _ _ _ _ _ _ _ _ _ _ _ _ _ _ _ _ _ _ _ _ _ _ _ _ _ _ _ _ _ _ _ _ _ _ _ _ _ _ _ _ _ _ _ _ _ _ _ _ _ _ _ _ _ _ _ _ _ _ _ _ _ _ _ _ _ _ _ _ _ _ _ _ _ _ _ _ _ _ _ _ _ _ _ _ _ _ _ _ _ _ _ _ _ _ _ _ _ _ _ _ _ _ _ _ _ _ _ _ _ _ _ _ _ _ _ _ _ _ _ _ _ _ _ _ _ _ _ _ _ _ _ _ _ _ _ _ _ _ _ _ _ _ _ _ _ _ _ _ _ _ _ _ _ _ _ _ _ _ _ _ _ _ _ _ _ (by intro ch aa ab ww hd hh; obtain ⟨ta, da⟩ := aa; obtain ⟨tb, db⟩ := ab; cases hd; exact hh) hOB hXB hml.out hK3 hrg h4.out b3 b4 b57 hok hA hF hp hv1 hv2 ?_
              intro _ _ _ _ _ _ _ _ _ _ _ _ _ _ _ _ _ _ _ _ _ _ _ _ _ _ _ _ _ _ _ _ _ _ _ _ _ _ _ _ _ _ _ _ _ _ _ _ _ _ _ _ _ _ _ _ _ _ _ _ _ _ _ _ _ _ _ _ _ _ _ _ _ _ _ _ _ _ _ _ _ _ _ _ _ _ _ _ _ _ _ _ _ _ _ _ _ _ _ _ _ _ _ _ _ _ _ _ _ _ _ _ _ _ _ _ _ _ _ _ _ _ _ _ _ _ _ _ _ _ _ _ _ _ _ _ _ _ _ _ _ _ _ _ _ _ _ _ _ _ _ _ _ _ _ _ _ _ _ _ _ _ _ _ _ _ _ _ _ _ _ _ _ _ _ _ _ _ _ _ _ _ _ _ _ _ _ _ _ _ _ _ _ _ _ _ _ mv w9 hsw
              go_wp2_with fail
              go_meet
              exact OUT.out _ _ hsw
            · refine swP _ _ _ _ _ _ _ _ _ _ _ _ _ _ _ _ _ _ _ _ _ _ _ _ _ _ _ _ _ _ _ _ _ _ _ _ _ _ _ _ _ _ _ _ _ _ _ _ _ _ _ _ _ _ _ _ _ _ _ _ _ _ _ _ _ _ _ _ _ _ _ _ _ _ _ _ _ _ _ _ _ _ _ _ _ _ _ _ _ _ _ _ _ _ _ _ _ _ _ _ _ _ _ _ _ _ _ _ _ _ _ _ _ _ _ _ _ _ _ _ _ _ _ _ _ _ _ _ _ _ _ _ _ _ _ _ _ _ _ _ _ _ _ _ _ _ _ _ _ _ _ _ _ _ _ _ _ _ _ _ _ _ _ _ _ _ _ _ _ _ _ _ _ _ _ _ _ _ _ _ _ _ _ _ _ _ _ _ _ _ _ _ _ _ _ _ _ _ _ _ _ _ _ _ _ _ _ _ _ _ _ _ _ _ _ _ _ _ _ _ _ _ _ _ _ _ _ _ _ _ _ _ _ _ _ _ _ _ _ _ _ _ _ _ _ _ _ _ _ _ _ _ _ _ _ _ _ _ _ _ _ _ _ _ _ _ _ _ _ _ _ _ _ _ _ _ _ _ _ _ _ _ _ (by intro ch aa ab ww hd hh; obtain ⟨ta, da⟩ := aa; obtain ⟨tb, db⟩ := ab; cases hd; exact hh) hOB hXB hml.out hK3 hrg h4.out b3 b4 b57 hok hA hF hp hv1 hv2 ?_
              intro _ _ _ _ _ _ _ _ _ _ _ _ _ _ _ _ _ _ _ _ _ _ _ _ _ _ _ _ _ _ _ _ _ _ _ _ _ _ _ _ _ _ _ _ _ _ _ _ _ _ _ _ _ _ _ _ _ _ _ _ _ _ _ _ _ _ _ _ _ _ _ _ _ _ _ _ _ _ _ _ _ _ _ _ _ _ _ _ _ _ _ _ _ _ _ _ _ _ _ _ _ _ _ _ _ _ _ _ _ _ _ _ _ _ _ _ _ _ _ _ _ _ _ _ _ _ _ _ _ _ _ _ _ _ _ _ _ _ _ _ _ _ _ _ _ _ _ _ _ _ _ _ _ _ _ _ _ _ _ _ _ _ _ _ _ _ _ _ _ _ _ _ _ _ _ _ _ _ _ _ _ _ _ _ _ _ _ _ _ _ _ _ _ _ _ _ _ mv w9 hsw
              go_wp2_with fail
              go_meet
              exact OUT.out _ _ hsw
          case rest =>
            obtain ⟨mo', mc', rfl, hH⟩ := hcut
            clear h4 OUT hcw hOB hXB hml m
            obtain ⟨m, hml, Rv, Pv, As, F, hwd, hO⟩ := hH.out
            have AL := Lib.hid (own_all hO 0 rfl)
            have IN := Lib.hid (fun (w' : World) (a8 : Option Addr) (c8 : Nat) (h : Own w w' (storeA g sb m :: CB pb qb rb kb fb Rv Pv F (.slice mo' 61 mc') m [As 0, As 1, As 2])) (l8 : Lies w' a8 c8 m) => show Calls Try.prog 48 #[.slice a8 m.length c8, .slice mo' 61 mc'] w' fun e w'' => e = .returned (.bool true) ∧ ∃ m, w'' = w'.drewN m from by
              have h6 := h.row 5 rfl
              have l6 : Lies w' mo' mc' m := Lies.of_row (n := 61) (by rw [hml] at h6; exact h6) hml.symm
              have q := ints_any a8 mo' c8 mc' m m w' l8 l6
              rw [show (m == m) = true by simp, hml] at q
              rw [hml]
              exact q)
            have FX := Lib.hid (fun (w' : World) (h : Own w w' (storeA g sb m :: CB pb qb rb kb fb Rv Pv F (.slice mo' 61 mc') m [As 0, As 1, As 2])) => show ∃ m, m.length = 61 ∧ CState w w' g sb pb qb rb kb fb (.slice mo' 61 mc') m from ⟨m, hml, Rv, Pv, As, F, hwd, h⟩)
            replace hml := Lib.hid hml
            clear hO hwd hH
            go_wp2_with (first | (go_at_call 49; refine AL.out.mono ?_; rintro e w8 ⟨a8, c8, rfl, h8, l8, -, -, -⟩; replace h8 := Lib.hid h8; replace l8 := Lib.hid l8) | (go_at_call 48; refine (IN.out _ _ _ h8.out l8.out).mono ?_; rintro e w9 ⟨rfl, m9, rfl⟩))
            go_roundw
            case rel => exact ⟨i + 1, mo', mc', by omega, rfl, by go_num, Lib.hid (FX.out _ (h8.out.drewN m9))⟩
            case measure => simp [intOf]; omega
      · obtain rfl : i = ls.length := by omega
        obtain ⟨m, hml, Rv, Pv, As, F, hwd, hO⟩ := hH.out
        have hB2 := Lib.hid hO.below
        clear hO hwd hH
        go_wp2_with (first | (go_at_call 45; refine (right_got_nil _).mono ?_; rintro e w7 ⟨rfl, rfl⟩) | (go_at_call 44; refine (right_step_nil _ _).mono ?_; rintro e w7 ⟨rfl, rfl⟩) | (go_at_call 46; refine (park_step_nil _ _).mono ?_; rintro e w7 ⟨rfl, rfl⟩) | (go_at_call 47; refine (park_back_nil _).mono ?_; rintro e w7 ⟨rfl, rfl⟩))
        go_ret
        exact ⟨rfl, hB2.out⟩
end Go.Proofs.Ytooofpplhedgcaa
