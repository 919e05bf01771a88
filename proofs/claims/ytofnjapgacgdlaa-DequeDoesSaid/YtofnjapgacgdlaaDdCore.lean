/- The walk through the law DequeDoes. -/
import Derived.Test.YtofnjapgacgdlaaDd37
import Derived.Deep.Cut
import Derived.Deep.CutRange
import Derived.Deep.CutBlock
set_option linter.unusedVariables false
set_option linter.unusedSimpArgs false
namespace Go.Proofs.Ytofnjapgacgdlaa
open Go.RowKit
set_option maxRecDepth 100000
set_option maxHeartbeats 20000000
theorem Try.infoWalkR : (Try.prog.info? 68).map (fun i => (i.zero, i.size, i.bytes)) = some (some (.agg #[.int .i64 0, .int .i64 0, .int .i64 0, .int .i64 0, .int .i64 0, .int .i64 0, .int .i64 0, .int .i64 0, .bool false, .bool false]), 10, 72) := by kernel_rfl
def zeroR : Nat → Value := fun j => if j < 8 then .int .i64 0 else .bool false
theorem ddoes_core (a : Nat) (who : Bool) (os : List (Nat × Nat × Int)) (oo : Option Addr) (oc g0 off : Nat) (w : World) (ha : a < 256) (h1 : os.length ≤ oc) (h2 : oc ≤ maxLen) (hl : os.length ≤ 300)
    (ho : ∀ i, i < os.length → oo = some ⟨g0, off, none⟩ ∧ ∃ a b x, os.getD i (0, 0, 0) = (a, b, x) ∧ a < 256 ∧ b < 256 ∧ w.cell? ⟨g0, off + i * 3, none⟩ = some (.int .u8 a) ∧ w.cell? ⟨g0, off + i * 3 + 1, none⟩ = some (.int .u8 b) ∧ w.cell? ⟨g0, off + i * 3 + 2, none⟩ = some (.int .i64 x)) :
    Calls Try.prog 11 #[.int .u8 a, .bool who, .slice oo os.length oc] w fun e w' => e = .returned (.bool true) ∧ Below w.heap.size w w' := by
  obtain ⟨ti1, hi1, hw0, hw1', hw2'⟩ := info_parts' Try.infoIntD
  obtain ⟨ti2, hi2, hq0, hq1', hq2'⟩ := info_parts' Try.infoWalkP
  obtain ⟨ti3, hi3, hr0, hr1', hr2'⟩ := info_parts' Try.infoWalkR
  obtain ⟨D, hD⟩ : ∃ D : Nat, a % 7 + 2 = D := ⟨_, rfl⟩
  obtain ⟨A, hA⟩ : ∃ A : Nat, a % 7 = A := ⟨_, rfl⟩
  have hDb : 2 ≤ D ∧ D ≤ 8 := by omega
  have ok : okPlan 2 1 1 D = true := by unfold okPlan; rw [decide_eq_true_eq]; omega
  have i1 : IntKind.i64.wrap (a : Int) = (a : Int) := IntWalk.i64_in _ (by omega)
  have e1 : (a : Int).tmod 7 = (A : Int) := by rw [Int.tmod_eq_emod_of_nonneg (by omega)]; omega
  have e1b : (A : Int) + 2 = (D : Int) := by omega
  have hA9 : A < 7 := by omega
  clear hD hA
  unfold maxLen at h2
  replace ho := Lib.hid ho
  obtain ⟨N, hN⟩ : ∃ N : Nat, sizeV 2 1 1 D = (N : Int) := ⟨(sizeV 2 1 1 D).toNat, by unfold sizeV wideV roomV; omega⟩
  have hN2 : N ≤ 1000 ∧ D + 4 + 4 + D ≤ N := by
    have := hN
    unfold sizeV wideV roomV at this
    omega
  obtain ⟨kw, B, hkw, hB⟩ : ∃ (kw : Int) (B : Nat), (kw = if who = true then 1 else 0) ∧ ((kw = 0 ∧ B = 0) ∨ (kw = 1 ∧ B = D + 4)) := by
    cases who
    · exact ⟨0, 0, rfl, .inl ⟨rfl, rfl⟩⟩
    · exact ⟨1, D + 4, rfl, .inr ⟨rfl, rfl⟩⟩
  have cf := fun (m : Nat) (hm : m = N) => cf2 kw B hDb hB (m := m) (by rw [hm, hN])
  have SZ := Lib.hid (fun w => hN ▸ size_ok ok w)
  have NW := Lib.hid (fun (w1 : World) (l : List Ast) (h : Own w w1 l) => own_new h N (List.replicate N 0) (by rw [show (min (max (N : Int) 0) 1048576).toNat = N by omega]))
  replace cf := Lib.hid cf
  clear hN
  go_enter Try.func11, Try.ntmps11
  go_wp2_with (go_at_call 30; refine (works13_any _).mono ?_; rintro e wa ⟨rfl, hb0⟩)
  go_at_call 31
  refine (plan13_any _ _).mono ?_
  rintro e wb ⟨rfl, hb1⟩
  have h1 := (Own.nil (below_chain hb0 hb1)).box #[.int .i64 2, .int .i64 1, .int .i64 1, .int .i64 D] 43
  clear hb0 hb1
  go_upto_if 32 with fail
  generalize wb.alloc (.cells #[.int .i64 2, .int .i64 1, .int .i64 1, .int .i64 D] 43) = wp at *
  generalize wb.heap.size = pb at *
  go_cut [8] from 32 to 32 (fun f wx => f = .int .i64 kw ∧ wp = wx)
  case first =>
    cases who
    · obtain rfl : kw = 0 := hkw
      go_wp2_with fail
      go_meet
      exact ⟨rfl, rfl⟩
    · obtain rfl : kw = 1 := hkw
      go_wp2_with fail
      go_meet
      exact ⟨rfl, rfl⟩
  case rest =>
    obtain ⟨rfl, rfl⟩ := hcut
    clear hkw
    replace hB := Lib.hid hB
    have y0 := (h1.cget 0 rfl 0).1
    have y1 := (h1.cget 0 rfl 1).1
    have y2 := (h1.cget 0 rfl 2).1
    have y3 := (h1.cget 0 rfl 3).1
    simp at y0 y1 y2 y3
    go_wp2_with fail
    go_at_call 22
    refine (SZ.out _).mono ?_
    rintro e w2 ⟨rfl, hb2⟩
    have h2 := h1.grow hb2
    clear h1 hb2 y0 y1 y2 y3
    go_wp2_with fail
    go_at_call 21
    refine (NW.out _ _ h2).mono ?_
    rintro e w3 ⟨rfl, h3⟩
    have h4 := h3.sel [1, 0] (by decide)
    replace h4 : Own w w3 [storeA (w2.heap.size + 1) w2.heap.size (List.replicate N 0), planA pb 2 D] := h4
    clear h2 h3
    generalize w2.heap.size = sb at *
    generalize hg : sb + 1 = g at *
    clear hg
    obtain ⟨y0, y1, y2, y3⟩ := planC h4
    go_wp2_with fail
    go_at_call 22
    refine (SZ.out _).mono ?_
    rintro e w4 ⟨rfl, hb4⟩
    have h5 := h4.grow hb4
    clear h4 hb4 y0 y1 y2 y3
    have h6 := h5.row_made 3 1 (madeCells #[.int .i64 0] N) N (by unfold maxLen; omega) (by simp [madeCells])
    have h7 := h6.row_made 46 1 (madeCells #[.pointer none] 4) 4 (by decide) (by simp [madeCells])
    have h8 := h7.row_made 68 10 (madeCells #[.int .i64 0, .int .i64 0, .int .i64 0, .int .i64 0, .int .i64 0, .int .i64 0, .int .i64 0, .int .i64 0, .bool false, .bool false] 40) 4 (by decide) (by simp [madeCells])
    rw [alloc_sz, alloc_sz] at h8
    have hm1 : (madeCells #[Value.int .i64 0] N).toList = (List.replicate N (0 : Int)).map (.int .i64) := by rw [madeK_one]; simp
    have hm2 : (madeCells #[Value.pointer none] 4).toList = [.pointer none, .pointer none, .pointer none, .pointer none] := by rw [madeK_one]; rfl
    have hm3 : (madeCells #[Value.int .i64 0, .int .i64 0, .int .i64 0, .int .i64 0, .int .i64 0, .int .i64 0, .int .i64 0, .int .i64 0, .bool false, .bool false] 40).toList = rrL (fun _ => zeroR) := by kernel_rfl
    rw [hm1, hm2, hm3] at h8
    have h9 := (h8.empty.empty.empty.empty).sel [4, 5, 7, 6, 8, 0, 1, 2, 3] (by decide)
    clear h6 h7 h8 hm1 hm2 hm3
    go_wp2_with (first | (refine wpList_make_any _ rfl _ _ 26 rfl 3 ti1 (.int .i64 0) 1 8 Try.underlying26 hi1 hw0 hw1' hw2' .i64 .i64 (N : Int) (N : Int) rfl rfl (by omega) (by omega) (by omega) (by decide) ?_) | (refine wpList_make_any _ rfl _ _ 65 rfl 46 ti2 (.pointer none) 1 8 Try.underlying65 hi2 hq0 hq1' hq2' .i64 .i64 (4 : Int) (4 : Int) rfl rfl (by omega) (by omega) (by omega) (by decide) ?_) | (refine wpList_make_any _ rfl _ _ 66 rfl 68 ti3 (.agg #[.int .i64 0, .int .i64 0, .int .i64 0, .int .i64 0, .int .i64 0, .int .i64 0, .int .i64 0, .int .i64 0, .bool false, .bool false]) 10 72 Try.underlying66 hi3 hr0 hr1' hr2' .i64 .i64 (4 : Int) (4 : Int) rfl rfl (by omega) (by omega) (by omega) (by decide) ?_))
    have hS : DState w (((w4.alloc (.cells (madeCells #[.int .i64 0] N) 3)).alloc (.cells (madeCells #[.pointer none] 4) 46)).alloc (.cells (madeCells #[.int .i64 0, .int .i64 0, .int .i64 0, .int .i64 0, .int .i64 0, .int .i64 0, .int .i64 0, .int .i64 0, .bool false, .bool false] 40) 68)) g sb pb (w4.heap.size + 1) (w4.heap.size + 1 + 1) (.slice (some ⟨w4.heap.size, 0, none⟩) N N) D kw B (List.replicate N 0) (fun _ => none) :=
      ⟨fun _ => .pointer none, fun _ => emptyA, fun _ => zeroR, fun i _ => .inl ⟨rfl, rfl, rfl⟩, h9.cast (by simp [DB, mRow, wrow, rrA])⟩
    clear h9
    replace hS := Lib.hid hS
    generalize ((w4.alloc (.cells (madeCells #[.int .i64 0] N) 3)).alloc (.cells (madeCells #[.pointer none] 4) 46)).alloc (.cells (madeCells #[.int .i64 0, .int .i64 0, .int .i64 0, .int .i64 0, .int .i64 0, .int .i64 0, .int .i64 0, .int .i64 0, .bool false, .bool false] 40) 68) = w5 at *
    generalize w4.heap.size + 1 + 1 = rfb at *
    generalize w4.heap.size + 1 = wkb at *
    generalize w4.heap.size = mb at *
    go_loopw [10, 13, 14] (fun mv tv iv wr => ∃ (i : Nat) (mo : Option Addr) (mc : Nat) (T : Int), i ≤ os.length ∧ mv = .slice mo N mc ∧ tv = .int .i64 T ∧ iv = .int .i64 i ∧ Hid (∃ m ws, m.length = N ∧ DState w wr g sb pb wkb rfb (.slice mo N mc) D kw B m ws)) (fun _ _ iv _ => (os.length - intOf iv).toNat)
    case atStart => exact ⟨0, some ⟨mb, 0, none⟩, N, 0, by omega, rfl, rfl, rfl, Lib.hid ⟨_, _, by simp, hS.out⟩⟩
    case round =>
      clear hS
      obtain ⟨i, mo, mc, T, hi, rfl, rfl, rfl, hH⟩ := hrel
      by_cases hlt : i < os.length
      · obtain ⟨m, ws, hml, hS⟩ := hH.out
        obtain ⟨rfl, who8, kind8, X, -, hw8, hk8, y0', y1', y2'⟩ := ho.out i hlt
        obtain ⟨K, hK⟩ : ∃ K : Nat, who8 % 4 = K := ⟨_, rfl⟩
        have eK : (who8 : Int).tmod 4 = (K : Int) := by rw [Int.tmod_eq_emod_of_nonneg (by omega)]; omega
        have eK2 : (who8 : Int) % 4 = (K : Int) := by omega
        have iK : IntKind.i64.wrap (who8 : Int) = (who8 : Int) := IntWalk.i64_in _ (by omega)
        have hK4 : K < 4 := by omega
        have hK4i : (K : Int) < 4 := by omega
        obtain ⟨kr, hkr⟩ : ∃ r : Nat, kind8 % 3 = r := ⟨_, rfl⟩
        have er : (kind8 : Int).tmod 3 = (kr : Int) := by rw [Int.tmod_eq_emod_of_nonneg (by omega)]; omega
        have er2 : (kind8 : Int) % 3 = (kr : Int) := by omega
        have hkr3 : kr < 3 := by omega
        clear hK hkr
        obtain ⟨P, As, R, rest, hwd, hr, hO⟩ := hS.pick hK4
        have y0 := hO.old y0'
        have y1 := hO.old y1'
        have y2 := hO.old y2'
        clear hS hH y0'
        have hili : (i : Int) < (os.length : Int) := by omega
        have r0 := hO.row_get 3 rfl (four_get P hK4)
        replace hO := Lib.hid hO
        replace hwd := Lib.hid hwd
        replace hr := Lib.hid hr
        replace hml := Lib.hid hml
        replace y1' := Lib.hid y1'
        replace y2' := Lib.hid y2'
        go_upto_region 18 with fail
        go_cut [65] from 54 to 65 (fun v wx => wr = wx ∧ ∃ b, v = .bool b ∧ Hid (b = false → DReady w wr g sb pb wkb rfb (.slice mo N mc) D kw B m ws K))
        case first =>
          rcases hwd.out K hK4 with ⟨hn, hv, hA⟩ | ⟨s, wb, cs, bx, hs, hv, hk, hA, h99 | ⟨hp, y, hy, hj⟩⟩
          · rw [hv] at r0
            clear hn hv hA
            go_wp2_with fail
            go_meet
            exact ⟨rfl, true, rfl, Lib.hid (fun h => by cases h)⟩
          · rw [hv] at r0
            have EN := dEnded (.inr h99) hk (hA ▸ hO.out)
            rw [show (s.pc == 99) = true by rw [h99]; rfl] at EN
            replace EN := Lib.hid EN
            clear hs hv hk hA h99
            go_wp2_with (go_at_call 33; refine EN.out.mono ?_; rintro e w5 ⟨rfl, rfl⟩)
            go_meet
            exact ⟨rfl, true, rfl, Lib.hid (fun h => by cases h)⟩
          · have RD := Lib.hid (DState.ready hK4 hwd.out hr.out hO.out hv hk hA hp hy hj)
            rw [hv] at r0
            have EN := dEnded (.inl hp) hk (hA ▸ hO.out)
            rw [show (s.pc == 99) = false by unfold pcOk at hp; simp; omega] at EN
            replace EN := Lib.hid EN
            clear hs hv hk hA hp hy hj
            go_wp2_with (go_at_call 33; refine EN.out.mono ?_; rintro e w5 ⟨rfl, rfl⟩)
            go_meet
            exact ⟨rfl, false, rfl, Lib.hid (fun _ => RD.out)⟩
        case rest =>
          obtain ⟨rfl, b, rfl, hb⟩ := hcut
          clear r0 y0
          go_upto_if 65 with fail
          go_cut [] from 66 to 124 (fun wx => Hid (DReady w wx g sb pb wkb rfb (.slice mo N mc) D kw B m ws K))
          case first =>
            cases b with
            | false =>
              have hb2 := Lib.hid (hb.out rfl)
              clear hb y1 y2
              go_wp2_with fail
              go_meet
              exact hb2
            | true =>
              clear hb y2
              have hO1 : Own w wr (storeA g sb m :: DB pb wkb rfb D P R (.slice mo N mc) m rest) := hO.out.sub (.cons_cons _ (.cons _ (List.Sublist.refl _)))
              have BG := Lib.hid (show ∀ (w' : World) (wb : Nat) (s : WS) (P' : Nat → Value) (R' : Nat → Nat → Value) (y : Int), (∀ i, i ≠ K → P' i = P i) → (∀ i, i ≠ K → R' i = R i) → P' K = .pointer (some ⟨wb, 0, none⟩) → pcOk s.pc → RefX s y → (∀ j, j < 10 → R' K j = refF (refKind s.pc) B D { s with x := y } j) → DW 2 D kw B w w' g sb wb m s (DB pb wkb rfb D P' R' (.slice mo N mc) m rest) → DReady w w' g sb pb wkb rfb (.slice mo N mc) D kw B m ws K from fun w' wb s P' R' y hP hR e1 hp hy hj h => DState.begin hwd.out hr.out hP hR e1 hp hy hj h)
              have hbase := (cf.out N rfl).base
              have y2 := y2'.out
              have BS := Lib.hid (fun w1 : World => show Calls Try.prog 38 #[.agg #[.int .i64 2, .int .i64 1, .int .i64 1, .int .i64 D], .int .i64 kw] w1 fun e w' => e = .returned (.int .i64 (B : Int)) ∧ Below w1.heap.size w1 w' from hbase ▸ base_ok ok kw w1)
              clear hO hwd hr hbase
              by_cases hK0 : K = 0
              · have hKp : decide ((K : Int) = 0) = true := decide_eq_true (by omega)
                have hKq : ((K : Int) == 0) = true := by simp; omega
                have hKr : decide (K = 0) = true := decide_eq_true hK0
                replace hK0 := Lib.hid hK0
                by_cases hp2 : kr = 2
                · subst hp2
                  have hO5 := hO1.drewN 1
                  have hS0 := (show (fun w' : World => w'.cell? ⟨pb, 0, none⟩ = some (.int .i64 2) ∧ w'.cell? ⟨pb, 1, none⟩ = some (.int .i64 1) ∧ w'.cell? ⟨pb, 2, none⟩ = some (.int .i64 1) ∧ w'.cell? ⟨pb, 3, none⟩ = some (.int .i64 D) ∧ w'.cell? ⟨g0, off + i * 3 + 2, none⟩ = some (.int .i64 X)) wr.drew from ⟨(planC hO5).1, (planC hO5).2.1, (planC hO5).2.2.1, (planC hO5).2.2.2, hO5.old y2⟩)
                  go_upto_region 24 with fail
                  refine lin_start (S := (fun w' : World => w'.cell? ⟨pb, 0, none⟩ = some (.int .i64 2) ∧ w'.cell? ⟨pb, 1, none⟩ = some (.int .i64 1) ∧ w'.cell? ⟨pb, 2, none⟩ = some (.int .i64 1) ∧ w'.cell? ⟨pb, 3, none⟩ = some (.int .i64 D) ∧ w'.cell? ⟨g0, off + i * 3 + 2, none⟩ = some (.int .i64 X))) rfl 17 rfl hS0 ?_
                  simp only [numbered, Nat.zero_add, Nat.reduceAdd]
                  refine lin_take (v := ?_) (by kernel_rfl) (by kernel_rfl) (fun _ _ _ h => h) (Or.inl ⟨by rfl, ?_⟩) (by assumption) ?_; (rotate_left; (intro wS hSw; (try dsimp only at hSw); go_simp; (try with_reducible rfl)); rotate_left); simp only [Act.put, List.setIfInBounds_toArray, List.set_cons_zero, List.set_cons_succ]
                  refine lin_take (v := ?_) (by kernel_rfl) (by kernel_rfl) (fun _ _ _ h => h) (Or.inl ⟨by rfl, ?_⟩) (by assumption) ?_; (rotate_left; (intro wS hSw; (try dsimp only at hSw); go_simp; (try with_reducible rfl)); rotate_left); simp only [Act.put, List.setIfInBounds_toArray, List.set_cons_zero, List.set_cons_succ]
                  refine lin_take (v := ?_) (by kernel_rfl) (by kernel_rfl) (fun _ _ _ h => h) (Or.inl ⟨by rfl, ?_⟩) (by assumption) ?_; (rotate_left; (intro wS hSw; (try dsimp only at hSw); go_simp; (try with_reducible rfl)); rotate_left); simp only [Act.put, List.setIfInBounds_toArray, List.set_cons_zero, List.set_cons_succ]
                  refine lin_take (v := ?_) (by kernel_rfl) (by kernel_rfl) (fun _ _ _ h => h) (Or.inl ⟨by rfl, ?_⟩) (by assumption) ?_; (rotate_left; (intro wS hSw; (try dsimp only at hSw); go_simp; (try with_reducible rfl)); rotate_left); simp only [Act.put, List.setIfInBounds_toArray, List.set_cons_zero, List.set_cons_succ]
                  refine lin_take (v := ?_) (by kernel_rfl) (by kernel_rfl) (fun _ _ _ h => h) (Or.inl ⟨by rfl, ?_⟩) (by assumption) ?_; (rotate_left; (intro wS hSw; (try dsimp only at hSw); go_simp; (try with_reducible rfl)); rotate_left); simp only [Act.put, List.setIfInBounds_toArray, List.set_cons_zero, List.set_cons_succ]
                  refine lin_rot ?_; simp only [List.cons_append, List.nil_append]
                  refine lin_take (v := ?_) (by kernel_rfl) (by kernel_rfl) (fun _ _ _ h => h) (Or.inl ⟨by rfl, ?_⟩) (by assumption) ?_; (rotate_left; (intro wS hSw; (try dsimp only at hSw); go_simp; (try with_reducible rfl)); rotate_left); simp only [Act.put, List.setIfInBounds_toArray, List.set_cons_zero, List.set_cons_succ]
                  refine lin_take (v := ?_) (by kernel_rfl) (by kernel_rfl) (fun _ _ _ h => h) (Or.inl ⟨by rfl, ?_⟩) (by assumption) ?_; (rotate_left; (intro wS hSw; (try dsimp only at hSw); go_simp; (try with_reducible rfl)); rotate_left); simp only [Act.put, List.setIfInBounds_toArray, List.set_cons_zero, List.set_cons_succ]
                  refine lin_take (v := ?_) (by kernel_rfl) (by kernel_rfl) (fun _ _ _ h => h) (Or.inl ⟨by rfl, ?_⟩) (by assumption) ?_; (rotate_left; (intro wS hSw; (try dsimp only at hSw); go_simp; (try with_reducible rfl)); rotate_left); simp only [Act.put, List.setIfInBounds_toArray, List.set_cons_zero, List.set_cons_succ]
                  refine lin_take (v := ?_) (by kernel_rfl) (by kernel_rfl) (fun _ _ _ h => h) (Or.inl ⟨by rfl, ?_⟩) (by assumption) ?_; (rotate_left; (intro wS hSw; (try dsimp only at hSw); go_simp; (try with_reducible rfl)); rotate_left); simp only [Act.put, List.setIfInBounds_toArray, List.set_cons_zero, List.set_cons_succ]
                  refine lin_take (v := ?_) (by kernel_rfl) (by kernel_rfl) (fun _ _ _ h => h) (Or.inl ⟨by rfl, ?_⟩) (by assumption) ?_; (rotate_left; (intro wS hSw; (try dsimp only at hSw); go_simp; (try with_reducible rfl)); rotate_left); simp only [Act.put, List.setIfInBounds_toArray, List.set_cons_zero, List.set_cons_succ]
                  refine lin_take (v := ?_) (by kernel_rfl) (by kernel_rfl) (fun _ _ _ h => h) (Or.inl ⟨by rfl, ?_⟩) (by assumption) ?_; (rotate_left; (intro wS hSw; (try dsimp only at hSw); go_simp; (try with_reducible rfl)); rotate_left); simp only [Act.put, List.setIfInBounds_toArray, List.set_cons_zero, List.set_cons_succ]
                  refine lin_take (v := ?_) (by kernel_rfl) (by kernel_rfl) (fun _ _ _ h => h) (Or.inl ⟨by rfl, ?_⟩) (by assumption) ?_; (rotate_left; (intro wS hSw; (try dsimp only at hSw); go_simp; (try with_reducible rfl)); rotate_left); simp only [Act.put, List.setIfInBounds_toArray, List.set_cons_zero, List.set_cons_succ]
                  refine lin_take (v := ?_) (by kernel_rfl) (by kernel_rfl) (fun _ _ _ h => h) (Or.inl ⟨by rfl, ?_⟩) (by assumption) ?_; (rotate_left; (intro wS hSw; (try dsimp only at hSw); go_simp; (try with_reducible rfl)); rotate_left); simp only [Act.put, List.setIfInBounds_toArray, List.set_cons_zero, List.set_cons_succ]
                  refine lin_rot ?_; simp only [List.cons_append, List.nil_append]
                  refine lin_rot ?_; simp only [List.cons_append, List.nil_append]
                  refine lin_rot ?_; simp only [List.cons_append, List.nil_append]
                  refine lin_sole (by kernel_rfl) (fun K' hK' => ?_)
                  go_simp
                  refine (BS.out _).mono ?_
                  rintro e w6 ⟨rfl, hb6⟩
                  have hO6 := hO5.grow hb6
                  clear hb6
                  refine hK'.out _ _ (show (fun w' : World => w'.cell? ⟨pb, 0, none⟩ = some (.int .i64 2) ∧ w'.cell? ⟨pb, 1, none⟩ = some (.int .i64 1) ∧ w'.cell? ⟨pb, 2, none⟩ = some (.int .i64 1) ∧ w'.cell? ⟨pb, 3, none⟩ = some (.int .i64 D) ∧ w'.cell? ⟨g0, off + i * 3 + 2, none⟩ = some (.int .i64 X)) w6 from ⟨(planC hO6).1, (planC hO6).2.1, (planC hO6).2.2.1, (planC hO6).2.2.2, hO6.old y2⟩) (fun hHeld => ?_)
                  try simp only [Act.put, List.setIfInBounds_toArray, List.set_cons_zero, List.set_cons_succ]
                  clear hK'
                  refine lin_sole (by kernel_rfl) (fun K' hK' => ?_)
                  go_simp
                  refine (rnew 1 B D T X _).mono ?_
                  rintro e w7 ⟨rfl, hb7⟩
                  have hO7 := hO6.grow hb7
                  clear hb7 hO6
                  have z0 := (DB.ref hO7 hK4 (j := 0) (by decide)).1
                  have f0 := (DB.ref hO7 hK4 (j := 0) (by decide)).2
                  have z1 := (DB.ref hO7 hK4 (j := 1) (by decide)).1
                  have f1 := (DB.ref hO7 hK4 (j := 1) (by decide)).2
                  have z2 := (DB.ref hO7 hK4 (j := 2) (by decide)).1
                  have f2 := (DB.ref hO7 hK4 (j := 2) (by decide)).2
                  have z3 := (DB.ref hO7 hK4 (j := 3) (by decide)).1
                  have f3 := (DB.ref hO7 hK4 (j := 3) (by decide)).2
                  have z4 := (DB.ref hO7 hK4 (j := 4) (by decide)).1
                  have f4 := (DB.ref hO7 hK4 (j := 4) (by decide)).2
                  have z5 := (DB.ref hO7 hK4 (j := 5) (by decide)).1
                  have f5 := (DB.ref hO7 hK4 (j := 5) (by decide)).2
                  have z6 := (DB.ref hO7 hK4 (j := 6) (by decide)).1
                  have f6 := (DB.ref hO7 hK4 (j := 6) (by decide)).2
                  have z7 := (DB.ref hO7 hK4 (j := 7) (by decide)).1
                  have f7 := (DB.ref hO7 hK4 (j := 7) (by decide)).2
                  have z8 := (DB.ref hO7 hK4 (j := 8) (by decide)).1
                  have f8 := (DB.ref hO7 hK4 (j := 8) (by decide)).2
                  have z9 := (DB.ref hO7 hK4 (j := 9) (by decide)).1
                  have f9 := (DB.ref hO7 hK4 (j := 9) (by decide)).2
                  simp only [Nat.add_zero] at z0 f0
                  have hO8 : Own w ((((((((((w7.setCell ⟨rfb, K * 10, none⟩ (.int .i64 1)).setCell ⟨rfb, K * 10 + 1, none⟩ (.int .i64 (B : Int))).setCell ⟨rfb, K * 10 + 2, none⟩ (.int .i64 D)).setCell ⟨rfb, K * 10 + 3, none⟩ (.int .i64 0)).setCell ⟨rfb, K * 10 + 4, none⟩ (.int .i64 (furthest T))).setCell ⟨rfb, K * 10 + 5, none⟩ (.int .i64 X)).setCell ⟨rfb, K * 10 + 6, none⟩ (.int .i64 0)).setCell ⟨rfb, K * 10 + 7, none⟩ (.int .i64 0)).setCell ⟨rfb, K * 10 + 8, none⟩ (.bool false)).setCell ⟨rfb, K * 10 + 9, none⟩ (.bool false)) (storeA g sb m :: DB pb wkb rfb D P (setR R K (newF 1 B D T X)) (.slice mo N mc) m rest) := DB.set10v hO7 hK4 (newF 1 B D T X) (.int .i64 1) (.int .i64 (B : Int)) (.int .i64 D) (.int .i64 0) (.int .i64 (furthest T)) (.int .i64 X) (.int .i64 0) (.int .i64 0) (.bool false) (.bool false) rfl rfl rfl rfl rfl rfl rfl rfl rfl rfl
                  replace hO8 := Lib.hid hO8
                  refine hK'.out _ _ (show (fun w' : World => w'.cell? ⟨pb, 0, none⟩ = some (.int .i64 2) ∧ w'.cell? ⟨pb, 1, none⟩ = some (.int .i64 1) ∧ w'.cell? ⟨pb, 2, none⟩ = some (.int .i64 1) ∧ w'.cell? ⟨pb, 3, none⟩ = some (.int .i64 D) ∧ w'.cell? ⟨g0, off + i * 3 + 2, none⟩ = some (.int .i64 X)) w7 from ⟨(planC hO7).1, (planC hO7).2.1, (planC hO7).2.2.1, (planC hO7).2.2.2, hO7.old y2⟩) (fun hHeld => ?_)
                  try simp only [Act.put, List.setIfInBounds_toArray, List.set_cons_zero, List.set_cons_succ]
                  clear hK'
                  refine lin_take (v := ?_) (by kernel_rfl) (by kernel_rfl) (fun _ _ _ h => h) (Or.inl ⟨by rfl, ?_⟩) (by assumption) ?_; (rotate_left; (intro wS hSw; (try dsimp only at hSw); go_simp; (try with_reducible rfl)); rotate_left); simp only [Act.put, List.setIfInBounds_toArray, List.set_cons_zero, List.set_cons_succ]
                  refine lin_sole (by kernel_rfl) (fun K' hK' => ?_)
                  go_simp
                  clear z0 f0 z1 f1 z2 f2 z3 f3 z4 f4 z5 f5 z6 f6 z7 f7 z8 f8 z9 f9
                  have hO9 := hO8.out
                  clear hO8
                  generalize (((((((((w7.setCell ⟨rfb, K * 10, none⟩ (.int .i64 1)).setCell ⟨rfb, K * 10 + 1, none⟩ (.int .i64 (B : Int))).setCell ⟨rfb, K * 10 + 2, none⟩ (.int .i64 D)).setCell ⟨rfb, K * 10 + 3, none⟩ (.int .i64 0)).setCell ⟨rfb, K * 10 + 4, none⟩ (.int .i64 (furthest T))).setCell ⟨rfb, K * 10 + 5, none⟩ (.int .i64 X)).setCell ⟨rfb, K * 10 + 6, none⟩ (.int .i64 0)).setCell ⟨rfb, K * 10 + 7, none⟩ (.int .i64 0)).setCell ⟨rfb, K * 10 + 8, none⟩ (.bool false)).setCell ⟨rfb, K * 10 + 9, none⟩ (.bool false) = u8 at *
                  refine hK'.out _ _ (show (fun w' : World => w'.cell? ⟨pb, 0, none⟩ = some (.int .i64 2) ∧ w'.cell? ⟨pb, 1, none⟩ = some (.int .i64 1) ∧ w'.cell? ⟨pb, 2, none⟩ = some (.int .i64 1) ∧ w'.cell? ⟨pb, 3, none⟩ = some (.int .i64 D) ∧ w'.cell? ⟨g0, off + i * 3 + 2, none⟩ = some (.int .i64 X)) u8 from ⟨(planC hO9).1, (planC hO9).2.1, (planC hO9).2.2.1, (planC hO9).2.2.2, hO9.old y2⟩) (fun hHeld => ?_)
                  try simp only [Act.put, List.setIfInBounds_toArray, List.set_cons_zero, List.set_cons_succ]
                  clear hK'
                  refine lin_done (by kernel_rfl) ?_
                  clear hHeld hS0 hO7
                  have CL := Lib.hid (qPop 2 D kw B T hO9)
                  obtain ⟨y10, y11, y12, y13⟩ := planC hO9
                  clear hO9
                  go_wp2_with (go_at_call 23; refine CL.out.mono ?_; rintro e w10 ⟨wb, rfl, h10⟩; obtain ⟨p0, q0⟩ := DWD.row h10 hK4; have h11 := Lib.hid (DWD.setRow h10 hK4 (.pointer (some ⟨wb, 0, none⟩))); clear h10)
                  go_meet
                  exact Lib.hid (BG.out _ wb (pop0 T) _ _ X updV_ne setR_ne updV_eq (.inr (.inl (show 10 ≤ 10 ∧ 10 ≤ 20 by decide))) (.inr ⟨rfl, show 10 ≤ 10 by decide⟩) (new_pop B D T X R K) h11.out)
                · have hp2b : decide (kr = 2) = false := decide_eq_false hp2
                  have hO5 := hO1.drewN 1
                  have hS0 := (show (fun w' : World => w'.cell? ⟨pb, 0, none⟩ = some (.int .i64 2) ∧ w'.cell? ⟨pb, 1, none⟩ = some (.int .i64 1) ∧ w'.cell? ⟨pb, 2, none⟩ = some (.int .i64 1) ∧ w'.cell? ⟨pb, 3, none⟩ = some (.int .i64 D) ∧ w'.cell? ⟨g0, off + i * 3 + 2, none⟩ = some (.int .i64 X)) wr.drew from ⟨(planC hO5).1, (planC hO5).2.1, (planC hO5).2.2.1, (planC hO5).2.2.2, hO5.old y2⟩)
                  go_upto_region 24 with fail
                  refine lin_start (S := (fun w' : World => w'.cell? ⟨pb, 0, none⟩ = some (.int .i64 2) ∧ w'.cell? ⟨pb, 1, none⟩ = some (.int .i64 1) ∧ w'.cell? ⟨pb, 2, none⟩ = some (.int .i64 1) ∧ w'.cell? ⟨pb, 3, none⟩ = some (.int .i64 D) ∧ w'.cell? ⟨g0, off + i * 3 + 2, none⟩ = some (.int .i64 X))) rfl 17 rfl hS0 ?_
                  simp only [numbered, Nat.zero_add, Nat.reduceAdd]
                  refine lin_take (v := ?_) (by kernel_rfl) (by kernel_rfl) (fun _ _ _ h => h) (Or.inl ⟨by rfl, ?_⟩) (by assumption) ?_; (rotate_left; (intro wS hSw; (try dsimp only at hSw); go_simp; (try with_reducible rfl)); rotate_left); simp only [Act.put, List.setIfInBounds_toArray, List.set_cons_zero, List.set_cons_succ]
                  refine lin_take (v := ?_) (by kernel_rfl) (by kernel_rfl) (fun _ _ _ h => h) (Or.inl ⟨by rfl, ?_⟩) (by assumption) ?_; (rotate_left; (intro wS hSw; (try dsimp only at hSw); go_simp; (try with_reducible rfl)); rotate_left); simp only [Act.put, List.setIfInBounds_toArray, List.set_cons_zero, List.set_cons_succ]
                  refine lin_take (v := ?_) (by kernel_rfl) (by kernel_rfl) (fun _ _ _ h => h) (Or.inl ⟨by rfl, ?_⟩) (by assumption) ?_; (rotate_left; (intro wS hSw; (try dsimp only at hSw); go_simp; (try with_reducible rfl)); rotate_left); simp only [Act.put, List.setIfInBounds_toArray, List.set_cons_zero, List.set_cons_succ]
                  refine lin_take (v := ?_) (by kernel_rfl) (by kernel_rfl) (fun _ _ _ h => h) (Or.inl ⟨by rfl, ?_⟩) (by assumption) ?_; (rotate_left; (intro wS hSw; (try dsimp only at hSw); go_simp; (try with_reducible rfl)); rotate_left); simp only [Act.put, List.setIfInBounds_toArray, List.set_cons_zero, List.set_cons_succ]
                  refine lin_take (v := ?_) (by kernel_rfl) (by kernel_rfl) (fun _ _ _ h => h) (Or.inl ⟨by rfl, ?_⟩) (by assumption) ?_; (rotate_left; (intro wS hSw; (try dsimp only at hSw); go_simp; (try with_reducible rfl)); rotate_left); simp only [Act.put, List.setIfInBounds_toArray, List.set_cons_zero, List.set_cons_succ]
                  refine lin_rot ?_; simp only [List.cons_append, List.nil_append]
                  refine lin_take (v := ?_) (by kernel_rfl) (by kernel_rfl) (fun _ _ _ h => h) (Or.inl ⟨by rfl, ?_⟩) (by assumption) ?_; (rotate_left; (intro wS hSw; (try dsimp only at hSw); go_simp; (try with_reducible rfl)); rotate_left); simp only [Act.put, List.setIfInBounds_toArray, List.set_cons_zero, List.set_cons_succ]
                  refine lin_take (v := ?_) (by kernel_rfl) (by kernel_rfl) (fun _ _ _ h => h) (Or.inl ⟨by rfl, ?_⟩) (by assumption) ?_; (rotate_left; (intro wS hSw; (try dsimp only at hSw); go_simp; (try with_reducible rfl)); rotate_left); simp only [Act.put, List.setIfInBounds_toArray, List.set_cons_zero, List.set_cons_succ]
                  refine lin_take (v := ?_) (by kernel_rfl) (by kernel_rfl) (fun _ _ _ h => h) (Or.inl ⟨by rfl, ?_⟩) (by assumption) ?_; (rotate_left; (intro wS hSw; (try dsimp only at hSw); go_simp; (try with_reducible rfl)); rotate_left); simp only [Act.put, List.setIfInBounds_toArray, List.set_cons_zero, List.set_cons_succ]
                  refine lin_take (v := ?_) (by kernel_rfl) (by kernel_rfl) (fun _ _ _ h => h) (Or.inl ⟨by rfl, ?_⟩) (by assumption) ?_; (rotate_left; (intro wS hSw; (try dsimp only at hSw); go_simp; (try with_reducible rfl)); rotate_left); simp only [Act.put, List.setIfInBounds_toArray, List.set_cons_zero, List.set_cons_succ]
                  refine lin_take (v := ?_) (by kernel_rfl) (by kernel_rfl) (fun _ _ _ h => h) (Or.inl ⟨by rfl, ?_⟩) (by assumption) ?_; (rotate_left; (intro wS hSw; (try dsimp only at hSw); go_simp; (try with_reducible rfl)); rotate_left); simp only [Act.put, List.setIfInBounds_toArray, List.set_cons_zero, List.set_cons_succ]
                  refine lin_take (v := ?_) (by kernel_rfl) (by kernel_rfl) (fun _ _ _ h => h) (Or.inl ⟨by rfl, ?_⟩) (by assumption) ?_; (rotate_left; (intro wS hSw; (try dsimp only at hSw); go_simp; (try with_reducible rfl)); rotate_left); simp only [Act.put, List.setIfInBounds_toArray, List.set_cons_zero, List.set_cons_succ]
                  refine lin_take (v := ?_) (by kernel_rfl) (by kernel_rfl) (fun _ _ _ h => h) (Or.inl ⟨by rfl, ?_⟩) (by assumption) ?_; (rotate_left; (intro wS hSw; (try dsimp only at hSw); go_simp; (try with_reducible rfl)); rotate_left); simp only [Act.put, List.setIfInBounds_toArray, List.set_cons_zero, List.set_cons_succ]
                  refine lin_take (v := ?_) (by kernel_rfl) (by kernel_rfl) (fun _ _ _ h => h) (Or.inl ⟨by rfl, ?_⟩) (by assumption) ?_; (rotate_left; (intro wS hSw; (try dsimp only at hSw); go_simp; (try with_reducible rfl)); rotate_left); simp only [Act.put, List.setIfInBounds_toArray, List.set_cons_zero, List.set_cons_succ]
                  refine lin_rot ?_; simp only [List.cons_append, List.nil_append]
                  refine lin_rot ?_; simp only [List.cons_append, List.nil_append]
                  refine lin_rot ?_; simp only [List.cons_append, List.nil_append]
                  refine lin_sole (by kernel_rfl) (fun K' hK' => ?_)
                  go_simp
                  refine (BS.out _).mono ?_
                  rintro e w6 ⟨rfl, hb6⟩
                  have hO6 := hO5.grow hb6
                  clear hb6
                  refine hK'.out _ _ (show (fun w' : World => w'.cell? ⟨pb, 0, none⟩ = some (.int .i64 2) ∧ w'.cell? ⟨pb, 1, none⟩ = some (.int .i64 1) ∧ w'.cell? ⟨pb, 2, none⟩ = some (.int .i64 1) ∧ w'.cell? ⟨pb, 3, none⟩ = some (.int .i64 D) ∧ w'.cell? ⟨g0, off + i * 3 + 2, none⟩ = some (.int .i64 X)) w6 from ⟨(planC hO6).1, (planC hO6).2.1, (planC hO6).2.2.1, (planC hO6).2.2.2, hO6.old y2⟩) (fun hHeld => ?_)
                  try simp only [Act.put, List.setIfInBounds_toArray, List.set_cons_zero, List.set_cons_succ]
                  clear hK'
                  refine lin_sole (by kernel_rfl) (fun K' hK' => ?_)
                  go_simp
                  refine (rnew 0 B D T X _).mono ?_
                  rintro e w7 ⟨rfl, hb7⟩
                  have hO7 := hO6.grow hb7
                  clear hb7 hO6
                  have z0 := (DB.ref hO7 hK4 (j := 0) (by decide)).1
                  have f0 := (DB.ref hO7 hK4 (j := 0) (by decide)).2
                  have z1 := (DB.ref hO7 hK4 (j := 1) (by decide)).1
                  have f1 := (DB.ref hO7 hK4 (j := 1) (by decide)).2
                  have z2 := (DB.ref hO7 hK4 (j := 2) (by decide)).1
                  have f2 := (DB.ref hO7 hK4 (j := 2) (by decide)).2
                  have z3 := (DB.ref hO7 hK4 (j := 3) (by decide)).1
                  have f3 := (DB.ref hO7 hK4 (j := 3) (by decide)).2
                  have z4 := (DB.ref hO7 hK4 (j := 4) (by decide)).1
                  have f4 := (DB.ref hO7 hK4 (j := 4) (by decide)).2
                  have z5 := (DB.ref hO7 hK4 (j := 5) (by decide)).1
                  have f5 := (DB.ref hO7 hK4 (j := 5) (by decide)).2
                  have z6 := (DB.ref hO7 hK4 (j := 6) (by decide)).1
                  have f6 := (DB.ref hO7 hK4 (j := 6) (by decide)).2
                  have z7 := (DB.ref hO7 hK4 (j := 7) (by decide)).1
                  have f7 := (DB.ref hO7 hK4 (j := 7) (by decide)).2
                  have z8 := (DB.ref hO7 hK4 (j := 8) (by decide)).1
                  have f8 := (DB.ref hO7 hK4 (j := 8) (by decide)).2
                  have z9 := (DB.ref hO7 hK4 (j := 9) (by decide)).1
                  have f9 := (DB.ref hO7 hK4 (j := 9) (by decide)).2
                  simp only [Nat.add_zero] at z0 f0
                  have hO8 : Own w ((((((((((w7.setCell ⟨rfb, K * 10, none⟩ (.int .i64 0)).setCell ⟨rfb, K * 10 + 1, none⟩ (.int .i64 (B : Int))).setCell ⟨rfb, K * 10 + 2, none⟩ (.int .i64 D)).setCell ⟨rfb, K * 10 + 3, none⟩ (.int .i64 0)).setCell ⟨rfb, K * 10 + 4, none⟩ (.int .i64 (furthest T))).setCell ⟨rfb, K * 10 + 5, none⟩ (.int .i64 X)).setCell ⟨rfb, K * 10 + 6, none⟩ (.int .i64 0)).setCell ⟨rfb, K * 10 + 7, none⟩ (.int .i64 0)).setCell ⟨rfb, K * 10 + 8, none⟩ (.bool false)).setCell ⟨rfb, K * 10 + 9, none⟩ (.bool false)) (storeA g sb m :: DB pb wkb rfb D P (setR R K (newF 0 B D T X)) (.slice mo N mc) m rest) := DB.set10v hO7 hK4 (newF 0 B D T X) (.int .i64 0) (.int .i64 (B : Int)) (.int .i64 D) (.int .i64 0) (.int .i64 (furthest T)) (.int .i64 X) (.int .i64 0) (.int .i64 0) (.bool false) (.bool false) rfl rfl rfl rfl rfl rfl rfl rfl rfl rfl
                  replace hO8 := Lib.hid hO8
                  refine hK'.out _ _ (show (fun w' : World => w'.cell? ⟨pb, 0, none⟩ = some (.int .i64 2) ∧ w'.cell? ⟨pb, 1, none⟩ = some (.int .i64 1) ∧ w'.cell? ⟨pb, 2, none⟩ = some (.int .i64 1) ∧ w'.cell? ⟨pb, 3, none⟩ = some (.int .i64 D) ∧ w'.cell? ⟨g0, off + i * 3 + 2, none⟩ = some (.int .i64 X)) w7 from ⟨(planC hO7).1, (planC hO7).2.1, (planC hO7).2.2.1, (planC hO7).2.2.2, hO7.old y2⟩) (fun hHeld => ?_)
                  try simp only [Act.put, List.setIfInBounds_toArray, List.set_cons_zero, List.set_cons_succ]
                  clear hK'
                  refine lin_take (v := ?_) (by kernel_rfl) (by kernel_rfl) (fun _ _ _ h => h) (Or.inl ⟨by rfl, ?_⟩) (by assumption) ?_; (rotate_left; (intro wS hSw; (try dsimp only at hSw); go_simp; (try with_reducible rfl)); rotate_left); simp only [Act.put, List.setIfInBounds_toArray, List.set_cons_zero, List.set_cons_succ]
                  refine lin_sole (by kernel_rfl) (fun K' hK' => ?_)
                  go_simp
                  clear z0 f0 z1 f1 z2 f2 z3 f3 z4 f4 z5 f5 z6 f6 z7 f7 z8 f8 z9 f9
                  have hO9 := hO8.out
                  clear hO8
                  generalize (((((((((w7.setCell ⟨rfb, K * 10, none⟩ (.int .i64 0)).setCell ⟨rfb, K * 10 + 1, none⟩ (.int .i64 (B : Int))).setCell ⟨rfb, K * 10 + 2, none⟩ (.int .i64 D)).setCell ⟨rfb, K * 10 + 3, none⟩ (.int .i64 0)).setCell ⟨rfb, K * 10 + 4, none⟩ (.int .i64 (furthest T))).setCell ⟨rfb, K * 10 + 5, none⟩ (.int .i64 X)).setCell ⟨rfb, K * 10 + 6, none⟩ (.int .i64 0)).setCell ⟨rfb, K * 10 + 7, none⟩ (.int .i64 0)).setCell ⟨rfb, K * 10 + 8, none⟩ (.bool false)).setCell ⟨rfb, K * 10 + 9, none⟩ (.bool false) = u8 at *
                  refine hK'.out _ _ (show (fun w' : World => w'.cell? ⟨pb, 0, none⟩ = some (.int .i64 2) ∧ w'.cell? ⟨pb, 1, none⟩ = some (.int .i64 1) ∧ w'.cell? ⟨pb, 2, none⟩ = some (.int .i64 1) ∧ w'.cell? ⟨pb, 3, none⟩ = some (.int .i64 D) ∧ w'.cell? ⟨g0, off + i * 3 + 2, none⟩ = some (.int .i64 X)) u8 from ⟨(planC hO9).1, (planC hO9).2.1, (planC hO9).2.2.1, (planC hO9).2.2.2, hO9.old y2⟩) (fun hHeld => ?_)
                  try simp only [Act.put, List.setIfInBounds_toArray, List.set_cons_zero, List.set_cons_succ]
                  clear hK'
                  refine lin_done (by kernel_rfl) ?_
                  clear hHeld hS0 hO7
                  have CL := Lib.hid (qPush 2 D kw B T X (hO9.drewN 1))
                  have hOc := hO9.drewN 1
                  have hS2 := (show (fun w' : World => w'.cell? ⟨pb, 0, none⟩ = some (.int .i64 2) ∧ w'.cell? ⟨pb, 1, none⟩ = some (.int .i64 1) ∧ w'.cell? ⟨pb, 2, none⟩ = some (.int .i64 1) ∧ w'.cell? ⟨pb, 3, none⟩ = some (.int .i64 D) ∧ w'.cell? ⟨g0, off + i * 3 + 2, none⟩ = some (.int .i64 X)) u8.drew from ⟨(planC hOc).1, (planC hOc).2.1, (planC hOc).2.2.1, (planC hOc).2.2.2, hOc.old y2⟩)
                  clear hO9
                  go_upto_region 29 with fail
                  refine lin_start (S := (fun w' : World => w'.cell? ⟨pb, 0, none⟩ = some (.int .i64 2) ∧ w'.cell? ⟨pb, 1, none⟩ = some (.int .i64 1) ∧ w'.cell? ⟨pb, 2, none⟩ = some (.int .i64 1) ∧ w'.cell? ⟨pb, 3, none⟩ = some (.int .i64 D) ∧ w'.cell? ⟨g0, off + i * 3 + 2, none⟩ = some (.int .i64 X))) rfl 13 rfl hS2 ?_
                  simp only [numbered, Nat.zero_add, Nat.reduceAdd]
                  refine lin_take (v := ?_) (by kernel_rfl) (by kernel_rfl) (fun _ _ _ h => h) (Or.inl ⟨by rfl, ?_⟩) (by assumption) ?_; (rotate_left; (intro wS hSw; (try dsimp only at hSw); go_simp; (try with_reducible rfl)); rotate_left); simp only [Act.put, List.setIfInBounds_toArray, List.set_cons_zero, List.set_cons_succ]
                  refine lin_take (v := ?_) (by kernel_rfl) (by kernel_rfl) (fun _ _ _ h => h) (Or.inl ⟨by rfl, ?_⟩) (by assumption) ?_; (rotate_left; (intro wS hSw; (try dsimp only at hSw); go_simp; (try with_reducible rfl)); rotate_left); simp only [Act.put, List.setIfInBounds_toArray, List.set_cons_zero, List.set_cons_succ]
                  refine lin_take (v := ?_) (by kernel_rfl) (by kernel_rfl) (fun _ _ _ h => h) (Or.inl ⟨by rfl, ?_⟩) (by assumption) ?_; (rotate_left; (intro wS hSw; (try dsimp only at hSw); go_simp; (try with_reducible rfl)); rotate_left); simp only [Act.put, List.setIfInBounds_toArray, List.set_cons_zero, List.set_cons_succ]
                  refine lin_take (v := ?_) (by kernel_rfl) (by kernel_rfl) (fun _ _ _ h => h) (Or.inl ⟨by rfl, ?_⟩) (by assumption) ?_; (rotate_left; (intro wS hSw; (try dsimp only at hSw); go_simp; (try with_reducible rfl)); rotate_left); simp only [Act.put, List.setIfInBounds_toArray, List.set_cons_zero, List.set_cons_succ]
                  refine lin_take (v := ?_) (by kernel_rfl) (by kernel_rfl) (fun _ _ _ h => h) (Or.inl ⟨by rfl, ?_⟩) (by assumption) ?_; (rotate_left; (intro wS hSw; (try dsimp only at hSw); go_simp; (try with_reducible rfl)); rotate_left); simp only [Act.put, List.setIfInBounds_toArray, List.set_cons_zero, List.set_cons_succ]
                  refine lin_take (v := ?_) (by kernel_rfl) (by kernel_rfl) (fun _ _ _ h => h) (Or.inl ⟨by rfl, ?_⟩) (by assumption) ?_; (rotate_left; (intro wS hSw; (try dsimp only at hSw); go_simp; (try with_reducible rfl)); rotate_left); simp only [Act.put, List.setIfInBounds_toArray, List.set_cons_zero, List.set_cons_succ]
                  refine lin_take (v := ?_) (by kernel_rfl) (by kernel_rfl) (fun _ _ _ h => h) (Or.inl ⟨by rfl, ?_⟩) (by assumption) ?_; (rotate_left; (intro wS hSw; (try dsimp only at hSw); go_simp; (try with_reducible rfl)); rotate_left); simp only [Act.put, List.setIfInBounds_toArray, List.set_cons_zero, List.set_cons_succ]
                  refine lin_take (v := ?_) (by kernel_rfl) (by kernel_rfl) (fun _ _ _ h => h) (Or.inl ⟨by rfl, ?_⟩) (by assumption) ?_; (rotate_left; (intro wS hSw; (try dsimp only at hSw); go_simp; (try with_reducible rfl)); rotate_left); simp only [Act.put, List.setIfInBounds_toArray, List.set_cons_zero, List.set_cons_succ]
                  refine lin_take (v := ?_) (by kernel_rfl) (by kernel_rfl) (fun _ _ _ h => h) (Or.inl ⟨by rfl, ?_⟩) (by assumption) ?_; (rotate_left; (intro wS hSw; (try dsimp only at hSw); go_simp; (try with_reducible rfl)); rotate_left); simp only [Act.put, List.setIfInBounds_toArray, List.set_cons_zero, List.set_cons_succ]
                  refine lin_take (v := ?_) (by kernel_rfl) (by kernel_rfl) (fun _ _ _ h => h) (Or.inl ⟨by rfl, ?_⟩) (by assumption) ?_; (rotate_left; (intro wS hSw; (try dsimp only at hSw); go_simp; (try with_reducible rfl)); rotate_left); simp only [Act.put, List.setIfInBounds_toArray, List.set_cons_zero, List.set_cons_succ]
                  refine lin_sole (by kernel_rfl) (fun K' hK' => ?_)
                  go_simp
                  refine (CL.out).mono ?_
                  rintro e w10 ⟨wb, rfl, h10⟩
                  obtain ⟨p0, q0⟩ := DWD.row h10 hK4
                  have h11 := Lib.hid (DWD.setRow h10 hK4 (.pointer (some ⟨wb, 0, none⟩)))
                  have hOa := h10.drop
                  have hS1 := (show (fun w' : World => w'.cell? ⟨pb, 0, none⟩ = some (.int .i64 2) ∧ w'.cell? ⟨pb, 1, none⟩ = some (.int .i64 1) ∧ w'.cell? ⟨pb, 2, none⟩ = some (.int .i64 1) ∧ w'.cell? ⟨pb, 3, none⟩ = some (.int .i64 D) ∧ w'.cell? ⟨g0, off + i * 3 + 2, none⟩ = some (.int .i64 X)) w10 from ⟨(planC hOa).1, (planC hOa).2.1, (planC hOa).2.2.1, (planC hOa).2.2.2, hOa.old y2⟩)
                  clear h10
                  refine hK'.out _ _ hS1 (fun hHeld => ?_)
                  try simp only [Act.put, List.setIfInBounds_toArray, List.set_cons_zero, List.set_cons_succ]
                  clear hK'
                  refine lin_take (v := ?_) (by kernel_rfl) (by kernel_rfl) (fun _ _ _ h => h) (Or.inl ⟨by rfl, ?_⟩) (by assumption) ?_; (rotate_left; (intro wS hSw; (try dsimp only at hSw); go_simp; (try with_reducible rfl)); rotate_left); simp only [Act.put, List.setIfInBounds_toArray, List.set_cons_zero, List.set_cons_succ]
                  refine lin_sole (by kernel_rfl) (fun K' hK' => ?_)
                  go_simp
                  clear p0 q0
                  have hOb := h11.out.drop
                  generalize w10.setCell ⟨wkb, K, none⟩ (.pointer (some ⟨wb, 0, none⟩)) = u11 at *
                  refine hK'.out _ _ (show (fun w' : World => w'.cell? ⟨pb, 0, none⟩ = some (.int .i64 2) ∧ w'.cell? ⟨pb, 1, none⟩ = some (.int .i64 1) ∧ w'.cell? ⟨pb, 2, none⟩ = some (.int .i64 1) ∧ w'.cell? ⟨pb, 3, none⟩ = some (.int .i64 D) ∧ w'.cell? ⟨g0, off + i * 3 + 2, none⟩ = some (.int .i64 X)) u11 from ⟨(planC hOb).1, (planC hOb).2.1, (planC hOb).2.2.1, (planC hOb).2.2.2, hOb.old y2⟩) (fun hHeld => ?_)
                  try simp only [Act.put, List.setIfInBounds_toArray, List.set_cons_zero, List.set_cons_succ]
                  clear hK'
                  refine lin_done (by kernel_rfl) ?_
                  clear hHeld hS1 hS2 hOa hOb hOc
                  go_wp2_with fail
                  go_meet
                  exact Lib.hid (BG.out _ wb (push0 T X) _ _ X updV_ne setR_ne updV_eq (.inl (Nat.zero_le 2)) (.inl rfl) (new_push B D T X R K) h11.out)
              · have hKp : decide ((K : Int) = 0) = false := decide_eq_false (by omega)
                have hKq : ((K : Int) == 0) = false := by simp; omega
                have hKr : decide (K = 0) = false := decide_eq_false hK0
                have hO5 := hO1.drewN 1
                have hS0 := (show (fun w' : World => w'.cell? ⟨pb, 0, none⟩ = some (.int .i64 2) ∧ w'.cell? ⟨pb, 1, none⟩ = some (.int .i64 1) ∧ w'.cell? ⟨pb, 2, none⟩ = some (.int .i64 1) ∧ w'.cell? ⟨pb, 3, none⟩ = some (.int .i64 D) ∧ w'.cell? ⟨g0, off + i * 3 + 2, none⟩ = some (.int .i64 X)) wr.drew from ⟨(planC hO5).1, (planC hO5).2.1, (planC hO5).2.2.1, (planC hO5).2.2.2, hO5.old y2⟩)
                go_upto_region 24 with fail
                refine lin_start (S := (fun w' : World => w'.cell? ⟨pb, 0, none⟩ = some (.int .i64 2) ∧ w'.cell? ⟨pb, 1, none⟩ = some (.int .i64 1) ∧ w'.cell? ⟨pb, 2, none⟩ = some (.int .i64 1) ∧ w'.cell? ⟨pb, 3, none⟩ = some (.int .i64 D) ∧ w'.cell? ⟨g0, off + i * 3 + 2, none⟩ = some (.int .i64 X))) rfl 17 rfl hS0 ?_
                simp only [numbered, Nat.zero_add, Nat.reduceAdd]
                refine lin_take (v := ?_) (by kernel_rfl) (by kernel_rfl) (fun _ _ _ h => h) (Or.inl ⟨by rfl, ?_⟩) (by assumption) ?_; (rotate_left; (intro wS hSw; (try dsimp only at hSw); go_simp; (try with_reducible rfl)); rotate_left); simp only [Act.put, List.setIfInBounds_toArray, List.set_cons_zero, List.set_cons_succ]
                refine lin_take (v := ?_) (by kernel_rfl) (by kernel_rfl) (fun _ _ _ h => h) (Or.inl ⟨by rfl, ?_⟩) (by assumption) ?_; (rotate_left; (intro wS hSw; (try dsimp only at hSw); go_simp; (try with_reducible rfl)); rotate_left); simp only [Act.put, List.setIfInBounds_toArray, List.set_cons_zero, List.set_cons_succ]
                refine lin_take (v := ?_) (by kernel_rfl) (by kernel_rfl) (fun _ _ _ h => h) (Or.inl ⟨by rfl, ?_⟩) (by assumption) ?_; (rotate_left; (intro wS hSw; (try dsimp only at hSw); go_simp; (try with_reducible rfl)); rotate_left); simp only [Act.put, List.setIfInBounds_toArray, List.set_cons_zero, List.set_cons_succ]
                refine lin_take (v := ?_) (by kernel_rfl) (by kernel_rfl) (fun _ _ _ h => h) (Or.inl ⟨by rfl, ?_⟩) (by assumption) ?_; (rotate_left; (intro wS hSw; (try dsimp only at hSw); go_simp; (try with_reducible rfl)); rotate_left); simp only [Act.put, List.setIfInBounds_toArray, List.set_cons_zero, List.set_cons_succ]
                refine lin_take (v := ?_) (by kernel_rfl) (by kernel_rfl) (fun _ _ _ h => h) (Or.inl ⟨by rfl, ?_⟩) (by assumption) ?_; (rotate_left; (intro wS hSw; (try dsimp only at hSw); go_simp; (try with_reducible rfl)); rotate_left); simp only [Act.put, List.setIfInBounds_toArray, List.set_cons_zero, List.set_cons_succ]
                refine lin_rot ?_; simp only [List.cons_append, List.nil_append]
                refine lin_take (v := ?_) (by kernel_rfl) (by kernel_rfl) (fun _ _ _ h => h) (Or.inl ⟨by rfl, ?_⟩) (by assumption) ?_; (rotate_left; (intro wS hSw; (try dsimp only at hSw); go_simp; (try with_reducible rfl)); rotate_left); simp only [Act.put, List.setIfInBounds_toArray, List.set_cons_zero, List.set_cons_succ]
                refine lin_take (v := ?_) (by kernel_rfl) (by kernel_rfl) (fun _ _ _ h => h) (Or.inl ⟨by rfl, ?_⟩) (by assumption) ?_; (rotate_left; (intro wS hSw; (try dsimp only at hSw); go_simp; (try with_reducible rfl)); rotate_left); simp only [Act.put, List.setIfInBounds_toArray, List.set_cons_zero, List.set_cons_succ]
                refine lin_take (v := ?_) (by kernel_rfl) (by kernel_rfl) (fun _ _ _ h => h) (Or.inl ⟨by rfl, ?_⟩) (by assumption) ?_; (rotate_left; (intro wS hSw; (try dsimp only at hSw); go_simp; (try with_reducible rfl)); rotate_left); simp only [Act.put, List.setIfInBounds_toArray, List.set_cons_zero, List.set_cons_succ]
                refine lin_take (v := ?_) (by kernel_rfl) (by kernel_rfl) (fun _ _ _ h => h) (Or.inl ⟨by rfl, ?_⟩) (by assumption) ?_; (rotate_left; (intro wS hSw; (try dsimp only at hSw); go_simp; (try with_reducible rfl)); rotate_left); simp only [Act.put, List.setIfInBounds_toArray, List.set_cons_zero, List.set_cons_succ]
                refine lin_take (v := ?_) (by kernel_rfl) (by kernel_rfl) (fun _ _ _ h => h) (Or.inl ⟨by rfl, ?_⟩) (by assumption) ?_; (rotate_left; (intro wS hSw; (try dsimp only at hSw); go_simp; (try with_reducible rfl)); rotate_left); simp only [Act.put, List.setIfInBounds_toArray, List.set_cons_zero, List.set_cons_succ]
                refine lin_take (v := ?_) (by kernel_rfl) (by kernel_rfl) (fun _ _ _ h => h) (Or.inl ⟨by rfl, ?_⟩) (by assumption) ?_; (rotate_left; (intro wS hSw; (try dsimp only at hSw); go_simp; (try with_reducible rfl)); rotate_left); simp only [Act.put, List.setIfInBounds_toArray, List.set_cons_zero, List.set_cons_succ]
                refine lin_take (v := ?_) (by kernel_rfl) (by kernel_rfl) (fun _ _ _ h => h) (Or.inl ⟨by rfl, ?_⟩) (by assumption) ?_; (rotate_left; (intro wS hSw; (try dsimp only at hSw); go_simp; (try with_reducible rfl)); rotate_left); simp only [Act.put, List.setIfInBounds_toArray, List.set_cons_zero, List.set_cons_succ]
                refine lin_take (v := ?_) (by kernel_rfl) (by kernel_rfl) (fun _ _ _ h => h) (Or.inl ⟨by rfl, ?_⟩) (by assumption) ?_; (rotate_left; (intro wS hSw; (try dsimp only at hSw); go_simp; (try with_reducible rfl)); rotate_left); simp only [Act.put, List.setIfInBounds_toArray, List.set_cons_zero, List.set_cons_succ]
                refine lin_rot ?_; simp only [List.cons_append, List.nil_append]
                refine lin_rot ?_; simp only [List.cons_append, List.nil_append]
                refine lin_rot ?_; simp only [List.cons_append, List.nil_append]
                refine lin_sole (by kernel_rfl) (fun K' hK' => ?_)
                go_simp
                refine (BS.out _).mono ?_
                rintro e w6 ⟨rfl, hb6⟩
                have hO6 := hO5.grow hb6
                clear hb6
                refine hK'.out _ _ (show (fun w' : World => w'.cell? ⟨pb, 0, none⟩ = some (.int .i64 2) ∧ w'.cell? ⟨pb, 1, none⟩ = some (.int .i64 1) ∧ w'.cell? ⟨pb, 2, none⟩ = some (.int .i64 1) ∧ w'.cell? ⟨pb, 3, none⟩ = some (.int .i64 D) ∧ w'.cell? ⟨g0, off + i * 3 + 2, none⟩ = some (.int .i64 X)) w6 from ⟨(planC hO6).1, (planC hO6).2.1, (planC hO6).2.2.1, (planC hO6).2.2.2, hO6.old y2⟩) (fun hHeld => ?_)
                try simp only [Act.put, List.setIfInBounds_toArray, List.set_cons_zero, List.set_cons_succ]
                clear hK'
                refine lin_sole (by kernel_rfl) (fun K' hK' => ?_)
                go_simp
                refine (rnew 2 B D T X _).mono ?_
                rintro e w7 ⟨rfl, hb7⟩
                have hO7 := hO6.grow hb7
                clear hb7 hO6
                have z0 := (DB.ref hO7 hK4 (j := 0) (by decide)).1
                have f0 := (DB.ref hO7 hK4 (j := 0) (by decide)).2
                have z1 := (DB.ref hO7 hK4 (j := 1) (by decide)).1
                have f1 := (DB.ref hO7 hK4 (j := 1) (by decide)).2
                have z2 := (DB.ref hO7 hK4 (j := 2) (by decide)).1
                have f2 := (DB.ref hO7 hK4 (j := 2) (by decide)).2
                have z3 := (DB.ref hO7 hK4 (j := 3) (by decide)).1
                have f3 := (DB.ref hO7 hK4 (j := 3) (by decide)).2
                have z4 := (DB.ref hO7 hK4 (j := 4) (by decide)).1
                have f4 := (DB.ref hO7 hK4 (j := 4) (by decide)).2
                have z5 := (DB.ref hO7 hK4 (j := 5) (by decide)).1
                have f5 := (DB.ref hO7 hK4 (j := 5) (by decide)).2
                have z6 := (DB.ref hO7 hK4 (j := 6) (by decide)).1
                have f6 := (DB.ref hO7 hK4 (j := 6) (by decide)).2
                have z7 := (DB.ref hO7 hK4 (j := 7) (by decide)).1
                have f7 := (DB.ref hO7 hK4 (j := 7) (by decide)).2
                have z8 := (DB.ref hO7 hK4 (j := 8) (by decide)).1
                have f8 := (DB.ref hO7 hK4 (j := 8) (by decide)).2
                have z9 := (DB.ref hO7 hK4 (j := 9) (by decide)).1
                have f9 := (DB.ref hO7 hK4 (j := 9) (by decide)).2
                simp only [Nat.add_zero] at z0 f0
                have hO8 : Own w ((((((((((w7.setCell ⟨rfb, K * 10, none⟩ (.int .i64 2)).setCell ⟨rfb, K * 10 + 1, none⟩ (.int .i64 (B : Int))).setCell ⟨rfb, K * 10 + 2, none⟩ (.int .i64 D)).setCell ⟨rfb, K * 10 + 3, none⟩ (.int .i64 0)).setCell ⟨rfb, K * 10 + 4, none⟩ (.int .i64 (furthest T))).setCell ⟨rfb, K * 10 + 5, none⟩ (.int .i64 X)).setCell ⟨rfb, K * 10 + 6, none⟩ (.int .i64 0)).setCell ⟨rfb, K * 10 + 7, none⟩ (.int .i64 0)).setCell ⟨rfb, K * 10 + 8, none⟩ (.bool false)).setCell ⟨rfb, K * 10 + 9, none⟩ (.bool false)) (storeA g sb m :: DB pb wkb rfb D P (setR R K (newF 2 B D T X)) (.slice mo N mc) m rest) := DB.set10v hO7 hK4 (newF 2 B D T X) (.int .i64 2) (.int .i64 (B : Int)) (.int .i64 D) (.int .i64 0) (.int .i64 (furthest T)) (.int .i64 X) (.int .i64 0) (.int .i64 0) (.bool false) (.bool false) rfl rfl rfl rfl rfl rfl rfl rfl rfl rfl
                replace hO8 := Lib.hid hO8
                refine hK'.out _ _ (show (fun w' : World => w'.cell? ⟨pb, 0, none⟩ = some (.int .i64 2) ∧ w'.cell? ⟨pb, 1, none⟩ = some (.int .i64 1) ∧ w'.cell? ⟨pb, 2, none⟩ = some (.int .i64 1) ∧ w'.cell? ⟨pb, 3, none⟩ = some (.int .i64 D) ∧ w'.cell? ⟨g0, off + i * 3 + 2, none⟩ = some (.int .i64 X)) w7 from ⟨(planC hO7).1, (planC hO7).2.1, (planC hO7).2.2.1, (planC hO7).2.2.2, hO7.old y2⟩) (fun hHeld => ?_)
                try simp only [Act.put, List.setIfInBounds_toArray, List.set_cons_zero, List.set_cons_succ]
                clear hK'
                refine lin_take (v := ?_) (by kernel_rfl) (by kernel_rfl) (fun _ _ _ h => h) (Or.inl ⟨by rfl, ?_⟩) (by assumption) ?_; (rotate_left; (intro wS hSw; (try dsimp only at hSw); go_simp; (try with_reducible rfl)); rotate_left); simp only [Act.put, List.setIfInBounds_toArray, List.set_cons_zero, List.set_cons_succ]
                refine lin_sole (by kernel_rfl) (fun K' hK' => ?_)
                go_simp
                clear z0 f0 z1 f1 z2 f2 z3 f3 z4 f4 z5 f5 z6 f6 z7 f7 z8 f8 z9 f9
                have hO9 := hO8.out
                clear hO8
                generalize (((((((((w7.setCell ⟨rfb, K * 10, none⟩ (.int .i64 2)).setCell ⟨rfb, K * 10 + 1, none⟩ (.int .i64 (B : Int))).setCell ⟨rfb, K * 10 + 2, none⟩ (.int .i64 D)).setCell ⟨rfb, K * 10 + 3, none⟩ (.int .i64 0)).setCell ⟨rfb, K * 10 + 4, none⟩ (.int .i64 (furthest T))).setCell ⟨rfb, K * 10 + 5, none⟩ (.int .i64 X)).setCell ⟨rfb, K * 10 + 6, none⟩ (.int .i64 0)).setCell ⟨rfb, K * 10 + 7, none⟩ (.int .i64 0)).setCell ⟨rfb, K * 10 + 8, none⟩ (.bool false)).setCell ⟨rfb, K * 10 + 9, none⟩ (.bool false) = u8 at *
                refine hK'.out _ _ (show (fun w' : World => w'.cell? ⟨pb, 0, none⟩ = some (.int .i64 2) ∧ w'.cell? ⟨pb, 1, none⟩ = some (.int .i64 1) ∧ w'.cell? ⟨pb, 2, none⟩ = some (.int .i64 1) ∧ w'.cell? ⟨pb, 3, none⟩ = some (.int .i64 D) ∧ w'.cell? ⟨g0, off + i * 3 + 2, none⟩ = some (.int .i64 X)) u8 from ⟨(planC hO9).1, (planC hO9).2.1, (planC hO9).2.2.1, (planC hO9).2.2.2, hO9.old y2⟩) (fun hHeld => ?_)
                try simp only [Act.put, List.setIfInBounds_toArray, List.set_cons_zero, List.set_cons_succ]
                clear hK'
                refine lin_done (by kernel_rfl) ?_
                clear hHeld hS0 hO7
                have z4 := (DB.ref hO9 hK4 (j := 4) (by decide)).1
                have f4 := (DB.ref hO9 hK4 (j := 4) (by decide)).2
                have hOd := Lib.hid (DB.set1 hO9 hK4 (j := 4) (by decide) (.int .i64 0))
                clear hO9
                go_upto_region 27 with fail
                replace hOd := hOd.out
                clear z4 f4
                generalize u8.setCell ⟨rfb, K * 10 + 4, none⟩ (.int .i64 0) = u9 at *
                have CL := Lib.hid (qSteal 2 D kw B hOd)
                obtain ⟨y10, y11, y12, y13⟩ := planC hOd
                clear hOd
                go_wp2_with (go_at_call 27; refine CL.out.mono ?_; rintro e w10 ⟨wb, rfl, h10⟩; obtain ⟨p0, q0⟩ := DWD.row h10 hK4; have h11 := Lib.hid (DWD.setRow h10 hK4 (.pointer (some ⟨wb, 0, none⟩))); clear h10)
                go_meet
                exact Lib.hid (BG.out _ wb steal0 _ _ X updV_ne (fun i h => (updR_ne i h).trans (setR_ne i h)) updV_eq (.inr (.inr (show 30 ≤ 30 ∧ 30 ≤ 37 by decide))) (.inr ⟨rfl, show 10 ≤ 30 by decide⟩) (new_steal B D T X R K) h11.out)
          case rest =>
            clear hO hwd hr hb y1 P As R rest
            obtain ⟨P, As, R, rest, wb, s, y, ho', hr, hv, hp, hy, hj, h10⟩ := hcut.out
            clear hcut
            have hc := cf.out _ hml.out
            have hroom := hc.room
            rw [hml.out] at hroom
            have ST := qStep hc hp h10
            have RF := Lib.hid (fun (w1 : World) (h : DW 2 D kw B w w1 g sb wb (stepW B D s m).2 (stepW B D s m).1 (DB pb wkb rfb D P R (.slice mo N mc) m rest)) => show Calls Try.prog 39 #[.agg #[.int .i64 (refKind s.pc), .int .i64 (B : Int), .int .i64 D, .int .i64 (refAt s.pc), .int .i64 s.t, .int .i64 y, .int .i64 s.n, .int .i64 s.h, .bool s.got, .bool s.full], .slice mo N mc] w1 fun e w' => ∃ ao' c' y', e = .returned (.tuple #[.agg #[.int .i64 (refKind s.pc), .int .i64 (B : Int), .int .i64 D, .int .i64 (refAt (stepW B D s m).1.pc), .int .i64 (stepW B D s m).1.t, .int .i64 y', .int .i64 (stepW B D s m).1.n, .int .i64 (stepW B D s m).1.h, .bool (stepW B D s m).1.got, .bool (stepW B D s m).1.full], .slice ao' N c']) ∧ RefX (stepW B D s m).1 y' ∧ DW 2 D kw B w w' g sb wb (stepW B D s m).2 (stepW B D s m).1 (DB pb wkb rfb D P R (.slice ao' N c') (stepW B D s m).2 rest) from drefx hml.out ⟨hroom, by omega⟩ ⟨by omega, by omega⟩ hp hy h)
            have AG := Lib.hid (show ∀ (w1 : World) (mv : Value) (y' : Int), RefX (stepW B D s m).1 y' → DW 2 D kw B w w1 g sb wb (stepW B D s m).2 (stepW B D s m).1 (DB pb wkb rfb D P (setR R K (refF (refKind s.pc) B D { (stepW B D s m).1 with x := y' })) mv (stepW B D s m).2 rest) → ∃ ws', DState w w1 g sb pb wkb rfb mv D kw B (stepW B D s m).2 ws' from fun w1 mv y' hy' h => DState.again ho' hr hv hp hy' h)
            have hZ := Lib.hid (fun (w1 : World) (s1 : WS) (m1 m2 : List Int) (mv : Value) (h : DW 2 D kw B w w1 g sb wb m1 s1 (DB pb wkb rfb D P R mv m2 rest)) => show w1.cell? ⟨rfb, K * 10, none⟩ = some (.int .i64 (refKind s.pc)) ∧ w1.cell? ⟨rfb, K * 10 + 1, none⟩ = some (.int .i64 (B : Int)) ∧ w1.cell? ⟨rfb, K * 10 + 2, none⟩ = some (.int .i64 D) ∧ w1.cell? ⟨rfb, K * 10 + 3, none⟩ = some (.int .i64 (refAt s.pc)) ∧ w1.cell? ⟨rfb, K * 10 + 4, none⟩ = some (.int .i64 s.t) ∧ w1.cell? ⟨rfb, K * 10 + 5, none⟩ = some (.int .i64 y) ∧ w1.cell? ⟨rfb, K * 10 + 6, none⟩ = some (.int .i64 s.n) ∧ w1.cell? ⟨rfb, K * 10 + 7, none⟩ = some (.int .i64 s.h) ∧ w1.cell? ⟨rfb, K * 10 + 8, none⟩ = some (.bool s.got) ∧ w1.cell? ⟨rfb, K * 10 + 9, none⟩ = some (.bool s.full) from ⟨(DWD.ref h hK4 (j := 0) (by decide)).1.trans (congrArg some (hj 0 (by decide))), (DWD.ref h hK4 (j := 1) (by decide)).1.trans (congrArg some (hj 1 (by decide))), (DWD.ref h hK4 (j := 2) (by decide)).1.trans (congrArg some (hj 2 (by decide))), (DWD.ref h hK4 (j := 3) (by decide)).1.trans (congrArg some (hj 3 (by decide))), (DWD.ref h hK4 (j := 4) (by decide)).1.trans (congrArg some (hj 4 (by decide))), (DWD.ref h hK4 (j := 5) (by decide)).1.trans (congrArg some (hj 5 (by decide))), (DWD.ref h hK4 (j := 6) (by decide)).1.trans (congrArg some (hj 6 (by decide))), (DWD.ref h hK4 (j := 7) (by decide)).1.trans (congrArg some (hj 7 (by decide))), (DWD.ref h hK4 (j := 8) (by decide)).1.trans (congrArg some (hj 8 (by decide))), (DWD.ref h hK4 (j := 9) (by decide)).1.trans (congrArg some (hj 9 (by decide)))⟩)
            have hpc := stepW_pc B D s m hp
            have hln := (stepW_len B D s m).trans hml.out
            have hPQ := Lib.hid (fun (w1 : World) (s1 : WS) (m1 m2 : List Int) (mv : Value) (R' : Nat → Nat → Value) (rest' : List Ast) (h : DW 2 D kw B w w1 g sb wb m1 s1 (DB pb wkb rfb D P R' mv m2 rest')) => show w1.cell? ⟨wkb, K, none⟩ = some (.pointer (some ⟨wb, 0, none⟩)) from hv ▸ (DWD.row h hK4).1)
            have p0 := hPQ.out _ _ _ _ _ _ _ h10
            generalize (stepW B D s m).1 = s1 at *
            generalize (stepW B D s m).2 = m1 at *
            obtain ⟨KD, hKD⟩ : ∃ z, refKind s.pc = z := ⟨_, rfl⟩
            rw [hKD] at RF AG hZ
            clear hKD
            replace ST := Lib.hid ST
            have hE1 := refAt_neg hpc
            replace hpc := Lib.hid hpc
            have hvK := Lib.hid hv
            replace hln := Lib.hid hln
            clear ho' hr hv hp hy hj h10 hc hroom
            go_upto_region 34 with (first | (go_at_call 34; refine ST.out.mono ?_; rintro e w5 ⟨rfl, h11⟩; have p1 := hPQ.out _ _ _ _ _ _ _ h11; obtain ⟨z0, z1, z2, z3, z4, z5, z6, z7, z8, z9⟩ := hZ.out _ _ _ _ _ h11; replace h11 := Lib.hid h11; clear p0) | (go_at_call 39; refine (RF.out _ h11.out).mono ?_; rintro e w6 ⟨ao1, c1, y1, rfl, hy1, h12⟩; replace hy1 := Lib.hid hy1; clear z0 z1 z2 z3 z4 z5 z6 z7 z8 z9 p1 h11))
            have h13 := DW.box h12 #[.int .i64 KD, .int .i64 (B : Int), .int .i64 D, .int .i64 (refAt s1.pc), .int .i64 s1.t, .int .i64 y1, .int .i64 s1.n, .int .i64 s1.h, .bool s1.got, .bool s1.full] 68
            replace h13 : DW 2 D kw B w (w6.alloc (.cells #[.int .i64 KD, .int .i64 (B : Int), .int .i64 D, .int .i64 (refAt s1.pc), .int .i64 s1.t, .int .i64 y1, .int .i64 s1.n, .int .i64 s1.h, .bool s1.got, .bool s1.full] 68)) g sb wb m1 s1 (DB pb wkb rfb D P R (.slice ao1 N c1) m1 (rest ++ [cellsA w6.heap.size #[.int .i64 KD, .int .i64 (B : Int), .int .i64 D, .int .i64 (refAt s1.pc), .int .i64 s1.t, .int .i64 y1, .int .i64 s1.n, .int .i64 s1.h, .bool s1.got, .bool s1.full] 68])) := h13
            generalize w6.alloc (.cells #[.int .i64 KD, .int .i64 (B : Int), .int .i64 D, .int .i64 (refAt s1.pc), .int .i64 s1.t, .int .i64 y1, .int .i64 s1.n, .int .i64 s1.h, .bool s1.got, .bool s1.full] 68) = u6 at *
            generalize w6.heap.size = nb at *
            clear h12
            have z0 := (DWD.ref h13 hK4 (j := 0) (by decide)).1
            have f0 := (DWD.ref h13 hK4 (j := 0) (by decide)).2
            have z1 := (DWD.ref h13 hK4 (j := 1) (by decide)).1
            have f1 := (DWD.ref h13 hK4 (j := 1) (by decide)).2
            have z2 := (DWD.ref h13 hK4 (j := 2) (by decide)).1
            have f2 := (DWD.ref h13 hK4 (j := 2) (by decide)).2
            have z3 := (DWD.ref h13 hK4 (j := 3) (by decide)).1
            have f3 := (DWD.ref h13 hK4 (j := 3) (by decide)).2
            have z4 := (DWD.ref h13 hK4 (j := 4) (by decide)).1
            have f4 := (DWD.ref h13 hK4 (j := 4) (by decide)).2
            have z5 := (DWD.ref h13 hK4 (j := 5) (by decide)).1
            have f5 := (DWD.ref h13 hK4 (j := 5) (by decide)).2
            have z6 := (DWD.ref h13 hK4 (j := 6) (by decide)).1
            have f6 := (DWD.ref h13 hK4 (j := 6) (by decide)).2
            have z7 := (DWD.ref h13 hK4 (j := 7) (by decide)).1
            have f7 := (DWD.ref h13 hK4 (j := 7) (by decide)).2
            have z8 := (DWD.ref h13 hK4 (j := 8) (by decide)).1
            have f8 := (DWD.ref h13 hK4 (j := 8) (by decide)).2
            have z9 := (DWD.ref h13 hK4 (j := 9) (by decide)).1
            have f9 := (DWD.ref h13 hK4 (j := 9) (by decide)).2
            simp only [Nat.add_zero] at z0 f0
            have q0 := DWD.boxGet h13 0
            have q1 := DWD.boxGet h13 1
            have q2 := DWD.boxGet h13 2
            have q3 := DWD.boxGet h13 3
            have q4 := DWD.boxGet h13 4
            have q5 := DWD.boxGet h13 5
            have q6 := DWD.boxGet h13 6
            have q7 := DWD.boxGet h13 7
            have q8 := DWD.boxGet h13 8
            have q9 := DWD.boxGet h13 9
            simp at q0 q1 q2 q3 q4 q5 q6 q7 q8 q9
            have h14 : DW 2 D kw B w ((((((((((u6.setCell ⟨rfb, K * 10, none⟩ (.int .i64 KD)).setCell ⟨rfb, K * 10 + 1, none⟩ (.int .i64 (B : Int))).setCell ⟨rfb, K * 10 + 2, none⟩ (.int .i64 D)).setCell ⟨rfb, K * 10 + 3, none⟩ (.int .i64 (refAt s1.pc))).setCell ⟨rfb, K * 10 + 4, none⟩ (.int .i64 s1.t)).setCell ⟨rfb, K * 10 + 5, none⟩ (.int .i64 y1)).setCell ⟨rfb, K * 10 + 6, none⟩ (.int .i64 s1.n)).setCell ⟨rfb, K * 10 + 7, none⟩ (.int .i64 s1.h)).setCell ⟨rfb, K * 10 + 8, none⟩ (.bool s1.got)).setCell ⟨rfb, K * 10 + 9, none⟩ (.bool s1.full)) g sb wb m1 s1 (DB pb wkb rfb D P (setR R K (refF KD B D { s1 with x := y1 })) (.slice ao1 N c1) m1 (rest ++ [cellsA nb #[.int .i64 KD, .int .i64 (B : Int), .int .i64 D, .int .i64 (refAt s1.pc), .int .i64 s1.t, .int .i64 y1, .int .i64 s1.n, .int .i64 s1.h, .bool s1.got, .bool s1.full] 68])) := DWD.set10v h13 hK4 (refF KD B D { s1 with x := y1 }) (.int .i64 KD) (.int .i64 (B : Int)) (.int .i64 D) (.int .i64 (refAt s1.pc)) (.int .i64 s1.t) (.int .i64 y1) (.int .i64 s1.n) (.int .i64 s1.h) (.bool s1.got) (.bool s1.full) rfl rfl rfl rfl rfl rfl rfl rfl rfl rfl
            replace h14 := Lib.hid h14
            clear h13
            go_upto_region 35 with fail
            replace h14 := h14.out
            clear z0 z1 z2 z3 z4 z5 z6 z7 z8 z9 f0 f1 f2 f3 f4 f5 f6 f7 f8 f9 q0 q1 q2 q3 q4 q5 q6 q7 q8 q9
            generalize (((((((((u6.setCell ⟨rfb, K * 10, none⟩ (.int .i64 KD)).setCell ⟨rfb, K * 10 + 1, none⟩ (.int .i64 (B : Int))).setCell ⟨rfb, K * 10 + 2, none⟩ (.int .i64 D)).setCell ⟨rfb, K * 10 + 3, none⟩ (.int .i64 (refAt s1.pc))).setCell ⟨rfb, K * 10 + 4, none⟩ (.int .i64 s1.t)).setCell ⟨rfb, K * 10 + 5, none⟩ (.int .i64 y1)).setCell ⟨rfb, K * 10 + 6, none⟩ (.int .i64 s1.n)).setCell ⟨rfb, K * 10 + 7, none⟩ (.int .i64 s1.h)).setCell ⟨rfb, K * 10 + 8, none⟩ (.bool s1.got)).setCell ⟨rfb, K * 10 + 9, none⟩ (.bool s1.full) = u at *
            have p0 := hPQ.out _ _ _ _ _ _ _ h14
            have GV := qGot h14
            obtain ⟨gx, gb, hgv⟩ : ∃ gx gb, gotV s1 = (gx, gb) := ⟨_, _, rfl⟩
            rw [hgv] at GV
            replace GV := Lib.hid GV
            replace hgv := Lib.hid hgv
            go_upto_region 37 with (go_at_call 25; refine GV.out.mono ?_; rintro e w7 ⟨rfl, rfl⟩)
            clear p0 GV
            generalize hE : (s1.pc == 99) = E
            rw [hE] at hE1
            go_cut [213] from 153 to 213 (fun v wx => v = .bool false ∧ wx.cell? ⟨nb, 4, none⟩ = some (.int .i64 s1.t) ∧ Hid (∃ ws', DState w wx g sb pb wkb rfb (.slice ao1 N c1) D kw B m1 ws'))
            case first =>
              obtain ⟨A1, hA1⟩ : ∃ z, refAt s1.pc = z := ⟨_, rfl⟩
              obtain ⟨G, hG⟩ : ∃ z, s1.got = z := ⟨_, rfl⟩
              obtain ⟨R1, hR1⟩ : ∃ z, setR R K (refF KD B D { s1 with x := y1 }) = z := ⟨_, rfl⟩
              rw [hR1] at h14
              have AG2 := Lib.hid (show ∀ (w1 : World) (mv : Value), DW 2 D kw B w w1 g sb wb m1 s1 (DB pb wkb rfb D P R1 mv m1 rest) → ∃ ws', DState w w1 g sb pb wkb rfb mv D kw B m1 ws' from fun w1 mv h => AG.out w1 mv y1 hy1.out (by rw [hR1]; exact h))
              clear hR1
              rw [hA1, hG] at h14
              rw [hA1] at hE1
              have FN := Lib.hid (fun (w' : World) (h : DW 2 D kw B w w' g sb wb m1 s1 (DB pb wkb rfb D P R1 (.slice ao1 N c1) m1 (rest ++ [cellsA nb #[.int .i64 KD, .int .i64 (B : Int), .int .i64 D, .int .i64 (A1), .int .i64 s1.t, .int .i64 y1, .int .i64 s1.n, .int .i64 s1.h, .bool G, .bool s1.full] 68]))) => show w'.cell? ⟨nb, 4, none⟩ = some (.int .i64 s1.t) ∧ ∃ ws', DState w w' g sb pb wkb rfb (.slice ao1 N c1) D kw B m1 ws' from ⟨(DWD.boxGet h 4).trans rfl, AG2.out w' _ (DWD.unbox h)⟩)
              cases G with
              | false =>
                have hv2 := hgv.out
                rw [gotV_no hG] at hv2
                obtain ⟨rfl, rfl⟩ : 0 = gx ∧ false = gb := by simpa using hv2
                clear hgv hv2 hA1 hG
                refine reg37A _ _ _ _ _ _ _ _ _ _ _ _ _ _ _ _ _ _ _ _ _ _ _ _ _ _ _ _ _ _ _ _ _ _ _ _ _ _ _ _ _ _ _ _ _ _ _ _ _ _ _ _ _ _ _ _ _ _ _ _ _ _ _ _ _ _ _ _ _ _ _ _ _ _ _ _ _ _ _ _ _ _ _ _ _ _ _ _ _ _ _ _ _ _ _ _ _ _ _ _ _ _ _ _ _ _ _ _ _ _ _ _ _ _ _ _ _ _ _ _ _ _ _ _ _ _ _ _ _ _ _ _ _ _ _ _ _ _ _ _ _ _ _ _ _ _ _ _ _ _ _ _ _ _ _ _ _ _ _ _ _ _ _ _ _ _ _ _ _ _ _ _ _ _ _ _ _ _ _ _ _ _ _ _ _ _ _ _ _ _ _ _ _ _ _ _ _ _ _ _ _ _ _ _ _ _ _ _ _ _ _ (by intro ch aa ab ww hd hh; obtain ⟨ta, da⟩ := aa; obtain ⟨tb, db⟩ := ab; cases hd; exact hh) hln.out hK4 hvK.out hE hE1 h14 ?_
                intro _ _ _ _ _ _ _ _ _ _ _ _ _ _ _ _ _ _ _ _ _ _ _ _ _ _ _ _ _ _ _ _ _ _ _ _ _ _ _ _ _ _ _ _ _ _ _ _ _ _ _ _ _ _ _ _ _ _ _ _ w9 h16
                go_wp2_with fail
                go_meet
                obtain ⟨x4, hfin⟩ := FN.out _ h16
                exact ⟨rfl, x4, Lib.hid hfin⟩
              | true =>
                by_cases h99 : s1.pc = 99
                · have hv2 := hgv.out
                  rw [gotV_yes h99 hG] at hv2
                  obtain ⟨rfl, rfl⟩ : s1.x = gx ∧ true = gb := by simpa using hv2
                  have hyx : y1 = s1.x := rel_told hy1.out hG
                  have hE0 : (s1.pc == 99) = true := by simpa using h99
                  rw [hE] at hE0
                  subst hE0
                  subst hyx
                  clear hgv hv2 h99 hA1 hG
                  refine reg37C _ _ _ _ _ _ _ _ _ _ _ _ _ _ _ _ _ _ _ _ _ _ _ _ _ _ _ _ _ _ _ _ _ _ _ _ _ _ _ _ _ _ _ _ _ _ _ _ _ _ _ _ _ _ _ _ _ _ _ _ _ _ _ _ _ _ _ _ _ _ _ _ _ _ _ _ _ _ _ _ _ _ _ _ _ _ _ _ _ _ _ _ _ _ _ _ _ _ _ _ _ _ _ _ _ _ _ _ _ _ _ _ _ _ _ _ _ _ _ _ _ _ _ _ _ _ _ _ _ _ _ _ _ _ _ _ _ _ _ _ _ _ _ _ _ _ _ _ _ _ _ _ _ _ _ _ _ _ _ _ _ _ _ _ _ _ _ _ _ _ _ _ _ _ _ _ _ _ _ _ _ _ _ _ _ _ _ _ _ _ _ _ _ _ _ _ _ _ _ _ _ _ _ _ _ _ _ _ _ _ (by intro ch aa ab ww hd hh; obtain ⟨ta, da⟩ := aa; obtain ⟨tb, db⟩ := ab; cases hd; exact hh) hln.out hK4 hvK.out hE hE1 h14 ?_
                  intro _ _ _ _ _ _ _ _ _ _ _ _ _ _ _ _ _ _ _ _ _ _ _ _ _ _ _ _ _ _ _ _ _ _ _ _ _ _ _ _ _ _ _ _ _ _ _ _ _ _ _ _ _ _ _ _ _ _ _ _ w9 h16
                  go_wp2_with fail
                  go_meet
                  obtain ⟨x4, hfin⟩ := FN.out _ h16
                  exact ⟨rfl, x4, Lib.hid hfin⟩
                · have hv2 := hgv.out
                  rw [gotV_not h99] at hv2
                  obtain ⟨rfl, rfl⟩ : 0 = gx ∧ false = gb := by simpa using hv2
                  have hE0 : (s1.pc == 99) = false := by simpa using h99
                  rw [hE] at hE0
                  subst hE0
                  clear hgv hv2 h99 hA1 hG
                  refine reg37B _ _ _ _ _ _ _ _ _ _ _ _ _ _ _ _ _ _ _ _ _ _ _ _ _ _ _ _ _ _ _ _ _ _ _ _ _ _ _ _ _ _ _ _ _ _ _ _ _ _ _ _ _ _ _ _ _ _ _ _ _ _ _ _ _ _ _ _ _ _ _ _ _ _ _ _ _ _ _ _ _ _ _ _ _ _ _ _ _ _ _ _ _ _ _ _ _ _ _ _ _ _ _ _ _ _ _ _ _ _ _ _ _ _ _ _ _ _ _ _ _ _ _ _ _ _ _ _ _ _ _ _ _ _ _ _ _ _ _ _ _ _ _ _ _ _ _ _ _ _ _ _ _ _ _ _ _ _ _ _ _ _ _ _ _ _ _ _ _ _ _ _ _ _ _ _ _ _ _ _ _ _ _ _ _ _ _ _ _ _ _ _ _ _ _ _ _ _ _ _ _ _ _ _ _ _ _ _ _ _ _ (by intro ch aa ab ww hd hh; obtain ⟨ta, da⟩ := aa; obtain ⟨tb, db⟩ := ab; cases hd; exact hh) hln.out hK4 hvK.out hE hE1 h14 ?_
                  intro _ _ _ _ _ _ _ _ _ _ _ _ _ _ _ _ _ _ _ _ _ _ _ _ _ _ _ _ _ _ _ _ _ _ _ _ _ _ _ _ _ _ _ _ _ _ _ _ _ _ _ _ _ _ _ _ _ _ _ _ w9 h16
                  go_wp2_with fail
                  go_meet
                  obtain ⟨x4, hfin⟩ := FN.out _ h16
                  exact ⟨rfl, x4, Lib.hid hfin⟩
            case rest =>
              obtain ⟨rfl, x4, hfin⟩ := hcut
              by_cases hK0 : K = 0
              · have hKp : decide ((K : Int) = 0) = true := decide_eq_true (by omega)
                have hKq : ((K : Int) == 0) = true := by simp; omega
                have hKr : decide (K = 0) = true := decide_eq_true hK0
                replace hK0 := Lib.hid hK0
                go_wp2_with fail
                go_roundw
                case rel =>
                  obtain ⟨ws', hD'⟩ := hfin.out
                  exact ⟨i + 1, ao1, c1, s1.t, by omega, rfl, rfl, by go_num, Lib.hid ⟨m1, ws', hln.out, hD'⟩⟩
                case measure => simp [intOf]; omega
              · have hKp : decide ((K : Int) = 0) = false := decide_eq_false (by omega)
                have hKq : ((K : Int) == 0) = false := by simp; omega
                have hKr : decide (K = 0) = false := decide_eq_false hK0
                go_wp2_with fail
                go_roundw
                case rel =>
                  obtain ⟨ws', hD'⟩ := hfin.out
                  exact ⟨i + 1, ao1, c1, T, by omega, rfl, rfl, by go_num, Lib.hid ⟨m1, ws', hln.out, hD'⟩⟩
                case measure => simp [intOf]; omega
      · obtain rfl : i = os.length := by omega
        obtain ⟨m, ws, hml, P, As, R, hwd, hO⟩ := hH.out
        have hB2 := Lib.hid hO.below
        clear hO hwd hH
        go_wp2_with fail
        go_ret
        exact ⟨rfl, hB2.out⟩
end Go.Proofs.Ytofnjapgacgdlaa
