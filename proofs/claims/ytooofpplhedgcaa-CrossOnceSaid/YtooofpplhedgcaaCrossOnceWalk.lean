/- The walk through the law CrossOnce. -/
import Derived.Test.YtooofpplhedgcaaCrossStep
import Derived.Test.YtooofpplhedgcaaThrottleOnceWalk
import Derived.Deep.Cut
import Derived.Deep.CutRange
import Derived.Deep.CutBlock
set_option linter.unusedVariables false
set_option linter.unusedSimpArgs false
namespace Go.Proofs.Ytooofpplhedgcaa
open Go.RowKit
set_option maxRecDepth 100000
set_option maxHeartbeats 20000000
theorem conce_core (vs : List Int) (vo : Option Addr) (vc sg st : Nat) (os : List Bool) (oo : Option Addr) (oc : Nat) (w : World) (hsg : sg ≤ 255) (hst : sg % 60 = st) (hv1 : vs.length ≤ vc) (hv2 : vc ≤ maxLen) (hvl : vs.length ≤ 60) (ho1 : os.length ≤ oc) (ho2 : oc ≤ maxLen) (hol : os.length ≤ 400)
    (hvr : ∀ i, i < vs.length → 0 ≤ vs.getD i 0 ∧ vs.getD i 0 ≤ 255) (hv : ∀ i, i < vs.length → ∃ ad, vo = some ad ∧ w.cell? (ad.add i) = some (.int .u8 (vs.getD i 0)))
    (ho : ∀ i, i < os.length → ∃ ad, oo = some ad ∧ w.cell? (ad.add i) = some (.bool (os.getD i false))) :
    Calls Try.prog 7 #[.slice vo vs.length vc, .int .u8 sg, .slice oo os.length oc] w fun e w' => e = .returned (.bool true) ∧ Below w.heap.size w w' := by
  have ok : okPlan 1 3 3 3 = true := by decide
  unfold maxLen at ho2
  replace ho := Lib.hid ho
  replace hv := Lib.hid hv
  replace hvr := Lib.hid hvr
  replace hv2 := Lib.hid hv2
  have SZ := Lib.hid (fun (w1 : World) (l : List Ast) (h : Own w w1 l) => Own.lift (size_ok ok w1) h (.int .i64 61) (by rw [show sizeV 1 3 3 3 = 61 by decide]))
  have NW := Lib.hid (fun (w1 : World) (l : List Ast) (h : Own w w1 l) => own_new h 61 (List.replicate 61 0) rfl)
  have RN := Lib.hid (fun (w1 : World) (l : List Ast) (h : Own w w1 l) => Own.lift (rnew_any 1 3 3 3 1 9 w1) h _ rfl)
  obtain ⟨m1, hm1⟩ : ∃ m1 : List Int, (List.replicate 61 (0 : Int)).set 15 2 = m1 := ⟨_, rfl⟩
  have hs1 : IntKind.i64.wrap (sg : Int) = (sg : Int) := IntWalk.i64_in _ (by omega)
  have hs2 : (sg : Int) % 60 = (st : Int) := by omega
  have hz : (List.replicate 61 (0 : Int)).set 15 2 = m1 := hm1
  have LK := Lib.hid (fun (w1 : World) (gs sb : Nat) (l : List Ast) (h : Own w w1 (storeA gs sb (List.replicate 61 0) :: l)) => r_link h ok 1 9 1 2 (at_ := 15) (by decide) (by simp) m1 hm1)
  obtain ⟨T, hT⟩ : ∃ T, tokV 9 1 st = T := ⟨_, rfl⟩
  replace hT := Lib.hid hT
  have hM0 := Lib.hid (show MemC T (0 : Nat) false m1 from ⟨by rw [← hm1]; simp, by rw [← hm1]; rfl, by rw [← hm1]; rfl, by rw [← hm1]; rfl⟩)
  replace hm1 := Lib.hid hm1
  clear hz
  go_enter Try.func7, Try.ntmps7
  go_wp2_with (go_at_call 33; refine (works19_any _).mono ?_; rintro e wa ⟨rfl, hb1⟩)
  go_at_call 34
  refine (plan19_any _).mono ?_
  rintro e wb ⟨rfl, hb2⟩
  go_wp2_with fail
  have h1 := (Own.nil (below_chain hb1 hb2)).box #[.int .i64 1, .int .i64 3, .int .i64 3, .int .i64 3] 26
  go_at_call 12
  refine (SZ.out _ _ h1).mono ?_
  rintro e w2 ⟨rfl, h2⟩
  go_wp2_with fail
  go_at_call 11
  refine (NW.out _ _ h2).mono ?_
  rintro e w3 ⟨rfl, h3⟩
  have h4 := h3.sel [1, 0] (by decide)
  obtain ⟨x0, x1, x2, x3⟩ := cells4 1 h4 rfl
  clear h1 h2 h3
  generalize w2.heap.size = sb at *
  generalize wb.heap.size = pb at *
  clear hb1 hb2
  go_wp2_with fail
  go_at_call 13
  refine (RN.out _ _ h4).mono ?_
  rintro e w5 ⟨rfl, h5⟩
  have h6 := h5.box #[.int .i64 1, .int .i64 3, .int .i64 3, .int .i64 3, .int .i64 1, .int .i64 9] 32
  clear h4 h5 x0 x1 x2 x3
  go_wp2_with fail
  generalize w5.alloc (.cells #[.int .i64 1, .int .i64 3, .int .i64 3, .int .i64 3, .int .i64 1, .int .i64 9] 32) = w6 at *
  generalize w5.heap.size = rb at *
  obtain ⟨y0, y1, y2, y3, y4, y5⟩ := cells6 2 h6 rfl
  go_at_call 35
  refine (LK.out _ _ _ _ h6).mono ?_
  rintro e w7 ⟨rfl, h7⟩
  clear h6 y0 y1 y2 y3 y4 y5
  go_wp2_with fail
  have h8 := ((h7.box #[.slice vo vs.length vc, .int .i64 0, .int .i64 0, .pointer none, .int .i64 0] 58).box #[.int .i64 st, .bool false, .pointer none, .int .i64 0] 62).none.none
  rw [World.size_alloc] at h8
  clear h7
  generalize (w7.alloc (.cells #[.slice vo vs.length vc, .int .i64 0, .int .i64 0, .pointer none, .int .i64 0] 58)).alloc (.cells #[.int .i64 st, .bool false, .pointer none, .int .i64 0] 62) = w8 at *
  obtain ⟨bb, hbb⟩ : ∃ bb, w7.heap.size + 1 = bb := ⟨_, rfl⟩
  rw [hbb] at h8 ⊢
  clear hbb
  generalize w7.heap.size = ab at *
  obtain ⟨gs, hgs⟩ : ∃ gs, sb + 1 = gs := ⟨_, rfl⟩
  rw [hgs] at h8 ⊢
  clear hgs SZ NW RN LK
  rw [hs2]
  clear hs1 hs2
  have hR0 := Lib.hid (show RightIs 0 0 st none noA from .inl ⟨rfl, rfl, rfl⟩)
  have hP0 := Lib.hid (show ParkIs 0 st false none noA from .inl ⟨rfl, rfl, rfl, rfl⟩)
  have hC0 := Lib.hid (CInv.start vs.length st)
  go_loopw [12] (fun kv wr => ∃ (k L at_ B come got goes : Nat) (sT looked : Bool) (ms : List Int) (look park : Option Addr) (X Y : Ast), k ≤ os.length + 400 ∧ kv = .int .i64 k ∧ Hid (CInv vs.length st L at_ B sT come got goes) ∧ Hid (MemC T come sT ms) ∧ Hid (muA vs.length L at_ B sT ≤ 124 - ((k + 1) / 2 - (os.length + 1) / 2) ∧ 4 - B ≤ 4 - (k / 2 - os.length / 2)) ∧ Hid (RightIs L come st look X) ∧ Hid (ParkIs B st looked park Y) ∧ Own w wr (storeA gs sb ms :: [cellsA pb #[.int .i64 1, .int .i64 3, .int .i64 3, .int .i64 3] 26, cellsA rb #[.int .i64 1, .int .i64 3, .int .i64 3, .int .i64 3, .int .i64 1, .int .i64 9] 32, cellsA ab #[.slice vo vs.length vc, .int .i64 at_, .int .i64 come, .pointer look, .int .i64 got] 58, cellsA bb #[.int .i64 st, .bool looked, .pointer park, .int .i64 goes] 62, X, Y])) (fun kv _ => (os.length + 400 - intOf kv).toNat)
  case atStart => exact ⟨0, 0, 0, 0, 0, 0, 0, false, false, m1, none, none, noA, noA, by omega, rfl, hC0, hM0, Lib.hid ⟨by unfold muA; simp; omega, by omega⟩, hR0, hP0, h8⟩
  case round =>
    clear h8 hR0 hP0 hC0 hM0
    obtain ⟨k, L, at_, B, come, got, goes, sT, looked, ms, look, park, X, Y, hk, rfl, hC, hM, hmu, hR, hP, hO⟩ := hrel
    by_cases hlt : k < os.length + 400
    · go_upto_if 54 with fail
      rw [show decide ((k : Int) < (os.length : Int) + 400) = true from decide_eq_true (by omega)]
      go_cut [13] from 48 to 58 (fun f wx => ∃ b : Bool, f = .bool b ∧ Hid (os.length ≤ k → b = decide (k % 2 = 0)) ∧ wr = wx)
      case first =>
        by_cases hkl : k < os.length
        · obtain ⟨ad, rfl, x0⟩ := ho.out k hkl
          have x1 := hO.old x0
          go_wp2_with fail
          go_meet
          exact ⟨_, rfl, Lib.hid (fun h => absurd h (by omega)), rfl⟩
        · have hkl2 : ¬ (k : Int) < os.length := by omega
          have ht : ((k : Int) % 2 == 0) = decide (k % 2 = 0) := by
            by_cases c : k % 2 = 0
            · rw [decide_eq_true c]; simp; omega
            · rw [decide_eq_false c]; simp; omega
          go_wp2_with fail
          go_meet
          exact ⟨_, rfl, Lib.hid (fun _ => rfl), rfl⟩
      case rest =>
        obtain ⟨b, rfl, hb, rfl⟩ := hcut
        go_upto_if 59 with fail
        go_cut [] from 60 to 67 (fun wx => ∃ (L2 at2 B2 come2 got2 goes2 : Nat) (sT2 looked2 : Bool) (ms2 : List Int) (look2 park2 : Option Addr) (X2 Y2 : Ast), Hid (CInv vs.length st L2 at2 B2 sT2 come2 got2 goes2) ∧ Hid (MemC T come2 sT2 ms2) ∧ Hid (muA vs.length L2 at2 B2 sT2 ≤ 124 - ((k + 1 + 1) / 2 - (os.length + 1) / 2) ∧ 4 - B2 ≤ 4 - ((k + 1) / 2 - os.length / 2)) ∧ Hid (RightIs L2 come2 st look2 X2) ∧ Hid (ParkIs B2 st looked2 park2 Y2) ∧ Own w wx (storeA gs sb ms2 :: [cellsA pb #[.int .i64 1, .int .i64 3, .int .i64 3, .int .i64 3] 26, cellsA rb #[.int .i64 1, .int .i64 3, .int .i64 3, .int .i64 3, .int .i64 1, .int .i64 9] 32, cellsA ab #[.slice vo vs.length vc, .int .i64 at2, .int .i64 come2, .pointer look2, .int .i64 got2] 58, cellsA bb #[.int .i64 st, .bool looked2, .pointer park2, .int .i64 goes2] 62, X2, Y2]))
        case first =>
          have hstep : ∀ i, i < vs.length → (0 ≤ vs.getD i 0 ∧ vs.getD i 0 ≤ 255) ∧ ∃ ad, vo = some ad ∧ w.cell? (ad.add i) = some (.int .u8 (vs.getD i 0)) := fun i hi => ⟨hvr.out i hi, hv.out i hi⟩
          have hst59 : st ≤ 59 := by omega
          have AA := Lib.hid (ahead_any ok hst59 hT.out hvl hv1 hv2.out hstep hC.out hM.out hR.out hO)
          have BB := Lib.hid (behind_any ok hst59 hT.out hC.out hM.out hP.out hO)
          obtain ⟨y0, y1, y2, y3, y4, y5⟩ := cells6 2 hO rfl
          clear hstep
          by_cases hbt : b = true
          · subst hbt
            go_wp2_with (go_at_call 36; refine AA.out.mono ?_; rintro e w6 ⟨rfl, L2, at2, come2, got2, sT2, ms2, look2, X2, k1, k2, k3, k4, k5⟩)
            go_meet
            exact ⟨L2, at2, B, come2, got2, goes, sT2, looked, ms2, look2, park, X2, Y, Lib.hid k1, Lib.hid k2, Lib.hid (by have := hmu.out; have := hb.out; simp at this; omega), Lib.hid k4, hP, k5⟩
          · obtain rfl : b = false := by simpa using hbt
            go_wp2_with (go_at_call 37; refine BB.out.mono ?_; rintro e w6 ⟨rfl, B2, goes2, sT2, looked2, ms2, park2, Y2, k1, k2, k3, k4, k5⟩)
            go_meet
            exact ⟨L, at_, B2, come, got, goes2, sT2, looked2, ms2, look, park2, X, Y2, Lib.hid k1, Lib.hid k2, Lib.hid (by have := hmu.out; have := hb.out; simp at this; omega), hR, Lib.hid k4, k5⟩
        case rest =>
          obtain ⟨L2, at2, B2, come2, got2, goes2, sT2, looked2, ms2, look2, park2, X2, Y2, hC2, hM2, hmu2, hR2, hP2, hO2⟩ := hcut
          have hck := hC2.out.check
          have q0 := (cells_at 3 hO2 rfl 2 (.int .i64 come2) rfl).1
          have q1 := (cells_at 3 hO2 rfl 4 (.int .i64 got2) rfl).1
          have q2 := (cells_at 4 hO2 rfl 0 (.int .i64 st) rfl).1
          have q3 := (cells_at 4 hO2 rfl 3 (.int .i64 goes2) rfl).1
          have hE := Lib.hid (fun m : Nat => hO2.drewN m)
          clear hO2 hO
          rcases (show (got2 = 0 ∧ goes2 = 0) ∨ (got2 = 0 ∧ goes2 = 1 ∧ st < come2) ∨ (got2 = 1 ∧ goes2 = 0 ∧ st < come2) by omega) with ⟨rfl, rfl⟩ | ⟨rfl, rfl, hlt2⟩ | ⟨rfl, rfl, hlt2⟩
          all_goals
            first | (have hle : decide ((come2 : Int) ≤ (st : Int)) = false := by simp; omega) | skip
            go_wp2_with fail
            go_quiet (fail)
            go_wp2_with fail
            go_roundw
            case rel => exact ⟨k + 1, L2, at2, B2, come2, _, _, sT2, looked2, ms2, look2, park2, X2, Y2, by omega, by go_num, hC2, hM2, hmu2, hR2, hP2, hE.out _⟩
            case measure => simp [intOf]; omega
    · obtain rfl : k = os.length + 400 := by omega
      have hst59 : st ≤ 59 := by omega
      obtain ⟨hend1, rfl⟩ := hC.out.ended hst59 (by have := hmu.out.1; omega) (by have := hmu.out.2; have := hC.out.bb; omega)
      have q0 := (cells_at 3 hO rfl 0 (.slice vo vs.length vc) rfl).1
      have q1 := (cells_at 3 hO rfl 1 (.int .i64 (vs.length + 1 : Nat)) rfl).1
      have q2 := (cells_at 3 hO rfl 4 (.int .i64 got) rfl).1
      have q3 := (cells_at 4 hO rfl 3 (.int .i64 goes) rfl).1
      have hE := Lib.hid (fun m : Nat => (hO.drewN m).below)
      clear hO
      rcases (show (got = 0 ∧ goes = 1) ∨ (got = 1 ∧ goes = 0) by omega) with ⟨rfl, rfl⟩ | ⟨rfl, rfl⟩
      all_goals
        go_wp2_with fail
        go_quiet (fail)
        go_wp2_with fail
        go_ret
        exact ⟨by simp, hE.out _⟩
theorem walkCrossOnce (v0 v1 v2 : Value) (w : World) (h0 : Arg Try.prog w 52 v0) (h1 : Arg Try.prog w 5 v1) (h2 : Arg Try.prog w 45 v2) :
    Calls Try.prog 7 #[v0, v1, v2] w fun e w' => e = .returned (.bool true) ∧ Below w.heap.size w w' := by
  obtain ⟨vo, vc, vs, rfl, a1, a2, a3, a4⟩ := h0.bytes Try.underlying52 Try.underlying5 (by kernel_rfl)
  obtain ⟨m, rfl, hm⟩ := h1.int Try.underlying5
  simp [Lit.wf, IntKind.min, IntKind.max, IntKind.signed, IntKind.bits] at hm
  obtain ⟨m, rfl⟩ : ∃ n : Nat, m = n := ⟨m.toNat, by omega⟩
  obtain ⟨ro, rc, rs, rfl, p1, p2, p4⟩ := h2.bools Try.underlying45 Try.underlying4 (by kernel_rfl)
  by_cases hl : vs.length ≤ 60 ∧ rs.length ≤ 400
  · refine conce_core vs vo vc m (m % 60) rs ro rc w (by omega) rfl a1 a2 hl.1 p1 p2 hl.2 (fun i hi => ?_) a4 p4
    have := a3 i hi
    simp [Lit.wf, IntKind.min, IntKind.max, IntKind.signed, IntKind.bits] at this
    simpa using this
  · unfold maxLen at p2 a2
    clear p4 a4 a3
    by_cases hl1 : vs.length ≤ 60
    · have hl2 : 400 < rs.length := by omega
      have hl3 : decide ((60 : Int) < (vs.length : Int)) = false := by simp; omega
      go_enter Try.func7, Try.ntmps7
      go_wp2_with (go_at_call 33; refine (works19_any _).mono ?_; rintro e w1 ⟨rfl, hb1⟩)
      go_ret
      exact ⟨rfl, hb1⟩
    · have hl2 : 60 < vs.length := by omega
      go_enter Try.func7, Try.ntmps7
      go_wp2_with (go_at_call 33; refine (works19_any _).mono ?_; rintro e w1 ⟨rfl, hb1⟩)
      go_ret
      exact ⟨rfl, hb1⟩
end Go.Proofs.Ytooofpplhedgcaa
