/- Package core: what the statements ask first. -/
import Derived.Test.YtcegncbnanbenaaCor4
set_option linter.unusedVariables false
set_option linter.unusedSimpArgs false
namespace Go.Proofs.Ytcegncbnanbenaa
open Go.RowKit
set_option maxRecDepth 100000
set_option maxHeartbeats 4000000
theorem liesF_lit (w : World) (l : List I4) (n : Nat) (hn : l.length = n) (hm : n ≤ 1000) : LiesF ((w.alloc (.cells (insL l).toArray 29)).alloc (.cells #[.slice (some ⟨w.heap.size, 0, none⟩) n n] 30)) (some ⟨w.heap.size + 1, 0, none⟩) 1 [l] := by
  subst hn
  have h1 := (Own.nil (Below.refl _ w)).row_made 29 4 (insL l).toArray l.length (by unfold maxLen; omega) (by simp [insL_len])
  have h2 := h1.lit1 30 (.slice (some ⟨w.heap.size, 0, none⟩) l.length l.length)
  rw [World.size_alloc] at h2
  have hr : Row _ 30 1 (.slice (some ⟨w.heap.size + 1, 0, none⟩) 1 1) 1 ([((some ⟨w.heap.size, 0, none⟩, l.length), l)].map hdr) := h2.row 1 rfl
  refine liesF_of hr ?_ rfl
  intro p hp
  simp at hp
  subst hp
  exact h2.row 0 rfl
theorem lies_lit1 (w : World) (x : Int) : Lies (w.alloc (.cells #[.int .i64 x] 3)) (some ⟨w.heap.size, 0, none⟩) 1 [x] := Lies.of_row (Row.lit w 3 1 #[.int .i64 x] 1 (by simp [maxLen]) rfl) rfl
theorem Own.rebase {w0 w1 w : World} {l : List Ast} (h : Own w1 w l) (hb : Below w0.heap.size w0 w1) : Own w0 w l := ⟨below_chain hb h.below, h.all, fun A hA k hk => Nat.le_trans hb.size (h.own A hA k hk), h.sep⟩
def fsW : List (List I4) := [[(17, 1, 0, 0), (0, 0, 0, 0)]]
theorem askW : askD 1 0 0 0 [7, 0] = ([7, 0], 7, true) := by decide
def qW : QP := ⟨1, 1, 2, 2, 3, false, false⟩
theorem cnt3 : cnt ((List.replicate 3 false).set 1 true) = 1 := by decide
theorem works25_any (w : World) : Calls Try.prog 7 #[] w fun e w' => e = .returned (.bool true) ∧ Below w.heap.size w w' := by
  have hL := liesF_lit w [(17, 1, 0, 0), (0, 0, 0, 0)] 2 rfl (by omega)
  rw [show (insL [(17, 1, 0, 0), (0, 0, 0, 0)]).toArray = #[.int .i64 17, .int .i64 1, .int .i64 0, .int .i64 0, .int .i64 0, .int .i64 0, .int .i64 0, .int .i64 0] from rfl] at hL
  go_enter Try.func7, Try.ntmps7
  go_upto_region 2 with fail
  have hbA : Below w.heap.size w ((w.alloc (.cells #[.int .i64 17, .int .i64 1, .int .i64 0, .int .i64 0, .int .i64 0, .int .i64 0, .int .i64 0, .int .i64 0] 29)).alloc (.cells #[.slice (some ⟨w.heap.size, 0, none⟩) 2 2] 30)) := by go_grown
  have hsz : ((w.alloc (.cells #[.int .i64 17, .int .i64 1, .int .i64 0, .int .i64 0, .int .i64 0, .int .i64 0, .int .i64 0, .int .i64 0] 29)).alloc (.cells #[.slice (some ⟨w.heap.size, 0, none⟩) 2 2] 30)).heap.size = w.heap.size + 1 + 1 := by simp [World.size_alloc]
  generalize (w.alloc (.cells #[.int .i64 17, .int .i64 1, .int .i64 0, .int .i64 0, .int .i64 0, .int .i64 0, .int .i64 0, .int .i64 0] 29)).alloc (.cells #[.slice (some ⟨w.heap.size, 0, none⟩) 2 2] 30) = u1 at *
  have hP := (Own.nil hbA).box #[.int .i64 2, .slice (some ⟨w.heap.size + 1, 0, none⟩) 1 1] 33
  simp only [List.nil_append] at hP
  rw [hsz] at hP
  clear hsz
  have c0 := (hP.cget 0 rfl 0).1
  have c1 := (hP.cget 0 rfl 1).1
  simp at c0 c1
  have hL2 := hL.below (w' := u1.alloc (.cells #[.int .i64 2, .slice (some ⟨w.heap.size + 1, 0, none⟩) 1 1] 33)) (by go_grown)
  have hbP := hP.below
  clear hL hbA hP
  generalize hab : w.heap.size + 1 = ab at *
  clear hab
  generalize u1.alloc (.cells #[.int .i64 2, .slice (some ⟨ab, 0, none⟩) 1 1] 33) = u2 at *
  generalize hpb : ab + 1 = pb at *
  clear hpb
  have KN := Lib.hid (show Calls Try.prog 8 #[.agg #[.int .i64 2, .slice (some ⟨ab, 0, none⟩) 1 1], .slice (some ⟨u2.heap.size, 0, none⟩) 1 1, .agg #[.int .i64 1, .int .i64 1, .int .i64 2, .int .i64 2, .int .i64 3, .bool false, .bool false]] (u2.alloc (.cells #[.int .i64 7] 3)) fun e w' => ∃ cb, e = .returned (.tuple #[.pointer (some ⟨cb, 0, none⟩), .int .i64 0]) ∧ CoreNew (u2.alloc (.cells #[.int .i64 7] 3)) w' qW 2 fsW [7] cb from knew qW 2 fsW (some ⟨ab, 0, none⟩) 1 [7] (some ⟨u2.heap.size, 0, none⟩) 1 (u2.alloc (.cells #[.int .i64 7] 3)) (hL2.below (by go_grown)) (lies_lit1 u2 7) (by rfl))
  have hb3 : Below w.heap.size w (u2.alloc (.cells #[.int .i64 7] 3)) := below_chain hbP (by go_grown)
  clear hL2 hbP
  go_upto_region 3 with (go_at_call 8; go_loud (refine KN.out.mono ?_); rintro e w4 ⟨cb, rfl, hN⟩)
  obtain ⟨gs, sb, gd, sd, ob, lb, tb, ag, hb', rb, M, oa, oc, ps, bs', fr', pk', hM, hps, bv, hO⟩ := hN
  replace hO := hO.rebase hb3
  obtain rfl : M = 2 := by have h2 : (M : Int) = 2 := hM; omega
  clear KN hb3 c0 c1 hM
  have hO : Own w w4 (arenaL ag hb' bv ((List.replicate 3 false).set 1 true) bs' fr' pk' (tabL tb gs sb ag rb 3 1 2 1 2 (wordsL qW) (framesL 2) (coreL cb gs gd sd ob lb qW (.slice oa 1 oc) (.pointer (some ⟨tb, 0, none⟩)) 0 0 0 [7, 0] 1 ps))) := hO
  generalize wordsL qW = wl at *
  generalize framesL 2 = fl at *
  have P1 := Lib.hid (cask (cb := cb) (gs := gs) (gd := gd) (sd := sd) (ob := ob) (lb := lb) (q := qW) (fv := .slice oa 1 oc) (ft := .pointer (some ⟨tb, 0, none⟩)) (se := 0) (st := 0) (wy := 0) (ds := [7, 0]) hO 6 7 rfl rfl 1 0 0 0 0 [7, 0] 7 true askW)
  clear hO
  go_upto_region 6 with (go_at_call 9; refine P1.out.mono ?_; rintro e w5 ⟨rfl, hO⟩; replace hO := Lib.hid hO)
  have P2 := Lib.hid (cserial hO.out 6 rfl ⟨by decide, by decide⟩)
  clear P1 hO
  go_wp2_with fail
  go_at_call 16
  refine P2.out.mono ?_
  rintro e w6 ⟨rfl, hO⟩
  have P3 := Lib.hid (cserial hO 6 rfl ⟨by decide, by decide⟩)
  clear P2 hO
  go_upto_region 7 with (go_at_call 16; refine P3.out.mono ?_; rintro e w7 ⟨rfl, hO⟩; replace hO := Lib.hid hO)
  have P4 := Lib.hid (cstop hO.out 6 rfl 1 0)
  clear P3 hO
  go_upto_region 8 with (go_at_call 14; refine P4.out.mono ?_; rintro e w8 ⟨rfl, hO⟩; replace hO := Lib.hid hO)
  have P5 := Lib.hid (cstatus (w := w8) (cb := cb) (st := 1) (wy := 0) (fun n => ((hO.out.drewN n).cget 6 rfl 21).1) (fun n => ((hO.out.drewN n).cget 6 rfl 22).1))
  clear P4
  go_upto_region 9 with (go_at_call 15; refine P5.out.mono ?_; rintro e w9 ⟨rfl, nq, rfl⟩)
  have hO9 := hO.out.drewN nq
  clear P5 hO
  generalize w8.drewN nq = u at *
  have hlf : LiesF u oa oc (ps.map (·.2)) := liesF_of (hO9.row 10 rfl) (hO9.at 11 rfl) (by have := congrArg List.length hps; simp at this; exact this.symm)
  rw [hps] at hlf
  have P6 := Lib.hid (ccode (w := u) (cb := cb) (fs := fsW) (hO9.cget 6 rfl 0).1 hlf 0 0 (17, 1, 0, 0) rfl)
  have P7 := Lib.hid (fun (w' : World) (hb : Below u.heap.size u w') => cframes (w := w') (cb := cb) (v := .pointer (some ⟨tb, 0, none⟩)) ((hO9.grow hb).cget 6 rfl 10).1)
  have P8 := Lib.hid (fun (w' : World) (hb : Below u.heap.size u w') => show Calls Try.prog 45 #[.pointer (some ⟨tb, 0, none⟩)] w' fun e w2 => e = .returned (.int .i64 1) ∧ Below w.heap.size w w2 from
    (tused (h := ⟨bv, hO9.grow hb⟩) (by decide)).mono fun e w2 ⟨he, bv2, hw⟩ => ⟨by rw [he, cnt3], hw.below⟩)
  clear hO9 hlf
  go_wp2_with (first | (go_at_call 17; refine P6.out.mono ?_; rintro e w10 ⟨rfl, hb10⟩) | (go_at_call 19; refine (P7.out _ hb10).mono ?_; rintro e w11 ⟨rfl, rfl⟩) | (go_at_call 45; refine (P8.out _ hb10).mono ?_; rintro e w12 ⟨rfl, hbE⟩))
  go_ret
  exact ⟨rfl, hbE⟩
end Go.Proofs.Ytcegncbnanbenaa
