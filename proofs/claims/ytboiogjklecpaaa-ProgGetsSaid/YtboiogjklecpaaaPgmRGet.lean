/- forebayref04.Get: the document's answer. -/
import Derived.Test.YtboiogjklecpaaaPgmGet
import Derived.Test.YtboiogjklecpaaaPgmRCheck
import Derived.Test.YtboiogjklecpaaaInsGetsWalk
set_option linter.unusedVariables false
set_option linter.unusedSimpArgs false
namespace Go.Proofs.Ytboiogjklecpaaa
open Go.RowKit
set_option maxRecDepth 100000
set_option maxHeartbeats 8000000
theorem prget_any (s : List UInt8) (w : World) (hs : s.length ≤ 20000) : Calls Try.prog 35 #[.string ⟨s.toArray⟩] w (PRet s w) := by
  obtain ⟨i1, hi1, hw0, hw1', hw2'⟩ := info_parts' Try.infoIns
  obtain ⟨i2, hi2, hq0, hq1', hq2'⟩ := info_parts' Try.infoInsS
  have hO := ((Own.nil (Below.refl _ w)).box #[.int .i64 0, .slice none 0 0] 42).box #[.int .i64 0, .slice none 0 0] 42
  simp only [List.cons_append, List.nil_append, World.size_alloc, Nat.add_assoc, Nat.reduceAdd] at hO
  replace hO := hO.sel [1, 0] (by decide)
  simp only [List.filterMap, List.getElem?_cons_succ, List.getElem?_cons_zero] at hO
  by_cases h6 : s.length < 6
  · have hG : getP s = .error 1 := by unfold getP; rw [if_pos h6]
    replace hG := Lib.hid hG
    have h6i : (s.length : Int) < 6 := by omega
    go_enter Try.func35, Try.ntmps35
    go_upto_region 2 with fail
    generalize (w.alloc (.cells #[.int .i64 0, .slice none 0 0] 42)).alloc (.cells #[.int .i64 0, .slice none 0 0] 42) = w1 at *
    generalize w.heap.size + 1 = nb at *
    generalize w.heap.size = rb at *
    obtain ⟨n0, n1⟩ := And.intro (cells2f 0 hO rfl).1.1 (cells2f 0 hO rfl).2.1
    obtain ⟨⟨r0, r0f⟩, ⟨r1, r1f⟩⟩ := cells2f 1 hO rfl
    go_wp2
    have hZ := ((hO.cset 1 rfl 0 (.int .i64 0)).cset 1 rfl 1 (.slice none 0 0)).sel [1] (by decide)
    generalize (w1.setCell ⟨rb, 0, none⟩ (.int .i64 0)).setCell ⟨rb, 1, none⟩ (.slice none 0 0) = wz at *
    have hZ2 : Own w wz [cellsA rb #[.int .i64 0, .slice none 0 0] 42] := hZ
    obtain ⟨p0, p1⟩ := And.intro (cells2f 0 hZ2 rfl).1.1 (cells2f 0 hZ2 rfl).2.1
    exact bodyPost_ret (v := .tuple #[.agg #[.int .i64 0, .slice none 0 0], .int .i64 1]) (by simp [results, Try.results35, go_sem, p0, p1]) rfl (pret_err hG.out hZ2.below)
  have h6i : ¬ (s.length : Int) < 6 := by omega
  obtain ⟨x0, x1, x2, x3, x4, x5, q, hq⟩ : ∃ x0 x1 x2 x3 x4 x5 q, s = x0 :: x1 :: x2 :: x3 :: x4 :: x5 :: q := by
    match s, h6 with
    | a :: b :: c :: d :: e :: f :: q, _ => exact ⟨a, b, c, d, e, f, q, rfl⟩
    | [], h => simp at h
    | [_], h => simp at h
    | [_, _], h => simp at h
    | [_, _, _], h => simp at h
    | [_, _, _, _], h => simp at h
    | [_, _, _, _, _], h => simp at h
  have hx2 : (⟨s.toArray⟩ : ByteArray).extract 0 3 = ⟨([x0, x1, x2] : List UInt8).toArray⟩ := by
    rw [cut_to, hq]
    rfl
  have hsz : 3 < (⟨s.toArray⟩ : ByteArray).size := by show 3 < s.toArray.size; simp; omega
  by_cases h3 : s.take 3 = [72, 82, 1]
  rotate_left
  · have hG : getP s = .error 4 := by unfold getP; rw [if_neg h6, if_pos h3]
    replace hG := Lib.hid hG
    have h72 : ([x0, x1, x2] == [72, 82, 1]) = false := by
      rw [beq_eq_false_iff_ne]
      intro h
      rw [hq] at h3
      exact h3 h
    clear h3
    replace hq := Lib.hid hq
    go_enter Try.func35, Try.ntmps35
    go_upto_region 2 with fail
    generalize (w.alloc (.cells #[.int .i64 0, .slice none 0 0] 42)).alloc (.cells #[.int .i64 0, .slice none 0 0] 42) = w1 at *
    generalize w.heap.size + 1 = nb at *
    generalize w.heap.size = rb at *
    obtain ⟨n0, n1⟩ := And.intro (cells2f 0 hO rfl).1.1 (cells2f 0 hO rfl).2.1
    obtain ⟨⟨r0, r0f⟩, ⟨r1, r1f⟩⟩ := cells2f 1 hO rfl
    go_wp2
    have hZ := ((hO.cset 1 rfl 0 (.int .i64 0)).cset 1 rfl 1 (.slice none 0 0)).sel [1] (by decide)
    generalize (w1.setCell ⟨rb, 0, none⟩ (.int .i64 0)).setCell ⟨rb, 1, none⟩ (.slice none 0 0) = wz at *
    have hZ2 : Own w wz [cellsA rb #[.int .i64 0, .slice none 0 0] 42] := hZ
    obtain ⟨p0, p1⟩ := And.intro (cells2f 0 hZ2 rfl).1.1 (cells2f 0 hZ2 rfl).2.1
    exact bodyPost_ret (v := .tuple #[.agg #[.int .i64 0, .slice none 0 0], .int .i64 4]) (by simp [results, Try.results35, go_sem, p0, p1]) rfl (pret_err hG.out hZ2.below)
  · have h72 : ([x0, x1, x2] == [72, 82, 1]) = true := by
      rw [hq] at h3
      rw [beq_iff_eq]
      exact h3
    have hi3 : ∀ h : 3 < (⟨s.toArray⟩ : ByteArray).size, (⟨s.toArray⟩ : ByteArray)[3]'h = x3 := by
      subst hq
      intro h
      rfl
    have hx4 : (⟨s.toArray⟩ : ByteArray).extract 4 6 = ⟨((s.drop 4).take 2).toArray⟩ := cut_to
    have hx6 : (⟨s.toArray⟩ : ByteArray).extract 6 s.length = ⟨(s.drop 6).toArray⟩ := cut_at
    have hl2 : ((s.drop 4).take 2).length ≤ 4 := by rw [List.length_take]; omega
    have hN : ofB ((s.drop 3).take 1) = (x3.toNat : Int) := by
      rw [hq]
      simp [ofB_one]
    obtain ⟨N, hNx⟩ : ∃ N, x3.toNat = N := ⟨_, rfl⟩
    have hN255 : N ≤ 255 := by have := x3.toNat_lt; omega
    rw [hNx] at hN
    have hi3' : ∀ h : 3 < (⟨s.toArray⟩ : ByteArray).size, ((⟨s.toArray⟩ : ByteArray)[3]'h).toNat = N := fun h => by rw [hi3 h, hNx]
    clear hi3 hNx
    have hmem0 := (ofB_bd ((s.drop 4).take 2)).1
    obtain ⟨mem, hM⟩ : ∃ mem, ofB ((s.drop 4).take 2) = mem := ⟨_, rfl⟩
    rw [hM] at hmem0
    have OF := fun w => of_any ((s.drop 4).take 2) w hl2
    rw [hM] at OF
    replace OF := Lib.hid OF
    have hG0 : getP s = if sizesP mem N ≠ 0 then .error (sizesP mem N) else endP mem (getFs N (s.drop 6) []) := by
      unfold getP
      rw [if_neg h6, if_neg (by simpa using h3), hM, hN, Int.toNat_natCast]
    replace hq := Lib.hid hq
    replace hN := Lib.hid hN
    replace hM := Lib.hid hM
    clear h3
    obtain ⟨E, hE⟩ : ∃ E, manyP N 16 = E := ⟨_, rfl⟩
    have MN := fun w => rmany_any N 16 w
    rw [hE] at MN
    replace MN := Lib.hid MN
    go_enter Try.func35, Try.ntmps35
    go_upto_region 2 with fail
    generalize (w.alloc (.cells #[.int .i64 0, .slice none 0 0] 42)).alloc (.cells #[.int .i64 0, .slice none 0 0] 42) = w1 at *
    generalize w.heap.size + 1 = nb at *
    generalize w.heap.size = rb at *
    obtain ⟨n0, n1⟩ := And.intro (cells2f 0 hO rfl).1.1 (cells2f 0 hO rfl).2.1
    obtain ⟨⟨r0, r0f⟩, ⟨r1, r1f⟩⟩ := cells2f 1 hO rfl
    go_wp2_with fail
    go_at_call 60
    refine (OF.out _).mono ?_
    rintro e w2 ⟨rfl, rfl⟩
    have hOp := hO.box #[.int .i64 mem, .slice none 0 0] 42
    replace hOp : Own w (w1.alloc (.cells #[.int .i64 mem, .slice none 0 0] 42)) [cellsA w1.heap.size #[.int .i64 mem, .slice none 0 0] 42, cellsA nb #[.int .i64 0, .slice none 0 0] 42, cellsA rb #[.int .i64 0, .slice none 0 0] 42] := hOp.sel [2, 0, 1] (by decide)
    go_upto_region 8 with fail
    generalize w1.alloc (.cells #[.int .i64 mem, .slice none 0 0] 42) = w3 at *
    generalize w1.heap.size = pb at *
    clear hO n0 n1 r0 r0f r1 r1f
    obtain ⟨⟨y0, y0f⟩, ⟨y1, y1f⟩⟩ := cells2f 0 hOp rfl
    obtain ⟨n0, n1⟩ := And.intro (cells2f 1 hOp rfl).1.1 (cells2f 1 hOp rfl).2.1
    obtain ⟨⟨r0, r0f⟩, ⟨r1, r1f⟩⟩ := cells2f 2 hOp rfl
    by_cases hmem1 : mem > 256
    · have hG : getP s = .error 3 := by
        have hs3 : sizesP mem N = 3 := by unfold sizesP; rw [if_pos (by omega)]
        rw [hG0, hs3, if_pos (by simp)]
      replace hG := Lib.hid hG
      clear hG0
      go_wp2
      have hZ := ((hOp.cset 2 rfl 0 (.int .i64 0)).cset 2 rfl 1 (.slice none 0 0)).sel [2] (by decide)
      generalize (w3.setCell ⟨rb, 0, none⟩ (.int .i64 0)).setCell ⟨rb, 1, none⟩ (.slice none 0 0) = wz at *
      have hZ2 : Own w wz [cellsA rb #[.int .i64 0, .slice none 0 0] 42] := hZ
      obtain ⟨p0, p1⟩ := And.intro (cells2f 0 hZ2 rfl).1.1 (cells2f 0 hZ2 rfl).2.1
      exact bodyPost_ret (v := .tuple #[.agg #[.int .i64 0, .slice none 0 0], .int .i64 3]) (by simp [results, Try.results35, go_sem, p0, p1]) rfl (pret_err hG.out hZ2.below)
    have hszE : sizesP mem N = E := by unfold sizesP; rw [if_neg (by omega), hE]
    rw [hszE] at hG0
    clear hszE
    by_cases hE0 : E = 0
    rotate_left
    · have hne : (E != 0) = true := by simpa using hE0
      have hG : getP s = .error E := by rw [hG0, if_pos hE0]
      replace hG := Lib.hid hG
      clear hG0
      replace hE := Lib.hid hE
      go_wp2_with (go_at_call 66; refine (MN.out _).mono ?_; rintro e w4 ⟨rfl, rfl⟩)
      have hZ := ((hOp.cset 2 rfl 0 (.int .i64 0)).cset 2 rfl 1 (.slice none 0 0)).sel [2] (by decide)
      generalize (w3.setCell ⟨rb, 0, none⟩ (.int .i64 0)).setCell ⟨rb, 1, none⟩ (.slice none 0 0) = wz at *
      have hZ2 : Own w wz [cellsA rb #[.int .i64 0, .slice none 0 0] 42] := hZ
      obtain ⟨p0, p1⟩ := And.intro (cells2f 0 hZ2 rfl).1.1 (cells2f 0 hZ2 rfl).2.1
      exact bodyPost_ret (v := .tuple #[.agg #[.int .i64 0, .slice none 0 0], .int .i64 E]) (by simp [results, Try.results35, go_sem, p0, p1]) rfl (pret_err hG.out hZ2.below)
    subst hE0
    obtain ⟨hn0, hn1⟩ := many_ok.1 hE
    rw [if_neg (by simp)] at hG0
    obtain ⟨R, hR⟩ : ∃ R, getFs N (s.drop 6) [] = R := ⟨_, rfl⟩
    rw [hR] at hG0
    replace hG0 := Lib.hid hG0
    clear hE
    obtain ⟨S0, hS0⟩ : ∃ S0, s.drop 6 = S0 := ⟨_, rfl⟩
    have hS0l : S0.length ≤ 20000 := by rw [← hS0, List.length_drop]; omega
    rw [hS0] at hR hx6
    replace hR := Lib.hid hR
    clear hS0
    have hO := (hOp.push (Below.refl _ _) (rowA 52 1 (.slice none 0 0) 0 (([] : List Fn).map hdr)) (Row.nil _ _ _) (by rintro k ⟨⟩)).noneDone
    clear hOp
    go_wp2_with (go_at_call 66; refine (MN.out _).mono ?_; rintro e w4 ⟨rfl, rfl⟩)
    clear y0 y0f y1 y1f n0 n1 r0 r0f r1 r1f
    go_loopw [8, 9] (fun v i wr => ∃ (r : Nat) (S : List UInt8) (ps : List Fn) (oa : Option Addr) (oc : Nat), r ≤ N ∧ i = .int .i64 r ∧ v = .string ⟨S.toArray⟩ ∧ S.length ≤ 20000 ∧ Hid (ps.length = r) ∧ Hid (getFs (N - r) S (ps.map (·.2)) = R) ∧ Own w wr [cellsA pb #[.int .i64 mem, .slice oa r oc] 42, cellsA nb #[.int .i64 0, .slice none 0 0] 42, cellsA rb #[.int .i64 0, .slice none 0 0] 42, rowA 52 1 (.slice oa r oc) r ((ps).map hdr), doneA (ps)]) (fun _ i _ => (N - intOf i).toNat)
    case atStart => exact ⟨0, S0, [], none, 0, by omega, rfl, rfl, hS0l, Lib.hid rfl, hR, hO⟩
    case round =>
      clear hO hR hS0l
      obtain ⟨r, S, ps, oa, oc, hr, rfl, rfl, hSl, hps, hR, hO⟩ := hrel
      obtain ⟨⟨y0, y0f⟩, ⟨y1, y1f⟩⟩ := cells2f 0 hO rfl
      obtain ⟨n0, n1⟩ := And.intro (cells2f 1 hO rfl).1.1 (cells2f 1 hO rfl).2.1
      obtain ⟨⟨r0, r0f⟩, ⟨r1, r1f⟩⟩ := cells2f 2 hO rfl
      by_cases hlt : r < N
      · obtain ⟨m, hm⟩ : ∃ m, N - r = m + 1 := ⟨N - r - 1, by omega⟩
        have hR2 := hR.out
        rw [hm, getFs_next] at hR2
        by_cases h4 : S.length < 2
        · have hG : getP s = .error 1 := by
            rw [hG0.out, ← hR2, if_pos h4]
            rfl
          replace hG := Lib.hid hG
          have h4i : (S.length : Int) < 2 := by omega
          clear hR2
          go_wp2
          have hZ := ((hO.cset 2 rfl 0 (.int .i64 0)).cset 2 rfl 1 (.slice none 0 0)).sel [2] (by decide)
          generalize (wr.setCell ⟨rb, 0, none⟩ (.int .i64 0)).setCell ⟨rb, 1, none⟩ (.slice none 0 0) = wz at *
          have hZ2 : Own w wz [cellsA rb #[.int .i64 0, .slice none 0 0] 42] := hZ
          obtain ⟨p0, p1⟩ := And.intro (cells2f 0 hZ2 rfl).1.1 (cells2f 0 hZ2 rfl).2.1
          exact bodyPost_ret (v := .tuple #[.agg #[.int .i64 0, .slice none 0 0], .int .i64 1]) (by simp [results, Try.results35, go_sem, p0, p1]) rfl (pret_err hG.out hZ2.below)
        · have h4i : ¬ (S.length : Int) < 2 := by omega
          rw [if_neg h4] at hR2
          obtain ⟨k, hk⟩ : ∃ k : Nat, ofB (S.take 2) = k := ⟨(ofB (S.take 2)).toNat, by have := (ofB_bd (S.take 2)).1; omega⟩
          rw [hk, Int.toNat_natCast] at hR2
          have hxa : (⟨S.toArray⟩ : ByteArray).extract 0 2 = ⟨(S.take 2).toArray⟩ := cut_to
          have hxb : (⟨S.toArray⟩ : ByteArray).extract 2 S.length = ⟨(S.drop 2).toArray⟩ := cut_at
          have OK := fun w => of_any (S.take 2) w (by rw [List.length_take]; omega)
          rw [hk] at OK
          replace OK := Lib.hid OK
          obtain ⟨E, hE⟩ : ∃ E, manyP k 200 = E := ⟨_, rfl⟩
          have MK := fun w => rmany_any k 200 w
          rw [hE] at MK hR2
          replace MK := Lib.hid MK
          replace hR2 := Lib.hid hR2
          have hSd : (S.drop 2).length ≤ 20000 := by rw [List.length_drop]; omega
          clear hk
          by_cases hE0 : E = 0
          rotate_left
          · have hne : (E != 0) = true := by simpa using hE0
            have hG : getP s = .error E := by
              rw [hG0.out, ← hR2.out, if_pos hE0]
              rfl
            replace hG := Lib.hid hG
            replace hE := Lib.hid hE
            go_wp2_with (first | (go_at_call 60; refine (OK.out _).mono ?_; rintro e w4 ⟨rfl, rfl⟩) | (go_at_call 66; refine (MK.out _).mono ?_; rintro e w4 ⟨rfl, rfl⟩))
            have hZ := ((hO.cset 2 rfl 0 (.int .i64 0)).cset 2 rfl 1 (.slice none 0 0)).sel [2] (by decide)
            generalize (wr.setCell ⟨rb, 0, none⟩ (.int .i64 0)).setCell ⟨rb, 1, none⟩ (.slice none 0 0) = wz at *
            have hZ2 : Own w wz [cellsA rb #[.int .i64 0, .slice none 0 0] 42] := hZ
            obtain ⟨p0, p1⟩ := And.intro (cells2f 0 hZ2 rfl).1.1 (cells2f 0 hZ2 rfl).2.1
            exact bodyPost_ret (v := .tuple #[.agg #[.int .i64 0, .slice none 0 0], .int .i64 E]) (by simp [results, Try.results35, go_sem, p0, p1]) rfl (pret_err hG.out hZ2.below)
          subst hE0
          obtain ⟨hk0, hk1⟩ := many_ok.1 hE
          have hR3 : Hid (nextF m (ps.map (·.2)) (getC (k - 0) (S.drop 2) []) = R) := Lib.hid (by have := hR2.out; rwa [if_neg (by simp)] at this)
          clear hE hR2
          generalize hS2 : S.drop 2 = S2 at *
          have hO2 := hO.push (Below.refl _ _) (rowA 30 4 (.slice none 0 0) 0 (insL [])) (Row.nil _ _ _) (by rintro k ⟨⟩)
          clear hO hS2
          go_wp2_with (first | (go_at_call 60; refine (OK.out _).mono ?_; rintro e w4 ⟨rfl, rfl⟩) | (go_at_call 66; refine (MK.out _).mono ?_; rintro e w4 ⟨rfl, rfl⟩))
          clear y0 y0f y1 y1f n0 n1 r0 r0f r1 r1f hxa hxb OK
          generalize hwo : wr = wo at *
          clear hwo
          go_loopw [8, 12, 13] (fun v lv j wr => ∃ (q : Nat) (T : List UInt8) (cur : List I4) (ca : Option Addr) (cc : Nat), q ≤ k ∧ j = .int .i64 q ∧ v = .string ⟨T.toArray⟩ ∧ lv = .slice ca q cc ∧ T.length ≤ 20000 ∧ Hid (cur.length = q) ∧ Hid (nextF m (ps.map (·.2)) (getC (k - q) T cur) = R) ∧ Own w wr [cellsA pb #[.int .i64 mem, .slice oa r oc] 42, cellsA nb #[.int .i64 0, .slice none 0 0] 42, cellsA rb #[.int .i64 0, .slice none 0 0] 42, rowA 52 1 (.slice oa r oc) r ((ps).map hdr), doneA (ps), rowA 30 4 (.slice ca q cc) q (insL cur)]) (fun _ _ j _ => (k - intOf j).toNat)
          case atStart => exact ⟨0, S2, [], none, 0, by omega, rfl, rfl, rfl, hSd, Lib.hid rfl, hR3, hO2⟩
          case round =>
            clear hO2 hR3 hSd
            obtain ⟨q, T, cur, ca, cc, hq, rfl, rfl, rfl, hTl, hcl, hR3, hO⟩ := hrel
            obtain ⟨⟨y0, y0f⟩, ⟨y1, y1f⟩⟩ := cells2f 0 hO rfl
            obtain ⟨n0, n1⟩ := And.intro (cells2f 1 hO rfl).1.1 (cells2f 1 hO rfl).2.1
            obtain ⟨⟨r0, r0f⟩, ⟨r1, r1f⟩⟩ := cells2f 2 hO rfl
            by_cases hlt2 : q < k
            · obtain ⟨j, hj⟩ : ∃ j, k - q = j + 1 := ⟨k - q - 1, by omega⟩
              have hR4 := hR3.out
              rw [hj, getC] at hR4
              by_cases h4 : T.length < 4
              · have hG : getP s = .error 1 := by
                  rw [hG0.out, ← hR4, if_pos h4]
                  rfl
                replace hG := Lib.hid hG
                have h4i : (T.length : Int) < 4 := by omega
                clear hR4
                go_wp2
                have hZ := ((hO.cset 2 rfl 0 (.int .i64 0)).cset 2 rfl 1 (.slice none 0 0)).sel [2] (by decide)
                generalize (wr.setCell ⟨rb, 0, none⟩ (.int .i64 0)).setCell ⟨rb, 1, none⟩ (.slice none 0 0) = wz at *
                have hZ2 : Own w wz [cellsA rb #[.int .i64 0, .slice none 0 0] 42] := hZ
                obtain ⟨p0, p1⟩ := And.intro (cells2f 0 hZ2 rfl).1.1 (cells2f 0 hZ2 rfl).2.1
                exact bodyPost_ret (v := .tuple #[.agg #[.int .i64 0, .slice none 0 0], .int .i64 1]) (by simp [results, Try.results35, go_sem, p0, p1]) rfl (pret_err hG.out hZ2.below)
              have h4i : ¬ (T.length : Int) < 4 := by omega
              obtain ⟨b0, b1, b2, b3, T2, hT⟩ : ∃ b0 b1 b2 b3 T2, T = b0 :: b1 :: b2 :: b3 :: T2 := by
                match T, h4 with
                | b0 :: b1 :: b2 :: b3 :: q, _ => exact ⟨b0, b1, b2, b3, q, rfl⟩
                | [], h => simp at h
                | [_], h => simp at h
                | [_, _], h => simp at h
                | [_, _, _], h => simp at h
              have hxa : (⟨T.toArray⟩ : ByteArray).extract 0 4 = ⟨([b0, b1, b2, b3] : List UInt8).toArray⟩ := by
                rw [cut_to, hT]
                rfl
              have hxb : (⟨T.toArray⟩ : ByteArray).extract 4 T.length = ⟨T2.toArray⟩ := by
                rw [cut_at, hT]
                rfl
              have hT2 : T2.length ≤ 20000 := by rw [hT] at hTl; simp at hTl; omega
              obtain ⟨⟨⟨o, a, b, c⟩, E⟩, hX⟩ : ∃ x, getI [b0, b1, b2, b3] = x := ⟨_, rfl⟩
              have GI := fun w => rget_four b0 b1 b2 b3 w
              rw [hX] at GI
              simp only [insV] at GI
              replace GI := Lib.hid GI
              rw [if_neg h4] at hR4
              have hR5 : Hid (nextF m (ps.map (·.2)) (if E ≠ 0 then .error E else getC j T2 (cur ++ [(o, a, b, c)])) = R) := Lib.hid (by
                rw [← hR4, hT]
                simp only [List.take_succ_cons, List.take_zero, List.drop_succ_cons, List.drop_zero, hX])
              clear hR4 hX
              replace hT := Lib.hid hT
              go_wp2_with fail
              go_at_call 25
              refine (GI.out _).mono ?_
              rintro e w2 ⟨rfl, hb2⟩
              have hO3 := (hO.grow hb2).box #[.int .i64 o, .int .i64 a, .int .i64 b, .int .i64 c] 30
              clear hO hb2 y0 y0f y1 y1f n0 n1 r0 r0f r1 r1f GI hxa
              by_cases hE0 : E = 0
              rotate_left
              · have hne : (E != 0) = true := by simpa using hE0
                have hG : getP s = .error E := by
                  rw [hG0.out, ← hR5.out, if_pos hE0]
                  rfl
                replace hG := Lib.hid hG
                obtain ⟨n0, n1⟩ := And.intro (cells2f 1 hO3 rfl).1.1 (cells2f 1 hO3 rfl).2.1
                obtain ⟨⟨r0, r0f⟩, ⟨r1, r1f⟩⟩ := cells2f 2 hO3 rfl
                go_upto_region 31 with fail
                generalize w2.alloc (.cells #[.int .i64 o, .int .i64 a, .int .i64 b, .int .i64 c] 30) = w3 at *
                go_wp2
                have hZ := ((hO3.cset 2 rfl 0 (.int .i64 0)).cset 2 rfl 1 (.slice none 0 0)).sel [2] (by decide)
                generalize (w3.setCell ⟨rb, 0, none⟩ (.int .i64 0)).setCell ⟨rb, 1, none⟩ (.slice none 0 0) = wz at *
                have hZ2 : Own w wz [cellsA rb #[.int .i64 0, .slice none 0 0] 42] := hZ
                obtain ⟨p0, p1⟩ := And.intro (cells2f 0 hZ2 rfl).1.1 (cells2f 0 hZ2 rfl).2.1
                exact bodyPost_ret (v := .tuple #[.agg #[.int .i64 0, .slice none 0 0], .int .i64 E]) (by simp [results, Try.results35, go_sem, p0, p1]) rfl (pret_err hG.out hZ2.below)
              subst hE0
              have hR6 : Hid (nextF m (ps.map (·.2)) (getC (k - (q + 1)) T2 (cur ++ [(o, a, b, c)])) = R) := Lib.hid (by
                have := hR5.out
                rw [if_neg (by simp)] at this
                rwa [show k - (q + 1) = j by omega])
              clear hR5
              go_upto_region 33 with fail
              generalize w2.alloc (.cells #[.int .i64 o, .int .i64 a, .int .i64 b, .int .i64 c] 30) = w3 at *
              generalize w2.heap.size = xb at *
              obtain ⟨⟨t0, _⟩, ⟨t1, _⟩, ⟨t2, _⟩, ⟨t3, _⟩⟩ := cells4f 6 hO3 rfl
              go_wp2_with (at_builtin; refine wpList_append_lit' _ rfl _ _ 52 rfl 30 i1 (.agg #[.int .i64 0, .int .i64 0, .int .i64 0, .int .i64 0]) 4 32 Try.underlying52 hi1 hw0 hw1' hw2' rfl (by decide) (.slice ca q cc) q (insL cur) rfl (hO3.row 5 rfl) _ _ 1 _ rfl rfl rfl ?c1 ?b1 ?b2 ?_)
              case c1 => simp [Value.oneCell']
              case b1 => unfold maxLen; omega
              case b2 => omega
              intro ao2 cap2 w5 hr2 ht2 hf2
              have hO4 := hO3.move 5 rfl (Moves.of_append hr2 ht2 hf2)
              clear hO3 hr2 ht2 hf2 t0 t1 t2 t3
              have hO5 := hO4.sel [0, 1, 2, 3, 4, 5] (by decide)
              clear hO4
              go_wp2
              go_roundw
              case rel => exact ⟨q + 1, T2, cur ++ [(o, a, b, c)], ao2, cap2, by omega, by go_num, by first | rfl | rw [hxb], rfl, hT2, Lib.hid (by rw [List.length_append, List.length_singleton, hcl.out]), hR6, by rw [insL_app, insL_one]; exact hO5⟩
              case measure => simp [intOf]; omega
            · obtain rfl : q = k := by omega
              go_upto_region 35 with fail
              go_wp2_with (at_builtin; refine wpList_append_lit' _ rfl _ _ 40 rfl 52 i2 (.slice none 0 0) 1 24 Try.underlying40 hi2 hq0 hq1' hq2' rfl (by decide) (.slice oa r oc) r (ps.map hdr) rfl (hO.row 3 rfl) _ _ 1 _ rfl rfl rfl ?c1 ?b1 ?b2 ?_)
              case c1 => simp [Value.oneCell']
              case b1 => unfold maxLen; omega
              case b2 => omega
              intro ao2 cap2 w5 hr2 ht2 hf2
              have hO5 := hO.move 3 rfl (Moves.of_append hr2 ht2 hf2)
              clear hO hr2 ht2 hf2 y0 y0f y1 y1f n0 n1 r0 r0f r1 r1f
              obtain ⟨⟨y0, y0f⟩, ⟨y1, y1f⟩⟩ := cells2f 0 hO5 rfl
              go_wp2
              have hO6 := hO5.cset 0 rfl 1 (.slice ao2 (r + 1) cap2)
              go_roundw
              case rel => exact ⟨r + 1, T, ps ++ [((ca, cc), cur)], ao2, cap2, by omega, by go_num, rfl, hTl, Lib.hid (by rw [List.length_append, List.length_singleton, hps.out]), Lib.hid (by
                have := hR3.out
                rw [Nat.sub_self, getC, nextF] at this
                rw [show N - (r + 1) = m by omega, List.map_append]
                exact this), by
                have hq := hcl.out
                subst hq
                have h7 := (show Own w _ ([cellsA pb #[.int .i64 mem, .slice ao2 (r + 1) cap2] 42, cellsA nb #[.int .i64 0, .slice none 0 0] 42, cellsA rb #[.int .i64 0, .slice none 0 0] 42, rowA 52 1 (.slice ao2 (r + 1) cap2) (r + 1) (ps.map hdr ++ [.slice ca cur.length cc])] ++ [doneA ps, rowA 30 4 (hdr ((ca, cc), cur)) cur.length (insL cur)]) from hO6).finish (p := ((ca, cc), cur))
                rw [List.map_append]
                exact h7⟩
              case measure => simp [intOf]; omega
      · obtain rfl : r = N := by omega
        have hR2 : Hid (R = .ok (ps.map (·.2), S)) := Lib.hid (by
          have := hR.out
          rw [Nat.sub_self, getFs] at this
          exact this.symm)
        have hL : LiesF wr oa oc (ps.map (·.2)) := liesF_of (hO.row 3 rfl) (hO.at 4 rfl) hps.out.symm
        by_cases hS : S = []
        rotate_left
        · have hG : getP s = .error 2 := by
            rw [hG0.out, hR2.out, endP, if_pos hS]
          replace hG := Lib.hid hG
          have hSb : (S == []) = false := by simpa using hS
          clear hS
          go_wp2
          have hZ := ((hO.cset 2 rfl 0 (.int .i64 0)).cset 2 rfl 1 (.slice none 0 0)).sel [2] (by decide)
          generalize (wr.setCell ⟨rb, 0, none⟩ (.int .i64 0)).setCell ⟨rb, 1, none⟩ (.slice none 0 0) = wz at *
          have hZ2 : Own w wz [cellsA rb #[.int .i64 0, .slice none 0 0] 42] := hZ
          obtain ⟨p0, p1⟩ := And.intro (cells2f 0 hZ2 rfl).1.1 (cells2f 0 hZ2 rfl).2.1
          exact bodyPost_ret (v := .tuple #[.agg #[.int .i64 0, .slice none 0 0], .int .i64 2]) (by simp [results, Try.results35, go_sem, p0, p1]) rfl (pret_err hG.out hZ2.below)
        subst hS
        have hG1 : getP s = if checkP mem (ps.map (·.2)) ≠ 0 then .error (checkP mem (ps.map (·.2))) else .ok (mem, ps.map (·.2)) := by
          rw [hG0.out, hR2.out, endP, if_neg (by simp)]
        obtain ⟨E, hE⟩ : ∃ E, checkP mem (ps.map (·.2)) = E := ⟨_, rfl⟩
        have C := prcheck_any mem (ps.map (·.2)) oa oc wr hL
        rw [hE] at C hG1
        rw [List.length_map, hps.out] at C
        replace C := Lib.hid C
        replace hE := Lib.hid hE
        go_wp2_with fail
        go_at_call 37
        refine C.out.mono ?_
        rintro e w2 ⟨rfl, hb2⟩
        have hO2 := hO.grow hb2
        clear y0 y0f y1 y1f n0 n1 r0 r0f r1 r1f hO hL
        obtain ⟨⟨y0, y0f⟩, ⟨y1, y1f⟩⟩ := cells2f 0 hO2 rfl
        obtain ⟨n0, n1⟩ := And.intro (cells2f 1 hO2 rfl).1.1 (cells2f 1 hO2 rfl).2.1
        obtain ⟨⟨r0, r0f⟩, ⟨r1, r1f⟩⟩ := cells2f 2 hO2 rfl
        by_cases hE0 : E = 0
        · subst hE0
          have hG : getP s = .ok (mem, ps.map (·.2)) := by rw [hG1]; simp
          replace hG := Lib.hid hG
          clear hG1
          go_wp2
          have hZ := ((hO2.cset 2 rfl 0 (.int .i64 mem)).cset 2 rfl 1 (.slice oa r oc)).sel [2, 3, 4] (by decide)
          generalize (w2.setCell ⟨rb, 0, none⟩ (.int .i64 mem)).setCell ⟨rb, 1, none⟩ (.slice oa r oc) = wz at *
          have hZ2 : Own w wz [cellsA rb #[.int .i64 mem, .slice oa r oc] 42, rowA 52 1 (.slice oa r oc) r (ps.map hdr), doneA ps] := hZ
          obtain ⟨p0, p1⟩ := And.intro (cells2f 0 hZ2 rfl).1.1 (cells2f 0 hZ2 rfl).2.1
          exact bodyPost_ret (v := .tuple #[.agg #[.int .i64 mem, .slice oa r oc], .int .i64 0]) (by simp [results, Try.results35, go_sem, p0, p1]) rfl (by
            unfold PRet
            rw [hG.out]
            exact ⟨oa, oc, by simp [resF, resE, hps.out], liesF_of (hZ2.row 1 rfl) (hZ2.at 2 rfl) hps.out.symm, hZ2.below⟩)
        · have hne : (E != 0) = true := by simpa using hE0
          have hG : getP s = .error E := by rw [hG1, if_pos hE0]
          replace hG := Lib.hid hG
          clear hG1
          go_wp2
          have hZ := ((hO2.cset 2 rfl 0 (.int .i64 0)).cset 2 rfl 1 (.slice none 0 0)).sel [2] (by decide)
          generalize (w2.setCell ⟨rb, 0, none⟩ (.int .i64 0)).setCell ⟨rb, 1, none⟩ (.slice none 0 0) = wz at *
          have hZ2 : Own w wz [cellsA rb #[.int .i64 0, .slice none 0 0] 42] := hZ
          obtain ⟨p0, p1⟩ := And.intro (cells2f 0 hZ2 rfl).1.1 (cells2f 0 hZ2 rfl).2.1
          exact bodyPost_ret (v := .tuple #[.agg #[.int .i64 0, .slice none 0 0], .int .i64 E]) (by simp [results, Try.results35, go_sem, p0, p1]) rfl (pret_err hG.out hZ2.below)
end Go.Proofs.Ytboiogjklecpaaa
