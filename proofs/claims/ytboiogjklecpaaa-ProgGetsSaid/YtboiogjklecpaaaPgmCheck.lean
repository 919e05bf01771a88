/- Package prog: what is wrong with a program. -/
import Derived.Test.YtboiogjklecpaaaPgmMem
set_option linter.unusedVariables false
set_option linter.unusedSimpArgs false
namespace Go.Proofs.Ytboiogjklecpaaa
open Go.RowKit
set_option maxRecDepth 100000
set_option maxHeartbeats 4000000
theorem many_any (n m : Int) (w : World) : Calls Try.prog 64 #[.int .i64 n, .int .i64 m] w fun e w' => e = .returned (.int .i64 (manyP n m)) ∧ w = w' := by
  by_cases h1 : n = 0 <;> by_cases h2 : n > m
  all_goals
    go_enter Try.func64, Try.ntmps64
    go_wp2
    go_ret
    exact ⟨by simp [manyP, h1, h2] <;> (try omega), rfl⟩
theorem sizes_any (n m : Int) (w : World) : Calls Try.prog 63 #[.int .i64 n, .int .i64 m] w fun e w' => e = .returned (.int .i64 (sizesP n m)) ∧ w = w' := by
  by_cases h1 : n < 0 <;> by_cases h2 : n > 256
  all_goals
    go_enter Try.func63, Try.ntmps63
    go_wp2_with (go_at_call 64; refine (many_any _ _ _).mono ?_; rintro e w2 ⟨rfl, rfl⟩)
    go_ret
    exact ⟨by simp [sizesP, h1, h2] <;> (try omega), rfl⟩
theorem leads_any (o a b c : Int) (code funcs : Int) (w : World) : Calls Try.prog 76 #[.agg #[.int .i64 o, .int .i64 a, .int .i64 b, .int .i64 c], .int .i64 code, .int .i64 funcs] w fun e w' => e = .returned (.bool (leadsP (o, a, b, c) code funcs)) ∧ Below w.heap.size w w' := by
  rcases (show o = 18 ∨ o = 19 ∨ o = 20 ∨ o = 22 ∨ (o ≠ 18 ∧ o ≠ 19 ∧ o ≠ 20 ∧ o ≠ 22) by omega) with rfl | rfl | rfl | rfl | ⟨h1, h2, h3, h4⟩
  all_goals
    go_enter Try.func76, Try.ntmps76
    go_wp2
    go_ret
    exact ⟨by simp [leadsP, *], by go_grown⟩
theorem body_at {l : List I4} {r : Nat} {x : I4} {code funcs : Int} (h : r < l.length) (hx : l.getD r (0, 0, 0, 0) = x) : bodyP code funcs (l.drop r) = if chk x ≠ 0 then chk x else if leadsP x code funcs = true then bodyP code funcs (l.drop (r + 1)) else 11 := by
  rw [List.drop_eq_getElem_cons h, bodyP]
  rw [List.getD_eq_getElem?_getD, List.getElem?_eq_getElem h] at hx
  simp only [Option.getD_some] at hx
  rw [hx]
theorem function_any (l : List I4) (ao : Option Addr) (cap : Nat) (funcs : Int) (w : World) (h : LiesI w ao cap l) : Calls Try.prog 65 #[.slice ao l.length cap, .int .i64 funcs] w fun e w' => e = .returned (.int .i64 (funcP funcs l)) ∧ Below w.heap.size w w' := by
  have hc := h.1
  have hc2 := h.2.1
  unfold maxLen at hc2
  have M := Lib.hid (fun w => many_any l.length 200 w)
  by_cases hm : manyP l.length 200 = 0
  · rw [hm] at M
    go_enter Try.func65, Try.ntmps65
    go_wp2_with (go_at_call 64; refine (M.out _).mono ?_; rintro e w2 ⟨rfl, rfl⟩)
    go_loopw [17] (fun i wr => ∃ r : Nat, r ≤ l.length ∧ i = .int .i64 r ∧ Hid (bodyP l.length funcs l = bodyP l.length funcs (l.drop r)) ∧ Below w.heap.size w wr) (fun i _ => (l.length - intOf i).toNat)
    case atStart => exact ⟨0, by omega, rfl, Lib.hid rfl, Below.refl _ _⟩
    case round =>
      obtain ⟨r, hr, rfl, hB, hb⟩ := hrel
      by_cases hlt : r < l.length
      · obtain ⟨g, off, rfl, hx⟩ := (h.below hb).get hlt
        obtain ⟨⟨o, a, b, c⟩, hX⟩ : ∃ x, l.getD r (0, 0, 0, 0) = x := ⟨_, rfl⟩
        rw [hX] at hx
        obtain ⟨x0, x1, x2, x3⟩ := hx
        simp only at x0 x1 x2 x3
        replace hX := Lib.hid hX
        go_wp2_with fail
        have hO := (Own.nil hb).box #[.int .i64 o, .int .i64 a, .int .i64 b, .int .i64 c] 30
        generalize wr.alloc (.cells #[.int .i64 o, .int .i64 a, .int .i64 b, .int .i64 c] 30) = u at *
        generalize wr.heap.size = xb at *
        clear x0 x1 x2 x3
        go_at_call 24
        obtain ⟨E, hE⟩ : ∃ E, checkI o a b c = E := ⟨_, rfl⟩
        have hbody := Lib.hid (body_at (code := l.length) (funcs := funcs) hlt hX.out)
        refine (Own.lift (check_any o a b c u) hO (.int .i64 E) (by rw [hE])).mono ?_
        rintro e w2 ⟨rfl, hO2⟩
        clear hO
        by_cases hE0 : E = 0
        · subst hE0
          obtain ⟨⟨x0, _⟩, ⟨x1, _⟩, ⟨x2, _⟩, ⟨x3, _⟩⟩ := cells4f 0 hO2 rfl
          obtain ⟨L, hL⟩ : ∃ L, leadsP (o, a, b, c) l.length funcs = L := ⟨_, rfl⟩
          have LD := Lib.hid (Own.lift (leads_any o a b c l.length funcs w2) hO2 (.bool L) (by rw [hL]))
          cases L with
          | true =>
            go_wp2_with (go_at_call 76; refine LD.out.mono ?_; rintro e w3 ⟨rfl, hO3⟩)
            go_round
            case rel => exact ⟨r + 1, by omega, by go_num, Lib.hid (by rw [hB.out, hbody.out, if_neg (by simp [chk, hE]), if_pos hL]), hO3.below⟩
            case measure => simp [intOf]; omega
          | false =>
            have hR := Lib.hid (show funcP funcs l = 11 by
              have hb0 := hbody.out
              rw [if_neg (by simp [chk, hE]), if_neg (by rw [hL]; simp), ← hB.out] at hb0
              unfold funcP
              rw [if_neg (by simpa using hm), hb0]
              simp)
            go_wp2_with (go_at_call 76; refine LD.out.mono ?_; rintro e w3 ⟨rfl, hO3⟩)
            go_ret
            exact ⟨by rw [hR.out]; first | done | rfl, hO3.below⟩
        · have hne : (E != 0) = true := by simpa using hE0
          have hR := Lib.hid (show funcP funcs l = E by
            have hb0 := hbody.out
            have hc0 : chk (o, a, b, c) = E := hE
            rw [hc0, if_pos hE0, ← hB.out] at hb0
            unfold funcP
            rw [if_neg (by simpa using hm), hb0, if_pos hE0])
          go_wp2
          go_ret
          exact ⟨by rw [hR.out]; first | done | rfl, hO2.below⟩
      · obtain rfl : r = l.length := by omega
        obtain ⟨n0, n1⟩ := many_ok.1 hm
        have hlp : l.length - 1 < l.length := by omega
        obtain ⟨g, off, rfl, hx⟩ := (h.below hb).get hlp
        obtain ⟨o, hX⟩ : ∃ x, (l.getD (l.length - 1) (0, 0, 0, 0)).1 = x := ⟨_, rfl⟩
        have x0 := hx.1
        rw [hX] at x0
        have hR : funcP funcs l = if endsB o = true then 0 else 12 := by
          unfold funcP
          rw [if_neg (by simpa using hm), hB.out]
          simp only [List.drop_length, bodyP, lastP, hX]
          simp
        replace hR := Lib.hid hR
        clear hx hB hX
        have e1 : ((l.length : Int) - 1) = ((l.length - 1 : Nat) : Int) := by omega
        have e2 : 0 ≤ (l.length : Int) - 1 := by omega
        obtain ⟨q, hq⟩ : ∃ q, (l.length - 1) = q := ⟨_, rfl⟩
        rw [hq] at x0 hlp e1
        clear hq
        rcases (show o = 0 ∨ o = 18 ∨ o = 25 ∨ (o ≠ 0 ∧ o ≠ 18 ∧ o ≠ 25) by omega) with rfl | rfl | rfl | ⟨h1, h2, h3⟩
        all_goals
          go_wp2
          go_ret
          exact ⟨by rw [hR.out]; simp [endsB]; first | done | omega | simp [*], hb⟩
  · obtain ⟨E, hE⟩ : ∃ E, manyP l.length 200 = E := ⟨_, rfl⟩
    rw [hE] at M hm
    have hne : (E != 0) = true := by simpa using hm
    have hR : funcP funcs l = E := by unfold funcP; rw [hE, if_pos hm]
    rw [hR]
    clear hR hE
    go_enter Try.func65, Try.ntmps65
    go_wp2_with (go_at_call 64; refine (M.out _).mono ?_; rintro e w2 ⟨rfl, rfl⟩)
    go_ret
    exact ⟨rfl, Below.refl _ _⟩
theorem cells2f {w0 w : World} {l : List Ast} {b : Nat} {v0 v1 : Value} {t : TypeId} (i : Nat) (h : Own w0 w l) (hi : l[i]? = some (cellsA b #[v0, v1] t)) : (w.cell? ⟨b, 0, none⟩ = some v0 ∧ w.frozen? ⟨b, 0, none⟩ = false) ∧ (w.cell? ⟨b, 1, none⟩ = some v1 ∧ w.frozen? ⟨b, 1, none⟩ = false) :=
  ⟨by simpa using h.cget i hi 0, by simpa using h.cget i hi 1⟩
theorem funcs_at {fs : List (List I4)} {r : Nat} {funcs : Int} (h : r < fs.length) : funcsP funcs (fs.drop r) = if funcP funcs (fs.getD r []) ≠ 0 then funcP funcs (fs.getD r []) else funcsP funcs (fs.drop (r + 1)) := by
  rw [List.drop_eq_getElem_cons h, funcsP, List.getD_eq_getElem?_getD, List.getElem?_eq_getElem h]
  rfl
theorem pcheck_any (mem : Int) (fs : List (List I4)) (ao : Option Addr) (cap : Nat) (w : World) (h : LiesF w ao cap fs) : Calls Try.prog 33 #[.agg #[.int .i64 mem, .slice ao fs.length cap]] w fun e w' => e = .returned (.int .i64 (checkP mem fs)) ∧ Below w.heap.size w w' := by
  have hc := h.1
  have hc2 := h.2.1
  unfold maxLen at hc2
  have M := Lib.hid (fun w => sizes_any mem fs.length w)
  have hO := (Own.nil (Below.refl _ w)).box #[.int .i64 mem, .slice ao fs.length cap] 42
  have y0 := (cells2f 0 hO rfl).1.1
  have y1 := (cells2f 0 hO rfl).2.1
  by_cases hm : sizesP mem fs.length = 0
  · rw [hm] at M
    go_enter Try.func33, Try.ntmps33
    go_wp2_with fail
    generalize w.alloc (.cells #[.int .i64 mem, .slice ao fs.length cap] 42) = u at *
    generalize hpb : w.heap.size = pb at *
    go_wp2_with (go_at_call 63; refine (M.out _).mono ?_; rintro e w2 ⟨rfl, rfl⟩)
    go_loopw [19] (fun i wr => ∃ r : Nat, r ≤ fs.length ∧ i = .int .i64 r ∧ Hid (funcsP fs.length fs = funcsP fs.length (fs.drop r)) ∧ Own w wr [cellsA pb #[.int .i64 mem, .slice ao fs.length cap] 42]) (fun i _ => (fs.length - intOf i).toNat)
    case atStart => exact ⟨0, by omega, rfl, Lib.hid rfl, hO⟩
    case round =>
      clear hO y0 y1
      obtain ⟨r, hr, rfl, hB, hO⟩ := hrel
      have y0 := (cells2f 0 hO rfl).1.1
      have y1 := (cells2f 0 hO rfl).2.1
      by_cases hlt : r < fs.length
      · obtain ⟨g, off, bo, d, rfl, hx, hL⟩ := (h.below hO.below).get hlt
        have hbody := Lib.hid (funcs_at (funcs := fs.length) hlt)
        obtain ⟨l, hl⟩ : ∃ l, fs.getD r [] = l := ⟨_, rfl⟩
        rw [hl] at hbody hx hL
        obtain ⟨E, hE⟩ : ∃ E, funcP fs.length l = E := ⟨_, rfl⟩
        rw [hE] at hbody
        have F := Lib.hid (Own.lift (function_any l bo d fs.length wr hL) hO (.int .i64 E) (by rw [hE]))
        clear hl
        replace hE := Lib.hid hE
        by_cases hE0 : E = 0
        · subst hE0
          go_wp2_with (go_at_call 65; refine F.out.mono ?_; rintro e w2 ⟨rfl, hO2⟩)
          go_round
          case rel => exact ⟨r + 1, by omega, by go_num, Lib.hid (by rw [hB.out, hbody.out]; simp), hO2⟩
          case measure => simp [intOf]; omega
        · have hne : (E != 0) = true := by simpa using hE0
          have hR := Lib.hid (show checkP mem fs = E by
            unfold checkP
            rw [if_neg (by simpa using hm), hB.out, hbody.out, if_pos hE0])
          go_wp2_with (go_at_call 65; refine F.out.mono ?_; rintro e w2 ⟨rfl, hO2⟩)
          go_ret
          exact ⟨by rw [hR.out]; first | done | rfl, hO2.below⟩
      · obtain rfl : r = fs.length := by omega
        have hR := Lib.hid (show checkP mem fs = 0 by
          unfold checkP
          rw [if_neg (by simpa using hm), hB.out]
          simp [funcsP])
        go_wp2
        go_ret
        exact ⟨by rw [hR.out]; first | done | rfl, hO.below⟩
  · obtain ⟨E, hE⟩ : ∃ E, sizesP mem fs.length = E := ⟨_, rfl⟩
    rw [hE] at M hm
    have hne : (E != 0) = true := by simpa using hm
    have hR : checkP mem fs = E := by unfold checkP; rw [hE, if_pos hm]
    rw [hR]
    clear hR hE
    go_enter Try.func33, Try.ntmps33
    go_wp2_with (go_at_call 63; refine (M.out _).mono ?_; rintro e w2 ⟨rfl, rfl⟩)
    go_ret
    exact ⟨rfl, by go_grown⟩
end Go.Proofs.Ytboiogjklecpaaa
