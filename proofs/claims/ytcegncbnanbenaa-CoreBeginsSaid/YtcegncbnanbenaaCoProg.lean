/- Contracts and plain facts, cut out of the texts that other statements use:  InsOnceWalk, InsGet, PgmMem, PgmCheck, PgmRows, PgmOwn, PgmSame, BldDone. -/
import Derived.Test.YtcegncbnanbenaaCoIns
set_option linter.unusedVariables false
set_option linter.unusedSimpArgs false
namespace Go.Proofs.Ytcegncbnanbenaa
section
open Go.RowKit
set_option maxRecDepth 100000
set_option maxHeartbeats 8000000
theorem cells4f {w0 w : World} {l : List Ast} {b : Nat} {v0 v1 v2 v3 : Value} {t : TypeId} (i : Nat) (h : Own w0 w l) (hi : l[i]? = some (cellsA b #[v0, v1, v2, v3] t)) : (w.cell? ⟨b, 0, none⟩ = some v0 ∧ w.frozen? ⟨b, 0, none⟩ = false) ∧ (w.cell? ⟨b, 1, none⟩ = some v1 ∧ w.frozen? ⟨b, 1, none⟩ = false) ∧ (w.cell? ⟨b, 2, none⟩ = some v2 ∧ w.frozen? ⟨b, 2, none⟩ = false) ∧ (w.cell? ⟨b, 3, none⟩ = some v3 ∧ w.frozen? ⟨b, 3, none⟩ = false) :=
  ⟨h.cget i hi 0, h.cget i hi 1, h.cget i hi 2, h.cget i hi 3⟩
end
section
open Go.ChangeShapes Go.WideShapes Go.ChangeAt Go.RowKit
def insC (x : I4) : List Value := [.int .i64 x.1, .int .i64 x.2.1, .int .i64 x.2.2.1, .int .i64 x.2.2.2]
/-- The cells of an instruction. -/
def Four (w : World) (g o : Nat) (x : I4) : Prop :=
  w.cell? ⟨g, o, none⟩ = some (.int .i64 x.1) ∧ w.cell? ⟨g, o + 1, none⟩ = some (.int .i64 x.2.1) ∧ w.cell? ⟨g, o + 2, none⟩ = some (.int .i64 x.2.2.1) ∧ w.cell? ⟨g, o + 3, none⟩ = some (.int .i64 x.2.2.2)
/-- A slice of instructions lies in memory. -/
def LiesI (w : World) (ao : Option Addr) (c : Nat) (l : List I4) : Prop :=
  l.length ≤ c ∧ c ≤ maxLen ∧ (ao = none → c = 0) ∧ ∀ i x, l[i]? = some x → ∃ g off, ao = some ⟨g, off, none⟩ ∧ Four w g (off + i * 4) x
/-- A slice of such slices. -/
def LiesF (w : World) (ao : Option Addr) (c : Nat) (fs : List (List I4)) : Prop :=
  fs.length ≤ c ∧ c ≤ maxLen ∧ (ao = none → c = 0) ∧ ∀ i l, fs[i]? = some l → ∃ g off bo d, ao = some ⟨g, off, none⟩ ∧ w.cell? ⟨g, off + i, none⟩ = some (.slice bo l.length d) ∧ LiesI w bo d l
theorem Four.below {w w' : World} {g o : Nat} {x : I4} (h : Four w g o x) (hb : Below w.heap.size w w') : Four w' g o x := by
  obtain ⟨h0, h1, h2, h3⟩ := h
  exact ⟨by rw [cell_old hb _ (by rw [h0]; rfl)]; exact h0, by rw [cell_old hb _ (by rw [h1]; rfl)]; exact h1, by rw [cell_old hb _ (by rw [h2]; rfl)]; exact h2, by rw [cell_old hb _ (by rw [h3]; rfl)]; exact h3⟩
theorem LiesI.below {w w' : World} {ao : Option Addr} {c : Nat} {l : List I4} (h : LiesI w ao c l) (hb : Below w.heap.size w w') : LiesI w' ao c l := by
  refine ⟨h.1, h.2.1, h.2.2.1, fun i x hx => ?_⟩
  obtain ⟨g, off, e, hf⟩ := h.2.2.2 i x hx
  exact ⟨g, off, e, hf.below hb⟩
theorem LiesF.below {w w' : World} {ao : Option Addr} {c : Nat} {fs : List (List I4)} (h : LiesF w ao c fs) (hb : Below w.heap.size w w') : LiesF w' ao c fs := by
  refine ⟨h.1, h.2.1, h.2.2.1, fun i x hx => ?_⟩
  obtain ⟨g, off, bo, d, e, hc, hl⟩ := h.2.2.2 i x hx
  exact ⟨g, off, bo, d, e, by rw [cell_old hb _ (by rw [hc]; rfl)]; exact hc, hl.below hb⟩
theorem getq {α : Type} {l : List α} {i : Nat} (h : i < l.length) (d : α) : l[i]? = some (l.getD i d) := by
  rw [List.getD_eq_getElem?_getD, List.getElem?_eq_getElem h]; rfl
theorem LiesI.get {w : World} {ao : Option Addr} {c : Nat} {l : List I4} (h : LiesI w ao c l) {i : Nat} (hi : i < l.length) : ∃ g off, ao = some ⟨g, off, none⟩ ∧ Four w g (off + i * 4) (l.getD i (0, 0, 0, 0)) := h.2.2.2 i _ (getq hi _)
theorem LiesF.get {w : World} {ao : Option Addr} {c : Nat} {fs : List (List I4)} (h : LiesF w ao c fs) {i : Nat} (hi : i < fs.length) : ∃ g off bo d, ao = some ⟨g, off, none⟩ ∧ w.cell? ⟨g, off + i, none⟩ = some (.slice bo (fs.getD i []).length d) ∧ LiesI w bo d (fs.getD i []) := h.2.2.2 i _ (getq hi _)
theorem fieldsIns : fieldsOf Try.prog 29 = some ((List.range 4).map fun i => (3, i)) := by kernel_rfl
theorem fieldsProg : fieldsOf Try.prog 33 = some [(3, 0), (31, 1)] := by kernel_rfl
theorem len4 {xs : List Int} (h : xs.length = 4) : ∃ a b c d, xs = [a, b, c, d] := by
  match xs, h with
  | [a, b, c, d], _ => exact ⟨a, b, c, d, rfl⟩
theorem add_cell {w : World} {ad : Addr} {v : Value} (h : w.cell? ad = some v) : ∃ g off, ad = ⟨g, off, none⟩ := by
  obtain ⟨g, off, sp⟩ := ad
  have : sp = none := World.cell?_spot h
  subst this
  exact ⟨g, off, rfl⟩
theorem Reads.insSlice {w : World} {cs : List Value} (h : Reads Try.prog w 30 cs) : ∃ (l : List I4) (ao : Option Addr) (c : Nat), cs = [.slice ao l.length c] ∧ LiesI w ao c l := by
  rcases h.slice (e := 29) Try.underlying30 with h0 | ⟨ad, len, cap, h0, hl, hm, hi⟩
  · exact ⟨[], none, 0, h0, by simp, by simp [maxLen], by simp, by simp⟩
  · rcases Nat.eq_zero_or_pos len with rfl | hpos
    · exact ⟨[], some ad, cap, h0, by simp, hm, by simp, by simp⟩
    obtain ⟨g, off, rfl⟩ : ∃ g off, ad = ⟨g, off, none⟩ := by
      obtain ⟨cs', hcs, hr⟩ := hi 0 hpos
      rw [show Try.prog.cellsOf 29 = 4 by kernel_rfl] at hcs
      obtain ⟨hln, hg⟩ := cells_get hcs
      have g0 := hg 0 (by omega)
      rw [List.getElem?_eq_getElem (by omega)] at g0
      simp [Addr.add] at g0
      exact add_cell g0
    have hq : ∀ i, i < len → ∃ x : I4, Four w g (off + i * 4) x := by
      intro i hil
      obtain ⟨cs', hcs, hr⟩ := hi i hil
      rw [show Try.prog.cellsOf 29 = 4 by kernel_rfl] at hcs
      obtain ⟨xs, e1, e2, _⟩ := hr.intFields (ti := 3) 4 fieldsIns Try.underlying3 (by kernel_rfl) (by kernel_rfl)
      obtain ⟨a, b, c, d, rfl⟩ := len4 e2
      subst e1
      obtain ⟨_, hg⟩ := cells_get hcs
      have g0 := hg 0 (by omega)
      have g1 := hg 1 (by omega)
      have g2 := hg 2 (by omega)
      have g3 := hg 3 (by omega)
      rw [Addr.add_add] at g0 g1 g2 g3
      simp at g0 g1 g2 g3
      rw [Addr.add_lit] at g0 g1 g2 g3
      exact ⟨(a, b, c, d), g0, by rw [Nat.add_assoc]; exact g1, by rw [Nat.add_assoc]; exact g2, by rw [Nat.add_assoc]; exact g3⟩
    obtain ⟨xs, rfl, hx⟩ := exists_list (0, 0, 0, 0) _ len hq
    refine ⟨xs, _, cap, h0, hl, hm, by simp, fun i x hix => ?_⟩
    have hil := (List.getElem?_eq_some_iff.1 hix).1
    have hf := hx i hil
    rw [getq hil (0, 0, 0, 0)] at hix
    cases hix
    exact ⟨g, off, rfl, hf⟩
theorem Reads.funcsSlice {w : World} {cs : List Value} (h : Reads Try.prog w 31 cs) : ∃ (fs : List (List I4)) (ao : Option Addr) (c : Nat), cs = [.slice ao fs.length c] ∧ LiesF w ao c fs := by
  rcases h.slice (e := 30) Try.underlying31 with h0 | ⟨ad, len, cap, h0, hl, hm, hi⟩
  · exact ⟨[], none, 0, h0, by simp, by simp [maxLen], by simp, by simp⟩
  · rcases Nat.eq_zero_or_pos len with rfl | hpos
    · exact ⟨[], some ad, cap, h0, by simp, hm, by simp, by simp⟩
    obtain ⟨g, off, rfl⟩ : ∃ g off, ad = ⟨g, off, none⟩ := by
      obtain ⟨cs', hcs, hr⟩ := hi 0 hpos
      rw [show Try.prog.cellsOf 30 = 1 by kernel_rfl] at hcs
      obtain ⟨hln, hg⟩ := cells_get hcs
      have g0 := hg 0 (by omega)
      rw [List.getElem?_eq_getElem (by omega)] at g0
      simp [Addr.add] at g0
      exact add_cell g0
    have hq : ∀ i, i < len → ∃ l : List I4, ∃ bo d, w.cell? ⟨g, off + i, none⟩ = some (.slice bo l.length d) ∧ LiesI w bo d l := by
      intro i hil
      obtain ⟨cs', hcs, hr⟩ := hi i hil
      rw [show Try.prog.cellsOf 30 = 1 by kernel_rfl] at hcs
      obtain ⟨l, bo, d, rfl, hL⟩ := hr.insSlice
      obtain ⟨_, hg⟩ := cells_get hcs
      have g0 := hg 0 (by omega)
      rw [Addr.add_add] at g0
      simp at g0
      rw [Addr.add_lit] at g0
      exact ⟨l, bo, d, g0, hL⟩
    obtain ⟨xs, rfl, hx⟩ := exists_list [] _ len hq
    refine ⟨xs, _, cap, h0, hl, hm, by simp, fun i x hix => ?_⟩
    have hil := (List.getElem?_eq_some_iff.1 hix).1
    obtain ⟨bo, d, h1, h2⟩ := hx i hil
    rw [getq hil []] at hix
    cases hix
    exact ⟨g, off, bo, d, rfl, h1, h2⟩
theorem Arg.prog {w : World} {v : Value} (h : Arg Try.prog w 33 v) : ∃ (mem : Int) (fs : List (List I4)) (ao : Option Addr) (c : Nat), v = .agg #[.int .i64 mem, .slice ao fs.length c] ∧ LiesF w ao c fs := by
  have hr := h.reads
  obtain ⟨h1, h2⟩ := hr.fields fieldsProg
  rw [show Try.prog.cellsOf 33 = 2 by kernel_rfl] at h1
  obtain ⟨cs, rfl, hcs⟩ := agg_of h1 (by decide)
  have r0 := h2 0 _ _ rfl
  have r1 := h2 1 _ _ rfl
  rw [show Try.prog.cellsOf 3 = 1 by kernel_rfl] at r0
  rw [show Try.prog.cellsOf 31 = 1 by kernel_rfl] at r1
  obtain ⟨n, hn, _⟩ := r0.int Try.underlying3
  obtain ⟨fs, ao, c, hf, hL⟩ := r1.funcsSlice
  refine ⟨n, fs, ao, c, ?_, hL⟩
  have hl : cs.toList = [.int .i64 n, .slice ao fs.length c] := by
    simp only [Value.cells] at hn hf h1
    match hcl : cs.toList, h1 with
    | [x, y], _ =>
      rw [hcl] at hn hf
      simp at hn hf
      rw [hn, hf]
  rw [← Array.toArray_toList (xs := cs), hl]
end
section
open Go.RowKit
set_option maxRecDepth 100000
set_option maxHeartbeats 4000000
theorem many_any (n m : Int) (w : World) : Calls Try.prog 90 #[.int .i64 n, .int .i64 m] w fun e w' => e = .returned (.int .i64 (manyP n m)) ∧ w = w' := by
  by_cases h1 : n = 0 <;> by_cases h2 : n > m
  all_goals
    go_enter Try.func90, Try.ntmps90
    go_wp2
    go_ret
    exact ⟨by simp [manyP, h1, h2] <;> (try omega), rfl⟩
theorem sizes_any (n m : Int) (w : World) : Calls Try.prog 82 #[.int .i64 n, .int .i64 m] w fun e w' => e = .returned (.int .i64 (sizesP n m)) ∧ w = w' := by
  by_cases h1 : n < 0 <;> by_cases h2 : n > 256
  all_goals
    go_enter Try.func82, Try.ntmps82
    go_wp2_with (go_at_call 90; refine (many_any _ _ _).mono ?_; rintro e w2 ⟨rfl, rfl⟩)
    go_ret
    exact ⟨by simp [sizesP, h1, h2] <;> (try omega), rfl⟩
theorem leads_any (o a b c : Int) (code funcs : Int) (w : World) : Calls Try.prog 92 #[.agg #[.int .i64 o, .int .i64 a, .int .i64 b, .int .i64 c], .int .i64 code, .int .i64 funcs] w fun e w' => e = .returned (.bool (leadsP (o, a, b, c) code funcs)) ∧ Below w.heap.size w w' := by
  rcases (show o = 18 ∨ o = 19 ∨ o = 20 ∨ o = 22 ∨ (o ≠ 18 ∧ o ≠ 19 ∧ o ≠ 20 ∧ o ≠ 22) by omega) with rfl | rfl | rfl | rfl | ⟨h1, h2, h3, h4⟩
  all_goals
    go_enter Try.func92, Try.ntmps92
    go_wp2
    go_ret
    exact ⟨by simp [leadsP, *], by go_grown⟩
theorem body_at {l : List I4} {r : Nat} {x : I4} {code funcs : Int} (h : r < l.length) (hx : l.getD r (0, 0, 0, 0) = x) : bodyP code funcs (l.drop r) = if chk x ≠ 0 then chk x else if leadsP x code funcs = true then bodyP code funcs (l.drop (r + 1)) else 11 := by
  rw [List.drop_eq_getElem_cons h, bodyP]
  rw [List.getD_eq_getElem?_getD, List.getElem?_eq_getElem h] at hx
  simp only [Option.getD_some] at hx
  rw [hx]
theorem function_any (l : List I4) (ao : Option Addr) (cap : Nat) (funcs : Int) (w : World) (h : LiesI w ao cap l) : Calls Try.prog 83 #[.slice ao l.length cap, .int .i64 funcs] w fun e w' => e = .returned (.int .i64 (funcP funcs l)) ∧ Below w.heap.size w w' := by
  have hc := h.1
  have hc2 := h.2.1
  unfold maxLen at hc2
  have M := Lib.hid (fun w => many_any l.length 200 w)
  by_cases hm : manyP l.length 200 = 0
  · rw [hm] at M
    go_enter Try.func83, Try.ntmps83
    go_wp2_with (go_at_call 90; refine (M.out _).mono ?_; rintro e w2 ⟨rfl, rfl⟩)
    go_loopw [17] (fun i wr => ∃ r : Nat, r ≤ l.length ∧ i = .int .i64 r ∧ Hid (bodyP l.length funcs l = bodyP l.length funcs (l.drop r)) ∧ Below w.heap.size w wr) (fun i _ => (l.length - intOf i).toNat)
    case atStart => exact ⟨0, by omega, rfl, Lib.hid rfl, Below.refl _ _⟩
    case round =>
      obtain ⟨r, hr, rfl, hB, hb⟩ := hrel
      by_cases hlt : r < l.length
      · obtain ⟨g, off, rfl, hx⟩ := (h.below hb).get hlt
        obtain ⟨⟨o, a, b, c⟩, hX⟩ : ∃ x, l.getD r (0, 0, 0, 0) = x := ⟨_, rfl⟩
        rw [hX] at hx
        obtain ⟨x0, x1, x2, x3⟩ := hx
        simp only at x0 x1 x2 x3
        replace hX := Lib.hid hX
        go_wp2_with fail
        have hO := (Own.nil hb).box #[.int .i64 o, .int .i64 a, .int .i64 b, .int .i64 c] 29
        generalize wr.alloc (.cells #[.int .i64 o, .int .i64 a, .int .i64 b, .int .i64 c] 29) = u at *
        generalize wr.heap.size = xb at *
        clear x0 x1 x2 x3
        go_at_call 91
        obtain ⟨E, hE⟩ : ∃ E, checkI o a b c = E := ⟨_, rfl⟩
        have hbody := Lib.hid (body_at (code := l.length) (funcs := funcs) hlt hX.out)
        refine (Own.lift (icheck_any o a b c u) hO (.int .i64 E) (by rw [hE])).mono ?_
        rintro e w2 ⟨rfl, hO2⟩
        clear hO
        by_cases hE0 : E = 0
        · subst hE0
          obtain ⟨⟨x0, _⟩, ⟨x1, _⟩, ⟨x2, _⟩, ⟨x3, _⟩⟩ := cells4f 0 hO2 rfl
          obtain ⟨L, hL⟩ : ∃ L, leadsP (o, a, b, c) l.length funcs = L := ⟨_, rfl⟩
          have LD := Lib.hid (Own.lift (leads_any o a b c l.length funcs w2) hO2 (.bool L) (by rw [hL]))
          cases L with
          | true =>
            go_wp2_with (go_at_call 92; refine LD.out.mono ?_; rintro e w3 ⟨rfl, hO3⟩)
            go_round
            case rel => exact ⟨r + 1, by omega, by go_num, Lib.hid (by rw [hB.out, hbody.out, if_neg (by simp [chk, hE]), if_pos hL]), hO3.below⟩
            case measure => simp [intOf]; omega
          | false =>
            have hR := Lib.hid (show funcP funcs l = 11 by
              have hb0 := hbody.out
              rw [if_neg (by simp [chk, hE]), if_neg (by rw [hL]; simp), ← hB.out] at hb0
              unfold funcP
              rw [if_neg (by simpa using hm), hb0]
              simp)
            go_wp2_with (go_at_call 92; refine LD.out.mono ?_; rintro e w3 ⟨rfl, hO3⟩)
            go_ret
            exact ⟨by rw [hR.out]; first | done | rfl, hO3.below⟩
        · have hne : (E != 0) = true := by simpa using hE0
          have hR := Lib.hid (show funcP funcs l = E by
            have hb0 := hbody.out
            have hc0 : chk (o, a, b, c) = E := hE
            rw [hc0, if_pos hE0, ← hB.out] at hb0
            unfold funcP
            rw [if_neg (by simpa using hm), hb0, if_pos hE0])
          go_wp2
          go_ret
          exact ⟨by rw [hR.out]; first | done | rfl, hO2.below⟩
      · obtain rfl : r = l.length := by omega
        obtain ⟨n0, n1⟩ := many_ok.1 hm
        have hlp : l.length - 1 < l.length := by omega
        obtain ⟨g, off, rfl, hx⟩ := (h.below hb).get hlp
        obtain ⟨o, hX⟩ : ∃ x, (l.getD (l.length - 1) (0, 0, 0, 0)).1 = x := ⟨_, rfl⟩
        have x0 := hx.1
        rw [hX] at x0
        have hR : funcP funcs l = if endsB o = true then 0 else 12 := by
          unfold funcP
          rw [if_neg (by simpa using hm), hB.out]
          simp only [List.drop_length, bodyP, lastP, hX]
          simp
        replace hR := Lib.hid hR
        clear hx hB hX
        have e1 : ((l.length : Int) - 1) = ((l.length - 1 : Nat) : Int) := by omega
        have e2 : 0 ≤ (l.length : Int) - 1 := by omega
        obtain ⟨q, hq⟩ : ∃ q, (l.length - 1) = q := ⟨_, rfl⟩
        rw [hq] at x0 hlp e1
        clear hq
        rcases (show o = 0 ∨ o = 18 ∨ o = 25 ∨ (o ≠ 0 ∧ o ≠ 18 ∧ o ≠ 25) by omega) with rfl | rfl | rfl | ⟨h1, h2, h3⟩
        all_goals
          go_wp2
          go_ret
          exact ⟨by rw [hR.out]; simp [endsB]; first | done | omega | simp [*], hb⟩
  · obtain ⟨E, hE⟩ : ∃ E, manyP l.length 200 = E := ⟨_, rfl⟩
    rw [hE] at M hm
    have hne : (E != 0) = true := by simpa using hm
    have hR : funcP funcs l = E := by unfold funcP; rw [hE, if_pos hm]
    rw [hR]
    clear hR hE
    go_enter Try.func83, Try.ntmps83
    go_wp2_with (go_at_call 90; refine (M.out _).mono ?_; rintro e w2 ⟨rfl, rfl⟩)
    go_ret
    exact ⟨rfl, Below.refl _ _⟩
theorem cells2f {w0 w : World} {l : List Ast} {b : Nat} {v0 v1 : Value} {t : TypeId} (i : Nat) (h : Own w0 w l) (hi : l[i]? = some (cellsA b #[v0, v1] t)) : (w.cell? ⟨b, 0, none⟩ = some v0 ∧ w.frozen? ⟨b, 0, none⟩ = false) ∧ (w.cell? ⟨b, 1, none⟩ = some v1 ∧ w.frozen? ⟨b, 1, none⟩ = false) :=
  ⟨by simpa using h.cget i hi 0, by simpa using h.cget i hi 1⟩
theorem funcs_at {fs : List (List I4)} {r : Nat} {funcs : Int} (h : r < fs.length) : funcsP funcs (fs.drop r) = if funcP funcs (fs.getD r []) ≠ 0 then funcP funcs (fs.getD r []) else funcsP funcs (fs.drop (r + 1)) := by
  rw [List.drop_eq_getElem_cons h, funcsP, List.getD_eq_getElem?_getD, List.getElem?_eq_getElem h]
  rfl
theorem pcheck_any (mem : Int) (fs : List (List I4)) (ao : Option Addr) (cap : Nat) (w : World) (h : LiesF w ao cap fs) : Calls Try.prog 60 #[.agg #[.int .i64 mem, .slice ao fs.length cap]] w fun e w' => e = .returned (.int .i64 (checkP mem fs)) ∧ Below w.heap.size w w' := by
  have hc := h.1
  have hc2 := h.2.1
  unfold maxLen at hc2
  have M := Lib.hid (fun w => sizes_any mem fs.length w)
  have hO := (Own.nil (Below.refl _ w)).box #[.int .i64 mem, .slice ao fs.length cap] 33
  have y0 := (cells2f 0 hO rfl).1.1
  have y1 := (cells2f 0 hO rfl).2.1
  by_cases hm : sizesP mem fs.length = 0
  · rw [hm] at M
    go_enter Try.func60, Try.ntmps60
    go_wp2_with fail
    generalize w.alloc (.cells #[.int .i64 mem, .slice ao fs.length cap] 33) = u at *
    generalize hpb : w.heap.size = pb at *
    go_wp2_with (go_at_call 82; refine (M.out _).mono ?_; rintro e w2 ⟨rfl, rfl⟩)
    go_loopw [19] (fun i wr => ∃ r : Nat, r ≤ fs.length ∧ i = .int .i64 r ∧ Hid (funcsP fs.length fs = funcsP fs.length (fs.drop r)) ∧ Own w wr [cellsA pb #[.int .i64 mem, .slice ao fs.length cap] 33]) (fun i _ => (fs.length - intOf i).toNat)
    case atStart => exact ⟨0, by omega, rfl, Lib.hid rfl, hO⟩
    case round =>
      clear hO y0 y1
      obtain ⟨r, hr, rfl, hB, hO⟩ := hrel
      have y0 := (cells2f 0 hO rfl).1.1
      have y1 := (cells2f 0 hO rfl).2.1
      by_cases hlt : r < fs.length
      · obtain ⟨g, off, bo, d, rfl, hx, hL⟩ := (h.below hO.below).get hlt
        have hbody := Lib.hid (funcs_at (funcs := fs.length) hlt)
        obtain ⟨l, hl⟩ : ∃ l, fs.getD r [] = l := ⟨_, rfl⟩
        rw [hl] at hbody hx hL
        obtain ⟨E, hE⟩ : ∃ E, funcP fs.length l = E := ⟨_, rfl⟩
        rw [hE] at hbody
        have F := Lib.hid (Own.lift (function_any l bo d fs.length wr hL) hO (.int .i64 E) (by rw [hE]))
        clear hl
        replace hE := Lib.hid hE
        by_cases hE0 : E = 0
        · subst hE0
          go_wp2_with (go_at_call 83; refine F.out.mono ?_; rintro e w2 ⟨rfl, hO2⟩)
          go_round
          case rel => exact ⟨r + 1, by omega, by go_num, Lib.hid (by rw [hB.out, hbody.out]; simp), hO2⟩
          case measure => simp [intOf]; omega
        · have hne : (E != 0) = true := by simpa using hE0
          have hR := Lib.hid (show checkP mem fs = E by
            unfold checkP
            rw [if_neg (by simpa using hm), hB.out, hbody.out, if_pos hE0])
          go_wp2_with (go_at_call 83; refine F.out.mono ?_; rintro e w2 ⟨rfl, hO2⟩)
          go_ret
          exact ⟨by rw [hR.out]; first | done | rfl, hO2.below⟩
      · obtain rfl : r = fs.length := by omega
        have hR := Lib.hid (show checkP mem fs = 0 by
          unfold checkP
          rw [if_neg (by simpa using hm), hB.out]
          simp [funcsP])
        go_wp2
        go_ret
        exact ⟨by rw [hR.out]; first | done | rfl, hO.below⟩
  · obtain ⟨E, hE⟩ : ∃ E, sizesP mem fs.length = E := ⟨_, rfl⟩
    rw [hE] at M hm
    have hne : (E != 0) = true := by simpa using hm
    have hR : checkP mem fs = E := by unfold checkP; rw [hE, if_pos hm]
    rw [hR]
    clear hR hE
    go_enter Try.func60, Try.ntmps60
    go_wp2_with (go_at_call 82; refine (M.out _).mono ?_; rintro e w2 ⟨rfl, rfl⟩)
    go_ret
    exact ⟨rfl, by go_grown⟩
end
section
open Go.RowKit
abbrev Fn := (Option Addr × Nat) × List I4
def insL (l : List I4) : List Value := l.flatMap insC
def hdr (p : Fn) : Value := .slice p.1.1 p.2.length p.1.2
theorem insL_len (l : List I4) : (insL l).length = l.length * 4 := by
  induction l with
  | nil => rfl
  | cons x l ih =>
    have e : insL (x :: l) = insC x ++ insL l := by simp [insL, List.flatMap_cons]
    rw [e, List.length_append, ih, List.length_cons]; simp [insC]; omega
theorem insL_app (l r : List I4) : insL (l ++ r) = insL l ++ insL r := by simp [insL]
theorem insL_one (x : I4) : insL [x] = insC x := by simp [insL]
theorem insL_cell (l : List I4) : ∀ u ∈ insL l, u.oneCell' = true := by
  intro u hu
  obtain ⟨x, _, hx⟩ := List.mem_flatMap.1 hu
  simp [insC] at hx
  rcases hx with rfl | rfl | rfl | rfl <;> rfl
theorem insL_get {l : List I4} {i : Nat} {x : I4} (h : l[i]? = some x) (j : Nat) (hj : j < 4) : (insL l)[i * 4 + j]? = (insC x)[j]? := by
  induction l generalizing i with
  | nil => simp at h
  | cons y l ih =>
    have e : insL (y :: l) = insC y ++ insL l := by simp [insL, List.flatMap_cons]
    have hy : (insC y).length = 4 := rfl
    rw [e]
    cases i with
    | zero =>
      simp at h
      subst h
      rw [Nat.zero_mul, Nat.zero_add, List.getElem?_append_left (by omega)]
    | succ i =>
      simp at h
      rw [List.getElem?_append_right (by omega), hy, ← ih h]
      congr 1; omega
/-- Finished functions: each a slice of its own. -/
def doneA (ps : List Fn) : Ast where
  F k := ∃ p ∈ ps, (hdr p).ownBlock = some k
  hold w := ∀ p ∈ ps, Row w 29 4 (hdr p) p.2.length (insL p.2)
  loc h hb p hp := (h p hp).same fun k hk => hb k ⟨p, hp, hk⟩
  lt h k := fun ⟨p, hp, hk⟩ => (h p hp).lt hk
theorem Row.liesI {w : World} {ao : Option Addr} {c : Nat} {l : List I4} (h : Row w 29 4 (.slice ao l.length c) l.length (insL l)) : LiesI w ao c l := by
  obtain ⟨ao', c', hv, h1, h2, h3⟩ := h.shape
  simp only [Value.slice.injEq] at hv
  obtain ⟨rfl, _, rfl⟩ := hv
  refine ⟨h1, h2, fun h => (h3 h).2, fun i x hx => ?_⟩
  have hi := (List.getElem?_eq_some_iff.1 hx).1
  obtain ⟨g, off, cap, hv, _, _, hc, _⟩ := h.addr (by omega)
  simp only [Value.slice.injEq] at hv
  obtain ⟨rfl, _, rfl⟩ := hv
  have q : ∀ j, j < 4 → w.cell? ⟨g, off + (i * 4 + j), none⟩ = (insC x)[j]? := fun j hj => by rw [hc _ (by omega), insL_get hx j hj]
  exact ⟨g, off, rfl, by simpa [insC] using q 0 (by omega), by simpa [insC, Nat.add_assoc] using q 1 (by omega), by simpa [insC, Nat.add_assoc] using q 2 (by omega), by simpa [insC, Nat.add_assoc] using q 3 (by omega)⟩
theorem LiesI.src {w : World} {ao : Option Addr} {c : Nat} {l : List I4} (h : LiesI w ao c l) : Src w ao l.length c 4 (insL l) := by
  refine ⟨insL_len l, fun h0 => ⟨by have := h.1; have := h.2.2.1 h0; omega, h.2.2.1 h0⟩, fun ad had j u hu => ?_⟩
  have hj := (List.getElem?_eq_some_iff.1 hu).1
  rw [insL_len] at hj
  have hi : j / 4 < l.length := by omega
  obtain ⟨g, off, e, f0, f1, f2, f3⟩ := h.2.2.2 (j / 4) _ (getq hi (0, 0, 0, 0))
  rw [had] at e
  cases e
  have hx := insL_get (getq hi (0, 0, 0, 0)) (j % 4) (by omega)
  rw [show j / 4 * 4 + j % 4 = j by omega, hu] at hx
  rw [Addr.add_lit]
  rcases (show j % 4 = 0 ∨ j % 4 = 1 ∨ j % 4 = 2 ∨ j % 4 = 3 by omega) with h4 | h4 | h4 | h4 <;> rw [h4] at hx <;> simp [insC] at hx <;> subst hx
  · rw [show off + j = off + j / 4 * 4 by omega]; exact f0
  · rw [show off + j = off + j / 4 * 4 + 1 by omega]; exact f1
  · rw [show off + j = off + j / 4 * 4 + 2 by omega]; exact f2
  · rw [show off + j = off + j / 4 * 4 + 3 by omega]; exact f3
/-- The program that has been made, as it lies. -/
theorem liesF_of {w : World} {ao : Option Addr} {c n : Nat} {ps : List Fn} (h : Row w 30 1 (.slice ao n c) n (ps.map hdr)) (hd : (doneA ps).hold w) (hn : n = ps.length) : LiesF w ao c (ps.map (·.2)) := by
  subst hn
  obtain ⟨ao', c', hv, h1, h2, h3⟩ := h.shape
  simp only [Value.slice.injEq] at hv
  obtain ⟨rfl, _, rfl⟩ := hv
  refine ⟨by simpa using h1, h2, fun h => (h3 h).2, fun i l hl => ?_⟩
  rw [List.getElem?_map] at hl
  obtain ⟨p, hp, rfl⟩ := Option.map_eq_some_iff.1 hl
  have hi := (List.getElem?_eq_some_iff.1 hp).1
  obtain ⟨g, off, cap, hv, _, _, hc, _⟩ := h.addr (by omega)
  simp only [Value.slice.injEq] at hv
  obtain ⟨rfl, _, rfl⟩ := hv
  have q := hc i (by omega)
  rw [List.getElem?_map, hp] at q
  exact ⟨g, off, p.1.1, p.1.2, rfl, q, Row.liesI (hd p (List.mem_of_getElem? hp))⟩
/-- A piece that was made is one of the finished ones. -/
theorem Own.finish {w0 w : World} {L : List Ast} {ps : List Fn} {p : Fn} (h : Own w0 w (L ++ [doneA ps, rowA 29 4 (hdr p) p.2.length (insL p.2)])) : Own w0 w (L ++ [doneA (ps ++ [p])]) := by
  obtain ⟨h1, h2, h3, h4⟩ := h
  have hA := h2 (doneA ps) (by simp)
  have hR : Row w 29 4 (hdr p) p.2.length (insL p.2) := h2 (rowA 29 4 (hdr p) p.2.length (insL p.2)) (by simp)
  have split : ∀ k, (doneA (ps ++ [p])).F k → (doneA ps).F k ∨ (rowA 29 4 (hdr p) p.2.length (insL p.2)).F k := by
    rintro k ⟨q, hq, hk⟩
    rcases List.mem_append.1 hq with hq | hq
    · exact .inl ⟨q, hq, hk⟩
    · simp at hq; subst hq; exact .inr hk
  refine ⟨h1, fun A hA' => ?_, fun A hA' k hk => ?_, ?_⟩
  · rcases List.mem_append.1 hA' with hm | hm
    · exact h2 A (by simp [hm])
    · simp at hm; subst hm
      intro q hq
      rcases List.mem_append.1 hq with hq | hq
      · exact hA q hq
      · simp at hq; subst hq; exact hR
  · rcases List.mem_append.1 hA' with hm | hm
    · exact h3 A (by simp [hm]) k hk
    · simp at hm; subst hm
      rcases split k hk with hk | hk
      · exact h3 (doneA ps) (by simp) k hk
      · exact h3 (rowA 29 4 (hdr p) p.2.length (insL p.2)) (by simp) k hk
  · rw [List.pairwise_append] at h4 ⊢
    refine ⟨h4.1, by simp, fun A hA' B hB k hk hk' => ?_⟩
    simp at hB; subst hB
    rcases split k hk' with hk' | hk'
    · exact h4.2.2 A hA' (doneA ps) (by simp) k hk hk'
    · exact h4.2.2 A hA' (rowA 29 4 (hdr p) p.2.length (insL p.2)) (by simp) k hk hk'
theorem Own.noneDone {w0 w : World} {L : List Ast} (h : Own w0 w L) : Own w0 w (L ++ [doneA []]) :=
  h.push (Below.refl _ _) (doneA []) (by intro p hp; cases hp) (by rintro k ⟨p, hp, _⟩; cases hp)
theorem Try.infoIns : (Try.prog.info? 29).map (fun i => (i.zero, i.size, i.bytes)) = some (some (.agg #[.int .i64 0, .int .i64 0, .int .i64 0, .int .i64 0]), 4, 32) := by kernel_rfl
theorem Try.infoInsS : (Try.prog.info? 30).map (fun i => (i.zero, i.size, i.bytes)) = some (some (.slice none 0 0), 1, 24) := by kernel_rfl
end
section
open Go.RowKit
set_option maxRecDepth 100000
set_option maxHeartbeats 8000000
theorem take_getD {fs : List (List I4)} {r : Nat} {l : List I4} (h : r < fs.length) (hx : fs.getD r [] = l) : fs.take (r + 1) = fs.take r ++ [l] := by
  rw [List.take_succ_eq_append_getElem h]
  rw [List.getD_eq_getElem?_getD, List.getElem?_eq_getElem h] at hx
  simp only [Option.getD_some] at hx
  rw [hx]
theorem own_any (mem : Int) (fs : List (List I4)) (ao : Option Addr) (cap : Nat) (w : World) (h : LiesF w ao cap fs) (hf1 : fs.length ≤ 40) (hf2 : ∀ l ∈ fs, l.length ≤ 300) :
    Calls Try.prog 25 #[.agg #[.int .i64 mem, .slice ao fs.length cap]] w fun e w' => ∃ oa oc ps, e = .returned (.agg #[.int .i64 mem, .slice oa fs.length oc]) ∧ Hid (ps.map (·.2) = fs) ∧ Own w w' [rowA 30 1 (.slice oa fs.length oc) fs.length (ps.map hdr), doneA ps] := by
  obtain ⟨i1, hi1, hw0, hw1', hw2'⟩ := info_parts' Try.infoIns
  obtain ⟨i2, hi2, hq0, hq1', hq2'⟩ := info_parts' Try.infoInsS
  have hc := h.1
  have hc2 := h.2.1
  unfold maxLen at hc2
  replace hf2 := Lib.hid hf2
  have hO := (((Own.nil (Below.refl _ w)).box #[.int .i64 mem, .slice ao fs.length cap] 33).box #[.int .i64 0, .slice none 0 0] 33).box #[.int .i64 mem, .slice none 0 0] 33
  have hO := (hO.push (Below.refl _ _) (rowA 30 1 (.slice none 0 0) 0 (([] : List Fn).map hdr)) (Row.nil _ _ _) (by rintro k ⟨⟩)).noneDone
  simp only [List.append_assoc, List.cons_append, List.nil_append, World.size_alloc] at hO
  go_enter Try.func25, Try.ntmps25
  go_wp2_with fail
  obtain ⟨pb, hpb⟩ : ∃ pb, w.heap.size = pb := ⟨_, rfl⟩
  generalize ((w.alloc (.cells #[.int .i64 mem, .slice ao fs.length cap] 33)).alloc (.cells #[.int .i64 0, .slice none 0 0] 33)).alloc (.cells #[.int .i64 mem, .slice none 0 0] 33) = u at *
  simp only [hpb, Nat.add_assoc, Nat.reduceAdd] at hO ⊢
  generalize pb + 1 = rb at *
  generalize pb + 2 = qb at *
  go_loopw [4] (fun i wr => ∃ (r : Nat) (ps : List Fn) (oa : Option Addr) (oc : Nat), r ≤ fs.length ∧ i = .int .i64 r ∧ Hid (ps.map (·.2) = fs.take r) ∧ Own w wr [cellsA pb #[.int .i64 mem, .slice ao fs.length cap] 33, cellsA rb #[.int .i64 0, .slice none 0 0] 33, cellsA qb #[.int .i64 mem, .slice oa r oc] 33, rowA 30 1 (.slice oa r oc) r ((ps).map hdr), doneA (ps)]) (fun i _ => (fs.length - intOf i).toNat)
  case atStart => exact ⟨0, [], none, 0, by omega, rfl, Lib.hid rfl, hO⟩
  case round =>
    clear hO
    obtain ⟨r, ps, oa, oc, hr, rfl, hps, hO⟩ := hrel
    have y1 := (cells2f 0 hO rfl).2.1
    have z0 := (cells2f 2 hO rfl).1.1
    have z1 := (cells2f 2 hO rfl).2.1
    by_cases hlt : r < fs.length
    · obtain ⟨g, off, bo, d, rfl, hx, hL⟩ := h.get hlt
      obtain ⟨l, hl⟩ : ∃ l, fs.getD r [] = l := ⟨_, rfl⟩
      rw [hl] at hx hL
      have htk := Lib.hid (take_getD hlt hl)
      have hl3 := hf2.out l (by rw [← hl, List.getD_eq_getElem?_getD, List.getElem?_eq_getElem hlt]; exact List.getElem_mem _)
      clear hl
      have ld1 := hL.1
      have ld2 := hL.2.1
      unfold maxLen at ld2
      have hsrc := Lib.hid hL.src
      have hxw := Lib.hid hx
      replace hx := hO.old hx
      clear hL
      go_wp2_with fail
      generalize hw2 : wr = w2 at *
      clear hw2
      have hB : Own w w2.drew [cellsA pb #[.int .i64 mem, .slice (some ⟨g, off, none⟩) fs.length cap] 33, cellsA rb #[.int .i64 0, .slice none 0 0] 33, cellsA qb #[.int .i64 mem, .slice oa r oc] 33, rowA 30 1 (.slice oa r oc) r ((ps).map hdr), doneA (ps)] := hO.drewN 1
      have hS0 : (fun w' : World => w'.cell? ⟨pb, 1, none⟩ = some (.slice (some ⟨g, off, none⟩) fs.length cap) ∧ w'.cell? ⟨qb, 1, none⟩ = some (.slice oa r oc) ∧ w'.frozen? ⟨qb, 1, none⟩ = false ∧ w'.cell? ⟨g, off + r, none⟩ = some (.slice bo l.length d)) w2.drew := ⟨(cells2f 0 hB rfl).2.1, (cells2f 2 hB rfl).2.1, (cells2f 2 hB rfl).2.2, hB.old hxw.out⟩
      clear y1 z0 z1 hx hO
      refine lz_start (S := (fun w' : World => w'.cell? ⟨pb, 1, none⟩ = some (.slice (some ⟨g, off, none⟩) fs.length cap) ∧ w'.cell? ⟨qb, 1, none⟩ = some (.slice oa r oc) ∧ w'.frozen? ⟨qb, 1, none⟩ = false ∧ w'.cell? ⟨g, off + r, none⟩ = some (.slice bo l.length d))) rfl 12 13 rfl hS0 ?_
      simp only [numbered, Nat.zero_add, Nat.reduceAdd]
      generalize w2.drew = u0 at *
      refine lz_take (v := ?_) (by kernel_rfl) (by kernel_rfl) (by kernel_rfl) (fun _ _ _ h => h) (Or.inl ⟨by rfl, ?_⟩) (by assumption) ?_; (rotate_left; (intro wS hSw; (try dsimp only at hSw); go_simp; (try with_reducible rfl)); rotate_left); simp only [Act.put, List.setIfInBounds_toArray, List.set_cons_zero, List.set_cons_succ]
      refine lz_take (v := ?_) (by kernel_rfl) (by kernel_rfl) (by kernel_rfl) (fun _ _ _ h => h) (Or.inl ⟨by rfl, ?_⟩) (by assumption) ?_; (rotate_left; (intro wS hSw; (try dsimp only at hSw); go_simp; (try with_reducible rfl)); rotate_left); simp only [Act.put, List.setIfInBounds_toArray, List.set_cons_zero, List.set_cons_succ]
      refine lz_rot ?_; simp only [List.cons_append, List.nil_append]
      refine lz_take (v := ?_) (by kernel_rfl) (by kernel_rfl) (by kernel_rfl) (fun _ _ _ h => h) (Or.inl ⟨by rfl, ?_⟩) (by assumption) ?_; (rotate_left; (intro wS hSw; (try dsimp only at hSw); go_simp; (try with_reducible rfl)); rotate_left); simp only [Act.put, List.setIfInBounds_toArray, List.set_cons_zero, List.set_cons_succ]
      refine lz_take (v := ?_) (by kernel_rfl) (by kernel_rfl) (by kernel_rfl) (fun _ _ _ h => h) (Or.inl ⟨by rfl, ?_⟩) (by assumption) ?_; (rotate_left; (intro wS hSw; (try dsimp only at hSw); go_simp; (try with_reducible rfl)); rotate_left); simp only [Act.put, List.setIfInBounds_toArray, List.set_cons_zero, List.set_cons_succ]
      refine lz_take (v := ?_) (by kernel_rfl) (by kernel_rfl) (by kernel_rfl) (fun _ _ _ h => h) (Or.inl ⟨by rfl, ?_⟩) (by assumption) ?_; (rotate_left; (intro wS hSw; (try dsimp only at hSw); go_simp; (try with_reducible rfl)); rotate_left); simp only [Act.put, List.setIfInBounds_toArray, List.set_cons_zero, List.set_cons_succ]
      refine lz_take (v := ?_) (by kernel_rfl) (by kernel_rfl) (by kernel_rfl) (fun _ _ _ h => h) (Or.inl ⟨by rfl, ?_⟩) (by assumption) ?_; (rotate_left; (intro wS hSw; (try dsimp only at hSw); go_simp; (try with_reducible rfl)); rotate_left); simp only [Act.put, List.setIfInBounds_toArray, List.set_cons_zero, List.set_cons_succ]
      refine lz_take (v := ?_) (by kernel_rfl) (by kernel_rfl) (by kernel_rfl) (fun _ _ _ h => h) (Or.inl ⟨by rfl, ?_⟩) (by assumption) ?_; (rotate_left; (intro wS hSw; (try dsimp only at hSw); go_simp; (try with_reducible rfl)); rotate_left); simp only [Act.put, List.setIfInBounds_toArray, List.set_cons_zero, List.set_cons_succ]
      refine lz_rot ?_; simp only [List.cons_append, List.nil_append]
      refine lz_rot ?_; simp only [List.cons_append, List.nil_append]
      refine lz_rot ?_; simp only [List.cons_append, List.nil_append]
      refine lz_rot ?_; simp only [List.cons_append, List.nil_append]
      refine lz_rot ?_; simp only [List.cons_append, List.nil_append]
      refine lz_sole (by kernel_rfl) (fun K hK => ?_)
      go_simp
      have hO1 := hB.base 29 4
      refine hK.out _ _ ?_ (fun hHeld => ?_)
      · exact .inr ⟨(cells2f 0 hO1 rfl).2.1, (cells2f 2 hO1 rfl).2.1, (cells2f 2 hO1 rfl).2.2, hO1.old hxw.out⟩
      try simp only [Act.put, List.setIfInBounds_toArray, List.set_cons_zero, List.set_cons_succ]
      clear hK hB hHeld
      generalize u0.alloc (.cells #[] 29) = u1 at *
      generalize u0.heap.size = bb at *
      have hHeld := (show (fun w' : World => w'.cell? ⟨pb, 1, none⟩ = some (.slice (some ⟨g, off, none⟩) fs.length cap) ∧ w'.cell? ⟨qb, 1, none⟩ = some (.slice oa r oc) ∧ w'.frozen? ⟨qb, 1, none⟩ = false ∧ w'.cell? ⟨g, off + r, none⟩ = some (.slice bo l.length d)) u1 from ⟨(cells2f 0 hO1 rfl).2.1, (cells2f 2 hO1 rfl).2.1, (cells2f 2 hO1 rfl).2.2, hO1.old hxw.out⟩)
      refine lz_law (by kernel_rfl) rfl ?_
      refine wpList_append_row _ rfl (.tmp 17) (.tmp 22) 30 rfl 29 i1 (.agg #[.int .i64 0, .int .i64 0, .int .i64 0, .int .i64 0]) 4 32 Try.underlying30 hi1 hw0 hw1' hw2' rfl (by decide) (.slice (some ⟨bb, 0, none⟩) 0 0) 0 [] rfl (hO1.row 5 rfl) bo l.length d (insL l) rfl hsrc.out.1 hsrc.out.2.1 (fun ad had j u hu => hO1.old (hsrc.out.2.2 ad had j u hu)) (insL_cell l) (by unfold maxLen; omega) (by omega) ?_
      intro v2 u2 hr2 ht2 hf2; simp only [Nat.zero_add, List.nil_append] at hr2; obtain ⟨ao2, c2, rfl, p1, p2, _⟩ := hr2.shape
      have hO2 := hO1.move 5 rfl (Moves.of_append hr2 ht2 hf2)
      clear hO1 hr2 ht2 hf2 hHeld
      refine wpList_nil ⟨rfl, ⟨(cells2f 0 hO2 rfl).2.1, (cells2f 2 hO2 rfl).2.1, (cells2f 2 hO2 rfl).2.2, hO2.old hxw.out⟩, fun hHeld => ?_⟩
      try simp only [Act.put, List.setIfInBounds_toArray, List.set_cons_zero, List.set_cons_succ]
      refine lz_sole (by kernel_rfl) (fun K hK => ?_)
      go_simp
      have hO3 := hO2.lit1 30 (.slice ao2 l.length c2)
      refine hK.out _ _ ?_ (fun hHeld => ?_)
      · exact .inr ⟨(cells2f 0 hO3 rfl).2.1, (cells2f 2 hO3 rfl).2.1, (cells2f 2 hO3 rfl).2.2, hO3.old hxw.out⟩
      try simp only [Act.put, List.setIfInBounds_toArray, List.set_cons_zero, List.set_cons_succ]
      clear hK hO2 hHeld
      generalize u2.alloc (.cells #[.slice ao2 l.length c2] 30) = u3 at *
      generalize u2.heap.size = lb at *
      have hHeld := (show (fun w' : World => w'.cell? ⟨pb, 1, none⟩ = some (.slice (some ⟨g, off, none⟩) fs.length cap) ∧ w'.cell? ⟨qb, 1, none⟩ = some (.slice oa r oc) ∧ w'.frozen? ⟨qb, 1, none⟩ = false ∧ w'.cell? ⟨g, off + r, none⟩ = some (.slice bo l.length d)) u3 from ⟨(cells2f 0 hO3 rfl).2.1, (cells2f 2 hO3 rfl).2.1, (cells2f 2 hO3 rfl).2.2, hO3.old hxw.out⟩)
      refine lz_law (by kernel_rfl) rfl ?_
      have s2 := (hO3.row 6 rfl).src'
      refine wpList_append_row _ rfl (.tmp 16) (.tmp 24) 31 rfl 30 i2 (.slice none 0 0) 1 24 Try.underlying31 hi2 hq0 hq1' hq2' rfl (by decide) (.slice oa r oc) r (ps.map hdr) rfl (hO3.row 3 rfl) _ 1 1 [.slice ao2 l.length c2] rfl s2.1 s2.2.1 s2.2.2 (by simp [Value.oneCell']) (by unfold maxLen; omega) (by omega) ?_
      intro v3 u4 hr3 ht3 hf3; obtain ⟨oa2, oc2, rfl, p3, p4, _⟩ := hr3.shape
      have hO4 := hO3.move 3 rfl (Moves.of_append hr3 ht3 hf3)
      clear hO3 s2 hr3 ht3 hf3 hHeld
      refine wpList_nil ⟨rfl, ⟨(cells2f 0 hO4 rfl).2.1, (cells2f 2 hO4 rfl).2.1, (cells2f 2 hO4 rfl).2.2, hO4.old hxw.out⟩, fun hHeld => ?_⟩
      try simp only [Act.put, List.setIfInBounds_toArray, List.set_cons_zero, List.set_cons_succ]
      refine lz_take (v := ?_) (by kernel_rfl) (by kernel_rfl) (by kernel_rfl) (fun _ _ _ h => h) (Or.inl ⟨by rfl, ?_⟩) (by assumption) ?_; (rotate_left; (intro wS hSw; (try dsimp only at hSw); go_simp; (try with_reducible rfl)); rotate_left); simp only [Act.put, List.setIfInBounds_toArray, List.set_cons_zero, List.set_cons_succ]
      have z2 := (cells2f 2 hO4 rfl).2.1
      have z3 := (cells2f 2 hO4 rfl).2.2
      have z2' : u4.drew.cell? ⟨qb, 1, none⟩ = some (.slice oa r oc) := z2
      have z3' : u4.drew.frozen? ⟨qb, 1, none⟩ = false := z3
      refine lz_sole (by kernel_rfl) (fun K hK => ?_)
      go_simp
      have hO5 := hO4.cset 2 rfl 1 (.slice oa2 (r + 1) oc2)
      refine hK.out _ _ (.inl rfl) (fun hHeld => ?_)
      try simp only [Act.put, List.setIfInBounds_toArray, List.set_cons_zero, List.set_cons_succ]
      clear hK hHeld
      refine lz_done (by kernel_rfl) ?_
      go_wp2_with fail
      go_round
      case rel => exact ⟨r + 1, ps ++ [((ao2, c2), l)], oa2, oc2, by omega, by go_num, Lib.hid (by rw [htk.out, List.map_append, hps.out]; rfl), by
        have h6 := hO5.sel [0, 1, 2, 3, 4, 5] (by decide)
        have h7 : Own w _ ([cellsA pb #[.int .i64 mem, .slice (some ⟨g, off, none⟩) fs.length cap] 33, cellsA rb #[.int .i64 0, .slice none 0 0] 33, cellsA qb #[.int .i64 mem, .slice oa2 (r + 1) oc2] 33, rowA 30 1 (.slice oa2 (r + 1) oc2) (r + 1) (ps.map hdr ++ [hdr ((ao2, c2), l)])] ++ [doneA ps, rowA 29 4 (hdr ((ao2, c2), l)) l.length (insL l)]) := h6
        have h8 := h7.finish (p := ((ao2, c2), l))
        rw [show ps.map hdr ++ [hdr ((ao2, c2), l)] = (ps ++ [((ao2, c2), l)]).map hdr by simp] at h8
        exact h8⟩
      case measure => simp [intOf]; omega
    · obtain rfl : r = fs.length := by omega
      have q0 := (cells2f 1 hO rfl).1
      have q1 := (cells2f 1 hO rfl).2
      obtain ⟨q0a, q0b⟩ := q0
      obtain ⟨q1a, q1b⟩ := q1
      have hO6 := (hO.cset 1 rfl 0 (.int .i64 mem)).cset 1 rfl 1 (.slice oa fs.length oc)
      go_wp2
      have hO7 := hO6.sel [1, 3, 4] (by decide)
      have hps' : Hid (ps.map (·.2) = fs) := Lib.hid (by rw [hps.out, List.take_length])
      generalize (wr.setCell ⟨rb, 0, none⟩ (.int .i64 mem)).setCell ⟨rb, 1, none⟩ (.slice oa fs.length oc) = wz at *
      have hO8 : Own w wz [cellsA rb #[.int .i64 mem, .slice oa fs.length oc] 33, rowA 30 1 (.slice oa fs.length oc) fs.length (ps.map hdr), doneA ps] := hO7
      have p0 := (cells2f 0 hO8 rfl).1.1
      have p1 := (cells2f 0 hO8 rfl).2.1
      exact bodyPost_ret (v := .agg #[.int .i64 mem, .slice oa fs.length oc]) (by simp [results, Try.results25, go_sem, p0, p1]) rfl ⟨oa, oc, ps, rfl, hps', hO8.sel [1, 2] (by decide)⟩
end
section
open Go.RowKit
set_option maxRecDepth 100000
set_option maxHeartbeats 8000000
def Small (fs : List (List I4)) : Prop := fs.length ≤ 40 ∧ ∀ l ∈ fs, l.length ≤ 300
theorem great_any (mem : Int) (fs : List (List I4)) (ao : Option Addr) (cap : Nat) (w : World) (h : LiesF w ao cap fs) : Calls Try.prog 24 #[.agg #[.int .i64 mem, .slice ao fs.length cap]] w fun e w' => ∃ b, e = .returned (.bool b) ∧ Hid (b = false → Small fs) ∧ Below w.heap.size w w' := by
  have hc := h.1
  have hc2 := h.2.1
  unfold maxLen at hc2
  have hO := (Own.nil (Below.refl _ w)).box #[.int .i64 mem, .slice ao fs.length cap] 33
  have y0 := (cells2f 0 hO rfl).1.1
  have y1 := (cells2f 0 hO rfl).2.1
  by_cases hl : fs.length > 40
  · go_enter Try.func24, Try.ntmps24
    go_wp2
    go_ret
    exact ⟨true, rfl, Lib.hid (by simp), by go_grown⟩
  · go_enter Try.func24, Try.ntmps24
    go_wp2_with fail
    generalize w.alloc (.cells #[.int .i64 mem, .slice ao fs.length cap] 33) = u at *
    generalize w.heap.size = pb at *
    go_loopw [3] (fun i wr => ∃ r : Nat, r ≤ fs.length ∧ i = .int .i64 r ∧ Hid (∀ l ∈ fs.take r, l.length ≤ 300) ∧ Own w wr [cellsA pb #[.int .i64 mem, .slice ao fs.length cap] 33]) (fun i _ => (fs.length - intOf i).toNat)
    case atStart => exact ⟨0, by omega, rfl, Lib.hid (by simp), hO⟩
    case round =>
      clear hO y0 y1
      obtain ⟨r, hr, rfl, hB, hO⟩ := hrel
      have y0 := (cells2f 0 hO rfl).1.1
      have y1 := (cells2f 0 hO rfl).2.1
      by_cases hlt : r < fs.length
      · obtain ⟨g, off, bo, d, rfl, hx, hL⟩ := (h.below hO.below).get hlt
        obtain ⟨l, hl'⟩ : ∃ l, fs.getD r [] = l := ⟨_, rfl⟩
        rw [hl'] at hx hL
        have hmem := Lib.hid (show fs.take (r + 1) = fs.take r ++ [l] by
          rw [List.take_succ_eq_append_getElem hlt]
          rw [List.getD_eq_getElem?_getD, List.getElem?_eq_getElem hlt] at hl'
          simp only [Option.getD_some] at hl'
          rw [hl'])
        clear hl'
        have ld1 := hL.1
        have ld2 := hL.2.1
        unfold maxLen at ld2
        by_cases hg : l.length > 300
        · go_wp2
          go_ret
          exact ⟨true, rfl, Lib.hid (by simp), hO.below⟩
        · go_wp2
          go_round
          case rel => exact ⟨r + 1, by omega, by go_num, Lib.hid (by
            rw [hmem.out]
            intro x hx
            rcases List.mem_append.1 hx with hx | hx
            · exact hB.out x hx
            · simp at hx; subst hx; omega), hO⟩
          case measure => simp [intOf]; omega
      · obtain rfl : r = fs.length := by omega
        have hS : Hid (Small fs) := Lib.hid ⟨by omega, by have := hB.out; rwa [List.take_length] at this⟩
        go_wp2
        go_ret
        exact ⟨false, rfl, Lib.hid (fun _ => hS.out), hO.below⟩
end
section
open Go.RowKit
set_option maxRecDepth 100000
set_option maxHeartbeats 4000000
theorem cloneI {ao : Option Addr} {cap : Nat} {l : List I4} {w : World} (hL : LiesI w ao cap l) (hl : l.length ≤ 100000) : Calls Try.prog 50 #[.slice ao l.length cap] w fun e w' => ∃ ao' cap', e = .returned (.slice ao' l.length cap') ∧ Row w' 29 4 (.slice ao' l.length cap') l.length (insL l) ∧ (∀ k, Value.ownBlock (.slice ao' l.length cap') = some k → w.heap.size ≤ k) ∧ Below w.heap.size w w' := by
  obtain ⟨i0, hi, hz0, hz1, hz2⟩ := info_parts' Try.infoIns
  have hsrc := hL.src
  have hnil := fun (w : World) (a : Option Addr) (n c n' c' : Nat) => Lib.run_eql_slice_nil (P := Try.prog) w 30 29 a n c n' c' Try.underlying30
  cases ao with
  | none =>
    obtain ⟨h0, h1⟩ := hsrc.2.1 rfl
    have hn : l = [] := List.eq_nil_of_length_eq_zero h0
    subst hn h1
    clear hsrc hL
    go_enter Try.func50, Try.ntmps50
    go_wp2
    go_ret
    exact ⟨none, 0, rfl, Row.nil _ _ _, by simp [Value.ownBlock], by go_grown⟩
  | some ad =>
    have hone := insL_cell l
    clear hL
    go_enter Try.func50, Try.ntmps50
    go_wp2_with (at_builtin; go_must (refine wpList_append_copy _ rfl _ _ 30 rfl 29 i0 (.agg #[.int .i64 0, .int .i64 0, .int .i64 0, .int .i64 0]) 4 32 Try.underlying30 hi hz0 hz1 hz2 rfl (by decide) rfl (some ad) l.length cap (insL l) rfl hsrc hone (by unfold maxLen; omega) (by omega) ?_); intro ao2 cap2 w2 hrow hb2 hf2)
    go_ret
    exact ⟨ao2, cap2, rfl, hrow, hf2, hb2⟩
end
end Go.Proofs.Ytcegncbnanbenaa
