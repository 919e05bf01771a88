/- prog.Get: the program that bytes are. -/
import Derived.Test.YtboiogjklecpaaaPgmRows
import Derived.Test.YtboiogjklecpaaaPgmCheck
import Derived.Test.YtboiogjklecpaaaTail
import Derived.Test.YtboiogjklecpaaaScope
import Derived.Test.YtboiogjklecpaaaInsGet2
set_option linter.unusedVariables false
set_option linter.unusedSimpArgs false
namespace Go.Proofs.Ytboiogjklecpaaa
open Go.RowKit
set_option maxRecDepth 100000
set_option maxHeartbeats 8000000
/-- Behind the instructions of a function that is being read. -/
def nextF (n : Nat) (acc : List (List I4)) : Except Int (List I4 × List UInt8) → Except Int (List (List I4) × List UInt8)
  | .error e => .error e
  | .ok (l, r) => getFs n r (acc ++ [l])
theorem getFs_next {n : Nat} {bs : List UInt8} {acc : List (List I4)} : getFs (n + 1) bs acc = if bs.length < 2 then .error 1 else if manyP (ofB (bs.take 2)) 200 ≠ 0 then .error (manyP (ofB (bs.take 2)) 200) else nextF n acc (getC (ofB (bs.take 2)).toNat (bs.drop 2) []) := by
  rw [getFs]
  split
  · rfl
  · split
    · rfl
    · cases getC (ofB (bs.take 2)).toNat (bs.drop 2) [] <;> rfl
def codeOf (f : Func) : Code := match f.body with | some (.scope c) => c | some (.seq _ (.scope c)) => c | _ => .skip
theorem frame127 (a : Act) (hs : a.tmps.size = 127) (hd : a.defers = []) : ∃ u : Nat → Value, a = { tmps := #[u 0, u 1, u 2, u 3, u 4, u 5, u 6, u 7, u 8, u 9, u 10, u 11, u 12, u 13, u 14, u 15, u 16, u 17, u 18, u 19, u 20, u 21, u 22, u 23, u 24, u 25, u 26, u 27, u 28, u 29, u 30, u 31, u 32, u 33, u 34, u 35, u 36, u 37, u 38, u 39, u 40, u 41, u 42, u 43, u 44, u 45, u 46, u 47, u 48, u 49, u 50, u 51, u 52, u 53, u 54, u 55, u 56, u 57, u 58, u 59, u 60, u 61, u 62, u 63, u 64, u 65, u 66, u 67, u 68, u 69, u 70, u 71, u 72, u 73, u 74, u 75, u 76, u 77, u 78, u 79, u 80, u 81, u 82, u 83, u 84, u 85, u 86, u 87, u 88, u 89, u 90, u 91, u 92, u 93, u 94, u 95, u 96, u 97, u 98, u 99, u 100, u 101, u 102, u 103, u 104, u 105, u 106, u 107, u 108, u 109, u 110, u 111, u 112, u 113, u 114, u 115, u 116, u 117, u 118, u 119, u 120, u 121, u 122, u 123, u 124, u 125, u 126], defers := [] } := by
  obtain ⟨t, d⟩ := a
  simp only at hs hd
  subst hd
  refine ⟨fun i => t.getD i undef, ?_⟩
  have h : t = ((List.range 127).map fun i => t.getD i undef).toArray := by
    refine Array.ext (by simp [hs]) fun i h1 h2 => ?_
    simp [h1]
  exact congrArg (fun t => (⟨t, []⟩ : Act)) h
/-- At the label 'next'. -/
def PJ1 (s : List UInt8) (w : World) (n : Nat) (mem : Int) (at_ : Nat) (a' : Act) (w' : World) : Prop := ∃ (rb pb nb : Nat) (ps : List Fn) (oa : Option Addr) (oc : Nat), (a'.defers = [] ∧ a'.tmps.size = 127 ∧ a'.tmps.getD 0 undef = .string ⟨s.toArray⟩ ∧ a'.tmps.getD 2 undef = .pointer (some ⟨rb, 0, none⟩) ∧ a'.tmps.getD 3 undef = .int .i64 0 ∧ a'.tmps.getD 4 undef = .pointer (some ⟨pb, 0, none⟩) ∧ a'.tmps.getD 5 undef = .pointer (some ⟨nb, 0, none⟩) ∧ a'.tmps.getD 7 undef = .int .i64 at_ ∧ a'.tmps.getD 8 undef = .int .i64 n) ∧ at_ ≤ s.length ∧ ps.length ≤ n ∧
  Hid (getFs (n - ps.length) (s.drop at_) (ps.map (·.2)) = getFs n (s.drop 6) []) ∧ Own w w' [cellsA pb #[.int .i64 mem, .slice oa ps.length oc] 42, cellsA nb #[.int .i64 0, .slice none 0 0] 42, cellsA rb #[.int .i64 0, .slice none 0 0] 42, rowA 52 1 (.slice oa ps.length oc) ps.length (ps.map hdr), doneA ps]
/-- At the label 'end'. -/
def PJ0 (s : List UInt8) (w : World) (n : Nat) (mem : Int) (a' : Act) (w' : World) : Prop := ∃ (at_ rb pb nb : Nat) (ps : List Fn) (oa : Option Addr) (oc : Nat), (a'.defers = [] ∧ a'.tmps.size = 127 ∧ a'.tmps.getD 0 undef = .string ⟨s.toArray⟩ ∧ a'.tmps.getD 2 undef = .pointer (some ⟨rb, 0, none⟩) ∧ a'.tmps.getD 3 undef = .int .i64 0 ∧ a'.tmps.getD 4 undef = .pointer (some ⟨pb, 0, none⟩) ∧ a'.tmps.getD 5 undef = .pointer (some ⟨nb, 0, none⟩) ∧ a'.tmps.getD 7 undef = .int .i64 at_ ∧ a'.tmps.getD 8 undef = .int .i64 n) ∧ at_ ≤ s.length ∧ ps.length = n ∧
  Hid (getFs n (s.drop 6) [] = .ok (ps.map (·.2), s.drop at_)) ∧ Own w w' [cellsA pb #[.int .i64 mem, .slice oa ps.length oc] 42, cellsA nb #[.int .i64 0, .slice none 0 0] 42, cellsA rb #[.int .i64 0, .slice none 0 0] 42, rowA 52 1 (.slice oa ps.length oc) ps.length (ps.map hdr), doneA ps]
/-- At the label 'code'. -/
def PJ2 (s : List UInt8) (w : World) (n : Nat) (mem : Int) (at_ : Nat) (a' : Act) (w' : World) : Prop := ∃ (rb pb nb left : Nat) (ps : List Fn) (oa : Option Addr) (oc : Nat) (cur : List I4) (ca : Option Addr) (cc : Nat), (a'.defers = [] ∧ a'.tmps.size = 127 ∧ a'.tmps.getD 0 undef = .string ⟨s.toArray⟩ ∧ a'.tmps.getD 2 undef = .pointer (some ⟨rb, 0, none⟩) ∧ a'.tmps.getD 3 undef = .int .i64 0 ∧ a'.tmps.getD 4 undef = .pointer (some ⟨pb, 0, none⟩) ∧ a'.tmps.getD 5 undef = .pointer (some ⟨nb, 0, none⟩) ∧ a'.tmps.getD 7 undef = .int .i64 at_ ∧ a'.tmps.getD 8 undef = .int .i64 n ∧ a'.tmps.getD 9 undef = .int .i64 left) ∧ at_ ≤ s.length ∧ ps.length < n ∧ cur.length + left ≤ 200 ∧
  Hid (nextF (n - ps.length - 1) (ps.map (·.2)) (getC left (s.drop at_) cur) = getFs n (s.drop 6) []) ∧ Own w w' [cellsA pb #[.int .i64 mem, .slice oa (ps.length + 1) oc] 42, cellsA nb #[.int .i64 0, .slice none 0 0] 42, cellsA rb #[.int .i64 0, .slice none 0 0] 42, rowA 52 1 (.slice oa (ps.length + 1) oc) (ps.length + 1) (ps.map hdr ++ [.slice ca cur.length cc]), doneA ps, rowA 30 4 (.slice ca cur.length cc) cur.length (insL cur)]
/-- What it answers. -/
def PRet (s : List UInt8) (w : World) : Ending → World → Prop := fun e w' => ∃ oa oc, e = .returned (.tuple #[.agg #[.int .i64 (resF (getP s)).1, .slice oa (resF (getP s)).2.length oc], .int .i64 (resE (getP s))]) ∧ LiesF w' oa oc (resF (getP s)).2 ∧ Below w.heap.size w w'
theorem pret_err {s : List UInt8} {w w' : World} {E : Int} (h : getP s = .error E) (hb : Below w.heap.size w w') : PRet s w (.returned (.tuple #[.agg #[.int .i64 0, .slice none 0 0], .int .i64 E])) w' := by
  unfold PRet
  rw [h]
  exact ⟨none, 0, rfl, ⟨by simp [resF], by simp [maxLen], by simp, by simp [resF]⟩, hb⟩
/-- The head of the bytes is a program's. -/
structure HeadOk (s : List UInt8) (n : Nat) (mem : Int) : Prop where
  len : 6 ≤ s.length
  res : getP s = endP mem (getFs n (s.drop 6) [])
theorem cut_at {s : List UInt8} {i : Nat} : (⟨s.toArray⟩ : ByteArray).extract i s.length = ⟨(s.drop i).toArray⟩ := by
  rw [ByteArray.extract_mk]
  simp
  exact List.take_of_length_le (by simp)
theorem cut_to {s : List UInt8} {i j : Nat} : (⟨s.toArray⟩ : ByteArray).extract i j = ⟨((s.drop i).take (j - i)).toArray⟩ := by
  rw [ByteArray.extract_mk]
theorem row_last {w0 w : World} {A B C : Ast} {l : List Ast} {og oo oc k : Nat} {xs : List Value} {v : Value} (h : Own w0 w (A :: B :: C :: rowA 52 1 (.slice (some ⟨og, oo, none⟩) (k + 1) oc) (k + 1) (xs ++ [v]) :: l)) (hk : k = xs.length := by simp) : w.cell? ⟨og, oo + k, none⟩ = some v := by
  exact h.row_at 3 rfl (by subst hk; simp)
theorem row_lfree {w0 w : World} {A B C : Ast} {l : List Ast} {og oo oc k : Nat} {xs : List Value} {v : Value} (h : Own w0 w (A :: B :: C :: rowA 52 1 (.slice (some ⟨og, oo, none⟩) (k + 1) oc) (k + 1) (xs ++ [v]) :: l)) : w.frozen? ⟨og, oo + k, none⟩ = false := by
  have := (h.row 3 rfl).free (j := k) (by omega)
  rwa [Addr.add_lit] at this
theorem pg_two (s : List UInt8) (w : World) (n : Nat) (mem : Int) (hd : HeadOk s n mem) (hs : s.length ≤ 20000) (hn : n ≤ 16) (at_ : Nat) (act : Act) (w1 : World) (Q : Exit → Act → World → Prop) (hpan : ∀ c (a : Act) d v w, Q (.panic c) (a.put d v) w → Q (.panic c) a w)
    (h1 : ∀ a' w', PJ1 s w n mem at_ a' w' → Q (.goto 1) a' w') (h2 : ∀ t a' w', at_ < t → PJ2 s w n mem t a' w' → Q (.goto 2) a' w') (hret : ∀ a' w', bodyPost Try.prog Try.f32 (PRet s w) .ret a' w' → Q .ret a' w')
    (hJ : PJ2 s w n mem at_ act w1) : (behind (codeOf Try.f32) 2).wp Try.prog Q act w1 := by
  obtain ⟨i1, hi1, hw0, hw1', hw2'⟩ := info_parts' Try.infoIns
  replace hret := Lib.hid hret
  obtain ⟨rb, pb, nb, left, ps, oa, oc, cur, ca, cc, ⟨hdf, hsz, f0, f2, f3, f4, f5, f7, f8, f9⟩, hat, hps, hcl, hR, hO⟩ := hJ
  obtain ⟨y0, y1⟩ := And.intro (cells2f 0 hO rfl).1.1 (cells2f 0 hO rfl).2.1
  obtain ⟨u, rfl⟩ := frame127 act hsz hdf
  clear hdf hsz
  replace f0 : u 0 = .string ⟨s.toArray⟩ := f0
  replace f2 : u 2 = .pointer (some ⟨rb, 0, none⟩) := f2
  replace f3 : u 3 = .int .i64 0 := f3
  replace f4 : u 4 = .pointer (some ⟨pb, 0, none⟩) := f4
  replace f5 : u 5 = .pointer (some ⟨nb, 0, none⟩) := f5
  replace f7 : u 7 = .int .i64 at_ := f7
  replace f8 : u 8 = .int .i64 n := f8
  replace f9 : u 9 = .int .i64 left := f9
  rw [f0, f2, f3, f4, f5, f7, f8, f9]
  clear f0 f2 f3 f4 f5 f7 f8 f9
  dsimp only [behind, findLabel, codeOf, Try.f32]
  by_cases hl0 : left = 0
  · subst hl0
    go_wp2
    go_step3
    refine h1 _ _ ⟨rb, pb, nb, ps ++ [((ca, cc), cur)], oa, oc, ⟨rfl, rfl, rfl, rfl, rfl, rfl, rfl, rfl, rfl⟩, hat, by simp; omega, Lib.hid ?_, ?_⟩
    · have := hR.out
      rw [getC, nextF] at this
      rw [← this, List.length_append, List.length_singleton, List.map_append, Nat.sub_sub]
      rfl
    · have h7 := (show Own w _ ([cellsA pb #[.int .i64 mem, .slice oa (ps.length + 1) oc] 42, cellsA nb #[.int .i64 0, .slice none 0 0] 42, cellsA rb #[.int .i64 0, .slice none 0 0] 42, rowA 52 1 (.slice oa (ps.length + 1) oc) (ps.length + 1) (ps.map hdr ++ [.slice ca cur.length cc])] ++ [doneA ps, rowA 30 4 (hdr ((ca, cc), cur)) cur.length (insL cur)]) from hO).finish (p := ((ca, cc), cur))
      rw [List.length_append, List.map_append]
      exact h7
  · obtain ⟨k, rfl⟩ : ∃ k, left = k + 1 := ⟨left - 1, by omega⟩
    obtain ⟨n0, n1⟩ := And.intro (cells2f 1 hO rfl).1.1 (cells2f 1 hO rfl).2.1
    obtain ⟨⟨r0, r0f⟩, ⟨r1, r1f⟩⟩ := cells2f 2 hO rfl
    have hk0 : ((((k + 1 : Nat) : Int)) == 0) = false := by rw [beq_eq_false_iff_ne]; omega
    have hk1 : (((k : Int) + 1) == 0) = false := by rw [beq_eq_false_iff_ne]; omega
    have hdl : (s.drop at_).length = s.length - at_ := List.length_drop
    by_cases h4 : s.length - at_ < 4
    · have hG : getP s = .error 1 := by
        rw [hd.res, ← hR.out, getC, if_pos (by omega)]
        rfl
      replace hG := Lib.hid hG
      have h4i : ((s.length : Int) - at_) < 4 := by omega
      clear hdl
      go_wp2
      have hZ := ((hO.cset 2 rfl 0 (.int .i64 0)).cset 2 rfl 1 (.slice none 0 0)).sel [2] (by decide)
      generalize (w1.setCell ⟨rb, 0, none⟩ (.int .i64 0)).setCell ⟨rb, 1, none⟩ (.slice none 0 0) = wz at *
      have hZ2 : Own w wz [cellsA rb #[.int .i64 0, .slice none 0 0] 42] := hZ
      obtain ⟨p0, p1⟩ := And.intro (cells2f 0 hZ2 rfl).1.1 (cells2f 0 hZ2 rfl).2.1
      exact hret.out _ _ (bodyPost_ret (v := .tuple #[.agg #[.int .i64 0, .slice none 0 0], .int .i64 1]) (by simp [results, Try.results32, go_sem, p0, p1]) rfl (pret_err hG.out hZ2.below))
    · have h4i : ¬ ((s.length : Int) - at_) < 4 := by omega
      obtain ⟨b0, b1, b2, b3, q, hq⟩ : ∃ b0 b1 b2 b3 q, s.drop at_ = b0 :: b1 :: b2 :: b3 :: q := by
        match hm : s.drop at_, hdl with
        | b0 :: b1 :: b2 :: b3 :: q, _ => exact ⟨b0, b1, b2, b3, q, rfl⟩
        | [], h => simp at h; omega
        | [_], h => simp at h; omega
        | [_, _], h => simp at h; omega
        | [_, _, _], h => simp at h; omega
      have hx : (⟨s.toArray⟩ : ByteArray).extract at_ (at_ + 4) = ⟨([b0, b1, b2, b3] : List UInt8).toArray⟩ := by
        rw [cut_to, hq, show at_ + 4 - at_ = 4 by omega]
        rfl
      obtain ⟨⟨⟨o, a, b, c⟩, E⟩, hX⟩ : ∃ x, getI [b0, b1, b2, b3] = x := ⟨_, rfl⟩
      have GI := fun w => get_four b0 b1 b2 b3 w
      rw [hX] at GI
      simp only [insV] at GI
      replace GI := Lib.hid GI
      have hstep : Hid (getC (k + 1) (s.drop at_) cur = if E ≠ 0 then .error E else getC k (s.drop (at_ + 4)) (cur ++ [(o, a, b, c)])) := Lib.hid (by
        rw [getC, if_neg (by omega), ← List.drop_drop, hq]
        simp only [List.take_succ_cons, List.take_zero, List.drop_succ_cons, List.drop_zero, hX])
      replace hX := Lib.hid hX
      clear hdl hq
      go_wp2_with fail
      try rw [hx]
      go_at_call 23
      refine (GI.out _).mono ?_
      rintro e w2 ⟨rfl, hb2⟩
      have hO2 := (hO.grow hb2).box #[.int .i64 o, .int .i64 a, .int .i64 b, .int .i64 c] 30
      clear hO hb2 y0 y1 n0 n1 r0 r0f r1 r1f GI hx
      by_cases hE0 : E = 0
      · subst hE0
        obtain ⟨og, oo, oc', hv, _, _, _, _⟩ := (hO2.row 3 rfl).addr (by omega)
        simp only [Value.slice.injEq, true_and] at hv
        obtain ⟨rfl, rfl⟩ := hv
        go_upto_region 27 with fail
        generalize w2.alloc (.cells #[.int .i64 o, .int .i64 a, .int .i64 b, .int .i64 c] 30) = w3 at *
        generalize w2.heap.size = xb at *
        obtain ⟨y0, y1⟩ := And.intro (cells2f 0 hO2 rfl).1.1 (cells2f 0 hO2 rfl).2.1
        go_wp2_with fail
        clear y0 y1
        have hB : Own w w3.drew ([cellsA pb #[.int .i64 mem, .slice (some ⟨og, oo, none⟩) (ps.length + 1) oc] 42, cellsA nb #[.int .i64 0, .slice none 0 0] 42, cellsA rb #[.int .i64 0, .slice none 0 0] 42, rowA 52 1 (.slice (some ⟨og, oo, none⟩) (ps.length + 1) oc) (ps.length + 1) (ps.map hdr ++ [.slice ca cur.length cc]), doneA ps, rowA 30 4 (.slice ca cur.length cc) cur.length (insL cur)] ++ [cellsA xb #[.int .i64 o, .int .i64 a, .int .i64 b, .int .i64 c] 30]) := hO2.drewN 1
        have hS0 : (fun w' : World => w'.cell? ⟨pb, 1, none⟩ = some (.slice (some ⟨og, oo, none⟩) (ps.length + 1) oc) ∧ w'.cell? ⟨og, oo + ps.length, none⟩ = some (.slice ca cur.length cc) ∧ w'.cell? ⟨xb, 0, none⟩ = some (.int .i64 o) ∧ w'.cell? ⟨xb, 1, none⟩ = some (.int .i64 a) ∧ w'.cell? ⟨xb, 2, none⟩ = some (.int .i64 b) ∧ w'.cell? ⟨xb, 3, none⟩ = some (.int .i64 c)) w3.drew := ⟨(cells2f 0 hB rfl).2.1, row_last hB, (cells4f 6 hB rfl).1.1, (cells4f 6 hB rfl).2.1.1, (cells4f 6 hB rfl).2.2.1.1, (cells4f 6 hB rfl).2.2.2.1⟩
        simp only [List.cons_append, List.nil_append] at hB
        clear hO2
        have hlt0 : ((ps.length : Int) < (ps.length : Int) + 1) := by omega
        refine lz_start (S := (fun w' : World => w'.cell? ⟨pb, 1, none⟩ = some (.slice (some ⟨og, oo, none⟩) (ps.length + 1) oc) ∧ w'.cell? ⟨og, oo + ps.length, none⟩ = some (.slice ca cur.length cc) ∧ w'.cell? ⟨xb, 0, none⟩ = some (.int .i64 o) ∧ w'.cell? ⟨xb, 1, none⟩ = some (.int .i64 a) ∧ w'.cell? ⟨xb, 2, none⟩ = some (.int .i64 b) ∧ w'.cell? ⟨xb, 3, none⟩ = some (.int .i64 c))) rfl 12 13 rfl hS0 ?_
        simp only [numbered, Nat.zero_add, Nat.reduceAdd]
        generalize w3.drew = u0 at *
        refine lz_take (v := ?_) (by kernel_rfl) (by kernel_rfl) (by kernel_rfl) (fun _ _ _ h => hpan _ _ _ _ _ h) (Or.inl ⟨by rfl, ?_⟩) (by assumption) ?_; (rotate_left; (intro wS hSw; (try dsimp only at hSw); go_simp; (try with_reducible rfl)); rotate_left); simp only [Act.put, List.setIfInBounds_toArray, List.set_cons_zero, List.set_cons_succ]
        refine lz_take (v := ?_) (by kernel_rfl) (by kernel_rfl) (by kernel_rfl) (fun _ _ _ h => hpan _ _ _ _ _ h) (Or.inl ⟨by rfl, ?_⟩) (by assumption) ?_; (rotate_left; (intro wS hSw; (try dsimp only at hSw); go_simp; (try with_reducible rfl)); rotate_left); simp only [Act.put, List.setIfInBounds_toArray, List.set_cons_zero, List.set_cons_succ]
        refine lz_take (v := ?_) (by kernel_rfl) (by kernel_rfl) (by kernel_rfl) (fun _ _ _ h => hpan _ _ _ _ _ h) (Or.inl ⟨by rfl, ?_⟩) (by assumption) ?_; (rotate_left; (intro wS hSw; (try dsimp only at hSw); go_simp; (try with_reducible rfl)); rotate_left); simp only [Act.put, List.setIfInBounds_toArray, List.set_cons_zero, List.set_cons_succ]
        refine lz_take (v := ?_) (by kernel_rfl) (by kernel_rfl) (by kernel_rfl) (fun _ _ _ h => hpan _ _ _ _ _ h) (Or.inl ⟨by rfl, ?_⟩) (by assumption) ?_; (rotate_left; (intro wS hSw; (try dsimp only at hSw); go_simp; (try with_reducible rfl)); rotate_left); simp only [Act.put, List.setIfInBounds_toArray, List.set_cons_zero, List.set_cons_succ]
        refine lz_take (v := ?_) (by kernel_rfl) (by kernel_rfl) (by kernel_rfl) (fun _ _ _ h => hpan _ _ _ _ _ h) (Or.inl ⟨by rfl, ?_⟩) (by assumption) ?_; (rotate_left; (intro wS hSw; (try dsimp only at hSw); go_simp; (try with_reducible rfl)); rotate_left); simp only [Act.put, List.setIfInBounds_toArray, List.set_cons_zero, List.set_cons_succ]
        refine lz_take (v := ?_) (by kernel_rfl) (by kernel_rfl) (by kernel_rfl) (fun _ _ _ h => hpan _ _ _ _ _ h) (Or.inl ⟨by rfl, ?_⟩) (by assumption) ?_; (rotate_left; (intro wS hSw; (try dsimp only at hSw); go_simp; (try with_reducible rfl)); rotate_left); simp only [Act.put, List.setIfInBounds_toArray, List.set_cons_zero, List.set_cons_succ]
        refine lz_take (v := ?_) (by kernel_rfl) (by kernel_rfl) (by kernel_rfl) (fun _ _ _ h => hpan _ _ _ _ _ h) (Or.inl ⟨by rfl, ?_⟩) (by assumption) ?_; (rotate_left; (intro wS hSw; (try dsimp only at hSw); go_simp; (try with_reducible rfl)); rotate_left); simp only [Act.put, List.setIfInBounds_toArray, List.set_cons_zero, List.set_cons_succ]
        refine lz_take (v := ?_) (by kernel_rfl) (by kernel_rfl) (by kernel_rfl) (fun _ _ _ h => hpan _ _ _ _ _ h) (Or.inl ⟨by rfl, ?_⟩) (by assumption) ?_; (rotate_left; (intro wS hSw; (try dsimp only at hSw); go_simp; (try with_reducible rfl)); rotate_left); simp only [Act.put, List.setIfInBounds_toArray, List.set_cons_zero, List.set_cons_succ]
        refine lz_take (v := ?_) (by kernel_rfl) (by kernel_rfl) (by kernel_rfl) (fun _ _ _ h => hpan _ _ _ _ _ h) (Or.inl ⟨by rfl, ?_⟩) (by assumption) ?_; (rotate_left; (intro wS hSw; (try dsimp only at hSw); go_simp; (try with_reducible rfl)); rotate_left); simp only [Act.put, List.setIfInBounds_toArray, List.set_cons_zero, List.set_cons_succ]
        refine lz_sole (by kernel_rfl) (fun K hK => ?_)
        go_simp
        have hO1 := hB.row_made 30 4 #[.int .i64 o, .int .i64 a, .int .i64 b, .int .i64 c] 1 (by decide) rfl
        refine hK.out _ _ ?_ (fun hHeld => ?_)
        · exact .inr ⟨(cells2f 0 hO1 rfl).2.1, row_last hO1, (cells4f 6 hO1 rfl).1.1, (cells4f 6 hO1 rfl).2.1.1, (cells4f 6 hO1 rfl).2.2.1.1, (cells4f 6 hO1 rfl).2.2.2.1⟩
        try simp only [Act.put, List.setIfInBounds_toArray, List.set_cons_zero, List.set_cons_succ]
        clear hK hB hHeld
        generalize u0.alloc (.cells #[.int .i64 o, .int .i64 a, .int .i64 b, .int .i64 c] 30) = v1 at *
        generalize u0.heap.size = bb at *
        have hHeld := (show (fun w' : World => w'.cell? ⟨pb, 1, none⟩ = some (.slice (some ⟨og, oo, none⟩) (ps.length + 1) oc) ∧ w'.cell? ⟨og, oo + ps.length, none⟩ = some (.slice ca cur.length cc) ∧ w'.cell? ⟨xb, 0, none⟩ = some (.int .i64 o) ∧ w'.cell? ⟨xb, 1, none⟩ = some (.int .i64 a) ∧ w'.cell? ⟨xb, 2, none⟩ = some (.int .i64 b) ∧ w'.cell? ⟨xb, 3, none⟩ = some (.int .i64 c)) v1 from ⟨(cells2f 0 hO1 rfl).2.1, row_last hO1, (cells4f 6 hO1 rfl).1.1, (cells4f 6 hO1 rfl).2.1.1, (cells4f 6 hO1 rfl).2.2.1.1, (cells4f 6 hO1 rfl).2.2.2.1⟩)
        refine lz_law (by kernel_rfl) rfl ?_
        have s2 := (hO1.row 7 rfl).src'
        refine wpList_append_row _ rfl (.tmp 106) (.tmp 108) 52 rfl 30 i1 (.agg #[.int .i64 0, .int .i64 0, .int .i64 0, .int .i64 0]) 4 32 Try.underlying52 hi1 hw0 hw1' hw2' rfl (by decide) (.slice ca cur.length cc) cur.length (insL cur) rfl (hO1.row 5 rfl) _ 1 1 _ rfl s2.1 s2.2.1 s2.2.2 (insL_cell [(o, a, b, c)]) (by unfold maxLen; omega) (by omega) ?_
        intro v2 v3 hr2 ht2 hf2; obtain ⟨ao2, c2, rfl, p1, p2, _⟩ := hr2.shape
        have hO2 := hO1.move 5 rfl (Moves.of_append hr2 ht2 hf2)
        clear hO1 s2 hr2 ht2 hf2 hHeld
        refine wpList_nil ⟨rfl, ⟨(cells2f 0 hO2 rfl).2.1, row_last hO2, (cells4f 6 hO2 rfl).1.1, (cells4f 6 hO2 rfl).2.1.1, (cells4f 6 hO2 rfl).2.2.1.1, (cells4f 6 hO2 rfl).2.2.2.1⟩, fun hHeld => ?_⟩
        try simp only [Act.put, List.setIfInBounds_toArray, List.set_cons_zero, List.set_cons_succ]
        refine lz_take (v := ?_) (by kernel_rfl) (by kernel_rfl) (by kernel_rfl) (fun _ _ _ h => hpan _ _ _ _ _ h) (Or.inl ⟨by rfl, ?_⟩) (by assumption) ?_; (rotate_left; (intro wS hSw; (try dsimp only at hSw); go_simp; (try with_reducible rfl)); rotate_left); simp only [Act.put, List.setIfInBounds_toArray, List.set_cons_zero, List.set_cons_succ]
        have z2 := row_last hO2
        have z3 := row_lfree hO2
        have z2' : v3.drew.cell? ⟨og, oo + ps.length, none⟩ = some (.slice ca cur.length cc) := z2
        have z3' : v3.drew.frozen? ⟨og, oo + ps.length, none⟩ = false := z3
        refine lz_sole (by kernel_rfl) (fun K hK => ?_)
        go_simp
        have hO3 := hO2.rowset 3 rfl ps.length (.slice ao2 (cur.length + 1) c2) (xs' := ps.map hdr ++ [.slice ao2 (cur.length + 1) c2]) (by simp)
        refine hK.out _ _ (.inl rfl) (fun hHeld => ?_)
        try simp only [Act.put, List.setIfInBounds_toArray, List.set_cons_zero, List.set_cons_succ]
        clear hK hHeld
        refine lz_done (by kernel_rfl) ?_
        go_wp2
        go_step3
        refine h2 (at_ + 4) _ _ (by omega) ⟨rb, pb, nb, k, ps, some ⟨og, oo, none⟩, oc, cur ++ [(o, a, b, c)], ao2, c2, ⟨rfl, rfl, rfl, rfl, rfl, rfl, rfl, rfl, rfl, rfl⟩, by omega, hps, by rw [List.length_append, List.length_singleton]; omega, Lib.hid ?_, ?_⟩
        · rw [← hR.out, hstep.out]
          simp
        · rw [show (cur ++ [(o, a, b, c)]).length = cur.length + 1 by simp, insL_app, insL_one]
          exact hO3.sel [0, 1, 2, 3, 4, 5] (by decide)
      · have hne : (E != 0) = true := by simpa using hE0
        have hG : getP s = .error E := by
          rw [hd.res, ← hR.out, hstep.out, if_pos hE0]
          rfl
        replace hG := Lib.hid hG
        obtain ⟨n0, n1⟩ := And.intro (cells2f 1 hO2 rfl).1.1 (cells2f 1 hO2 rfl).2.1
        obtain ⟨⟨r0, r0f⟩, ⟨r1, r1f⟩⟩ := cells2f 2 hO2 rfl
        go_upto_region 25 with fail
        generalize w2.alloc (.cells #[.int .i64 o, .int .i64 a, .int .i64 b, .int .i64 c] 30) = w3 at *
        go_wp2
        have hZ := ((hO2.cset 2 rfl 0 (.int .i64 0)).cset 2 rfl 1 (.slice none 0 0)).sel [2] (by decide)
        generalize (w3.setCell ⟨rb, 0, none⟩ (.int .i64 0)).setCell ⟨rb, 1, none⟩ (.slice none 0 0) = wz at *
        have hZ2 : Own w wz [cellsA rb #[.int .i64 0, .slice none 0 0] 42] := hZ
        obtain ⟨p0, p1⟩ := And.intro (cells2f 0 hZ2 rfl).1.1 (cells2f 0 hZ2 rfl).2.1
        exact hret.out _ _ (bodyPost_ret (v := .tuple #[.agg #[.int .i64 0, .slice none 0 0], .int .i64 E]) (by simp [results, Try.results32, go_sem, p0, p1]) rfl (pret_err hG.out hZ2.below))
end Go.Proofs.Ytboiogjklecpaaa
