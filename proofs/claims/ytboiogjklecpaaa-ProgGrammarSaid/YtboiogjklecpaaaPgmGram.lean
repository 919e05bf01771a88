/- The grammar of a program's bytes, by itself, is what Get takes. No program in sight. -/
import Derived.Test.YtboiogjklecpaaaPgmSpec
set_option linter.unusedVariables false
set_option linter.unusedSimpArgs false
namespace Go.Proofs.Ytboiogjklecpaaa
open Go.RowKit
/-- May a byte stand here? -/
def digitB (c : UInt8) (high n code funcs : Int) : Bool :=
  if c = 114 then decide (n ≤ 7) else if c = 102 then decide (n < funcs ∧ n ≤ 15) else if c = 116 then decide (256 * high + n < code ∧ 256 * high + n ≤ 199) else true
/-- The letters' bytes, from a place on. -/
def digF (code funcs : Int) : List UInt8 → List UInt8 → Bool
  | [], bs => bs.all (· == 0)
  | c :: cs, bs => if wideL c = 2 then digitB c (bs.getD 0 0).toNat (bs.getD 1 0).toNat code funcs && digF code funcs cs (bs.drop 2) else digitB c 0 (bs.getD 0 0).toNat code funcs && digF code funcs cs (bs.drop 1)
def insR (code funcs : Int) (b0 b1 b2 b3 : UInt8) : Bool := decide (b0.toNat ≤ 25) && digF code funcs (formL (b0.toNat : Int)) [b1, b2, b3]
theorem wide_val : wideL 114 = 1 ∧ wideL 102 = 1 ∧ wideL 116 = 2 ∧ wideL 110 = 2 := by decide
theorem sgn_bd (x y : UInt8) : -32768 ≤ sgn (ofB [x, y]) 2 ∧ sgn (ofB [x, y]) 2 ≤ 32767 := by
  have h := ofB_bd [x, y]
  unfold sgn
  simp at h ⊢
  split <;> omega
theorem getI_iff (code funcs : Int) (b0 b1 b2 b3 : UInt8) {op A B C : Int} {rs : List Int} {bs : List UInt8} (ho : op = b0.toNat) (hr : readF (formL op) [b1, b2, b3] = (rs, bs)) (hA : rs.getD 0 0 = A) (hB : rs.getD 1 0 = B) (hC : rs.getD 2 0 = C) :
    ((getI [b0, b1, b2, b3]).2 = 0 ∧ leadsP (getI [b0, b1, b2, b3]).1 code funcs = true) ↔ (checkI op A B C = 0 ∧ bs.all (· == 0) = true ∧ leadsP (op, A, B, C) code funcs = true) := by
  have hop : ofB (List.take 1 [b0, b1, b2, b3]) = op := by rw [ho]; simp [ofB_one]
  have hd : List.drop 1 [b0, b1, b2, b3] = [b1, b2, b3] := rfl
  unfold getI
  simp only [hop, hd, hr, hA, hB, hC]
  by_cases h1 : checkI op A B C = 0
  · rw [if_neg (by simpa using h1)]
    by_cases h2 : bs.all (· == 0) = true
    · rw [if_pos h2]
      simp only [h1, h2, true_and]
    · rw [if_neg h2]
      simp only [h2, h1]
      simp
  · rw [if_pos h1]
    simp only [h1, false_and]
theorem insR_iff (code funcs : Int) (b0 b1 b2 b3 : UInt8) : insR code funcs b0 b1 b2 b3 = true ↔ (getI [b0, b1, b2, b3]).2 = 0 ∧ leadsP (getI [b0, b1, b2, b3]).1 code funcs = true := by
  have s1 := sgn_bd b1 b2
  obtain ⟨op, hop⟩ : ∃ op : Int, op = b0.toNat := ⟨_, rfl⟩
  have t1 : (0 : Int) ≤ b1.toNat := by omega
  have t2 : (0 : Int) ≤ b2.toNat := by omega
  have t3 : (0 : Int) ≤ b3.toNat := by omega
  have u1 : (0 : Int) ≤ 256 * (b1.toNat : Int) + b2.toNat := by omega
  have u2 : (0 : Int) ≤ 256 * (b2.toNat : Int) + b3.toNat := by omega
  unfold insR
  rw [← hop]
  have h25 : decide (b0.toNat ≤ 25) = decide (op ≤ 25) := by congr 1; rw [hop]; simp; omega
  rw [h25]
  have s2 := sgn_bd b2 b3
  have hneg : ¬ op < 0 := by omega
  rcases form_cases op with h | h | h | h | h | h | h | h
  · obtain ⟨hf, hr⟩ := h
    have q1 : ¬ op = 18 := by omega
    have q2 : ¬ op = 19 := by omega
    have q3 : ¬ op = 20 := by omega
    have q4 : ¬ op = 22 := by omega
    have q5 : op ≤ 25 := by omega
    have q6 : ¬ 25 < op := by omega
    rw [getI_iff code funcs b0 b1 b2 b3 hop (rs := [(b1.toNat : Int), b2.toNat, b3.toNat]) (bs := []) (by rw [hf]; simp [readF, wideL, ofB_one]) rfl rfl rfl, hf]
    simp [digF, digitB, wideL, checkI, hf, checkF, fitB, leadsP, q1, q2, q3, q4, q5, q6, hneg, t1, t2, t3]
    by_cases p1 : (b1.toNat : Int) ≤ 7 <;> by_cases p2 : (b2.toNat : Int) ≤ 7 <;> by_cases p3 : (b3.toNat : Int) ≤ 7 <;> simp [p1, p2, p3]
  · obtain ⟨hf, hr⟩ := h
    have q1 : ¬ op = 18 := by omega
    have q2 : ¬ op = 19 := by omega
    have q3 : ¬ op = 20 := by omega
    have q4 : ¬ op = 22 := by omega
    have q5 : op ≤ 25 := by omega
    have q6 : ¬ 25 < op := by omega
    rw [getI_iff code funcs b0 b1 b2 b3 hop (rs := [(b1.toNat : Int), b2.toNat]) (bs := [b3]) (by rw [hf]; simp [readF, wideL, ofB_one]) rfl rfl rfl, hf]
    simp [digF, digitB, wideL, checkI, hf, checkF, fitB, leadsP, q1, q2, q3, q4, q5, q6, hneg, t1, t2, t3, and_assoc]
    by_cases p1 : (b1.toNat : Int) ≤ 7 <;> by_cases p2 : (b2.toNat : Int) ≤ 7 <;> simp [p1, p2]
  · obtain ⟨hf, hr⟩ := h
    have q1 : ¬ op = 18 := by rintro rfl; exact absurd hf (by decide)
    have q2 : ¬ op = 19 := by rintro rfl; exact absurd hf (by decide)
    have q3 : ¬ op = 20 := by rintro rfl; exact absurd hf (by decide)
    have q4 : ¬ op = 22 := by rintro rfl; exact absurd hf (by decide)
    have q5 : op ≤ 25 := by omega
    have q6 : ¬ 25 < op := by omega
    rw [getI_iff code funcs b0 b1 b2 b3 hop (rs := [(b1.toNat : Int)]) (bs := [b2, b3]) (by rw [hf]; simp [readF, wideL, ofB_one]) rfl rfl rfl, hf]
    simp [digF, digitB, wideL, checkI, hf, checkF, fitB, leadsP, q1, q2, q3, q4, q5, q6, hneg, t1, t2, t3, and_assoc]
  · obtain ⟨hf, rfl⟩ := h
    rw [getI_iff code funcs b0 b1 b2 b3 hop (rs := [(b1.toNat : Int), sgn (ofB [b2, b3]) 2]) (bs := []) (by rw [hf]; simp [readF, wideL, ofB_one]) rfl rfl rfl, hf]
    simp [digF, digitB, wideL, checkI, hf, checkF, fitB, leadsP, t1, t2, t3, s2, and_assoc]
  · obtain ⟨hf, rfl⟩ := h
    rw [getI_iff code funcs b0 b1 b2 b3 hop (rs := [(b1.toNat : Int), 256 * (b2.toNat : Int) + b3.toNat]) (bs := []) (by rw [hf]; simp [readF, wideL, ofB_one, ofB_two]) rfl rfl rfl, hf]
    simp [digF, digitB, wideL, checkI, hf, checkF, fitB, leadsP, t1, t2, t3, u2, and_assoc]
    by_cases p1 : (b1.toNat : Int) ≤ 7 <;> by_cases p2 : 256 * (b2.toNat : Int) + b3.toNat ≤ 199 <;> simp [p1, p2]
  · obtain ⟨hf, rfl⟩ := h
    rw [getI_iff code funcs b0 b1 b2 b3 hop (rs := [256 * (b1.toNat : Int) + b2.toNat]) (bs := [b3]) (by rw [hf]; simp [readF, wideL, ofB_one, ofB_two]) rfl rfl rfl, hf]
    simp [digF, digitB, wideL, checkI, hf, checkF, fitB, leadsP, t1, t2, t3, u1, and_assoc]
    constructor
    · rintro ⟨a, b, c⟩; exact ⟨b, c, a⟩
    · rintro ⟨b, c, a⟩; exact ⟨a, b, c⟩
  · obtain ⟨hf, hr⟩ := h
    have q1 : ¬ op = 18 := by rintro rfl; exact absurd hf (by decide)
    have q2 : ¬ op = 19 := by rintro rfl; exact absurd hf (by decide)
    have q3 : op = 20 ∨ op = 22 := by
      rcases (show op = 20 ∨ op = 21 ∨ op = 22 by omega) with h | h | h
      · exact .inl h
      · rw [h] at hf; exact absurd hf (by decide)
      · exact .inr h
    have q5 : op ≤ 25 := by omega
    have q6 : ¬ 25 < op := by omega
    rw [getI_iff code funcs b0 b1 b2 b3 hop (rs := [(b1.toNat : Int)]) (bs := [b2, b3]) (by rw [hf]; simp [readF, wideL, ofB_one]) rfl rfl rfl, hf]
    simp [digF, digitB, wideL, checkI, hf, checkF, fitB, leadsP, q1, q2, q3, q5, q6, hneg, t1, t2, t3, and_assoc]
    constructor
    · rintro ⟨a, b, c, d⟩; exact ⟨b, c, d, a⟩
    · rintro ⟨b, c, d, a⟩; exact ⟨a, b, c, d⟩
  · obtain ⟨hf, hr⟩ := h
    have q1 : ¬ op = 18 := by omega
    have q2 : ¬ op = 19 := by omega
    have q3 : ¬ op = 20 := by omega
    have q4 : ¬ op = 22 := by omega
    rw [getI_iff code funcs b0 b1 b2 b3 hop (rs := []) (bs := [b1, b2, b3]) (by rw [hf]; simp [readF]) rfl rfl rfl, hf]
    by_cases q5 : op ≤ 25
    · have q6 : ¬ 25 < op := by omega
      simp [digF, checkI, hf, checkF, leadsP, q1, q2, q3, q4, q5, q6, hneg]
    · have q6 : 25 < op := by omega
      simp [checkI, q5, q6]
/-- So many instructions' bytes. -/
def codeR (code funcs : Int) : Nat → List UInt8 → Bool
  | 0, _ => true
  | k + 1, bs => insR code funcs (bs.getD 0 0) (bs.getD 1 0) (bs.getD 2 0) (bs.getD 3 0) && (decide (k ≠ 0) || endsB ((bs.getD 0 0).toNat : Int)) && codeR code funcs k (bs.drop 4)
/-- So many functions' bytes, and nothing behind. -/
def funcsR (funcs : Int) : Nat → List UInt8 → Bool
  | 0, bs => decide (bs = [])
  | n + 1, bs => decide (2 ≤ bs.length) && decide (1 ≤ ofB (bs.take 2) ∧ ofB (bs.take 2) ≤ 200) && decide (4 * ofB (bs.take 2) ≤ ((bs.drop 2).length : Int)) &&
    codeR (ofB (bs.take 2)) funcs (ofB (bs.take 2)).toNat (bs.drop 2) && funcsR funcs n ((bs.drop 2).drop (4 * (ofB (bs.take 2)).toNat))
def rightP (s : List UInt8) : Bool :=
  decide (6 ≤ s.length) && decide (s.take 3 = [72, 82, 1]) && decide (1 ≤ ofB ((s.drop 3).take 1) ∧ ofB ((s.drop 3).take 1) ≤ 16) && decide (ofB ((s.drop 4).take 2) ≤ 256) &&
    funcsR (ofB ((s.drop 3).take 1)) (ofB ((s.drop 3).take 1)).toNat (s.drop 6)
theorem getI_op {b0 b1 b2 b3 : UInt8} (h : (getI [b0, b1, b2, b3]).2 = 0) : (getI [b0, b1, b2, b3]).1.1 = b0.toNat := by
  unfold getI at h ⊢
  simp only [] at h ⊢
  split
  · rename_i hc; rw [if_pos hc] at h; exact absurd h hc
  · rename_i hc
    rw [if_neg hc] at h
    split
    · simp [ofB_one]
    · rename_i h2; rw [if_neg h2] at h; exact absurd h (by decide)
theorem four_split {bs : List UInt8} (h : 4 ≤ bs.length) : ∃ b0 b1 b2 b3 q, bs = b0 :: b1 :: b2 :: b3 :: q := by
  match bs, h with
  | b0 :: b1 :: b2 :: b3 :: q, _ => exact ⟨_, _, _, _, _, rfl⟩
  | [], h => simp at h
  | [_], h => simp at h
  | [_, _], h => simp at h
  | [_, _, _], h => simp at h
/-- Instructions that the grammar lets stand are read, lead into the function, and the last one ends it. -/
theorem codeR_iff (code funcs : Int) : ∀ (k : Nat) (bs : List UInt8) (acc : List I4), 4 * k ≤ bs.length →
    (codeR code funcs k bs = true ↔ ∃ l, getC k bs acc = .ok (acc ++ l, bs.drop (4 * k)) ∧ l.length = k ∧ bodyP code funcs l = 0 ∧ (k ≠ 0 → lastP l = 0))
  | 0, bs, acc, _ => by
    simp only [codeR, getC, true_iff]
    exact ⟨[], by simp, rfl, rfl, by simp⟩
  | k + 1, bs, acc, h => by
    obtain ⟨b0, b1, b2, b3, q, rfl⟩ := four_split (show 4 ≤ bs.length by omega)
    have hq : 4 * k ≤ q.length := by simp at h; omega
    have IH := codeR_iff code funcs k q (acc ++ [(getI [b0, b1, b2, b3]).1]) hq
    have hI := insR_iff code funcs b0 b1 b2 b3
    simp only [codeR, List.getD_cons_zero, List.getD_cons_succ, List.drop_succ_cons, List.drop_zero, Bool.and_eq_true]
    rw [hI, IH, getC, if_neg (by simp), show (b0 :: b1 :: b2 :: b3 :: q).take 4 = [b0, b1, b2, b3] from rfl, show (b0 :: b1 :: b2 :: b3 :: q).drop 4 = q from rfl, show (b0 :: b1 :: b2 :: b3 :: q).drop (4 * (k + 1)) = q.drop (4 * k) by rw [show 4 * (k + 1) = 4 * k + 1 + 1 + 1 + 1 by omega]; rfl]
    have hop := @getI_op b0 b1 b2 b3
    have hck : (getI [b0, b1, b2, b3]).2 = 0 → chk (getI [b0, b1, b2, b3]).1 = 0 := fun h => (put_get h).2
    generalize getI [b0, b1, b2, b3] = xg at *
    obtain ⟨x, e⟩ := xg
    simp only at *
    constructor
    · rintro ⟨⟨⟨rfl, hL⟩, hE⟩, l, hl, hn, hb, ht⟩
      refine ⟨x :: l, ?_, ?_, ?_, ?_⟩
      · rw [if_neg (by simp), hl]; simp
      · simp [hn]
      · have hx : chk x = 0 := hck rfl
        rw [bodyP, if_neg (by simpa using hx), if_pos hL]; exact hb
      · intro _
        by_cases hk : k = 0
        · subst hk
          obtain rfl := List.eq_nil_of_length_eq_zero hn
          simp only [ne_eq, not_true_eq_false, decide_false, Bool.false_or] at hE
          simp [lastP, hop rfl, hE]
        · have := ht hk
          unfold lastP at this ⊢
          rw [hn] at this
          rw [List.length_cons, hn, show k + 1 - 1 = (k - 1) + 1 by omega, List.getD_cons_succ]
          exact this
    · rintro ⟨l, hl, hn, hb, ht⟩
      split at hl
      · cases hl
      · rename_i he
        obtain rfl : e = 0 := by simpa using he
        obtain ⟨l', e1, e2, e3, e4⟩ := getC_back _ _ _ _ _ hl
        rw [List.append_assoc] at e1
        obtain rfl := List.append_cancel_left e1
        rw [List.cons_append, List.nil_append, bodyP] at hb
        split at hb
        · rename_i hc; exact absurd hb hc
        · rename_i hc
          split at hb
          · rename_i hL
            refine ⟨⟨⟨rfl, hL⟩, ?_⟩, l', ?_, e2, hb, ?_⟩
            · by_cases hk : k = 0
              · subst hk
                obtain rfl := List.eq_nil_of_length_eq_zero e2
                have := ht (by omega)
                simp [lastP, hop rfl] at this
                simp [this]
              · simp [hk]
            · rw [hl]; simp
            · intro hk
              have := ht (by omega)
              unfold lastP at this ⊢
              rw [List.cons_append, List.nil_append, List.length_cons, e2, show k + 1 - 1 = (k - 1) + 1 by omega, List.getD_cons_succ] at this
              rw [e2]
              exact this
          · simp at hb
theorem funcsR_iff (funcs : Int) : ∀ (n : Nat) (bs : List UInt8) (acc : List (List I4)),
    (funcsR funcs n bs = true ↔ ∃ fs, getFs n bs acc = .ok (acc ++ fs, []) ∧ fs.length = n ∧ funcsP funcs fs = 0)
  | 0, bs, acc => by
    simp only [funcsR, getFs, decide_eq_true_eq]
    constructor
    · rintro rfl; exact ⟨[], by simp, rfl, rfl⟩
    · rintro ⟨fs, h, _, _⟩; simp at h; exact h.2
  | n + 1, bs, acc => by
    rw [funcsR, getFs]
    by_cases h2 : bs.length < 2
    · rw [if_pos h2]
      have : ¬ 2 ≤ bs.length := by omega
      simp [this]
    · rw [if_neg h2]
      have h2' : 2 ≤ bs.length := by omega
      generalize hk : ofB (bs.take 2) = k at *
      have hk0 : 0 ≤ k := by rw [← hk]; exact (ofB_bd _).1
      by_cases hm : manyP k 200 = 0
      · rw [if_neg (by simpa using hm)]
        have hm' := many_ok.1 hm
        have hk12 : 1 ≤ k ∧ k ≤ 200 := by omega
        by_cases hl : 4 * k ≤ ((bs.drop 2).length : Int)
        · have hC := codeR_iff k funcs k.toNat (bs.drop 2) [] (by omega)
          have IH := fun l => funcsR_iff funcs n ((bs.drop 2).drop (4 * k.toNat)) (acc ++ [l])
          simp only [h2', hl, decide_true, Bool.true_and, Bool.and_eq_true, decide_eq_true_eq]
          rw [hC]
          constructor
          · rintro ⟨⟨_, l, hg, hn, hb, ht⟩, hF⟩
            obtain ⟨fs, f1, f2, f3⟩ := (IH l).1 hF
            rw [List.nil_append] at hg
            rw [hg]
            have hlk : (l.length : Int) = k := by omega
            refine ⟨l :: fs, by simp only; rw [f1]; simp, by simp [f2], ?_⟩
            have hfp : funcP funcs l = 0 := by
              unfold funcP
              rw [hlk, if_neg (by simpa using hm), if_neg (by simpa using hb)]
              exact ht (by omega)
            unfold funcsP
            rw [if_neg (by simpa using hfp)]
            exact f3
          · rintro ⟨fs, hg, hn, hp⟩
            split at hg
            · cases hg
            · rename_i l r hgc
              obtain ⟨l', e1, m2, e3, e4⟩ := getC_back _ _ _ _ _ hgc
              rw [List.nil_append] at e1
              subst e1
              have hr : r = (bs.drop 2).drop (4 * k.toNat) := by rw [e3, ← m2, ← codeB_len, List.drop_left]
              obtain ⟨fs', f1, f2, f3, _⟩ := getFs_back _ _ _ _ _ hg
              rw [List.append_assoc] at f1
              obtain rfl := List.append_cancel_left f1
              rw [List.cons_append, List.nil_append, funcsP] at hp
              split at hp
              · rename_i hc; exact absurd hp hc
              · rename_i hc
                have hfp : funcP funcs l = 0 := by simpa using hc
                obtain ⟨g1, g2, g3⟩ := func_ok hfp
                have hlk : (l.length : Int) = k := by omega
                rw [hlk] at g2
                refine ⟨⟨⟨hk12, trivial⟩, l, by rw [hgc, hr]; simp, m2, g2, fun _ => g3⟩, ?_⟩
                rw [IH l, ← hr]
                refine ⟨fs', by rw [hg]; simp, f2, hp⟩
        · have : ¬ (4 * k ≤ ((bs.drop 2).length : Int)) := hl
          simp only [this, decide_false, Bool.and_false, Bool.false_and, Bool.false_eq_true, false_iff]
          rintro ⟨fs, hg, _, _⟩
          split at hg
          · cases hg
          · rename_i l r hgc
            obtain ⟨l', e1, e2, e3, e4⟩ := getC_back _ _ _ _ _ hgc
            have := congrArg List.length e3
            rw [List.length_append, codeB_len] at this
            omega
      · rw [if_pos (by simpa using hm)]
        have hm' : ¬ (1 ≤ k ∧ k ≤ 200) := by
          intro h; exact hm (many_ok.2 ⟨by omega, by omega⟩)
        simp [hm']
/-- What the grammar lets stand is what Get takes. -/
theorem rightP_iff (s : List UInt8) : rightP s = true ↔ ∃ p, getP s = .ok p := by
  unfold rightP getP
  by_cases h6 : s.length < 6
  · rw [if_pos h6]
    have : ¬ 6 ≤ s.length := by omega
    simp [this]
  · rw [if_neg h6]
    have h6' : 6 ≤ s.length := by omega
    by_cases h3 : s.take 3 = [72, 82, 1]
    · rw [if_neg (by simpa using h3)]
      generalize hn : ofB ((s.drop 3).take 1) = n at *
      generalize hm : ofB ((s.drop 4).take 2) = m at *
      have n0 : 0 ≤ n := by rw [← hn]; exact (ofB_bd _).1
      have m0 : 0 ≤ m := by rw [← hm]; exact (ofB_bd _).1
      by_cases hs : sizesP m n = 0
      · obtain ⟨s1, s2, s3, s4⟩ := sizes_ok hs
        rw [if_neg (by simpa using hs)]
        have hd : (1 ≤ n ∧ n ≤ 16) := by omega
        simp only [h6', h3, hd, s2, decide_true, Bool.true_and, and_self]
        rw [funcsR_iff n n.toNat (s.drop 6) []]
        constructor
        · rintro ⟨fs, f1, f2, f3⟩
          rw [List.nil_append] at f1
          have hc : checkP m fs = 0 := by
            unfold checkP
            rw [f2, show ((n.toNat : Nat) : Int) = n by omega, if_neg (by simpa using hs)]
            exact f3
          refine ⟨(m, fs), ?_⟩
          rw [f1]
          simp [endP, hc]
        · rintro ⟨p, hp⟩
          cases hg : getFs n.toNat (s.drop 6) [] with
          | error e => rw [hg] at hp; cases hp
          | ok q =>
            obtain ⟨fs, r⟩ := q
            rw [hg] at hp
            unfold endP at hp
            simp only at hp
            split at hp
            · cases hp
            · rename_i hr
              split at hp
              · cases hp
              · rename_i hc
                obtain ⟨fs', f1, f2, _⟩ := getFs_back _ _ _ _ _ hg
                rw [List.nil_append] at f1
                subst f1
                have hr' : r = [] := by simpa using hr
                have hc' : checkP m fs = 0 := by simpa using hc
                have := (check_parts hc').2
                rw [f2, show ((n.toNat : Nat) : Int) = n by omega] at this
                exact ⟨fs, by rw [hr']; simp, f2, this⟩
      · rw [if_pos (by simpa using hs)]
        have hd : ¬ ((1 ≤ n ∧ n ≤ 16) ∧ m ≤ 256) := by
          intro h
          apply hs
          unfold sizesP
          rw [if_neg (by omega)]
          exact many_ok.2 ⟨by omega, by omega⟩
        have : ∀ x : Bool, (decide (1 ≤ n ∧ n ≤ 16) && decide (m ≤ 256) && x) = false := by
          intro x
          rw [← Bool.decide_and, decide_eq_false hd]
          rfl
        simp only [h6', h3, decide_true, Bool.true_and, this]
        simp
    · rw [if_pos (by simpa using h3)]
      simp [h3]
end Go.Proofs.Ytboiogjklecpaaa
