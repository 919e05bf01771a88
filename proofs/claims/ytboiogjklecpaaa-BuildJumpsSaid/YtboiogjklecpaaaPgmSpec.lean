/- What a program is, as bytes: what is wrong with it, its bytes, and back. No program in sight. -/
import Derived.Test.YtboiogjklecpaaaInsBack2
set_option linter.unusedVariables false
set_option linter.unusedSimpArgs false
namespace Go.Proofs.Ytboiogjklecpaaa
open Go.RowKit
abbrev I4 := Int × Int × Int × Int
def chk (x : I4) : Int := checkI x.1 x.2.1 x.2.2.1 x.2.2.2
def put4 (x : I4) : List UInt8 := putI x.1 x.2.1 x.2.2.1 x.2.2.2
theorem put4_len (x : I4) : (put4 x).length = 4 := put_len
def manyP (n most : Int) : Int := if n = 0 then 7 else if n > most then 9 else 0
def leadsP (x : I4) (code funcs : Int) : Bool := if x.1 = 18 then decide (x.2.1 < code) else if x.1 = 19 then decide (x.2.2.1 < code) else if x.1 = 20 ∨ x.1 = 22 then decide (x.2.1 < funcs) else true
/-- A function's instructions, one by one. -/
def bodyP (code funcs : Int) : List I4 → Int
  | [] => 0
  | x :: l => if chk x ≠ 0 then chk x else if leadsP x code funcs = true then bodyP code funcs l else 11
def endsB (op : Int) : Bool := decide (op = 0 ∨ op = 18 ∨ op = 25)
def lastP (l : List I4) : Int := if endsB (l.getD (l.length - 1) (0, 0, 0, 0)).1 = true then 0 else 12
def funcP (funcs : Int) (l : List I4) : Int :=
  if manyP l.length 200 ≠ 0 then manyP l.length 200 else if bodyP l.length funcs l ≠ 0 then bodyP l.length funcs l else lastP l
def funcsP (funcs : Int) : List (List I4) → Int
  | [] => 0
  | l :: fs => if funcP funcs l ≠ 0 then funcP funcs l else funcsP funcs fs
def sizesP (mem n : Int) : Int := if mem < 0 ∨ 256 < mem then 3 else manyP n 16
def checkP (mem : Int) (fs : List (List I4)) : Int := if sizesP mem fs.length ≠ 0 then sizesP mem fs.length else funcsP fs.length fs
def codeB (l : List I4) : List UInt8 := l.flatMap put4
def funcB (l : List I4) : List UInt8 := low l.length 2 ++ codeB l
def headB (mem : Int) (n : Nat) : List UInt8 := [72, 82, 1] ++ low n 1 ++ low mem 2
def putP (mem : Int) (fs : List (List I4)) : List UInt8 := headB mem fs.length ++ fs.flatMap funcB
/-- So many instructions, read off bytes. -/
def getC : Nat → List UInt8 → List I4 → Except Int (List I4 × List UInt8)
  | 0, bs, acc => .ok (acc, bs)
  | k + 1, bs, acc => if bs.length < 4 then .error 1 else if (getI (bs.take 4)).2 ≠ 0 then .error (getI (bs.take 4)).2 else getC k (bs.drop 4) (acc ++ [(getI (bs.take 4)).1])
/-- So many functions, read off bytes. -/
def getFs : Nat → List UInt8 → List (List I4) → Except Int (List (List I4) × List UInt8)
  | 0, bs, acc => .ok (acc, bs)
  | n + 1, bs, acc => if bs.length < 2 then .error 1 else if manyP (ofB (bs.take 2)) 200 ≠ 0 then .error (manyP (ofB (bs.take 2)) 200) else
    match getC (ofB (bs.take 2)).toNat (bs.drop 2) [] with
    | .error e => .error e
    | .ok (l, r) => getFs n r (acc ++ [l])
def endP (mem : Int) : Except Int (List (List I4) × List UInt8) → Except Int (Int × List (List I4))
  | .error e => .error e
  | .ok (fs, r) => if r ≠ [] then .error 2 else if checkP mem fs ≠ 0 then .error (checkP mem fs) else .ok (mem, fs)
def getP (s : List UInt8) : Except Int (Int × List (List I4)) :=
  if s.length < 6 then .error 1 else if s.take 3 ≠ [72, 82, 1] then .error 4 else
  if sizesP (ofB ((s.drop 4).take 2)) (ofB ((s.drop 3).take 1)) ≠ 0 then .error (sizesP (ofB ((s.drop 4).take 2)) (ofB ((s.drop 3).take 1))) else
  endP (ofB ((s.drop 4).take 2)) (getFs (ofB ((s.drop 3).take 1)).toNat (s.drop 6) [])
/-- The answer as a program and an error. -/
def resF : Except Int (Int × List (List I4)) → Int × List (List I4)
  | .error _ => (0, [])
  | .ok p => p
def resE : Except Int (Int × List (List I4)) → Int
  | .error e => e
  | .ok _ => 0
theorem many_ok {n m : Int} : manyP n m = 0 ↔ n ≠ 0 ∧ n ≤ m := by
  unfold manyP
  split
  · simp; omega
  · split <;> simp <;> omega
theorem check_range {op a b c : Int} (h : checkI op a b c = 0) : (0 ≤ op ∧ op ≤ 25) ∧ (-32768 ≤ a ∧ a ≤ 32767) ∧ (-32768 ≤ b ∧ b ≤ 32767) ∧ (-32768 ≤ c ∧ c ≤ 32767) := by
  obtain ⟨o1, o2, hf⟩ := check_ok h
  refine ⟨⟨o1, o2⟩, ?_⟩
  rcases form_cases op with hc | hc | hc | hc | hc | hc | hc | hc
  all_goals
    rw [hc.1] at hf
    simp only [checkF, fitB] at hf
    simp at hf
    (repeat' split at hf) <;> first | (exfalso; omega) | skip
    all_goals omega
theorem body_ok {code funcs : Int} : ∀ {l : List I4}, bodyP code funcs l = 0 → ∀ x ∈ l, chk x = 0 ∧ leadsP x code funcs = true
  | [], _, x, hx => by simp at hx
  | y :: l, h, x, hx => by
    unfold bodyP at h
    split at h
    · rename_i hc; exact absurd h hc
    · rename_i hc
      split at h
      · rename_i hl
        rcases List.mem_cons.1 hx with rfl | hx
        · exact ⟨by simpa using hc, hl⟩
        · exact body_ok h x hx
      · simp at h
theorem funcs_ok {funcs : Int} : ∀ {fs : List (List I4)}, funcsP funcs fs = 0 → ∀ l ∈ fs, funcP funcs l = 0
  | [], _, x, hx => by simp at hx
  | y :: l, h, x, hx => by
    unfold funcsP at h
    split at h
    · rename_i hc; exact absurd h hc
    · rename_i hc
      rcases List.mem_cons.1 hx with rfl | hx
      · simpa using hc
      · exact funcs_ok h x hx
theorem func_ok {funcs : Int} {l : List I4} (h : funcP funcs l = 0) : manyP l.length 200 = 0 ∧ bodyP l.length funcs l = 0 ∧ lastP l = 0 := by
  unfold funcP at h
  split at h
  · rename_i hc; exact absurd h hc
  · rename_i hc
    split at h
    · rename_i hc2; exact absurd h hc2
    · rename_i hc2; exact ⟨by simpa using hc, by simpa using hc2, h⟩
theorem check_parts {mem : Int} {fs : List (List I4)} (h : checkP mem fs = 0) : sizesP mem fs.length = 0 ∧ funcsP fs.length fs = 0 := by
  unfold checkP at h
  split at h
  · rename_i hc; exact absurd h hc
  · rename_i hc; exact ⟨by simpa using hc, h⟩
theorem sizes_ok {mem n : Int} (h : sizesP mem n = 0) : 0 ≤ mem ∧ mem ≤ 256 ∧ n ≠ 0 ∧ n ≤ 16 := by
  unfold sizesP at h
  split at h
  · simp at h
  · have := many_ok.1 h; omega
theorem get4 (x : I4) (h : chk x = 0) : getI (put4 x) = (x, 0) := by
  obtain ⟨a, b, c, d⟩ := x
  exact get_put h
/-- Instructions that are put are read, whatever stands behind. -/
theorem getC_put : ∀ (l : List I4) (r : List UInt8) (acc : List I4), (∀ x ∈ l, chk x = 0) → getC l.length (codeB l ++ r) acc = .ok (acc ++ l, r)
  | [], r, acc, _ => by simp [getC, codeB]
  | x :: l, r, acc, h => by
    have h4 := put4_len x
    have e : codeB (x :: l) ++ r = put4 x ++ (codeB l ++ r) := by simp [codeB, List.flatMap_cons]
    rw [e]
    have t4 : (put4 x ++ (codeB l ++ r)).take 4 = put4 x := by rw [← h4, List.take_left]
    have d4 : (put4 x ++ (codeB l ++ r)).drop 4 = codeB l ++ r := by rw [← h4, List.drop_left]
    rw [List.length_cons, getC, if_neg (by rw [List.length_append]; omega), t4, d4, get4 x (h x (by simp))]
    simp only [ne_eq, not_true_eq_false, if_false]
    rw [getC_put l r _ (fun y hy => h y (by simp [hy]))]
    simp
theorem low2_ofB {n : Int} (h0 : 0 ≤ n) (h1 : n < 65536) : ofB (low n 2) = n := by
  rw [low_two, ofB_two, byte_back, byte_back]
  omega
theorem low1_ofB {n : Int} (h0 : 0 ≤ n) (h1 : n < 256) : ofB (low n 1) = n := by
  rw [low_one, ofB_one, byte_back]
  omega
theorem getFs_put (funcs : Int) : ∀ (fs : List (List I4)) (r : List UInt8) (acc : List (List I4)), (∀ l ∈ fs, funcP funcs l = 0) → getFs fs.length (fs.flatMap funcB ++ r) acc = .ok (acc ++ fs, r)
  | [], r, acc, _ => by simp [getFs]
  | l :: fs, r, acc, h => by
    obtain ⟨h1, h2, _⟩ := func_ok (h l (by simp))
    have hm := many_ok.1 h1
    have hl2 := low_len (l.length : Int) 2
    have e : (l :: fs).flatMap funcB ++ r = low l.length 2 ++ (codeB l ++ (fs.flatMap funcB ++ r)) := by simp [funcB, List.flatMap_cons]
    rw [e]
    have t2 : (low (l.length : Int) 2 ++ (codeB l ++ (fs.flatMap funcB ++ r))).take 2 = low l.length 2 := List.take_left' hl2
    have d2 : (low (l.length : Int) 2 ++ (codeB l ++ (fs.flatMap funcB ++ r))).drop 2 = codeB l ++ (fs.flatMap funcB ++ r) := List.drop_left' hl2
    rw [List.length_cons, getFs, if_neg (by rw [List.length_append]; omega), t2, d2, low2_ofB (by omega) (by omega), if_neg (by simpa using h1)]
    rw [show ((l.length : Int)).toNat = l.length by omega, getC_put l _ [] (fun x hx => (body_ok h2 x hx).1)]
    simp only [List.nil_append]
    rw [getFs_put funcs fs r _ (fun y hy => h y (by simp [hy]))]
    simp
theorem head_len (mem : Int) (n : Nat) : (headB mem n).length = 6 := by simp [headB, low_len]
theorem putP_len {mem : Int} {fs : List (List I4)} : (putP mem fs).length = 6 + (fs.flatMap funcB).length := by
  rw [putP, List.length_append, head_len]
theorem head_parts (mem : Int) (n : Nat) (r : List UInt8) (h0 : 0 ≤ mem) (h1 : mem ≤ 256) (hn : n ≤ 16) :
    (headB mem n ++ r).take 3 = [72, 82, 1] ∧ ofB (((headB mem n ++ r).drop 3).take 1) = n ∧ ofB (((headB mem n ++ r).drop 4).take 2) = mem ∧ (headB mem n ++ r).drop 6 = r := by
  have e1 := low1_ofB (n := (n : Int)) (by omega) (by omega)
  have e2 := low2_ofB (n := mem) (by omega) (by omega)
  rw [low_one] at e1
  rw [low_two] at e2
  unfold headB
  rw [low_one, low_two]
  refine ⟨by simp, ?_, ?_, by simp⟩
  · simpa using e1
  · simpa using e2
theorem getP_head (mem : Int) (n : Nat) (r : List UInt8) (h : sizesP mem n = 0) : getP (headB mem n ++ r) = endP mem (getFs n r []) := by
  obtain ⟨h0, h1, _, h2⟩ := sizes_ok h
  obtain ⟨p1, p2, p3, p4⟩ := head_parts mem n r h0 h1 (by omega)
  unfold getP
  rw [if_neg (by rw [List.length_append, head_len]; omega), p1, if_neg (by simp), p2, p3, p4, if_neg (by simpa using h)]
  simp
/-- What is put is got. -/
theorem getP_put {mem : Int} {fs : List (List I4)} (h : checkP mem fs = 0) : getP (putP mem fs) = .ok (mem, fs) := by
  obtain ⟨h1, h2⟩ := check_parts h
  have := getFs_put fs.length fs [] [] (funcs_ok h2)
  rw [List.append_nil, List.nil_append] at this
  rw [putP, getP_head mem _ _ h1, this]
  simp [endP, h]
/-- One byte more. -/
theorem getP_more {mem : Int} {fs : List (List I4)} (h : checkP mem fs = 0) (x : UInt8) : getP (putP mem fs ++ [x]) = .error 2 := by
  obtain ⟨h1, h2⟩ := check_parts h
  have := getFs_put fs.length fs [x] [] (funcs_ok h2)
  rw [List.nil_append] at this
  rw [putP, List.append_assoc, getP_head mem _ _ h1, this]
  simp [endP]
/-- How long the bytes are. -/
theorem codeB_len (l : List I4) : (codeB l).length = 4 * l.length := by
  induction l with
  | nil => rfl
  | cons x l ih =>
    have e : codeB (x :: l) = put4 x ++ codeB l := by simp [codeB, List.flatMap_cons]
    rw [e, List.length_append, put4_len, ih, List.length_cons]; omega
theorem codeB_ne {l : List I4} (h : l ≠ []) : codeB l ≠ [] := by
  intro h0
  obtain ⟨y, l', rfl⟩ := List.exists_cons_of_ne_nil h
  have h0' := congrArg List.length h0
  rw [codeB_len] at h0'
  simp at h0'
theorem getC_short : ∀ (l : List I4) (acc : List I4), l ≠ [] → (∀ x ∈ l, chk x = 0) → getC l.length (codeB l).dropLast acc = .error 1
  | [], _, h, _ => absurd rfl h
  | x :: l, acc, _, h => by
    have h4 := put4_len x
    have e : codeB (x :: l) = put4 x ++ codeB l := by simp [codeB, List.flatMap_cons]
    rw [e]
    by_cases hl : l = []
    · subst hl
      rw [List.length_cons, getC, if_pos (by simp [codeB, h4])]
    · have hne : codeB l ≠ [] := codeB_ne hl
      rw [List.dropLast_append_of_ne_nil hne]
      have t4 : (put4 x ++ (codeB l).dropLast).take 4 = put4 x := List.take_left' h4
      have d4 : (put4 x ++ (codeB l).dropLast).drop 4 = (codeB l).dropLast := List.drop_left' h4
      rw [List.length_cons, getC, if_neg (by rw [List.length_append]; omega), t4, d4, get4 x (h x (by simp))]
      simp only [ne_eq, not_true_eq_false, if_false]
      exact getC_short l _ hl (fun y hy => h y (by simp [hy]))
theorem funcB_ne (l : List I4) : funcB l ≠ [] := by
  intro h
  have := congrArg List.length h
  simp [funcB, low_len] at this
theorem getFs_short (funcs : Int) : ∀ (fs : List (List I4)) (acc : List (List I4)), fs ≠ [] → (∀ l ∈ fs, funcP funcs l = 0) → getFs fs.length (fs.flatMap funcB).dropLast acc = .error 1
  | [], _, h, _ => absurd rfl h
  | l :: fs, acc, _, h => by
    obtain ⟨h1, h2, _⟩ := func_ok (h l (by simp))
    have hm := many_ok.1 h1
    have hl2 := low_len (l.length : Int) 2
    have hl0 : l ≠ [] := by rintro rfl; simp at hm
    have hcn := codeB_ne hl0
    have e : (l :: fs).flatMap funcB = low l.length 2 ++ (codeB l ++ fs.flatMap funcB) := by simp [funcB, List.flatMap_cons]
    rw [e, List.dropLast_append_of_ne_nil (by simp [hcn])]
    have t2 : (low (l.length : Int) 2 ++ (codeB l ++ fs.flatMap funcB).dropLast).take 2 = low l.length 2 := List.take_left' hl2
    have d2 : (low (l.length : Int) 2 ++ (codeB l ++ fs.flatMap funcB).dropLast).drop 2 = (codeB l ++ fs.flatMap funcB).dropLast := List.drop_left' hl2
    rw [List.length_cons, getFs, if_neg (by rw [List.length_append]; omega), t2, d2, low2_ofB (by omega) (by omega), if_neg (by simpa using h1)]
    rw [show ((l.length : Int)).toNat = l.length by omega]
    by_cases hf : fs = []
    · subst hf
      have := getC_short l [] hl0 (fun x hx => (body_ok h2 x hx).1)
      simp only [List.flatMap_nil, List.append_nil]
      rw [this]
    · have hne : fs.flatMap funcB ≠ [] := by
        obtain ⟨y, l', rfl⟩ := List.exists_cons_of_ne_nil hf
        simp [List.flatMap_cons, funcB_ne]
      rw [List.dropLast_append_of_ne_nil hne, getC_put l _ [] (fun x hx => (body_ok h2 x hx).1)]
      exact getFs_short funcs fs _ hf (fun y hy => h y (by simp [hy]))
/-- One byte fewer. -/
theorem getP_short {mem : Int} {fs : List (List I4)} (h : checkP mem fs = 0) : getP (putP mem fs).dropLast = .error 1 := by
  obtain ⟨h1, h2⟩ := check_parts h
  obtain ⟨_, _, hn, _⟩ := sizes_ok h1
  have hf : fs ≠ [] := by rintro rfl; simp at hn
  have hne : fs.flatMap funcB ≠ [] := by
    obtain ⟨y, l', rfl⟩ := List.exists_cons_of_ne_nil hf
    simp [List.flatMap_cons, funcB_ne]
  rw [putP, List.dropLast_append_of_ne_nil hne, getP_head mem _ _ h1, getFs_short fs.length fs [] hf (funcs_ok h2)]
  rfl
/-- Instructions that are read, put. -/
theorem getC_back : ∀ (k : Nat) (bs : List UInt8) (acc l : List I4) (r : List UInt8), getC k bs acc = .ok (l, r) → ∃ l', l = acc ++ l' ∧ l'.length = k ∧ bs = codeB l' ++ r ∧ ∀ x ∈ l', chk x = 0
  | 0, bs, acc, l, r, h => by
    simp [getC] at h
    obtain ⟨rfl, rfl⟩ := h
    exact ⟨[], by simp, rfl, by simp [codeB], by simp⟩
  | k + 1, bs, acc, l, r, h => by
    rw [getC] at h
    split at h
    · cases h
    · rename_i h4
      split at h
      · cases h
      · rename_i he
        obtain ⟨l', e1, e2, e3, e4⟩ := getC_back k _ _ _ _ h
        have he' : (getI (bs.take 4)).2 = 0 := by simpa using he
        match bs, h4 with
        | b0 :: b1 :: b2 :: b3 :: q, _ =>
          simp only [List.take_succ_cons, List.take_zero, List.drop_succ_cons, List.drop_zero] at e1 e3 he'
          obtain ⟨p1, p2⟩ := put_get he'
          refine ⟨(getI [b0, b1, b2, b3]).1 :: l', by rw [e1]; simp, by simp [e2], ?_, ?_⟩
          · have e5 : codeB ((getI [b0, b1, b2, b3]).1 :: l') = [b0, b1, b2, b3] ++ codeB l' := by
              rw [show codeB ((getI [b0, b1, b2, b3]).1 :: l') = put4 (getI [b0, b1, b2, b3]).1 ++ codeB l' by simp [codeB, List.flatMap_cons]]
              unfold put4
              rw [p1]
            rw [e5, e3]
            simp
          · intro x hx
            rcases List.mem_cons.1 hx with rfl | hx
            · exact p2
            · exact e4 x hx
        | [], h4 => simp at h4
        | [_], h4 => simp at h4
        | [_, _], h4 => simp at h4
        | [_, _, _], h4 => simp at h4
theorem getFs_back : ∀ (n : Nat) (bs : List UInt8) (acc fs : List (List I4)) (r : List UInt8), getFs n bs acc = .ok (fs, r) → ∃ fs', fs = acc ++ fs' ∧ fs'.length = n ∧ bs = fs'.flatMap funcB ++ r ∧ ∀ l ∈ fs', l.length ≤ 200
  | 0, bs, acc, fs, r, h => by
    simp [getFs] at h
    obtain ⟨rfl, rfl⟩ := h
    exact ⟨[], by simp, rfl, by simp, by simp⟩
  | n + 1, bs, acc, fs, r, h => by
    rw [getFs] at h
    split at h
    · cases h
    · rename_i h2
      split at h
      · cases h
      · rename_i hm
        have hm' := many_ok.1 (show manyP (ofB (bs.take 2)) 200 = 0 by simpa using hm)
        split at h
        · cases h
        · rename_i l q hc
          obtain ⟨l', e1, e2, e3, _⟩ := getC_back _ _ _ _ _ hc
          obtain ⟨fs', f1, f2, f3, f4⟩ := getFs_back n _ _ _ _ h
          rw [List.nil_append] at e1
          subst e1
          refine ⟨l :: fs', by rw [f1]; simp, by simp [f2], ?_, ?_⟩
          · match bs, h2 with
            | x :: y :: q', _ =>
              simp only [List.take_succ_cons, List.take_zero, List.drop_succ_cons, List.drop_zero] at e2 e3 hm'
              have h0 := ofB_bd [x, y]
              rw [List.flatMap_cons, funcB, show (l.length : Int) = ofB [x, y] by omega, low_bytes, e3, f3]
              simp
            | [], h2 => simp at h2
            | [_], h2 => simp at h2
          · intro z hz
            rcases List.mem_cons.1 hz with rfl | hz
            · omega
            · exact f4 z hz
/-- What is got, put, is the bytes. -/
theorem putP_get {s : List UInt8} {mem : Int} {fs : List (List I4)} (h : getP s = .ok (mem, fs)) : putP mem fs = s ∧ checkP mem fs = 0 := by
  unfold getP at h
  split at h
  · cases h
  · rename_i h6
    split at h
    · cases h
    · rename_i h3
      split at h
      · cases h
      · rename_i hs
        have hs' : sizesP (ofB ((s.drop 4).take 2)) (ofB ((s.drop 3).take 1)) = 0 := by simpa using hs
        cases hg : getFs (ofB ((s.drop 3).take 1)).toNat (s.drop 6) [] with
        | error e => rw [hg] at h; cases h
        | ok p =>
          obtain ⟨fs', r⟩ := p
          rw [hg] at h
          unfold endP at h
          simp only at h
          split at h
          · cases h
          · rename_i hr
            split at h
            · cases h
            · rename_i hc
              simp at h
              obtain ⟨rfl, rfl⟩ := h
              obtain ⟨fs2, f1, f2, f3, _⟩ := getFs_back _ _ _ _ _ hg
              rw [List.nil_append] at f1
              subst f1
              have hr' : r = [] := by simpa using hr
              subst hr'
              refine ⟨?_, by simpa using hc⟩
              match s, h6 with
              | a :: b :: c :: d :: e :: f :: q, _ =>
                simp at h3 f2 f3
                obtain ⟨rfl, rfl, rfl⟩ := h3
                have hd := ofB_bd [d]
                simp only [List.drop_succ_cons, List.drop_zero, List.take_succ_cons, List.take_zero]
                rw [putP, ← f3, headB, low_bytes, f2, show (((ofB [d]).toNat : Nat) : Int) = ofB [d] by omega, low_byte]
                simp
              | [], h6 => simp at h6
              | [_], h6 => simp at h6
              | [_, _], h6 => simp at h6
              | [_, _, _], h6 => simp at h6
              | [_, _, _, _], h6 => simp at h6
              | [_, _, _, _, _], h6 => simp at h6
theorem funcB_len (l : List I4) : (funcB l).length = 2 + 4 * l.length := by
  rw [funcB, List.length_append, low_len, codeB_len]
theorem bodyP_app {code funcs : Int} : ∀ (l r : List I4), bodyP code funcs l = 0 → bodyP code funcs (l ++ r) = bodyP code funcs r
  | [], r, _ => rfl
  | x :: l, r, h => by
    unfold bodyP at h
    rw [List.cons_append, bodyP]
    split at h
    · rename_i hc; exact absurd h hc
    · rename_i hc
      rw [if_neg hc]
      split at h
      · rename_i hl
        rw [if_pos hl]
        exact bodyP_app l r h
      · simp at h
end Go.Proofs.Ytboiogjklecpaaa
