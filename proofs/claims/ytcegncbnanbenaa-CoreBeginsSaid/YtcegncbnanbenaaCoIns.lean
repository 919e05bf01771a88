/- Contracts and plain facts, cut out of the texts that other statements use:  Str, Bits, InsSpec, InsLaw, InsBack, InsBack2, PgmSpec, BitsRef, Ins, InsCheck, InsRef, InsRef2. -/
import Derived.Test.YtcegncbnanbenaaCoFrame
import Derived.Deep.Cut
import Derived.Deep.CutRange
import Derived.Deep.CutBlock
set_option linter.unusedVariables false
set_option linter.unusedSimpArgs false
namespace Go.Proofs.Ytcegncbnanbenaa
section
open Go.RowKit
set_option maxHeartbeats 400000
set_option maxRecDepth 100000
/-- A size, held from 1 to 4. -/
def hs (k : Int) : Nat := (min (max k 1) 4).toNat
end
section
open Go.RowKit
/-- An operation's operands, a letter each: r 114, n 110, t 116, f 102. -/
def formL (op : Int) : List UInt8 :=
  if (3 ≤ op ∧ op ≤ 12) ∨ op = 15 ∨ op = 16 then [114, 114, 114]
  else if op = 2 ∨ op = 13 ∨ op = 14 then [114, 114]
  else if op = 17 ∨ op = 23 ∨ op = 24 then [114]
  else if op = 1 then [114, 110]
  else if op = 19 then [114, 116]
  else if op = 18 then [116]
  else if op = 20 ∨ op = 22 then [102]
  else []
def fitB (c : UInt8) (n : Int) : Bool :=
  if c = 114 then decide (0 ≤ n ∧ n ≤ 7) else if c = 102 then decide (0 ≤ n ∧ n ≤ 15) else if c = 116 then decide (0 ≤ n ∧ n ≤ 199) else decide (-32768 ≤ n ∧ n ≤ 32767)
def checkF : List UInt8 → List Int → Int
  | [], l => if l.all (· == 0) = true then 0 else 4
  | c :: cs, n :: l => if fitB c n = true then checkF cs l else 3
  | _ :: _, [] => 0
def checkI (op a b c : Int) : Int := if op < 0 ∨ 25 < op then 5 else checkF (formL op) [a, b, c]
theorem form_cases (op : Int) : (formL op = [114, 114, 114] ∧ 3 ≤ op ∧ op ≤ 16) ∨ (formL op = [114, 114] ∧ 2 ≤ op ∧ op ≤ 14) ∨ (formL op = [114] ∧ 17 ≤ op ∧ op ≤ 24) ∨ (formL op = [114, 110] ∧ op = 1) ∨ (formL op = [114, 116] ∧ op = 19) ∨ (formL op = [116] ∧ op = 18) ∨ (formL op = [102] ∧ 20 ≤ op ∧ op ≤ 22) ∨ (formL op = [] ∧ (op < 0 ∨ op = 0 ∨ op = 21 ∨ 25 ≤ op)) := by
  unfold formL
  repeat' split
  all_goals simp
  all_goals omega
end
section
open Go.RowKit
theorem check_bad : ∀ (F : List UInt8) (V : List Int) (r : Nat), F.length ≤ V.length → (∀ i, i < r → fitB (F.getD i 0) (V.getD i 0) = true) → r < F.length → fitB (F.getD r 0) (V.getD r 0) = false → checkF F V = 3
  | [], V, r, _, _, hr, _ => by simp at hr
  | c :: cs, [], r, hl, _, _, _ => by simp at hl
  | c :: cs, n :: l, 0, hl, _, _, hf => by simp at hf; simp [checkF, hf]
  | c :: cs, n :: l, r + 1, hl, h, hr, hf => by
    have h0 := h 0 (by omega)
    simp at h0
    simp only [checkF, h0, if_true]
    exact check_bad cs l r (by simpa using hl) (fun i hi => by simpa using h (i + 1) (by omega)) (by simpa using hr) (by simpa using hf)
theorem check_rest : ∀ (F : List UInt8) (V : List Int), F.length ≤ V.length → (∀ i, i < F.length → fitB (F.getD i 0) (V.getD i 0) = true) → checkF F V = if (V.drop F.length).all (· == 0) = true then 0 else 4
  | [], V, _, _ => by simp [checkF]
  | c :: cs, [], hl, _ => by simp at hl
  | c :: cs, n :: l, hl, h => by
    have h0 := h 0 (by simp)
    simp at h0
    simp only [checkF, h0, if_true]
    rw [check_rest cs l (by simpa using hl) (fun i hi => by simpa using h (i + 1) (by simpa using hi))]
    simp
theorem form_len (op : Int) : (formL op).length ≤ 3 := by
  rcases form_cases op with h | h | h | h | h | h | h | h <;> rw [h.1] <;> simp
theorem v3_cell {w : World} {B : Nat} {a b c : Int} (y0 : w.cell? ⟨B, 0, none⟩ = some (.int .i64 a)) (y1 : w.cell? ⟨B, 1, none⟩ = some (.int .i64 b)) (y2 : w.cell? ⟨B, 2, none⟩ = some (.int .i64 c)) {r : Nat} (hr : r < 3) : w.cell? ⟨B, r, none⟩ = some (.int .i64 ([a, b, c].getD r 0)) := by
  rcases (show r = 0 ∨ r = 1 ∨ r = 2 by omega) with rfl | rfl | rfl <;> assumption
end
section
open Go.RowKit
abbrev I4 := Int × Int × Int × Int
def chk (x : I4) : Int := checkI x.1 x.2.1 x.2.2.1 x.2.2.2
def manyP (n most : Int) : Int := if n = 0 then 7 else if n > most then 9 else 0
def leadsP (x : I4) (code funcs : Int) : Bool := if x.1 = 18 then decide (x.2.1 < code) else if x.1 = 19 then decide (x.2.2.1 < code) else if x.1 = 20 ∨ x.1 = 22 then decide (x.2.1 < funcs) else true
/-- A function's instructions, one by one. -/
def bodyP (code funcs : Int) : List I4 → Int
  | [] => 0
  | x :: l => if chk x ≠ 0 then chk x else if leadsP x code funcs = true then bodyP code funcs l else 11
def endsB (op : Int) : Bool := decide (op = 0 ∨ op = 18 ∨ op = 25)
def lastP (l : List I4) : Int := if endsB (l.getD (l.length - 1) (0, 0, 0, 0)).1 = true then 0 else 12
def funcP (funcs : Int) (l : List I4) : Int :=
  if manyP l.length 200 ≠ 0 then manyP l.length 200 else if bodyP l.length funcs l ≠ 0 then bodyP l.length funcs l else lastP l
def funcsP (funcs : Int) : List (List I4) → Int
  | [] => 0
  | l :: fs => if funcP funcs l ≠ 0 then funcP funcs l else funcsP funcs fs
def sizesP (mem n : Int) : Int := if mem < 0 ∨ 256 < mem then 3 else manyP n 16
def checkP (mem : Int) (fs : List (List I4)) : Int := if sizesP mem fs.length ≠ 0 then sizesP mem fs.length else funcsP fs.length fs
theorem many_ok {n m : Int} : manyP n m = 0 ↔ n ≠ 0 ∧ n ≤ m := by
  unfold manyP
  split
  · simp; omega
  · split <;> simp <;> omega
end
section
open Go.RowKit
set_option maxRecDepth 100000
set_option maxHeartbeats 8000000
theorem form_any (op : Int) (w : World) : Calls Try.prog 95 #[.int .i64 op] w fun e w' => e = .returned (.string ⟨(formL op).toArray⟩) ∧ w = w' := by
  rcases (show (3 ≤ op ∧ op ≤ 12) ∨ op = 15 ∨ op = 16 ∨ op = 2 ∨ op = 13 ∨ op = 14 ∨ op = 17 ∨ op = 23 ∨ op = 24 ∨ op = 1 ∨ op = 19 ∨ op = 18 ∨ op = 20 ∨ op = 22 ∨ op = 0 ∨ op = 21 ∨ op < 0 ∨ 25 ≤ op by omega) with h | rfl | rfl | rfl | rfl | rfl | rfl | rfl | rfl | rfl | rfl | rfl | rfl | rfl | rfl | rfl | h | h
  all_goals
    go_enter Try.func95, Try.ntmps95
    go_wp2
    go_ret
    exact ⟨by unfold formL; (repeat' split) <;> first | rfl | (exfalso; omega), rfl⟩
theorem fields_any (op a b c : Int) (w : World) : Calls Try.prog 96 #[.agg #[.int .i64 op, .int .i64 a, .int .i64 b, .int .i64 c]] w fun e w' => e = .returned (.agg #[.int .i64 a, .int .i64 b, .int .i64 c]) ∧ Below w.heap.size w w' := by
  go_enter Try.func96, Try.ntmps96
  go_wp2
  exact bodyPost_ret (v := .agg #[.int .i64 a, .int .i64 b, .int .i64 c]) (by simp [results, Try.results96, go_sem]) rfl ⟨rfl, by go_grown⟩
theorem fits_letter (c : UInt8) (n : Int) (w : World) : Calls Try.prog 97 #[.int .u8 c.toNat, .int .i64 n] w fun e w' => e = .returned (.bool (fitB c n)) ∧ w = w' := by
  by_cases h1 : c = 114
  · subst h1
    by_cases a1 : 0 ≤ n <;> by_cases a2 : n ≤ 7
    all_goals
      go_enter Try.func97, Try.ntmps97
      go_wp2
      go_ret
      exact ⟨ret_bool (by unfold fitB; simp <;> omega), rfl⟩
  · by_cases h2 : c = 102
    · subst h2
      by_cases a1 : 0 ≤ n <;> by_cases a2 : n ≤ 15
      all_goals
        go_enter Try.func97, Try.ntmps97
        go_wp2
        go_ret
        exact ⟨ret_bool (by unfold fitB; simp <;> omega), rfl⟩
    · by_cases h3 : c = 116
      · subst h3
        by_cases a1 : 0 ≤ n <;> by_cases a2 : n ≤ 199
        all_goals
          go_enter Try.func97, Try.ntmps97
          go_wp2
          go_ret
          exact ⟨ret_bool (by unfold fitB; simp <;> omega), rfl⟩
      · have n1 : (c.toNat : Int) ≠ 114 := fun h => h1 (UInt8.toNat_inj.1 (by simpa using (show c.toNat = 114 by omega)))
        have n2 : (c.toNat : Int) ≠ 102 := fun h => h2 (UInt8.toNat_inj.1 (by simpa using (show c.toNat = 102 by omega)))
        have n3 : (c.toNat : Int) ≠ 116 := fun h => h3 (UInt8.toNat_inj.1 (by simpa using (show c.toNat = 116 by omega)))
        by_cases a1 : -32768 ≤ n <;> by_cases a2 : n ≤ 32767
        all_goals
          first
            | (exfalso; omega)
            | (go_enter Try.func97, Try.ntmps97
               go_wp2
               go_ret
               exact ⟨ret_bool (by unfold fitB; simp [h1, h2, h3] <;> omega), rfl⟩)
end
section
open Go.RowKit
set_option maxRecDepth 100000
set_option maxHeartbeats 8000000
theorem Own.lift {P : Program} {f : FuncId} {args : Array Value} {w0 w : World} {l : List Ast} {v : Value} (h : Calls P f args w fun e w' => e = .returned v ∧ Below w.heap.size w w') (hO : Own w0 w l) (v' : Value) (hv : v = v') : Calls P f args w fun e w' => e = .returned v' ∧ Own w0 w' l := by
  subst hv
  exact h.mono fun e w' ⟨he, hb⟩ => ⟨he, hO.grow hb⟩
theorem quiet_same2 {P : Program} {f : FuncId} {args : Array Value} {w : World} {k n : Nat} {v : Value} (h : Calls P f args (w.drewN (k + n)) fun e w' => e = .returned v ∧ w.drewN (k + n) = w') : Calls P f args (w.drewN (k + n)) fun e w'' => e = .returned v ∧ ∃ m, w'' = (w.drewN k).drewN m :=
  h.mono fun _ _ ⟨he, hm⟩ => ⟨he, n, by rw [← hm, World.drewN_drewN]⟩
theorem quiet_same3 {P : Program} {f : FuncId} {args : Array Value} {w : World} {k n : Nat} {v : Value} (h : Calls P f args (w.drewN (k + n)) fun e w' => e = .returned v ∧ w.drewN (k + n) = w') : Calls P f args (w.drewN (k + n)) fun e w'' => e = .returned v ∧ ∃ m, w'' = w.drewN (k + m) :=
  h.mono fun _ _ ⟨he, hm⟩ => ⟨he, n, hm.symm⟩
theorem icheck_any (op a b c : Int) (w : World) : Calls Try.prog 91 #[.agg #[.int .i64 op, .int .i64 a, .int .i64 b, .int .i64 c]] w fun e w' => e = .returned (.int .i64 (checkI op a b c)) ∧ Below w.heap.size w w' := by
  by_cases ho : op < 0 ∨ 25 < op
  · have hv : checkI op a b c = 5 := by unfold checkI; rw [if_pos ho]
    rcases ho with ho | ho
    all_goals
      go_enter Try.func91, Try.ntmps91
      go_wp2
      go_ret
      exact ⟨ret_int hv.symm, by go_grown⟩
  · have hO := (Own.nil (Below.refl _ w)).box #[.int .i64 op, .int .i64 a, .int .i64 b, .int .i64 c] 29
    have h1 : ¬ op < 0 := fun h => ho (.inl h)
    have h2 : ¬ 25 < op := fun h => ho (.inr h)
    have hv : checkI op a b c = checkF (formL op) [a, b, c] := by unfold checkI; rw [if_neg ho]
    rw [hv]
    have hn := form_len op
    have FM := Lib.hid (fun w1 => form_any op w1)
    generalize formL op = F at *
    clear hv ho
    go_enter Try.func91, Try.ntmps91
    go_upto_region 3 with fail
    generalize w.alloc (.cells #[.int .i64 op, .int .i64 a, .int .i64 b, .int .i64 c] 29) = u at *
    generalize w.heap.size = xb at *
    have hU : Own w u.drew _ := hO.drewN 1
    clear hO
    go_cut [3, 4] from 16 to 20 (fun f l wx => ∃ B : Nat, f = .string ⟨F.toArray⟩ ∧ l = .pointer (some ⟨B, 0, none⟩) ∧ Own w wx [cellsA xb #[.int .i64 op, .int .i64 a, .int .i64 b, .int .i64 c] 29, cellsA B #[.int .i64 a, .int .i64 b, .int .i64 c] 153])
    case first =>
      refine lin_start (S := (fun w' : World => w'.cell? ⟨xb, 0, none⟩ = some (.int .i64 op) ∧ w'.cell? ⟨xb, 1, none⟩ = some (.int .i64 a) ∧ w'.cell? ⟨xb, 2, none⟩ = some (.int .i64 b) ∧ w'.cell? ⟨xb, 3, none⟩ = some (.int .i64 c))) rfl 8 rfl ((show (fun w' : World => w'.cell? ⟨xb, 0, none⟩ = some (.int .i64 op) ∧ w'.cell? ⟨xb, 1, none⟩ = some (.int .i64 a) ∧ w'.cell? ⟨xb, 2, none⟩ = some (.int .i64 b) ∧ w'.cell? ⟨xb, 3, none⟩ = some (.int .i64 c)) _ from ⟨(hU.cget 0 rfl 0).1, (hU.cget 0 rfl 1).1, (hU.cget 0 rfl 2).1, (hU.cget 0 rfl 3).1⟩)) ?_
      simp only [numbered, Nat.zero_add, Nat.reduceAdd]
      generalize u.drew = u0 at *
      have hHeld := (show (fun w' : World => w'.cell? ⟨xb, 0, none⟩ = some (.int .i64 op) ∧ w'.cell? ⟨xb, 1, none⟩ = some (.int .i64 a) ∧ w'.cell? ⟨xb, 2, none⟩ = some (.int .i64 b) ∧ w'.cell? ⟨xb, 3, none⟩ = some (.int .i64 c)) _ from ⟨(hU.cget 0 rfl 0).1, (hU.cget 0 rfl 1).1, (hU.cget 0 rfl 2).1, (hU.cget 0 rfl 3).1⟩)
      refine lin_take (v := ?_) (by kernel_rfl) (by kernel_rfl) (fun _ _ _ h => h) (Or.inl ⟨by rfl, ?_⟩) (by assumption) ?_; (rotate_left; (intro wS hSw; (try dsimp only at hSw); go_simp; (try with_reducible rfl)); rotate_left); simp only [Act.put, List.setIfInBounds_toArray, List.set_cons_zero, List.set_cons_succ]
      refine lin_take (v := ?_) (by kernel_rfl) (by kernel_rfl) (fun _ _ _ h => h) (Or.inl ⟨by rfl, ?_⟩) (by assumption) ?_; (rotate_left; (intro wS hSw; (try dsimp only at hSw); go_simp; (try with_reducible rfl)); rotate_left); simp only [Act.put, List.setIfInBounds_toArray, List.set_cons_zero, List.set_cons_succ]
      refine lin_rot ?_; simp only [List.cons_append, List.nil_append]
      refine lin_take (v := ?_) (by kernel_rfl) (by kernel_rfl) (fun _ _ _ h => h) (Or.inl ⟨by rfl, ?_⟩) (by assumption) ?_; (rotate_left; (intro wS hSw; (try dsimp only at hSw); go_simp; (try with_reducible rfl)); rotate_left); simp only [Act.put, List.setIfInBounds_toArray, List.set_cons_zero, List.set_cons_succ]
      refine lin_rot ?_; simp only [List.cons_append, List.nil_append]
      refine lin_rot ?_; simp only [List.cons_append, List.nil_append]
      refine lin_rot ?_; simp only [List.cons_append, List.nil_append]
      refine lin_rot ?_; simp only [List.cons_append, List.nil_append]
      refine lin_rot ?_; simp only [List.cons_append, List.nil_append]
      refine lin_rot ?_; simp only [List.cons_append, List.nil_append]
      refine lin_rot ?_; simp only [List.cons_append, List.nil_append]
      refine lin_rot ?_; simp only [List.cons_append, List.nil_append]
      refine lin_rot ?_; simp only [List.cons_append, List.nil_append]
      refine lin_rot ?_; simp only [List.cons_append, List.nil_append]
      refine lin_swap ?_
      refine lin_rot ?_; simp only [List.cons_append, List.nil_append]
      refine lin_rot ?_; simp only [List.cons_append, List.nil_append]
      refine lin_rot ?_; simp only [List.cons_append, List.nil_append]
      refine lin_rot ?_; simp only [List.cons_append, List.nil_append]
      refine lin_pair (by kernel_rfl) ?pone ?ptwo
      case' pone =>
        intro K hK
        go_simp
        refine (FM.out _).mono ?_; rintro e w1 ⟨rfl, rfl⟩
        refine hK.out _ _ ((show (fun w' : World => w'.cell? ⟨xb, 0, none⟩ = some (.int .i64 op) ∧ w'.cell? ⟨xb, 1, none⟩ = some (.int .i64 a) ∧ w'.cell? ⟨xb, 2, none⟩ = some (.int .i64 b) ∧ w'.cell? ⟨xb, 3, none⟩ = some (.int .i64 c)) _ from ⟨(hU.cget 0 rfl 0).1, (hU.cget 0 rfl 1).1, (hU.cget 0 rfl 2).1, (hU.cget 0 rfl 3).1⟩)) (fun hHeld => ?_)
        try simp only [Act.put, List.setIfInBounds_toArray, List.set_cons_zero, List.set_cons_succ]
        clear hK
        refine lin_pair (by kernel_rfl) ?pthree ?pfour
        case' pthree =>
          intro K hK
          go_simp
          have hB := hU.box #[.int .i64 0, .int .i64 0, .int .i64 0] 153
          refine hK.out _ _ ((show (fun w' : World => w'.cell? ⟨xb, 0, none⟩ = some (.int .i64 op) ∧ w'.cell? ⟨xb, 1, none⟩ = some (.int .i64 a) ∧ w'.cell? ⟨xb, 2, none⟩ = some (.int .i64 b) ∧ w'.cell? ⟨xb, 3, none⟩ = some (.int .i64 c)) _ from ⟨(hB.cget 0 rfl 0).1, (hB.cget 0 rfl 1).1, (hB.cget 0 rfl 2).1, (hB.cget 0 rfl 3).1⟩)) (fun hHeld => ?_)
          try simp only [Act.put, List.setIfInBounds_toArray, List.set_cons_zero, List.set_cons_succ]
          clear hK hHeld hU; generalize u0.alloc (.cells #[.int .i64 0, .int .i64 0, .int .i64 0] 153) = u1 at *; generalize u0.heap.size = bb0 at *; have hHeld := (show (fun w' : World => w'.cell? ⟨xb, 0, none⟩ = some (.int .i64 op) ∧ w'.cell? ⟨xb, 1, none⟩ = some (.int .i64 a) ∧ w'.cell? ⟨xb, 2, none⟩ = some (.int .i64 b) ∧ w'.cell? ⟨xb, 3, none⟩ = some (.int .i64 c)) _ from ⟨(hB.cget 0 rfl 0).1, (hB.cget 0 rfl 1).1, (hB.cget 0 rfl 2).1, (hB.cget 0 rfl 3).1⟩)
          refine lin_sole (by kernel_rfl) (fun K hK => ?_)
          go_simp
          refine (Own.lift (fields_any op a b c _) hB _ rfl).mono ?_; rintro e u2 ⟨rfl, hC⟩
          refine hK.out _ _ ((show (fun w' : World => w'.cell? ⟨xb, 0, none⟩ = some (.int .i64 op) ∧ w'.cell? ⟨xb, 1, none⟩ = some (.int .i64 a) ∧ w'.cell? ⟨xb, 2, none⟩ = some (.int .i64 b) ∧ w'.cell? ⟨xb, 3, none⟩ = some (.int .i64 c)) _ from ⟨(hC.cget 0 rfl 0).1, (hC.cget 0 rfl 1).1, (hC.cget 0 rfl 2).1, (hC.cget 0 rfl 3).1⟩)) (fun hHeld => ?_)
          try simp only [Act.put, List.setIfInBounds_toArray, List.set_cons_zero, List.set_cons_succ]
          clear hK hB; have hHeld := (show (fun w' : World => w'.cell? ⟨xb, 0, none⟩ = some (.int .i64 op) ∧ w'.cell? ⟨xb, 1, none⟩ = some (.int .i64 a) ∧ w'.cell? ⟨xb, 2, none⟩ = some (.int .i64 b) ∧ w'.cell? ⟨xb, 3, none⟩ = some (.int .i64 c)) _ from ⟨(hC.cget 0 rfl 0).1, (hC.cget 0 rfl 1).1, (hC.cget 0 rfl 2).1, (hC.cget 0 rfl 3).1⟩)
          refine lin_take (v := ?_) (by kernel_rfl) (by kernel_rfl) (fun _ _ _ h => h) (Or.inl ⟨by rfl, ?_⟩) (by assumption) ?_; (rotate_left; (intro wS hSw; (try dsimp only at hSw); go_simp; (try with_reducible rfl)); rotate_left); simp only [Act.put, List.setIfInBounds_toArray, List.set_cons_zero, List.set_cons_succ]
          obtain ⟨d0, k0⟩ := hC.cget 1 rfl 0
          obtain ⟨d1, k1⟩ := hC.cget 1 rfl 1
          obtain ⟨d2, k2⟩ := hC.cget 1 rfl 2
          simp at d0 d1 d2
          have hF := (((hC.cset 1 rfl 0 (.int .i64 a)).cset 1 rfl 1 (.int .i64 b)).cset 1 rfl 2 (.int .i64 c))
          refine lin_sole (by kernel_rfl) (fun K hK => ?_)
          go_simp
          refine hK.out _ _ ((show (fun w' : World => w'.cell? ⟨xb, 0, none⟩ = some (.int .i64 op) ∧ w'.cell? ⟨xb, 1, none⟩ = some (.int .i64 a) ∧ w'.cell? ⟨xb, 2, none⟩ = some (.int .i64 b) ∧ w'.cell? ⟨xb, 3, none⟩ = some (.int .i64 c)) _ from ⟨(hF.cget 0 rfl 0).1, (hF.cget 0 rfl 1).1, (hF.cget 0 rfl 2).1, (hF.cget 0 rfl 3).1⟩)) (fun hHeld => ?_)
          try simp only [Act.put, List.setIfInBounds_toArray, List.set_cons_zero, List.set_cons_succ]
          clear hK
          refine lin_done (by kernel_rfl) ?_
        case' pfour =>
          intro K hK
          go_simp
          refine (Own.lift (fields_any op a b c _) hU _ rfl).mono ?_; rintro e u1 ⟨rfl, hB⟩
          refine hK.out _ _ ((show (fun w' : World => w'.cell? ⟨xb, 0, none⟩ = some (.int .i64 op) ∧ w'.cell? ⟨xb, 1, none⟩ = some (.int .i64 a) ∧ w'.cell? ⟨xb, 2, none⟩ = some (.int .i64 b) ∧ w'.cell? ⟨xb, 3, none⟩ = some (.int .i64 c)) _ from ⟨(hB.cget 0 rfl 0).1, (hB.cget 0 rfl 1).1, (hB.cget 0 rfl 2).1, (hB.cget 0 rfl 3).1⟩)) (fun hHeld => ?_)
          try simp only [Act.put, List.setIfInBounds_toArray, List.set_cons_zero, List.set_cons_succ]
          clear hK hU; have hHeld := (show (fun w' : World => w'.cell? ⟨xb, 0, none⟩ = some (.int .i64 op) ∧ w'.cell? ⟨xb, 1, none⟩ = some (.int .i64 a) ∧ w'.cell? ⟨xb, 2, none⟩ = some (.int .i64 b) ∧ w'.cell? ⟨xb, 3, none⟩ = some (.int .i64 c)) _ from ⟨(hB.cget 0 rfl 0).1, (hB.cget 0 rfl 1).1, (hB.cget 0 rfl 2).1, (hB.cget 0 rfl 3).1⟩)
          refine lin_sole (by kernel_rfl) (fun K hK => ?_)
          go_simp
          have hC := hB.box #[.int .i64 0, .int .i64 0, .int .i64 0] 153
          refine hK.out _ _ ((show (fun w' : World => w'.cell? ⟨xb, 0, none⟩ = some (.int .i64 op) ∧ w'.cell? ⟨xb, 1, none⟩ = some (.int .i64 a) ∧ w'.cell? ⟨xb, 2, none⟩ = some (.int .i64 b) ∧ w'.cell? ⟨xb, 3, none⟩ = some (.int .i64 c)) _ from ⟨(hC.cget 0 rfl 0).1, (hC.cget 0 rfl 1).1, (hC.cget 0 rfl 2).1, (hC.cget 0 rfl 3).1⟩)) (fun hHeld => ?_)
          try simp only [Act.put, List.setIfInBounds_toArray, List.set_cons_zero, List.set_cons_succ]
          clear hK hHeld hB; generalize u1.alloc (.cells #[.int .i64 0, .int .i64 0, .int .i64 0] 153) = u2 at *; generalize u1.heap.size = bb0 at *; have hHeld := (show (fun w' : World => w'.cell? ⟨xb, 0, none⟩ = some (.int .i64 op) ∧ w'.cell? ⟨xb, 1, none⟩ = some (.int .i64 a) ∧ w'.cell? ⟨xb, 2, none⟩ = some (.int .i64 b) ∧ w'.cell? ⟨xb, 3, none⟩ = some (.int .i64 c)) _ from ⟨(hC.cget 0 rfl 0).1, (hC.cget 0 rfl 1).1, (hC.cget 0 rfl 2).1, (hC.cget 0 rfl 3).1⟩)
          refine lin_take (v := ?_) (by kernel_rfl) (by kernel_rfl) (fun _ _ _ h => h) (Or.inl ⟨by rfl, ?_⟩) (by assumption) ?_; (rotate_left; (intro wS hSw; (try dsimp only at hSw); go_simp; (try with_reducible rfl)); rotate_left); simp only [Act.put, List.setIfInBounds_toArray, List.set_cons_zero, List.set_cons_succ]
          obtain ⟨d0, k0⟩ := hC.cget 1 rfl 0
          obtain ⟨d1, k1⟩ := hC.cget 1 rfl 1
          obtain ⟨d2, k2⟩ := hC.cget 1 rfl 2
          simp at d0 d1 d2
          have hF := (((hC.cset 1 rfl 0 (.int .i64 a)).cset 1 rfl 1 (.int .i64 b)).cset 1 rfl 2 (.int .i64 c))
          refine lin_sole (by kernel_rfl) (fun K hK => ?_)
          go_simp
          refine hK.out _ _ ((show (fun w' : World => w'.cell? ⟨xb, 0, none⟩ = some (.int .i64 op) ∧ w'.cell? ⟨xb, 1, none⟩ = some (.int .i64 a) ∧ w'.cell? ⟨xb, 2, none⟩ = some (.int .i64 b) ∧ w'.cell? ⟨xb, 3, none⟩ = some (.int .i64 c)) _ from ⟨(hF.cget 0 rfl 0).1, (hF.cget 0 rfl 1).1, (hF.cget 0 rfl 2).1, (hF.cget 0 rfl 3).1⟩)) (fun hHeld => ?_)
          try simp only [Act.put, List.setIfInBounds_toArray, List.set_cons_zero, List.set_cons_succ]
          clear hK
          refine lin_done (by kernel_rfl) ?_
      case' ptwo =>
        intro K hK
        go_simp
        have hB := hU.box #[.int .i64 0, .int .i64 0, .int .i64 0] 153
        refine hK.out _ _ ((show (fun w' : World => w'.cell? ⟨xb, 0, none⟩ = some (.int .i64 op) ∧ w'.cell? ⟨xb, 1, none⟩ = some (.int .i64 a) ∧ w'.cell? ⟨xb, 2, none⟩ = some (.int .i64 b) ∧ w'.cell? ⟨xb, 3, none⟩ = some (.int .i64 c)) _ from ⟨(hB.cget 0 rfl 0).1, (hB.cget 0 rfl 1).1, (hB.cget 0 rfl 2).1, (hB.cget 0 rfl 3).1⟩)) (fun hHeld => ?_)
        try simp only [Act.put, List.setIfInBounds_toArray, List.set_cons_zero, List.set_cons_succ]
        clear hK hHeld hU; generalize u0.alloc (.cells #[.int .i64 0, .int .i64 0, .int .i64 0] 153) = u1 at *; generalize u0.heap.size = bb0 at *; have hHeld := (show (fun w' : World => w'.cell? ⟨xb, 0, none⟩ = some (.int .i64 op) ∧ w'.cell? ⟨xb, 1, none⟩ = some (.int .i64 a) ∧ w'.cell? ⟨xb, 2, none⟩ = some (.int .i64 b) ∧ w'.cell? ⟨xb, 3, none⟩ = some (.int .i64 c)) _ from ⟨(hB.cget 0 rfl 0).1, (hB.cget 0 rfl 1).1, (hB.cget 0 rfl 2).1, (hB.cget 0 rfl 3).1⟩)
        refine lin_sole (by kernel_rfl) (fun K hK => ?_)
        go_simp
        refine (FM.out _).mono ?_; rintro e w1 ⟨rfl, rfl⟩
        refine hK.out _ _ ((show (fun w' : World => w'.cell? ⟨xb, 0, none⟩ = some (.int .i64 op) ∧ w'.cell? ⟨xb, 1, none⟩ = some (.int .i64 a) ∧ w'.cell? ⟨xb, 2, none⟩ = some (.int .i64 b) ∧ w'.cell? ⟨xb, 3, none⟩ = some (.int .i64 c)) _ from ⟨(hB.cget 0 rfl 0).1, (hB.cget 0 rfl 1).1, (hB.cget 0 rfl 2).1, (hB.cget 0 rfl 3).1⟩)) (fun hHeld => ?_)
        try simp only [Act.put, List.setIfInBounds_toArray, List.set_cons_zero, List.set_cons_succ]
        clear hK
        refine lin_sole (by kernel_rfl) (fun K hK => ?_)
        go_simp
        refine (Own.lift (fields_any op a b c _) hB _ rfl).mono ?_; rintro e u2 ⟨rfl, hC⟩
        refine hK.out _ _ ((show (fun w' : World => w'.cell? ⟨xb, 0, none⟩ = some (.int .i64 op) ∧ w'.cell? ⟨xb, 1, none⟩ = some (.int .i64 a) ∧ w'.cell? ⟨xb, 2, none⟩ = some (.int .i64 b) ∧ w'.cell? ⟨xb, 3, none⟩ = some (.int .i64 c)) _ from ⟨(hC.cget 0 rfl 0).1, (hC.cget 0 rfl 1).1, (hC.cget 0 rfl 2).1, (hC.cget 0 rfl 3).1⟩)) (fun hHeld => ?_)
        try simp only [Act.put, List.setIfInBounds_toArray, List.set_cons_zero, List.set_cons_succ]
        clear hK hB; have hHeld := (show (fun w' : World => w'.cell? ⟨xb, 0, none⟩ = some (.int .i64 op) ∧ w'.cell? ⟨xb, 1, none⟩ = some (.int .i64 a) ∧ w'.cell? ⟨xb, 2, none⟩ = some (.int .i64 b) ∧ w'.cell? ⟨xb, 3, none⟩ = some (.int .i64 c)) _ from ⟨(hC.cget 0 rfl 0).1, (hC.cget 0 rfl 1).1, (hC.cget 0 rfl 2).1, (hC.cget 0 rfl 3).1⟩)
        refine lin_take (v := ?_) (by kernel_rfl) (by kernel_rfl) (fun _ _ _ h => h) (Or.inl ⟨by rfl, ?_⟩) (by assumption) ?_; (rotate_left; (intro wS hSw; (try dsimp only at hSw); go_simp; (try with_reducible rfl)); rotate_left); simp only [Act.put, List.setIfInBounds_toArray, List.set_cons_zero, List.set_cons_succ]
        obtain ⟨d0, k0⟩ := hC.cget 1 rfl 0
        obtain ⟨d1, k1⟩ := hC.cget 1 rfl 1
        obtain ⟨d2, k2⟩ := hC.cget 1 rfl 2
        simp at d0 d1 d2
        have hF := (((hC.cset 1 rfl 0 (.int .i64 a)).cset 1 rfl 1 (.int .i64 b)).cset 1 rfl 2 (.int .i64 c))
        refine lin_sole (by kernel_rfl) (fun K hK => ?_)
        go_simp
        refine hK.out _ _ ((show (fun w' : World => w'.cell? ⟨xb, 0, none⟩ = some (.int .i64 op) ∧ w'.cell? ⟨xb, 1, none⟩ = some (.int .i64 a) ∧ w'.cell? ⟨xb, 2, none⟩ = some (.int .i64 b) ∧ w'.cell? ⟨xb, 3, none⟩ = some (.int .i64 c)) _ from ⟨(hF.cget 0 rfl 0).1, (hF.cget 0 rfl 1).1, (hF.cget 0 rfl 2).1, (hF.cget 0 rfl 3).1⟩)) (fun hHeld => ?_)
        try simp only [Act.put, List.setIfInBounds_toArray, List.set_cons_zero, List.set_cons_succ]
        clear hK
        refine lin_done (by kernel_rfl) ?_
      all_goals
        go_wp2_with fail
        go_meet
        exact ⟨_, rfl, rfl, hF⟩
    case rest =>
      clear hU
      obtain ⟨B, rfl, rfl, hO⟩ := hcut
      have hBl := hO.below
      have y0 := (hO.cget 1 rfl 0).1
      have y1 := (hO.cget 1 rfl 1).1
      have y2 := (hO.cget 1 rfl 2).1
      simp at y0 y1 y2
      have Y := Lib.hid (fun (r : Nat) (hr : r < 3) => v3_cell y0 y1 y2 hr)
      clear y0 y1 y2 hO
      go_wp2_with fail
      go_loopw [23] (fun kv wr => ∃ r m : Nat, r ≤ F.length ∧ kv = .int .i64 r ∧ Hid (∀ i, i < r → fitB (F.getD i 0) ([a, b, c].getD i 0) = true) ∧ wr = wc.drewN m) (fun kv _ => (F.length - intOf kv).toNat)
      case atStart => exact ⟨0, 0, by omega, rfl, Lib.hid (fun i hi => by omega), rfl⟩
      case round =>
        obtain ⟨r, m, hr, hkv, hf, rfl⟩ := hrel
        by_cases hlt : r < F.length
        · rcases (show r = 0 ∨ r = 1 ∨ r = 2 by omega) with rfl | rfl | rfl
          · rw [show ((0 : Nat) : Int) = 0 from rfl] at hkv
            subst hkv
            have x := Y.out 0 (by omega)
            have hc : F.getD 0 0 = F[0] := by rw [List.getD_eq_getElem?_getD, List.getElem?_eq_getElem hlt]; rfl
            rw [show [a, b, c].getD 0 0 = a from rfl] at x
            have hbz : 0 < (⟨F.toArray⟩ : ByteArray).size := by simpa [ByteArray.size] using hlt
            have FT := fun w1 => fits_letter (F[0]) a w1
            cases hfv : fitB (F.getD 0 0) a with
            | true =>
              rw [hc] at hfv
              rw [hfv] at FT
              replace FT := Lib.hid (show ∀ w1, Calls Try.prog 97 #[.int .u8 (((⟨F.toArray⟩ : ByteArray)[0]'hbz).toNat), .int .i64 a] w1 fun e w' => e = .returned (.bool true) ∧ w1 = w' from FT)
              rw [← hc] at hfv
              have hf2 := Lib.hid (show ∀ i, i < 0 + 1 → fitB (F.getD i 0) ([a, b, c].getD i 0) = true from fun i hi => by
                by_cases h : i < 0
                · exact hf.out i h
                · obtain rfl : i = 0 := by omega
                  exact hfv)
              clear hf hfv hc
              go_wp2_with fail
              go_quiet ((go_at_call 97; first | exact quiet_same (FT.out _) | exact quiet_same2 (FT.out _) | exact quiet_same3 (FT.out _)))
              go_wp2_with fail
              go_roundw
              case rel => exact ⟨0 + 1, _, by omega, by go_num, hf2, by first | rfl | exact drewN_two⟩
              case measure => simp [intOf]; omega
            | false =>
              rw [hc] at hfv
              rw [hfv] at FT
              replace FT := Lib.hid (show ∀ w1, Calls Try.prog 97 #[.int .u8 (((⟨F.toArray⟩ : ByteArray)[0]'hbz).toNat), .int .i64 a] w1 fun e w' => e = .returned (.bool false) ∧ w1 = w' from FT)
              rw [← hc] at hfv
              have hv := Lib.hid (check_bad F [a, b, c] 0 (by simpa using hn) hf.out hlt hfv)
              clear hf hfv hc
              go_wp2_with fail
              go_quiet ((go_at_call 97; first | exact quiet_same (FT.out _) | exact quiet_same2 (FT.out _) | exact quiet_same3 (FT.out _)))
              go_wp2_with fail
              go_ret
              exact ⟨ret_int hv.out.symm, by first | exact below_drewN' hBl _ | (rw [drewN_two]; exact below_drewN' hBl _)⟩
          · rw [show ((1 : Nat) : Int) = 1 from rfl] at hkv
            subst hkv
            have x := Y.out 1 (by omega)
            have hc : F.getD 1 0 = F[1] := by rw [List.getD_eq_getElem?_getD, List.getElem?_eq_getElem hlt]; rfl
            rw [show [a, b, c].getD 1 0 = b from rfl] at x
            have hbz : 1 < (⟨F.toArray⟩ : ByteArray).size := by simpa [ByteArray.size] using hlt
            have FT := fun w1 => fits_letter (F[1]) b w1
            cases hfv : fitB (F.getD 1 0) b with
            | true =>
              rw [hc] at hfv
              rw [hfv] at FT
              replace FT := Lib.hid (show ∀ w1, Calls Try.prog 97 #[.int .u8 (((⟨F.toArray⟩ : ByteArray)[1]'hbz).toNat), .int .i64 b] w1 fun e w' => e = .returned (.bool true) ∧ w1 = w' from FT)
              rw [← hc] at hfv
              have hf2 := Lib.hid (show ∀ i, i < 1 + 1 → fitB (F.getD i 0) ([a, b, c].getD i 0) = true from fun i hi => by
                by_cases h : i < 1
                · exact hf.out i h
                · obtain rfl : i = 1 := by omega
                  exact hfv)
              clear hf hfv hc
              go_wp2_with fail
              go_quiet ((go_at_call 97; first | exact quiet_same (FT.out _) | exact quiet_same2 (FT.out _) | exact quiet_same3 (FT.out _)))
              go_wp2_with fail
              go_roundw
              case rel => exact ⟨1 + 1, _, by omega, by go_num, hf2, by first | rfl | exact drewN_two⟩
              case measure => simp [intOf]; omega
            | false =>
              rw [hc] at hfv
              rw [hfv] at FT
              replace FT := Lib.hid (show ∀ w1, Calls Try.prog 97 #[.int .u8 (((⟨F.toArray⟩ : ByteArray)[1]'hbz).toNat), .int .i64 b] w1 fun e w' => e = .returned (.bool false) ∧ w1 = w' from FT)
              rw [← hc] at hfv
              have hv := Lib.hid (check_bad F [a, b, c] 1 (by simpa using hn) hf.out hlt hfv)
              clear hf hfv hc
              go_wp2_with fail
              go_quiet ((go_at_call 97; first | exact quiet_same (FT.out _) | exact quiet_same2 (FT.out _) | exact quiet_same3 (FT.out _)))
              go_wp2_with fail
              go_ret
              exact ⟨ret_int hv.out.symm, by first | exact below_drewN' hBl _ | (rw [drewN_two]; exact below_drewN' hBl _)⟩
          · rw [show ((2 : Nat) : Int) = 2 from rfl] at hkv
            subst hkv
            have x := Y.out 2 (by omega)
            have hc : F.getD 2 0 = F[2] := by rw [List.getD_eq_getElem?_getD, List.getElem?_eq_getElem hlt]; rfl
            rw [show [a, b, c].getD 2 0 = c from rfl] at x
            have hbz : 2 < (⟨F.toArray⟩ : ByteArray).size := by simpa [ByteArray.size] using hlt
            have FT := fun w1 => fits_letter (F[2]) c w1
            cases hfv : fitB (F.getD 2 0) c with
            | true =>
              rw [hc] at hfv
              rw [hfv] at FT
              replace FT := Lib.hid (show ∀ w1, Calls Try.prog 97 #[.int .u8 (((⟨F.toArray⟩ : ByteArray)[2]'hbz).toNat), .int .i64 c] w1 fun e w' => e = .returned (.bool true) ∧ w1 = w' from FT)
              rw [← hc] at hfv
              have hf2 := Lib.hid (show ∀ i, i < 2 + 1 → fitB (F.getD i 0) ([a, b, c].getD i 0) = true from fun i hi => by
                by_cases h : i < 2
                · exact hf.out i h
                · obtain rfl : i = 2 := by omega
                  exact hfv)
              clear hf hfv hc
              go_wp2_with fail
              go_quiet ((go_at_call 97; first | exact quiet_same (FT.out _) | exact quiet_same2 (FT.out _) | exact quiet_same3 (FT.out _)))
              go_wp2_with fail
              go_roundw
              case rel => exact ⟨2 + 1, _, by omega, by go_num, hf2, by first | rfl | exact drewN_two⟩
              case measure => simp [intOf]; omega
            | false =>
              rw [hc] at hfv
              rw [hfv] at FT
              replace FT := Lib.hid (show ∀ w1, Calls Try.prog 97 #[.int .u8 (((⟨F.toArray⟩ : ByteArray)[2]'hbz).toNat), .int .i64 c] w1 fun e w' => e = .returned (.bool false) ∧ w1 = w' from FT)
              rw [← hc] at hfv
              have hv := Lib.hid (check_bad F [a, b, c] 2 (by simpa using hn) hf.out hlt hfv)
              clear hf hfv hc
              go_wp2_with fail
              go_quiet ((go_at_call 97; first | exact quiet_same (FT.out _) | exact quiet_same2 (FT.out _) | exact quiet_same3 (FT.out _)))
              go_wp2_with fail
              go_ret
              exact ⟨ret_int hv.out.symm, by first | exact below_drewN' hBl _ | (rw [drewN_two]; exact below_drewN' hBl _)⟩
        · obtain rfl : r = F.length := by omega
          subst hkv
          have hv := Lib.hid (check_rest F [a, b, c] (by simpa using hn) hf.out)
          clear hf
          rcases (show F.length = 0 ∨ F.length = 1 ∨ F.length = 2 ∨ F.length = 3 by omega) with hk | hk | hk | hk
          · have y0 := Y.out 0 (by omega)
            have y1 := Y.out 1 (by omega)
            have y2 := Y.out 2 (by omega)
            simp at y0 y1 y2
            clear Y
            rw [hk] at hv ⊢
            by_cases za : a = 0
            · by_cases zb : b = 0
              · by_cases zc : c = 0
                · have hv2 : checkF F [a, b, c] = 0 := by rw [hv.out]; simp [za, zb, zc]
                  replace hv2 := Lib.hid hv2
                  clear hv
                  go_wp2_with fail
                  refine wp_loop_rounds 4 ?_
                  repeat (rw [rounds_succ]; go_wp2_with fail)
                  go_ret
                  exact ⟨ret_int hv2.out.symm, below_drewN' hBl _⟩
                · have hv2 : checkF F [a, b, c] = 4 := by rw [hv.out]; simp [za, zb, zc]
                  replace hv2 := Lib.hid hv2
                  clear hv
                  go_wp2_with fail
                  refine wp_loop_rounds 4 ?_
                  repeat (rw [rounds_succ]; go_wp2_with fail)
                  go_ret
                  exact ⟨ret_int hv2.out.symm, below_drewN' hBl _⟩
              · have hv2 : checkF F [a, b, c] = 4 := by rw [hv.out]; simp [za, zb]
                replace hv2 := Lib.hid hv2
                clear hv
                go_wp2_with fail
                refine wp_loop_rounds 3 ?_
                repeat (rw [rounds_succ]; go_wp2_with fail)
                go_ret
                exact ⟨ret_int hv2.out.symm, below_drewN' hBl _⟩
            · have hv2 : checkF F [a, b, c] = 4 := by rw [hv.out]; simp [za]
              replace hv2 := Lib.hid hv2
              clear hv
              go_wp2_with fail
              refine wp_loop_rounds 2 ?_
              repeat (rw [rounds_succ]; go_wp2_with fail)
              go_ret
              exact ⟨ret_int hv2.out.symm, below_drewN' hBl _⟩
          · have y0 := Y.out 0 (by omega)
            have y1 := Y.out 1 (by omega)
            have y2 := Y.out 2 (by omega)
            simp at y0 y1 y2
            clear Y
            rw [hk] at hv ⊢
            by_cases zb : b = 0
            · by_cases zc : c = 0
              · have hv2 : checkF F [a, b, c] = 0 := by rw [hv.out]; simp [zb, zc]
                replace hv2 := Lib.hid hv2
                clear hv
                go_wp2_with fail
                refine wp_loop_rounds 3 ?_
                repeat (rw [rounds_succ]; go_wp2_with fail)
                go_ret
                exact ⟨ret_int hv2.out.symm, below_drewN' hBl _⟩
              · have hv2 : checkF F [a, b, c] = 4 := by rw [hv.out]; simp [zb, zc]
                replace hv2 := Lib.hid hv2
                clear hv
                go_wp2_with fail
                refine wp_loop_rounds 3 ?_
                repeat (rw [rounds_succ]; go_wp2_with fail)
                go_ret
                exact ⟨ret_int hv2.out.symm, below_drewN' hBl _⟩
            · have hv2 : checkF F [a, b, c] = 4 := by rw [hv.out]; simp [zb]
              replace hv2 := Lib.hid hv2
              clear hv
              go_wp2_with fail
              refine wp_loop_rounds 2 ?_
              repeat (rw [rounds_succ]; go_wp2_with fail)
              go_ret
              exact ⟨ret_int hv2.out.symm, below_drewN' hBl _⟩
          · have y0 := Y.out 0 (by omega)
            have y1 := Y.out 1 (by omega)
            have y2 := Y.out 2 (by omega)
            simp at y0 y1 y2
            clear Y
            rw [hk] at hv ⊢
            by_cases zc : c = 0
            · have hv2 : checkF F [a, b, c] = 0 := by rw [hv.out]; simp [zc]
              replace hv2 := Lib.hid hv2
              clear hv
              go_wp2_with fail
              refine wp_loop_rounds 2 ?_
              repeat (rw [rounds_succ]; go_wp2_with fail)
              go_ret
              exact ⟨ret_int hv2.out.symm, below_drewN' hBl _⟩
            · have hv2 : checkF F [a, b, c] = 4 := by rw [hv.out]; simp [zc]
              replace hv2 := Lib.hid hv2
              clear hv
              go_wp2_with fail
              refine wp_loop_rounds 2 ?_
              repeat (rw [rounds_succ]; go_wp2_with fail)
              go_ret
              exact ⟨ret_int hv2.out.symm, below_drewN' hBl _⟩
          · have y0 := Y.out 0 (by omega)
            have y1 := Y.out 1 (by omega)
            have y2 := Y.out 2 (by omega)
            simp at y0 y1 y2
            clear Y
            rw [hk] at hv ⊢
            have hv2 : checkF F [a, b, c] = 0 := by rw [hv.out]; simp
            replace hv2 := Lib.hid hv2
            clear hv
            go_wp2_with fail
            refine wp_loop_rounds 1 ?_
            repeat (rw [rounds_succ]; go_wp2_with fail)
            go_ret
            exact ⟨ret_int hv2.out.symm, below_drewN' hBl _⟩
end
section
open Go.RowKit
set_option maxRecDepth 100000
set_option maxHeartbeats 8000000
theorem forms_any (w : World) : Calls Try.prog 94 #[] w fun e w' => ∃ b : Nat, e = .returned (.slice (some ⟨b, 0, none⟩) 26 26) ∧ (∀ k, k < 26 → w'.cell? ⟨b, k, none⟩ = some (.string ⟨(formL (k : Int)).toArray⟩)) ∧ Below w.heap.size w w' := by
  go_enter Try.func94, Try.ntmps94
  go_wp2
  go_ret
  refine ⟨_, rfl, fun k hk => ?_, by go_grown⟩
  rw [cell_alloc_at]
  rcases (show k = 0 ∨ k = 1 ∨ k = 2 ∨ k = 3 ∨ k = 4 ∨ k = 5 ∨ k = 6 ∨ k = 7 ∨ k = 8 ∨ k = 9 ∨ k = 10 ∨ k = 11 ∨ k = 12 ∨ k = 13 ∨ k = 14 ∨ k = 15 ∨ k = 16 ∨ k = 17 ∨ k = 18 ∨ k = 19 ∨ k = 20 ∨ k = 21 ∨ k = 22 ∨ k = 23 ∨ k = 24 ∨ k = 25 by omega) with rfl | rfl | rfl | rfl | rfl | rfl | rfl | rfl | rfl | rfl | rfl | rfl | rfl | rfl | rfl | rfl | rfl | rfl | rfl | rfl | rfl | rfl | rfl | rfl | rfl | rfl <;> rfl
theorem rform_any (op : Int) (w : World) : Calls Try.prog 88 #[.int .i64 op] w fun e w' => e = .returned (.string ⟨(formL op).toArray⟩) ∧ Below w.heap.size w w' := by
  by_cases h1 : op < 0
  · have hv : formL op = [] := by
      rcases form_cases op with h | h | h | h | h | h | h | h <;> first | omega | exact h.1
    rw [hv]
    go_enter Try.func88, Try.ntmps88
    go_wp2
    go_ret
    exact ⟨rfl, by go_grown⟩
  · by_cases h2 : 25 < op
    · have hv : formL op = [] := by
        rcases form_cases op with h | h | h | h | h | h | h | h <;> first | omega | exact h.1
      rw [hv]
      go_enter Try.func88, Try.ntmps88
      go_wp2
      go_ret
      exact ⟨rfl, by go_grown⟩
    · obtain ⟨k, rfl⟩ : ∃ k : Nat, op = k := ⟨op.toNat, by omega⟩
      have hk : k < 26 := by omega
      generalize hF : formL (k : Int) = F at *
      go_enter Try.func88, Try.ntmps88
      go_wp2_with (first | (go_at_call 94; refine (forms_any _).mono ?_; rintro e w1 ⟨b, rfl, hc, hb⟩; have x := hc k hk; rw [hF] at x))
      go_ret
      exact ⟨rfl, hb⟩
theorem ends_r (w : World) : Calls Try.prog 89 #[.string ⟨#[114]⟩] w fun e w' => e = .returned (.tuple #[.int .i64 0, .int .i64 7]) ∧ w = w' := by
  go_enter Try.func89, Try.ntmps89
  go_wp2
  go_ret2
  exact ⟨by simp [results], rfl⟩
theorem ends_f (w : World) : Calls Try.prog 89 #[.string ⟨#[102]⟩] w fun e w' => e = .returned (.tuple #[.int .i64 0, .int .i64 15]) ∧ w = w' := by
  go_enter Try.func89, Try.ntmps89
  go_wp2
  go_ret2
  exact ⟨by simp [results], rfl⟩
theorem ends_t (w : World) : Calls Try.prog 89 #[.string ⟨#[116]⟩] w fun e w' => e = .returned (.tuple #[.int .i64 0, .int .i64 199]) ∧ w = w' := by
  go_enter Try.func89, Try.ntmps89
  go_wp2
  go_ret2
  exact ⟨by simp [results], rfl⟩
theorem ends_n (w : World) : Calls Try.prog 89 #[.string ⟨#[110]⟩] w fun e w' => e = .returned (.tuple #[.int .i64 (-32768), .int .i64 32767]) ∧ w = w' := by
  go_enter Try.func89, Try.ntmps89
  go_wp2
  go_ret2
  exact ⟨by simp [results], rfl⟩
theorem rcheck_rrr (op a b c : Int) (h1 : ¬ op < 0) (h2 : ¬ 25 < op) (hF : formL op = [114, 114, 114]) (w : World) : Calls Try.prog 81 #[.agg #[.int .i64 op, .int .i64 a, .int .i64 b, .int .i64 c]] w fun e w' => e = .returned (.int .i64 (checkF [114, 114, 114] [a, b, c])) ∧ Below w.heap.size w w' := by
  have hO := (Own.nil (Below.refl _ w)).box #[.int .i64 op, .int .i64 a, .int .i64 b, .int .i64 c] 29
  have FM := Lib.hid (Own.lift (rform_any op _) hO _ rfl)
  rw [hF] at FM
  clear hF hO
  have ex0 : (⟨#[114, 114, 114]⟩ : ByteArray).extract 0 1 = ⟨#[114]⟩ := by decide
  have ex1 : (⟨#[114, 114, 114]⟩ : ByteArray).extract 1 2 = ⟨#[114]⟩ := by decide
  have ex2 : (⟨#[114, 114, 114]⟩ : ByteArray).extract 2 3 = ⟨#[114]⟩ := by decide
  go_enter Try.func81, Try.ntmps81
  go_upto_region 5 with (first | (go_at_call 88; refine FM.out.mono ?_; rintro e u ⟨rfl, hO⟩; obtain ⟨x1, x2, x3⟩ := And.intro (hO.cget 0 rfl 1).1 (And.intro (hO.cget 0 rfl 2).1 (hO.cget 0 rfl 3).1); simp at x1 x2 x3))
  have hB := hO.box #[.int .i64 a, .int .i64 b, .int .i64 c] 3
  generalize u.alloc (.cells #[.int .i64 a, .int .i64 b, .int .i64 c] 3) = v at *
  generalize u.heap.size = B at *
  have y0 := (hB.cget 1 rfl 0).1
  have y1 := (hB.cget 1 rfl 1).1
  have y2 := (hB.cget 1 rfl 2).1
  simp at y0 y1 y2
  have hBl := hB.below
  clear hB hO x1 x2 x3 FM
  by_cases lo0 : a < 0
  · have hv : checkF [114, 114, 114] [a, b, c] = 3 := by simp [checkF, fitB] <;> omega
    replace hv := Lib.hid hv
    go_wp2_with fail
    refine wp_loop_rounds 1 ?_
    repeat (rw [rounds_succ]; go_wp2_with (first | (go_at_call 89; (with_reducible refine (ends_r _).mono ?_); rintro e w3 ⟨rfl, rfl⟩)))
    go_ret
    exact ⟨ret_int hv.out.symm, hBl⟩
  · by_cases hi0 : 7 < a
    · have hv : checkF [114, 114, 114] [a, b, c] = 3 := by simp [checkF, fitB] <;> omega
      replace hv := Lib.hid hv
      go_wp2_with fail
      refine wp_loop_rounds 1 ?_
      repeat (rw [rounds_succ]; go_wp2_with (first | (go_at_call 89; (with_reducible refine (ends_r _).mono ?_); rintro e w3 ⟨rfl, rfl⟩)))
      go_ret
      exact ⟨ret_int hv.out.symm, hBl⟩
    · by_cases lo1 : b < 0
      · have hv : checkF [114, 114, 114] [a, b, c] = 3 := by simp [checkF, fitB] <;> omega
        replace hv := Lib.hid hv
        go_wp2_with fail
        refine wp_loop_rounds 2 ?_
        repeat (rw [rounds_succ]; go_wp2_with (first | (go_at_call 89; (with_reducible refine (ends_r _).mono ?_); rintro e w3 ⟨rfl, rfl⟩)))
        go_ret
        exact ⟨ret_int hv.out.symm, hBl⟩
      · by_cases hi1 : 7 < b
        · have hv : checkF [114, 114, 114] [a, b, c] = 3 := by simp [checkF, fitB] <;> omega
          replace hv := Lib.hid hv
          go_wp2_with fail
          refine wp_loop_rounds 2 ?_
          repeat (rw [rounds_succ]; go_wp2_with (first | (go_at_call 89; (with_reducible refine (ends_r _).mono ?_); rintro e w3 ⟨rfl, rfl⟩)))
          go_ret
          exact ⟨ret_int hv.out.symm, hBl⟩
        · by_cases lo2 : c < 0
          · have hv : checkF [114, 114, 114] [a, b, c] = 3 := by simp [checkF, fitB] <;> omega
            replace hv := Lib.hid hv
            go_wp2_with fail
            refine wp_loop_rounds 3 ?_
            repeat (rw [rounds_succ]; go_wp2_with (first | (go_at_call 89; (with_reducible refine (ends_r _).mono ?_); rintro e w3 ⟨rfl, rfl⟩)))
            go_ret
            exact ⟨ret_int hv.out.symm, hBl⟩
          · by_cases hi2 : 7 < c
            · have hv : checkF [114, 114, 114] [a, b, c] = 3 := by simp [checkF, fitB] <;> omega
              replace hv := Lib.hid hv
              go_wp2_with fail
              refine wp_loop_rounds 3 ?_
              repeat (rw [rounds_succ]; go_wp2_with (first | (go_at_call 89; (with_reducible refine (ends_r _).mono ?_); rintro e w3 ⟨rfl, rfl⟩)))
              go_ret
              exact ⟨ret_int hv.out.symm, hBl⟩
            · have hv : checkF [114, 114, 114] [a, b, c] = 0 := by simp [checkF, fitB] <;> omega
              replace hv := Lib.hid hv
              go_wp2_with fail
              refine wp_loop_rounds 4 ?_
              repeat (rw [rounds_succ]; go_wp2_with (first | (go_at_call 89; (with_reducible refine (ends_r _).mono ?_); rintro e w3 ⟨rfl, rfl⟩)))
              refine wp_loop_rounds 1 ?_
              repeat (rw [rounds_succ]; go_wp2_with fail)
              go_ret
              exact ⟨ret_int hv.out.symm, hBl⟩
theorem rcheck_rr (op a b c : Int) (h1 : ¬ op < 0) (h2 : ¬ 25 < op) (hF : formL op = [114, 114]) (w : World) : Calls Try.prog 81 #[.agg #[.int .i64 op, .int .i64 a, .int .i64 b, .int .i64 c]] w fun e w' => e = .returned (.int .i64 (checkF [114, 114] [a, b, c])) ∧ Below w.heap.size w w' := by
  have hO := (Own.nil (Below.refl _ w)).box #[.int .i64 op, .int .i64 a, .int .i64 b, .int .i64 c] 29
  have FM := Lib.hid (Own.lift (rform_any op _) hO _ rfl)
  rw [hF] at FM
  clear hF hO
  have ex0 : (⟨#[114, 114]⟩ : ByteArray).extract 0 1 = ⟨#[114]⟩ := by decide
  have ex1 : (⟨#[114, 114]⟩ : ByteArray).extract 1 2 = ⟨#[114]⟩ := by decide
  go_enter Try.func81, Try.ntmps81
  go_upto_region 5 with (first | (go_at_call 88; refine FM.out.mono ?_; rintro e u ⟨rfl, hO⟩; obtain ⟨x1, x2, x3⟩ := And.intro (hO.cget 0 rfl 1).1 (And.intro (hO.cget 0 rfl 2).1 (hO.cget 0 rfl 3).1); simp at x1 x2 x3))
  have hB := hO.box #[.int .i64 a, .int .i64 b, .int .i64 c] 3
  generalize u.alloc (.cells #[.int .i64 a, .int .i64 b, .int .i64 c] 3) = v at *
  generalize u.heap.size = B at *
  have y0 := (hB.cget 1 rfl 0).1
  have y1 := (hB.cget 1 rfl 1).1
  have y2 := (hB.cget 1 rfl 2).1
  simp at y0 y1 y2
  have hBl := hB.below
  clear hB hO x1 x2 x3 FM
  by_cases lo0 : a < 0
  · have hv : checkF [114, 114] [a, b, c] = 3 := by simp [checkF, fitB] <;> omega
    replace hv := Lib.hid hv
    go_wp2_with fail
    refine wp_loop_rounds 1 ?_
    repeat (rw [rounds_succ]; go_wp2_with (first | (go_at_call 89; (with_reducible refine (ends_r _).mono ?_); rintro e w3 ⟨rfl, rfl⟩)))
    go_ret
    exact ⟨ret_int hv.out.symm, hBl⟩
  · by_cases hi0 : 7 < a
    · have hv : checkF [114, 114] [a, b, c] = 3 := by simp [checkF, fitB] <;> omega
      replace hv := Lib.hid hv
      go_wp2_with fail
      refine wp_loop_rounds 1 ?_
      repeat (rw [rounds_succ]; go_wp2_with (first | (go_at_call 89; (with_reducible refine (ends_r _).mono ?_); rintro e w3 ⟨rfl, rfl⟩)))
      go_ret
      exact ⟨ret_int hv.out.symm, hBl⟩
    · by_cases lo1 : b < 0
      · have hv : checkF [114, 114] [a, b, c] = 3 := by simp [checkF, fitB] <;> omega
        replace hv := Lib.hid hv
        go_wp2_with fail
        refine wp_loop_rounds 2 ?_
        repeat (rw [rounds_succ]; go_wp2_with (first | (go_at_call 89; (with_reducible refine (ends_r _).mono ?_); rintro e w3 ⟨rfl, rfl⟩)))
        go_ret
        exact ⟨ret_int hv.out.symm, hBl⟩
      · by_cases hi1 : 7 < b
        · have hv : checkF [114, 114] [a, b, c] = 3 := by simp [checkF, fitB] <;> omega
          replace hv := Lib.hid hv
          go_wp2_with fail
          refine wp_loop_rounds 2 ?_
          repeat (rw [rounds_succ]; go_wp2_with (first | (go_at_call 89; (with_reducible refine (ends_r _).mono ?_); rintro e w3 ⟨rfl, rfl⟩)))
          go_ret
          exact ⟨ret_int hv.out.symm, hBl⟩
        · by_cases z2 : c = 0
          · have hv : checkF [114, 114] [a, b, c] = 0 := by simp [checkF, fitB, z2] <;> omega
            replace hv := Lib.hid hv
            go_wp2_with fail
            refine wp_loop_rounds 3 ?_
            repeat (rw [rounds_succ]; go_wp2_with (first | (go_at_call 89; (with_reducible refine (ends_r _).mono ?_); rintro e w3 ⟨rfl, rfl⟩)))
            refine wp_loop_rounds 2 ?_
            repeat (rw [rounds_succ]; go_wp2_with fail)
            go_ret
            exact ⟨ret_int hv.out.symm, hBl⟩
          · have hv : checkF [114, 114] [a, b, c] = 4 := by simp [checkF, fitB, z2] <;> omega
            replace hv := Lib.hid hv
            go_wp2_with fail
            refine wp_loop_rounds 3 ?_
            repeat (rw [rounds_succ]; go_wp2_with (first | (go_at_call 89; (with_reducible refine (ends_r _).mono ?_); rintro e w3 ⟨rfl, rfl⟩)))
            refine wp_loop_rounds 1 ?_
            repeat (rw [rounds_succ]; go_wp2_with fail)
            go_ret
            exact ⟨ret_int hv.out.symm, hBl⟩
theorem rcheck_r (op a b c : Int) (h1 : ¬ op < 0) (h2 : ¬ 25 < op) (hF : formL op = [114]) (w : World) : Calls Try.prog 81 #[.agg #[.int .i64 op, .int .i64 a, .int .i64 b, .int .i64 c]] w fun e w' => e = .returned (.int .i64 (checkF [114] [a, b, c])) ∧ Below w.heap.size w w' := by
  have hO := (Own.nil (Below.refl _ w)).box #[.int .i64 op, .int .i64 a, .int .i64 b, .int .i64 c] 29
  have FM := Lib.hid (Own.lift (rform_any op _) hO _ rfl)
  rw [hF] at FM
  clear hF hO
  have ex0 : (⟨#[114]⟩ : ByteArray).extract 0 1 = ⟨#[114]⟩ := by decide
  go_enter Try.func81, Try.ntmps81
  go_upto_region 5 with (first | (go_at_call 88; refine FM.out.mono ?_; rintro e u ⟨rfl, hO⟩; obtain ⟨x1, x2, x3⟩ := And.intro (hO.cget 0 rfl 1).1 (And.intro (hO.cget 0 rfl 2).1 (hO.cget 0 rfl 3).1); simp at x1 x2 x3))
  have hB := hO.box #[.int .i64 a, .int .i64 b, .int .i64 c] 3
  generalize u.alloc (.cells #[.int .i64 a, .int .i64 b, .int .i64 c] 3) = v at *
  generalize u.heap.size = B at *
  have y0 := (hB.cget 1 rfl 0).1
  have y1 := (hB.cget 1 rfl 1).1
  have y2 := (hB.cget 1 rfl 2).1
  simp at y0 y1 y2
  have hBl := hB.below
  clear hB hO x1 x2 x3 FM
  by_cases lo0 : a < 0
  · have hv : checkF [114] [a, b, c] = 3 := by simp [checkF, fitB] <;> omega
    replace hv := Lib.hid hv
    go_wp2_with fail
    refine wp_loop_rounds 1 ?_
    repeat (rw [rounds_succ]; go_wp2_with (first | (go_at_call 89; (with_reducible refine (ends_r _).mono ?_); rintro e w3 ⟨rfl, rfl⟩)))
    go_ret
    exact ⟨ret_int hv.out.symm, hBl⟩
  · by_cases hi0 : 7 < a
    · have hv : checkF [114] [a, b, c] = 3 := by simp [checkF, fitB] <;> omega
      replace hv := Lib.hid hv
      go_wp2_with fail
      refine wp_loop_rounds 1 ?_
      repeat (rw [rounds_succ]; go_wp2_with (first | (go_at_call 89; (with_reducible refine (ends_r _).mono ?_); rintro e w3 ⟨rfl, rfl⟩)))
      go_ret
      exact ⟨ret_int hv.out.symm, hBl⟩
    · by_cases z1 : b = 0
      · by_cases z2 : c = 0
        · have hv : checkF [114] [a, b, c] = 0 := by simp [checkF, fitB, z1, z2] <;> omega
          replace hv := Lib.hid hv
          go_wp2_with fail
          refine wp_loop_rounds 2 ?_
          repeat (rw [rounds_succ]; go_wp2_with (first | (go_at_call 89; (with_reducible refine (ends_r _).mono ?_); rintro e w3 ⟨rfl, rfl⟩)))
          refine wp_loop_rounds 3 ?_
          repeat (rw [rounds_succ]; go_wp2_with fail)
          go_ret
          exact ⟨ret_int hv.out.symm, hBl⟩
        · have hv : checkF [114] [a, b, c] = 4 := by simp [checkF, fitB, z1, z2] <;> omega
          replace hv := Lib.hid hv
          go_wp2_with fail
          refine wp_loop_rounds 2 ?_
          repeat (rw [rounds_succ]; go_wp2_with (first | (go_at_call 89; (with_reducible refine (ends_r _).mono ?_); rintro e w3 ⟨rfl, rfl⟩)))
          refine wp_loop_rounds 2 ?_
          repeat (rw [rounds_succ]; go_wp2_with fail)
          go_ret
          exact ⟨ret_int hv.out.symm, hBl⟩
      · have hv : checkF [114] [a, b, c] = 4 := by simp [checkF, fitB, z1] <;> omega
        replace hv := Lib.hid hv
        go_wp2_with fail
        refine wp_loop_rounds 2 ?_
        repeat (rw [rounds_succ]; go_wp2_with (first | (go_at_call 89; (with_reducible refine (ends_r _).mono ?_); rintro e w3 ⟨rfl, rfl⟩)))
        refine wp_loop_rounds 1 ?_
        repeat (rw [rounds_succ]; go_wp2_with fail)
        go_ret
        exact ⟨ret_int hv.out.symm, hBl⟩
end
section
open Go.RowKit
set_option maxRecDepth 100000
set_option maxHeartbeats 8000000
theorem rcheck_rn (op a b c : Int) (h1 : ¬ op < 0) (h2 : ¬ 25 < op) (hF : formL op = [114, 110]) (w : World) : Calls Try.prog 81 #[.agg #[.int .i64 op, .int .i64 a, .int .i64 b, .int .i64 c]] w fun e w' => e = .returned (.int .i64 (checkF [114, 110] [a, b, c])) ∧ Below w.heap.size w w' := by
  have hO := (Own.nil (Below.refl _ w)).box #[.int .i64 op, .int .i64 a, .int .i64 b, .int .i64 c] 29
  have FM := Lib.hid (Own.lift (rform_any op _) hO _ rfl)
  rw [hF] at FM
  clear hF hO
  have ex0 : (⟨#[114, 110]⟩ : ByteArray).extract 0 1 = ⟨#[114]⟩ := by decide
  have ex1 : (⟨#[114, 110]⟩ : ByteArray).extract 1 2 = ⟨#[110]⟩ := by decide
  go_enter Try.func81, Try.ntmps81
  go_upto_region 5 with (first | (go_at_call 88; refine FM.out.mono ?_; rintro e u ⟨rfl, hO⟩; obtain ⟨x1, x2, x3⟩ := And.intro (hO.cget 0 rfl 1).1 (And.intro (hO.cget 0 rfl 2).1 (hO.cget 0 rfl 3).1); simp at x1 x2 x3))
  have hB := hO.box #[.int .i64 a, .int .i64 b, .int .i64 c] 3
  generalize u.alloc (.cells #[.int .i64 a, .int .i64 b, .int .i64 c] 3) = v at *
  generalize u.heap.size = B at *
  have y0 := (hB.cget 1 rfl 0).1
  have y1 := (hB.cget 1 rfl 1).1
  have y2 := (hB.cget 1 rfl 2).1
  simp at y0 y1 y2
  have hBl := hB.below
  clear hB hO x1 x2 x3 FM
  by_cases lo0 : a < 0
  · have hv : checkF [114, 110] [a, b, c] = 3 := by simp [checkF, fitB] <;> omega
    replace hv := Lib.hid hv
    go_wp2_with fail
    refine wp_loop_rounds 1 ?_
    repeat (rw [rounds_succ]; go_wp2_with (first | (go_at_call 89; (with_reducible refine (ends_r _).mono ?_); rintro e w3 ⟨rfl, rfl⟩) | (go_at_call 89; (with_reducible refine (ends_n _).mono ?_); rintro e w3 ⟨rfl, rfl⟩)))
    go_ret
    exact ⟨ret_int hv.out.symm, hBl⟩
  · by_cases hi0 : 7 < a
    · have hv : checkF [114, 110] [a, b, c] = 3 := by simp [checkF, fitB] <;> omega
      replace hv := Lib.hid hv
      go_wp2_with fail
      refine wp_loop_rounds 1 ?_
      repeat (rw [rounds_succ]; go_wp2_with (first | (go_at_call 89; (with_reducible refine (ends_r _).mono ?_); rintro e w3 ⟨rfl, rfl⟩) | (go_at_call 89; (with_reducible refine (ends_n _).mono ?_); rintro e w3 ⟨rfl, rfl⟩)))
      go_ret
      exact ⟨ret_int hv.out.symm, hBl⟩
    · by_cases lo1 : b < (-32768)
      · have hv : checkF [114, 110] [a, b, c] = 3 := by simp [checkF, fitB] <;> omega
        replace hv := Lib.hid hv
        go_wp2_with fail
        refine wp_loop_rounds 2 ?_
        repeat (rw [rounds_succ]; go_wp2_with (first | (go_at_call 89; (with_reducible refine (ends_r _).mono ?_); rintro e w3 ⟨rfl, rfl⟩) | (go_at_call 89; (with_reducible refine (ends_n _).mono ?_); rintro e w3 ⟨rfl, rfl⟩)))
        go_ret
        exact ⟨ret_int hv.out.symm, hBl⟩
      · by_cases hi1 : 32767 < b
        · have hv : checkF [114, 110] [a, b, c] = 3 := by simp [checkF, fitB] <;> omega
          replace hv := Lib.hid hv
          go_wp2_with fail
          refine wp_loop_rounds 2 ?_
          repeat (rw [rounds_succ]; go_wp2_with (first | (go_at_call 89; (with_reducible refine (ends_r _).mono ?_); rintro e w3 ⟨rfl, rfl⟩) | (go_at_call 89; (with_reducible refine (ends_n _).mono ?_); rintro e w3 ⟨rfl, rfl⟩)))
          go_ret
          exact ⟨ret_int hv.out.symm, hBl⟩
        · by_cases z2 : c = 0
          · have hv : checkF [114, 110] [a, b, c] = 0 := by simp [checkF, fitB, z2] <;> omega
            replace hv := Lib.hid hv
            go_wp2_with fail
            refine wp_loop_rounds 3 ?_
            repeat (rw [rounds_succ]; go_wp2_with (first | (go_at_call 89; (with_reducible refine (ends_r _).mono ?_); rintro e w3 ⟨rfl, rfl⟩) | (go_at_call 89; (with_reducible refine (ends_n _).mono ?_); rintro e w3 ⟨rfl, rfl⟩)))
            refine wp_loop_rounds 2 ?_
            repeat (rw [rounds_succ]; go_wp2_with fail)
            go_ret
            exact ⟨ret_int hv.out.symm, hBl⟩
          · have hv : checkF [114, 110] [a, b, c] = 4 := by simp [checkF, fitB, z2] <;> omega
            replace hv := Lib.hid hv
            go_wp2_with fail
            refine wp_loop_rounds 3 ?_
            repeat (rw [rounds_succ]; go_wp2_with (first | (go_at_call 89; (with_reducible refine (ends_r _).mono ?_); rintro e w3 ⟨rfl, rfl⟩) | (go_at_call 89; (with_reducible refine (ends_n _).mono ?_); rintro e w3 ⟨rfl, rfl⟩)))
            refine wp_loop_rounds 1 ?_
            repeat (rw [rounds_succ]; go_wp2_with fail)
            go_ret
            exact ⟨ret_int hv.out.symm, hBl⟩
theorem rcheck_rt (op a b c : Int) (h1 : ¬ op < 0) (h2 : ¬ 25 < op) (hF : formL op = [114, 116]) (w : World) : Calls Try.prog 81 #[.agg #[.int .i64 op, .int .i64 a, .int .i64 b, .int .i64 c]] w fun e w' => e = .returned (.int .i64 (checkF [114, 116] [a, b, c])) ∧ Below w.heap.size w w' := by
  have hO := (Own.nil (Below.refl _ w)).box #[.int .i64 op, .int .i64 a, .int .i64 b, .int .i64 c] 29
  have FM := Lib.hid (Own.lift (rform_any op _) hO _ rfl)
  rw [hF] at FM
  clear hF hO
  have ex0 : (⟨#[114, 116]⟩ : ByteArray).extract 0 1 = ⟨#[114]⟩ := by decide
  have ex1 : (⟨#[114, 116]⟩ : ByteArray).extract 1 2 = ⟨#[116]⟩ := by decide
  go_enter Try.func81, Try.ntmps81
  go_upto_region 5 with (first | (go_at_call 88; refine FM.out.mono ?_; rintro e u ⟨rfl, hO⟩; obtain ⟨x1, x2, x3⟩ := And.intro (hO.cget 0 rfl 1).1 (And.intro (hO.cget 0 rfl 2).1 (hO.cget 0 rfl 3).1); simp at x1 x2 x3))
  have hB := hO.box #[.int .i64 a, .int .i64 b, .int .i64 c] 3
  generalize u.alloc (.cells #[.int .i64 a, .int .i64 b, .int .i64 c] 3) = v at *
  generalize u.heap.size = B at *
  have y0 := (hB.cget 1 rfl 0).1
  have y1 := (hB.cget 1 rfl 1).1
  have y2 := (hB.cget 1 rfl 2).1
  simp at y0 y1 y2
  have hBl := hB.below
  clear hB hO x1 x2 x3 FM
  by_cases lo0 : a < 0
  · have hv : checkF [114, 116] [a, b, c] = 3 := by simp [checkF, fitB] <;> omega
    replace hv := Lib.hid hv
    go_wp2_with fail
    refine wp_loop_rounds 1 ?_
    repeat (rw [rounds_succ]; go_wp2_with (first | (go_at_call 89; (with_reducible refine (ends_r _).mono ?_); rintro e w3 ⟨rfl, rfl⟩) | (go_at_call 89; (with_reducible refine (ends_t _).mono ?_); rintro e w3 ⟨rfl, rfl⟩)))
    go_ret
    exact ⟨ret_int hv.out.symm, hBl⟩
  · by_cases hi0 : 7 < a
    · have hv : checkF [114, 116] [a, b, c] = 3 := by simp [checkF, fitB] <;> omega
      replace hv := Lib.hid hv
      go_wp2_with fail
      refine wp_loop_rounds 1 ?_
      repeat (rw [rounds_succ]; go_wp2_with (first | (go_at_call 89; (with_reducible refine (ends_r _).mono ?_); rintro e w3 ⟨rfl, rfl⟩) | (go_at_call 89; (with_reducible refine (ends_t _).mono ?_); rintro e w3 ⟨rfl, rfl⟩)))
      go_ret
      exact ⟨ret_int hv.out.symm, hBl⟩
    · by_cases lo1 : b < 0
      · have hv : checkF [114, 116] [a, b, c] = 3 := by simp [checkF, fitB] <;> omega
        replace hv := Lib.hid hv
        go_wp2_with fail
        refine wp_loop_rounds 2 ?_
        repeat (rw [rounds_succ]; go_wp2_with (first | (go_at_call 89; (with_reducible refine (ends_r _).mono ?_); rintro e w3 ⟨rfl, rfl⟩) | (go_at_call 89; (with_reducible refine (ends_t _).mono ?_); rintro e w3 ⟨rfl, rfl⟩)))
        go_ret
        exact ⟨ret_int hv.out.symm, hBl⟩
      · by_cases hi1 : 199 < b
        · have hv : checkF [114, 116] [a, b, c] = 3 := by simp [checkF, fitB] <;> omega
          replace hv := Lib.hid hv
          go_wp2_with fail
          refine wp_loop_rounds 2 ?_
          repeat (rw [rounds_succ]; go_wp2_with (first | (go_at_call 89; (with_reducible refine (ends_r _).mono ?_); rintro e w3 ⟨rfl, rfl⟩) | (go_at_call 89; (with_reducible refine (ends_t _).mono ?_); rintro e w3 ⟨rfl, rfl⟩)))
          go_ret
          exact ⟨ret_int hv.out.symm, hBl⟩
        · by_cases z2 : c = 0
          · have hv : checkF [114, 116] [a, b, c] = 0 := by simp [checkF, fitB, z2] <;> omega
            replace hv := Lib.hid hv
            go_wp2_with fail
            refine wp_loop_rounds 3 ?_
            repeat (rw [rounds_succ]; go_wp2_with (first | (go_at_call 89; (with_reducible refine (ends_r _).mono ?_); rintro e w3 ⟨rfl, rfl⟩) | (go_at_call 89; (with_reducible refine (ends_t _).mono ?_); rintro e w3 ⟨rfl, rfl⟩)))
            refine wp_loop_rounds 2 ?_
            repeat (rw [rounds_succ]; go_wp2_with fail)
            go_ret
            exact ⟨ret_int hv.out.symm, hBl⟩
          · have hv : checkF [114, 116] [a, b, c] = 4 := by simp [checkF, fitB, z2] <;> omega
            replace hv := Lib.hid hv
            go_wp2_with fail
            refine wp_loop_rounds 3 ?_
            repeat (rw [rounds_succ]; go_wp2_with (first | (go_at_call 89; (with_reducible refine (ends_r _).mono ?_); rintro e w3 ⟨rfl, rfl⟩) | (go_at_call 89; (with_reducible refine (ends_t _).mono ?_); rintro e w3 ⟨rfl, rfl⟩)))
            refine wp_loop_rounds 1 ?_
            repeat (rw [rounds_succ]; go_wp2_with fail)
            go_ret
            exact ⟨ret_int hv.out.symm, hBl⟩
theorem rcheck_t (op a b c : Int) (h1 : ¬ op < 0) (h2 : ¬ 25 < op) (hF : formL op = [116]) (w : World) : Calls Try.prog 81 #[.agg #[.int .i64 op, .int .i64 a, .int .i64 b, .int .i64 c]] w fun e w' => e = .returned (.int .i64 (checkF [116] [a, b, c])) ∧ Below w.heap.size w w' := by
  have hO := (Own.nil (Below.refl _ w)).box #[.int .i64 op, .int .i64 a, .int .i64 b, .int .i64 c] 29
  have FM := Lib.hid (Own.lift (rform_any op _) hO _ rfl)
  rw [hF] at FM
  clear hF hO
  have ex0 : (⟨#[116]⟩ : ByteArray).extract 0 1 = ⟨#[116]⟩ := by decide
  go_enter Try.func81, Try.ntmps81
  go_upto_region 5 with (first | (go_at_call 88; refine FM.out.mono ?_; rintro e u ⟨rfl, hO⟩; obtain ⟨x1, x2, x3⟩ := And.intro (hO.cget 0 rfl 1).1 (And.intro (hO.cget 0 rfl 2).1 (hO.cget 0 rfl 3).1); simp at x1 x2 x3))
  have hB := hO.box #[.int .i64 a, .int .i64 b, .int .i64 c] 3
  generalize u.alloc (.cells #[.int .i64 a, .int .i64 b, .int .i64 c] 3) = v at *
  generalize u.heap.size = B at *
  have y0 := (hB.cget 1 rfl 0).1
  have y1 := (hB.cget 1 rfl 1).1
  have y2 := (hB.cget 1 rfl 2).1
  simp at y0 y1 y2
  have hBl := hB.below
  clear hB hO x1 x2 x3 FM
  by_cases lo0 : a < 0
  · have hv : checkF [116] [a, b, c] = 3 := by simp [checkF, fitB] <;> omega
    replace hv := Lib.hid hv
    go_wp2_with fail
    refine wp_loop_rounds 1 ?_
    repeat (rw [rounds_succ]; go_wp2_with (first | (go_at_call 89; (with_reducible refine (ends_t _).mono ?_); rintro e w3 ⟨rfl, rfl⟩)))
    go_ret
    exact ⟨ret_int hv.out.symm, hBl⟩
  · by_cases hi0 : 199 < a
    · have hv : checkF [116] [a, b, c] = 3 := by simp [checkF, fitB] <;> omega
      replace hv := Lib.hid hv
      go_wp2_with fail
      refine wp_loop_rounds 1 ?_
      repeat (rw [rounds_succ]; go_wp2_with (first | (go_at_call 89; (with_reducible refine (ends_t _).mono ?_); rintro e w3 ⟨rfl, rfl⟩)))
      go_ret
      exact ⟨ret_int hv.out.symm, hBl⟩
    · by_cases z1 : b = 0
      · by_cases z2 : c = 0
        · have hv : checkF [116] [a, b, c] = 0 := by simp [checkF, fitB, z1, z2] <;> omega
          replace hv := Lib.hid hv
          go_wp2_with fail
          refine wp_loop_rounds 2 ?_
          repeat (rw [rounds_succ]; go_wp2_with (first | (go_at_call 89; (with_reducible refine (ends_t _).mono ?_); rintro e w3 ⟨rfl, rfl⟩)))
          refine wp_loop_rounds 3 ?_
          repeat (rw [rounds_succ]; go_wp2_with fail)
          go_ret
          exact ⟨ret_int hv.out.symm, hBl⟩
        · have hv : checkF [116] [a, b, c] = 4 := by simp [checkF, fitB, z1, z2] <;> omega
          replace hv := Lib.hid hv
          go_wp2_with fail
          refine wp_loop_rounds 2 ?_
          repeat (rw [rounds_succ]; go_wp2_with (first | (go_at_call 89; (with_reducible refine (ends_t _).mono ?_); rintro e w3 ⟨rfl, rfl⟩)))
          refine wp_loop_rounds 2 ?_
          repeat (rw [rounds_succ]; go_wp2_with fail)
          go_ret
          exact ⟨ret_int hv.out.symm, hBl⟩
      · have hv : checkF [116] [a, b, c] = 4 := by simp [checkF, fitB, z1] <;> omega
        replace hv := Lib.hid hv
        go_wp2_with fail
        refine wp_loop_rounds 2 ?_
        repeat (rw [rounds_succ]; go_wp2_with (first | (go_at_call 89; (with_reducible refine (ends_t _).mono ?_); rintro e w3 ⟨rfl, rfl⟩)))
        refine wp_loop_rounds 1 ?_
        repeat (rw [rounds_succ]; go_wp2_with fail)
        go_ret
        exact ⟨ret_int hv.out.symm, hBl⟩
theorem rcheck_f (op a b c : Int) (h1 : ¬ op < 0) (h2 : ¬ 25 < op) (hF : formL op = [102]) (w : World) : Calls Try.prog 81 #[.agg #[.int .i64 op, .int .i64 a, .int .i64 b, .int .i64 c]] w fun e w' => e = .returned (.int .i64 (checkF [102] [a, b, c])) ∧ Below w.heap.size w w' := by
  have hO := (Own.nil (Below.refl _ w)).box #[.int .i64 op, .int .i64 a, .int .i64 b, .int .i64 c] 29
  have FM := Lib.hid (Own.lift (rform_any op _) hO _ rfl)
  rw [hF] at FM
  clear hF hO
  have ex0 : (⟨#[102]⟩ : ByteArray).extract 0 1 = ⟨#[102]⟩ := by decide
  go_enter Try.func81, Try.ntmps81
  go_upto_region 5 with (first | (go_at_call 88; refine FM.out.mono ?_; rintro e u ⟨rfl, hO⟩; obtain ⟨x1, x2, x3⟩ := And.intro (hO.cget 0 rfl 1).1 (And.intro (hO.cget 0 rfl 2).1 (hO.cget 0 rfl 3).1); simp at x1 x2 x3))
  have hB := hO.box #[.int .i64 a, .int .i64 b, .int .i64 c] 3
  generalize u.alloc (.cells #[.int .i64 a, .int .i64 b, .int .i64 c] 3) = v at *
  generalize u.heap.size = B at *
  have y0 := (hB.cget 1 rfl 0).1
  have y1 := (hB.cget 1 rfl 1).1
  have y2 := (hB.cget 1 rfl 2).1
  simp at y0 y1 y2
  have hBl := hB.below
  clear hB hO x1 x2 x3 FM
  by_cases lo0 : a < 0
  · have hv : checkF [102] [a, b, c] = 3 := by simp [checkF, fitB] <;> omega
    replace hv := Lib.hid hv
    go_wp2_with fail
    refine wp_loop_rounds 1 ?_
    repeat (rw [rounds_succ]; go_wp2_with (first | (go_at_call 89; (with_reducible refine (ends_f _).mono ?_); rintro e w3 ⟨rfl, rfl⟩)))
    go_ret
    exact ⟨ret_int hv.out.symm, hBl⟩
  · by_cases hi0 : 15 < a
    · have hv : checkF [102] [a, b, c] = 3 := by simp [checkF, fitB] <;> omega
      replace hv := Lib.hid hv
      go_wp2_with fail
      refine wp_loop_rounds 1 ?_
      repeat (rw [rounds_succ]; go_wp2_with (first | (go_at_call 89; (with_reducible refine (ends_f _).mono ?_); rintro e w3 ⟨rfl, rfl⟩)))
      go_ret
      exact ⟨ret_int hv.out.symm, hBl⟩
    · by_cases z1 : b = 0
      · by_cases z2 : c = 0
        · have hv : checkF [102] [a, b, c] = 0 := by simp [checkF, fitB, z1, z2] <;> omega
          replace hv := Lib.hid hv
          go_wp2_with fail
          refine wp_loop_rounds 2 ?_
          repeat (rw [rounds_succ]; go_wp2_with (first | (go_at_call 89; (with_reducible refine (ends_f _).mono ?_); rintro e w3 ⟨rfl, rfl⟩)))
          refine wp_loop_rounds 3 ?_
          repeat (rw [rounds_succ]; go_wp2_with fail)
          go_ret
          exact ⟨ret_int hv.out.symm, hBl⟩
        · have hv : checkF [102] [a, b, c] = 4 := by simp [checkF, fitB, z1, z2] <;> omega
          replace hv := Lib.hid hv
          go_wp2_with fail
          refine wp_loop_rounds 2 ?_
          repeat (rw [rounds_succ]; go_wp2_with (first | (go_at_call 89; (with_reducible refine (ends_f _).mono ?_); rintro e w3 ⟨rfl, rfl⟩)))
          refine wp_loop_rounds 2 ?_
          repeat (rw [rounds_succ]; go_wp2_with fail)
          go_ret
          exact ⟨ret_int hv.out.symm, hBl⟩
      · have hv : checkF [102] [a, b, c] = 4 := by simp [checkF, fitB, z1] <;> omega
        replace hv := Lib.hid hv
        go_wp2_with fail
        refine wp_loop_rounds 2 ?_
        repeat (rw [rounds_succ]; go_wp2_with (first | (go_at_call 89; (with_reducible refine (ends_f _).mono ?_); rintro e w3 ⟨rfl, rfl⟩)))
        refine wp_loop_rounds 1 ?_
        repeat (rw [rounds_succ]; go_wp2_with fail)
        go_ret
        exact ⟨ret_int hv.out.symm, hBl⟩
theorem rcheck_z (op a b c : Int) (h1 : ¬ op < 0) (h2 : ¬ 25 < op) (hF : formL op = []) (w : World) : Calls Try.prog 81 #[.agg #[.int .i64 op, .int .i64 a, .int .i64 b, .int .i64 c]] w fun e w' => e = .returned (.int .i64 (checkF [] [a, b, c])) ∧ Below w.heap.size w w' := by
  have hO := (Own.nil (Below.refl _ w)).box #[.int .i64 op, .int .i64 a, .int .i64 b, .int .i64 c] 29
  have FM := Lib.hid (Own.lift (rform_any op _) hO _ rfl)
  rw [hF] at FM
  clear hF hO
  go_enter Try.func81, Try.ntmps81
  go_upto_region 5 with (first | (go_at_call 88; refine FM.out.mono ?_; rintro e u ⟨rfl, hO⟩; obtain ⟨x1, x2, x3⟩ := And.intro (hO.cget 0 rfl 1).1 (And.intro (hO.cget 0 rfl 2).1 (hO.cget 0 rfl 3).1); simp at x1 x2 x3))
  have hB := hO.box #[.int .i64 a, .int .i64 b, .int .i64 c] 3
  generalize u.alloc (.cells #[.int .i64 a, .int .i64 b, .int .i64 c] 3) = v at *
  generalize u.heap.size = B at *
  have y0 := (hB.cget 1 rfl 0).1
  have y1 := (hB.cget 1 rfl 1).1
  have y2 := (hB.cget 1 rfl 2).1
  simp at y0 y1 y2
  have hBl := hB.below
  clear hB hO x1 x2 x3 FM
  by_cases z0 : a = 0
  · by_cases z1 : b = 0
    · by_cases z2 : c = 0
      · have hv : checkF [] [a, b, c] = 0 := by simp [checkF, fitB, z0, z1, z2] <;> omega
        replace hv := Lib.hid hv
        go_wp2_with fail
        refine wp_loop_rounds 1 ?_
        repeat (rw [rounds_succ]; go_wp2_with (fail))
        refine wp_loop_rounds 4 ?_
        repeat (rw [rounds_succ]; go_wp2_with fail)
        go_ret
        exact ⟨ret_int hv.out.symm, hBl⟩
      · have hv : checkF [] [a, b, c] = 4 := by simp [checkF, fitB, z0, z1, z2] <;> omega
        replace hv := Lib.hid hv
        go_wp2_with fail
        refine wp_loop_rounds 1 ?_
        repeat (rw [rounds_succ]; go_wp2_with (fail))
        refine wp_loop_rounds 3 ?_
        repeat (rw [rounds_succ]; go_wp2_with fail)
        go_ret
        exact ⟨ret_int hv.out.symm, hBl⟩
    · have hv : checkF [] [a, b, c] = 4 := by simp [checkF, fitB, z0, z1] <;> omega
      replace hv := Lib.hid hv
      go_wp2_with fail
      refine wp_loop_rounds 1 ?_
      repeat (rw [rounds_succ]; go_wp2_with (fail))
      refine wp_loop_rounds 2 ?_
      repeat (rw [rounds_succ]; go_wp2_with fail)
      go_ret
      exact ⟨ret_int hv.out.symm, hBl⟩
  · have hv : checkF [] [a, b, c] = 4 := by simp [checkF, fitB, z0] <;> omega
    replace hv := Lib.hid hv
    go_wp2_with fail
    refine wp_loop_rounds 1 ?_
    repeat (rw [rounds_succ]; go_wp2_with (fail))
    refine wp_loop_rounds 1 ?_
    repeat (rw [rounds_succ]; go_wp2_with fail)
    go_ret
    exact ⟨ret_int hv.out.symm, hBl⟩
theorem rcheck_any (op a b c : Int) (w : World) : Calls Try.prog 81 #[.agg #[.int .i64 op, .int .i64 a, .int .i64 b, .int .i64 c]] w fun e w' => e = .returned (.int .i64 (checkI op a b c)) ∧ Below w.heap.size w w' := by
  by_cases h1 : op < 0
  · have hv : checkI op a b c = 5 := by unfold checkI; rw [if_pos (.inl h1)]
    rw [hv]
    go_enter Try.func81, Try.ntmps81
    go_wp2
    go_ret
    exact ⟨rfl, by go_grown⟩
  · by_cases h2 : 25 < op
    · have hv : checkI op a b c = 5 := by unfold checkI; rw [if_pos (.inr h2)]
      rw [hv]
      go_enter Try.func81, Try.ntmps81
      go_wp2
      go_ret
      exact ⟨rfl, by go_grown⟩
    · have hv : checkI op a b c = checkF (formL op) [a, b, c] := by unfold checkI; rw [if_neg (by omega)]
      rw [hv]
      rcases form_cases op with h | h | h | h | h | h | h | h
      · rw [h.1]; exact rcheck_rrr op a b c h1 h2 h.1 w
      · rw [h.1]; exact rcheck_rr op a b c h1 h2 h.1 w
      · rw [h.1]; exact rcheck_r op a b c h1 h2 h.1 w
      · rw [h.1]; exact rcheck_rn op a b c h1 h2 h.1 w
      · rw [h.1]; exact rcheck_rt op a b c h1 h2 h.1 w
      · rw [h.1]; exact rcheck_t op a b c h1 h2 h.1 w
      · rw [h.1]; exact rcheck_f op a b c h1 h2 h.1 w
      · rw [h.1]; exact rcheck_z op a b c h1 h2 h.1 w
end
end Go.Proofs.Ytcegncbnanbenaa
