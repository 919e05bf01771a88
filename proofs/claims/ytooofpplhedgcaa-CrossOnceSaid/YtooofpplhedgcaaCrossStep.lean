/- Any step of the two walks of the law CrossOnce keeps what holds between them. -/
import Derived.Test.YtooofpplhedgcaaCrossInv
set_option linter.unusedVariables false
set_option linter.unusedSimpArgs false
namespace Go.Proofs.Ytooofpplhedgcaa
open Go.RowKit
/-- The look of the one ahead, and the park of the one behind, as they lie. -/
def RightIs (L : Nat) (come st : Int) (look : Option Addr) (X : Ast) : Prop :=
  (L = 0 ∧ look = none ∧ X = noA) ∨ ∃ ra : Nat, look = some ⟨ra, 0, none⟩ ∧ ((L = 1 ∧ X = cellsA ra #[.int .i64 1, .int .i64 3, .int .i64 3, .int .i64 3, .int .i64 1, .int .i64 9, .int .i64 1, .int .i64 come, .int .i64 0, .int .i64 0, .int .i64 0, .bool false] 107) ∨ (L = 2 ∧ X = cellsA ra #[.int .i64 1, .int .i64 3, .int .i64 3, .int .i64 3, .int .i64 1, .int .i64 9, .int .i64 1, .int .i64 come, .int .i64 st, .int .i64 1, .int .i64 0, .bool false] 107) ∨ (L = 3 ∧ X = cellsA ra #[.int .i64 1, .int .i64 3, .int .i64 3, .int .i64 3, .int .i64 1, .int .i64 9, .int .i64 1, .int .i64 come, .int .i64 st, .int .i64 2, .int .i64 0, .bool false] 107))
def ParkIs (B : Nat) (st : Int) (looked : Bool) (park : Option Addr) (Y : Ast) : Prop :=
  (B = 0 ∧ looked = false ∧ park = none ∧ Y = noA) ∨ (B = 4 ∧ looked = true ∧ park = none ∧ Y = noA) ∨ ∃ pa : Nat, looked = true ∧ park = some ⟨pa, 0, none⟩ ∧ ((B = 1 ∧ Y = cellsA pa #[.int .i64 1, .int .i64 3, .int .i64 3, .int .i64 3, .int .i64 1, .int .i64 9, .int .i64 1, .int .i64 st, .int .i64 0, .bool false] 109) ∨ (B = 2 ∧ Y = cellsA pa #[.int .i64 1, .int .i64 3, .int .i64 3, .int .i64 3, .int .i64 1, .int .i64 9, .int .i64 1, .int .i64 st, .int .i64 1, .bool false] 109) ∨ (B = 3 ∧ Y = cellsA pa #[.int .i64 1, .int .i64 3, .int .i64 3, .int .i64 3, .int .i64 1, .int .i64 9, .int .i64 1, .int .i64 st, .int .i64 2, .bool false] 109))
structure MemC (T come : Int) (sT : Bool) (ms : List Int) : Prop where
  len : ms.length = 61
  c : ms.getD 9 0 = come
  s : ms.getD 14 0 = if sT = true then T else 0
  l : ms.getD 15 0 = 2
theorem MemC.goes {T come : Int} {sT : Bool} {ms : List Int} (h : MemC T come sT ms) (c2 : Int) : MemC T c2 sT (ms.set 9 c2) :=
  ⟨by simpa using h.len, getD_set_self (by rw [h.len]; omega) _, (getD_set_other (by omega) _).trans h.s, (getD_set_other (by omega) _).trans h.l⟩
theorem MemC.waits {T come : Int} {sT : Bool} {ms : List Int} (h : MemC T come sT ms) : MemC T come true (ms.set 14 T) :=
  ⟨by simpa using h.len, (getD_set_other (by omega) _).trans h.c, getD_set_self (by rw [h.len]; omega) _, (getD_set_other (by omega) _).trans h.l⟩
theorem MemC.frees {T come : Int} {sT : Bool} {ms : List Int} (h : MemC T come sT ms) : MemC T come false (ms.set 14 0) :=
  ⟨by simpa using h.len, (getD_set_other (by omega) _).trans h.c, getD_set_self (by rw [h.len]; omega) _, (getD_set_other (by omega) _).trans h.l⟩
theorem tok19 {st : Nat} (hs : st ≤ 59) {T : Int} (htk : tokV 9 1 st = T) : T ≠ 0 ∧ wT T % 1048576 = st ∧ (∀ c, nextT T c = decide ((st : Int) < c)) := by
  have hv : T = 9437185 * 1048576 + st := by rw [← htk]; unfold tokV hT; omega
  have hw : wT T % 1048576 = st := by rw [hv]; unfold wT; omega
  refine ⟨by omega, hw, fun c => ?_⟩
  unfold nextT isTok
  rw [hw, decide_eq_true (show (1099511627776 : Int) ≤ T by omega), decide_eq_true (show T ≤ (1152921504606846975 : Int) by omega)]
  simp
theorem next_zero (c : Int) : nextT 0 c = false := by unfold nextT isTok; simp
set_option maxRecDepth 100000
set_option maxHeartbeats 8000000
theorem ahead_any {w0 w : World} {gs sb pb rb ab bb n sc st L at_ B come got goes : Nat} {sT looked : Bool} {ms vs : List Int} {so look park : Option Addr} {X Y : Ast} {T : Int} (ok : okPlan 1 3 3 3 = true) (hs : st ≤ 59) (hT : tokV 9 1 st = T) (hn : n ≤ 60) (hnc : n ≤ sc) (hsc : sc ≤ maxLen)
    (hv : ∀ i, i < n → (0 ≤ vs.getD i 0 ∧ vs.getD i 0 ≤ 255) ∧ ∃ ad, so = some ad ∧ w0.cell? (ad.add i) = some (.int .u8 (vs.getD i 0)))
    (hC : CInv n st L at_ B sT come got goes) (hM : MemC T come sT ms) (hR : RightIs L come st look X)
    (h : Own w0 w (storeA gs sb ms :: [cellsA pb #[.int .i64 1, .int .i64 3, .int .i64 3, .int .i64 3] 26, cellsA rb #[.int .i64 1, .int .i64 3, .int .i64 3, .int .i64 3, .int .i64 1, .int .i64 9] 32, cellsA ab #[.slice so n sc, .int .i64 at_, .int .i64 come, .pointer look, .int .i64 got] 58, cellsA bb #[.int .i64 st, .bool looked, .pointer park, .int .i64 goes] 62, X, Y])) :
    Calls Try.prog 36 #[.pointer (some ⟨ab, 0, none⟩), .pointer (some ⟨gs, 0, none⟩), .agg #[.int .i64 1, .int .i64 3, .int .i64 3, .int .i64 3, .int .i64 1, .int .i64 9]] w fun e w' => e = .returned (.tuple #[]) ∧ ∃ (L2 at2 come2 got2 : Nat) (sT2 : Bool) (ms2 : List Int) (look2 : Option Addr) (X2 : Ast), CInv n st L2 at2 B sT2 come2 got2 goes ∧ MemC T come2 sT2 ms2 ∧ (muA n L2 at2 B sT2 ≤ muA n L at_ B sT - 1) ∧ RightIs L2 come2 st look2 X2 ∧
      Own w0 w' (storeA gs sb ms2 :: [cellsA pb #[.int .i64 1, .int .i64 3, .int .i64 3, .int .i64 3] 26, cellsA rb #[.int .i64 1, .int .i64 3, .int .i64 3, .int .i64 3, .int .i64 1, .int .i64 9] 32, cellsA ab #[.slice so n sc, .int .i64 at2, .int .i64 come2, .pointer look2, .int .i64 got2] 58, cellsA bb #[.int .i64 st, .bool looked, .pointer park, .int .i64 goes] 62, X2, Y]) := by
  have hlb := hC.lb
  have hab := hC.ab
  have hck := hC.check
  have len := hM.len
  obtain ⟨t0, t1, t2⟩ := tok19 hs hT
  unfold RightIs at hR
  rcases (show L = 0 ∨ L = 1 ∨ L = 2 ∨ L = 3 by omega) with rfl | rfl | rfl | rfl
  · rcases hR with ⟨_, rfl, rfl⟩ | ⟨ra, _, ⟨h0, _⟩ | ⟨h0, _⟩ | ⟨h0, _⟩⟩
    rotate_left
    · omega
    · omega
    · omega
    by_cases ha : at_ ≤ n
    · obtain ⟨c1, c2⟩ := hC.a1 hs rfl ha
      by_cases han : at_ = n
      · rw [if_pos han] at c1
        refine (ahead_past (look := none) (at_ := 0) ok (by rw [han]) (by omega) (by omega) rfl h).mono ?_
        rintro e w' ⟨rfl, ra, h'⟩
        exact ⟨rfl, 1, at_ + 1, 1048576, got, sT, _, _, _, c1, hM.goes _, by omega, .inr ⟨ra, rfl, .inl ⟨rfl, rfl⟩⟩, h'⟩
      · rw [if_neg han] at c1
        obtain ⟨hr, ad, ho, hc⟩ := hv at_ (by omega)
        refine (ahead_next (look := none) (at_ := 0) ok (show at_ < n by omega) hn hnc hsc ho hc hr (by omega) rfl h).mono ?_
        rintro e w' ⟨rfl, ra, h'⟩
        exact ⟨rfl, 1, at_ + 1, 1048575, got, sT, _, _, _, c1, hM.goes _, by omega, .inr ⟨ra, rfl, .inl ⟨rfl, rfl⟩⟩, h'⟩
    · obtain rfl : at_ = n + 1 := by omega
      refine (ahead_done (look := none) (by simp; omega) h).mono ?_
      rintro e w' ⟨rfl, h'⟩
      exact ⟨rfl, 0, n + 1, come, got, sT, ms, none, noA, hC, hM, by simp [muA], .inl ⟨rfl, rfl, rfl⟩, h'⟩
  · rcases hR with ⟨h0, _⟩ | ⟨ra, rfl, ⟨_, rfl⟩ | ⟨h0, _⟩ | ⟨h0, _⟩⟩
    · omega
    rotate_left
    · omega
    · omega
    by_cases hy : sT = true ∧ st < come
    · obtain ⟨rfl, hy2⟩ := hy
      obtain ⟨c1, c2⟩ := hC.a3 hs rfl rfl hy2
      refine (ahead_on (look := none) (ms' := ms) (X' := cellsA ra #[.int .i64 1, .int .i64 3, .int .i64 3, .int .i64 3, .int .i64 1, .int .i64 9, .int .i64 1, .int .i64 come, .int .i64 st, .int .i64 1, .int .i64 0, .bool false] 107) h (fun w1 xb h1 => right_step0 1 9 1 ok 4 h1 rfl (at0 := 14) (by decide) (by omega) T (by simpa using hM.s) true (by rw [t2, t1, hT]; simp; omega) st (by simp [t1]) 1 false (.inl ⟨rfl, rfl, rfl⟩))).mono ?_
      rintro e w' ⟨rfl, h'⟩
      exact ⟨rfl, 2, at_, come, got, true, ms, _, _, c1, hM, by omega, .inr ⟨ra, rfl, .inr (.inl ⟨rfl, rfl⟩)⟩, h'⟩
    · obtain ⟨c1, c2⟩ := hC.a4 hs rfl (fun a b => hy ⟨a, b⟩)
      refine (ahead_end (look := none) (ms' := ms) (X' := (cellsA ra #[.int .i64 1, .int .i64 3, .int .i64 3, .int .i64 3, .int .i64 1, .int .i64 9, .int .i64 1, .int .i64 come, .int .i64 0, .int .i64 3, .int .i64 0, .bool false] 107)) false 0 got (by omega) (by simp) h (fun w1 xb h1 => right_step0 1 9 1 ok 4 h1 rfl (at0 := 14) (by decide) (by omega) (if sT = true then T else 0) hM.s false (by
        cases sT with
        | true => simp at hy ⊢; rw [t2, t1, hT]; simp; omega
        | false => simp [next_zero]) 0 (by simp) 3 true (.inr ⟨rfl, rfl, rfl⟩)) (fun w1 xb h1 => right_got 5 h1 rfl)).mono ?_
      rintro e w' ⟨rfl, h'⟩
      exact ⟨rfl, 0, at_, come, got, sT, ms, none, noA, c1, hM, by omega, .inl ⟨rfl, rfl, rfl⟩, h'⟩
  · rcases hR with ⟨h0, _⟩ | ⟨ra, rfl, ⟨h0, _⟩ | ⟨_, rfl⟩ | ⟨h0, _⟩⟩
    · omega
    · omega
    rotate_left
    · omega
    cases sT with
    | true =>
      obtain ⟨c1, c2⟩ := hC.a5 hs rfl rfl
      refine (ahead_on (look := none) (ms' := ms.set 14 0) (X' := cellsA ra #[.int .i64 1, .int .i64 3, .int .i64 3, .int .i64 3, .int .i64 1, .int .i64 9, .int .i64 1, .int .i64 come, .int .i64 st, .int .i64 2, .int .i64 0, .bool false] 107) h (fun w1 xb h1 => right_step1_yes 1 9 1 ok 4 h1 rfl (at0 := 14) (by decide) (by omega) T hT (by simpa using hM.s) _ rfl)).mono ?_
      rintro e w' ⟨rfl, h'⟩
      exact ⟨rfl, 3, at_, come, got, false, _, _, _, c1, hM.frees, by omega, .inr ⟨ra, rfl, .inr (.inr ⟨rfl, rfl⟩)⟩, h'⟩
    | false =>
      obtain ⟨c1, c2⟩ := hC.a6 hs rfl rfl
      refine (ahead_end (look := none) (ms' := ms) (X' := (cellsA ra #[.int .i64 1, .int .i64 3, .int .i64 3, .int .i64 3, .int .i64 1, .int .i64 9, .int .i64 1, .int .i64 come, .int .i64 st, .int .i64 3, .int .i64 0, .bool false] 107)) false 0 got (by omega) (by simp) h (fun w1 xb h1 => right_step1_no 1 9 1 ok 4 h1 rfl (at0 := 14) (by decide) (by omega) T hT (by rw [hM.s]; simpa using t0.symm)) (fun w1 xb h1 => right_got 5 h1 rfl)).mono ?_
      rintro e w' ⟨rfl, h'⟩
      exact ⟨rfl, 0, at_, come, got, false, ms, none, noA, c1, hM, by omega, .inl ⟨rfl, rfl, rfl⟩, h'⟩
  · rcases hR with ⟨h0, _⟩ | ⟨ra, rfl, ⟨h0, _⟩ | ⟨h0, _⟩ | ⟨_, rfl⟩⟩
    · omega
    · omega
    · omega
    obtain ⟨c1, c2⟩ := hC.a7 hs rfl
    refine (ahead_end (look := none) (ms' := ms) (X' := (cellsA ra #[.int .i64 1, .int .i64 3, .int .i64 3, .int .i64 3, .int .i64 1, .int .i64 9, .int .i64 1, .int .i64 come, .int .i64 st, .int .i64 3, .int .i64 2, .bool true] 107)) true 2 (got + 1 : Nat) (by omega) (by simp) h (fun w1 xb h1 => right_step2 1 9 1 ok 4 h1 rfl (at0 := 15) (by decide) (by omega) 2 hM.l) (fun w1 xb h1 => right_got 5 h1 rfl)).mono ?_
    rintro e w' ⟨rfl, h'⟩
    exact ⟨rfl, 0, at_, come, got + 1, sT, ms, none, noA, c1, hM, by omega, .inl ⟨rfl, rfl, rfl⟩, h'⟩
theorem behind_any {w0 w : World} {gs sb pb rb ab bb n sc st L at_ B come got goes : Nat} {sT looked : Bool} {ms : List Int} {so look park : Option Addr} {X Y : Ast} {T : Int} (ok : okPlan 1 3 3 3 = true) (hs : st ≤ 59) (hT : tokV 9 1 st = T)
    (hC : CInv n st L at_ B sT come got goes) (hM : MemC T come sT ms) (hP : ParkIs B st looked park Y)
    (h : Own w0 w (storeA gs sb ms :: [cellsA pb #[.int .i64 1, .int .i64 3, .int .i64 3, .int .i64 3] 26, cellsA rb #[.int .i64 1, .int .i64 3, .int .i64 3, .int .i64 3, .int .i64 1, .int .i64 9] 32, cellsA ab #[.slice so n sc, .int .i64 at_, .int .i64 come, .pointer look, .int .i64 got] 58, cellsA bb #[.int .i64 st, .bool looked, .pointer park, .int .i64 goes] 62, X, Y])) :
    Calls Try.prog 37 #[.pointer (some ⟨bb, 0, none⟩), .pointer (some ⟨gs, 0, none⟩), .agg #[.int .i64 1, .int .i64 3, .int .i64 3, .int .i64 3, .int .i64 1, .int .i64 9]] w fun e w' => e = .returned (.tuple #[]) ∧ ∃ (B2 goes2 : Nat) (sT2 looked2 : Bool) (ms2 : List Int) (park2 : Option Addr) (Y2 : Ast), CInv n st L at_ B2 sT2 come got goes2 ∧ MemC T come sT2 ms2 ∧ (muA n L at_ B2 sT2 ≤ muA n L at_ B sT ∧ 4 - B2 ≤ 4 - B - 1) ∧ ParkIs B2 st looked2 park2 Y2 ∧
      Own w0 w' (storeA gs sb ms2 :: [cellsA pb #[.int .i64 1, .int .i64 3, .int .i64 3, .int .i64 3] 26, cellsA rb #[.int .i64 1, .int .i64 3, .int .i64 3, .int .i64 3, .int .i64 1, .int .i64 9] 32, cellsA ab #[.slice so n sc, .int .i64 at_, .int .i64 come, .pointer look, .int .i64 got] 58, cellsA bb #[.int .i64 st, .bool looked2, .pointer park2, .int .i64 goes2] 62, X, Y2]) := by
  have hbb := hC.bb
  have hck := hC.check
  have len := hM.len
  obtain ⟨t0, t1, t2⟩ := tok19 hs hT
  unfold ParkIs at hP
  rcases (show B = 0 ∨ B = 1 ∨ B = 2 ∨ B = 3 ∨ B = 4 by omega) with rfl | rfl | rfl | rfl | rfl
  · rcases hP with ⟨_, rfl, rfl, rfl⟩ | ⟨h0, _⟩ | ⟨pa, _, _, ⟨h0, _⟩ | ⟨h0, _⟩ | ⟨h0, _⟩⟩
    rotate_left
    · omega
    · omega
    · omega
    · omega
    by_cases hy : st < come
    · obtain ⟨c1, c2⟩ := hC.b1 hs rfl hy
      refine (behind_look_go (looked := false) (park := none) ok (by omega) hM.c (by simp; omega) (by omega) h).mono ?_
      rintro e w' ⟨rfl, h'⟩
      exact ⟨rfl, 4, goes + 1, sT, true, ms, none, noA, c1, hM, ⟨c2, by omega⟩, .inr (.inl ⟨rfl, rfl, rfl, rfl⟩), h'⟩
    · obtain ⟨c1, c2⟩ := hC.b2 hs rfl
      refine (behind_look_park (looked := false) (park := none) ok (by omega) hM.c (by simp; omega) h).mono ?_
      rintro e w' ⟨rfl, pa, h'⟩
      exact ⟨rfl, 1, goes, sT, true, ms, _, _, c1, hM, ⟨c2, by omega⟩, .inr (.inr ⟨pa, rfl, rfl, .inl ⟨rfl, rfl⟩⟩), h'⟩
  · rcases hP with ⟨h0, _⟩ | ⟨h0, _⟩ | ⟨pa, rfl, rfl, ⟨_, rfl⟩ | ⟨h0, _⟩ | ⟨h0, _⟩⟩
    · omega
    · omega
    rotate_left
    · omega
    · omega
    obtain ⟨c1, c2⟩ := hC.b3 hs rfl
    refine (behind_on (looked := true) (park := none) (ms' := ms.set 14 T) (Y' := cellsA pa #[.int .i64 1, .int .i64 3, .int .i64 3, .int .i64 3, .int .i64 1, .int .i64 9, .int .i64 1, .int .i64 st, .int .i64 1, .bool false] 109) h (fun w1 xb h1 => park_step0 1 9 1 ok 5 h1 rfl (at0 := 14) (by decide) (by omega) T hT _ rfl)).mono ?_
    rintro e w' ⟨rfl, h'⟩
    exact ⟨rfl, 2, goes, true, true, _, _, _, c1, hM.waits, ⟨c2, by omega⟩, .inr (.inr ⟨pa, rfl, rfl, .inr (.inl ⟨rfl, rfl⟩)⟩), h'⟩
  · rcases hP with ⟨h0, _⟩ | ⟨h0, _⟩ | ⟨pa, rfl, rfl, ⟨h0, _⟩ | ⟨_, rfl⟩ | ⟨h0, _⟩⟩
    · omega
    · omega
    · omega
    rotate_left
    · omega
    by_cases hy : st < come
    · obtain ⟨c1, c2⟩ := hC.b4 hs rfl hy
      refine (behind_on (looked := true) (park := none) (ms' := ms) (Y' := cellsA pa #[.int .i64 1, .int .i64 3, .int .i64 3, .int .i64 3, .int .i64 1, .int .i64 9, .int .i64 1, .int .i64 st, .int .i64 2, .bool false] 109) h (fun w1 xb h1 => park_step1 1 9 1 ok 5 h1 rfl 0 (IntWalk.wrap64_in _ (by omega)) (at0 := 9) (by decide) (by omega) come hM.c true (by simp; omega) 2 false (.inl ⟨rfl, rfl, rfl⟩))).mono ?_
      rintro e w' ⟨rfl, h'⟩
      exact ⟨rfl, 3, goes, sT, true, ms, _, _, c1, hM, ⟨c2, by omega⟩, .inr (.inr ⟨pa, rfl, rfl, .inr (.inr ⟨rfl, rfl⟩)⟩), h'⟩
    · obtain ⟨c1, c2⟩ := hC.b5 hs rfl hy
      refine (behind_end (looked := true) (park := none) (ms' := ms) (Y' := cellsA pa #[.int .i64 1, .int .i64 3, .int .i64 3, .int .i64 3, .int .i64 1, .int .i64 9, .int .i64 1, .int .i64 st, .int .i64 3, .bool false] 109) false goes (by omega) (by simp) h (fun w1 xb h1 => park_step1 1 9 1 ok 5 h1 rfl 0 (IntWalk.wrap64_in _ (by omega)) (at0 := 9) (by decide) (by omega) come hM.c false (by simp; omega) 3 true (.inr ⟨rfl, rfl, rfl⟩)) (fun w1 xb h1 => park_back 6 h1 rfl)).mono ?_
      rintro e w' ⟨rfl, h'⟩
      exact ⟨rfl, 4, goes, sT, true, ms, none, noA, c1, hM, ⟨c2, by omega⟩, .inr (.inl ⟨rfl, rfl, rfl, rfl⟩), h'⟩
  · rcases hP with ⟨h0, _⟩ | ⟨h0, _⟩ | ⟨pa, rfl, rfl, ⟨h0, _⟩ | ⟨h0, _⟩ | ⟨_, rfl⟩⟩
    · omega
    · omega
    · omega
    · omega
    cases sT with
    | true =>
      obtain ⟨c1, c2⟩ := hC.b6 hs rfl rfl
      refine (behind_end (looked := true) (park := none) (ms' := ms.set 14 0) (Y' := cellsA pa #[.int .i64 1, .int .i64 3, .int .i64 3, .int .i64 3, .int .i64 1, .int .i64 9, .int .i64 1, .int .i64 st, .int .i64 3, .bool true] 109) true (goes + 1 : Nat) (by omega) (by simp) h (fun w1 xb h1 => park_step2_yes 1 9 1 ok 5 h1 rfl (at0 := 14) (by decide) (by omega) T hT (by simpa using hM.s) _ rfl) (fun w1 xb h1 => park_back 6 h1 rfl)).mono ?_
      rintro e w' ⟨rfl, h'⟩
      exact ⟨rfl, 4, goes + 1, false, true, _, none, noA, c1, hM.frees, ⟨c2, by omega⟩, .inr (.inl ⟨rfl, rfl, rfl, rfl⟩), h'⟩
    | false =>
      obtain ⟨c1, c2⟩ := hC.b7 hs rfl rfl
      refine (behind_end (looked := true) (park := none) (ms' := ms) (Y' := cellsA pa #[.int .i64 1, .int .i64 3, .int .i64 3, .int .i64 3, .int .i64 1, .int .i64 9, .int .i64 1, .int .i64 st, .int .i64 3, .bool false] 109) false goes (by omega) (by simp) h (fun w1 xb h1 => park_step2_no 1 9 1 ok 5 h1 rfl (at0 := 14) (by decide) (by omega) T hT (by rw [hM.s]; simpa using t0.symm)) (fun w1 xb h1 => park_back 6 h1 rfl)).mono ?_
      rintro e w' ⟨rfl, h'⟩
      exact ⟨rfl, 4, goes, false, true, ms, none, noA, c1, hM, ⟨c2, by omega⟩, .inr (.inl ⟨rfl, rfl, rfl, rfl⟩), h'⟩
  · rcases hP with ⟨h0, _⟩ | ⟨_, rfl, rfl, rfl⟩ | ⟨pa, _, _, ⟨h0, _⟩ | ⟨h0, _⟩ | ⟨h0, _⟩⟩
    · omega
    rotate_left
    · omega
    · omega
    · omega
    refine (behind_done (looked := true) (park := none) h).mono ?_
    rintro e w' ⟨rfl, h'⟩
    exact ⟨rfl, 4, goes, sT, true, ms, none, noA, hC, hM, ⟨Nat.le_refl _, by omega⟩, .inr (.inl ⟨rfl, rfl, rfl, rfl⟩), h'⟩
end Go.Proofs.Ytooofpplhedgcaa
