/- Package deque in plain words: a walk, its next access, walks that go alone to their ends. No program in sight. -/
import Derived.Test.YtofnjapgacgdlaaKit
set_option linter.unusedVariables false
set_option linter.unusedSimpArgs false
namespace Go.Proofs.Ytofnjapgacgdlaa
open Go.RowKit
set_option maxHeartbeats 4000000
/-- A walk: where it is (0.. a push, 10.. a pop, 30.. a steal, 99 it has ended), the owner's tail, what is pushed or got, h, the number of its turn. -/
structure WS where
  pc : Nat
  t : Int
  x : Int
  h : Int
  n : Int
  got : Bool
  full : Bool
def slotN (B : Nat) (D n : Int) : Nat := B + 4 + (max n 0 % D).toNat
/-- The next access. -/
def stepW (B : Nat) (D : Int) (s : WS) (m : List Int) : WS × List Int :=
  match s.pc with
  | 0 => if D - 1 ≤ wrap64 (s.t - m.getD B 0) then ({ s with pc := 99, full := true }, m) else ({ s with pc := 1 }, m)
  | 1 => ({ s with pc := 2 }, m.set (slotN B D s.t) s.x)
  | 2 => ({ s with pc := 99, t := wrap64 (s.t + 1) }, m.set (B + 1) (wrap64 (s.t + 1)))
  | 10 => ({ s with pc := 11 }, m.set (B + 1) (wrap64 (s.t - 1)))
  | 11 => if m.getD B 0 ≤ wrap64 (s.t - 1) then ({ s with pc := 20 }, m) else ({ s with pc := 12 }, m)
  | 12 => ({ s with pc := 13 }, m.set (B + 1) s.t)
  | 13 => ({ s with pc := 14, n := m.getD (B + 2) 0 }, m.set (B + 2) (wrap64 (m.getD (B + 2) 0 + 1)))
  | 14 => if m.getD (B + 3) 0 = s.n then ({ s with pc := 15 }, m) else (s, m)
  | 15 => ({ s with pc := 16 }, m.set (B + 1) (wrap64 (s.t - 1)))
  | 16 => if m.getD B 0 ≤ wrap64 (s.t - 1) then ({ s with pc := 17 }, m) else ({ s with pc := 18 }, m)
  | 17 => ({ s with pc := 20 }, m.set (B + 3) (wrap64 (s.n + 1)))
  | 18 => ({ s with pc := 19 }, m.set (B + 1) s.t)
  | 19 => ({ s with pc := 99 }, m.set (B + 3) (wrap64 (s.n + 1)))
  | 20 => ({ s with pc := 99, t := wrap64 (s.t - 1), x := m.getD (slotN B D (wrap64 (s.t - 1))) 0, got := true }, m)
  | 30 => ({ s with pc := 31, n := m.getD (B + 2) 0 }, m.set (B + 2) (wrap64 (m.getD (B + 2) 0 + 1)))
  | 31 => if m.getD (B + 3) 0 = s.n then ({ s with pc := 32 }, m) else (s, m)
  | 32 => ({ s with pc := 33, h := m.getD B 0 }, m)
  | 33 => ({ s with pc := 34 }, m.set B (wrap64 (s.h + 1)))
  | 34 => if wrap64 (s.h + 1) ≤ m.getD (B + 1) 0 then ({ s with pc := 37 }, m) else ({ s with pc := 35 }, m)
  | 35 => ({ s with pc := 36 }, m.set B s.h)
  | 36 => ({ s with pc := 99 }, m.set (B + 3) (wrap64 (s.n + 1)))
  | 37 => ({ s with pc := 36, x := m.getD (slotN B D s.h) 0, got := true }, m)
  | _ => (s, m)
/-- Where a walk can be. -/
def pcOk (p : Nat) : Prop := p ≤ 2 ∨ (10 ≤ p ∧ p ≤ 20) ∨ (30 ≤ p ∧ p ≤ 37)
theorem stepW_len (B : Nat) (D : Int) (s : WS) (m : List Int) : (stepW B D s m).2.length = m.length := by
  unfold stepW
  split <;> (try split) <;> simp
/-- A walk that goes alone: i is the number of its next access; it ends with that number, or with the last one. -/
def runW (B : Nat) (D : Int) : Nat → Nat → WS → List Int → Nat × WS × List Int
  | 0, i, s, m => (i, s, m)
  | f + 1, i, s, m => if (stepW B D s m).1.pc = 99 then (i, (stepW B D s m).1, (stepW B D s m).2) else runW B D f (i + 1) (stepW B D s m).1 (stepW B D s m).2
theorem runW_step {B : Nat} {D : Int} {s s' : WS} {m m' : List Int} (h : stepW B D s m = (s', m')) (hp : (s'.pc == 99) = false) (f i : Nat) : runW B D (f + 1) i s m = runW B D f (i + 1) s' m' := by
  have hp' : ¬ s'.pc = 99 := by simpa using hp
  simp only [runW, h, if_neg hp']
theorem runW_end {B : Nat} {D : Int} {s s' : WS} {m m' : List Int} (h : stepW B D s m = (s', m')) (hp : s'.pc = 99) (f i : Nat) : runW B D (f + 1) i s m = (i, s', m') := by
  simp only [runW, h, if_pos hp]
theorem st0y (B : Nat) (D : Int) (t x h n : Int) (g f : Bool) (m : List Int) (c : D - 1 ≤ wrap64 (t - m.getD B 0)) : stepW B D ⟨0, t, x, h, n, g, f⟩ m = (⟨99, t, x, h, n, g, true⟩, m) := if_pos c
theorem st0n (B : Nat) (D : Int) (t x h n : Int) (g f : Bool) (m : List Int) (c : ¬ D - 1 ≤ wrap64 (t - m.getD B 0)) : stepW B D ⟨0, t, x, h, n, g, f⟩ m = (⟨1, t, x, h, n, g, f⟩, m) := if_neg c
theorem st1 (B : Nat) (D : Int) (t x h n : Int) (g f : Bool) (m : List Int) : stepW B D ⟨1, t, x, h, n, g, f⟩ m = (⟨2, t, x, h, n, g, f⟩, m.set (slotN B D t) x) := rfl
theorem st2 (B : Nat) (D : Int) (t x h n : Int) (g f : Bool) (m : List Int) : stepW B D ⟨2, t, x, h, n, g, f⟩ m = (⟨99, wrap64 (t + 1), x, h, n, g, f⟩, m.set (B + 1) (wrap64 (t + 1))) := rfl
theorem st10 (B : Nat) (D : Int) (t x h n : Int) (g f : Bool) (m : List Int) : stepW B D ⟨10, t, x, h, n, g, f⟩ m = (⟨11, t, x, h, n, g, f⟩, m.set (B + 1) (wrap64 (t - 1))) := rfl
theorem st11y (B : Nat) (D : Int) (t x h n : Int) (g f : Bool) (m : List Int) (c : m.getD B 0 ≤ wrap64 (t - 1)) : stepW B D ⟨11, t, x, h, n, g, f⟩ m = (⟨20, t, x, h, n, g, f⟩, m) := if_pos c
theorem st11n (B : Nat) (D : Int) (t x h n : Int) (g f : Bool) (m : List Int) (c : ¬ m.getD B 0 ≤ wrap64 (t - 1)) : stepW B D ⟨11, t, x, h, n, g, f⟩ m = (⟨12, t, x, h, n, g, f⟩, m) := if_neg c
theorem st12 (B : Nat) (D : Int) (t x h n : Int) (g f : Bool) (m : List Int) : stepW B D ⟨12, t, x, h, n, g, f⟩ m = (⟨13, t, x, h, n, g, f⟩, m.set (B + 1) t) := rfl
theorem st13 (B : Nat) (D : Int) (t x h n : Int) (g f : Bool) (m : List Int) : stepW B D ⟨13, t, x, h, n, g, f⟩ m = (⟨14, t, x, h, m.getD (B + 2) 0, g, f⟩, m.set (B + 2) (wrap64 (m.getD (B + 2) 0 + 1))) := rfl
theorem st14y (B : Nat) (D : Int) (t x h n : Int) (g f : Bool) (m : List Int) (c : m.getD (B + 3) 0 = n) : stepW B D ⟨14, t, x, h, n, g, f⟩ m = (⟨15, t, x, h, n, g, f⟩, m) := if_pos c
theorem st14n (B : Nat) (D : Int) (t x h n : Int) (g f : Bool) (m : List Int) (c : ¬ m.getD (B + 3) 0 = n) : stepW B D ⟨14, t, x, h, n, g, f⟩ m = (⟨14, t, x, h, n, g, f⟩, m) := if_neg c
theorem st15 (B : Nat) (D : Int) (t x h n : Int) (g f : Bool) (m : List Int) : stepW B D ⟨15, t, x, h, n, g, f⟩ m = (⟨16, t, x, h, n, g, f⟩, m.set (B + 1) (wrap64 (t - 1))) := rfl
theorem st16y (B : Nat) (D : Int) (t x h n : Int) (g f : Bool) (m : List Int) (c : m.getD B 0 ≤ wrap64 (t - 1)) : stepW B D ⟨16, t, x, h, n, g, f⟩ m = (⟨17, t, x, h, n, g, f⟩, m) := if_pos c
theorem st16n (B : Nat) (D : Int) (t x h n : Int) (g f : Bool) (m : List Int) (c : ¬ m.getD B 0 ≤ wrap64 (t - 1)) : stepW B D ⟨16, t, x, h, n, g, f⟩ m = (⟨18, t, x, h, n, g, f⟩, m) := if_neg c
theorem st17 (B : Nat) (D : Int) (t x h n : Int) (g f : Bool) (m : List Int) : stepW B D ⟨17, t, x, h, n, g, f⟩ m = (⟨20, t, x, h, n, g, f⟩, m.set (B + 3) (wrap64 (n + 1))) := rfl
theorem st18 (B : Nat) (D : Int) (t x h n : Int) (g f : Bool) (m : List Int) : stepW B D ⟨18, t, x, h, n, g, f⟩ m = (⟨19, t, x, h, n, g, f⟩, m.set (B + 1) t) := rfl
theorem st19 (B : Nat) (D : Int) (t x h n : Int) (g f : Bool) (m : List Int) : stepW B D ⟨19, t, x, h, n, g, f⟩ m = (⟨99, t, x, h, n, g, f⟩, m.set (B + 3) (wrap64 (n + 1))) := rfl
theorem st20 (B : Nat) (D : Int) (t x h n : Int) (g f : Bool) (m : List Int) : stepW B D ⟨20, t, x, h, n, g, f⟩ m = (⟨99, wrap64 (t - 1), m.getD (slotN B D (wrap64 (t - 1))) 0, h, n, true, f⟩, m) := rfl
theorem st30 (B : Nat) (D : Int) (t x h n : Int) (g f : Bool) (m : List Int) : stepW B D ⟨30, t, x, h, n, g, f⟩ m = (⟨31, t, x, h, m.getD (B + 2) 0, g, f⟩, m.set (B + 2) (wrap64 (m.getD (B + 2) 0 + 1))) := rfl
theorem st31y (B : Nat) (D : Int) (t x h n : Int) (g f : Bool) (m : List Int) (c : m.getD (B + 3) 0 = n) : stepW B D ⟨31, t, x, h, n, g, f⟩ m = (⟨32, t, x, h, n, g, f⟩, m) := if_pos c
theorem st31n (B : Nat) (D : Int) (t x h n : Int) (g f : Bool) (m : List Int) (c : ¬ m.getD (B + 3) 0 = n) : stepW B D ⟨31, t, x, h, n, g, f⟩ m = (⟨31, t, x, h, n, g, f⟩, m) := if_neg c
theorem st32 (B : Nat) (D : Int) (t x h n : Int) (g f : Bool) (m : List Int) : stepW B D ⟨32, t, x, h, n, g, f⟩ m = (⟨33, t, x, m.getD B 0, n, g, f⟩, m) := rfl
theorem st33 (B : Nat) (D : Int) (t x h n : Int) (g f : Bool) (m : List Int) : stepW B D ⟨33, t, x, h, n, g, f⟩ m = (⟨34, t, x, h, n, g, f⟩, m.set B (wrap64 (h + 1))) := rfl
theorem st34y (B : Nat) (D : Int) (t x h n : Int) (g f : Bool) (m : List Int) (c : wrap64 (h + 1) ≤ m.getD (B + 1) 0) : stepW B D ⟨34, t, x, h, n, g, f⟩ m = (⟨37, t, x, h, n, g, f⟩, m) := if_pos c
theorem st34n (B : Nat) (D : Int) (t x h n : Int) (g f : Bool) (m : List Int) (c : ¬ wrap64 (h + 1) ≤ m.getD (B + 1) 0) : stepW B D ⟨34, t, x, h, n, g, f⟩ m = (⟨35, t, x, h, n, g, f⟩, m) := if_neg c
theorem st35 (B : Nat) (D : Int) (t x h n : Int) (g f : Bool) (m : List Int) : stepW B D ⟨35, t, x, h, n, g, f⟩ m = (⟨36, t, x, h, n, g, f⟩, m.set B h) := rfl
theorem st36 (B : Nat) (D : Int) (t x h n : Int) (g f : Bool) (m : List Int) : stepW B D ⟨36, t, x, h, n, g, f⟩ m = (⟨99, t, x, h, n, g, f⟩, m.set (B + 3) (wrap64 (n + 1))) := rfl
theorem st37 (B : Nat) (D : Int) (t x h n : Int) (g f : Bool) (m : List Int) : stepW B D ⟨37, t, x, h, n, g, f⟩ m = (⟨36, t, m.getD (slotN B D h) 0, h, n, true, f⟩, m) := rfl
def furthest (t : Int) : Int := min (max t 0) 1099511627776
def push0 (t x : Int) : WS := ⟨0, furthest t, x, 0, 0, false, false⟩
def pop0 (t : Int) : WS := ⟨10, furthest t, 0, 0, 0, false, false⟩
def steal0 : WS := ⟨30, 0, 0, 0, 0, false, false⟩
/-- Nobody is under way: what waits, from the h-th on. -/
structure Quiet (B D : Nat) (m : List Int) (h : Nat) (xs : List Int) : Prop where
  len : B + 4 + D ≤ m.length
  hd : m.getD B 0 = (h : Int)
  tl : m.getD (B + 1) 0 = ((h + xs.length : Nat) : Int)
  lk : m.getD (B + 2) 0 = m.getD (B + 3) 0
  room : xs.length + 1 ≤ D
  d2 : 2 ≤ D
  far : h + xs.length ≤ 100000
  at_ : ∀ i, i < xs.length → m.getD (B + 4 + (h + i) % D) 0 = xs.getD i 0
theorem getS {l : List Int} {i j : Nat} {x : Int} (h : i < l.length) : (l.set i x).getD j 0 = if i = j then x else l.getD j 0 := by
  by_cases e : i = j
  · subst e; rw [if_pos rfl, getD_set_self h]
  · rw [if_neg e, getD_set_other e]
theorem slotN_nat (B D n : Nat) : slotN B D (n : Int) = B + 4 + n % D := by
  unfold slotN
  rw [show max (n : Int) 0 = n by omega]
  omega
theorem furthest_in (n : Nat) (h : n ≤ 100001) : furthest (n : Int) = n := by unfold furthest; omega
theorem w64 {x : Int} (h : -1000000 ≤ x ∧ x ≤ 1000000) : wrap64 x = x := IntWalk.wrap64_in _ (by omega)
/-- A push where there is no room. -/
theorem push_full {B D : Nat} {m : List Int} {h : Nat} {xs : List Int} (q : Quiet B D m h xs) (x : Int) (hf : xs.length + 1 = D) (f i : Nat) :
    runW B D (f + 1) i (push0 ((h + xs.length : Nat) : Int) x) m = (i, ⟨99, ((h + xs.length : Nat) : Int), x, 0, 0, false, true⟩, m) := by
  have := q.far
  have e : ((D : Int) - 1 ≤ wrap64 (((h + xs.length : Nat) : Int) - m.getD B 0)) := by rw [q.hd, w64 (by omega)]; omega
  simp only [runW, push0, stepW, furthest_in _ (by omega : h + xs.length ≤ 100001), if_pos e]
  simp
theorem mod_ne {D a b : Nat} (hD : 0 < D) (h1 : a < b) (h2 : b < a + D) : a % D ≠ b % D := by
  intro e
  have ha := Nat.div_add_mod a D
  have hb := Nat.div_add_mod b D
  rw [e] at ha
  have h3 : D * (b / D) - D * (a / D) = b - a := by omega
  rw [← Nat.mul_sub] at h3
  rcases Nat.eq_zero_or_pos (b / D - a / D) with h0 | h0
  · rw [h0] at h3; omega
  · have := Nat.mul_le_mul_left D h0
    omega
/-- A push. -/
theorem push_room {B D : Nat} {m : List Int} {h : Nat} {xs : List Int} (q : Quiet B D m h xs) (x : Int) (hf : xs.length + 1 < D) (hh : h + xs.length < 100000) (f i : Nat) :
    ∃ m', runW B D (f + 3) i (push0 ((h + xs.length : Nat) : Int) x) m = (i + 2, ⟨99, ((h + (xs ++ [x]).length : Nat) : Int), x, 0, 0, false, false⟩, m') ∧ m'.length = m.length ∧ Quiet B D m' h (xs ++ [x]) := by
  have hlen := q.len
  have hD := q.d2
  have hm : (h + xs.length) % D < D := Nat.mod_lt _ (by omega)
  have e : ¬ ((D : Int) - 1 ≤ wrap64 (((h + xs.length : Nat) : Int) - m.getD B 0)) := by rw [q.hd, w64 (by omega)]; omega
  refine ⟨(m.set (B + 4 + (h + xs.length) % D) x).set (B + 1) ((h + xs.length + 1 : Nat) : Int), ?_, by simp, ?_⟩
  · simp only [runW, push0, stepW, furthest_in _ (by omega : h + xs.length ≤ 100001), if_neg e, slotN_nat]
    rw [w64 (by omega)]
    simp
    omega
  · refine ⟨by simpa using hlen, ?_, ?_, ?_, by simp; omega, hD, by simp; omega, ?_⟩
    · rw [getS (by simp; omega), getS (by omega), if_neg (by omega), if_neg (by omega), q.hd]
    · rw [getS (by simp; omega), if_pos rfl]; simp; omega
    · rw [getS (by simp; omega), getS (by omega), getS (by simp; omega), getS (by omega), if_neg (by omega), if_neg (by omega), if_neg (by omega), if_neg (by omega), q.lk]
    · intro i hi
      rw [getS (by simp; omega), if_neg (by omega), getS (by omega)]
      by_cases hi2 : i < xs.length
      · rw [if_neg, q.at_ i hi2, getD_app hi2]
        have := mod_ne (D := D) (a := h + i) (b := h + xs.length) (by omega) (by omega) (by omega)
        omega
      · have : i = xs.length := by simp at hi; omega
        subst this
        rw [if_pos rfl]; simp
/-- A pop of what was pushed last. -/
theorem pop_last {B D : Nat} {m : List Int} {h : Nat} {xs : List Int} {x : Int} (q : Quiet B D m h (xs ++ [x])) (f i : Nat) :
    ∃ m', runW B D (f + 3) i (pop0 ((h + (xs ++ [x]).length : Nat) : Int)) m = (i + 2, ⟨99, ((h + xs.length : Nat) : Int), x, 0, 0, true, false⟩, m') ∧ m'.length = m.length ∧ Quiet B D m' h xs := by
  obtain ⟨q1, q2, q3, q4, q5, q6, q7, q8⟩ := q
  have hx := q8 xs.length (by simp)
  simp only [List.length_append, List.length_cons, List.length_nil, Nat.zero_add] at *
  have hm : (h + xs.length) % D < D := Nat.mod_lt _ (by omega)
  have e1 : wrap64 (((h + (xs.length + 1) : Nat) : Int) - 1) = ((h + xs.length : Nat) : Int) := by rw [w64 (by omega)]; omega
  refine ⟨m.set (B + 1) ((h + xs.length : Nat) : Int), ?_, by simp, ?_⟩
  · have e2 : (m.set (B + 1) ((h + xs.length : Nat) : Int)).getD B 0 ≤ ((h + xs.length : Nat) : Int) := by rw [getS (by omega), if_neg (by omega), q2]; omega
    have e3 : (m.set (B + 1) ((h + xs.length : Nat) : Int)).getD (B + 4 + (h + xs.length) % D) 0 = x := by
      rw [getS (by omega), if_neg (by omega), hx]; simp
    rw [pop0, furthest_in _ (by omega), runW_step (st10 ..) rfl, e1, runW_step (st11y _ _ _ _ _ _ _ _ _ (by rw [e1]; exact e2)) rfl, runW_end (st20 ..) rfl, e1, slotN_nat, e3]
  · refine ⟨by simpa using q1, ?_, ?_, ?_, by omega, q6, by omega, ?_⟩
    · rw [getS (by omega), if_neg (by omega), q2]
    · rw [getS (by omega), if_pos rfl]
    · rw [getS (by omega), if_neg (by omega), getS (by omega), if_neg (by omega), q4]
    · intro i hi
      have : (h + i) % D < D := Nat.mod_lt _ (by omega)
      rw [getS (by omega), if_neg (by omega), q8 i (by omega), getD_app hi]
/-- A pop where there is none. -/
theorem pop_none {B D : Nat} {m : List Int} {h : Nat} (q : Quiet B D m h []) (f i : Nat) :
    ∃ m' n, runW B D (f + 9) i (pop0 (h : Int)) m = (i + 8, ⟨99, (h : Int), 0, 0, n, false, false⟩, m') ∧ m'.length = m.length ∧ Quiet B D m' h [] := by
  obtain ⟨q1, q2, q3, q4, q5, q6, q7, q8⟩ := q
  simp only [List.length_nil, Nat.add_zero, Nat.zero_add] at *
  obtain ⟨L, hL⟩ : ∃ L, m.getD (B + 3) 0 = L := ⟨_, rfl⟩
  rw [hL] at q4
  have e1 : wrap64 ((h : Int) - 1) = (h : Int) - 1 := w64 (by omega)
  refine ⟨((((((m.set (B + 1) ((h : Int) - 1)).set (B + 1) (h : Int)).set (B + 2) (wrap64 (L + 1))).set (B + 1) ((h : Int) - 1)).set (B + 1) (h : Int)).set (B + 3) (wrap64 (L + 1))), L, ?_, by simp, ?_⟩
  · skip
    have a1 : ∀ a b c d : Int, ((((m.set (B + 1) a).set (B + 1) b).set (B + 2) c).set (B + 1) d).getD B 0 = h := by
      intro a b c d
      rw [getS (by simp; omega), if_neg (by omega), getS (by simp; omega), if_neg (by omega), getS (by simp; omega), if_neg (by omega), getS (by omega), if_neg (by omega), q2]
    have a2 : ∀ a : Int, (m.set (B + 1) a).getD B 0 = h := by
      intro a
      rw [getS (by omega), if_neg (by omega), q2]
    have a3 : ∀ a b c : Int, (((m.set (B + 1) a).set (B + 1) b).set (B + 2) c).getD (B + 3) 0 = L := by
      intro a b c
      rw [getS (by simp; omega), if_neg (by omega), getS (by simp; omega), if_neg (by omega), getS (by omega), if_neg (by omega), hL]
    have a4 : ∀ a b : Int, ((m.set (B + 1) a).set (B + 1) b).getD (B + 2) 0 = L := by
      intro a b
      rw [getS (by simp; omega), if_neg (by omega), getS (by omega), if_neg (by omega), q4]
    have n1 : ¬ ((h : Int) ≤ (h : Int) - 1) := by omega
    rw [pop0, furthest_in _ (by omega), runW_step (st10 ..) rfl, e1, runW_step (st11n _ _ _ _ _ _ _ _ _ (by rw [e1, a2]; exact n1)) rfl, runW_step (st12 ..) rfl, runW_step (st13 ..) rfl, a4, runW_step (st14y _ _ _ _ _ _ _ _ _ (a3 ..)) rfl, runW_step (st15 ..) rfl, e1, runW_step (st16n _ _ _ _ _ _ _ _ _ (by rw [e1, a1]; exact n1)) rfl, runW_step (st18 ..) rfl, runW_end (st19 ..) rfl]
  · refine ⟨by simpa using q1, ?_, ?_, ?_, by simp; omega, q6, by simp; omega, by simp⟩
    · rw [getS (by simp; omega), if_neg (by omega), getS (by simp; omega), if_neg (by omega), getS (by simp; omega), if_neg (by omega), getS (by simp; omega), if_neg (by omega), getS (by simp; omega), if_neg (by omega), getS (by omega), if_neg (by omega), q2]
    · rw [getS (by simp; omega), if_neg (by omega), getS (by simp; omega), if_pos rfl]; simp
    · rw [getS (by simp; omega), if_neg (by omega), getS (by simp; omega), if_neg (by omega), getS (by simp; omega), if_neg (by omega), getS (by simp; omega), if_pos rfl, getS (by simp; omega), if_pos rfl]
/-- A steal of what came first. -/
theorem steal_first {B D : Nat} {m : List Int} {h : Nat} {xs : List Int} {x : Int} (q : Quiet B D m h (x :: xs)) (f i : Nat) :
    ∃ m' n, runW B D (f + 7) i steal0 m = (i + 6, ⟨99, 0, x, h, n, true, false⟩, m') ∧ m'.length = m.length ∧ Quiet B D m' (h + 1) xs := by
  obtain ⟨q1, q2, q3, q4, q5, q6, q7, q8⟩ := q
  have hx := q8 0 (by simp)
  simp only [List.length_cons, Nat.add_zero] at *
  obtain ⟨L, hL⟩ : ∃ L, m.getD (B + 3) 0 = L := ⟨_, rfl⟩
  rw [hL] at q4
  have e1 : wrap64 ((h : Int) + 1) = (h : Int) + 1 := w64 (by omega)
  have hm : h % D < D := Nat.mod_lt _ (by omega)
  refine ⟨((m.set (B + 2) (wrap64 (L + 1))).set B ((h : Int) + 1)).set (B + 3) (wrap64 (L + 1)), L, ?_, by simp, ?_⟩
  · have a1 : ∀ a : Int, (m.set (B + 2) a).getD (B + 3) 0 = L := by
      intro a
      rw [getS (by omega), if_neg (by omega), hL]
    have a2 : ∀ a : Int, (m.set (B + 2) a).getD B 0 = h := by
      intro a
      rw [getS (by omega), if_neg (by omega), q2]
    have a3 : ∀ a b : Int, ((m.set (B + 2) a).set B b).getD (B + 1) 0 = ((h + (xs.length + 1) : Nat) : Int) := by
      intro a b
      rw [getS (by simp; omega), if_neg (by omega), getS (by omega), if_neg (by omega), q3]
    have a4 : ∀ a b : Int, ((m.set (B + 2) a).set B b).getD (B + 4 + h % D) 0 = x := by
      intro a b
      rw [getS (by simp; omega), if_neg (by omega), getS (by omega), if_neg (by omega), hx]; simp
    have n1 : ((h : Int) + 1) ≤ ((h + (xs.length + 1) : Nat) : Int) := by omega
    rw [steal0, runW_step (st30 ..) rfl, q4, runW_step (st31y _ _ _ _ _ _ _ _ _ (a1 _)) rfl, runW_step (st32 ..) rfl, a2, runW_step (st33 ..) rfl, e1, runW_step (st34y _ _ _ _ _ _ _ _ _ (by rw [e1, a3]; exact n1)) rfl, runW_step (st37 ..) rfl, slotN_nat, a4, runW_end (st36 ..) rfl]
  · refine ⟨by simpa using q1, ?_, ?_, ?_, by omega, q6, Nat.le_trans (Nat.le_of_eq (by omega)) q7, ?_⟩
    · rw [getS (by simp; omega), if_neg (by omega), getS (by simp; omega), if_pos rfl]; omega
    · rw [getS (by simp; omega), if_neg (by omega), getS (by simp; omega), if_neg (by omega), getS (by omega), if_neg (by omega), q3]; omega
    · rw [getS (by simp; omega), if_neg (by omega), getS (by simp; omega), if_neg (by omega), getS (by omega), if_pos rfl, getS (by simp; omega), if_pos rfl]
    · intro j hj
      rw [getS (by simp; omega), if_neg (by omega), getS (by simp; omega), if_neg (by omega), getS (by omega), if_neg (by omega)]
      have := q8 (j + 1) (by omega)
      rw [show h + 1 + j = h + (j + 1) by omega, this]; simp
/-- A steal where there is none. -/
theorem steal_none {B D : Nat} {m : List Int} {h : Nat} (q : Quiet B D m h []) (f i : Nat) :
    ∃ m' n, runW B D (f + 7) i steal0 m = (i + 6, ⟨99, 0, 0, h, n, false, false⟩, m') ∧ m'.length = m.length ∧ Quiet B D m' h [] := by
  obtain ⟨q1, q2, q3, q4, q5, q6, q7, q8⟩ := q
  simp only [List.length_nil, Nat.add_zero, Nat.zero_add] at *
  obtain ⟨L, hL⟩ : ∃ L, m.getD (B + 3) 0 = L := ⟨_, rfl⟩
  rw [hL] at q4
  have e1 : wrap64 ((h : Int) + 1) = (h : Int) + 1 := w64 (by omega)
  refine ⟨(((m.set (B + 2) (wrap64 (L + 1))).set B ((h : Int) + 1)).set B (h : Int)).set (B + 3) (wrap64 (L + 1)), L, ?_, by simp, ?_⟩
  · have a1 : ∀ a : Int, (m.set (B + 2) a).getD (B + 3) 0 = L := by
      intro a
      rw [getS (by omega), if_neg (by omega), hL]
    have a2 : ∀ a : Int, (m.set (B + 2) a).getD B 0 = h := by
      intro a
      rw [getS (by omega), if_neg (by omega), q2]
    have a3 : ∀ a b : Int, ((m.set (B + 2) a).set B b).getD (B + 1) 0 = (h : Int) := by
      intro a b
      rw [getS (by simp; omega), if_neg (by omega), getS (by omega), if_neg (by omega), q3]
    have n1 : ¬ (((h : Int) + 1) ≤ (h : Int)) := by omega
    rw [steal0, runW_step (st30 ..) rfl, q4, runW_step (st31y _ _ _ _ _ _ _ _ _ (a1 _)) rfl, runW_step (st32 ..) rfl, a2, runW_step (st33 ..) rfl, e1, runW_step (st34n _ _ _ _ _ _ _ _ _ (by rw [e1, a3]; exact n1)) rfl, runW_step (st35 ..) rfl, runW_end (st36 ..) rfl]
  · refine ⟨by simpa using q1, ?_, ?_, ?_, by simp; omega, q6, by simp; omega, by simp⟩
    · rw [getS (by simp; omega), if_neg (by omega), getS (by simp; omega), if_pos rfl]
    · rw [getS (by simp; omega), if_neg (by omega), getS (by simp; omega), if_neg (by omega), getS (by simp; omega), if_neg (by omega), getS (by omega), if_neg (by omega), q3]; simp
    · rw [getS (by simp; omega), if_neg (by omega), getS (by simp; omega), if_neg (by omega), getS (by simp; omega), if_neg (by omega), getS (by omega), if_pos rfl, getS (by simp; omega), if_pos rfl]
end Go.Proofs.Ytofnjapgacgdlaa
