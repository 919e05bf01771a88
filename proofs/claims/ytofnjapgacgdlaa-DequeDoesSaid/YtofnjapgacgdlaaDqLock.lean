/- Package deque: who waits for a turn, and who has it. No program in sight. -/
import Derived.Test.YtofnjapgacgdlaaDqSpec
set_option linter.unusedVariables false
set_option linter.unusedSimpArgs false
namespace Go.Proofs.Ytofnjapgacgdlaa
open Go.RowKit
/-- A walk that has a number of the lock; one whose turn it is. -/
def tick (p : Nat) : Bool := (decide (14 ≤ p) && decide (p ≤ 19)) || (decide (31 ≤ p) && decide (p ≤ 37))
def hold (p : Nat) : Bool := (decide (15 ≤ p) && decide (p ≤ 19)) || (decide (32 ≤ p) && decide (p ≤ 37))
theorem hold_tick {p : Nat} (h : hold p = true) : tick p = true := by
  simp [hold, tick] at *; omega
def upd (ws : Nat → Option WS) (k : Nat) (o : Option WS) : Nat → Option WS := fun j => if j = k then o else ws j
theorem upd_self (ws : Nat → Option WS) (k : Nat) (o : Option WS) : upd ws k o k = o := if_pos rfl
theorem upd_other {ws : Nat → Option WS} {k j : Nat} {o : Option WS} (h : j ≠ k) : upd ws k o j = ws j := if_neg h
structure Lk (ws : Nat → Option WS) (a b : Nat) : Prop where
  le : b ≤ a
  rng : ∀ k w, ws k = some w → tick w.pc = true → (b : Int) ≤ w.n ∧ w.n < (a : Int)
  hld : ∀ k w, ws k = some w → hold w.pc = true → w.n = (b : Int)
  inj : ∀ k j w v, ws k = some w → ws j = some v → tick w.pc = true → tick v.pc = true → w.n = v.n → k = j
  sur : ∀ v : Nat, b ≤ v → v < a → ∃ k w, ws k = some w ∧ tick w.pc = true ∧ w.n = (v : Int)
theorem Lk.sole {ws : Nat → Option WS} {a b : Nat} (h : Lk ws a b) {k j : Nat} {w v : WS} (hk : ws k = some w) (hj : ws j = some v) (h1 : hold w.pc = true) (h2 : hold v.pc = true) : k = j :=
  h.inj k j w v hk hj (hold_tick h1) (hold_tick h2) ((h.hld k w hk h1).trans (h.hld j v hj h2).symm)
/-- A walk that has no number turns to one that has none. -/
theorem Lk.quiet {ws : Nat → Option WS} {a b : Nat} (h : Lk ws a b) (k : Nat) (o : Option WS) (h1 : ∀ w, ws k = some w → tick w.pc = false) (h2 : ∀ w, o = some w → tick w.pc = false) : Lk (upd ws k o) a b := by
  have ne : ∀ j v, upd ws k o j = some v → tick v.pc = true → j ≠ k ∧ ws j = some v := by
    intro j v hj ht
    by_cases e : j = k
    · subst e; rw [upd_self] at hj; rw [h2 v hj] at ht; cases ht
    · rw [upd_other e] at hj; exact ⟨e, hj⟩
  refine ⟨h.le, fun j v hj ht => h.rng j v (ne j v hj ht).2 ht, fun j v hj hh => h.hld j v (ne j v hj (hold_tick hh)).2 hh, fun j i v u hj hi t1 t2 e => h.inj j i v u (ne j v hj t1).2 (ne i u hi t2).2 t1 t2 e, fun v hv1 hv2 => ?_⟩
  obtain ⟨j, u, hj, ht, hn⟩ := h.sur v hv1 hv2
  have e : j ≠ k := by
    intro e; subst e; rw [h1 u hj] at ht; cases ht
  exact ⟨j, u, by rw [upd_other e]; exact hj, ht, hn⟩
/-- A walk that goes on with its number. -/
theorem Lk.same {ws : Nat → Option WS} {a b : Nat} (h : Lk ws a b) {k : Nat} {w w' : WS} (hk : ws k = some w) (ht : tick w.pc = true) (ht' : tick w'.pc = true) (hh : hold w'.pc = true → w.n = (b : Int)) (hn : w'.n = w.n) : Lk (upd ws k (some w')) a b := by
  have go : ∀ j v, upd ws k (some w') j = some v → ∃ u, ws j = some u ∧ u.n = v.n ∧ (tick v.pc = true → tick u.pc = true) ∧ (hold v.pc = true → v.n = (b : Int)) := by
    intro j v hj
    by_cases e : j = k
    · subst e; rw [upd_self] at hj; cases hj; exact ⟨w, hk, hn.symm, fun _ => ht, fun h => hn.trans (hh h)⟩
    · rw [upd_other e] at hj; exact ⟨v, hj, rfl, fun h => h, fun h' => h.hld j v hj h'⟩
  refine ⟨h.le, fun j v hj t => ?_, fun j v hj t => ?_, fun j i v u hj hi t1 t2 e => ?_, fun v hv1 hv2 => ?_⟩
  · obtain ⟨u, g1, g2, g3, g4⟩ := go j v hj
    rw [← g2]; exact h.rng j u g1 (g3 t)
  · obtain ⟨u, g1, g2, g3, g4⟩ := go j v hj
    exact g4 t
  · obtain ⟨v', a1, a2, a3, a4⟩ := go j v hj
    obtain ⟨u', b1, b2, b3, b4⟩ := go i u hi
    exact h.inj j i v' u' a1 b1 (a3 t1) (b3 t2) (by rw [a2, b2, e])
  · obtain ⟨j, u, hj, t, hn'⟩ := h.sur v hv1 hv2
    by_cases e : j = k
    · subst e
      rw [hk] at hj; cases hj
      exact ⟨j, w', upd_self _ _ _, ht', hn.trans hn'⟩
    · exact ⟨j, u, by rw [upd_other e]; exact hj, t, hn'⟩
/-- A walk takes a number. -/
theorem Lk.ask {ws : Nat → Option WS} {a b : Nat} (h : Lk ws a b) {k : Nat} {w' : WS} (h1 : ∀ w, ws k = some w → tick w.pc = false) (ht' : tick w'.pc = true) (hh : hold w'.pc = false) (hn : w'.n = (a : Int)) : Lk (upd ws k (some w')) (a + 1) b := by
  have go : ∀ j v, upd ws k (some w') j = some v → tick v.pc = true → (j = k ∧ v = w') ∨ (j ≠ k ∧ ws j = some v ∧ v.n < (a : Int)) := by
    intro j v hj ht
    by_cases e : j = k
    · subst e; rw [upd_self] at hj; cases hj; exact .inl ⟨rfl, rfl⟩
    · rw [upd_other e] at hj; exact .inr ⟨e, hj, (h.rng j v hj ht).2⟩
  have hle := h.le
  refine ⟨by omega, fun j v hj t => ?_, fun j v hj t => ?_, fun j i v u hj hi t1 t2 e => ?_, fun v hv1 hv2 => ?_⟩
  · rcases go j v hj t with ⟨rfl, rfl⟩ | ⟨g1, g2, g3⟩
    · rw [hn]; omega
    · have := h.rng j v g2 t; omega
  · rcases go j v hj (hold_tick t) with ⟨rfl, rfl⟩ | ⟨g1, g2, g3⟩
    · rw [hh] at t; cases t
    · exact h.hld j v g2 t
  · rcases go j v hj t1 with ⟨rfl, rfl⟩ | ⟨g1, g2, g3⟩ <;> rcases go i u hi t2 with ⟨rfl, rfl⟩ | ⟨f1, f2, f3⟩
    · rfl
    · omega
    · omega
    · exact h.inj j i v u g2 f2 t1 t2 e
  · by_cases e : v = a
    · subst e; exact ⟨k, w', upd_self _ _ _, ht', hn⟩
    · obtain ⟨j, u, hj, t, hn'⟩ := h.sur v hv1 (by omega)
      have e : j ≠ k := by
        intro e; subst e; rw [h1 u hj] at t; cases t
      exact ⟨j, u, by rw [upd_other e]; exact hj, t, hn'⟩
/-- A walk leaves its turn. -/
theorem Lk.leave {ws : Nat → Option WS} {a b : Nat} (h : Lk ws a b) {k : Nat} {w : WS} (hk : ws k = some w) (hh : hold w.pc = true) (o : Option WS) (h2 : ∀ w, o = some w → tick w.pc = false) : Lk (upd ws k o) a (b + 1) := by
  have hb := h.hld k w hk hh
  have hr := h.rng k w hk (hold_tick hh)
  have ne : ∀ j v, upd ws k o j = some v → tick v.pc = true → j ≠ k ∧ ws j = some v ∧ v.n ≠ (b : Int) := by
    intro j v hj ht
    by_cases e : j = k
    · subst e; rw [upd_self] at hj; rw [h2 v hj] at ht; cases ht
    · rw [upd_other e] at hj
      exact ⟨e, hj, fun hv => e (h.inj j k v w hj hk ht (hold_tick hh) (hv.trans hb.symm))⟩
  refine ⟨by omega, fun j v hj ht => ?_, fun j v hj t => ?_, fun j i v u hj hi t1 t2 e => h.inj j i v u (ne j v hj t1).2.1 (ne i u hi t2).2.1 t1 t2 e, fun v hv1 hv2 => ?_⟩
  · obtain ⟨n1, n2, n3⟩ := ne j v hj ht
    have := h.rng j v n2 ht
    omega
  · obtain ⟨n1, n2, n3⟩ := ne j v hj (hold_tick t)
    exact absurd (h.hld j v n2 t) n3
  · obtain ⟨j, u, hj, t, hn⟩ := h.sur v (by omega) hv2
    have e : j ≠ k := by
      intro e; subst e
      rw [hk] at hj; cases hj
      omega
    exact ⟨j, u, by rw [upd_other e]; exact hj, t, hn⟩
end Go.Proofs.Ytofnjapgacgdlaa
