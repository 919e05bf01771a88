/- Package deque: how a play begins, that it ends, and what it ends with. No program in sight. -/
import Derived.Test.YtofnjapgacgdlaaDqInv
set_option linter.unusedVariables false
set_option linter.unusedSimpArgs false
namespace Go.Proofs.Ytofnjapgacgdlaa
open Go.RowKit
set_option maxHeartbeats 8000000
def playStep (B : Nat) (D : Int) (σ : PS) (k : Nat) (act : Option Bool) : PS :=
  match σ.ws k with
  | some w => acc B D σ k w
  | none => match act with
    | none => σ
    | some p => acc B D (begun σ k p) k (startW σ k p)
theorem inv_begun {B D : Nat} {σ : PS} {n0 : Nat} (h : InvE B D σ n0) {k : Nat} (hk4 : k < 4) (hk : σ.ws k = none) (push : Bool) : InvE B D (begun σ k push) n0 := by
  obtain ⟨S, live, settled, fl, a, b, cl, h⟩ := h
  have hT := h.tl
  have hfar := h.far
  have hbd := h.bd
  have hq : Lk (upd σ.ws k (some (startW σ k push))) a b := h.lk.quiet k _ (fun v hv => by rw [hk] at hv; cases hv) (fun v hv => by
    cases hv
    unfold startW
    split
    · split <;> rfl
    · rfl)
  have hpc : (startW σ k push).pc = 0 ∨ (startW σ k push).pc = 10 ∨ (startW σ k push).pc = 30 := by
    unfold startW
    split
    · split
      · exact .inl rfl
      · exact .inr (.inl rfl)
    · exact .inr (.inr rfl)
  have hft : furthest σ.tail = σ.tail := by rw [hT]; exact furthest_in _ (by omega)
  refine ⟨S, live, settled, fl, a, b, cl, ?_⟩
  exact { h with
    clw := updAll (fun j v hj _ hc => h.clw j v hj hc) (fun v hv hc => by cases hv; unfold claims at hc; omega)
    cle := fun e => updEx (h.cle e) (fun v hv hc => by rw [hk] at hv; cases hv)
    lk := hq
    tw := fun e => by
      by_cases h0 : k = 0
      · subst h0
        have e2 := (upd_self σ.ws 0 (some (startW σ 0 push))).symm.trans e
        cases e2
      · exact h.tw ((upd_other (Ne.symm h0)).symm.trans e)
    k4 := updAll (fun j v hj _ => h.k4 j v hj) (fun v _ => hk4)
    own := fun v hv => by
      by_cases h0 : k = 0
      · subst h0
        have e2 := (upd_self σ.ws 0 (some (startW σ 0 push))).symm.trans hv
        cases e2
        have htw := h.tw hk
        cases push with
        | true =>
          exact { t := hft, tw := by show σ.m.getD (B + 1) 0 = σ.tail - ((lowN 0 : Nat) : Int); rw [htw]; simp [lowN], pc := .inl (Nat.zero_le 2), pu := fun _ => ⟨rfl, rfl, rfl⟩,
                  p1 := fun e => absurd e (by show ¬ (0 = 1 ∨ 0 = 2); omega), p2 := fun e => absurd e (by show ¬ (0 = 2); omega), po := fun e => absurd e (by show ¬ (10 ≤ 0); omega), q1 := fun e => absurd e (by show ¬ (0 = 17 ∨ 0 = 20); omega), q2 := fun e => absurd e (by show ¬ (0 = 20); omega), q3 := fun e => absurd e (by show ¬ (0 = 18 ∨ 0 = 19); omega) }
        | false =>
          exact { t := hft, tw := by show σ.m.getD (B + 1) 0 = σ.tail - ((lowN 10 : Nat) : Int); rw [htw]; simp [lowN], pc := .inr (show 10 ≤ 10 ∧ 10 ≤ 20 by omega), pu := fun e => absurd e (by show ¬ (10 ≤ 2); omega),
                  p1 := fun e => absurd e (by show ¬ (10 = 1 ∨ 10 = 2); omega), p2 := fun e => absurd e (by show ¬ (10 = 2); omega), po := fun e => ⟨rfl, rfl⟩, q1 := fun e => absurd e (by show ¬ (10 = 17 ∨ 10 = 20); omega), q2 := fun e => absurd e (by show ¬ (10 = 20); omega), q3 := fun e => absurd e (by show ¬ (10 = 18 ∨ 10 = 19); omega) }
      · have hv := (upd_other (Ne.symm h0)).symm.trans hv
        have o := h.own v hv
        exact { o with
          pu := fun e => by
            have := o.pu e
            refine ⟨?_, this.2⟩
            show (if k = 0 then !push else σ.pops) = false
            rw [if_neg h0]; exact this.1
          po := fun e => by
            have := o.po e
            refine ⟨?_, this.2⟩
            show (if k = 0 then !push else σ.pops) = true
            rw [if_neg h0]; exact this.1
          q2 := fun e => updAll (fun j u hj _ hu => o.q2 e j u hj hu) (fun u hu hc => by cases hu; omega) }
    thi := updAll (fun j v hj _ hj0 => h.thi j v hj hj0) (fun v hv h0 => by
      cases hv
      unfold startW
      rw [if_neg h0]
      exact { pc := show 30 ≤ 30 ∧ 30 ≤ 37 by omega, h := fun e => absurd e (by show ¬ (30 = 33 ∨ 30 = 34 ∨ 30 = 35 ∨ 30 = 37); omega), l := fun e => absurd e (by show ¬ (30 = 37); omega), g := fun _ => rfl, f := fun e => absurd e (by show ¬ (30 = 36); omega) })
    fl1 := fun e => updEx (h.fl1 e) (fun v hv hc => by rw [hk] at hv; cases hv) }
theorem inv_play {B D : Nat} {σ : PS} {n0 : Nat} (h : InvE B D σ n0) {k : Nat} (hk4 : k < 4) (act : Option Bool) (hn : n0 + 1 ≤ 10000) : InvE B D (playStep B D σ k act) (n0 + 1) := by
  unfold playStep
  split
  · rename_i w hw; exact inv_acc h hw hn
  · rename_i hw
    split
    · obtain ⟨S, live, settled, fl, a, b, cl, h⟩ := h
      exact ⟨S, live, settled, fl, a, b, cl, h.mono (by omega) hn⟩
    · exact inv_acc (inv_begun h hk4 hw _) (upd_self ..) hn
def PS0 (m : List Int) : PS := ⟨m, fun _ => none, false, 0, 1, [], [], [], [], true⟩
theorem inv_zero (B D M : Nat) (h : B + 4 + D ≤ M) (hD : 2 ≤ D) : InvE B D (PS0 (List.replicate M 0)) 0 := by
  have z : ∀ j, (List.replicate M (0 : Int)).getD j 0 = 0 := fun j => by
    rw [List.getD_eq_getElem?_getD, List.getElem?_replicate]; split <;> rfl
  refine ⟨0, [], [], [], 0, 0, 0, ?_⟩
  exact { len := by show _ ≤ (List.replicate M (0 : Int)).length; simpa using h, d2 := hD, tl := rfl, cap := by simp, far := by show 0 + 0 + 1 ≤ 1; omega, bd := ⟨by show 1 ≤ 0 + 1; omega, by omega, by omega⟩,
          slots := (fun j hj => by simp at hj), hd := z _, cl1 := by omega, clw := (fun k w hw => by cases hw), cle := (fun e => by omega), la := z _, lb := z _,
          lk := ⟨by omega, (fun k w hw => by cases hw), (fun k w hw => by cases hw), (fun k j w v hw => by cases hw), fun v h1 h2 => by omega⟩, tw := fun _ => z _, k4 := (fun k w hw => by cases hw), own := (fun w hw => by cases hw), thi := (fun k w hw => by cases hw),
          fl1 := fun e => absurd rfl e, st := rfl, sorted := by simp, rng := (fun y hy => by simp at hy), pu := ⟨rfl, fun y => by show y ∈ ([] : List Int) ↔ 1 ≤ y ∧ y < ((1 : Nat) : Int); simp <;> omega⟩, po := (fun y hy => by cases hy), por := (fun y hy => by cases hy), cnt := rfl, stk := ⟨[], rfl, by simp⟩, rt := rfl }
/-- How many accesses are left, waiting left out. -/
def rankP (p : Nat) : Nat :=
  match p with
  | 0 => 3 | 1 => 2 | 2 => 1 | 10 => 9 | 11 => 8 | 12 => 7 | 13 => 6 | 14 => 5 | 15 => 4 | 16 => 3 | 17 => 2 | 18 => 2 | 19 => 1 | 20 => 1
  | 30 => 7 | 31 => 6 | 32 => 5 | 33 => 4 | 34 => 3 | 35 => 2 | 37 => 2 | 36 => 1 | _ => 0
theorem rank_le (p : Nat) : rankP p ≤ 9 := by unfold rankP; split <;> omega
def rankO (o : Option WS) : Nat := match o with | none => 0 | some w => rankP w.pc
def rankS (ws : Nat → Option WS) : Nat := rankO (ws 0) + rankO (ws 1) + rankO (ws 2) + rankO (ws 3)
theorem rankO_le (o : Option WS) : rankO o ≤ 9 := by cases o with | none => exact Nat.zero_le _ | some w => exact rank_le _
theorem rankS_upd {ws : Nat → Option WS} {k : Nat} (hk : k < 4) (o : Option WS) : rankS (upd ws k o) + rankO (ws k) = rankS ws + rankO o := by
  unfold rankS upd
  have : k = 0 ∨ k = 1 ∨ k = 2 ∨ k = 3 := by omega
  rcases this with rfl | rfl | rfl | rfl <;> simp <;> omega
/-- A walk that waits. -/
def stuck (B : Nat) (σ : PS) (k : Nat) : Prop := σ.ws k = none ∨ ∃ w, σ.ws k = some w ∧ tick w.pc = true ∧ ¬ σ.m.getD (B + 3) 0 = w.n
theorem rank_pos {p : Nat} (h : pcOk p) : 0 < rankP p := by
  have : p = 0 ∨ p = 1 ∨ p = 2 ∨ p = 10 ∨ p = 11 ∨ p = 12 ∨ p = 13 ∨ p = 14 ∨ p = 15 ∨ p = 16 ∨ p = 17 ∨ p = 18 ∨ p = 19 ∨ p = 20 ∨ p = 30 ∨ p = 31 ∨ p = 32 ∨ p = 33 ∨ p = 34 ∨ p = 35 ∨ p = 36 ∨ p = 37 := by unfold pcOk at h; omega
  rcases this with rfl | rfl | rfl | rfl | rfl | rfl | rfl | rfl | rfl | rfl | rfl | rfl | rfl | rfl | rfl | rfl | rfl | rfl | rfl | rfl | rfl | rfl <;> decide
theorem step_rank (B : Nat) (D : Int) (w : WS) (m : List Int) (h : pcOk w.pc) : rankP (stepW B D w m).1.pc < rankP w.pc ∨ (tick w.pc = true ∧ ¬ m.getD (B + 3) 0 = w.n ∧ stepW B D w m = (w, m)) := by
  obtain ⟨p, t, x, hh, n, got, full⟩ := w
  dsimp only at h
  have : p = 0 ∨ p = 1 ∨ p = 2 ∨ p = 10 ∨ p = 11 ∨ p = 12 ∨ p = 13 ∨ p = 14 ∨ p = 15 ∨ p = 16 ∨ p = 17 ∨ p = 18 ∨ p = 19 ∨ p = 20 ∨ p = 30 ∨ p = 31 ∨ p = 32 ∨ p = 33 ∨ p = 34 ∨ p = 35 ∨ p = 36 ∨ p = 37 := by unfold pcOk at h; omega
  rcases this with rfl | rfl | rfl | rfl | rfl | rfl | rfl | rfl | rfl | rfl | rfl | rfl | rfl | rfl | rfl | rfl | rfl | rfl | rfl | rfl | rfl | rfl <;> simp only [stepW]
  case inr.inr.inr.inr.inr.inr.inr.inl =>
    by_cases c : m.getD (B + 3) 0 = n
    · rw [if_pos c]; exact .inl (by decide : rankP 15 < rankP 14)
    · rw [if_neg c]; exact .inr ⟨rfl, c, rfl⟩
  case inr.inr.inr.inr.inr.inr.inr.inr.inr.inr.inr.inr.inr.inr.inr.inl =>
    by_cases c : m.getD (B + 3) 0 = n
    · rw [if_pos c]; exact .inl (by decide : rankP 32 < rankP 31)
    · rw [if_neg c]; exact .inr ⟨rfl, c, rfl⟩
  all_goals (left; (try split)) <;> simp [rankP]
theorem inv_pcOk {B D : Nat} {σ : PS} {n0 : Nat} (h : InvE B D σ n0) {k : Nat} {w : WS} (hk : σ.ws k = some w) : pcOk w.pc ∧ k < 4 := by
  obtain ⟨S, live, settled, fl, a, b, cl, h⟩ := h
  refine ⟨?_, h.k4 k w hk⟩
  by_cases h0 : k = 0
  · subst h0
    rcases (h.own _ hk).pc with q | q
    · exact .inl q
    · exact .inr (.inl q)
  · exact .inr (.inr (h.thi _ _ hk h0).pc)
theorem closed_ws (σ : PS) (k : Nat) (w : WS) : (closed σ k w).ws = σ.ws := by
  unfold closed
  repeat' split
  all_goals rfl
theorem play_rank {B D : Nat} {σ : PS} {n0 : Nat} (h : InvE B D σ n0) (k : Nat) : rankS (playStep B D σ k none).ws < rankS σ.ws ∨ (stuck B σ k ∧ playStep B D σ k none = σ) := by
  unfold playStep
  cases hw : σ.ws k with
  | none => exact .inr ⟨.inl hw, rfl⟩
  | some w =>
    obtain ⟨hp, hk4⟩ := inv_pcOk h hw
    have hpos := rank_pos hp
    dsimp only
    rcases step_rank B D w σ.m hp with hr | ⟨ht, hne, hs⟩
    · left
      unfold acc
      split
      · rw [closed_ws]
        have := rankS_upd (ws := σ.ws) hk4 none
        rw [hw] at this
        simp only [rankO] at this
        show rankS (upd σ.ws k none) < _
        omega
      · have := rankS_upd (ws := σ.ws) hk4 (some (stepW B D w σ.m).1)
        rw [hw] at this
        simp only [rankO] at this
        show rankS (upd σ.ws k (some (stepW B D w σ.m).1)) < _
        omega
    · right
      refine ⟨.inr ⟨w, hw, ht, hne⟩, ?_⟩
      rw [acc_go hs (by unfold pcOk at hp; simp; omega)]
      have : upd σ.ws k (some w) = σ.ws := by
        funext j
        by_cases e : j = k
        · subst e; rw [upd_self, hw]
        · rw [upd_other e]
      rw [this]
theorem all_stuck {B D : Nat} {σ : PS} {n0 : Nat} (h : InvE B D σ n0) (hs : ∀ k, k < 4 → stuck B σ k) : rankS σ.ws = 0 := by
  obtain ⟨S, live, settled, fl, a, b, cl, h⟩ := h
  have none_ : ∀ k, k < 4 → σ.ws k = none := by
    intro k hk
    rcases hs k hk with hh | ⟨w, hw, ht, hne⟩
    · exact hh
    · exfalso
      have hr := h.lk.rng k w hw ht
      obtain ⟨j, v, hj, hjt, hjn⟩ := h.lk.sur b (Nat.le_refl _) (by omega)
      rcases hs j (h.k4 j v hj) with hh | ⟨u, hu, hut, hune⟩
      · rw [hj] at hh; cases hh
      · rw [hj] at hu; cases hu
        exact hune (h.lb.trans hjn.symm)
  unfold rankS
  rw [none_ 0 (by omega), none_ 1 (by omega), none_ 2 (by omega), none_ 3 (by omega)]
  rfl
/-- Where the steps without new walks are. -/
def Winds (B : Nat) (σ : PS) (i left : Nat) : Prop := rankS σ.ws = 0 ∨ ∃ j, j ≤ 3 ∧ (∀ q, q < j → q < i → stuck B σ ((i - 1 - q) % 4)) ∧ j ≤ i ∧ 4 * rankS σ.ws ≤ j + left
theorem winds_start {B : Nat} {σ : PS} {i : Nat} : Winds B σ i 400 := by
  right
  refine ⟨0, by omega, fun q hq => by omega, by omega, ?_⟩
  have h0 := rankO_le (σ.ws 0)
  have h1 := rankO_le (σ.ws 1)
  have h2 := rankO_le (σ.ws 2)
  have h3 := rankO_le (σ.ws 3)
  unfold rankS
  omega
theorem winds_step {B D : Nat} {σ : PS} {n0 i left : Nat} (h : InvE B D σ n0) (hw : Winds B σ i (left + 1)) : Winds B (playStep B D σ (i % 4) none) (i + 1) left := by
  rcases play_rank h (i % 4) with hr | ⟨hs, he⟩
  · rcases hw with h0 | ⟨j, hj, _, hji, hb⟩
    · omega
    · exact .inr ⟨0, by omega, fun q hq => by omega, by omega, by omega⟩
  · rw [he]
    rcases hw with h0 | ⟨j, hj, hq, hji, hb⟩
    · exact .inl h0
    · by_cases h3 : j = 3
      · subst h3
        left
        refine all_stuck h fun k hk => ?_
        have a0 := hq 0 (by omega) (by omega)
        have a1 := hq 1 (by omega) (by omega)
        have a2 := hq 2 (by omega) (by omega)
        have : k = i % 4 ∨ k = (i - 1 - 0) % 4 ∨ k = (i - 1 - 1) % 4 ∨ k = (i - 1 - 2) % 4 := by omega
        rcases this with rfl | rfl | rfl | rfl
        · exact hs
        · exact a0
        · exact a1
        · exact a2
      · right
        refine ⟨j + 1, by omega, fun q hqj hqi => ?_, by omega, by omega⟩
        by_cases hq0 : q = 0
        · subst hq0; rw [show i + 1 - 1 - 0 = i by omega]; exact hs
        · have := hq (q - 1) (by omega) (by omega)
          rwa [show i - 1 - (q - 1) = i + 1 - 1 - q by omega] at this
theorem winds_end {B : Nat} {σ : PS} {i : Nat} (h : Winds B σ i 0) : rankS σ.ws = 0 := by
  rcases h with h | ⟨j, hj, _, _, hb⟩
  · exact h
  · omega
/-- What a play ends with. -/
structure EndOk (σ : PS) : Prop where
  none_ : ∀ k, σ.ws k = none
  rt : σ.right = true
  sorted : σ.stolen.Pairwise (· < ·)
  notpop : ∀ y ∈ σ.stolen, y ∉ σ.popped
  inpush : ∀ y ∈ σ.stolen, y ∈ σ.pushed
  cnt : σ.popped.length + σ.stolen.length + (σ.stack.filter fun y => decide (y ∉ σ.stolen)).length = σ.pushed.length
theorem play_end {B D : Nat} {σ : PS} {n0 : Nat} (h : InvE B D σ n0) (hr : rankS σ.ws = 0) : EndOk σ := by
  have h' := h
  obtain ⟨S, live, settled, fl, a, b, cl, h⟩ := h
  have hn : ∀ k, σ.ws k = none := by
    intro k
    cases hw : σ.ws k with
    | none => rfl
    | some w =>
      exfalso
      obtain ⟨hp, hk4⟩ := inv_pcOk h' hw
      have := rank_pos hp
      unfold rankS at hr
      have : k = 0 ∨ k = 1 ∨ k = 2 ∨ k = 3 := by omega
      rcases this with rfl | rfl | rfl | rfl <;> (rw [hw] at hr; simp only [rankO] at hr; omega)
  have hfl : fl = [] := by
    apply Classical.byContradiction
    intro e
    obtain ⟨k, w, hw, _⟩ := h.fl1 e
    rw [hn k] at hw; cases hw
  have hst := h.st
  rw [hfl, List.append_nil] at hst
  subst hst
  have hso := h.sorted
  rw [List.pairwise_append] at hso
  obtain ⟨so1, so2, so3⟩ := hso
  refine ⟨hn, h.rt, so1, fun y hy hc => h.po y hc (List.mem_append_left _ hy), fun y hy => (h.pu.2 y).2 (h.rng y (List.mem_append_left _ hy)), ?_⟩
  obtain ⟨pre, p1, p2⟩ := h.stk
  have hp1 := h.pu.1
  have hc := h.cnt
  have hf : (σ.stack.filter fun y => decide (y ∉ σ.stolen)) = live := by
    rw [p1, List.filter_append]
    rw [show pre.filter (fun y => decide (y ∉ σ.stolen)) = [] by
      rw [List.filter_eq_nil_iff]
      intro y hy
      simp [p2 y hy]]
    rw [show live.filter (fun y => decide (y ∉ σ.stolen)) = live by
      rw [List.filter_eq_self]
      intro y hy
      simp only [decide_eq_true_eq]
      intro hc
      have := so3 y hc y hy
      omega]
    rfl
  rw [hf]
  omega
end Go.Proofs.Ytofnjapgacgdlaa
