/- Package deque: what an owner and thieves keep to, step by step. No program in sight. -/
import Derived.Test.YtofnjapgacgdlaaDqPlay
set_option linter.unusedVariables false
set_option linter.unusedSimpArgs false
namespace Go.Proofs.Ytofnjapgacgdlaa
open Go.RowKit
set_option maxHeartbeats 8000000
def InvE (B D : Nat) (σ : PS) (n0 : Nat) : Prop := ∃ S live settled fl a b cl, Inv B D σ S live settled fl a b cl n0
theorem Inv.gone {B D : Nat} {σ : PS} {S : Nat} {live settled fl : List Int} {a b cl n0 : Nat} (h : Inv B D σ S live settled fl a b cl n0) {w : WS} (hk : σ.ws 0 = some w) {m' : List Int} {b' : Nat} {st : List Int}
    (hlen : m'.length = σ.m.length) (hsl : ∀ j, 4 ≤ j → m'.getD (B + j) 0 = σ.m.getD (B + j) 0) (hhd : m'.getD B 0 = σ.m.getD B 0) (h1 : m'.getD (B + 1) 0 = σ.tail)
    (ha : m'.getD (B + 2) 0 = (a : Int)) (hb : m'.getD (B + 3) 0 = (b' : Int)) (hl : Lk (upd σ.ws 0 none) a b') (hn : n0 + 1 ≤ 10000) (hst : ∃ pre, st = pre ++ live ∧ ∀ y ∈ pre, y ∈ settled) :
    Inv B D { σ with m := m', ws := upd σ.ws 0 none, stack := st } S live settled fl a b' cl (n0 + 1) := by
  have hpc := (h.own w hk).pc
  exact { h with
    len := by rw [hlen]; exact h.len
    bd := ⟨by have := h.bd; show σ.next ≤ _; omega, by have := h.bd; omega, hn⟩
    slots := fun j hj => by
      have := hsl (4 + (S + j) % D) (by omega)
      rw [← Nat.add_assoc] at this
      exact this.trans (h.slots j hj)
    hd := hhd.trans h.hd
    clw := updAll (fun j v hj _ hc => h.clw j v hj hc) (fun v hv => by cases hv)
    cle := fun e => updEx (h.cle e) (fun v hv hc => by rw [hk] at hv; cases hv; unfold claims at hc; omega)
    la := ha
    lb := hb
    lk := hl
    tw := fun _ => h1
    k4 := updAll (fun j v hj _ => h.k4 j v hj) (fun v hv => by cases hv)
    own := fun v hv => by
      have e2 := (upd_self σ.ws 0 none).symm.trans hv
      cases e2
    thi := updAll (fun j v hj _ h0 => h.thi j v hj h0) (fun v hv => by cases hv)
    fl1 := fun e => updEx (h.fl1 e) (fun v hv hc => by rw [hk] at hv; cases hv; omega)
    stk := hst }
theorem mod_other {D S j n : Nat} (hD : 0 < D) (hj : j < n) (hn : n + 1 ≤ D) : (S + j) % D ≠ (S + n) % D := mod_ne hD (by omega) (by omega)
theorem getD_last {l : List Int} {n : Nat} (h : l.length = n + 1) : l = l.take n ++ [l.getD n 0] := by
  have hn : n < l.length := by omega
  conv => lhs; rw [← List.take_length (l := l), h, List.take_succ_eq_append_getElem hn]
  rw [List.getD_eq_getElem?_getD, List.getElem?_eq_getElem hn]; rfl
theorem inv_o0 {B D : Nat} {σ : PS} {S : Nat} {live settled fl : List Int} {a b cl n0 : Nat} (h : Inv B D σ S live settled fl a b cl n0) {t x hh n : Int} {got full : Bool} (hk : σ.ws 0 = some ⟨0, t, x, hh, n, got, full⟩) (hn : n0 + 1 ≤ 10000) : InvE B D (acc B D σ 0 ⟨0, t, x, hh, n, got, full⟩) (n0 + 1) := by
  have o := h.own _ hk
  obtain rfl : t = σ.tail := o.t
  have hT := h.tl
  have hfar := h.far
  have hbd := h.bd
  have hcl := h.cl1
  have hhd := h.hd
  have hlen := h.len
  have hd2 := h.d2
  have otw := o.tw
  dsimp only at otw
  have e0 : wrap64 (σ.tail - σ.m.getD B 0) = σ.tail - σ.m.getD B 0 := w64 (by omega)
  obtain ⟨u1, u2, u3⟩ := o.pu (by dsimp only; omega)
  by_cases c : (D : Int) - 1 ≤ wrap64 (σ.tail - σ.m.getD B 0)
  · rw [acc_end (st0y _ _ _ _ _ _ _ _ _ c) rfl]
    have e : closed { σ with m := σ.m, ws := upd σ.ws 0 none } 0 ⟨99, σ.tail, x, hh, n, got, true⟩ = { σ with m := σ.m, ws := upd σ.ws 0 none, stack := σ.stack } := by
      unfold closed
      simp [u1]
    rw [e]
    exact ⟨S, live, settled, fl, a, b, cl, h.gone hk rfl (fun _ _ => rfl) rfl (otw.trans (by simp [lowN])) h.la h.lb (h.lk.quiet 0 _ (fun v hv => by rw [hk] at hv; cases hv; rfl) (fun v hv => by cases hv)) hn h.stk⟩
  · rw [e0] at c
    rw [acc_go (st0n _ _ _ _ _ _ _ _ _ (by rw [e0]; exact c)) rfl]
    exact ⟨S, live, settled, fl, a, b, cl, h.owner hk rfl (fun _ _ => rfl) rfl h.la h.lb (h.lk.quiet 0 _ (fun v hv => by rw [hk] at hv; cases hv; rfl) (fun v hv => by cases hv; rfl)) (by omega) hn { t := rfl, tw := otw, pc := Or.inl (by dsimp only; omega), pu := fun _ => o.pu (by dsimp only; omega), p1 := fun _ => by omega, p2 := fun e => absurd e (by dsimp only; omega), po := fun e => absurd e (by dsimp only; omega), q1 := fun e => absurd e (by dsimp only; omega), q2 := fun e _ _ _ _ => absurd e (by dsimp only; omega), q3 := fun e => absurd e (by dsimp only; omega) }⟩
theorem inv_o1 {B D : Nat} {σ : PS} {S : Nat} {live settled fl : List Int} {a b cl n0 : Nat} (h : Inv B D σ S live settled fl a b cl n0) {t x hh n : Int} {got full : Bool} (hk : σ.ws 0 = some ⟨1, t, x, hh, n, got, full⟩) (hn : n0 + 1 ≤ 10000) : InvE B D (acc B D σ 0 ⟨1, t, x, hh, n, got, full⟩) (n0 + 1) := by
  have o := h.own _ hk
  obtain rfl : t = σ.tail := o.t
  have hT := h.tl
  have hfar := h.far
  have hbd := h.bd
  have hcl := h.cl1
  have hhd := h.hd
  have hlen := h.len
  have hd2 := h.d2
  have otw := o.tw
  dsimp only at otw
  obtain ⟨u1, u2, u3⟩ := o.pu (by dsimp only; omega)
  have u4 := o.p1 (Or.inl rfl)
  dsimp only at u2
  have hs : slotN B D σ.tail = B + 4 + (S + live.length) % D := by rw [hT]; exact slotN_nat B D _
  have hmd : (S + live.length) % D < D := Nat.mod_lt _ (by omega)
  rw [acc_go (st1 ..) rfl, hs]
  have q : ∀ i, i < 4 → (σ.m.set (B + 4 + (S + live.length) % D) x).getD (B + i) 0 = σ.m.getD (B + i) 0 := fun i hi => by rw [getS (by omega), if_neg (by omega)]
  exact ⟨S, live, settled, fl, a, b, cl, h.owner hk (by simp) (fun j hj => by
    have := mod_other (S := S) (D := D) (j := j) (n := live.length) (by omega) hj u4
    rw [getS (by omega), if_neg (by omega)]) (q 0 (by omega)) ((q 2 (by omega)).trans h.la) ((q 3 (by omega)).trans h.lb) (h.lk.quiet 0 _ (fun v hv => by rw [hk] at hv; cases hv; rfl) (fun v hv => by cases hv; rfl)) (by omega) hn { t := rfl, tw := (q 1 (by omega)).trans otw, pc := Or.inl (by dsimp only; omega), pu := fun _ => o.pu (by dsimp only; omega), p1 := fun _ => u4, p2 := fun _ => by rw [getS (by omega), if_pos rfl]; exact u2, po := fun e => absurd e (by dsimp only; omega), q1 := fun e => absurd e (by dsimp only; omega), q2 := fun e _ _ _ _ => absurd e (by dsimp only; omega), q3 := fun e => absurd e (by dsimp only; omega) }⟩
theorem inv_o2 {B D : Nat} {σ : PS} {S : Nat} {live settled fl : List Int} {a b cl n0 : Nat} (h : Inv B D σ S live settled fl a b cl n0) {t x hh n : Int} {got full : Bool} (hk : σ.ws 0 = some ⟨2, t, x, hh, n, got, full⟩) (hn : n0 + 1 ≤ 10000) : InvE B D (acc B D σ 0 ⟨2, t, x, hh, n, got, full⟩) (n0 + 1) := by
  have o := h.own _ hk
  obtain rfl : t = σ.tail := o.t
  have hT := h.tl
  have hfar := h.far
  have hbd := h.bd
  have hcl := h.cl1
  have hhd := h.hd
  have hlen := h.len
  have hd2 := h.d2
  have otw := o.tw
  dsimp only at otw
  obtain ⟨u1, u2, u3⟩ := o.pu (by dsimp only; omega)
  have u4 := o.p1 (Or.inr rfl)
  have u5 := o.p2 rfl
  dsimp only at u2 u3
  subst u3
  have e1 : wrap64 (σ.tail + 1) = σ.tail + 1 := w64 (by omega)
  have s4 : ∀ j, 4 ≤ j → (σ.m.set (B + 1) (σ.tail + 1)).getD (B + j) 0 = σ.m.getD (B + j) 0 := fun j hj => by rw [getS (by omega), if_neg (by omega)]
  have s0 : (σ.m.set (B + 1) (σ.tail + 1)).getD B 0 = σ.m.getD B 0 := by rw [getS (by omega), if_neg (by omega)]
  have s1 : (σ.m.set (B + 1) (σ.tail + 1)).getD (B + 1) 0 = (σ.tail + 1) := by rw [getS (by omega), if_pos rfl]
  have s2 : (σ.m.set (B + 1) (σ.tail + 1)).getD (B + 2) 0 = σ.m.getD (B + 2) 0 := by rw [getS (by omega), if_neg (by omega)]
  have s3 : (σ.m.set (B + 1) (σ.tail + 1)).getD (B + 3) 0 = σ.m.getD (B + 3) 0 := by rw [getS (by omega), if_neg (by omega)]
  have ssl : ∀ j, j < live.length → (σ.m.set (B + 1) (σ.tail + 1)).getD (B + 4 + (S + j) % D) 0 = σ.m.getD (B + 4 + (S + j) % D) 0 := fun j _ => by have := s4 (4 + (S + j) % D) (by omega); rwa [← Nat.add_assoc] at this
  have sln : (σ.m.set (B + 1) (σ.tail + 1)).length = σ.m.length := by simp
  rw [acc_end (st2 ..) rfl, e1]
  have e : closed { σ with m := σ.m.set (B + 1) (σ.tail + 1), ws := upd σ.ws 0 none } 0 ⟨99, σ.tail + 1, x, hh, n, got, false⟩ = { σ with m := σ.m.set (B + 1) (σ.tail + 1), ws := upd σ.ws 0 none, tail := σ.tail + 1, next := σ.next + 1, pushed := σ.pushed ++ [(σ.next : Int)], stack := σ.stack ++ [(σ.next : Int)] } := by
    unfold closed
    simp [u1]
  rw [e]
  have hge : ∀ y ∈ settled ++ live, y < (σ.next : Int) := fun y hy => (h.rng y hy).2
  refine ⟨S, live ++ [(σ.next : Int)], settled, fl, a, b, cl, ?_⟩
  exact {
    len := by rw [sln]; exact h.len
    d2 := h.d2
    tl := by rw [hT]; simp; omega
    cap := by simp; omega
    far := by simp; omega
    bd := ⟨by have := h.bd; show σ.next + 1 ≤ _; omega, by omega, hn⟩
    slots := fun j hj => by
      have hsj : (σ.m.set (B + 1) (σ.tail + 1)).getD (B + 4 + (S + j) % D) 0 = σ.m.getD (B + 4 + (S + j) % D) 0 := by have := s4 (4 + (S + j) % D) (by omega); rwa [← Nat.add_assoc] at this
      refine hsj.trans ?_
      by_cases hj2 : j < live.length
      · rw [h.slots j hj2, getD_app hj2]
      · have : j = live.length := by simp at hj; omega
        subst this
        rw [u5]; simp
    hd := s0.trans h.hd
    cl1 := h.cl1
    clw := updAll (fun j v hj _ hc => h.clw j v hj hc) (fun v hv => by cases hv)
    cle := fun e => updEx (h.cle e) (fun v hv hc => by rw [hk] at hv; cases hv; simp [claims] at hc)
    la := s2.trans h.la
    lb := s3.trans h.lb
    lk := (h.lk.quiet 0 _ (fun v hv => by rw [hk] at hv; cases hv; rfl) (fun v hv => by cases hv))
    tw := fun _ => s1
    k4 := updAll (fun j v hj _ => h.k4 j v hj) (fun v hv => by cases hv)
    own := fun v hv => by
      have e2 := (upd_self σ.ws 0 none).symm.trans hv
      cases e2
    thi := updAll (fun j v hj _ h0 => by
      have q := h.thi j v hj h0
      exact { q with l := fun e => by have := q.l e; simp }) (fun v hv => by cases hv)
    fl1 := fun e => updEx (h.fl1 e) (fun v hv hc => by rw [hk] at hv; cases hv; dsimp only at hc; omega)
    st := h.st
    sorted := by
      rw [← List.append_assoc, List.pairwise_append]
      exact ⟨h.sorted, by simp, fun y hy z hz => by simp at hz; subst hz; exact hge y hy⟩
    rng := fun y hy => by
      rw [← List.append_assoc, List.mem_append] at hy
      rcases hy with hy | hy
      · have := h.rng y hy
        exact ⟨this.1, by show y < ((σ.next + 1 : Nat) : Int); omega⟩
      · simp at hy; subst hy; exact ⟨by omega, by show (σ.next : Int) < ((σ.next + 1 : Nat) : Int); omega⟩
    pu := by
      obtain ⟨p1, p2⟩ := h.pu
      refine ⟨by simp; omega, fun y => ?_⟩
      dsimp only
      rw [List.mem_append, p2]
      simp
      omega
    po := fun y hy hc => by
      rw [← List.append_assoc, List.mem_append] at hc
      rcases hc with hc | hc
      · exact h.po y hy hc
      · simp at hc; have := (h.por y hy).2; omega
    por := fun y hy => by
      have := h.por y hy
      exact ⟨this.1, by show y < ((σ.next + 1 : Nat) : Int); omega⟩
    cnt := by have := h.cnt; simp; omega
    stk := by
      obtain ⟨pre, p1, p2⟩ := h.stk
      exact ⟨pre, by dsimp only; rw [p1, List.append_assoc], p2⟩
    rt := h.rt }
theorem inv_o10 {B D : Nat} {σ : PS} {S : Nat} {live settled fl : List Int} {a b cl n0 : Nat} (h : Inv B D σ S live settled fl a b cl n0) {t x hh n : Int} {got full : Bool} (hk : σ.ws 0 = some ⟨10, t, x, hh, n, got, full⟩) (hn : n0 + 1 ≤ 10000) : InvE B D (acc B D σ 0 ⟨10, t, x, hh, n, got, full⟩) (n0 + 1) := by
  have o := h.own _ hk
  obtain rfl : t = σ.tail := o.t
  have hT := h.tl
  have hfar := h.far
  have hbd := h.bd
  have hcl := h.cl1
  have hhd := h.hd
  have hlen := h.len
  have hd2 := h.d2
  have otw := o.tw
  dsimp only at otw
  have e1 : wrap64 (σ.tail - 1) = σ.tail - 1 := w64 (by omega)
  have s4 : ∀ j, 4 ≤ j → (σ.m.set (B + 1) (σ.tail - 1)).getD (B + j) 0 = σ.m.getD (B + j) 0 := fun j hj => by rw [getS (by omega), if_neg (by omega)]
  have s0 : (σ.m.set (B + 1) (σ.tail - 1)).getD B 0 = σ.m.getD B 0 := by rw [getS (by omega), if_neg (by omega)]
  have s1 : (σ.m.set (B + 1) (σ.tail - 1)).getD (B + 1) 0 = (σ.tail - 1) := by rw [getS (by omega), if_pos rfl]
  have s2 : (σ.m.set (B + 1) (σ.tail - 1)).getD (B + 2) 0 = σ.m.getD (B + 2) 0 := by rw [getS (by omega), if_neg (by omega)]
  have s3 : (σ.m.set (B + 1) (σ.tail - 1)).getD (B + 3) 0 = σ.m.getD (B + 3) 0 := by rw [getS (by omega), if_neg (by omega)]
  have ssl : ∀ j, j < live.length → (σ.m.set (B + 1) (σ.tail - 1)).getD (B + 4 + (S + j) % D) 0 = σ.m.getD (B + 4 + (S + j) % D) 0 := fun j _ => by have := s4 (4 + (S + j) % D) (by omega); rwa [← Nat.add_assoc] at this
  have sln : (σ.m.set (B + 1) (σ.tail - 1)).length = σ.m.length := by simp
  rw [acc_go (st10 ..) rfl, e1]
  exact ⟨S, live, settled, fl, a, b, cl, h.owner hk sln ssl s0 (s2.trans h.la) (s3.trans h.lb) (h.lk.quiet 0 _ (fun v hv => by rw [hk] at hv; cases hv; rfl) (fun v hv => by cases hv; rfl)) (by omega) hn { t := rfl, tw := by rw [s1]; simp [lowN], pc := Or.inr (by dsimp only; omega), pu := fun e => absurd e (by dsimp only; omega), p1 := fun e => absurd e (by dsimp only; omega), p2 := fun e => absurd e (by dsimp only; omega), po := fun _ => o.po (by dsimp only; omega), q1 := fun e => absurd e (by dsimp only; omega), q2 := fun e _ _ _ _ => absurd e (by dsimp only; omega), q3 := fun e => absurd e (by dsimp only; omega) }⟩
theorem inv_o12 {B D : Nat} {σ : PS} {S : Nat} {live settled fl : List Int} {a b cl n0 : Nat} (h : Inv B D σ S live settled fl a b cl n0) {t x hh n : Int} {got full : Bool} (hk : σ.ws 0 = some ⟨12, t, x, hh, n, got, full⟩) (hn : n0 + 1 ≤ 10000) : InvE B D (acc B D σ 0 ⟨12, t, x, hh, n, got, full⟩) (n0 + 1) := by
  have o := h.own _ hk
  obtain rfl : t = σ.tail := o.t
  have hT := h.tl
  have hfar := h.far
  have hbd := h.bd
  have hcl := h.cl1
  have hhd := h.hd
  have hlen := h.len
  have hd2 := h.d2
  have otw := o.tw
  dsimp only at otw
  have e1 : wrap64 (σ.tail - 1) = σ.tail - 1 := w64 (by omega)
  have s4 : ∀ j, 4 ≤ j → (σ.m.set (B + 1) σ.tail).getD (B + j) 0 = σ.m.getD (B + j) 0 := fun j hj => by rw [getS (by omega), if_neg (by omega)]
  have s0 : (σ.m.set (B + 1) σ.tail).getD B 0 = σ.m.getD B 0 := by rw [getS (by omega), if_neg (by omega)]
  have s1 : (σ.m.set (B + 1) σ.tail).getD (B + 1) 0 = σ.tail := by rw [getS (by omega), if_pos rfl]
  have s2 : (σ.m.set (B + 1) σ.tail).getD (B + 2) 0 = σ.m.getD (B + 2) 0 := by rw [getS (by omega), if_neg (by omega)]
  have s3 : (σ.m.set (B + 1) σ.tail).getD (B + 3) 0 = σ.m.getD (B + 3) 0 := by rw [getS (by omega), if_neg (by omega)]
  have ssl : ∀ j, j < live.length → (σ.m.set (B + 1) σ.tail).getD (B + 4 + (S + j) % D) 0 = σ.m.getD (B + 4 + (S + j) % D) 0 := fun j _ => by have := s4 (4 + (S + j) % D) (by omega); rwa [← Nat.add_assoc] at this
  have sln : (σ.m.set (B + 1) σ.tail).length = σ.m.length := by simp
  rw [acc_go (st12 ..) rfl]
  exact ⟨S, live, settled, fl, a, b, cl, h.owner hk sln ssl s0 (s2.trans h.la) (s3.trans h.lb) (h.lk.quiet 0 _ (fun v hv => by rw [hk] at hv; cases hv; rfl) (fun v hv => by cases hv; rfl)) (by omega) hn { t := rfl, tw := by rw [s1]; simp [lowN], pc := Or.inr (by dsimp only; omega), pu := fun e => absurd e (by dsimp only; omega), p1 := fun e => absurd e (by dsimp only; omega), p2 := fun e => absurd e (by dsimp only; omega), po := fun _ => o.po (by dsimp only; omega), q1 := fun e => absurd e (by dsimp only; omega), q2 := fun e _ _ _ _ => absurd e (by dsimp only; omega), q3 := fun e => absurd e (by dsimp only; omega) }⟩
theorem inv_o11 {B D : Nat} {σ : PS} {S : Nat} {live settled fl : List Int} {a b cl n0 : Nat} (h : Inv B D σ S live settled fl a b cl n0) {t x hh n : Int} {got full : Bool} (hk : σ.ws 0 = some ⟨11, t, x, hh, n, got, full⟩) (hn : n0 + 1 ≤ 10000) : InvE B D (acc B D σ 0 ⟨11, t, x, hh, n, got, full⟩) (n0 + 1) := by
  have o := h.own _ hk
  obtain rfl : t = σ.tail := o.t
  have hT := h.tl
  have hfar := h.far
  have hbd := h.bd
  have hcl := h.cl1
  have hhd := h.hd
  have hlen := h.len
  have hd2 := h.d2
  have otw := o.tw
  dsimp only at otw
  have e1 : wrap64 (σ.tail - 1) = σ.tail - 1 := w64 (by omega)
  by_cases c : σ.m.getD B 0 ≤ wrap64 (σ.tail - 1)
  · rw [acc_go (st11y _ _ _ _ _ _ _ _ _ c) rfl]
    rw [e1] at c
    exact ⟨S, live, settled, fl, a, b, cl, h.owner hk rfl (fun _ _ => rfl) rfl h.la h.lb (h.lk.quiet 0 _ (fun v hv => by rw [hk] at hv; cases hv; rfl) (fun v hv => by cases hv; rfl)) (by omega) hn { t := rfl, tw := otw, pc := Or.inr (by dsimp only; omega), pu := fun e => absurd e (by dsimp only; omega), p1 := fun e => absurd e (by dsimp only; omega), p2 := fun e => absurd e (by dsimp only; omega), po := fun _ => o.po (by dsimp only; omega), q1 := fun _ => by omega, q2 := fun _ => updAll (fun j v hj _ e37 => by have := h.clw j v hj (Or.inr (Or.inr e37)); omega) (fun v hv e37 => by cases hv; dsimp only at e37; omega), q3 := fun e => absurd e (by dsimp only; omega) }⟩
  · rw [acc_go (st11n _ _ _ _ _ _ _ _ _ c) rfl]
    exact ⟨S, live, settled, fl, a, b, cl, h.owner hk rfl (fun _ _ => rfl) rfl h.la h.lb (h.lk.quiet 0 _ (fun v hv => by rw [hk] at hv; cases hv; rfl) (fun v hv => by cases hv; rfl)) (by omega) hn { t := rfl, tw := otw, pc := Or.inr (by dsimp only; omega), pu := fun e => absurd e (by dsimp only; omega), p1 := fun e => absurd e (by dsimp only; omega), p2 := fun e => absurd e (by dsimp only; omega), po := fun _ => o.po (by dsimp only; omega), q1 := fun e => absurd e (by dsimp only; omega), q2 := fun e _ _ _ _ => absurd e (by dsimp only; omega), q3 := fun e => absurd e (by dsimp only; omega) }⟩
theorem inv_o13 {B D : Nat} {σ : PS} {S : Nat} {live settled fl : List Int} {a b cl n0 : Nat} (h : Inv B D σ S live settled fl a b cl n0) {t x hh n : Int} {got full : Bool} (hk : σ.ws 0 = some ⟨13, t, x, hh, n, got, full⟩) (hn : n0 + 1 ≤ 10000) : InvE B D (acc B D σ 0 ⟨13, t, x, hh, n, got, full⟩) (n0 + 1) := by
  have o := h.own _ hk
  obtain rfl : t = σ.tail := o.t
  have hT := h.tl
  have hfar := h.far
  have hbd := h.bd
  have hcl := h.cl1
  have hhd := h.hd
  have hlen := h.len
  have hd2 := h.d2
  have otw := o.tw
  dsimp only at otw
  have ew : wrap64 (σ.m.getD (B + 2) 0 + 1) = ((a + 1 : Nat) : Int) := by rw [h.la, w64 (by omega)]; omega
  have s4 : ∀ j, 4 ≤ j → (σ.m.set (B + 2) ((a + 1 : Nat) : Int)).getD (B + j) 0 = σ.m.getD (B + j) 0 := fun j hj => by rw [getS (by omega), if_neg (by omega)]
  have s0 : (σ.m.set (B + 2) ((a + 1 : Nat) : Int)).getD B 0 = σ.m.getD B 0 := by rw [getS (by omega), if_neg (by omega)]
  have s1 : (σ.m.set (B + 2) ((a + 1 : Nat) : Int)).getD (B + 1) 0 = σ.m.getD (B + 1) 0 := by rw [getS (by omega), if_neg (by omega)]
  have s2 : (σ.m.set (B + 2) ((a + 1 : Nat) : Int)).getD (B + 2) 0 = ((a + 1 : Nat) : Int) := by rw [getS (by omega), if_pos rfl]
  have s3 : (σ.m.set (B + 2) ((a + 1 : Nat) : Int)).getD (B + 3) 0 = σ.m.getD (B + 3) 0 := by rw [getS (by omega), if_neg (by omega)]
  have ssl : ∀ j, j < live.length → (σ.m.set (B + 2) ((a + 1 : Nat) : Int)).getD (B + 4 + (S + j) % D) 0 = σ.m.getD (B + 4 + (S + j) % D) 0 := fun j _ => by have := s4 (4 + (S + j) % D) (by omega); rwa [← Nat.add_assoc] at this
  have sln : (σ.m.set (B + 2) ((a + 1 : Nat) : Int)).length = σ.m.length := by simp
  rw [acc_go (st13 ..) rfl, ew]
  exact ⟨S, live, settled, fl, a + 1, b, cl, h.owner hk sln ssl s0 s2 (s3.trans h.lb) (h.lk.ask (fun v hv => by rw [hk] at hv; cases hv; rfl) rfl rfl h.la) (by omega) hn { t := rfl, tw := s1.trans otw, pc := Or.inr (by dsimp only; omega), pu := fun e => absurd e (by dsimp only; omega), p1 := fun e => absurd e (by dsimp only; omega), p2 := fun e => absurd e (by dsimp only; omega), po := fun _ => o.po (by dsimp only; omega), q1 := fun e => absurd e (by dsimp only; omega), q2 := fun e _ _ _ _ => absurd e (by dsimp only; omega), q3 := fun e => absurd e (by dsimp only; omega) }⟩
theorem inv_o14 {B D : Nat} {σ : PS} {S : Nat} {live settled fl : List Int} {a b cl n0 : Nat} (h : Inv B D σ S live settled fl a b cl n0) {t x hh n : Int} {got full : Bool} (hk : σ.ws 0 = some ⟨14, t, x, hh, n, got, full⟩) (hn : n0 + 1 ≤ 10000) : InvE B D (acc B D σ 0 ⟨14, t, x, hh, n, got, full⟩) (n0 + 1) := by
  have o := h.own _ hk
  obtain rfl : t = σ.tail := o.t
  have hT := h.tl
  have hfar := h.far
  have hbd := h.bd
  have hcl := h.cl1
  have hhd := h.hd
  have hlen := h.len
  have hd2 := h.d2
  have otw := o.tw
  dsimp only at otw
  by_cases c : σ.m.getD (B + 3) 0 = n
  · rw [acc_go (st14y _ _ _ _ _ _ _ _ _ c) rfl]
    exact ⟨S, live, settled, fl, a, b, cl, h.owner hk rfl (fun _ _ => rfl) rfl h.la h.lb (h.lk.same hk rfl rfl (fun _ => c.symm.trans h.lb) rfl) (by omega) hn { t := rfl, tw := otw, pc := Or.inr (by dsimp only; omega), pu := fun e => absurd e (by dsimp only; omega), p1 := fun e => absurd e (by dsimp only; omega), p2 := fun e => absurd e (by dsimp only; omega), po := fun _ => o.po (by dsimp only; omega), q1 := fun e => absurd e (by dsimp only; omega), q2 := fun e _ _ _ _ => absurd e (by dsimp only; omega), q3 := fun e => absurd e (by dsimp only; omega) }⟩
  · rw [acc_go (st14n _ _ _ _ _ _ _ _ _ c) rfl]
    exact ⟨S, live, settled, fl, a, b, cl, h.owner hk rfl (fun _ _ => rfl) rfl h.la h.lb (h.lk.same hk rfl rfl (fun e => absurd (show hold 14 = true from e) (by decide)) rfl) (by omega) hn { t := rfl, tw := otw, pc := Or.inr (by dsimp only; omega), pu := fun e => absurd e (by dsimp only; omega), p1 := fun e => absurd e (by dsimp only; omega), p2 := fun e => absurd e (by dsimp only; omega), po := fun _ => o.po (by dsimp only; omega), q1 := fun e => absurd e (by dsimp only; omega), q2 := fun e _ _ _ _ => absurd e (by dsimp only; omega), q3 := fun e => absurd e (by dsimp only; omega) }⟩
theorem inv_o15 {B D : Nat} {σ : PS} {S : Nat} {live settled fl : List Int} {a b cl n0 : Nat} (h : Inv B D σ S live settled fl a b cl n0) {t x hh n : Int} {got full : Bool} (hk : σ.ws 0 = some ⟨15, t, x, hh, n, got, full⟩) (hn : n0 + 1 ≤ 10000) : InvE B D (acc B D σ 0 ⟨15, t, x, hh, n, got, full⟩) (n0 + 1) := by
  have o := h.own _ hk
  obtain rfl : t = σ.tail := o.t
  have hT := h.tl
  have hfar := h.far
  have hbd := h.bd
  have hcl := h.cl1
  have hhd := h.hd
  have hlen := h.len
  have hd2 := h.d2
  have otw := o.tw
  dsimp only at otw
  have e1 : wrap64 (σ.tail - 1) = σ.tail - 1 := w64 (by omega)
  have s4 : ∀ j, 4 ≤ j → (σ.m.set (B + 1) (σ.tail - 1)).getD (B + j) 0 = σ.m.getD (B + j) 0 := fun j hj => by rw [getS (by omega), if_neg (by omega)]
  have s0 : (σ.m.set (B + 1) (σ.tail - 1)).getD B 0 = σ.m.getD B 0 := by rw [getS (by omega), if_neg (by omega)]
  have s1 : (σ.m.set (B + 1) (σ.tail - 1)).getD (B + 1) 0 = (σ.tail - 1) := by rw [getS (by omega), if_pos rfl]
  have s2 : (σ.m.set (B + 1) (σ.tail - 1)).getD (B + 2) 0 = σ.m.getD (B + 2) 0 := by rw [getS (by omega), if_neg (by omega)]
  have s3 : (σ.m.set (B + 1) (σ.tail - 1)).getD (B + 3) 0 = σ.m.getD (B + 3) 0 := by rw [getS (by omega), if_neg (by omega)]
  have ssl : ∀ j, j < live.length → (σ.m.set (B + 1) (σ.tail - 1)).getD (B + 4 + (S + j) % D) 0 = σ.m.getD (B + 4 + (S + j) % D) 0 := fun j _ => by have := s4 (4 + (S + j) % D) (by omega); rwa [← Nat.add_assoc] at this
  have sln : (σ.m.set (B + 1) (σ.tail - 1)).length = σ.m.length := by simp
  rw [acc_go (st15 ..) rfl, e1]
  exact ⟨S, live, settled, fl, a, b, cl, h.owner hk sln ssl s0 (s2.trans h.la) (s3.trans h.lb) (h.lk.same hk rfl rfl (fun _ => h.lk.hld 0 _ hk rfl) rfl) (by omega) hn { t := rfl, tw := by rw [s1]; simp [lowN], pc := Or.inr (by dsimp only; omega), pu := fun e => absurd e (by dsimp only; omega), p1 := fun e => absurd e (by dsimp only; omega), p2 := fun e => absurd e (by dsimp only; omega), po := fun _ => o.po (by dsimp only; omega), q1 := fun e => absurd e (by dsimp only; omega), q2 := fun e _ _ _ _ => absurd e (by dsimp only; omega), q3 := fun e => absurd e (by dsimp only; omega) }⟩
theorem inv_o16 {B D : Nat} {σ : PS} {S : Nat} {live settled fl : List Int} {a b cl n0 : Nat} (h : Inv B D σ S live settled fl a b cl n0) {t x hh n : Int} {got full : Bool} (hk : σ.ws 0 = some ⟨16, t, x, hh, n, got, full⟩) (hn : n0 + 1 ≤ 10000) : InvE B D (acc B D σ 0 ⟨16, t, x, hh, n, got, full⟩) (n0 + 1) := by
  have o := h.own _ hk
  obtain rfl : t = σ.tail := o.t
  have hT := h.tl
  have hfar := h.far
  have hbd := h.bd
  have hcl := h.cl1
  have hhd := h.hd
  have hlen := h.len
  have hd2 := h.d2
  have otw := o.tw
  dsimp only at otw
  have e1 : wrap64 (σ.tail - 1) = σ.tail - 1 := w64 (by omega)
  have hc0 := h.nocl hk rfl (by unfold claims; dsimp only; omega)
  by_cases c : σ.m.getD B 0 ≤ wrap64 (σ.tail - 1)
  · rw [acc_go (st16y _ _ _ _ _ _ _ _ _ c) rfl]
    rw [e1] at c
    exact ⟨S, live, settled, fl, a, b, cl, h.owner hk rfl (fun _ _ => rfl) rfl h.la h.lb (h.lk.same hk rfl rfl (fun _ => h.lk.hld 0 _ hk rfl) rfl) (by omega) hn { t := rfl, tw := otw, pc := Or.inr (by dsimp only; omega), pu := fun e => absurd e (by dsimp only; omega), p1 := fun e => absurd e (by dsimp only; omega), p2 := fun e => absurd e (by dsimp only; omega), po := fun _ => o.po (by dsimp only; omega), q1 := fun _ => by omega, q2 := fun e _ _ _ _ => absurd e (by dsimp only; omega), q3 := fun e => absurd e (by dsimp only; omega) }⟩
  · rw [acc_go (st16n _ _ _ _ _ _ _ _ _ c) rfl]
    rw [e1] at c
    exact ⟨S, live, settled, fl, a, b, cl, h.owner hk rfl (fun _ _ => rfl) rfl h.la h.lb (h.lk.same hk rfl rfl (fun _ => h.lk.hld 0 _ hk rfl) rfl) (by omega) hn { t := rfl, tw := otw, pc := Or.inr (by dsimp only; omega), pu := fun e => absurd e (by dsimp only; omega), p1 := fun e => absurd e (by dsimp only; omega), p2 := fun e => absurd e (by dsimp only; omega), po := fun _ => o.po (by dsimp only; omega), q1 := fun e => absurd e (by dsimp only; omega), q2 := fun e _ _ _ _ => absurd e (by dsimp only; omega), q3 := fun _ => List.eq_nil_of_length_eq_zero (by omega) }⟩
theorem inv_o17 {B D : Nat} {σ : PS} {S : Nat} {live settled fl : List Int} {a b cl n0 : Nat} (h : Inv B D σ S live settled fl a b cl n0) {t x hh n : Int} {got full : Bool} (hk : σ.ws 0 = some ⟨17, t, x, hh, n, got, full⟩) (hn : n0 + 1 ≤ 10000) : InvE B D (acc B D σ 0 ⟨17, t, x, hh, n, got, full⟩) (n0 + 1) := by
  have o := h.own _ hk
  obtain rfl : t = σ.tail := o.t
  have hT := h.tl
  have hfar := h.far
  have hbd := h.bd
  have hcl := h.cl1
  have hhd := h.hd
  have hlen := h.len
  have hd2 := h.d2
  have otw := o.tw
  dsimp only at otw
  have hnb : n = (b : Int) := h.lk.hld _ _ hk rfl
  have hbr := h.lk.rng _ _ hk rfl
  dsimp only at hbr
  have ew : wrap64 (n + 1) = ((b + 1 : Nat) : Int) := by rw [hnb, w64 (by omega)]; omega
  have u6 := o.q1 (Or.inl rfl)
  have s4 : ∀ j, 4 ≤ j → (σ.m.set (B + 3) ((b + 1 : Nat) : Int)).getD (B + j) 0 = σ.m.getD (B + j) 0 := fun j hj => by rw [getS (by omega), if_neg (by omega)]
  have s0 : (σ.m.set (B + 3) ((b + 1 : Nat) : Int)).getD B 0 = σ.m.getD B 0 := by rw [getS (by omega), if_neg (by omega)]
  have s1 : (σ.m.set (B + 3) ((b + 1 : Nat) : Int)).getD (B + 1) 0 = σ.m.getD (B + 1) 0 := by rw [getS (by omega), if_neg (by omega)]
  have s2 : (σ.m.set (B + 3) ((b + 1 : Nat) : Int)).getD (B + 2) 0 = σ.m.getD (B + 2) 0 := by rw [getS (by omega), if_neg (by omega)]
  have s3 : (σ.m.set (B + 3) ((b + 1 : Nat) : Int)).getD (B + 3) 0 = ((b + 1 : Nat) : Int) := by rw [getS (by omega), if_pos rfl]
  have ssl : ∀ j, j < live.length → (σ.m.set (B + 3) ((b + 1 : Nat) : Int)).getD (B + 4 + (S + j) % D) 0 = σ.m.getD (B + 4 + (S + j) % D) 0 := fun j _ => by have := s4 (4 + (S + j) % D) (by omega); rwa [← Nat.add_assoc] at this
  have sln : (σ.m.set (B + 3) ((b + 1 : Nat) : Int)).length = σ.m.length := by simp
  rw [acc_go (st17 ..) rfl, ew]
  exact ⟨S, live, settled, fl, a, b + 1, cl, h.owner hk sln ssl s0 (s2.trans h.la) s3 (h.lk.leave hk rfl _ (fun v hv => by cases hv; rfl)) (by omega) hn { t := rfl, tw := s1.trans otw, pc := Or.inr (by dsimp only; omega), pu := fun e => absurd e (by dsimp only; omega), p1 := fun e => absurd e (by dsimp only; omega), p2 := fun e => absurd e (by dsimp only; omega), po := fun _ => o.po (by dsimp only; omega), q1 := fun _ => u6, q2 := fun _ => updAll (fun j v hj e e37 => by have := h.other hk rfl j v hj e; rw [e37] at this; exact absurd this (by decide)) (fun v hv e37 => by cases hv; dsimp only at e37; omega), q3 := fun e => absurd e (by dsimp only; omega) }⟩
theorem inv_o18 {B D : Nat} {σ : PS} {S : Nat} {live settled fl : List Int} {a b cl n0 : Nat} (h : Inv B D σ S live settled fl a b cl n0) {t x hh n : Int} {got full : Bool} (hk : σ.ws 0 = some ⟨18, t, x, hh, n, got, full⟩) (hn : n0 + 1 ≤ 10000) : InvE B D (acc B D σ 0 ⟨18, t, x, hh, n, got, full⟩) (n0 + 1) := by
  have o := h.own _ hk
  obtain rfl : t = σ.tail := o.t
  have hT := h.tl
  have hfar := h.far
  have hbd := h.bd
  have hcl := h.cl1
  have hhd := h.hd
  have hlen := h.len
  have hd2 := h.d2
  have otw := o.tw
  dsimp only at otw
  have e1 : wrap64 (σ.tail - 1) = σ.tail - 1 := w64 (by omega)
  have s4 : ∀ j, 4 ≤ j → (σ.m.set (B + 1) σ.tail).getD (B + j) 0 = σ.m.getD (B + j) 0 := fun j hj => by rw [getS (by omega), if_neg (by omega)]
  have s0 : (σ.m.set (B + 1) σ.tail).getD B 0 = σ.m.getD B 0 := by rw [getS (by omega), if_neg (by omega)]
  have s1 : (σ.m.set (B + 1) σ.tail).getD (B + 1) 0 = σ.tail := by rw [getS (by omega), if_pos rfl]
  have s2 : (σ.m.set (B + 1) σ.tail).getD (B + 2) 0 = σ.m.getD (B + 2) 0 := by rw [getS (by omega), if_neg (by omega)]
  have s3 : (σ.m.set (B + 1) σ.tail).getD (B + 3) 0 = σ.m.getD (B + 3) 0 := by rw [getS (by omega), if_neg (by omega)]
  have ssl : ∀ j, j < live.length → (σ.m.set (B + 1) σ.tail).getD (B + 4 + (S + j) % D) 0 = σ.m.getD (B + 4 + (S + j) % D) 0 := fun j _ => by have := s4 (4 + (S + j) % D) (by omega); rwa [← Nat.add_assoc] at this
  have sln : (σ.m.set (B + 1) σ.tail).length = σ.m.length := by simp
  rw [acc_go (st18 ..) rfl]
  exact ⟨S, live, settled, fl, a, b, cl, h.owner hk sln ssl s0 (s2.trans h.la) (s3.trans h.lb) (h.lk.same hk rfl rfl (fun _ => h.lk.hld 0 _ hk rfl) rfl) (by omega) hn { t := rfl, tw := by rw [s1]; simp [lowN], pc := Or.inr (by dsimp only; omega), pu := fun e => absurd e (by dsimp only; omega), p1 := fun e => absurd e (by dsimp only; omega), p2 := fun e => absurd e (by dsimp only; omega), po := fun _ => o.po (by dsimp only; omega), q1 := fun e => absurd e (by dsimp only; omega), q2 := fun e _ _ _ _ => absurd e (by dsimp only; omega), q3 := fun _ => o.q3 (Or.inl rfl) }⟩
theorem inv_o19 {B D : Nat} {σ : PS} {S : Nat} {live settled fl : List Int} {a b cl n0 : Nat} (h : Inv B D σ S live settled fl a b cl n0) {t x hh n : Int} {got full : Bool} (hk : σ.ws 0 = some ⟨19, t, x, hh, n, got, full⟩) (hn : n0 + 1 ≤ 10000) : InvE B D (acc B D σ 0 ⟨19, t, x, hh, n, got, full⟩) (n0 + 1) := by
  have o := h.own _ hk
  obtain rfl : t = σ.tail := o.t
  have hT := h.tl
  have hfar := h.far
  have hbd := h.bd
  have hcl := h.cl1
  have hhd := h.hd
  have hlen := h.len
  have hd2 := h.d2
  have otw := o.tw
  dsimp only at otw
  have hnb : n = (b : Int) := h.lk.hld _ _ hk rfl
  have hbr := h.lk.rng _ _ hk rfl
  dsimp only at hbr
  have ew : wrap64 (n + 1) = ((b + 1 : Nat) : Int) := by rw [hnb, w64 (by omega)]; omega
  have u6 := o.q3 (Or.inr rfl)
  obtain ⟨u1, u2⟩ := o.po (by dsimp only; omega)
  dsimp only at u2
  subst u2
  have s4 : ∀ j, 4 ≤ j → (σ.m.set (B + 3) ((b + 1 : Nat) : Int)).getD (B + j) 0 = σ.m.getD (B + j) 0 := fun j hj => by rw [getS (by omega), if_neg (by omega)]
  have s0 : (σ.m.set (B + 3) ((b + 1 : Nat) : Int)).getD B 0 = σ.m.getD B 0 := by rw [getS (by omega), if_neg (by omega)]
  have s1 : (σ.m.set (B + 3) ((b + 1 : Nat) : Int)).getD (B + 1) 0 = σ.m.getD (B + 1) 0 := by rw [getS (by omega), if_neg (by omega)]
  have s2 : (σ.m.set (B + 3) ((b + 1 : Nat) : Int)).getD (B + 2) 0 = σ.m.getD (B + 2) 0 := by rw [getS (by omega), if_neg (by omega)]
  have s3 : (σ.m.set (B + 3) ((b + 1 : Nat) : Int)).getD (B + 3) 0 = ((b + 1 : Nat) : Int) := by rw [getS (by omega), if_pos rfl]
  have ssl : ∀ j, j < live.length → (σ.m.set (B + 3) ((b + 1 : Nat) : Int)).getD (B + 4 + (S + j) % D) 0 = σ.m.getD (B + 4 + (S + j) % D) 0 := fun j _ => by have := s4 (4 + (S + j) % D) (by omega); rwa [← Nat.add_assoc] at this
  have sln : (σ.m.set (B + 3) ((b + 1 : Nat) : Int)).length = σ.m.length := by simp
  rw [acc_end (st19 ..) rfl, ew]
  have e : closed { σ with m := σ.m.set (B + 3) ((b + 1 : Nat) : Int), ws := upd σ.ws 0 none } 0 ⟨99, σ.tail, x, hh, n, false, full⟩ = { σ with m := σ.m.set (B + 3) ((b + 1 : Nat) : Int), ws := upd σ.ws 0 none, stack := [] } := by
    unfold closed
    simp [u1]
  rw [e]
  exact ⟨S, live, settled, fl, a, b + 1, cl, h.gone hk sln s4 s0 (s1.trans (otw.trans (by simp [lowN]))) (s2.trans h.la) s3 (h.lk.leave hk rfl _ (fun v hv => by cases hv)) hn ⟨[], by rw [u6]; rfl, by simp⟩⟩
theorem inv_o20 {B D : Nat} {σ : PS} {S : Nat} {live settled fl : List Int} {a b cl n0 : Nat} (h : Inv B D σ S live settled fl a b cl n0) {t x hh n : Int} {got full : Bool} (hk : σ.ws 0 = some ⟨20, t, x, hh, n, got, full⟩) (hn : n0 + 1 ≤ 10000) : InvE B D (acc B D σ 0 ⟨20, t, x, hh, n, got, full⟩) (n0 + 1) := by
  have o := h.own _ hk
  obtain rfl : t = σ.tail := o.t
  have hT := h.tl
  have hfar := h.far
  have hbd := h.bd
  have hcl := h.cl1
  have hhd := h.hd
  have hlen := h.len
  have hd2 := h.d2
  have otw := o.tw
  dsimp only at otw
  have e1 : wrap64 (σ.tail - 1) = σ.tail - 1 := w64 (by omega)
  have u6 := o.q1 (Or.inr rfl)
  have u7 := o.q2 rfl
  obtain ⟨u1, u2⟩ := o.po (by dsimp only; omega)
  obtain ⟨L, hL⟩ : ∃ L, live.length = L + 1 := ⟨live.length - 1, by omega⟩
  obtain ⟨y, hy⟩ : ∃ y, live.getD L 0 = y := ⟨_, rfl⟩
  obtain ⟨lv, hlv⟩ : ∃ lv, live.take L = lv := ⟨_, rfl⟩
  have hl2 := getD_last hL
  rw [hy, hlv] at hl2
  have hll : lv.length = L := by rw [← hlv]; simp; omega
  subst hl2
  have hsl := h.slots L (by omega)
  rw [hy] at hsl
  have hs : slotN B D (σ.tail - 1) = B + 4 + (S + L) % D := by rw [hT, show ((S + (lv ++ [y]).length : Nat) : Int) - 1 = ((S + L : Nat) : Int) by omega]; exact slotN_nat B D _
  obtain ⟨pre, k1, k2⟩ := h.stk
  have k3 : σ.stack.length = pre.length + lv.length + 1 := by rw [k1]; simp; omega
  have k4 : σ.stack.getD (σ.stack.length - 1) 0 = y := by
    rw [k3, k1, ← List.append_assoc, List.getD_eq_getElem?_getD, List.getElem?_append_right (by simp)]
    simp
  have k5 : σ.stack.take (σ.stack.length - 1) = pre ++ lv := by
    rw [k3, k1, ← List.append_assoc, List.take_append_of_le_length (by simp), List.take_of_length_le (by simp)]
  have hso := h.sorted
  rw [← List.append_assoc, List.pairwise_append] at hso
  obtain ⟨so1, so2, so3⟩ := hso
  rw [acc_end (st20 ..) rfl, e1, hs, hsl]
  have e : closed { σ with m := σ.m, ws := upd σ.ws 0 none } 0 ⟨99, σ.tail - 1, y, hh, n, true, full⟩ = { σ with m := σ.m, ws := upd σ.ws 0 none, tail := σ.tail - 1, popped := σ.popped ++ [y], stack := pre ++ lv } := by
    unfold closed
    simp only [u1, k4, k5]
    simp [h.rt]
    omega
  rw [e]
  have hlow : σ.m.getD (B + 1) 0 = σ.tail - 1 := otw.trans (by simp [lowN])
  refine ⟨S, lv, settled, fl, a, b, cl, ?_⟩
  exact {
    len := h.len
    d2 := h.d2
    tl := by show σ.tail - 1 = _; rw [hT]; omega
    cap := by have := h.cap; omega
    far := by show S + lv.length + 1 ≤ σ.next; omega
    bd := ⟨by have := h.bd; show σ.next ≤ _; omega, by omega, hn⟩
    slots := fun j hj => by
      refine (h.slots j (by omega)).trans ?_
      rw [getD_app hj]
    hd := h.hd
    cl1 := h.cl1
    clw := updAll (fun j v hj _ hc => h.clw j v hj hc) (fun v hv => by cases hv)
    cle := fun e => updEx (h.cle e) (fun v hv hc => by rw [hk] at hv; cases hv; simp [claims] at hc)
    la := h.la
    lb := h.lb
    lk := (h.lk.quiet 0 _ (fun v hv => by rw [hk] at hv; cases hv; rfl) (fun v hv => by cases hv))
    tw := fun _ => hlow
    k4 := updAll (fun j v hj _ => h.k4 j v hj) (fun v hv => by cases hv)
    own := fun v hv => by
      have e2 := (upd_self σ.ws 0 none).symm.trans hv
      cases e2
    thi := updAll (fun j v hj _ h0 => by
      have q := h.thi j v hj h0
      exact { q with l := fun e => by have := u7 j v hj e; omega }) (fun v hv => by cases hv)
    fl1 := fun e => updEx (h.fl1 e) (fun v hv hc => by rw [hk] at hv; cases hv; dsimp only at hc; omega)
    st := h.st
    sorted := so1
    rng := fun z hz => h.rng z (by rw [← List.append_assoc]; exact List.mem_append_left _ hz)
    pu := h.pu
    po := fun z hz hc => by
      rcases List.mem_append.1 hz with hz | hz
      · exact h.po z hz (by rw [← List.append_assoc]; exact List.mem_append_left _ hc)
      · simp at hz; subst hz
        have := so3 z hc z (by simp)
        omega
    por := fun z hz => by
      rcases List.mem_append.1 hz with hz | hz
      · exact h.por z hz
      · simp at hz; subst hz; exact h.rng z (by simp)
    cnt := by have := h.cnt; simp at this ⊢; omega
    stk := ⟨pre, rfl, k2⟩
    rt := h.rt }
theorem inv_t30 {B D : Nat} {σ : PS} {S : Nat} {live settled fl : List Int} {a b cl n0 : Nat} (h : Inv B D σ S live settled fl a b cl n0) {k : Nat} (h0 : k ≠ 0) {t x hh n : Int} {got full : Bool} (hk : σ.ws k = some ⟨30, t, x, hh, n, got, full⟩) (hn : n0 + 1 ≤ 10000) : InvE B D (acc B D σ k ⟨30, t, x, hh, n, got, full⟩) (n0 + 1) := by
  have ht := h.thi _ _ hk h0
  have hT := h.tl
  have hfar := h.far
  have hbd := h.bd
  have hcl := h.cl1
  have hhd := h.hd
  have hlen := h.len
  have hd2 := h.d2
  have ew : wrap64 (σ.m.getD (B + 2) 0 + 1) = ((a + 1 : Nat) : Int) := by rw [h.la, w64 (by omega)]; omega
  have s4 : ∀ j, 4 ≤ j → (σ.m.set (B + 2) ((a + 1 : Nat) : Int)).getD (B + j) 0 = σ.m.getD (B + j) 0 := fun j hj => by rw [getS (by omega), if_neg (by omega)]
  have s0 : (σ.m.set (B + 2) ((a + 1 : Nat) : Int)).getD B 0 = σ.m.getD B 0 := by rw [getS (by omega), if_neg (by omega)]
  have s1 : (σ.m.set (B + 2) ((a + 1 : Nat) : Int)).getD (B + 1) 0 = σ.m.getD (B + 1) 0 := by rw [getS (by omega), if_neg (by omega)]
  have s2 : (σ.m.set (B + 2) ((a + 1 : Nat) : Int)).getD (B + 2) 0 = ((a + 1 : Nat) : Int) := by rw [getS (by omega), if_pos rfl]
  have s3 : (σ.m.set (B + 2) ((a + 1 : Nat) : Int)).getD (B + 3) 0 = σ.m.getD (B + 3) 0 := by rw [getS (by omega), if_neg (by omega)]
  have ssl : ∀ j, j < live.length → (σ.m.set (B + 2) ((a + 1 : Nat) : Int)).getD (B + 4 + (S + j) % D) 0 = σ.m.getD (B + 4 + (S + j) % D) 0 := fun j _ => by have := s4 (4 + (S + j) % D) (by omega); rwa [← Nat.add_assoc] at this
  have sln : (σ.m.set (B + 2) ((a + 1 : Nat) : Int)).length = σ.m.length := by simp
  rw [acc_go (st30 ..) rfl, ew]
  exact ⟨S, live, settled, fl, a + 1, b, cl, h.thief h0 hk sln s4 s1 (s0.trans h.hd) s2 (s3.trans h.lb) (h.lk.ask (fun v hv => by rw [hk] at hv; cases hv; rfl) rfl rfl h.la) (by omega) hn (by omega) (fun j v hj _ hc => h.clw j v hj hc) (fun hc => by simp [claims] at hc) (fun e => by obtain ⟨j, v, hj, hc⟩ := h.cle e; by_cases ej : j = k; (subst ej; rw [hk] at hj; cases hj; (simp [claims] at hc)); exact Or.inr ⟨j, v, hj, ej, hc⟩) (fun e => by dsimp only at e; omega) (Or.inr (by dsimp only; omega)) { pc := by dsimp only; omega, h := fun e => absurd e (by dsimp only; omega), l := fun e => absurd e (by dsimp only; omega), g := fun _ => ht.g (by dsimp only; omega), f := fun e => absurd e (by dsimp only; omega) }⟩
theorem inv_t31 {B D : Nat} {σ : PS} {S : Nat} {live settled fl : List Int} {a b cl n0 : Nat} (h : Inv B D σ S live settled fl a b cl n0) {k : Nat} (h0 : k ≠ 0) {t x hh n : Int} {got full : Bool} (hk : σ.ws k = some ⟨31, t, x, hh, n, got, full⟩) (hn : n0 + 1 ≤ 10000) : InvE B D (acc B D σ k ⟨31, t, x, hh, n, got, full⟩) (n0 + 1) := by
  have ht := h.thi _ _ hk h0
  have hT := h.tl
  have hfar := h.far
  have hbd := h.bd
  have hcl := h.cl1
  have hhd := h.hd
  have hlen := h.len
  have hd2 := h.d2
  by_cases c : σ.m.getD (B + 3) 0 = n
  · skip
    rw [acc_go (st31y _ _ _ _ _ _ _ _ _ c) rfl]
    exact ⟨S, live, settled, fl, a, b, cl, h.thief h0 hk rfl (fun _ _ => rfl) rfl h.hd h.la h.lb (h.lk.same hk rfl rfl (fun _ => c.symm.trans h.lb) rfl) (by omega) hn (by omega) (fun j v hj _ hc => h.clw j v hj hc) (fun hc => by simp [claims] at hc) (fun e => by obtain ⟨j, v, hj, hc⟩ := h.cle e; by_cases ej : j = k; (subst ej; rw [hk] at hj; cases hj; (simp [claims] at hc)); exact Or.inr ⟨j, v, hj, ej, hc⟩) (fun e => by dsimp only at e; omega) (Or.inr (by dsimp only; omega)) { pc := by dsimp only; omega, h := fun e => absurd e (by dsimp only; omega), l := fun e => absurd e (by dsimp only; omega), g := fun _ => ht.g (by dsimp only; omega), f := fun e => absurd e (by dsimp only; omega) }⟩
  · skip
    rw [acc_go (st31n _ _ _ _ _ _ _ _ _ c) rfl]
    exact ⟨S, live, settled, fl, a, b, cl, h.thief h0 hk rfl (fun _ _ => rfl) rfl h.hd h.la h.lb (h.lk.same hk rfl rfl (fun e => absurd (show hold 31 = true from e) (by decide)) rfl) (by omega) hn (by omega) (fun j v hj _ hc => h.clw j v hj hc) (fun hc => by simp [claims] at hc) (fun e => by obtain ⟨j, v, hj, hc⟩ := h.cle e; by_cases ej : j = k; (subst ej; rw [hk] at hj; cases hj; (simp [claims] at hc)); exact Or.inr ⟨j, v, hj, ej, hc⟩) (fun e => by dsimp only at e; omega) (Or.inr (by dsimp only; omega)) { pc := by dsimp only; omega, h := fun e => absurd e (by dsimp only; omega), l := fun e => absurd e (by dsimp only; omega), g := fun _ => ht.g (by dsimp only; omega), f := fun e => absurd e (by dsimp only; omega) }⟩
theorem inv_t32 {B D : Nat} {σ : PS} {S : Nat} {live settled fl : List Int} {a b cl n0 : Nat} (h : Inv B D σ S live settled fl a b cl n0) {k : Nat} (h0 : k ≠ 0) {t x hh n : Int} {got full : Bool} (hk : σ.ws k = some ⟨32, t, x, hh, n, got, full⟩) (hn : n0 + 1 ≤ 10000) : InvE B D (acc B D σ k ⟨32, t, x, hh, n, got, full⟩) (n0 + 1) := by
  have ht := h.thi _ _ hk h0
  have hT := h.tl
  have hfar := h.far
  have hbd := h.bd
  have hcl := h.cl1
  have hhd := h.hd
  have hlen := h.len
  have hd2 := h.d2
  have hc0 := h.nocl hk rfl (by unfold claims; dsimp only; omega)
  rw [acc_go (st32 ..) rfl]
  exact ⟨S, live, settled, fl, a, b, cl, h.thief h0 hk rfl (fun _ _ => rfl) rfl h.hd h.la h.lb (h.lk.same hk rfl rfl (fun _ => h.lk.hld k _ hk rfl) rfl) (by omega) hn (by omega) (fun j v hj _ hc => h.clw j v hj hc) (fun hc => by simp [claims] at hc) (fun e => by obtain ⟨j, v, hj, hc⟩ := h.cle e; by_cases ej : j = k; (subst ej; rw [hk] at hj; cases hj; (simp [claims] at hc)); exact Or.inr ⟨j, v, hj, ej, hc⟩) (fun e => by dsimp only at e; omega) (Or.inr (by dsimp only; omega)) { pc := by dsimp only; omega, h := fun _ => by dsimp only; rw [h.hd, hc0]; simp, l := fun e => absurd e (by dsimp only; omega), g := fun _ => ht.g (by dsimp only; omega), f := fun e => absurd e (by dsimp only; omega) }⟩
theorem inv_t33 {B D : Nat} {σ : PS} {S : Nat} {live settled fl : List Int} {a b cl n0 : Nat} (h : Inv B D σ S live settled fl a b cl n0) {k : Nat} (h0 : k ≠ 0) {t x hh n : Int} {got full : Bool} (hk : σ.ws k = some ⟨33, t, x, hh, n, got, full⟩) (hn : n0 + 1 ≤ 10000) : InvE B D (acc B D σ k ⟨33, t, x, hh, n, got, full⟩) (n0 + 1) := by
  have ht := h.thi _ _ hk h0
  have hT := h.tl
  have hfar := h.far
  have hbd := h.bd
  have hcl := h.cl1
  have hhd := h.hd
  have hlen := h.len
  have hd2 := h.d2
  have hs := ht.h (Or.inl rfl)
  dsimp only at hs
  have ew : wrap64 (hh + 1) = ((S + 1 : Nat) : Int) := by rw [hs, w64 (by omega)]; omega
  have s4 : ∀ j, 4 ≤ j → (σ.m.set B ((S + 1 : Nat) : Int)).getD (B + j) 0 = σ.m.getD (B + j) 0 := fun j hj => by rw [getS (by omega), if_neg (by omega)]
  have s0 : (σ.m.set B ((S + 1 : Nat) : Int)).getD B 0 = ((S + 1 : Nat) : Int) := by rw [getS (by omega), if_pos rfl]
  have s1 : (σ.m.set B ((S + 1 : Nat) : Int)).getD (B + 1) 0 = σ.m.getD (B + 1) 0 := by rw [getS (by omega), if_neg (by omega)]
  have s2 : (σ.m.set B ((S + 1 : Nat) : Int)).getD (B + 2) 0 = σ.m.getD (B + 2) 0 := by rw [getS (by omega), if_neg (by omega)]
  have s3 : (σ.m.set B ((S + 1 : Nat) : Int)).getD (B + 3) 0 = σ.m.getD (B + 3) 0 := by rw [getS (by omega), if_neg (by omega)]
  have sln : (σ.m.set B ((S + 1 : Nat) : Int)).length = σ.m.length := by simp
  rw [acc_go (st33 ..) rfl, ew]
  exact ⟨S, live, settled, fl, a, b, 1, h.thief h0 hk sln s4 s1 s0 (s2.trans h.la) (s3.trans h.lb) (h.lk.same hk rfl rfl (fun _ => h.lk.hld k _ hk rfl) rfl) (by omega) hn (by omega) (fun _ _ _ _ _ => rfl) (fun _ => rfl) (fun _ => Or.inl (Or.inl rfl)) (fun e => by dsimp only at e; omega) (Or.inr (by dsimp only; omega)) { pc := by dsimp only; omega, h := fun _ => hs, l := fun e => absurd e (by dsimp only; omega), g := fun _ => ht.g (by dsimp only; omega), f := fun e => absurd e (by dsimp only; omega) }⟩
theorem inv_t34 {B D : Nat} {σ : PS} {S : Nat} {live settled fl : List Int} {a b cl n0 : Nat} (h : Inv B D σ S live settled fl a b cl n0) {k : Nat} (h0 : k ≠ 0) {t x hh n : Int} {got full : Bool} (hk : σ.ws k = some ⟨34, t, x, hh, n, got, full⟩) (hn : n0 + 1 ≤ 10000) : InvE B D (acc B D σ k ⟨34, t, x, hh, n, got, full⟩) (n0 + 1) := by
  have ht := h.thi _ _ hk h0
  have hT := h.tl
  have hfar := h.far
  have hbd := h.bd
  have hcl := h.cl1
  have hhd := h.hd
  have hlen := h.len
  have hd2 := h.d2
  have hs := ht.h (Or.inr (Or.inl rfl))
  dsimp only at hs
  have ew : wrap64 (hh + 1) = ((S + 1 : Nat) : Int) := by rw [hs, w64 (by omega)]; omega
  have c1 := h.clw k _ hk (Or.inl rfl)
  by_cases c : wrap64 (hh + 1) ≤ σ.m.getD (B + 1) 0
  · have hlive : 1 ≤ live.length ∧ ∀ v, σ.ws 0 = some v → v.pc = 20 → 2 ≤ live.length := by
      rw [ew] at c
      cases hw : σ.ws 0 with
      | none =>
        have := h.tw hw
        exact ⟨by omega, fun v hv => by cases hv⟩
      | some v =>
        have o := (h.own v hw).tw
        refine ⟨by omega, fun u hu hp => ?_⟩
        cases hu
        rw [hp] at o
        rw [show lowN 20 = 1 from rfl] at o
        omega
    rw [acc_go (st34y _ _ _ _ _ _ _ _ _ c) rfl]
    exact ⟨S, live, settled, fl, a, b, cl, h.thief h0 hk rfl (fun _ _ => rfl) rfl h.hd h.la h.lb (h.lk.same hk rfl rfl (fun _ => h.lk.hld k _ hk rfl) rfl) (by omega) hn (by omega) (fun j v hj _ hc => h.clw j v hj hc) (fun _ => c1) (fun _ => Or.inl (Or.inr (Or.inr rfl))) (fun _ v hv e => hlive.2 v hv e) (Or.inr (by dsimp only; omega)) { pc := by dsimp only; omega, h := fun _ => hs, l := fun _ => hlive.1, g := fun _ => ht.g (by dsimp only; omega), f := fun e => absurd e (by dsimp only; omega) }⟩
  · rw [acc_go (st34n _ _ _ _ _ _ _ _ _ c) rfl]
    exact ⟨S, live, settled, fl, a, b, cl, h.thief h0 hk rfl (fun _ _ => rfl) rfl h.hd h.la h.lb (h.lk.same hk rfl rfl (fun _ => h.lk.hld k _ hk rfl) rfl) (by omega) hn (by omega) (fun j v hj _ hc => h.clw j v hj hc) (fun _ => c1) (fun _ => Or.inl (Or.inr (Or.inl rfl))) (fun e => by dsimp only at e; omega) (Or.inr (by dsimp only; omega)) { pc := by dsimp only; omega, h := fun _ => hs, l := fun e => absurd e (by dsimp only; omega), g := fun _ => ht.g (by dsimp only; omega), f := fun e => absurd e (by dsimp only; omega) }⟩
theorem inv_t35 {B D : Nat} {σ : PS} {S : Nat} {live settled fl : List Int} {a b cl n0 : Nat} (h : Inv B D σ S live settled fl a b cl n0) {k : Nat} (h0 : k ≠ 0) {t x hh n : Int} {got full : Bool} (hk : σ.ws k = some ⟨35, t, x, hh, n, got, full⟩) (hn : n0 + 1 ≤ 10000) : InvE B D (acc B D σ k ⟨35, t, x, hh, n, got, full⟩) (n0 + 1) := by
  have ht := h.thi _ _ hk h0
  have hT := h.tl
  have hfar := h.far
  have hbd := h.bd
  have hcl := h.cl1
  have hhd := h.hd
  have hlen := h.len
  have hd2 := h.d2
  have hs := ht.h (Or.inr (Or.inr (Or.inl rfl)))
  dsimp only at hs
  have hg := ht.g (by dsimp only; omega)
  dsimp only at hg
  have hfl := h.nofl hk rfl (by dsimp only; omega)
  have s4 : ∀ j, 4 ≤ j → (σ.m.set B hh).getD (B + j) 0 = σ.m.getD (B + j) 0 := fun j hj => by rw [getS (by omega), if_neg (by omega)]
  have s0 : (σ.m.set B hh).getD B 0 = hh := by rw [getS (by omega), if_pos rfl]
  have s1 : (σ.m.set B hh).getD (B + 1) 0 = σ.m.getD (B + 1) 0 := by rw [getS (by omega), if_neg (by omega)]
  have s2 : (σ.m.set B hh).getD (B + 2) 0 = σ.m.getD (B + 2) 0 := by rw [getS (by omega), if_neg (by omega)]
  have s3 : (σ.m.set B hh).getD (B + 3) 0 = σ.m.getD (B + 3) 0 := by rw [getS (by omega), if_neg (by omega)]
  have sln : (σ.m.set B hh).length = σ.m.length := by simp
  rw [acc_go (st35 ..) rfl]
  exact ⟨S, live, settled, fl, a, b, 0, h.thief h0 hk sln s4 s1 (s0.trans (by rw [hs]; rfl)) (s2.trans h.la) (s3.trans h.lb) (h.lk.same hk rfl rfl (fun _ => h.lk.hld k _ hk rfl) rfl) (by omega) hn (by omega) (fun j v hj e hc => by have := h.other hk rfl j v hj e; rw [claims_hold hc] at this; cases this) (fun hc => by simp [claims] at hc) (fun e => by omega) (fun e => by dsimp only at e; omega) (Or.inr (by dsimp only; omega)) { pc := by dsimp only; omega, h := fun e => absurd e (by dsimp only; omega), l := fun e => absurd e (by dsimp only; omega), g := fun e => absurd rfl e, f := fun _ => by rw [hfl, if_neg (by dsimp only; rw [hg]; decide)] }⟩
theorem inv_t36 {B D : Nat} {σ : PS} {S : Nat} {live settled fl : List Int} {a b cl n0 : Nat} (h : Inv B D σ S live settled fl a b cl n0) {k : Nat} (h0 : k ≠ 0) {t x hh n : Int} {got full : Bool} (hk : σ.ws k = some ⟨36, t, x, hh, n, got, full⟩) (hn : n0 + 1 ≤ 10000) : InvE B D (acc B D σ k ⟨36, t, x, hh, n, got, full⟩) (n0 + 1) := by
  have ht := h.thi _ _ hk h0
  have hT := h.tl
  have hfar := h.far
  have hbd := h.bd
  have hcl := h.cl1
  have hhd := h.hd
  have hlen := h.len
  have hd2 := h.d2
  have hnb : n = (b : Int) := h.lk.hld _ _ hk rfl
  have hbr := h.lk.rng _ _ hk rfl
  dsimp only at hbr
  have ew : wrap64 (n + 1) = ((b + 1 : Nat) : Int) := by rw [hnb, w64 (by omega)]; omega
  have hf := ht.f rfl
  dsimp only at hf
  have up0 : upd σ.ws k none 0 = σ.ws 0 := upd_other (Ne.symm h0)
  have s4 : ∀ j, 4 ≤ j → (σ.m.set (B + 3) ((b + 1 : Nat) : Int)).getD (B + j) 0 = σ.m.getD (B + j) 0 := fun j hj => by rw [getS (by omega), if_neg (by omega)]
  have s0 : (σ.m.set (B + 3) ((b + 1 : Nat) : Int)).getD B 0 = σ.m.getD B 0 := by rw [getS (by omega), if_neg (by omega)]
  have s1 : (σ.m.set (B + 3) ((b + 1 : Nat) : Int)).getD (B + 1) 0 = σ.m.getD (B + 1) 0 := by rw [getS (by omega), if_neg (by omega)]
  have s2 : (σ.m.set (B + 3) ((b + 1 : Nat) : Int)).getD (B + 2) 0 = σ.m.getD (B + 2) 0 := by rw [getS (by omega), if_neg (by omega)]
  have s3 : (σ.m.set (B + 3) ((b + 1 : Nat) : Int)).getD (B + 3) 0 = ((b + 1 : Nat) : Int) := by rw [getS (by omega), if_pos rfl]
  have ssl : ∀ j, j < live.length → (σ.m.set (B + 3) ((b + 1 : Nat) : Int)).getD (B + 4 + (S + j) % D) 0 = σ.m.getD (B + 4 + (S + j) % D) 0 := fun j _ => by have := s4 (4 + (S + j) % D) (by omega); rwa [← Nat.add_assoc] at this
  have sln : (σ.m.set (B + 3) ((b + 1 : Nat) : Int)).length = σ.m.length := by simp
  rw [acc_end (st36 ..) rfl, ew]
  have e : closed { σ with m := σ.m.set (B + 3) ((b + 1 : Nat) : Int), ws := upd σ.ws k none } k ⟨99, t, x, hh, n, got, full⟩ = { σ with m := σ.m.set (B + 3) ((b + 1 : Nat) : Int), ws := upd σ.ws k none, stolen := σ.stolen ++ fl } := by
    unfold closed
    rw [if_pos h0]
    cases got with
    | true => rw [if_pos rfl] at hf; rw [if_pos rfl, hf]
    | false => rw [if_neg (by simp)] at hf; rw [if_neg (by simp), hf, List.append_nil]
  rw [e]
  refine ⟨S, live, settled, [], a, b + 1, cl, ?_⟩
  exact { h with
    len := by rw [sln]; exact h.len
    bd := ⟨by have := h.bd; show σ.next ≤ _; omega, by omega, hn⟩
    slots := fun j hj => (ssl j hj).trans (h.slots j hj)
    hd := s0.trans h.hd
    clw := updAll (fun j v hj _ hc => h.clw j v hj hc) (fun v hv => by cases hv)
    cle := fun e => updEx (h.cle e) (fun v hv hc => by rw [hk] at hv; cases hv; simp [claims] at hc)
    la := s2.trans h.la
    lb := s3
    lk := h.lk.leave hk rfl _ (fun v hv => by cases hv)
    tw := fun e => s1.trans (h.tw (up0.symm.trans e))
    k4 := updAll (fun j v hj _ => h.k4 j v hj) (fun v hv => by cases hv)
    own := fun v hv => by
      have hv := up0.symm.trans hv
      have o := h.own v hv
      exact { o with
        tw := s1.trans o.tw
        p2 := fun e => by
          have := s4 (4 + (S + live.length) % D) (by omega)
          rw [← Nat.add_assoc] at this
          exact this.trans (o.p2 e)
        q2 := fun e => updAll (fun j u hj _ hu => o.q2 e j u hj hu) (fun u hu => by cases hu) }
    thi := updAll (fun j v hj ej hj0 => by
      have q := h.thi j v hj hj0
      exact { q with f := fun e => by have := h.other hk rfl j v hj ej; rw [e] at this; exact absurd this (by decide) }) (fun v hv => by cases hv)
    fl1 := fun e => absurd rfl e
    st := by rw [h.st, List.append_nil] }
theorem inv_t37 {B D : Nat} {σ : PS} {S : Nat} {live settled fl : List Int} {a b cl n0 : Nat} (h : Inv B D σ S live settled fl a b cl n0) {k : Nat} (h0 : k ≠ 0) {t x hh n : Int} {got full : Bool} (hk : σ.ws k = some ⟨37, t, x, hh, n, got, full⟩) (hn : n0 + 1 ≤ 10000) : InvE B D (acc B D σ k ⟨37, t, x, hh, n, got, full⟩) (n0 + 1) := by
  have ht := h.thi _ _ hk h0
  have hT := h.tl
  have hfar := h.far
  have hbd := h.bd
  have hcl := h.cl1
  have hhd := h.hd
  have hlen := h.len
  have hd2 := h.d2
  have hs := ht.h (Or.inr (Or.inr (Or.inr rfl)))
  dsimp only at hs
  have hfl := h.nofl hk rfl (by dsimp only; omega)
  have c1 := h.clw k _ hk (Or.inr (Or.inr rfl))
  have hl1 := ht.l rfl
  have hoth := h.other hk rfl
  have up0 : ∀ o, upd σ.ws k o 0 = σ.ws 0 := fun o => upd_other (Ne.symm h0)
  subst hfl
  cases live with
  | nil => simp at hl1
  | cons y lv =>
  have hsl : σ.m.getD (slotN B D hh) 0 = y := by
    rw [hs, slotN_nat]
    have := h.slots 0 (by simp)
    simp only [Nat.add_zero] at this
    rw [this]; rfl
  have hst := h.st
  rw [List.append_nil] at hst
  rw [acc_go (st37 ..) rfl, hsl]
  refine ⟨S + 1, lv, settled ++ [y], [y], a, b, 0, ?_⟩
  exact { h with
    tl := by show σ.tail = _; rw [hT]; simp; omega
    cap := by have := h.cap; rw [List.length_cons] at this; omega
    far := by show S + 1 + lv.length + 1 ≤ σ.next; rw [List.length_cons] at hfar; omega
    bd := ⟨by have := h.bd; show σ.next ≤ _; omega, by omega, hn⟩
    slots := fun j hj => by
      have := h.slots (j + 1) (by simp; omega)
      rw [show S + 1 + j = S + (j + 1) by omega]
      exact this.trans (by simp)
    hd := by show σ.m.getD B 0 = _; rw [h.hd, c1]
    cl1 := by omega
    clw := updAll (fun j v hj e hc => by have := hoth j v hj e; rw [claims_hold hc] at this; cases this) (fun v hv hc => by cases hv; unfold claims at hc; dsimp only at hc; omega)
    cle := fun e => by omega
    lk := h.lk.same hk rfl rfl (fun _ => h.lk.hld k _ hk rfl) rfl
    tw := fun e => h.tw ((up0 _).symm.trans e)
    k4 := updAll (fun j v hj _ => h.k4 j v hj) (fun v _ => h.k4 k _ hk)
    own := fun v hv => by
      have hv := (up0 _).symm.trans hv
      have o := h.own v hv
      exact { o with
        p1 := fun e => by have := o.p1 e; simp at this; omega
        p2 := fun e => by
          have := o.p2 e
          rw [show S + 1 + lv.length = S + (y :: lv).length by simp; omega]
          exact this
        q1 := fun e => by
          rcases e with e | e
          · have := hoth 0 v hv (Ne.symm h0); rw [e] at this; exact absurd this (by decide)
          · have := o.q2 e k _ hk rfl; simp at this; omega
        q2 := fun e => updAll (fun j u hj ej hu => by have := hoth j u hj ej; rw [hu] at this; exact absurd this (by decide)) (fun u hu hc => by cases hu; dsimp only at hc; omega)
        q3 := fun e => absurd (o.q3 e) (by simp) }
    thi := updAll (fun j v hj ej hj0 => by
      have q := h.thi j v hj hj0
      have nh := hoth j v hj ej
      exact { q with
        h := fun e => by rcases e with e | e | e | e <;> (rw [e] at nh; exact absurd nh (by decide))
        l := fun e => by rw [e] at nh; exact absurd nh (by decide)
        f := fun e => by rw [e] at nh; exact absurd nh (by decide) }) (fun v hv _ => by
      cases hv
      exact { pc := by dsimp only; omega, h := fun e => absurd e (by dsimp only; omega), l := fun e => absurd e (by dsimp only; omega), g := fun e => absurd rfl e, f := fun _ => rfl })
    fl1 := fun _ => ⟨k, _, upd_self .., rfl⟩
    st := by show settled ++ [y] = _; rw [hst]
    sorted := by have := h.sorted; rwa [List.append_assoc]
    rng := fun z hz => h.rng z (by rwa [List.append_assoc] at hz)
    po := fun z hz hc => h.po z hz (by rwa [List.append_assoc] at hc)
    cnt := by have := h.cnt; simp at this ⊢; omega
    stk := by
      obtain ⟨pre, p1, p2⟩ := h.stk
      refine ⟨pre ++ [y], by show σ.stack = _; rw [p1]; simp, fun z hz => ?_⟩
      rcases List.mem_append.1 hz with hz | hz
      · exact List.mem_append_left _ (p2 z hz)
      · exact List.mem_append_right _ hz }
theorem inv_acc {B D : Nat} {σ : PS} {n0 : Nat} (h : InvE B D σ n0) {k : Nat} {w : WS} (hk : σ.ws k = some w) (hn : n0 + 1 ≤ 10000) : InvE B D (acc B D σ k w) (n0 + 1) := by
  obtain ⟨S, live, settled, fl, a, b, cl, h⟩ := h
  obtain ⟨pc, t, x, hh, n, got, full⟩ := w
  by_cases h0 : k = 0
  · subst h0
    have hp := (h.own _ hk).pc
    dsimp only at hp
    have : pc = 0 ∨ pc = 1 ∨ pc = 2 ∨ pc = 10 ∨ pc = 11 ∨ pc = 12 ∨ pc = 13 ∨ pc = 14 ∨ pc = 15 ∨ pc = 16 ∨ pc = 17 ∨ pc = 18 ∨ pc = 19 ∨ pc = 20 := by omega
    rcases this with rfl | rfl | rfl | rfl | rfl | rfl | rfl | rfl | rfl | rfl | rfl | rfl | rfl | rfl
    · exact inv_o0 h hk hn
    · exact inv_o1 h hk hn
    · exact inv_o2 h hk hn
    · exact inv_o10 h hk hn
    · exact inv_o11 h hk hn
    · exact inv_o12 h hk hn
    · exact inv_o13 h hk hn
    · exact inv_o14 h hk hn
    · exact inv_o15 h hk hn
    · exact inv_o16 h hk hn
    · exact inv_o17 h hk hn
    · exact inv_o18 h hk hn
    · exact inv_o19 h hk hn
    · exact inv_o20 h hk hn
  · have hp := (h.thi _ _ hk h0).pc
    dsimp only at hp
    have : pc = 30 ∨ pc = 31 ∨ pc = 32 ∨ pc = 33 ∨ pc = 34 ∨ pc = 35 ∨ pc = 36 ∨ pc = 37 := by omega
    rcases this with rfl | rfl | rfl | rfl | rfl | rfl | rfl | rfl
    · exact inv_t30 h h0 hk hn
    · exact inv_t31 h h0 hk hn
    · exact inv_t32 h h0 hk hn
    · exact inv_t33 h h0 hk hn
    · exact inv_t34 h h0 hk hn
    · exact inv_t35 h h0 hk hn
    · exact inv_t36 h h0 hk hn
    · exact inv_t37 h h0 hk hn
end Go.Proofs.Ytofnjapgacgdlaa
