/- Package deque: an owner and three thieves, in whatever order they step. No program in sight. -/
import Derived.Test.YtofnjapgacgdlaaDqLock
set_option linter.unusedVariables false
set_option linter.unusedSimpArgs false
namespace Go.Proofs.Ytofnjapgacgdlaa
open Go.RowKit
set_option maxHeartbeats 4000000
structure PS where
  m : List Int
  ws : Nat → Option WS
  pops : Bool
  tail : Int
  next : Nat
  pushed : List Int
  popped : List Int
  stolen : List Int
  stack : List Int
  right : Bool
def startW (σ : PS) (k : Nat) (push : Bool) : WS := if k = 0 then (if push = true then push0 σ.tail (σ.next : Int) else pop0 σ.tail) else steal0
def begun (σ : PS) (k : Nat) (push : Bool) : PS := { σ with ws := upd σ.ws k (some (startW σ k push)), pops := if k = 0 then !push else σ.pops }
def closed (σ : PS) (k : Nat) (w : WS) : PS :=
  if k ≠ 0 then (if w.got = true then { σ with stolen := σ.stolen ++ [w.x] } else σ)
  else if σ.pops = false ∧ w.full = false then { σ with tail := w.t, next := σ.next + 1, pushed := σ.pushed ++ [(σ.next : Int)], stack := σ.stack ++ [(σ.next : Int)] }
  else if σ.pops = true ∧ w.got = true then { σ with tail := w.t, right := σ.right && (decide (0 < σ.stack.length) && (w.x == σ.stack.getD (σ.stack.length - 1) 0)), popped := σ.popped ++ [w.x], stack := σ.stack.take (σ.stack.length - 1) }
  else if σ.pops = true then { σ with tail := w.t, stack := [] }
  else { σ with tail := w.t }
def acc (B : Nat) (D : Int) (σ : PS) (k : Nat) (w : WS) : PS :=
  if (stepW B D w σ.m).1.pc = 99 then closed { σ with m := (stepW B D w σ.m).2, ws := upd σ.ws k none } k (stepW B D w σ.m).1
  else { σ with m := (stepW B D w σ.m).2, ws := upd σ.ws k (some (stepW B D w σ.m).1) }
theorem acc_end {B : Nat} {D : Int} {σ : PS} {k : Nat} {w w' : WS} {m' : List Int} (h : stepW B D w σ.m = (w', m')) (hp : w'.pc = 99) : acc B D σ k w = closed { σ with m := m', ws := upd σ.ws k none } k w' := by
  unfold acc; rw [h]; exact if_pos hp
theorem acc_go {B : Nat} {D : Int} {σ : PS} {k : Nat} {w w' : WS} {m' : List Int} (h : stepW B D w σ.m = (w', m')) (hp : (w'.pc == 99) = false) : acc B D σ k w = { σ with m := m', ws := upd σ.ws k (some w') } := by
  unfold acc; rw [h]; exact if_neg (by simpa using hp)
def lowN (p : Nat) : Nat := if p = 11 ∨ p = 12 ∨ p = 16 ∨ p = 17 ∨ p = 18 ∨ p = 20 then 1 else 0
def claims (p : Nat) : Prop := p = 34 ∨ p = 35 ∨ p = 37
structure OwnerOk (B D : Nat) (σ : PS) (S : Nat) (live : List Int) (w : WS) : Prop where
  t : w.t = σ.tail
  tw : σ.m.getD (B + 1) 0 = σ.tail - (lowN w.pc : Nat)
  pc : w.pc ≤ 2 ∨ (10 ≤ w.pc ∧ w.pc ≤ 20)
  pu : w.pc ≤ 2 → σ.pops = false ∧ w.x = (σ.next : Int) ∧ w.full = false
  p1 : w.pc = 1 ∨ w.pc = 2 → live.length + 1 ≤ D
  p2 : w.pc = 2 → σ.m.getD (B + 4 + (S + live.length) % D) 0 = (σ.next : Int)
  po : 10 ≤ w.pc → σ.pops = true ∧ w.got = false
  q1 : w.pc = 17 ∨ w.pc = 20 → 1 ≤ live.length
  q2 : w.pc = 20 → ∀ k v, σ.ws k = some v → v.pc = 37 → 2 ≤ live.length
  q3 : w.pc = 18 ∨ w.pc = 19 → live = []
structure ThiefOk (S : Nat) (live fl : List Int) (w : WS) : Prop where
  pc : 30 ≤ w.pc ∧ w.pc ≤ 37
  h : w.pc = 33 ∨ w.pc = 34 ∨ w.pc = 35 ∨ w.pc = 37 → w.h = (S : Int)
  l : w.pc = 37 → 1 ≤ live.length
  g : w.pc ≠ 36 → w.got = false
  f : w.pc = 36 → fl = if w.got = true then [w.x] else []
structure Inv (B D : Nat) (σ : PS) (S : Nat) (live settled fl : List Int) (a b cl n0 : Nat) : Prop where
  len : B + 4 + D ≤ σ.m.length
  d2 : 2 ≤ D
  tl : σ.tail = ((S + live.length : Nat) : Int)
  cap : live.length ≤ D
  far : S + live.length + 1 ≤ σ.next
  bd : σ.next ≤ n0 + 1 ∧ a ≤ n0 ∧ n0 ≤ 10000
  slots : ∀ j, j < live.length → σ.m.getD (B + 4 + (S + j) % D) 0 = live.getD j 0
  hd : σ.m.getD B 0 = ((S + cl : Nat) : Int)
  cl1 : cl ≤ 1
  clw : ∀ k w, σ.ws k = some w → claims w.pc → cl = 1
  cle : cl = 1 → ∃ k w, σ.ws k = some w ∧ claims w.pc
  la : σ.m.getD (B + 2) 0 = (a : Int)
  lb : σ.m.getD (B + 3) 0 = (b : Int)
  lk : Lk σ.ws a b
  tw : σ.ws 0 = none → σ.m.getD (B + 1) 0 = σ.tail
  k4 : ∀ k w, σ.ws k = some w → k < 4
  own : ∀ w, σ.ws 0 = some w → OwnerOk B D σ S live w
  thi : ∀ k w, σ.ws k = some w → k ≠ 0 → ThiefOk S live fl w
  fl1 : fl ≠ [] → ∃ k w, σ.ws k = some w ∧ w.pc = 36
  st : settled = σ.stolen ++ fl
  sorted : (settled ++ live).Pairwise (· < ·)
  rng : ∀ y ∈ settled ++ live, 1 ≤ y ∧ y < (σ.next : Int)
  pu : σ.pushed.length + 1 = σ.next ∧ ∀ y : Int, y ∈ σ.pushed ↔ 1 ≤ y ∧ y < (σ.next : Int)
  po : ∀ y ∈ σ.popped, y ∉ settled ++ live
  por : ∀ y ∈ σ.popped, 1 ≤ y ∧ y < (σ.next : Int)
  cnt : σ.popped.length + settled.length + live.length + 1 = σ.next
  stk : ∃ pre, σ.stack = pre ++ live ∧ ∀ y ∈ pre, y ∈ settled
  rt : σ.right = true
theorem updAll {ws : Nat → Option WS} {P : Nat → WS → Prop} {k : Nat} {o : Option WS} (h : ∀ j v, ws j = some v → j ≠ k → P j v) (hk : ∀ v, o = some v → P k v) : ∀ j v, upd ws k o j = some v → P j v := by
  intro j v hj
  by_cases e : j = k
  · subst e; rw [upd_self] at hj; exact hk v hj
  · rw [upd_other e] at hj; exact h j v hj e
theorem updEx {ws : Nat → Option WS} {P : WS → Prop} {k : Nat} {o : Option WS} (h : ∃ j v, ws j = some v ∧ P v) (hk : ∀ v, ws k = some v → P v → ∃ v', o = some v' ∧ P v') : ∃ j v, upd ws k o j = some v ∧ P v := by
  obtain ⟨j, v, hj, hv⟩ := h
  by_cases e : j = k
  · subst e
    obtain ⟨v', h1, h2⟩ := hk v hj hv
    exact ⟨j, v', by rw [upd_self, h1], h2⟩
  · exact ⟨j, v, by rw [upd_other e]; exact hj, hv⟩
theorem claims_hold {p : Nat} (h : claims p) : hold p = true := by rcases h with rfl | rfl | rfl <;> rfl
theorem Inv.mono {B D : Nat} {σ : PS} {S : Nat} {live settled fl : List Int} {a b cl n0 : Nat} (h : Inv B D σ S live settled fl a b cl n0) {n1 : Nat} (h1 : n0 ≤ n1) (h2 : n1 ≤ 10000) : Inv B D σ S live settled fl a b cl n1 :=
  { h with bd := ⟨by have := h.bd; omega, by have := h.bd; omega, h2⟩ }
/-- Nothing else holds the lock. -/
theorem Inv.other {B D : Nat} {σ : PS} {S : Nat} {live settled fl : List Int} {a b cl n0 : Nat} (h : Inv B D σ S live settled fl a b cl n0) {k : Nat} {w : WS} (hk : σ.ws k = some w) (hh : hold w.pc = true) : ∀ j v, σ.ws j = some v → j ≠ k → hold v.pc = false := by
  intro j v hj e
  cases hv : hold v.pc with
  | false => rfl
  | true => exact absurd (h.lk.sole hj hk hv hh) e
theorem Inv.nofl {B D : Nat} {σ : PS} {S : Nat} {live settled fl : List Int} {a b cl n0 : Nat} (h : Inv B D σ S live settled fl a b cl n0) {k : Nat} {w : WS} (hk : σ.ws k = some w) (hh : hold w.pc = true) (h36 : w.pc ≠ 36) : fl = [] := by
  apply Classical.byContradiction
  intro e
  obtain ⟨j, v, hj, hv⟩ := h.fl1 e
  by_cases ej : j = k
  · subst ej; rw [hk] at hj; cases hj; exact h36 hv
  · have := h.other hk hh j v hj ej
    rw [hv] at this; cases this
theorem Inv.nocl {B D : Nat} {σ : PS} {S : Nat} {live settled fl : List Int} {a b cl n0 : Nat} (h : Inv B D σ S live settled fl a b cl n0) {k : Nat} {w : WS} (hk : σ.ws k = some w) (hh : hold w.pc = true) (hc : ¬ claims w.pc) : cl = 0 := by
  have := h.cl1
  apply Classical.byContradiction
  intro e
  obtain ⟨j, v, hj, hv⟩ := h.cle (by omega)
  by_cases ej : j = k
  · subst ej; rw [hk] at hj; cases hj; exact hc hv
  · have h2 := h.other hk hh j v hj ej
    rw [claims_hold hv] at h2; cases h2
/-- The owner goes on; nothing is claimed or settled. -/
theorem Inv.owner {B D : Nat} {σ : PS} {S : Nat} {live settled fl : List Int} {a b cl n0 : Nat} (h : Inv B D σ S live settled fl a b cl n0) {w w' : WS} (hk : σ.ws 0 = some w) {m' : List Int} {a' b' : Nat}
    (hlen : m'.length = σ.m.length) (hsl : ∀ j, j < live.length → m'.getD (B + 4 + (S + j) % D) 0 = σ.m.getD (B + 4 + (S + j) % D) 0) (hhd : m'.getD B 0 = σ.m.getD B 0)
    (ha : m'.getD (B + 2) 0 = (a' : Int)) (hb : m'.getD (B + 3) 0 = (b' : Int)) (hl : Lk (upd σ.ws 0 (some w')) a' b') (ha' : a' ≤ a + 1) (hn : n0 + 1 ≤ 10000)
    (ho : OwnerOk B D { σ with m := m', ws := upd σ.ws 0 (some w') } S live w') : Inv B D { σ with m := m', ws := upd σ.ws 0 (some w') } S live settled fl a' b' cl (n0 + 1) := by
  have hpc := (h.own w hk).pc
  have hpc' := ho.pc
  exact { h with
    len := by rw [hlen]; exact h.len
    bd := ⟨by have := h.bd; show σ.next ≤ _; omega, by have := h.bd; omega, hn⟩
    slots := fun j hj => (hsl j hj).trans (h.slots j hj)
    hd := hhd.trans h.hd
    clw := updAll (fun j v hj _ hc => h.clw j v hj hc) (fun v hv hc => by cases hv; unfold claims at hc; omega)
    cle := fun e => updEx (h.cle e) (fun v hv hc => by rw [hk] at hv; cases hv; unfold claims at hc; omega)
    la := ha
    lb := hb
    lk := hl
    tw := fun e => by
      have e2 := (upd_self σ.ws 0 (some w')).symm.trans e
      cases e2
    k4 := updAll (fun j v hj _ => h.k4 j v hj) (fun v _ => by omega)
    own := fun v hv => by
      have e2 := (upd_self σ.ws 0 (some w')).symm.trans hv
      cases e2
      exact ho
    thi := updAll (fun j v hj _ h0 => h.thi j v hj h0) (fun v _ h0 => absurd rfl h0)
    fl1 := fun e => updEx (h.fl1 e) (fun v hv hc => by rw [hk] at hv; cases hv; omega) }
/-- A thief goes on; nothing is settled. -/
theorem Inv.thief {B D : Nat} {σ : PS} {S : Nat} {live settled fl : List Int} {a b cl n0 : Nat} (h : Inv B D σ S live settled fl a b cl n0) {k : Nat} (h0 : k ≠ 0) {w w' : WS} (hk : σ.ws k = some w) {m' : List Int} {a' b' cl' : Nat}
    (hlen : m'.length = σ.m.length) (hsl : ∀ j, 4 ≤ j → m'.getD (B + j) 0 = σ.m.getD (B + j) 0) (h1 : m'.getD (B + 1) 0 = σ.m.getD (B + 1) 0) (hhd : m'.getD B 0 = ((S + cl' : Nat) : Int))
    (ha : m'.getD (B + 2) 0 = (a' : Int)) (hb : m'.getD (B + 3) 0 = (b' : Int)) (hl : Lk (upd σ.ws k (some w')) a' b') (ha' : a' ≤ a + 1) (hn : n0 + 1 ≤ 10000) (hcl : cl' ≤ 1)
    (hclw : ∀ j v, σ.ws j = some v → j ≠ k → claims v.pc → cl' = 1) (hclk : claims w'.pc → cl' = 1) (hcle : cl' = 1 → claims w'.pc ∨ ∃ j v, σ.ws j = some v ∧ j ≠ k ∧ claims v.pc)
    (h37 : w'.pc = 37 → ∀ v, σ.ws 0 = some v → v.pc = 20 → 2 ≤ live.length)
    (hf : fl = [] ∨ w.pc ≠ 36) (ht : ThiefOk S live fl w') : Inv B D { σ with m := m', ws := upd σ.ws k (some w') } S live settled fl a' b' cl' (n0 + 1) := by
  have hpc' := ht.pc
  have up0 : upd σ.ws k (some w') 0 = σ.ws 0 := upd_other (Ne.symm h0)
  exact { h with
    len := by rw [hlen]; exact h.len
    bd := ⟨by have := h.bd; show σ.next ≤ _; omega, by have := h.bd; omega, hn⟩
    slots := fun j hj => by
      have := hsl (4 + (S + j) % D) (by omega)
      rw [← Nat.add_assoc] at this
      exact this.trans (h.slots j hj)
    hd := hhd
    cl1 := hcl
    clw := updAll (fun j v hj e hc => hclw j v hj e hc) (fun v hv hc => by cases hv; exact hclk hc)
    cle := fun e => by
      rcases hcle e with hc | ⟨j, v, hj, ej, hc⟩
      · exact ⟨k, w', upd_self .., hc⟩
      · exact ⟨j, v, (upd_other ej).trans hj, hc⟩
    la := ha
    lb := hb
    lk := hl
    tw := fun e => h1.trans (h.tw (up0.symm.trans e))
    k4 := updAll (fun j v hj _ => h.k4 j v hj) (fun v _ => h.k4 k w hk)
    own := fun v hv => by
      have hv := up0.symm.trans hv
      have o := h.own v hv
      exact { o with
        tw := h1.trans o.tw
        p2 := fun e => by
          have := hsl (4 + (S + live.length) % D) (by omega)
          rw [← Nat.add_assoc] at this
          exact this.trans (o.p2 e)
        q2 := fun e => updAll (fun j u hj _ hu => o.q2 e j u hj hu) (fun u hu hc => by cases hu; exact h37 hc v hv e) }
    thi := updAll (fun j v hj _ h0 => h.thi j v hj h0) (fun v hv _ => by cases hv; exact ht)
    fl1 := fun e => by
      rcases hf with hf | hf
      · exact absurd hf e
      · exact updEx (h.fl1 e) (fun v hv hc => by rw [hk] at hv; cases hv; exact absurd hc hf) }
end Go.Proofs.Ytofnjapgacgdlaa
