/- A region that draws its order and ends in one store: what is held need not hold behind that store. No program in sight. -/
import Derived.Test.YtboiogjklecpaaaLin
set_option linter.unusedVariables false
set_option linter.unusedSimpArgs false
namespace Go.Proofs.Ytboiogjklecpaaa
open Go.RowKit
section
variable {P : Program} {md : Region.Mode} {ops : Array Oper} {Q : Exit → Act → World → Prop} {S : World → Prop} {z : Nat}
/-- Whatever order is picked, and S holds behind every operation that is carried out, but behind number z. -/
def wpAnyZ (P : Program) (md : Region.Mode) (ops : Array Oper) (Q : Exit → Act → World → Prop) (S : World → Prop) (z : Nat) : Nat → Array Bool → Act → World → Prop
  | 0, listed, a, w => Region.ready md ops listed = [] ∧ Q .normal a w
  | fuel + 1, listed, a, w =>
    (Region.ready md ops listed = [] → Q .normal a w) ∧
    ∀ i ∈ Region.ready md ops listed, wpOp P ops Q i (fun a' w' => (i = z ∨ S w') ∧ wpAnyZ P md ops Q S z fuel (listed.setIfInBounds i true) a' w') a w
theorem wpAny_of_z : ∀ (fuel : Nat) (listed : Array Bool) (a : Act) (w : World), wpAnyZ P md ops Q S z fuel listed a w → wpAny P md ops Q fuel listed a w
  | 0, _, _, _, h => h
  | fuel + 1, _, _, _, h => ⟨h.1, fun i hi => wpOp_mono (fun a' w' h' => wpAny_of_z fuel _ a' w' h'.2) (h.2 i hi)⟩
/-- z cannot come up before i. -/
def Blocked (md : Region.Mode) (ops : Array Oper) (listed : Array Bool) (i z : Nat) : Prop :=
  ∃ C : Nat → Prop, ¬ C z ∧ (∀ k, listed.getD k false = true → C k) ∧ ∀ j oj, ops[j]? = some oj → j ≠ i → (∀ e ∈ oj.after, Region.binds md e = true → C e.on) → C j
theorem wpAnyZ_first {i : Nat} {oi : Oper} {v : Value} (hi : ops[i]? = some oi) (hsel : ∀ (j : Nat) (o : Oper) cs b, ops[j]? = some o → o.op ≠ .select cs b)
    (hQ : ∀ c a w, Q (.panic c) (a.put oi.dst v) w → Q (.panic c) a w) :
    ∀ (fuel : Nat) (listed : Array Bool) (a : Act) (w : World),
      (∀ j oj, ops[j]? = some oj → j ≠ i → listed.getD j true = false → (∀ e ∈ oj.after, Region.binds md e = true → e.on ≠ i) → oi.apart ops oj = true) → Blocked md ops listed i z →
      i ∈ Region.ready md ops listed → YieldsIf P ops S oi v a → S w →
      wpAnyZ P md ops Q S z fuel (listed.setIfInBounds i true) (a.put oi.dst v) w → wpAnyZ P md ops Q S z (fuel + 1) listed a w := by
  intro fuel
  induction fuel with
  | zero =>
    intro listed a w _ _ hr hy hS H
    refine ⟨fun h => (by rw [h] at hr; cases hr), fun j hj => ?_⟩
    by_cases hji : j = i
    · subst hji; exact hy.wpOp hi hS ⟨.inr hS, H⟩
    · have := ready_mono hj hji
      rw [H.1] at this
      cases this
  | succ fuel ih =>
    intro listed a w hfree hbl hr hy hS H
    refine ⟨fun h => (by rw [h] at hr; cases hr), fun j hj => ?_⟩
    by_cases hji : j = i
    · subst hji; exact hy.wpOp hi hS ⟨.inr hS, H⟩
    · have h1 := H.2 j (ready_mono hj hji)
      obtain ⟨hjun, oj, hoj, hall⟩ := mem_ready.1 hj
      obtain ⟨C, hCz, hCl, hCc⟩ := hbl
      have hCj : C j := hCc j oj hoj hji fun e he hb => hCl _ (hall e he hb)
      have hjz : j ≠ z := by rintro rfl; exact hCz hCj
      have hnot : ∀ e ∈ oj.after, Region.binds md e = true → e.on ≠ i := fun e he hb heq => by
        have h1 := hall e he hb
        have h0 := (mem_ready.1 hr).1
        rw [heq] at h1
        rcases Nat.lt_or_ge i listed.size with h' | h'
        · simp [h'] at h0 h1; rw [h0] at h1; cases h1
        · simp [Array.getElem?_eq_none h'] at h1
      have h2 := wpOp_putIf hoj (hfree j oj hoj hji hjun hnot) (fun cs b => hsel i oi cs b hi) (fun cs b => hsel j oj cs b hoj) hQ hy h1
      have hfree' : ∀ k ok, ops[k]? = some ok → k ≠ i → (listed.setIfInBounds j true).getD k true = false →
          (∀ e ∈ ok.after, Region.binds md e = true → e.on ≠ i) → oi.apart ops ok = true := fun k ok hk hki hun hno => by
        refine hfree k ok hk hki ?_ hno
        by_cases hjk : j = k
        · subst hjk; exact hjun
        · rw [getD_set_ne true hjk] at hun; exact hun
      have hbl' : Blocked md ops (listed.setIfInBounds j true) i z := ⟨C, hCz, fun k hk => by
        by_cases hjk : j = k
        · subst hjk; exact hCj
        · rw [getD_set_ne false hjk] at hk; exact hCl k hk, hCc⟩
      refine wpOp_mono (fun a' w' h3 => ?_) h2
      have hS' := h3.2.1.resolve_left hjz
      refine ⟨.inr hS', ih (listed.setIfInBounds j true) a' w' hfree' hbl' (ready_mono hr (Ne.symm hji)) h3.1 hS' ?_⟩
      rw [Array.setIfInBounds_comm _ _ hji]
      exact h3.2.2
def depsIn (md : Region.Mode) (o : Oper) (c : List Bool) : Bool := o.after.all fun e => !Region.binds md e || c.getD e.on false
def stepC (md : Region.Mode) (ops : List Oper) (i : Nat) (c : List Bool) : List Bool := (List.range ops.length).map fun j => c.getD j false || (j != i && match ops[j]? with | some o => depsIn md o c | none => false)
def cloC (md : Region.Mode) (ops : List Oper) (i : Nat) : Nat → List Bool → List Bool
  | 0, c => c
  | n + 1, c => cloC md ops i n (stepC md ops i c)
def blockedB (md : Region.Mode) (ops : Array Oper) (listed : List Bool) (i z : Nat) : Bool :=
  let c := cloC md ops.toList i ops.size listed
  !c.getD z false && (List.range listed.length).all (fun k => !listed.getD k false || c.getD k false) && (List.range ops.size).all (fun j => j == i || c.getD j false || match ops[j]? with | some o => !depsIn md o c | none => true)
theorem blocked_of {listed : List Bool} {i z : Nat} (h : blockedB md ops listed i z = true) : Blocked md ops listed.toArray i z := by
  unfold blockedB at h
  generalize cloC md ops.toList i ops.size listed = c at h
  simp only [Bool.and_eq_true, Bool.not_eq_true', List.all_eq_true, List.mem_range, Bool.or_eq_true] at h
  obtain ⟨⟨h1, h2⟩, h3⟩ := h
  refine ⟨fun k => c.getD k false = true, by show ¬ (c.getD z false = true); rw [h1]; simp, fun k hk => ?_, fun j oj hj hji hd => ?_⟩
  · have hl : k < listed.length := by
      rcases Nat.lt_or_ge k listed.length with h' | h'
      · exact h'
      · simp [List.getElem?_eq_none h'] at hk
    rcases h2 k hl with h | h
    · have hk' : listed.getD k false = true := by simpa using hk
      rw [hk'] at h; cases h
    · exact h
  · have hl : j < ops.size := (Array.getElem?_eq_some_iff.1 hj).1
    rcases h3 j hl with (h | h) | h
    · simp at h; exact absurd h hji
    · exact h
    · rw [hj] at h
      simp only [Bool.not_eq_true'] at h
      have hd' : depsIn md oj c = true := by
        unfold depsIn
        rw [Array.all_eq_true_iff_forall_mem]
        intro e he
        cases hb : Region.binds md e with
        | false => rfl
        | true => simpa using hd e he hb
      rw [hd'] at h; cases h
/-- These operations are still to come up. -/
def wpLz (P : Program) (ops : Array Oper) (Q : Exit → Act → World → Prop) (S : World → Prop) (z : Nat) (listed : List Bool) (rest : List (Nat × Oper)) (a : Act) (w : World) : Prop :=
  (∀ p ∈ rest, ops[p.1]? = some p.2) → wpAnyZ P .any ops Q S z rest.length listed.toArray a w
variable {listed : List Bool} {i : Nat} {o : Oper} {rest : List (Nat × Oper)} {a : Act} {w : World}
theorem lz_rot {x : Nat × Oper} (h : wpLz P ops Q S z listed (rest ++ [x]) a w) : wpLz P ops Q S z listed (x :: rest) a w := by
  intro hd
  have := h fun p hp => hd p (by
    rcases List.mem_append.1 hp with hp | hp
    · exact List.mem_cons_of_mem _ hp
    · simp at hp; subst hp; exact List.mem_cons_self)
  simpa using this
theorem lz_take {v : Value} (hf : takeOk ops listed i = true) (hb : blockedB .any ops listed i z = true) (hs : Region.noSelect ops = true) (hQ : ∀ c a w, Q (.panic c) (a.put o.dst v) w → Q (.panic c) a w)
    (hy : YieldsIf P ops S o v a) (hS : S w) (h : wpLz P ops Q S z (listed.set i true) rest (a.put o.dst v) w) : wpLz P ops Q S z listed ((i, o) :: rest) a w := by
  intro hd
  unfold takeOk at hf
  rw [Bool.and_eq_true] at hf
  have := h fun p hp => hd p (List.mem_cons_of_mem _ hp)
  rw [List.length_cons]
  have hi := hd (i, o) List.mem_cons_self
  refine wpAnyZ_first hi (Region.noSelect_spec hs) hQ rest.length listed.toArray a w (Region.free_spec hi hf.2) (blocked_of hb) (by simpa using hf.1) hy hS ?_
  rw [List.setIfInBounds_toArray]
  exact this
theorem lz_sole (hr : soleOk ops listed i = true)
    (h : ∀ K : Act → World → Prop, Shut (∀ a w, (i = z ∨ S w) → ((i = z ∨ S w) → wpLz P ops Q S z (listed.set i true) rest a w) → K a w) → if Region.wanted o (yielded ops a.tmps) = true then Oper.wp P o a w K Q else K (a.put o.dst undef) w) :
    wpLz P ops Q S z listed ((i, o) :: rest) a w := by
  intro hd
  unfold soleOk at hr
  rw [beq_iff_eq] at hr
  rw [List.length_cons]
  refine ⟨fun h0 => (by rw [hr] at h0; cases h0), fun j hj => ?_⟩
  rw [hr] at hj
  simp at hj
  subst hj
  have hi := hd (j, o) List.mem_cons_self
  unfold Go.wpOp
  simp only [hi]
  have hh := h (fun a' w' => (j = z ∨ S w') ∧ wpAnyZ P .any ops Q S z rest.length (listed.toArray.setIfInBounds j true) a' w') (fun a w hS hW => ⟨hS, by
    have := hW hS fun p hp => hd p (List.mem_cons_of_mem _ hp)
    rw [List.setIfInBounds_toArray]
    exact this⟩)
  split at hh
  · rename_i hw; rw [if_pos hw]; exact .inl hh
  · rename_i hw; rw [if_neg hw]; exact hh
theorem lz_done (hr : Region.ready .any ops listed.toArray = []) (h : Q .normal a w) : wpLz P ops Q S z listed [] a w :=
  fun _ => ⟨hr, h⟩
theorem lz_start {id : Nat} (hm : P.follows .mixedOrders = true) (z n : Nat) (hn : ops.size = n) (hS : S w.drew) (h : wpLz P ops Q S z (List.replicate n false) (numbered 0 ops.toList) a w.drew) : (Code.region id ops true).wp P Q a w := by
  subst hn
  refine wp_region_any hm (wpAny_of_z (S := S) (z := z) _ _ _ _ ?_)
  have := h fun p hp => by simpa using (numbered_get ops.toList 0 p hp).2
  rw [numbered_length, Array.length_toList] at this
  simpa using this
theorem lz_law (hr : soleOk ops listed i = true) (hg : o.guard = none)
    (h : wpList P ops (fun e a w => e = Exit.normal ∧ (S w ∧ (S w → wpLz P ops Q S z (listed.set i true) rest a w))) [o] a w) :
    wpLz P ops Q S z listed ((i, o) :: rest) a w := by
  refine lz_sole hr fun K hK => ?_
  rw [if_pos (by simp [Region.wanted, hg])]
  refine oper_of_list (ops := ops) hg ?_
  refine wpList_weak h fun e a w ⟨he, hS, hW⟩ => ⟨he, hK.out _ _ (.inr hS) (fun _ => hW hS)⟩
end
end Go.Proofs.Ytboiogjklecpaaa
