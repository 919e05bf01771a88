/- BuildDoes: whatever is put together makes the program that the chapter says. -/
import Derived.Test.YtboiogjklecpaaaBldWorks
import Derived.Test.YtboiogjklecpaaaBldAns
import Derived.Test.YtboiogjklecpaaaBldREnd
import Derived.Test.YtboiogjklecpaaaBldFew
set_option linter.unusedVariables false
set_option linter.unusedSimpArgs false
namespace Go.Proofs.Ytboiogjklecpaaa
open Go.RowKit
set_option maxRecDepth 100000
set_option maxHeartbeats 4000000
theorem BOwn.push {w0 w w' : World} {bb : Nat} {mem : Int} {B : List BF} {l : List Ast} (h : BOwn w0 w bb mem B l) (hb : Below w.heap.size w w') (A : Ast) (hA : A.hold w') (hn : ∀ k, A.F k → w.heap.size ≤ k) : BOwn w0 w' bb mem B (A :: l) := by
  obtain ⟨lv, Ms, hM, hO⟩ := h
  refine ⟨lv, Ms, hM, ?_⟩
  have h1 : Own w0 w' (bldC bb mem lv :: bldR lv Ms :: (fnAll Ms ++ l ++ [A])) := hO.push hb A hA hn
  refine h1.pm (.cons _ (.cons _ ?_))
  rw [List.append_assoc]
  exact List.Perm.append_left _ List.perm_append_comm
theorem BOwn.piece {w0 w : World} {bb : Nat} {mem : Int} {B : List BF} {l : List Ast} (h : BOwn w0 w bb mem B l) {A : Ast} (hm : A ∈ l) : A.hold w := by
  obtain ⟨lv, Ms, hM, hO⟩ := h
  exact hO.all _ (List.mem_cons_of_mem _ (List.mem_cons_of_mem _ (List.mem_append_right _ hm)))
def JmpOk (f : BF) : Prop := ∀ p ∈ f.jumps, p.1 < f.code.length ∧ p.2.size ≤ maxLen
theorem JmpOk.step {f : BF} (h : JmpOk f) {o : BO} (hs : o.name.size ≤ maxLen) : JmpOk (f.step o) := by
  have hlt : ∀ p ∈ f.jumps, p.1 < f.code.length + 1 ∧ p.2.size ≤ maxLen := fun p hp => ⟨Nat.lt_succ_of_lt (h p hp).1, (h p hp).2⟩
  unfold BF.step JmpOk
  split
  · intro p hp; rw [List.length_append, List.length_singleton]; exact hlt p hp
  · split
    · split
      · exact h
      · exact h
    · split <;>
      · intro p hp
        rw [List.length_append, List.length_singleton]
        rcases List.mem_append.1 hp with hp | hp
        · exact hlt p hp
        · simp at hp; subst hp; exact ⟨Nat.lt_succ_self _, hs⟩
theorem bld_jmp (os : List BO) : (∀ o ∈ os, o.name.size ≤ maxLen) → ∀ f ∈ bld os, JmpOk f := by
  refine snoc_ind (p := fun os => (∀ o ∈ os, o.name.size ≤ maxLen) → ∀ f ∈ bld os, JmpOk f) (fun _ f hf => by cases hf) (fun os o ih hs => ?_) os
  have ih' := ih (fun o' ho' => hs o' (by simp [ho']))
  rw [bld_snoc]
  by_cases h0 : o.kind = 0
  · rw [bstep_new _ h0]
    intro f hf
    rcases List.mem_append.1 hf with hf | hf
    · exact ih' f hf
    · simp at hf; subst hf; intro p hp; cases hp
  · by_cases hB : bld os = []
    · rw [hB, bstep_nil h0]; intro f hf; cases hf
    · obtain ⟨B', hB'⟩ := split_last hB
      generalize lastB (bld os) = f at hB'
      rw [hB'] at ih' ⊢
      rw [bstep_app _ _ h0]
      intro g hg
      rcases List.mem_append.1 hg with hg | hg
      · exact ih' g (by simp [hg])
      · simp at hg; subst hg; exact (ih' f (by simp)).step (hs o (by simp))
theorem bld_ok {os : List BO} (hl : os.length ≤ 300) (hf : FewOk os) : ∀ f ∈ bld os, FnOk f := by
  intro f hm
  have h1 := (bld_small os).2 f hm
  have h2 := bld_jmp os (fun o ho => Nat.le_trans (hf o ho).2 (by decide)) f hm
  exact ⟨Nat.le_trans h1.1 (by omega), Nat.le_trans h1.2.2 (by omega), fun p hp => (h2 p hp).1, fun p hp => (h2 p hp).2⟩
theorem sameP_self (m : Int) (fs : List (List I4)) : sameP m fs m fs = true := by simp [sameP]
theorem bend_post {w0 w : World} {bb : Nat} {mem : Int} {os : List BO} {l : List Ast} (hl : os.length ≤ 300) (hf : FewOk os) (h : BOwn w0 w bb mem (bld os) l) {m E : Int} {fs : List (List I4)} (hR : refEnd mem os = (m, fs, E)) :
    Calls Try.prog 44 #[.pointer (some ⟨bb, 0, none⟩)] w (EPost w (m, fs, E)) := by
  have := bend (Nat.le_trans (bld_small os).1 (by omega)) (bld_ok hl hf) h
  rw [end_ref mem (fun o ho => (hf o ho).1), hR] at this
  exact this
theorem walkBuildDoes (v0 v1 : Value) (w : World) (h0 : Arg Try.prog w 3 v0) (h1 : Arg Try.prog w 60 v1) : Calls Try.prog 13 #[v0, v1] w fun e w' => e = .returned (.bool true) ∧ Below w.heap.size w w' := by
  obtain ⟨mem, rfl, _⟩ := h0.int Try.underlying3
  obtain ⟨ao, cap, xs, rfl, hx1, hx2, hx3⟩ := h1.rops
  have W := Lib.hid (works07_any w)
  have FW := Lib.hid (fun (w' : World) (hb : Below w.heap.size w w') => few_any ao cap xs w' hx1 hx2 (fun i hi => by
    obtain ⟨g, off, e, hc⟩ := hx3 i hi
    refine ⟨g, off, e, fun j hj => ?_⟩
    have h2 := hc j hj
    have h3 : ((roC (xs.getD i roD))[j]?).isSome = true := by rcases (show j = 0 ∨ j = 1 ∨ j = 2 ∨ j = 3 ∨ j = 4 ∨ j = 5 ∨ j = 6 by omega) with rfl | rfl | rfl | rfl | rfl | rfl | rfl <;> rfl
    rw [cell_old hb _ (by rw [h2]; exact h3)]
    exact h2))
  clear h0 h1 hx1 hx2 hx3
  go_enter Try.func13, Try.ntmps13
  go_upto_region 3 with (go_at_call 38; refine W.out.mono ?_; rintro e w0 ⟨rfl, hb0⟩)
  clear W
  replace FW := Lib.hid (FW.out w0 hb0)
  go_wp2_with fail
  go_at_call 45
  refine FW.out.mono ?_
  rintro e w1 (⟨rfl, hb1⟩ | ⟨os, oa, oc, rfl, hl3, hfo, hO1⟩)
  · have hbb := below_chain hb0 hb1
    clear FW hb0 hb1
    go_wp2
    go_ret
    exact ⟨rfl, hbb⟩
  have hO : Own w w1 [rowA 68 7 (.slice oa os.length oc) os.length (opL os)] := (Own.nil hb0).push hO1.below (rowA 68 7 (.slice oa os.length oc) os.length (opL os)) (hO1.at 0 rfl) (hO1.own _ (by simp))
  clear FW hb0 hO1
  obtain ⟨m, fs, E, hR⟩ : ∃ m fs E, refEnd mem os = (m, fs, E) := ⟨_, _, _, rfl⟩
  replace hR := Lib.hid hR
  replace hfo := Lib.hid hfo
  have P1 := Lib.hid (bnew mem hO)
  clear hO
  go_upto_region 7 with (go_at_call 39; refine P1.out.mono ?_; rintro e w2 ⟨bb, rfl, hB⟩; replace hB := Lib.hid hB)
  clear P1
  have hrow : Row w2 68 7 (.slice oa os.length oc) os.length (opL os) := hB.out.piece (A := rowA 68 7 (.slice oa os.length oc) os.length (opL os)) (by simp)
  have P2 := Lib.hid (rans_any os hl3 oa oc w2 (Row.liesO hrow))
  clear hrow
  go_upto_region 8 with (go_at_call 46; refine P2.out.mono ?_; rintro e w3 ⟨aa, ac, rfl, hA⟩)
  replace hB := Lib.hid (hB.out.push hA.below (rowA 3 1 (.slice aa os.length ac) os.length ((ansT os os.length).map (.int .i64))) (hA.at 0 rfl) (hA.own _ (by simp)))
  clear P2 hA
  have hoc : oc ≤ 9223372036854775807 := by
    have hr : Row w3 68 7 (.slice oa os.length oc) os.length (opL os) := hB.out.piece (A := rowA 68 7 (.slice oa os.length oc) os.length (opL os)) (by simp)
    have := (Row.liesO hr).2.1
    unfold maxLen at this
    omega
  have hac : ac ≤ 9223372036854775807 := by
    have hr : Row w3 3 1 (.slice aa os.length ac) os.length ((ansT os os.length).map (.int .i64)) := hB.out.piece (A := rowA 3 1 (.slice aa os.length ac) os.length ((ansT os os.length).map (.int .i64))) (by simp)
    obtain ⟨_, _, hv, _, h2, _⟩ := hr.shape
    simp only [Value.slice.injEq] at hv
    obtain ⟨_, _, rfl⟩ := hv
    unfold maxLen at h2
    omega
  go_wp2_with fail
  go_loopw [9] (fun i wr => ∃ r : Nat, r ≤ os.length ∧ i = .int .i64 r ∧ Hid (BOwn w wr bb mem (bld (os.take r)) [rowA 3 1 (.slice aa os.length ac) os.length ((ansT os os.length).map (.int .i64)), rowA 68 7 (.slice oa os.length oc) os.length (opL os)])) (fun i _ => (os.length - intOf i).toNat)
  case atStart => exact ⟨0, by omega, rfl, hB⟩
  case round =>
    clear hB
    obtain ⟨r, hr, rfl, hB⟩ := hrel
    by_cases hlt : r < os.length
    · have KO := Lib.hid (fun (w' : World) (B : List BF) (h : BOwn w w' bb mem B [rowA 3 1 (.slice aa os.length ac) os.length ((ansT os os.length).map (.int .i64)), rowA 68 7 (.slice oa os.length oc) os.length (opL os)]) =>
        show Row w' 3 1 (.slice aa os.length ac) os.length ((ansT os os.length).map (.int .i64)) ∧ Row w' 68 7 (.slice oa os.length oc) os.length (opL os) from
        ⟨h.piece (A := rowA 3 1 (.slice aa os.length ac) os.length ((ansT os os.length).map (.int .i64))) (by simp), h.piece (A := rowA 68 7 (.slice oa os.length oc) os.length (opL os)) (by simp)⟩)
      obtain ⟨g, off, rfl, _⟩ := (Row.liesO (KO.out _ _ hB.out).2).get hlt
      obtain ⟨ga, oa, _, hv, _, _, _⟩ := (KO.out _ _ hB.out).1.addr (by omega)
      simp only [Value.slice.injEq] at hv
      obtain ⟨rfl, _, rfl⟩ := hv
      obtain ⟨V, hV⟩ : ∃ V, bans (bld (os.take r)) (os.getD r dfO) = V := ⟨_, rfl⟩
      have hans : (ansT os os.length).getD r 0 = V := by rw [ansT_get os hlt, hV]
      have hbt := bld_take hlt
      have hok := hfo.out (os.getD r dfO) (List.mem_of_getElem? (getq hlt dfO))
      have KP0 := fun (w' : World) (B : List BF) (h : BOwn w w' bb mem B [rowA 3 1 (.slice (some ⟨ga, oa, none⟩) os.length ac) os.length ((ansT os os.length).map (.int .i64)), rowA 68 7 (.slice (some ⟨g, off, none⟩) os.length oc) os.length (opL os)]) => show Seven w' g (off + r * 7) (os.getD r dfO) ∧ w'.cell? ⟨ga, oa + r, none⟩ = some (.int .i64 V) by
        obtain ⟨k1, k2⟩ := KO.out _ _ h
        refine ⟨LiesO.at (Row.liesO k2) hlt, ?_⟩
        have k3 := k1.cells ⟨ga, oa, none⟩ rfl r (.int .i64 V) (by rw [getD_map (by rw [ansT_len]; exact hlt), hans])
        rwa [Addr.add_lit] at k3
      have ST0 := fun (w' : World) (h : BOwn w w' bb mem (bld (os.take r)) [rowA 3 1 (.slice (some ⟨ga, oa, none⟩) os.length ac) os.length ((ansT os os.length).map (.int .i64)), rowA 68 7 (.slice (some ⟨g, off, none⟩) os.length oc) os.length (opL os)]) => bstep_any h (os.getD r dfO).kind (os.getD r dfO).reg (os.getD r dfO).name (os.getD r dfO).x hok.1 (Nat.le_trans (bld_small (os.take r)).1 (Nat.le_trans (List.length_take_le _ _) (by omega))) ((last_small (os.take r)).mono (Nat.le_trans (List.length_take_le _ _) (by omega))) (Nat.le_trans hok.2 (by decide))
      generalize os.getD r dfO = o at *
      rw [show (⟨o.kind, o.reg, o.name, o.x⟩ : BO) = o from rfl, hV, ← hbt] at ST0
      clear hV hbt hans hok KO
      have ST := Lib.hid ST0
      have KP := Lib.hid (fun (w' : World) (h : BOwn w w' bb mem (bld (os.take (r + 1))) [rowA 3 1 (.slice (some ⟨ga, oa, none⟩) os.length ac) os.length ((ansT os os.length).map (.int .i64)), rowA 68 7 (.slice (some ⟨g, off, none⟩) os.length oc) os.length (opL os)]) => show (fun w' : World => w'.cell? ⟨g, off + r * 7, none⟩ = some (.int .i64 (o.kind : Int)) ∧ w'.cell? ⟨g, off + r * 7 + 1, none⟩ = some (.int .i64 o.reg) ∧ w'.cell? ⟨g, off + r * 7 + 2, none⟩ = some (.string o.name) ∧ w'.cell? ⟨g, off + r * 7 + 3, none⟩ = some (.int .i64 o.x.1) ∧ w'.cell? ⟨g, off + r * 7 + 4, none⟩ = some (.int .i64 o.x.2.1) ∧ w'.cell? ⟨g, off + r * 7 + 5, none⟩ = some (.int .i64 o.x.2.2.1) ∧ w'.cell? ⟨g, off + r * 7 + 6, none⟩ = some (.int .i64 o.x.2.2.2) ∧ w'.cell? ⟨ga, oa + r, none⟩ = some (.int .i64 V)) w' by
        obtain ⟨⟨a0, a1, a2, a3, a4, a5, a6⟩, a7⟩ := KP0 _ _ h
        exact ⟨a0, a1, a2, a3, a4, a5, a6, a7⟩)
      have KP1 := Lib.hid (fun (w' : World) (h : BOwn w w' bb mem (bld (os.take r)) [rowA 3 1 (.slice (some ⟨ga, oa, none⟩) os.length ac) os.length ((ansT os os.length).map (.int .i64)), rowA 68 7 (.slice (some ⟨g, off, none⟩) os.length oc) os.length (opL os)]) => show (fun w' : World => w'.cell? ⟨g, off + r * 7, none⟩ = some (.int .i64 (o.kind : Int)) ∧ w'.cell? ⟨g, off + r * 7 + 1, none⟩ = some (.int .i64 o.reg) ∧ w'.cell? ⟨g, off + r * 7 + 2, none⟩ = some (.string o.name) ∧ w'.cell? ⟨g, off + r * 7 + 3, none⟩ = some (.int .i64 o.x.1) ∧ w'.cell? ⟨g, off + r * 7 + 4, none⟩ = some (.int .i64 o.x.2.1) ∧ w'.cell? ⟨g, off + r * 7 + 5, none⟩ = some (.int .i64 o.x.2.2.1) ∧ w'.cell? ⟨g, off + r * 7 + 6, none⟩ = some (.int .i64 o.x.2.2.2) ∧ w'.cell? ⟨ga, oa + r, none⟩ = some (.int .i64 V)) w' by
        obtain ⟨⟨a0, a1, a2, a3, a4, a5, a6⟩, a7⟩ := KP0 _ _ h
        exact ⟨a0, a1, a2, a3, a4, a5, a6, a7⟩)
      clear ST0 KP0
      generalize os.length = M at *
      have hlti : (r : Int) < (M : Int) := by omega
      go_upto_region 11 with fail
      generalize hww : wr = wq at *
      clear hww
      have hB1 := Lib.hid (hB.out.grow (w' := wq.drew) (Own.drewN.below_drewN0 (Below.refl _ _) 1))
      clear hB
      have hS0 := KP1.out _ hB1.out
      clear KP1
      refine lin_start (S := (fun w' : World => w'.cell? ⟨g, off + r * 7, none⟩ = some (.int .i64 (o.kind : Int)) ∧ w'.cell? ⟨g, off + r * 7 + 1, none⟩ = some (.int .i64 o.reg) ∧ w'.cell? ⟨g, off + r * 7 + 2, none⟩ = some (.string o.name) ∧ w'.cell? ⟨g, off + r * 7 + 3, none⟩ = some (.int .i64 o.x.1) ∧ w'.cell? ⟨g, off + r * 7 + 4, none⟩ = some (.int .i64 o.x.2.1) ∧ w'.cell? ⟨g, off + r * 7 + 5, none⟩ = some (.int .i64 o.x.2.2.1) ∧ w'.cell? ⟨g, off + r * 7 + 6, none⟩ = some (.int .i64 o.x.2.2.2) ∧ w'.cell? ⟨ga, oa + r, none⟩ = some (.int .i64 V))) rfl 11 rfl hS0 ?_
      simp only [numbered, Nat.zero_add, Nat.reduceAdd]
      refine lin_take (v := ?_) (by kernel_rfl) (by kernel_rfl) (fun _ _ _ h => h) (Or.inl ⟨by rfl, ?_⟩) (by assumption) ?_; (rotate_left; (intro wS hSw; (try dsimp only at hSw); go_simp; (try with_reducible rfl)); rotate_left); simp only [Act.put, List.setIfInBounds_toArray, List.set_cons_zero, List.set_cons_succ]
      refine lin_take (v := ?_) (by kernel_rfl) (by kernel_rfl) (fun _ _ _ h => h) (Or.inl ⟨by rfl, ?_⟩) (by assumption) ?_; (rotate_left; (intro wS hSw; (try dsimp only at hSw); go_simp; (try with_reducible rfl)); rotate_left); simp only [Act.put, List.setIfInBounds_toArray, List.set_cons_zero, List.set_cons_succ]
      refine lin_take (v := ?_) (by kernel_rfl) (by kernel_rfl) (fun _ _ _ h => h) (Or.inl ⟨by rfl, ?_⟩) (by assumption) ?_; (rotate_left; (intro wS hSw; (try dsimp only at hSw); go_simp; (try with_reducible rfl)); rotate_left); simp only [Act.put, List.setIfInBounds_toArray, List.set_cons_zero, List.set_cons_succ]
      refine lin_take (v := ?_) (by kernel_rfl) (by kernel_rfl) (fun _ _ _ h => h) (Or.inl ⟨by rfl, ?_⟩) (by assumption) ?_; (rotate_left; (intro wS hSw; (try dsimp only at hSw); go_simp; (try with_reducible rfl)); rotate_left); simp only [Act.put, List.setIfInBounds_toArray, List.set_cons_zero, List.set_cons_succ]
      refine lin_take (v := ?_) (by kernel_rfl) (by kernel_rfl) (fun _ _ _ h => h) (Or.inl ⟨by rfl, ?_⟩) (by assumption) ?_; (rotate_left; (intro wS hSw; (try dsimp only at hSw); go_simp; (try with_reducible rfl)); rotate_left); simp only [Act.put, List.setIfInBounds_toArray, List.set_cons_zero, List.set_cons_succ]
      refine lin_rot ?_; simp only [List.cons_append, List.nil_append]
      refine lin_take (v := ?_) (by kernel_rfl) (by kernel_rfl) (fun _ _ _ h => h) (Or.inl ⟨by rfl, ?_⟩) (by assumption) ?_; (rotate_left; (intro wS hSw; (try dsimp only at hSw); go_simp; (try with_reducible rfl)); rotate_left); simp only [Act.put, List.setIfInBounds_toArray, List.set_cons_zero, List.set_cons_succ]
      refine lin_take (v := ?_) (by kernel_rfl) (by kernel_rfl) (fun _ _ _ h => h) (Or.inl ⟨by rfl, ?_⟩) (by assumption) ?_; (rotate_left; (intro wS hSw; (try dsimp only at hSw); go_simp; (try with_reducible rfl)); rotate_left); simp only [Act.put, List.setIfInBounds_toArray, List.set_cons_zero, List.set_cons_succ]
      refine lin_take (v := ?_) (by kernel_rfl) (by kernel_rfl) (fun _ _ _ h => h) (Or.inl ⟨by rfl, ?_⟩) (by assumption) ?_; (rotate_left; (intro wS hSw; (try dsimp only at hSw); go_simp; (try with_reducible rfl)); rotate_left); simp only [Act.put, List.setIfInBounds_toArray, List.set_cons_zero, List.set_cons_succ]
      refine lin_take (v := ?_) (by kernel_rfl) (by kernel_rfl) (fun _ _ _ h => h) (Or.inl ⟨by rfl, ?_⟩) (by assumption) ?_; (rotate_left; (intro wS hSw; (try dsimp only at hSw); go_simp; (try with_reducible rfl)); rotate_left); simp only [Act.put, List.setIfInBounds_toArray, List.set_cons_zero, List.set_cons_succ]
      refine lin_rot ?_; simp only [List.cons_append, List.nil_append]
      refine lin_sole (by kernel_rfl) (fun K hK => ?_)
      go_simp
      go_at_call 47
      refine (ST.out _ hB1.out).mono ?_
      rintro e w2 ⟨rfl, hB2⟩
      replace hB2 := Lib.hid hB2
      refine hK.out _ _ ?_ (fun hHeld => ?_)
      · exact KP.out _ hB2.out
      try simp only [Act.put, List.setIfInBounds_toArray, List.set_cons_zero, List.set_cons_succ]
      clear hK
      refine lin_take (v := ?_) (by kernel_rfl) (by kernel_rfl) (fun _ _ _ h => h) (Or.inl ⟨by rfl, ?_⟩) (by assumption) ?_; (rotate_left; (intro wS hSw; (try dsimp only at hSw); go_simp; (try with_reducible rfl)); rotate_left); simp only [Act.put, List.setIfInBounds_toArray, List.set_cons_zero, List.set_cons_succ]
      refine lin_done (by kernel_rfl) ?_
      go_wp2_with fail
      go_round
      case rel => exact ⟨r + 1, by omega, by first | rfl | trivial | go_num, hB2⟩
      case measure => simp [intOf]; omega
    · obtain rfl : r = os.length := by omega
      rw [List.take_length] at hB
      have hop : Row wr 68 7 (.slice oa os.length oc) os.length (opL os) := hB.out.piece (A := rowA 68 7 (.slice oa os.length oc) os.length (opL os)) (by simp)
      have hLO := Lib.hid (Row.liesO hop)
      have P3 := Lib.hid (bend_post hl3 hfo.out hB.out hR.out)
      clear hop
      go_upto_region 14 with (go_at_call 44; refine P3.out.mono ?_; rintro e w4 ⟨ap, cp, rfl, hLp, hb4⟩)
      have hb5 : Below wr.heap.size wr (w4.alloc (.cells #[.int .i64 m, .slice ap fs.length cp] 42)) := below_chain hb4 (by go_grown)
      have c10 : (w4.alloc (.cells #[.int .i64 m, .slice ap fs.length cp] 42)).heap[w4.heap.size]? = some (.cells #[.int .i64 m, .slice ap fs.length cp] 42 (0, 0)) := alloc_new _ _
      replace hLp := Lib.hid (hLp.below (w' := w4.alloc (.cells #[.int .i64 m, .slice ap fs.length cp] 42)) (by go_grown))
      have hB5 := Lib.hid (hB.out.grow hb5)
      replace hLO := Lib.hid (hLO.out.below hb5)
      obtain ⟨pb, hpb⟩ : ∃ pb, w4.heap.size = pb := ⟨_, rfl⟩
      rw [hpb] at c10 ⊢
      clear P3 hB hb4 hb5
      generalize w4.alloc (.cells #[.int .i64 m, .slice ap fs.length cp] 42) = w5 at *
      clear hpb
      have P4 := rend mem os hl3 (fun o ho => (hfo.out o ho).1) oa oc w5 hLO.out
      rw [hR.out] at P4
      replace P4 := Lib.hid P4
      replace c10 := Lib.hid c10
      go_upto_region 15 with (go_at_call 48; refine P4.out.mono ?_; rintro e w6 ⟨aq, cq, rfl, hLq, hb6⟩)
      have hb7 : Below w5.heap.size w5 (w6.alloc (.cells #[.int .i64 m, .slice aq fs.length cq] 42)) := below_chain hb6 (by go_grown)
      have c12 : (w6.alloc (.cells #[.int .i64 m, .slice aq fs.length cq] 42)).heap[w6.heap.size]? = some (.cells #[.int .i64 m, .slice aq fs.length cq] 42 (0, 0)) := alloc_new _ _
      replace hLq := Lib.hid (hLq.below (w' := w6.alloc (.cells #[.int .i64 m, .slice aq fs.length cq] 42)) (by go_grown))
      replace hLp := Lib.hid (hLp.out.below hb7)
      replace c10 := Lib.hid (below_at hb7 c10.out (lt_at c10.out))
      have hB7 := Lib.hid (hB5.out.grow hb7)
      obtain ⟨qb, hqb⟩ : ∃ qb, w6.heap.size = qb := ⟨_, rfl⟩
      rw [hqb] at c12 ⊢
      clear P4 hB5 hb6 hb7 hLO
      generalize w6.alloc (.cells #[.int .i64 m, .slice aq fs.length cq] 42) = w7 at *
      clear hqb
      have P5 := Lib.hid (bend_post hl3 hfo.out hB7.out hR.out)
      replace c12 := Lib.hid c12
      go_upto_region 16 with (go_at_call 44; refine P5.out.mono ?_; rintro e w8 ⟨ar, cr, rfl, hLr, hb8⟩)
      have hb9 : Below w7.heap.size w7 (w8.alloc (.cells #[.int .i64 m, .slice ar fs.length cr] 42)) := below_chain hb8 (by go_grown)
      have c14 : (w8.alloc (.cells #[.int .i64 m, .slice ar fs.length cr] 42)).heap[w8.heap.size]? = some (.cells #[.int .i64 m, .slice ar fs.length cr] 42 (0, 0)) := alloc_new _ _
      replace hLr := Lib.hid (hLr.below (w' := w8.alloc (.cells #[.int .i64 m, .slice ar fs.length cr] 42)) (by go_grown))
      replace hLp := Lib.hid (hLp.out.below hb9)
      replace hLq := Lib.hid (hLq.out.below hb9)
      replace c10 := Lib.hid (below_at hb9 c10.out (lt_at c10.out))
      replace c12 := Lib.hid (below_at hb9 c12.out (lt_at c12.out))
      have hbW := Lib.hid (below_chain hB7.out.below hb9)
      obtain ⟨rb, hrb⟩ : ∃ rb, w8.heap.size = rb := ⟨_, rfl⟩
      rw [hrb] at c14 ⊢
      clear P5 hB7 hb8 hb9
      generalize w8.alloc (.cells #[.int .i64 m, .slice ar fs.length cr] 42) = w9 at *
      clear hrb
      have Q1 := Lib.hid (fun (w' : World) => bgoto_none (nolasts_nil w') ⟨#[97]⟩)
      have Q2 := Lib.hid (fun (w' : World) => bzero_none (nolasts_nil w') 0 ⟨#[97]⟩)
      have Q3 := Lib.hid (fun (w' : World) => bend_nil w')
      replace c14 := Lib.hid c14
      go_upto_region 20 with (first | (go_at_call 43; refine (Q1.out _).mono ?_; rintro e w10 ⟨rfl, hb10⟩) | (go_at_call 49; refine (Q2.out _).mono ?_; rintro e w11 ⟨rfl, hb11⟩) | (go_at_call 44; refine (Q3.out _).mono ?_; rintro e w12 ⟨an, cn, rfl, hLn, hb12⟩; clear hLn))
      have hbX : Below w9.heap.size w9 (w12.alloc (.cells #[.int .i64 0, .slice an 0 cn] 42)) := below_chain (below_chain hb10 (below_chain hb11 hb12)) (by go_grown)
      replace hLp := Lib.hid (hLp.out.below hbX)
      replace hLq := Lib.hid (hLq.out.below hbX)
      replace hLr := Lib.hid (hLr.out.below hbX)
      replace c10 := below_at hbX c10.out (lt_at c10.out)
      replace c12 := below_at hbX c12.out (lt_at c12.out)
      replace c14 := below_at hbX c14.out (lt_at c14.out)
      replace hbW := Lib.hid (below_chain hbW.out hbX)
      clear hbX hb10 hb11 hb12 Q1 Q2 Q3
      generalize w12.alloc (.cells #[.int .i64 0, .slice an 0 cn] 42) = u at *
      have d0 := cell_at c10 0
      have d1 := cell_at c10 1
      have d2 := cell_at c12 0
      have d3 := cell_at c12 1
      have d4 := cell_at c14 0
      have d5 := cell_at c14 1
      simp at d0 d1 d2 d3 d4 d5
      clear c10 c12 c14 hR hfo
      have S1 := Lib.hid (same_any m m fs fs ap aq cp cq u hLp.out hLq.out)
      have S2 := Lib.hid (fun (w' : World) (hb : Below u.heap.size u w') => same_any m m fs fs ar aq cr cq w' (hLr.out.below hb) (hLq.out.below hb))
      rw [sameP_self] at S1 S2
      have T1 := Lib.hid (fun (w' : World) => bfunc_nil w')
      have T2 := Lib.hid (fun (w' : World) => badd_none (v := .slice none 0 0) (nolasts_nil w' w' (Below.refl _ _)))
      have T3 := Lib.hid (fun (w' : World) => blabel_none (v := .string ⟨#[97]⟩) (nolasts_nil w' w' (Below.refl _ _)))
      clear hLp hLq hLr
      go_wp2_with fail
      go_at_call 34
      refine S1.out.mono ?_
      rintro e x1 ⟨rfl, hx1⟩
      have d2' := (cell_old hx1 _ (by rw [d2]; rfl)).trans d2
      have d3' := (cell_old hx1 _ (by rw [d3]; rfl)).trans d3
      have d4' := (cell_old hx1 _ (by rw [d4]; rfl)).trans d4
      have d5' := (cell_old hx1 _ (by rw [d5]; rfl)).trans d5
      go_wp2_with fail
      go_at_call 34
      refine (S2.out _ hx1).mono ?_
      rintro e x2 ⟨rfl, hx2⟩
      replace hbW := Lib.hid (below_chain hbW.out (below_chain hx1 hx2))
      clear hx1 hx2 d0 d1 d2 d3 d4 d5 d2' d3' d4' d5'
      go_wp2_with (first | (go_at_call 40; refine (T1.out _).mono ?_; rintro e x3 ⟨rfl, rfl⟩) | (go_at_call 42; refine (T2.out _).mono ?_; rintro e x4 ⟨rfl, rfl⟩) | (go_at_call 41; refine (T3.out _).mono ?_; rintro e x5 ⟨rfl, rfl⟩))
      go_ret
      exact ⟨rfl, hbW.out⟩
end Go.Proofs.Ytboiogjklecpaaa
