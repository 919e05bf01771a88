/- The walk through the law DequeOnce. -/
import Derived.Test.YtofnjapgacgdlaaDqPlayWalk
import Derived.Test.YtofnjapgacgdlaaLies
set_option linter.unusedVariables false
set_option linter.unusedSimpArgs false
namespace Go.Proofs.Ytofnjapgacgdlaa
open Go.RowKit
set_option maxRecDepth 100000
set_option maxHeartbeats 20000000
theorem filter_snoc {l : List Int} {n : Nat} (h : n < l.length) (p : Int → Bool) : ((l.take (n + 1)).filter p).length = ((l.take n).filter p).length + (if p (l.getD n 0) = true then 1 else 0) := by
  rw [List.take_succ_eq_append_getElem h, List.filter_append]
  rw [List.getD_eq_getElem?_getD, List.getElem?_eq_getElem h]
  simp only [Option.getD_some, List.length_append]
  congr 1
  by_cases c : p l[n] = true
  · rw [if_pos c, List.filter_cons_of_pos c]; rfl
  · rw [if_neg c, List.filter_cons_of_neg c]; rfl
/-- The play's lists in memory. -/
def OnceL (ob : Nat) (pv qv sv kv : Value) (σ : PS) : List Ast := [outA ob pv qv sv kv true, rI pv σ.pushed, rI qv σ.popped, rI sv σ.stolen, rI kv σ.stack]
theorem donce_core (a : Nat) (os : List (Nat × Nat × Int)) (oo : Option Addr) (oc g0 off : Nat) (w : World) (ha : a < 256) (h1 : os.length ≤ oc) (h2 : oc ≤ maxLen) (hl : os.length ≤ 300)
    (ho : ∀ i, i < os.length → oo = some ⟨g0, off, none⟩ ∧ ∃ a b x, os.getD i (0, 0, 0) = (a, b, x) ∧ a < 256 ∧ b < 256 ∧ w.cell? ⟨g0, off + i * 3, none⟩ = some (.int .u8 a) ∧ w.cell? ⟨g0, off + i * 3 + 1, none⟩ = some (.int .u8 b) ∧ w.cell? ⟨g0, off + i * 3 + 2, none⟩ = some (.int .i64 x)) :
    Calls Try.prog 8 #[.int .u8 a, .slice oo os.length oc] w fun e w' => e = .returned (.bool true) ∧ Below w.heap.size w w' := by
  obtain ⟨D, hD⟩ : ∃ D : Nat, a % 7 + 2 = D := ⟨_, rfl⟩
  obtain ⟨A, hA⟩ : ∃ A : Nat, a % 7 = A := ⟨_, rfl⟩
  have hDb : 2 ≤ D ∧ D ≤ 8 := by omega
  have i1 : IntKind.i64.wrap (a : Int) = (a : Int) := IntWalk.i64_in _ (by omega)
  have e1 : (a : Int).tmod 7 = (A : Int) := by rw [Int.tmod_eq_emod_of_nonneg (by omega)]; omega
  have e1b : (A : Int) + 2 = (D : Int) := by omega
  have hA9 : A < 7 := by omega
  clear hD hA
  have PL := Lib.hid (fun (w1 : World) (hb : Below w.heap.size w w1) => play_any D hDb os oo oc g0 off w1 h1 h2 hl (fun i hi => by
    obtain ⟨q0, x, b, y, q1, q2, q3, q4, q5, q6⟩ := ho i hi
    have old : ∀ {p : Addr} {v : Value}, w.cell? p = some v → w1.cell? p = some v := fun {p v} hp => by rw [cell_old hb p (by rw [hp]; rfl)]; exact hp
    exact ⟨q0, x, b, y, q1, q2, q3, old q4, old q5, old q6⟩))
  unfold maxLen at h2
  clear ho
  go_enter Try.func8, Try.ntmps8
  go_wp2_with (first | (go_at_call 30; refine (works13_any _).mono ?_; rintro e wa ⟨rfl, hb0⟩) | (go_at_call 35; refine (PL.out _ hb0).mono ?_; rintro e w2 ⟨σ, pv, qv, sv, kv, rfl, hE, hlen, hO⟩; replace hE := Lib.hid hE; obtain ⟨bp, cp, rfl, bp1, bp2, _⟩ := (hO.row 0 rfl).shape; obtain ⟨bq, cq, rfl, bq1, bq2, _⟩ := (hO.row 1 rfl).shape; obtain ⟨bs, cs, rfl, bs1, bs2, _⟩ := (hO.row 2 rfl).shape; obtain ⟨bk, ck, rfl, bk1, bk2, _⟩ := (hO.row 3 rfl).shape; unfold maxLen at bp2 bq2 bs2 bk2))
  have hB := Lib.hid (below_chain hb0 hO.below)
  have hO2 := (hO.box #[.slice bp σ.pushed.length cp, .slice bq σ.popped.length cq, .slice bs σ.stolen.length cs, .slice bk σ.stack.length ck, .bool true] 60).sel [4, 0, 1, 2, 3] (by decide)
  replace hO2 : Own wa (w2.alloc (.cells #[.slice bp σ.pushed.length cp, .slice bq σ.popped.length cq, .slice bs σ.stolen.length cs, .slice bk σ.stack.length ck, .bool true] 60)) (OnceL w2.heap.size (.slice bp σ.pushed.length cp) (.slice bq σ.popped.length cq) (.slice bs σ.stolen.length cs) (.slice bk σ.stack.length ck) σ) := hO2
  generalize w2.alloc (.cells #[.slice bp σ.pushed.length cp, .slice bq σ.popped.length cq, .slice bs σ.stolen.length cs, .slice bk σ.stack.length ck, .bool true] 60) = w3 at *
  generalize w2.heap.size = ob at *
  clear hO
  have hBB := Lib.hid (fun (w1 : World) (h : Own wa w1 (OnceL ob (.slice bp σ.pushed.length cp) (.slice bq σ.popped.length cq) (.slice bs σ.stolen.length cs) (.slice bk σ.stack.length ck) σ)) => below_chain hb0 h.below)
  obtain ⟨l1, l2, l3, l4⟩ := hlen
  replace hO2 := Lib.hid hO2
  go_loopw [6] (fun kv wr => ∃ k : Nat, k ≤ σ.stolen.length ∧ kv = .int .i64 k ∧ Hid (Own wa wr (OnceL ob (.slice bp σ.pushed.length cp) (.slice bq σ.popped.length cq) (.slice bs σ.stolen.length cs) (.slice bk σ.stack.length ck) σ))) (fun kv _ => (σ.stolen.length - intOf kv).toNat)
  case atStart => exact ⟨0, by omega, rfl, hO2⟩
  case round =>
    clear hO2
    obtain ⟨k, hk, rfl, hO⟩ := hrel
    have x0 := (hO.out.cget 0 rfl 0).1
    have x1 := (hO.out.cget 0 rfl 1).1
    have x2 := (hO.out.cget 0 rfl 2).1
    have x3 := (hO.out.cget 0 rfl 3).1
    simp at x0 x1 x2 x3
    by_cases hlt : k < σ.stolen.length
    · have hbs : ∃ g3 o3, bs = some ⟨g3, o3, none⟩ ∧ ∀ j, j < σ.stolen.length → wr.cell? ⟨g3, o3 + j, none⟩ = some (.int .i64 (σ.stolen.getD j 0)) := by
        obtain ⟨g3, o3, cap3, hv3, q1, q2, q3, q4⟩ := (hO.out.row 3 rfl).addr (show 0 < σ.stolen.length by omega)
        simp only [Value.slice.injEq] at hv3
        exact ⟨g3, o3, hv3.1, fun j hj => by rw [q3 j (by omega), getD_map hj]⟩
      obtain ⟨g3, o3, rfl, hc⟩ := hbs
      have hmem : ∀ j, j < σ.stolen.length → σ.stolen.getD j 0 ∈ σ.stolen := fun j hj => by
        rw [List.getD_eq_getElem?_getD, List.getElem?_eq_getElem hj]; exact List.getElem_mem hj
      have xk := hc k hlt
      have n1 := hE.out.notpop _ (hmem k hlt)
      have n2 := hE.out.inpush _ (hmem k hlt)
      have HQ := Lib.hid (show Calls Try.prog 36 #[.slice bq σ.popped.length cq, .int .i64 (σ.stolen.getD k 0)] wr.drew (fun e w' => e = .returned (.bool false) ∧ wr.drew = w') from has_any (Lies.of_row ((hO.out.drewN 1).row 2 rfl) rfl) (σ.stolen.getD k 0) false (decide_eq_false n1))
      have HP := Lib.hid (show Calls Try.prog 36 #[.slice bp σ.pushed.length cp, .int .i64 (σ.stolen.getD k 0)] wr.drew (fun e w' => e = .returned (.bool true) ∧ wr.drew = w') from has_any (Lies.of_row ((hO.out.drewN 1).row 1 rfl) rfl) (σ.stolen.getD k 0) true (decide_eq_true n2))
      have hO1 := Lib.hid (hO.out.drewN 1)
      cases k with
      | zero =>
        generalize hX : σ.stolen.getD 0 0 = X at *
        have hS0 := (show (fun w' : World => w'.cell? ⟨ob, 0, none⟩ = some (.slice bp σ.pushed.length cp) ∧ w'.cell? ⟨ob, 1, none⟩ = some (.slice bq σ.popped.length cq) ∧ w'.cell? ⟨ob, 2, none⟩ = some (.slice (some ⟨g3, o3, none⟩) σ.stolen.length cs) ∧ w'.cell? ⟨g3, o3, none⟩ = some (.int .i64 X)) _ from ⟨x0, x1, x2, xk⟩)
        clear hX n1 n2 hmem hc
        go_wp2_with fail
        refine lin_start (S := (fun w' : World => w'.cell? ⟨ob, 0, none⟩ = some (.slice bp σ.pushed.length cp) ∧ w'.cell? ⟨ob, 1, none⟩ = some (.slice bq σ.popped.length cq) ∧ w'.cell? ⟨ob, 2, none⟩ = some (.slice (some ⟨g3, o3, none⟩) σ.stolen.length cs) ∧ w'.cell? ⟨g3, o3, none⟩ = some (.int .i64 X))) rfl 37 rfl hS0 ?_
        simp only [numbered, Nat.zero_add, Nat.reduceAdd]
        refine lin_take (v := ?_) (by kernel_rfl) (by kernel_rfl) (fun _ _ _ h => h) (Or.inl ⟨by rfl, ?_⟩) (by assumption) ?_; (rotate_left; (intro wS hSw; (try dsimp only at hSw); go_simp; (try with_reducible rfl)); rotate_left); simp only [Act.put, List.setIfInBounds_toArray, List.set_cons_zero, List.set_cons_succ]
        refine lin_take (v := ?_) (by kernel_rfl) (by kernel_rfl) (fun _ _ _ h => h) (Or.inl ⟨by rfl, ?_⟩) (by assumption) ?_; (rotate_left; (intro wS hSw; (try dsimp only at hSw); go_simp; (try with_reducible rfl)); rotate_left); simp only [Act.put, List.setIfInBounds_toArray, List.set_cons_zero, List.set_cons_succ]
        refine lin_take (v := ?_) (by kernel_rfl) (by kernel_rfl) (fun _ _ _ h => h) (Or.inl ⟨by rfl, ?_⟩) (by assumption) ?_; (rotate_left; (intro wS hSw; (try dsimp only at hSw); go_simp; (try with_reducible rfl)); rotate_left); simp only [Act.put, List.setIfInBounds_toArray, List.set_cons_zero, List.set_cons_succ]
        refine lin_take (v := undef) (by kernel_rfl) (by kernel_rfl) (fun _ _ _ h => h) (Or.inr ⟨by rfl, rfl⟩) (by assumption) ?_; simp only [Act.put, List.setIfInBounds_toArray, List.set_cons_zero, List.set_cons_succ]
        refine lin_take (v := undef) (by kernel_rfl) (by kernel_rfl) (fun _ _ _ h => h) (Or.inr ⟨by rfl, rfl⟩) (by assumption) ?_; simp only [Act.put, List.setIfInBounds_toArray, List.set_cons_zero, List.set_cons_succ]
        refine lin_take (v := undef) (by kernel_rfl) (by kernel_rfl) (fun _ _ _ h => h) (Or.inr ⟨by rfl, rfl⟩) (by assumption) ?_; simp only [Act.put, List.setIfInBounds_toArray, List.set_cons_zero, List.set_cons_succ]
        refine lin_take (v := undef) (by kernel_rfl) (by kernel_rfl) (fun _ _ _ h => h) (Or.inr ⟨by rfl, rfl⟩) (by assumption) ?_; simp only [Act.put, List.setIfInBounds_toArray, List.set_cons_zero, List.set_cons_succ]
        refine lin_take (v := undef) (by kernel_rfl) (by kernel_rfl) (fun _ _ _ h => h) (Or.inr ⟨by rfl, rfl⟩) (by assumption) ?_; simp only [Act.put, List.setIfInBounds_toArray, List.set_cons_zero, List.set_cons_succ]
        refine lin_take (v := undef) (by kernel_rfl) (by kernel_rfl) (fun _ _ _ h => h) (Or.inr ⟨by rfl, rfl⟩) (by assumption) ?_; simp only [Act.put, List.setIfInBounds_toArray, List.set_cons_zero, List.set_cons_succ]
        refine lin_take (v := undef) (by kernel_rfl) (by kernel_rfl) (fun _ _ _ h => h) (Or.inr ⟨by rfl, rfl⟩) (by assumption) ?_; simp only [Act.put, List.setIfInBounds_toArray, List.set_cons_zero, List.set_cons_succ]
        refine lin_take (v := undef) (by kernel_rfl) (by kernel_rfl) (fun _ _ _ h => h) (Or.inr ⟨by rfl, rfl⟩) (by assumption) ?_; simp only [Act.put, List.setIfInBounds_toArray, List.set_cons_zero, List.set_cons_succ]
        refine lin_take (v := undef) (by kernel_rfl) (by kernel_rfl) (fun _ _ _ h => h) (Or.inr ⟨by rfl, rfl⟩) (by assumption) ?_; simp only [Act.put, List.setIfInBounds_toArray, List.set_cons_zero, List.set_cons_succ]
        refine lin_take (v := undef) (by kernel_rfl) (by kernel_rfl) (fun _ _ _ h => h) (Or.inr ⟨by rfl, rfl⟩) (by assumption) ?_; simp only [Act.put, List.setIfInBounds_toArray, List.set_cons_zero, List.set_cons_succ]
        refine lin_take (v := undef) (by kernel_rfl) (by kernel_rfl) (fun _ _ _ h => h) (Or.inr ⟨by rfl, rfl⟩) (by assumption) ?_; simp only [Act.put, List.setIfInBounds_toArray, List.set_cons_zero, List.set_cons_succ]
        refine lin_take (v := undef) (by kernel_rfl) (by kernel_rfl) (fun _ _ _ h => h) (Or.inr ⟨by rfl, rfl⟩) (by assumption) ?_; simp only [Act.put, List.setIfInBounds_toArray, List.set_cons_zero, List.set_cons_succ]
        refine lin_take (v := ?_) (by kernel_rfl) (by kernel_rfl) (fun _ _ _ h => h) (Or.inl ⟨by rfl, ?_⟩) (by assumption) ?_; (rotate_left; (intro wS hSw; (try dsimp only at hSw); go_simp; (try with_reducible rfl)); rotate_left); simp only [Act.put, List.setIfInBounds_toArray, List.set_cons_zero, List.set_cons_succ]
        refine lin_take (v := ?_) (by kernel_rfl) (by kernel_rfl) (fun _ _ _ h => h) (Or.inl ⟨by rfl, ?_⟩) (by assumption) ?_; (rotate_left; (intro wS hSw; (try dsimp only at hSw); go_simp; (try with_reducible rfl)); rotate_left); simp only [Act.put, List.setIfInBounds_toArray, List.set_cons_zero, List.set_cons_succ]
        refine lin_take (v := ?_) (by kernel_rfl) (by kernel_rfl) (fun _ _ _ h => h) (Or.inl ⟨by rfl, ?_⟩) (by assumption) ?_; (rotate_left; (intro wS hSw; (try dsimp only at hSw); go_simp; (try with_reducible rfl)); rotate_left); simp only [Act.put, List.setIfInBounds_toArray, List.set_cons_zero, List.set_cons_succ]
        refine lin_take (v := ?_) (by kernel_rfl) (by kernel_rfl) (fun _ _ _ h => h) (Or.inl ⟨by rfl, ?_⟩) (by assumption) ?_; (rotate_left; (intro wS hSw; (try dsimp only at hSw); go_simp; (try with_reducible rfl)); rotate_left); simp only [Act.put, List.setIfInBounds_toArray, List.set_cons_zero, List.set_cons_succ]
        refine lin_take (v := ?_) (by kernel_rfl) (by kernel_rfl) (fun _ _ _ h => h) (Or.inl ⟨by rfl, ?_⟩) (by assumption) ?_; (rotate_left; (intro wS hSw; (try dsimp only at hSw); go_simp; (try with_reducible rfl)); rotate_left); simp only [Act.put, List.setIfInBounds_toArray, List.set_cons_zero, List.set_cons_succ]
        refine lin_take (v := ?_) (by kernel_rfl) (by kernel_rfl) (fun _ _ _ h => h) (Or.inl ⟨by rfl, ?_⟩) (by assumption) ?_; (rotate_left; (intro wS hSw; (try dsimp only at hSw); go_simp; (try with_reducible rfl)); rotate_left); simp only [Act.put, List.setIfInBounds_toArray, List.set_cons_zero, List.set_cons_succ]
        refine lin_take (v := ?_) (by kernel_rfl) (by kernel_rfl) (fun _ _ _ h => h) (Or.inl ⟨by rfl, ?_⟩) (by assumption) ?_; (rotate_left; (intro wS hSw; (try dsimp only at hSw); go_simp; (try with_reducible rfl)); rotate_left); simp only [Act.put, List.setIfInBounds_toArray, List.set_cons_zero, List.set_cons_succ]
        refine lin_take (v := ?_) (by kernel_rfl) (by kernel_rfl) (fun _ _ _ h => h) (Or.inl ⟨by rfl, ?_⟩) (by assumption) ?_; (rotate_left; (intro wS hSw; (try dsimp only at hSw); go_simp; (try with_reducible rfl)); rotate_left); simp only [Act.put, List.setIfInBounds_toArray, List.set_cons_zero, List.set_cons_succ]
        refine lin_take (v := ?_) (by kernel_rfl) (by kernel_rfl) (fun _ _ _ h => h) (Or.inl ⟨by rfl, ?_⟩) (by assumption) ?_; (rotate_left; (intro wS hSw; (try dsimp only at hSw); go_simp; (try with_reducible rfl)); rotate_left); simp only [Act.put, List.setIfInBounds_toArray, List.set_cons_zero, List.set_cons_succ]
        refine lin_sole (by kernel_rfl) (fun K hK => ?_)
        go_simp
        refine (HQ.out).mono ?_
        rintro e w6 ⟨rfl, rfl⟩
        refine hK.out _ _ hS0 (fun hHeld => ?_)
        try simp only [Act.put, List.setIfInBounds_toArray, List.set_cons_zero, List.set_cons_succ]
        clear hK
        refine lin_take (v := ?_) (by kernel_rfl) (by kernel_rfl) (fun _ _ _ h => h) (Or.inl ⟨by rfl, ?_⟩) (by assumption) ?_; (rotate_left; (intro wS hSw; (try dsimp only at hSw); go_simp; (try with_reducible rfl)); rotate_left); simp only [Act.put, List.setIfInBounds_toArray, List.set_cons_zero, List.set_cons_succ]
        refine lin_take (v := ?_) (by kernel_rfl) (by kernel_rfl) (fun _ _ _ h => h) (Or.inl ⟨by rfl, ?_⟩) (by assumption) ?_; (rotate_left; (intro wS hSw; (try dsimp only at hSw); go_simp; (try with_reducible rfl)); rotate_left); simp only [Act.put, List.setIfInBounds_toArray, List.set_cons_zero, List.set_cons_succ]
        refine lin_take (v := ?_) (by kernel_rfl) (by kernel_rfl) (fun _ _ _ h => h) (Or.inl ⟨by rfl, ?_⟩) (by assumption) ?_; (rotate_left; (intro wS hSw; (try dsimp only at hSw); go_simp; (try with_reducible rfl)); rotate_left); simp only [Act.put, List.setIfInBounds_toArray, List.set_cons_zero, List.set_cons_succ]
        refine lin_take (v := ?_) (by kernel_rfl) (by kernel_rfl) (fun _ _ _ h => h) (Or.inl ⟨by rfl, ?_⟩) (by assumption) ?_; (rotate_left; (intro wS hSw; (try dsimp only at hSw); go_simp; (try with_reducible rfl)); rotate_left); simp only [Act.put, List.setIfInBounds_toArray, List.set_cons_zero, List.set_cons_succ]
        refine lin_take (v := ?_) (by kernel_rfl) (by kernel_rfl) (fun _ _ _ h => h) (Or.inl ⟨by rfl, ?_⟩) (by assumption) ?_; (rotate_left; (intro wS hSw; (try dsimp only at hSw); go_simp; (try with_reducible rfl)); rotate_left); simp only [Act.put, List.setIfInBounds_toArray, List.set_cons_zero, List.set_cons_succ]
        refine lin_take (v := ?_) (by kernel_rfl) (by kernel_rfl) (fun _ _ _ h => h) (Or.inl ⟨by rfl, ?_⟩) (by assumption) ?_; (rotate_left; (intro wS hSw; (try dsimp only at hSw); go_simp; (try with_reducible rfl)); rotate_left); simp only [Act.put, List.setIfInBounds_toArray, List.set_cons_zero, List.set_cons_succ]
        refine lin_take (v := ?_) (by kernel_rfl) (by kernel_rfl) (fun _ _ _ h => h) (Or.inl ⟨by rfl, ?_⟩) (by assumption) ?_; (rotate_left; (intro wS hSw; (try dsimp only at hSw); go_simp; (try with_reducible rfl)); rotate_left); simp only [Act.put, List.setIfInBounds_toArray, List.set_cons_zero, List.set_cons_succ]
        refine lin_take (v := ?_) (by kernel_rfl) (by kernel_rfl) (fun _ _ _ h => h) (Or.inl ⟨by rfl, ?_⟩) (by assumption) ?_; (rotate_left; (intro wS hSw; (try dsimp only at hSw); go_simp; (try with_reducible rfl)); rotate_left); simp only [Act.put, List.setIfInBounds_toArray, List.set_cons_zero, List.set_cons_succ]
        refine lin_take (v := ?_) (by kernel_rfl) (by kernel_rfl) (fun _ _ _ h => h) (Or.inl ⟨by rfl, ?_⟩) (by assumption) ?_; (rotate_left; (intro wS hSw; (try dsimp only at hSw); go_simp; (try with_reducible rfl)); rotate_left); simp only [Act.put, List.setIfInBounds_toArray, List.set_cons_zero, List.set_cons_succ]
        refine lin_sole (by kernel_rfl) (fun K hK => ?_)
        go_simp
        refine (HP.out).mono ?_
        rintro e w6 ⟨rfl, rfl⟩
        refine hK.out _ _ hS0 (fun hHeld => ?_)
        try simp only [Act.put, List.setIfInBounds_toArray, List.set_cons_zero, List.set_cons_succ]
        clear hK
        refine lin_take (v := ?_) (by kernel_rfl) (by kernel_rfl) (fun _ _ _ h => h) (Or.inl ⟨by rfl, ?_⟩) (by assumption) ?_; (rotate_left; (intro wS hSw; (try dsimp only at hSw); go_simp; (try with_reducible rfl)); rotate_left); simp only [Act.put, List.setIfInBounds_toArray, List.set_cons_zero, List.set_cons_succ]
        refine lin_take (v := ?_) (by kernel_rfl) (by kernel_rfl) (fun _ _ _ h => h) (Or.inl ⟨by rfl, ?_⟩) (by assumption) ?_; (rotate_left; (intro wS hSw; (try dsimp only at hSw); go_simp; (try with_reducible rfl)); rotate_left); simp only [Act.put, List.setIfInBounds_toArray, List.set_cons_zero, List.set_cons_succ]
        refine lin_done (by kernel_rfl) ?_
        go_wp2_with fail
        go_roundw
        case rel => exact ⟨0 + 1, by omega, by go_num, hO1⟩
        case measure => simp [intOf]; omega
      | succ k =>
        have yk := hc k (by omega)
        have hgt : σ.stolen.getD k 0 < σ.stolen.getD (k + 1) 0 := by
          have := List.pairwise_iff_getElem.1 hE.out.sorted k (k + 1) (by omega) hlt (by omega)
          rw [List.getD_eq_getElem?_getD, List.getElem?_eq_getElem (by omega : k < σ.stolen.length), List.getD_eq_getElem?_getD, List.getElem?_eq_getElem hlt]
          exact this
        generalize hX : σ.stolen.getD (k + 1) 0 = X at *
        generalize hY : σ.stolen.getD k 0 = Y at *
        have hle : decide (X ≤ Y) = false := decide_eq_false (by omega)
        have hS0 := (show (fun w' : World => w'.cell? ⟨ob, 0, none⟩ = some (.slice bp σ.pushed.length cp) ∧ w'.cell? ⟨ob, 1, none⟩ = some (.slice bq σ.popped.length cq) ∧ w'.cell? ⟨ob, 2, none⟩ = some (.slice (some ⟨g3, o3, none⟩) σ.stolen.length cs) ∧ w'.cell? ⟨g3, o3 + (k + 1), none⟩ = some (.int .i64 X) ∧ w'.cell? ⟨g3, o3 + k, none⟩ = some (.int .i64 Y)) _ from ⟨x0, x1, x2, xk, yk⟩)
        have k1 : IntKind.i64.wrap ((k : Int) + 1 - 1) = (k : Int) := (IntWalk.i64_in _ (by omega)).trans (by omega)
        have k2 : IntKind.i64.wrap (((k + 1 : Nat) : Int) - 1) = (k : Int) := (IntWalk.i64_in _ (by omega)).trans (by omega)
        have k3 : (0 : Int) < (k : Int) + 1 := by omega
        have k4 : (k : Int) + 1 < (σ.stolen.length : Int) := by omega
        have k5 : decide ((0 : Int) < (k : Int) + 1) = true := decide_eq_true k3
        have k6 : k < σ.stolen.length := by omega
        have k7 : (0 : Int) ≤ (k : Int) + 1 := by omega
        have k8 : IntKind.i64.wrap (k : Int) = (k : Int) := IntWalk.i64_in _ (by omega)
        have k9 : (k : Int) < (σ.stolen.length : Int) := by omega
        clear hX hY n1 n2 hmem hc hgt
        go_wp2_with fail
        refine lin_start (S := (fun w' : World => w'.cell? ⟨ob, 0, none⟩ = some (.slice bp σ.pushed.length cp) ∧ w'.cell? ⟨ob, 1, none⟩ = some (.slice bq σ.popped.length cq) ∧ w'.cell? ⟨ob, 2, none⟩ = some (.slice (some ⟨g3, o3, none⟩) σ.stolen.length cs) ∧ w'.cell? ⟨g3, o3 + (k + 1), none⟩ = some (.int .i64 X) ∧ w'.cell? ⟨g3, o3 + k, none⟩ = some (.int .i64 Y))) rfl 37 rfl hS0 ?_
        simp only [numbered, Nat.zero_add, Nat.reduceAdd]
        refine lin_take (v := ?_) (by kernel_rfl) (by kernel_rfl) (fun _ _ _ h => h) (Or.inl ⟨by rfl, ?_⟩) (by assumption) ?_; (rotate_left; (intro wS hSw; (try dsimp only at hSw); (try go_simp); (try with_reducible rfl)); rotate_left); simp only [Act.put, List.setIfInBounds_toArray, List.set_cons_zero, List.set_cons_succ]
        refine lin_take (v := ?_) (by kernel_rfl) (by kernel_rfl) (fun _ _ _ h => h) (Or.inl ⟨by rfl, ?_⟩) (by assumption) ?_; (rotate_left; (intro wS hSw; (try dsimp only at hSw); (try go_simp); (try with_reducible rfl)); rotate_left); simp only [Act.put, List.setIfInBounds_toArray, List.set_cons_zero, List.set_cons_succ]
        refine lin_take (v := ?_) (by kernel_rfl) (by kernel_rfl) (fun _ _ _ h => h) (Or.inl ⟨by rfl, ?_⟩) (by assumption) ?_; (rotate_left; (intro wS hSw; (try dsimp only at hSw); (try go_simp); (try with_reducible rfl)); rotate_left); simp only [Act.put, List.setIfInBounds_toArray, List.set_cons_zero, List.set_cons_succ]
        refine lin_take (v := ?_) (by kernel_rfl) (by kernel_rfl) (fun _ _ _ h => h) (Or.inl ⟨by rfl, ?_⟩) (by assumption) ?_; (rotate_left; (intro wS hSw; (try dsimp only at hSw); (try go_simp); (try with_reducible rfl)); rotate_left); simp only [Act.put, List.setIfInBounds_toArray, List.set_cons_zero, List.set_cons_succ]
        refine lin_take (v := ?_) (by kernel_rfl) (by kernel_rfl) (fun _ _ _ h => h) (Or.inl ⟨by rfl, ?_⟩) (by assumption) ?_; (rotate_left; (intro wS hSw; (try dsimp only at hSw); (try go_simp); (try with_reducible rfl)); rotate_left); simp only [Act.put, List.setIfInBounds_toArray, List.set_cons_zero, List.set_cons_succ]
        refine lin_take (v := ?_) (by kernel_rfl) (by kernel_rfl) (fun _ _ _ h => h) (Or.inl ⟨by rfl, ?_⟩) (by assumption) ?_; (rotate_left; (intro wS hSw; (try dsimp only at hSw); (try go_simp); (try with_reducible rfl)); rotate_left); simp only [Act.put, List.setIfInBounds_toArray, List.set_cons_zero, List.set_cons_succ]
        refine lin_take (v := ?_) (by kernel_rfl) (by kernel_rfl) (fun _ _ _ h => h) (Or.inl ⟨by rfl, ?_⟩) (by assumption) ?_; (rotate_left; (intro wS hSw; (try dsimp only at hSw); (try go_simp); (try with_reducible rfl)); rotate_left); simp only [Act.put, List.setIfInBounds_toArray, List.set_cons_zero, List.set_cons_succ]
        refine lin_take (v := ?_) (by kernel_rfl) (by kernel_rfl) (fun _ _ _ h => h) (Or.inl ⟨by rfl, ?_⟩) (by assumption) ?_; (rotate_left; (intro wS hSw; (try dsimp only at hSw); (try go_simp); (try with_reducible rfl)); rotate_left); simp only [Act.put, List.setIfInBounds_toArray, List.set_cons_zero, List.set_cons_succ]
        refine lin_take (v := ?_) (by kernel_rfl) (by kernel_rfl) (fun _ _ _ h => h) (Or.inl ⟨by rfl, ?_⟩) (by assumption) ?_; (rotate_left; (intro wS hSw; (try dsimp only at hSw); (try go_simp); (try with_reducible rfl)); rotate_left); simp only [Act.put, List.setIfInBounds_toArray, List.set_cons_zero, List.set_cons_succ]
        refine lin_take (v := ?_) (by kernel_rfl) (by kernel_rfl) (fun _ _ _ h => h) (Or.inl ⟨by rfl, ?_⟩) (by assumption) ?_; (rotate_left; (intro wS hSw; (try dsimp only at hSw); (try go_simp); (try with_reducible rfl)); rotate_left); simp only [Act.put, List.setIfInBounds_toArray, List.set_cons_zero, List.set_cons_succ]
        refine lin_take (v := ?_) (by kernel_rfl) (by kernel_rfl) (fun _ _ _ h => h) (Or.inl ⟨by rfl, ?_⟩) (by assumption) ?_; (rotate_left; (intro wS hSw; (try dsimp only at hSw); (try go_simp); (try with_reducible rfl)); rotate_left); simp only [Act.put, List.setIfInBounds_toArray, List.set_cons_zero, List.set_cons_succ]
        refine lin_take (v := ?_) (by kernel_rfl) (by kernel_rfl) (fun _ _ _ h => h) (Or.inl ⟨by rfl, ?_⟩) (by assumption) ?_; (rotate_left; (intro wS hSw; (try dsimp only at hSw); (try go_simp); (try with_reducible rfl)); rotate_left); simp only [Act.put, List.setIfInBounds_toArray, List.set_cons_zero, List.set_cons_succ]
        refine lin_take (v := ?_) (by kernel_rfl) (by kernel_rfl) (fun _ _ _ h => h) (Or.inl ⟨by rfl, ?_⟩) (by assumption) ?_; (rotate_left; (intro wS hSw; (try dsimp only at hSw); (try go_simp); (try with_reducible rfl)); rotate_left); simp only [Act.put, List.setIfInBounds_toArray, List.set_cons_zero, List.set_cons_succ]
        refine lin_take (v := ?_) (by kernel_rfl) (by kernel_rfl) (fun _ _ _ h => h) (Or.inl ⟨by rfl, ?_⟩) (by assumption) ?_; (rotate_left; (intro wS hSw; (try dsimp only at hSw); (try go_simp); (try with_reducible rfl)); rotate_left); simp only [Act.put, List.setIfInBounds_toArray, List.set_cons_zero, List.set_cons_succ]
        refine lin_take (v := ?_) (by kernel_rfl) (by kernel_rfl) (fun _ _ _ h => h) (Or.inl ⟨by rfl, ?_⟩) (by assumption) ?_; (rotate_left; (intro wS hSw; (try dsimp only at hSw); (try go_simp); (try with_reducible rfl)); rotate_left); simp only [Act.put, List.setIfInBounds_toArray, List.set_cons_zero, List.set_cons_succ]
        refine lin_take (v := ?_) (by kernel_rfl) (by kernel_rfl) (fun _ _ _ h => h) (Or.inl ⟨by rfl, ?_⟩) (by assumption) ?_; (rotate_left; (intro wS hSw; (try dsimp only at hSw); (try go_simp); (try with_reducible rfl)); rotate_left); simp only [Act.put, List.setIfInBounds_toArray, List.set_cons_zero, List.set_cons_succ]
        refine lin_take (v := ?_) (by kernel_rfl) (by kernel_rfl) (fun _ _ _ h => h) (Or.inl ⟨by rfl, ?_⟩) (by assumption) ?_; (rotate_left; (intro wS hSw; (try dsimp only at hSw); (try go_simp); (try with_reducible rfl)); rotate_left); simp only [Act.put, List.setIfInBounds_toArray, List.set_cons_zero, List.set_cons_succ]
        refine lin_take (v := ?_) (by kernel_rfl) (by kernel_rfl) (fun _ _ _ h => h) (Or.inl ⟨by rfl, ?_⟩) (by assumption) ?_; (rotate_left; (intro wS hSw; (try dsimp only at hSw); (try go_simp); (try with_reducible rfl)); rotate_left); simp only [Act.put, List.setIfInBounds_toArray, List.set_cons_zero, List.set_cons_succ]
        refine lin_take (v := ?_) (by kernel_rfl) (by kernel_rfl) (fun _ _ _ h => h) (Or.inl ⟨by rfl, ?_⟩) (by assumption) ?_; (rotate_left; (intro wS hSw; (try dsimp only at hSw); (try go_simp); (try with_reducible rfl)); rotate_left); simp only [Act.put, List.setIfInBounds_toArray, List.set_cons_zero, List.set_cons_succ]
        refine lin_take (v := ?_) (by kernel_rfl) (by kernel_rfl) (fun _ _ _ h => h) (Or.inl ⟨by rfl, ?_⟩) (by assumption) ?_; (rotate_left; (intro wS hSw; (try dsimp only at hSw); (try go_simp); (try with_reducible rfl)); rotate_left); simp only [Act.put, List.setIfInBounds_toArray, List.set_cons_zero, List.set_cons_succ]
        refine lin_take (v := ?_) (by kernel_rfl) (by kernel_rfl) (fun _ _ _ h => h) (Or.inl ⟨by rfl, ?_⟩) (by assumption) ?_; (rotate_left; (intro wS hSw; (try dsimp only at hSw); (try go_simp); (try with_reducible rfl)); rotate_left); simp only [Act.put, List.setIfInBounds_toArray, List.set_cons_zero, List.set_cons_succ]
        refine lin_take (v := ?_) (by kernel_rfl) (by kernel_rfl) (fun _ _ _ h => h) (Or.inl ⟨by rfl, ?_⟩) (by assumption) ?_; (rotate_left; (intro wS hSw; (try dsimp only at hSw); (try go_simp); (try with_reducible rfl)); rotate_left); simp only [Act.put, List.setIfInBounds_toArray, List.set_cons_zero, List.set_cons_succ]
        refine lin_take (v := ?_) (by kernel_rfl) (by kernel_rfl) (fun _ _ _ h => h) (Or.inl ⟨by rfl, ?_⟩) (by assumption) ?_; (rotate_left; (intro wS hSw; (try dsimp only at hSw); (try go_simp); (try with_reducible rfl)); rotate_left); simp only [Act.put, List.setIfInBounds_toArray, List.set_cons_zero, List.set_cons_succ]
        refine lin_take (v := ?_) (by kernel_rfl) (by kernel_rfl) (fun _ _ _ h => h) (Or.inl ⟨by rfl, ?_⟩) (by assumption) ?_; (rotate_left; (intro wS hSw; (try dsimp only at hSw); (try go_simp); (try with_reducible rfl)); rotate_left); simp only [Act.put, List.setIfInBounds_toArray, List.set_cons_zero, List.set_cons_succ]
        refine lin_sole (by kernel_rfl) (fun K hK => ?_)
        go_simp
        refine (HQ.out).mono ?_
        rintro e w6 ⟨rfl, rfl⟩
        refine hK.out _ _ hS0 (fun hHeld => ?_)
        try simp only [Act.put, List.setIfInBounds_toArray, List.set_cons_zero, List.set_cons_succ]
        clear hK
        refine lin_take (v := ?_) (by kernel_rfl) (by kernel_rfl) (fun _ _ _ h => h) (Or.inl ⟨by rfl, ?_⟩) (by assumption) ?_; (rotate_left; (intro wS hSw; (try dsimp only at hSw); (try go_simp); (try with_reducible rfl)); rotate_left); simp only [Act.put, List.setIfInBounds_toArray, List.set_cons_zero, List.set_cons_succ]
        refine lin_take (v := ?_) (by kernel_rfl) (by kernel_rfl) (fun _ _ _ h => h) (Or.inl ⟨by rfl, ?_⟩) (by assumption) ?_; (rotate_left; (intro wS hSw; (try dsimp only at hSw); (try go_simp); (try with_reducible rfl)); rotate_left); simp only [Act.put, List.setIfInBounds_toArray, List.set_cons_zero, List.set_cons_succ]
        refine lin_take (v := ?_) (by kernel_rfl) (by kernel_rfl) (fun _ _ _ h => h) (Or.inl ⟨by rfl, ?_⟩) (by assumption) ?_; (rotate_left; (intro wS hSw; (try dsimp only at hSw); (try go_simp); (try with_reducible rfl)); rotate_left); simp only [Act.put, List.setIfInBounds_toArray, List.set_cons_zero, List.set_cons_succ]
        refine lin_take (v := ?_) (by kernel_rfl) (by kernel_rfl) (fun _ _ _ h => h) (Or.inl ⟨by rfl, ?_⟩) (by assumption) ?_; (rotate_left; (intro wS hSw; (try dsimp only at hSw); (try go_simp); (try with_reducible rfl)); rotate_left); simp only [Act.put, List.setIfInBounds_toArray, List.set_cons_zero, List.set_cons_succ]
        refine lin_take (v := ?_) (by kernel_rfl) (by kernel_rfl) (fun _ _ _ h => h) (Or.inl ⟨by rfl, ?_⟩) (by assumption) ?_; (rotate_left; (intro wS hSw; (try dsimp only at hSw); (try go_simp); (try with_reducible rfl)); rotate_left); simp only [Act.put, List.setIfInBounds_toArray, List.set_cons_zero, List.set_cons_succ]
        refine lin_take (v := ?_) (by kernel_rfl) (by kernel_rfl) (fun _ _ _ h => h) (Or.inl ⟨by rfl, ?_⟩) (by assumption) ?_; (rotate_left; (intro wS hSw; (try dsimp only at hSw); (try go_simp); (try with_reducible rfl)); rotate_left); simp only [Act.put, List.setIfInBounds_toArray, List.set_cons_zero, List.set_cons_succ]
        refine lin_take (v := ?_) (by kernel_rfl) (by kernel_rfl) (fun _ _ _ h => h) (Or.inl ⟨by rfl, ?_⟩) (by assumption) ?_; (rotate_left; (intro wS hSw; (try dsimp only at hSw); (try go_simp); (try with_reducible rfl)); rotate_left); simp only [Act.put, List.setIfInBounds_toArray, List.set_cons_zero, List.set_cons_succ]
        refine lin_take (v := ?_) (by kernel_rfl) (by kernel_rfl) (fun _ _ _ h => h) (Or.inl ⟨by rfl, ?_⟩) (by assumption) ?_; (rotate_left; (intro wS hSw; (try dsimp only at hSw); (try go_simp); (try with_reducible rfl)); rotate_left); simp only [Act.put, List.setIfInBounds_toArray, List.set_cons_zero, List.set_cons_succ]
        refine lin_take (v := ?_) (by kernel_rfl) (by kernel_rfl) (fun _ _ _ h => h) (Or.inl ⟨by rfl, ?_⟩) (by assumption) ?_; (rotate_left; (intro wS hSw; (try dsimp only at hSw); (try go_simp); (try with_reducible rfl)); rotate_left); simp only [Act.put, List.setIfInBounds_toArray, List.set_cons_zero, List.set_cons_succ]
        refine lin_sole (by kernel_rfl) (fun K hK => ?_)
        go_simp
        refine (HP.out).mono ?_
        rintro e w6 ⟨rfl, rfl⟩
        refine hK.out _ _ hS0 (fun hHeld => ?_)
        try simp only [Act.put, List.setIfInBounds_toArray, List.set_cons_zero, List.set_cons_succ]
        clear hK
        refine lin_take (v := ?_) (by kernel_rfl) (by kernel_rfl) (fun _ _ _ h => h) (Or.inl ⟨by rfl, ?_⟩) (by assumption) ?_; (rotate_left; (intro wS hSw; (try dsimp only at hSw); (try go_simp); (try with_reducible rfl)); rotate_left); simp only [Act.put, List.setIfInBounds_toArray, List.set_cons_zero, List.set_cons_succ]
        refine lin_take (v := ?_) (by kernel_rfl) (by kernel_rfl) (fun _ _ _ h => h) (Or.inl ⟨by rfl, ?_⟩) (by assumption) ?_; (rotate_left; (intro wS hSw; (try dsimp only at hSw); (try go_simp); (try with_reducible rfl)); rotate_left); simp only [Act.put, List.setIfInBounds_toArray, List.set_cons_zero, List.set_cons_succ]
        refine lin_done (by kernel_rfl) ?_
        go_wp2_with fail
        go_roundw
        case rel => exact ⟨k + 1 + 1, by omega, by go_num, hO1⟩
        case measure => simp [intOf]; omega
    · obtain rfl : k = σ.stolen.length := by omega
      go_wp2_with fail
      clear x0 x1 x2 x3
      go_loopw [8, 9] (fun lv kv wr => ∃ k : Nat, k ≤ σ.stack.length ∧ lv = .int .i64 ((((σ.stack.take k).filter fun y => decide (y ∉ σ.stolen)).length : Nat) : Int) ∧ kv = .int .i64 k ∧ Hid (Own wa wr (OnceL ob (.slice bp σ.pushed.length cp) (.slice bq σ.popped.length cq) (.slice bs σ.stolen.length cs) (.slice bk σ.stack.length ck) σ))) (fun _ kv _ => (σ.stack.length - intOf kv).toNat)
      case atStart => exact ⟨0, by omega, by simp, rfl, hO⟩
      case round =>
        clear hO
        obtain ⟨k, hk, rfl, rfl, hO⟩ := hrel
        have x0 := (hO.out.cget 0 rfl 0).1
        have x1 := (hO.out.cget 0 rfl 1).1
        have x2 := (hO.out.cget 0 rfl 2).1
        have x3 := (hO.out.cget 0 rfl 3).1
        simp at x0 x1 x2 x3
        by_cases hlt : k < σ.stack.length
        · have hbs : ∃ g3 o3, bk = some ⟨g3, o3, none⟩ ∧ ∀ j, j < σ.stack.length → wr.cell? ⟨g3, o3 + j, none⟩ = some (.int .i64 (σ.stack.getD j 0)) := by
            obtain ⟨g3, o3, cap3, hv3, q1, q2, q3, q4⟩ := (hO.out.row 4 rfl).addr (show 0 < σ.stack.length by omega)
            simp only [Value.slice.injEq] at hv3
            exact ⟨g3, o3, hv3.1, fun j hj => by rw [q3 j (by omega), getD_map hj]⟩
          obtain ⟨g3, o3, rfl, hc⟩ := hbs
          have xk := hc k hlt
          have hfs := filter_snoc hlt (fun y => decide (y ∉ σ.stolen))
          have hfl : ((σ.stack.take k).filter fun y => decide (y ∉ σ.stolen)).length ≤ 1000 := by
            have := List.length_filter_le (fun y => decide (y ∉ σ.stolen)) (σ.stack.take k)
            simp at this ⊢
            omega
          generalize hX : σ.stack.getD k 0 = X at *
          generalize ((σ.stack.take k).filter fun y => decide (y ∉ σ.stolen)).length = F at *
          have hO1 := Lib.hid (hO.out.drewN 1)
          have hS0 := (show (fun w' : World => w'.cell? ⟨ob, 2, none⟩ = some (.slice bs σ.stolen.length cs) ∧ w'.cell? ⟨ob, 3, none⟩ = some (.slice (some ⟨g3, o3, none⟩) σ.stack.length ck) ∧ w'.cell? ⟨g3, o3 + k, none⟩ = some (.int .i64 X)) _ from ⟨x2, x3, xk⟩)
          by_cases hm : X ∈ σ.stolen
          · have HS := Lib.hid (show Calls Try.prog 36 #[.slice bs σ.stolen.length cs, .int .i64 X] wr.drew (fun e w' => e = .returned (.bool true) ∧ wr.drew = w') from has_any (Lies.of_row ((hO.out.drewN 1).row 3 rfl) rfl) X true (decide_eq_true hm))
            rw [if_neg (by simpa using hm)] at hfs
            replace hfs := Lib.hid hfs
            clear hX hc hm
            go_wp2_with fail
            refine lin_start (S := (fun w' : World => w'.cell? ⟨ob, 2, none⟩ = some (.slice bs σ.stolen.length cs) ∧ w'.cell? ⟨ob, 3, none⟩ = some (.slice (some ⟨g3, o3, none⟩) σ.stack.length ck) ∧ w'.cell? ⟨g3, o3 + k, none⟩ = some (.int .i64 X))) rfl 9 rfl hS0 ?_
            simp only [numbered, Nat.zero_add, Nat.reduceAdd]
            refine lin_take (v := ?_) (by kernel_rfl) (by kernel_rfl) (fun _ _ _ h => h) (Or.inl ⟨by rfl, ?_⟩) (by assumption) ?_; (rotate_left; (intro wS hSw; (try dsimp only at hSw); go_simp; (try with_reducible rfl)); rotate_left); simp only [Act.put, List.setIfInBounds_toArray, List.set_cons_zero, List.set_cons_succ]
            refine lin_take (v := ?_) (by kernel_rfl) (by kernel_rfl) (fun _ _ _ h => h) (Or.inl ⟨by rfl, ?_⟩) (by assumption) ?_; (rotate_left; (intro wS hSw; (try dsimp only at hSw); go_simp; (try with_reducible rfl)); rotate_left); simp only [Act.put, List.setIfInBounds_toArray, List.set_cons_zero, List.set_cons_succ]
            refine lin_take (v := ?_) (by kernel_rfl) (by kernel_rfl) (fun _ _ _ h => h) (Or.inl ⟨by rfl, ?_⟩) (by assumption) ?_; (rotate_left; (intro wS hSw; (try dsimp only at hSw); go_simp; (try with_reducible rfl)); rotate_left); simp only [Act.put, List.setIfInBounds_toArray, List.set_cons_zero, List.set_cons_succ]
            refine lin_take (v := ?_) (by kernel_rfl) (by kernel_rfl) (fun _ _ _ h => h) (Or.inl ⟨by rfl, ?_⟩) (by assumption) ?_; (rotate_left; (intro wS hSw; (try dsimp only at hSw); go_simp; (try with_reducible rfl)); rotate_left); simp only [Act.put, List.setIfInBounds_toArray, List.set_cons_zero, List.set_cons_succ]
            refine lin_take (v := ?_) (by kernel_rfl) (by kernel_rfl) (fun _ _ _ h => h) (Or.inl ⟨by rfl, ?_⟩) (by assumption) ?_; (rotate_left; (intro wS hSw; (try dsimp only at hSw); go_simp; (try with_reducible rfl)); rotate_left); simp only [Act.put, List.setIfInBounds_toArray, List.set_cons_zero, List.set_cons_succ]
            refine lin_take (v := ?_) (by kernel_rfl) (by kernel_rfl) (fun _ _ _ h => h) (Or.inl ⟨by rfl, ?_⟩) (by assumption) ?_; (rotate_left; (intro wS hSw; (try dsimp only at hSw); go_simp; (try with_reducible rfl)); rotate_left); simp only [Act.put, List.setIfInBounds_toArray, List.set_cons_zero, List.set_cons_succ]
            refine lin_take (v := ?_) (by kernel_rfl) (by kernel_rfl) (fun _ _ _ h => h) (Or.inl ⟨by rfl, ?_⟩) (by assumption) ?_; (rotate_left; (intro wS hSw; (try dsimp only at hSw); go_simp; (try with_reducible rfl)); rotate_left); simp only [Act.put, List.setIfInBounds_toArray, List.set_cons_zero, List.set_cons_succ]
            refine lin_sole (by kernel_rfl) (fun K hK => ?_)
            go_simp
            refine (HS.out).mono ?_
            rintro e w6 ⟨rfl, rfl⟩
            refine hK.out _ _ hS0 (fun hHeld => ?_)
            try simp only [Act.put, List.setIfInBounds_toArray, List.set_cons_zero, List.set_cons_succ]
            clear hK
            refine lin_take (v := ?_) (by kernel_rfl) (by kernel_rfl) (fun _ _ _ h => h) (Or.inl ⟨by rfl, ?_⟩) (by assumption) ?_; (rotate_left; (intro wS hSw; (try dsimp only at hSw); go_simp; (try with_reducible rfl)); rotate_left); simp only [Act.put, List.setIfInBounds_toArray, List.set_cons_zero, List.set_cons_succ]
            refine lin_done (by kernel_rfl) ?_
            go_wp2_with fail
            go_roundw
            case rel => exact ⟨k + 1, by omega, by rw [hfs.out]; first | rfl | simp, by go_num, hO1⟩
            case measure => simp [intOf]; omega
          · have HS := Lib.hid (show Calls Try.prog 36 #[.slice bs σ.stolen.length cs, .int .i64 X] wr.drew (fun e w' => e = .returned (.bool false) ∧ wr.drew = w') from has_any (Lies.of_row ((hO.out.drewN 1).row 3 rfl) rfl) X false (decide_eq_false hm))
            rw [if_pos (by simpa using hm)] at hfs
            replace hfs := Lib.hid hfs
            clear hX hc hm
            go_wp2_with fail
            refine lin_start (S := (fun w' : World => w'.cell? ⟨ob, 2, none⟩ = some (.slice bs σ.stolen.length cs) ∧ w'.cell? ⟨ob, 3, none⟩ = some (.slice (some ⟨g3, o3, none⟩) σ.stack.length ck) ∧ w'.cell? ⟨g3, o3 + k, none⟩ = some (.int .i64 X))) rfl 9 rfl hS0 ?_
            simp only [numbered, Nat.zero_add, Nat.reduceAdd]
            refine lin_take (v := ?_) (by kernel_rfl) (by kernel_rfl) (fun _ _ _ h => h) (Or.inl ⟨by rfl, ?_⟩) (by assumption) ?_; (rotate_left; (intro wS hSw; (try dsimp only at hSw); go_simp; (try with_reducible rfl)); rotate_left); simp only [Act.put, List.setIfInBounds_toArray, List.set_cons_zero, List.set_cons_succ]
            refine lin_take (v := ?_) (by kernel_rfl) (by kernel_rfl) (fun _ _ _ h => h) (Or.inl ⟨by rfl, ?_⟩) (by assumption) ?_; (rotate_left; (intro wS hSw; (try dsimp only at hSw); go_simp; (try with_reducible rfl)); rotate_left); simp only [Act.put, List.setIfInBounds_toArray, List.set_cons_zero, List.set_cons_succ]
            refine lin_take (v := ?_) (by kernel_rfl) (by kernel_rfl) (fun _ _ _ h => h) (Or.inl ⟨by rfl, ?_⟩) (by assumption) ?_; (rotate_left; (intro wS hSw; (try dsimp only at hSw); go_simp; (try with_reducible rfl)); rotate_left); simp only [Act.put, List.setIfInBounds_toArray, List.set_cons_zero, List.set_cons_succ]
            refine lin_take (v := ?_) (by kernel_rfl) (by kernel_rfl) (fun _ _ _ h => h) (Or.inl ⟨by rfl, ?_⟩) (by assumption) ?_; (rotate_left; (intro wS hSw; (try dsimp only at hSw); go_simp; (try with_reducible rfl)); rotate_left); simp only [Act.put, List.setIfInBounds_toArray, List.set_cons_zero, List.set_cons_succ]
            refine lin_take (v := ?_) (by kernel_rfl) (by kernel_rfl) (fun _ _ _ h => h) (Or.inl ⟨by rfl, ?_⟩) (by assumption) ?_; (rotate_left; (intro wS hSw; (try dsimp only at hSw); go_simp; (try with_reducible rfl)); rotate_left); simp only [Act.put, List.setIfInBounds_toArray, List.set_cons_zero, List.set_cons_succ]
            refine lin_take (v := ?_) (by kernel_rfl) (by kernel_rfl) (fun _ _ _ h => h) (Or.inl ⟨by rfl, ?_⟩) (by assumption) ?_; (rotate_left; (intro wS hSw; (try dsimp only at hSw); go_simp; (try with_reducible rfl)); rotate_left); simp only [Act.put, List.setIfInBounds_toArray, List.set_cons_zero, List.set_cons_succ]
            refine lin_take (v := ?_) (by kernel_rfl) (by kernel_rfl) (fun _ _ _ h => h) (Or.inl ⟨by rfl, ?_⟩) (by assumption) ?_; (rotate_left; (intro wS hSw; (try dsimp only at hSw); go_simp; (try with_reducible rfl)); rotate_left); simp only [Act.put, List.setIfInBounds_toArray, List.set_cons_zero, List.set_cons_succ]
            refine lin_sole (by kernel_rfl) (fun K hK => ?_)
            go_simp
            refine (HS.out).mono ?_
            rintro e w6 ⟨rfl, rfl⟩
            refine hK.out _ _ hS0 (fun hHeld => ?_)
            try simp only [Act.put, List.setIfInBounds_toArray, List.set_cons_zero, List.set_cons_succ]
            clear hK
            refine lin_take (v := ?_) (by kernel_rfl) (by kernel_rfl) (fun _ _ _ h => h) (Or.inl ⟨by rfl, ?_⟩) (by assumption) ?_; (rotate_left; (intro wS hSw; (try dsimp only at hSw); go_simp; (try with_reducible rfl)); rotate_left); simp only [Act.put, List.setIfInBounds_toArray, List.set_cons_zero, List.set_cons_succ]
            refine lin_done (by kernel_rfl) ?_
            go_wp2_with fail
            go_roundw
            case rel => exact ⟨k + 1, by omega, by rw [hfs.out]; go_num, by go_num, hO1⟩
            case measure => simp [intOf]; omega
        · obtain rfl : k = σ.stack.length := by omega
          have hcnt := hE.out.cnt
          rw [List.take_length]
          have hfl : (σ.stack.filter fun y => decide (y ∉ σ.stolen)).length ≤ 1000 := by omega
          generalize (σ.stack.filter fun y => decide (y ∉ σ.stolen)).length = F at *
          have hBe := Lib.hid (hBB.out _ hO.out)
          have hsum : (σ.popped.length : Int) + (σ.stolen.length : Int) + (F : Int) = (σ.pushed.length : Int) := by omega
          have hs2 : (((σ.popped.length : Int) + (σ.stolen.length : Int) + (F : Int)) == (σ.pushed.length : Int)) = true := by simp; omega
          clear hcnt
          go_wp2_with fail
          go_ret
          exact ⟨rfl, hBe.out⟩
theorem walkDequeOnce (v0 v1 : Value) (w : World) (h0 : Arg Try.prog w 5 v0) (h1 : Arg Try.prog w 52 v1) :
    Calls Try.prog 8 #[v0, v1] w fun e w' => e = .returned (.bool true) ∧ Below w.heap.size w w' := by
  obtain ⟨m, rfl, hm⟩ := h0.int Try.underlying5
  simp [Lit.wf, IntKind.min, IntKind.max, IntKind.signed, IntKind.bits] at hm
  obtain ⟨m, rfl⟩ : ∃ k : Nat, m = k := ⟨m.toNat, by omega⟩
  obtain ⟨oo, oc, os, rfl, p1, p2, g, off, p4⟩ := h1.dqops
  by_cases hl : os.length ≤ 300
  · exact donce_core m os oo oc g off w (by omega) p1 p2 hl p4
  · unfold maxLen at p2
    clear p4
    have hl2 : 300 < os.length := by omega
    go_enter Try.func8, Try.ntmps8
    go_wp2_with (go_at_call 30; refine (works13_any _).mono ?_; rintro e w1 ⟨rfl, hb1⟩)
    go_ret
    exact ⟨rfl, hb1⟩
end Go.Proofs.Ytofnjapgacgdlaa
