/- Package ins: what is wrong with an instruction. -/
import Derived.Test.YtboiogjklecpaaaIns
import Derived.Test.YtboiogjklecpaaaInsLaw
import Derived.Test.YtboiogjklecpaaaPair
set_option linter.unusedVariables false
set_option linter.unusedSimpArgs false
namespace Go.Proofs.Ytboiogjklecpaaa
open Go.RowKit
set_option maxRecDepth 100000
set_option maxHeartbeats 8000000
theorem Own.lift {P : Program} {f : FuncId} {args : Array Value} {w0 w : World} {l : List Ast} {v : Value} (h : Calls P f args w fun e w' => e = .returned v ∧ Below w.heap.size w w') (hO : Own w0 w l) (v' : Value) (hv : v = v') : Calls P f args w fun e w' => e = .returned v' ∧ Own w0 w' l := by
  subst hv
  exact h.mono fun e w' ⟨he, hb⟩ => ⟨he, hO.grow hb⟩
theorem quiet_same2 {P : Program} {f : FuncId} {args : Array Value} {w : World} {k n : Nat} {v : Value} (h : Calls P f args (w.drewN (k + n)) fun e w' => e = .returned v ∧ w.drewN (k + n) = w') : Calls P f args (w.drewN (k + n)) fun e w'' => e = .returned v ∧ ∃ m, w'' = (w.drewN k).drewN m :=
  h.mono fun _ _ ⟨he, hm⟩ => ⟨he, n, by rw [← hm, World.drewN_drewN]⟩
theorem quiet_same3 {P : Program} {f : FuncId} {args : Array Value} {w : World} {k n : Nat} {v : Value} (h : Calls P f args (w.drewN (k + n)) fun e w' => e = .returned v ∧ w.drewN (k + n) = w') : Calls P f args (w.drewN (k + n)) fun e w'' => e = .returned v ∧ ∃ m, w'' = w.drewN (k + m) :=
  h.mono fun _ _ ⟨he, hm⟩ => ⟨he, n, hm.symm⟩
theorem check_any (op a b c : Int) (w : World) : Calls Try.prog 24 #[.agg #[.int .i64 op, .int .i64 a, .int .i64 b, .int .i64 c]] w fun e w' => e = .returned (.int .i64 (checkI op a b c)) ∧ Below w.heap.size w w' := by
  by_cases ho : op < 0 ∨ 25 < op
  · have hv : checkI op a b c = 5 := by unfold checkI; rw [if_pos ho]
    rcases ho with ho | ho
    all_goals
      go_enter Try.func24, Try.ntmps24
      go_wp2
      go_ret
      exact ⟨ret_int hv.symm, by go_grown⟩
  · have hO := (Own.nil (Below.refl _ w)).box #[.int .i64 op, .int .i64 a, .int .i64 b, .int .i64 c] 30
    have h1 : ¬ op < 0 := fun h => ho (.inl h)
    have h2 : ¬ 25 < op := fun h => ho (.inr h)
    have hv : checkI op a b c = checkF (formL op) [a, b, c] := by unfold checkI; rw [if_neg ho]
    rw [hv]
    have hn := form_len op
    have FM := Lib.hid (fun w1 => form_any op w1)
    generalize formL op = F at *
    clear hv ho
    go_enter Try.func24, Try.ntmps24
    go_upto_region 3 with fail
    generalize w.alloc (.cells #[.int .i64 op, .int .i64 a, .int .i64 b, .int .i64 c] 30) = u at *
    generalize w.heap.size = xb at *
    have hU : Own w u.drew _ := hO.drewN 1
    clear hO
    go_cut [3, 4] from 16 to 20 (fun f l wx => ∃ B : Nat, f = .string ⟨F.toArray⟩ ∧ l = .pointer (some ⟨B, 0, none⟩) ∧ Own w wx [cellsA xb #[.int .i64 op, .int .i64 a, .int .i64 b, .int .i64 c] 30, cellsA B #[.int .i64 a, .int .i64 b, .int .i64 c] 74])
    case first =>
      refine lin_start (S := (fun w' : World => w'.cell? ⟨xb, 0, none⟩ = some (.int .i64 op) ∧ w'.cell? ⟨xb, 1, none⟩ = some (.int .i64 a) ∧ w'.cell? ⟨xb, 2, none⟩ = some (.int .i64 b) ∧ w'.cell? ⟨xb, 3, none⟩ = some (.int .i64 c))) rfl 8 rfl ((show (fun w' : World => w'.cell? ⟨xb, 0, none⟩ = some (.int .i64 op) ∧ w'.cell? ⟨xb, 1, none⟩ = some (.int .i64 a) ∧ w'.cell? ⟨xb, 2, none⟩ = some (.int .i64 b) ∧ w'.cell? ⟨xb, 3, none⟩ = some (.int .i64 c)) _ from ⟨(hU.cget 0 rfl 0).1, (hU.cget 0 rfl 1).1, (hU.cget 0 rfl 2).1, (hU.cget 0 rfl 3).1⟩)) ?_
      simp only [numbered, Nat.zero_add, Nat.reduceAdd]
      generalize u.drew = u0 at *
      have hHeld := (show (fun w' : World => w'.cell? ⟨xb, 0, none⟩ = some (.int .i64 op) ∧ w'.cell? ⟨xb, 1, none⟩ = some (.int .i64 a) ∧ w'.cell? ⟨xb, 2, none⟩ = some (.int .i64 b) ∧ w'.cell? ⟨xb, 3, none⟩ = some (.int .i64 c)) _ from ⟨(hU.cget 0 rfl 0).1, (hU.cget 0 rfl 1).1, (hU.cget 0 rfl 2).1, (hU.cget 0 rfl 3).1⟩)
      refine lin_take (v := ?_) (by kernel_rfl) (by kernel_rfl) (fun _ _ _ h => h) (Or.inl ⟨by rfl, ?_⟩) (by assumption) ?_; (rotate_left; (intro wS hSw; (try dsimp only at hSw); go_simp; (try with_reducible rfl)); rotate_left); simp only [Act.put, List.setIfInBounds_toArray, List.set_cons_zero, List.set_cons_succ]
      refine lin_take (v := ?_) (by kernel_rfl) (by kernel_rfl) (fun _ _ _ h => h) (Or.inl ⟨by rfl, ?_⟩) (by assumption) ?_; (rotate_left; (intro wS hSw; (try dsimp only at hSw); go_simp; (try with_reducible rfl)); rotate_left); simp only [Act.put, List.setIfInBounds_toArray, List.set_cons_zero, List.set_cons_succ]
      refine lin_rot ?_; simp only [List.cons_append, List.nil_append]
      refine lin_take (v := ?_) (by kernel_rfl) (by kernel_rfl) (fun _ _ _ h => h) (Or.inl ⟨by rfl, ?_⟩) (by assumption) ?_; (rotate_left; (intro wS hSw; (try dsimp only at hSw); go_simp; (try with_reducible rfl)); rotate_left); simp only [Act.put, List.setIfInBounds_toArray, List.set_cons_zero, List.set_cons_succ]
      refine lin_rot ?_; simp only [List.cons_append, List.nil_append]
      refine lin_rot ?_; simp only [List.cons_append, List.nil_append]
      refine lin_rot ?_; simp only [List.cons_append, List.nil_append]
      refine lin_rot ?_; simp only [List.cons_append, List.nil_append]
      refine lin_rot ?_; simp only [List.cons_append, List.nil_append]
      refine lin_rot ?_; simp only [List.cons_append, List.nil_append]
      refine lin_rot ?_; simp only [List.cons_append, List.nil_append]
      refine lin_rot ?_; simp only [List.cons_append, List.nil_append]
      refine lin_rot ?_; simp only [List.cons_append, List.nil_append]
      refine lin_rot ?_; simp only [List.cons_append, List.nil_append]
      refine lin_swap ?_
      refine lin_rot ?_; simp only [List.cons_append, List.nil_append]
      refine lin_rot ?_; simp only [List.cons_append, List.nil_append]
      refine lin_rot ?_; simp only [List.cons_append, List.nil_append]
      refine lin_rot ?_; simp only [List.cons_append, List.nil_append]
      refine lin_pair (by kernel_rfl) ?pone ?ptwo
      case' pone =>
        intro K hK
        go_simp
        refine (FM.out _).mono ?_; rintro e w1 ⟨rfl, rfl⟩
        refine hK.out _ _ ((show (fun w' : World => w'.cell? ⟨xb, 0, none⟩ = some (.int .i64 op) ∧ w'.cell? ⟨xb, 1, none⟩ = some (.int .i64 a) ∧ w'.cell? ⟨xb, 2, none⟩ = some (.int .i64 b) ∧ w'.cell? ⟨xb, 3, none⟩ = some (.int .i64 c)) _ from ⟨(hU.cget 0 rfl 0).1, (hU.cget 0 rfl 1).1, (hU.cget 0 rfl 2).1, (hU.cget 0 rfl 3).1⟩)) (fun hHeld => ?_)
        try simp only [Act.put, List.setIfInBounds_toArray, List.set_cons_zero, List.set_cons_succ]
        clear hK
        refine lin_pair (by kernel_rfl) ?pthree ?pfour
        case' pthree =>
          intro K hK
          go_simp
          have hB := hU.box #[.int .i64 0, .int .i64 0, .int .i64 0] 74
          refine hK.out _ _ ((show (fun w' : World => w'.cell? ⟨xb, 0, none⟩ = some (.int .i64 op) ∧ w'.cell? ⟨xb, 1, none⟩ = some (.int .i64 a) ∧ w'.cell? ⟨xb, 2, none⟩ = some (.int .i64 b) ∧ w'.cell? ⟨xb, 3, none⟩ = some (.int .i64 c)) _ from ⟨(hB.cget 0 rfl 0).1, (hB.cget 0 rfl 1).1, (hB.cget 0 rfl 2).1, (hB.cget 0 rfl 3).1⟩)) (fun hHeld => ?_)
          try simp only [Act.put, List.setIfInBounds_toArray, List.set_cons_zero, List.set_cons_succ]
          clear hK hHeld hU; generalize u0.alloc (.cells #[.int .i64 0, .int .i64 0, .int .i64 0] 74) = u1 at *; generalize u0.heap.size = bb0 at *; have hHeld := (show (fun w' : World => w'.cell? ⟨xb, 0, none⟩ = some (.int .i64 op) ∧ w'.cell? ⟨xb, 1, none⟩ = some (.int .i64 a) ∧ w'.cell? ⟨xb, 2, none⟩ = some (.int .i64 b) ∧ w'.cell? ⟨xb, 3, none⟩ = some (.int .i64 c)) _ from ⟨(hB.cget 0 rfl 0).1, (hB.cget 0 rfl 1).1, (hB.cget 0 rfl 2).1, (hB.cget 0 rfl 3).1⟩)
          refine lin_sole (by kernel_rfl) (fun K hK => ?_)
          go_simp
          refine (Own.lift (fields_any op a b c _) hB _ rfl).mono ?_; rintro e u2 ⟨rfl, hC⟩
          refine hK.out _ _ ((show (fun w' : World => w'.cell? ⟨xb, 0, none⟩ = some (.int .i64 op) ∧ w'.cell? ⟨xb, 1, none⟩ = some (.int .i64 a) ∧ w'.cell? ⟨xb, 2, none⟩ = some (.int .i64 b) ∧ w'.cell? ⟨xb, 3, none⟩ = some (.int .i64 c)) _ from ⟨(hC.cget 0 rfl 0).1, (hC.cget 0 rfl 1).1, (hC.cget 0 rfl 2).1, (hC.cget 0 rfl 3).1⟩)) (fun hHeld => ?_)
          try simp only [Act.put, List.setIfInBounds_toArray, List.set_cons_zero, List.set_cons_succ]
          clear hK hB; have hHeld := (show (fun w' : World => w'.cell? ⟨xb, 0, none⟩ = some (.int .i64 op) ∧ w'.cell? ⟨xb, 1, none⟩ = some (.int .i64 a) ∧ w'.cell? ⟨xb, 2, none⟩ = some (.int .i64 b) ∧ w'.cell? ⟨xb, 3, none⟩ = some (.int .i64 c)) _ from ⟨(hC.cget 0 rfl 0).1, (hC.cget 0 rfl 1).1, (hC.cget 0 rfl 2).1, (hC.cget 0 rfl 3).1⟩)
          refine lin_take (v := ?_) (by kernel_rfl) (by kernel_rfl) (fun _ _ _ h => h) (Or.inl ⟨by rfl, ?_⟩) (by assumption) ?_; (rotate_left; (intro wS hSw; (try dsimp only at hSw); go_simp; (try with_reducible rfl)); rotate_left); simp only [Act.put, List.setIfInBounds_toArray, List.set_cons_zero, List.set_cons_succ]
          obtain ⟨d0, k0⟩ := hC.cget 1 rfl 0
          obtain ⟨d1, k1⟩ := hC.cget 1 rfl 1
          obtain ⟨d2, k2⟩ := hC.cget 1 rfl 2
          simp at d0 d1 d2
          have hF := (((hC.cset 1 rfl 0 (.int .i64 a)).cset 1 rfl 1 (.int .i64 b)).cset 1 rfl 2 (.int .i64 c))
          refine lin_sole (by kernel_rfl) (fun K hK => ?_)
          go_simp
          refine hK.out _ _ ((show (fun w' : World => w'.cell? ⟨xb, 0, none⟩ = some (.int .i64 op) ∧ w'.cell? ⟨xb, 1, none⟩ = some (.int .i64 a) ∧ w'.cell? ⟨xb, 2, none⟩ = some (.int .i64 b) ∧ w'.cell? ⟨xb, 3, none⟩ = some (.int .i64 c)) _ from ⟨(hF.cget 0 rfl 0).1, (hF.cget 0 rfl 1).1, (hF.cget 0 rfl 2).1, (hF.cget 0 rfl 3).1⟩)) (fun hHeld => ?_)
          try simp only [Act.put, List.setIfInBounds_toArray, List.set_cons_zero, List.set_cons_succ]
          clear hK
          refine lin_done (by kernel_rfl) ?_
        case' pfour =>
          intro K hK
          go_simp
          refine (Own.lift (fields_any op a b c _) hU _ rfl).mono ?_; rintro e u1 ⟨rfl, hB⟩
          refine hK.out _ _ ((show (fun w' : World => w'.cell? ⟨xb, 0, none⟩ = some (.int .i64 op) ∧ w'.cell? ⟨xb, 1, none⟩ = some (.int .i64 a) ∧ w'.cell? ⟨xb, 2, none⟩ = some (.int .i64 b) ∧ w'.cell? ⟨xb, 3, none⟩ = some (.int .i64 c)) _ from ⟨(hB.cget 0 rfl 0).1, (hB.cget 0 rfl 1).1, (hB.cget 0 rfl 2).1, (hB.cget 0 rfl 3).1⟩)) (fun hHeld => ?_)
          try simp only [Act.put, List.setIfInBounds_toArray, List.set_cons_zero, List.set_cons_succ]
          clear hK hU; have hHeld := (show (fun w' : World => w'.cell? ⟨xb, 0, none⟩ = some (.int .i64 op) ∧ w'.cell? ⟨xb, 1, none⟩ = some (.int .i64 a) ∧ w'.cell? ⟨xb, 2, none⟩ = some (.int .i64 b) ∧ w'.cell? ⟨xb, 3, none⟩ = some (.int .i64 c)) _ from ⟨(hB.cget 0 rfl 0).1, (hB.cget 0 rfl 1).1, (hB.cget 0 rfl 2).1, (hB.cget 0 rfl 3).1⟩)
          refine lin_sole (by kernel_rfl) (fun K hK => ?_)
          go_simp
          have hC := hB.box #[.int .i64 0, .int .i64 0, .int .i64 0] 74
          refine hK.out _ _ ((show (fun w' : World => w'.cell? ⟨xb, 0, none⟩ = some (.int .i64 op) ∧ w'.cell? ⟨xb, 1, none⟩ = some (.int .i64 a) ∧ w'.cell? ⟨xb, 2, none⟩ = some (.int .i64 b) ∧ w'.cell? ⟨xb, 3, none⟩ = some (.int .i64 c)) _ from ⟨(hC.cget 0 rfl 0).1, (hC.cget 0 rfl 1).1, (hC.cget 0 rfl 2).1, (hC.cget 0 rfl 3).1⟩)) (fun hHeld => ?_)
          try simp only [Act.put, List.setIfInBounds_toArray, List.set_cons_zero, List.set_cons_succ]
          clear hK hHeld hB; generalize u1.alloc (.cells #[.int .i64 0, .int .i64 0, .int .i64 0] 74) = u2 at *; generalize u1.heap.size = bb0 at *; have hHeld := (show (fun w' : World => w'.cell? ⟨xb, 0, none⟩ = some (.int .i64 op) ∧ w'.cell? ⟨xb, 1, none⟩ = some (.int .i64 a) ∧ w'.cell? ⟨xb, 2, none⟩ = some (.int .i64 b) ∧ w'.cell? ⟨xb, 3, none⟩ = some (.int .i64 c)) _ from ⟨(hC.cget 0 rfl 0).1, (hC.cget 0 rfl 1).1, (hC.cget 0 rfl 2).1, (hC.cget 0 rfl 3).1⟩)
          refine lin_take (v := ?_) (by kernel_rfl) (by kernel_rfl) (fun _ _ _ h => h) (Or.inl ⟨by rfl, ?_⟩) (by assumption) ?_; (rotate_left; (intro wS hSw; (try dsimp only at hSw); go_simp; (try with_reducible rfl)); rotate_left); simp only [Act.put, List.setIfInBounds_toArray, List.set_cons_zero, List.set_cons_succ]
          obtain ⟨d0, k0⟩ := hC.cget 1 rfl 0
          obtain ⟨d1, k1⟩ := hC.cget 1 rfl 1
          obtain ⟨d2, k2⟩ := hC.cget 1 rfl 2
          simp at d0 d1 d2
          have hF := (((hC.cset 1 rfl 0 (.int .i64 a)).cset 1 rfl 1 (.int .i64 b)).cset 1 rfl 2 (.int .i64 c))
          refine lin_sole (by kernel_rfl) (fun K hK => ?_)
          go_simp
          refine hK.out _ _ ((show (fun w' : World => w'.cell? ⟨xb, 0, none⟩ = some (.int .i64 op) ∧ w'.cell? ⟨xb, 1, none⟩ = some (.int .i64 a) ∧ w'.cell? ⟨xb, 2, none⟩ = some (.int .i64 b) ∧ w'.cell? ⟨xb, 3, none⟩ = some (.int .i64 c)) _ from ⟨(hF.cget 0 rfl 0).1, (hF.cget 0 rfl 1).1, (hF.cget 0 rfl 2).1, (hF.cget 0 rfl 3).1⟩)) (fun hHeld => ?_)
          try simp only [Act.put, List.setIfInBounds_toArray, List.set_cons_zero, List.set_cons_succ]
          clear hK
          refine lin_done (by kernel_rfl) ?_
      case' ptwo =>
        intro K hK
        go_simp
        have hB := hU.box #[.int .i64 0, .int .i64 0, .int .i64 0] 74
        refine hK.out _ _ ((show (fun w' : World => w'.cell? ⟨xb, 0, none⟩ = some (.int .i64 op) ∧ w'.cell? ⟨xb, 1, none⟩ = some (.int .i64 a) ∧ w'.cell? ⟨xb, 2, none⟩ = some (.int .i64 b) ∧ w'.cell? ⟨xb, 3, none⟩ = some (.int .i64 c)) _ from ⟨(hB.cget 0 rfl 0).1, (hB.cget 0 rfl 1).1, (hB.cget 0 rfl 2).1, (hB.cget 0 rfl 3).1⟩)) (fun hHeld => ?_)
        try simp only [Act.put, List.setIfInBounds_toArray, List.set_cons_zero, List.set_cons_succ]
        clear hK hHeld hU; generalize u0.alloc (.cells #[.int .i64 0, .int .i64 0, .int .i64 0] 74) = u1 at *; generalize u0.heap.size = bb0 at *; have hHeld := (show (fun w' : World => w'.cell? ⟨xb, 0, none⟩ = some (.int .i64 op) ∧ w'.cell? ⟨xb, 1, none⟩ = some (.int .i64 a) ∧ w'.cell? ⟨xb, 2, none⟩ = some (.int .i64 b) ∧ w'.cell? ⟨xb, 3, none⟩ = some (.int .i64 c)) _ from ⟨(hB.cget 0 rfl 0).1, (hB.cget 0 rfl 1).1, (hB.cget 0 rfl 2).1, (hB.cget 0 rfl 3).1⟩)
        refine lin_sole (by kernel_rfl) (fun K hK => ?_)
        go_simp
        refine (FM.out _).mono ?_; rintro e w1 ⟨rfl, rfl⟩
        refine hK.out _ _ ((show (fun w' : World => w'.cell? ⟨xb, 0, none⟩ = some (.int .i64 op) ∧ w'.cell? ⟨xb, 1, none⟩ = some (.int .i64 a) ∧ w'.cell? ⟨xb, 2, none⟩ = some (.int .i64 b) ∧ w'.cell? ⟨xb, 3, none⟩ = some (.int .i64 c)) _ from ⟨(hB.cget 0 rfl 0).1, (hB.cget 0 rfl 1).1, (hB.cget 0 rfl 2).1, (hB.cget 0 rfl 3).1⟩)) (fun hHeld => ?_)
        try simp only [Act.put, List.setIfInBounds_toArray, List.set_cons_zero, List.set_cons_succ]
        clear hK
        refine lin_sole (by kernel_rfl) (fun K hK => ?_)
        go_simp
        refine (Own.lift (fields_any op a b c _) hB _ rfl).mono ?_; rintro e u2 ⟨rfl, hC⟩
        refine hK.out _ _ ((show (fun w' : World => w'.cell? ⟨xb, 0, none⟩ = some (.int .i64 op) ∧ w'.cell? ⟨xb, 1, none⟩ = some (.int .i64 a) ∧ w'.cell? ⟨xb, 2, none⟩ = some (.int .i64 b) ∧ w'.cell? ⟨xb, 3, none⟩ = some (.int .i64 c)) _ from ⟨(hC.cget 0 rfl 0).1, (hC.cget 0 rfl 1).1, (hC.cget 0 rfl 2).1, (hC.cget 0 rfl 3).1⟩)) (fun hHeld => ?_)
        try simp only [Act.put, List.setIfInBounds_toArray, List.set_cons_zero, List.set_cons_succ]
        clear hK hB; have hHeld := (show (fun w' : World => w'.cell? ⟨xb, 0, none⟩ = some (.int .i64 op) ∧ w'.cell? ⟨xb, 1, none⟩ = some (.int .i64 a) ∧ w'.cell? ⟨xb, 2, none⟩ = some (.int .i64 b) ∧ w'.cell? ⟨xb, 3, none⟩ = some (.int .i64 c)) _ from ⟨(hC.cget 0 rfl 0).1, (hC.cget 0 rfl 1).1, (hC.cget 0 rfl 2).1, (hC.cget 0 rfl 3).1⟩)
        refine lin_take (v := ?_) (by kernel_rfl) (by kernel_rfl) (fun _ _ _ h => h) (Or.inl ⟨by rfl, ?_⟩) (by assumption) ?_; (rotate_left; (intro wS hSw; (try dsimp only at hSw); go_simp; (try with_reducible rfl)); rotate_left); simp only [Act.put, List.setIfInBounds_toArray, List.set_cons_zero, List.set_cons_succ]
        obtain ⟨d0, k0⟩ := hC.cget 1 rfl 0
        obtain ⟨d1, k1⟩ := hC.cget 1 rfl 1
        obtain ⟨d2, k2⟩ := hC.cget 1 rfl 2
        simp at d0 d1 d2
        have hF := (((hC.cset 1 rfl 0 (.int .i64 a)).cset 1 rfl 1 (.int .i64 b)).cset 1 rfl 2 (.int .i64 c))
        refine lin_sole (by kernel_rfl) (fun K hK => ?_)
        go_simp
        refine hK.out _ _ ((show (fun w' : World => w'.cell? ⟨xb, 0, none⟩ = some (.int .i64 op) ∧ w'.cell? ⟨xb, 1, none⟩ = some (.int .i64 a) ∧ w'.cell? ⟨xb, 2, none⟩ = some (.int .i64 b) ∧ w'.cell? ⟨xb, 3, none⟩ = some (.int .i64 c)) _ from ⟨(hF.cget 0 rfl 0).1, (hF.cget 0 rfl 1).1, (hF.cget 0 rfl 2).1, (hF.cget 0 rfl 3).1⟩)) (fun hHeld => ?_)
        try simp only [Act.put, List.setIfInBounds_toArray, List.set_cons_zero, List.set_cons_succ]
        clear hK
        refine lin_done (by kernel_rfl) ?_
      all_goals
        go_wp2_with fail
        go_meet
        exact ⟨_, rfl, rfl, hF⟩
    case rest =>
      clear hU
      obtain ⟨B, rfl, rfl, hO⟩ := hcut
      have hBl := hO.below
      have y0 := (hO.cget 1 rfl 0).1
      have y1 := (hO.cget 1 rfl 1).1
      have y2 := (hO.cget 1 rfl 2).1
      simp at y0 y1 y2
      have Y := Lib.hid (fun (r : Nat) (hr : r < 3) => v3_cell y0 y1 y2 hr)
      clear y0 y1 y2 hO
      go_wp2_with fail
      go_loopw [23] (fun kv wr => ∃ r m : Nat, r ≤ F.length ∧ kv = .int .i64 r ∧ Hid (∀ i, i < r → fitB (F.getD i 0) ([a, b, c].getD i 0) = true) ∧ wr = wc.drewN m) (fun kv _ => (F.length - intOf kv).toNat)
      case atStart => exact ⟨0, 0, by omega, rfl, Lib.hid (fun i hi => by omega), rfl⟩
      case round =>
        obtain ⟨r, m, hr, hkv, hf, rfl⟩ := hrel
        by_cases hlt : r < F.length
        · rcases (show r = 0 ∨ r = 1 ∨ r = 2 by omega) with rfl | rfl | rfl
          · rw [show ((0 : Nat) : Int) = 0 from rfl] at hkv
            subst hkv
            have x := Y.out 0 (by omega)
            have hc : F.getD 0 0 = F[0] := by rw [List.getD_eq_getElem?_getD, List.getElem?_eq_getElem hlt]; rfl
            rw [show [a, b, c].getD 0 0 = a from rfl] at x
            have hbz : 0 < (⟨F.toArray⟩ : ByteArray).size := by simpa [ByteArray.size] using hlt
            have FT := fun w1 => fits_letter (F[0]) a w1
            cases hfv : fitB (F.getD 0 0) a with
            | true =>
              rw [hc] at hfv
              rw [hfv] at FT
              replace FT := Lib.hid (show ∀ w1, Calls Try.prog 59 #[.int .u8 (((⟨F.toArray⟩ : ByteArray)[0]'hbz).toNat), .int .i64 a] w1 fun e w' => e = .returned (.bool true) ∧ w1 = w' from FT)
              rw [← hc] at hfv
              have hf2 := Lib.hid (show ∀ i, i < 0 + 1 → fitB (F.getD i 0) ([a, b, c].getD i 0) = true from fun i hi => by
                by_cases h : i < 0
                · exact hf.out i h
                · obtain rfl : i = 0 := by omega
                  exact hfv)
              clear hf hfv hc
              go_wp2_with fail
              go_quiet ((go_at_call 59; first | exact quiet_same (FT.out _) | exact quiet_same2 (FT.out _) | exact quiet_same3 (FT.out _)))
              go_wp2_with fail
              go_roundw
              case rel => exact ⟨0 + 1, _, by omega, by go_num, hf2, by first | rfl | exact drewN_two⟩
              case measure => simp [intOf]; omega
            | false =>
              rw [hc] at hfv
              rw [hfv] at FT
              replace FT := Lib.hid (show ∀ w1, Calls Try.prog 59 #[.int .u8 (((⟨F.toArray⟩ : ByteArray)[0]'hbz).toNat), .int .i64 a] w1 fun e w' => e = .returned (.bool false) ∧ w1 = w' from FT)
              rw [← hc] at hfv
              have hv := Lib.hid (check_bad F [a, b, c] 0 (by simpa using hn) hf.out hlt hfv)
              clear hf hfv hc
              go_wp2_with fail
              go_quiet ((go_at_call 59; first | exact quiet_same (FT.out _) | exact quiet_same2 (FT.out _) | exact quiet_same3 (FT.out _)))
              go_wp2_with fail
              go_ret
              exact ⟨ret_int hv.out.symm, by first | exact below_drewN' hBl _ | (rw [drewN_two]; exact below_drewN' hBl _)⟩
          · rw [show ((1 : Nat) : Int) = 1 from rfl] at hkv
            subst hkv
            have x := Y.out 1 (by omega)
            have hc : F.getD 1 0 = F[1] := by rw [List.getD_eq_getElem?_getD, List.getElem?_eq_getElem hlt]; rfl
            rw [show [a, b, c].getD 1 0 = b from rfl] at x
            have hbz : 1 < (⟨F.toArray⟩ : ByteArray).size := by simpa [ByteArray.size] using hlt
            have FT := fun w1 => fits_letter (F[1]) b w1
            cases hfv : fitB (F.getD 1 0) b with
            | true =>
              rw [hc] at hfv
              rw [hfv] at FT
              replace FT := Lib.hid (show ∀ w1, Calls Try.prog 59 #[.int .u8 (((⟨F.toArray⟩ : ByteArray)[1]'hbz).toNat), .int .i64 b] w1 fun e w' => e = .returned (.bool true) ∧ w1 = w' from FT)
              rw [← hc] at hfv
              have hf2 := Lib.hid (show ∀ i, i < 1 + 1 → fitB (F.getD i 0) ([a, b, c].getD i 0) = true from fun i hi => by
                by_cases h : i < 1
                · exact hf.out i h
                · obtain rfl : i = 1 := by omega
                  exact hfv)
              clear hf hfv hc
              go_wp2_with fail
              go_quiet ((go_at_call 59; first | exact quiet_same (FT.out _) | exact quiet_same2 (FT.out _) | exact quiet_same3 (FT.out _)))
              go_wp2_with fail
              go_roundw
              case rel => exact ⟨1 + 1, _, by omega, by go_num, hf2, by first | rfl | exact drewN_two⟩
              case measure => simp [intOf]; omega
            | false =>
              rw [hc] at hfv
              rw [hfv] at FT
              replace FT := Lib.hid (show ∀ w1, Calls Try.prog 59 #[.int .u8 (((⟨F.toArray⟩ : ByteArray)[1]'hbz).toNat), .int .i64 b] w1 fun e w' => e = .returned (.bool false) ∧ w1 = w' from FT)
              rw [← hc] at hfv
              have hv := Lib.hid (check_bad F [a, b, c] 1 (by simpa using hn) hf.out hlt hfv)
              clear hf hfv hc
              go_wp2_with fail
              go_quiet ((go_at_call 59; first | exact quiet_same (FT.out _) | exact quiet_same2 (FT.out _) | exact quiet_same3 (FT.out _)))
              go_wp2_with fail
              go_ret
              exact ⟨ret_int hv.out.symm, by first | exact below_drewN' hBl _ | (rw [drewN_two]; exact below_drewN' hBl _)⟩
          · rw [show ((2 : Nat) : Int) = 2 from rfl] at hkv
            subst hkv
            have x := Y.out 2 (by omega)
            have hc : F.getD 2 0 = F[2] := by rw [List.getD_eq_getElem?_getD, List.getElem?_eq_getElem hlt]; rfl
            rw [show [a, b, c].getD 2 0 = c from rfl] at x
            have hbz : 2 < (⟨F.toArray⟩ : ByteArray).size := by simpa [ByteArray.size] using hlt
            have FT := fun w1 => fits_letter (F[2]) c w1
            cases hfv : fitB (F.getD 2 0) c with
            | true =>
              rw [hc] at hfv
              rw [hfv] at FT
              replace FT := Lib.hid (show ∀ w1, Calls Try.prog 59 #[.int .u8 (((⟨F.toArray⟩ : ByteArray)[2]'hbz).toNat), .int .i64 c] w1 fun e w' => e = .returned (.bool true) ∧ w1 = w' from FT)
              rw [← hc] at hfv
              have hf2 := Lib.hid (show ∀ i, i < 2 + 1 → fitB (F.getD i 0) ([a, b, c].getD i 0) = true from fun i hi => by
                by_cases h : i < 2
                · exact hf.out i h
                · obtain rfl : i = 2 := by omega
                  exact hfv)
              clear hf hfv hc
              go_wp2_with fail
              go_quiet ((go_at_call 59; first | exact quiet_same (FT.out _) | exact quiet_same2 (FT.out _) | exact quiet_same3 (FT.out _)))
              go_wp2_with fail
              go_roundw
              case rel => exact ⟨2 + 1, _, by omega, by go_num, hf2, by first | rfl | exact drewN_two⟩
              case measure => simp [intOf]; omega
            | false =>
              rw [hc] at hfv
              rw [hfv] at FT
              replace FT := Lib.hid (show ∀ w1, Calls Try.prog 59 #[.int .u8 (((⟨F.toArray⟩ : ByteArray)[2]'hbz).toNat), .int .i64 c] w1 fun e w' => e = .returned (.bool false) ∧ w1 = w' from FT)
              rw [← hc] at hfv
              have hv := Lib.hid (check_bad F [a, b, c] 2 (by simpa using hn) hf.out hlt hfv)
              clear hf hfv hc
              go_wp2_with fail
              go_quiet ((go_at_call 59; first | exact quiet_same (FT.out _) | exact quiet_same2 (FT.out _) | exact quiet_same3 (FT.out _)))
              go_wp2_with fail
              go_ret
              exact ⟨ret_int hv.out.symm, by first | exact below_drewN' hBl _ | (rw [drewN_two]; exact below_drewN' hBl _)⟩
        · obtain rfl : r = F.length := by omega
          subst hkv
          have hv := Lib.hid (check_rest F [a, b, c] (by simpa using hn) hf.out)
          clear hf
          rcases (show F.length = 0 ∨ F.length = 1 ∨ F.length = 2 ∨ F.length = 3 by omega) with hk | hk | hk | hk
          · have y0 := Y.out 0 (by omega)
            have y1 := Y.out 1 (by omega)
            have y2 := Y.out 2 (by omega)
            simp at y0 y1 y2
            clear Y
            rw [hk] at hv ⊢
            by_cases za : a = 0
            · by_cases zb : b = 0
              · by_cases zc : c = 0
                · have hv2 : checkF F [a, b, c] = 0 := by rw [hv.out]; simp [za, zb, zc]
                  replace hv2 := Lib.hid hv2
                  clear hv
                  go_wp2_with fail
                  refine wp_loop_rounds 4 ?_
                  repeat (rw [rounds_succ]; go_wp2_with fail)
                  go_ret
                  exact ⟨ret_int hv2.out.symm, below_drewN' hBl _⟩
                · have hv2 : checkF F [a, b, c] = 4 := by rw [hv.out]; simp [za, zb, zc]
                  replace hv2 := Lib.hid hv2
                  clear hv
                  go_wp2_with fail
                  refine wp_loop_rounds 4 ?_
                  repeat (rw [rounds_succ]; go_wp2_with fail)
                  go_ret
                  exact ⟨ret_int hv2.out.symm, below_drewN' hBl _⟩
              · have hv2 : checkF F [a, b, c] = 4 := by rw [hv.out]; simp [za, zb]
                replace hv2 := Lib.hid hv2
                clear hv
                go_wp2_with fail
                refine wp_loop_rounds 3 ?_
                repeat (rw [rounds_succ]; go_wp2_with fail)
                go_ret
                exact ⟨ret_int hv2.out.symm, below_drewN' hBl _⟩
            · have hv2 : checkF F [a, b, c] = 4 := by rw [hv.out]; simp [za]
              replace hv2 := Lib.hid hv2
              clear hv
              go_wp2_with fail
              refine wp_loop_rounds 2 ?_
              repeat (rw [rounds_succ]; go_wp2_with fail)
              go_ret
              exact ⟨ret_int hv2.out.symm, below_drewN' hBl _⟩
          · have y0 := Y.out 0 (by omega)
            have y1 := Y.out 1 (by omega)
            have y2 := Y.out 2 (by omega)
            simp at y0 y1 y2
            clear Y
            rw [hk] at hv ⊢
            by_cases zb : b = 0
            · by_cases zc : c = 0
              · have hv2 : checkF F [a, b, c] = 0 := by rw [hv.out]; simp [zb, zc]
                replace hv2 := Lib.hid hv2
                clear hv
                go_wp2_with fail
                refine wp_loop_rounds 3 ?_
                repeat (rw [rounds_succ]; go_wp2_with fail)
                go_ret
                exact ⟨ret_int hv2.out.symm, below_drewN' hBl _⟩
              · have hv2 : checkF F [a, b, c] = 4 := by rw [hv.out]; simp [zb, zc]
                replace hv2 := Lib.hid hv2
                clear hv
                go_wp2_with fail
                refine wp_loop_rounds 3 ?_
                repeat (rw [rounds_succ]; go_wp2_with fail)
                go_ret
                exact ⟨ret_int hv2.out.symm, below_drewN' hBl _⟩
            · have hv2 : checkF F [a, b, c] = 4 := by rw [hv.out]; simp [zb]
              replace hv2 := Lib.hid hv2
              clear hv
              go_wp2_with fail
              refine wp_loop_rounds 2 ?_
              repeat (rw [rounds_succ]; go_wp2_with fail)
              go_ret
              exact ⟨ret_int hv2.out.symm, below_drewN' hBl _⟩
          · have y0 := Y.out 0 (by omega)
            have y1 := Y.out 1 (by omega)
            have y2 := Y.out 2 (by omega)
            simp at y0 y1 y2
            clear Y
            rw [hk] at hv ⊢
            by_cases zc : c = 0
            · have hv2 : checkF F [a, b, c] = 0 := by rw [hv.out]; simp [zc]
              replace hv2 := Lib.hid hv2
              clear hv
              go_wp2_with fail
              refine wp_loop_rounds 2 ?_
              repeat (rw [rounds_succ]; go_wp2_with fail)
              go_ret
              exact ⟨ret_int hv2.out.symm, below_drewN' hBl _⟩
            · have hv2 : checkF F [a, b, c] = 4 := by rw [hv.out]; simp [zc]
              replace hv2 := Lib.hid hv2
              clear hv
              go_wp2_with fail
              refine wp_loop_rounds 2 ?_
              repeat (rw [rounds_succ]; go_wp2_with fail)
              go_ret
              exact ⟨ret_int hv2.out.symm, below_drewN' hBl _⟩
          · have y0 := Y.out 0 (by omega)
            have y1 := Y.out 1 (by omega)
            have y2 := Y.out 2 (by omega)
            simp at y0 y1 y2
            clear Y
            rw [hk] at hv ⊢
            have hv2 : checkF F [a, b, c] = 0 := by rw [hv.out]; simp
            replace hv2 := Lib.hid hv2
            clear hv
            go_wp2_with fail
            refine wp_loop_rounds 1 ?_
            repeat (rw [rounds_succ]; go_wp2_with fail)
            go_ret
            exact ⟨ret_int hv2.out.symm, below_drewN' hBl _⟩
end Go.Proofs.Ytboiogjklecpaaa
