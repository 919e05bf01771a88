/- CoreBegins: where something is wrong. -/
import Derived.Test.YtcegncbnanbenaaCor8
import Derived.Deep.Cut
import Derived.Deep.CutRange
set_option linter.unusedVariables false
set_option linter.unusedSimpArgs false
namespace Go.Proofs.Ytcegncbnanbenaa
open Go.RowKit
set_option maxRecDepth 100000
set_option maxHeartbeats 4000000
/-- lin_law for an operation whose guard is met. -/
theorem lin_law_g {P : Program} {ops : Array Oper} {Q : Exit → Act → World → Prop} {S : World → Prop} {listed : List Bool} {i : Nat} {o : Oper} {rest : List (Nat × Oper)} {a : Act} {w : World}
    (hr : soleOk ops listed i = true) (hw : Region.wanted o (yielded ops a.tmps) = true)
    (h : wpList P ops (fun e a w => e = Exit.normal ∧ (S w ∧ (S w → wpLin P ops Q S (listed.set i true) rest a w))) [{ o with guard := none }] a w) :
    wpLin P ops Q S listed ((i, o) :: rest) a w := by
  refine lin_sole hr fun K hK => ?_
  rw [if_pos hw]
  have h2 : Oper.wp P { o with guard := none } a w K Q := oper_of_list (ops := ops) rfl (wpList_weak h fun e a w ⟨he, hS, hW⟩ => ⟨he, hK.out _ _ hS hW⟩)
  exact h2
theorem begins_err (q : QP) (mem : Int) (fs : List (List I4)) (ao : Option Addr) (cap : Nat) (xs : List Int) (io : Option Addr) (ic : Nat) (w : World) (hL : LiesF w ao cap fs) (hI : Lies w io ic xs) (hin : io = none → ic = 0) (hE : coreE q mem fs xs.length ≠ 0) :
    Calls Try.prog 5 #[.agg #[.int .i64 mem, .slice ao fs.length cap], .slice io xs.length ic, .agg #[.int .i64 q.W, .int .i64 q.T, .int .i64 q.F, .int .i64 q.D, .int .i64 q.O, .bool q.fo, .bool q.la]] w fun e w' => e = .returned (.bool true) ∧ Below w.heap.size w w' := by
  obtain ⟨i0, hi0, hz0, hz1, hz2⟩ := info_parts' Try.infoIntK
  have hO := ((Own.nil (Below.refl _ w)).box #[.int .i64 mem, .slice ao fs.length cap] 33).box #[.int .i64 q.W, .int .i64 q.T, .int .i64 q.F, .int .i64 q.D, .int .i64 q.O, .bool q.fo, .bool q.la] 35
  simp only [List.cons_append, List.nil_append, World.size_alloc] at hO
  obtain ⟨pb, hpb⟩ : ∃ pb, w.heap.size = pb := ⟨_, rfl⟩
  have W := Lib.hid (fun w' => works25_any w')
  have GR := Lib.hid (fun (w' : World) (hb : Below w.heap.size w w') => great_any mem fs ao cap w' (hL.below hb))
  have hic := hI.1
  have hic2 := hI.2.1
  have SI := Lib.hid (fun (w' : World) (hb : Below w.heap.size w w') => (hI.below hb).src hin)
  have HL := Lib.hid (fun (w' : World) (hb : Below w.heap.size w w') => hL.below hb)
  unfold maxLen at hic2
  clear hL hI
  go_enter Try.func5, Try.ntmps5
  go_upto_region 1 with fail
  rw [hpb] at hO
  try simp only [hpb]
  generalize (w.alloc (.cells #[.int .i64 mem, .slice ao fs.length cap] 33)).alloc (.cells #[.int .i64 q.W, .int .i64 q.T, .int .i64 q.F, .int .i64 q.D, .int .i64 q.O, .bool q.fo, .bool q.la] 35) = u at *
  generalize pb + 1 = qb at *
  clear hpb
  go_upto_region 3 with (go_at_call 7; refine (W.out _).mono ?_; rintro e w0 ⟨rfl, hb0⟩)
  replace hO := hO.grow hb0
  obtain ⟨k0, k1, q0, q1, q2, q3, q4, q5, q6⟩ := show w0.cell? ⟨pb, 0, none⟩ = some (.int .i64 mem) ∧ w0.cell? ⟨pb, 1, none⟩ = some (.slice ao fs.length cap) ∧ w0.cell? ⟨qb, 0, none⟩ = some (.int .i64 q.W) ∧ w0.cell? ⟨qb, 1, none⟩ = some (.int .i64 q.T) ∧ w0.cell? ⟨qb, 2, none⟩ = some (.int .i64 q.F) ∧ w0.cell? ⟨qb, 3, none⟩ = some (.int .i64 q.D) ∧ w0.cell? ⟨qb, 4, none⟩ = some (.int .i64 q.O) ∧ w0.cell? ⟨qb, 5, none⟩ = some (.bool q.fo) ∧ w0.cell? ⟨qb, 6, none⟩ = some (.bool q.la) from ⟨(hO.cget 0 rfl 0).1, (hO.cget 0 rfl 1).1, (hO.cget 1 rfl 0).1, (hO.cget 1 rfl 1).1, (hO.cget 1 rfl 2).1, (hO.cget 1 rfl 3).1, (hO.cget 1 rfl 4).1, (hO.cget 1 rfl 5).1, (hO.cget 1 rfl 6).1⟩
  replace GR := Lib.hid (GR.out _ hO.below)
  clear hb0
  go_wp2_with fail
  go_at_call 24
  refine GR.out.mono ?_
  rintro e w1 ⟨b, rfl, hsml, hb1⟩
  replace hO := hO.grow hb1
  clear GR hb1 k0 k1 q0 q1 q2 q3 q4 q5 q6
  cases b with
  | true =>
    go_wp2
    go_ret
    exact ⟨rfl, hO.below⟩
  | false =>
  obtain ⟨hs1, hs2⟩ := hsml.out rfl
  by_cases hbig : 1000 < xs.length
  · have hbig2 : (1000 : Int) < (xs.length : Int) := by omega
    go_wp2
    go_ret
    exact ⟨rfl, hO.below⟩
  have hsm : ¬ (1000 : Int) < (xs.length : Int) := by omega
  have OW := Lib.hid (fun (w' : World) (hb : Below w.heap.size w w') => own_any mem fs ao cap w' (HL.out _ hb) hs1 hs2)
  clear hsml
  go_upto_region 5 with fail
  go_cut [7, 8] from 28 to 36 (fun c e wx => c = .pointer none ∧ e = .int .i64 (coreE q mem fs xs.length) ∧ Own w wx [cellsA pb #[.int .i64 mem, .slice ao fs.length cap] 33, cellsA qb #[.int .i64 q.W, .int .i64 q.T, .int .i64 q.F, .int .i64 q.D, .int .i64 q.O, .bool q.fo, .bool q.la] 35])
  case first =>
    have hO' : Own w w1.drew [cellsA pb #[.int .i64 mem, .slice ao fs.length cap] 33, cellsA qb #[.int .i64 q.W, .int .i64 q.T, .int .i64 q.F, .int .i64 q.D, .int .i64 q.O, .bool q.fo, .bool q.la] 35] := hO.drewN 1
    clear hO
    have hO := hO'
    clear hO'
    have hS0 : (fun w' : World => w'.cell? ⟨pb, 0, none⟩ = some (.int .i64 mem) ∧ w'.cell? ⟨pb, 1, none⟩ = some (.slice ao fs.length cap) ∧ w'.cell? ⟨qb, 0, none⟩ = some (.int .i64 q.W) ∧ w'.cell? ⟨qb, 1, none⟩ = some (.int .i64 q.T) ∧ w'.cell? ⟨qb, 2, none⟩ = some (.int .i64 q.F) ∧ w'.cell? ⟨qb, 3, none⟩ = some (.int .i64 q.D) ∧ w'.cell? ⟨qb, 4, none⟩ = some (.int .i64 q.O) ∧ w'.cell? ⟨qb, 5, none⟩ = some (.bool q.fo) ∧ w'.cell? ⟨qb, 6, none⟩ = some (.bool q.la)) w1.drew := ⟨(hO.cget 0 rfl 0).1, (hO.cget 0 rfl 1).1, (hO.cget 1 rfl 0).1, (hO.cget 1 rfl 1).1, (hO.cget 1 rfl 2).1, (hO.cget 1 rfl 3).1, (hO.cget 1 rfl 4).1, (hO.cget 1 rfl 5).1, (hO.cget 1 rfl 6).1⟩
    refine lin_start (S := (fun w' : World => w'.cell? ⟨pb, 0, none⟩ = some (.int .i64 mem) ∧ w'.cell? ⟨pb, 1, none⟩ = some (.slice ao fs.length cap) ∧ w'.cell? ⟨qb, 0, none⟩ = some (.int .i64 q.W) ∧ w'.cell? ⟨qb, 1, none⟩ = some (.int .i64 q.T) ∧ w'.cell? ⟨qb, 2, none⟩ = some (.int .i64 q.F) ∧ w'.cell? ⟨qb, 3, none⟩ = some (.int .i64 q.D) ∧ w'.cell? ⟨qb, 4, none⟩ = some (.int .i64 q.O) ∧ w'.cell? ⟨qb, 5, none⟩ = some (.bool q.fo) ∧ w'.cell? ⟨qb, 6, none⟩ = some (.bool q.la))) rfl 12 rfl hS0 ?_
    simp only [numbered, Nat.zero_add, Nat.reduceAdd]
    generalize w1.drew = u0 at *
    have hHeld := hS0
    refine lin_take (v := ?_) (by kernel_rfl) (by kernel_rfl) (fun _ _ _ h => h) (Or.inl ⟨by rfl, ?_⟩) (by assumption) ?_; (rotate_left; (intro wS hSw; (try dsimp only at hSw); go_simp; (try with_reducible rfl)); rotate_left); simp only [Act.put, List.setIfInBounds_toArray, List.set_cons_zero, List.set_cons_succ]
    refine lin_rot ?_; simp only [List.cons_append, List.nil_append]
    refine lin_rot ?_; simp only [List.cons_append, List.nil_append]
    refine lin_take (v := ?_) (by kernel_rfl) (by kernel_rfl) (fun _ _ _ h => h) (Or.inl ⟨by rfl, ?_⟩) (by assumption) ?_; (rotate_left; (intro wS hSw; (try dsimp only at hSw); go_simp; (try with_reducible rfl)); rotate_left); simp only [Act.put, List.setIfInBounds_toArray, List.set_cons_zero, List.set_cons_succ]
    refine lin_rot ?_; simp only [List.cons_append, List.nil_append]
    refine lin_take (v := ?_) (by kernel_rfl) (by kernel_rfl) (fun _ _ _ h => h) (Or.inl ⟨by rfl, ?_⟩) (by assumption) ?_; (rotate_left; (intro wS hSw; (try dsimp only at hSw); go_simp; (try with_reducible rfl)); rotate_left); simp only [Act.put, List.setIfInBounds_toArray, List.set_cons_zero, List.set_cons_succ]
    refine lin_rot ?_; simp only [List.cons_append, List.nil_append]
    refine lin_rot ?_; simp only [List.cons_append, List.nil_append]
    refine lin_rot ?_; simp only [List.cons_append, List.nil_append]
    refine lin_rot ?_; simp only [List.cons_append, List.nil_append]
    refine lin_rot ?_; simp only [List.cons_append, List.nil_append]
    refine lin_rot ?_; simp only [List.cons_append, List.nil_append]
    refine lin_pair (by kernel_rfl) ?pone ?ptwo
    case' pone =>
      intro K hK
      go_simp
      go_at_call 25; refine (OW.out _ hO.below).mono ?_
      rintro e w2 ⟨na, nc, ps, rfl, hps, hOw⟩
      have hO1 := Own.join hO hOw
      refine hK.out _ _ ?_ (fun hHeld => ?_)
      · exact ⟨((hO1.sel [2, 3] (by decide)).cget 0 rfl 0).1, ((hO1.sel [2, 3] (by decide)).cget 0 rfl 1).1, ((hO1.sel [2, 3] (by decide)).cget 1 rfl 0).1, ((hO1.sel [2, 3] (by decide)).cget 1 rfl 1).1, ((hO1.sel [2, 3] (by decide)).cget 1 rfl 2).1, ((hO1.sel [2, 3] (by decide)).cget 1 rfl 3).1, ((hO1.sel [2, 3] (by decide)).cget 1 rfl 4).1, ((hO1.sel [2, 3] (by decide)).cget 1 rfl 5).1, ((hO1.sel [2, 3] (by decide)).cget 1 rfl 6).1⟩
      try simp only [Act.put, List.setIfInBounds_toArray, List.set_cons_zero, List.set_cons_succ]
      clear hK
      refine lin_sole (by kernel_rfl) (fun K hK => ?_)
      go_simp
      obtain ⟨bb, hbb⟩ : ∃ bb, w2.heap.size = bb := ⟨_, rfl⟩
      have hO2 := (hO1.sel [2, 3, 0, 1] (by decide)).base 3 1
      rw [hbb] at hO2 ⊢
      refine hK.out _ _ ?_ (fun hHeld => ?_)
      · exact ⟨(hO2.cget 0 rfl 0).1, (hO2.cget 0 rfl 1).1, (hO2.cget 1 rfl 0).1, (hO2.cget 1 rfl 1).1, (hO2.cget 1 rfl 2).1, (hO2.cget 1 rfl 3).1, (hO2.cget 1 rfl 4).1, (hO2.cget 1 rfl 5).1, (hO2.cget 1 rfl 6).1⟩
      try simp only [Act.put, List.setIfInBounds_toArray, List.set_cons_zero, List.set_cons_succ]
      clear hK
      refine lin_law (by kernel_rfl) rfl ?_
      refine wpList_append_row _ rfl _ _ 36 rfl 3 i0 (.int .i64 0) 1 8 Try.underlying36 hi0 hz0 hz1 hz2 rfl (by decide) (.slice (some ⟨bb, 0, none⟩) 0 0) 0 [] rfl (hO2.row 4 rfl) io xs.length ic (xs.map (.int .i64)) rfl (SI.out _ hO2.below).1 (SI.out _ hO2.below).2.1 (SI.out _ hO2.below).2.2 (by simp [Value.oneCell']) (by unfold maxLen; omega) (by omega) ?_
      intro v2 w3 hr3 ht3 hf3; simp only [Nat.zero_add, List.nil_append] at hr3; obtain ⟨ia, icc, rfl, g1, g2, _⟩ := hr3.shape
      have hO3 := hO2.move 4 rfl (Moves.of_append hr3 ht3 hf3)
      clear hr3 ht3 hf3
      refine wpList_nil ⟨rfl, ⟨(hO3.cget 0 rfl 0).1, (hO3.cget 0 rfl 1).1, (hO3.cget 1 rfl 0).1, (hO3.cget 1 rfl 1).1, (hO3.cget 1 rfl 2).1, (hO3.cget 1 rfl 3).1, (hO3.cget 1 rfl 4).1, (hO3.cget 1 rfl 5).1, (hO3.cget 1 rfl 6).1⟩, fun hHeld => ?_⟩
      try simp only [Act.put, List.setIfInBounds_toArray, List.set_cons_zero, List.set_cons_succ]
      have hLF := liesF_of (hO3.row 2 rfl) (hO3.at 3 rfl) (by have := congrArg List.length hps.out; simp at this; exact this.symm)
      rw [hps.out] at hLF
      have NE := Lib.hid (knew_err q mem fs na nc xs.length ia icc _ hLF g1 g2 hE)
      refine lin_sole (by kernel_rfl) (fun K hK => ?_)
      go_simp
      go_at_call 8; refine NE.out.mono ?_
      rintro e w4 ⟨rfl, hb4⟩
      have hO4 := hO3.grow hb4
      refine hK.out _ _ ?_ (fun hHeld => ?_)
      · exact ⟨(hO4.cget 0 rfl 0).1, (hO4.cget 0 rfl 1).1, (hO4.cget 1 rfl 0).1, (hO4.cget 1 rfl 1).1, (hO4.cget 1 rfl 2).1, (hO4.cget 1 rfl 3).1, (hO4.cget 1 rfl 4).1, (hO4.cget 1 rfl 5).1, (hO4.cget 1 rfl 6).1⟩
      try simp only [Act.put, List.setIfInBounds_toArray, List.set_cons_zero, List.set_cons_succ]
      clear hK
      refine lin_take (v := ?_) (by kernel_rfl) (by kernel_rfl) (fun _ _ _ h => h) (Or.inl ⟨by rfl, ?_⟩) (by assumption) ?_; (rotate_left; (intro wS hSw; (try dsimp only at hSw); go_simp; (try with_reducible rfl)); rotate_left); simp only [Act.put, List.setIfInBounds_toArray, List.set_cons_zero, List.set_cons_succ]
      refine lin_take (v := ?_) (by kernel_rfl) (by kernel_rfl) (fun _ _ _ h => h) (Or.inl ⟨by rfl, ?_⟩) (by assumption) ?_; (rotate_left; (intro wS hSw; (try dsimp only at hSw); go_simp; (try with_reducible rfl)); rotate_left); simp only [Act.put, List.setIfInBounds_toArray, List.set_cons_zero, List.set_cons_succ]
      refine lin_take (v := ?_) (by kernel_rfl) (by kernel_rfl) (fun _ _ _ h => h) (Or.inl ⟨by rfl, ?_⟩) (by assumption) ?_; (rotate_left; (intro wS hSw; (try dsimp only at hSw); go_simp; (try with_reducible rfl)); rotate_left); simp only [Act.put, List.setIfInBounds_toArray, List.set_cons_zero, List.set_cons_succ]
      refine lin_take (v := ?_) (by kernel_rfl) (by kernel_rfl) (fun _ _ _ h => h) (Or.inl ⟨by rfl, ?_⟩) (by assumption) ?_; (rotate_left; (intro wS hSw; (try dsimp only at hSw); go_simp; (try with_reducible rfl)); rotate_left); simp only [Act.put, List.setIfInBounds_toArray, List.set_cons_zero, List.set_cons_succ]
      refine lin_take (v := ?_) (by kernel_rfl) (by kernel_rfl) (fun _ _ _ h => h) (Or.inl ⟨by rfl, ?_⟩) (by assumption) ?_; (rotate_left; (intro wS hSw; (try dsimp only at hSw); go_simp; (try with_reducible rfl)); rotate_left); simp only [Act.put, List.setIfInBounds_toArray, List.set_cons_zero, List.set_cons_succ]
      refine lin_done (by kernel_rfl) ?_
      go_wp2_with fail
      go_meet
      exact ⟨rfl, rfl, hO4.sel [0, 1] (by decide)⟩
    case' ptwo =>
      intro K hK
      go_simp
      obtain ⟨bb, hbb⟩ : ∃ bb, u0.heap.size = bb := ⟨_, rfl⟩
      have hO1 := hO.base 3 1
      rw [hbb] at hO1 ⊢
      refine hK.out _ _ ?_ (fun hHeld => ?_)
      · exact ⟨(hO1.cget 0 rfl 0).1, (hO1.cget 0 rfl 1).1, (hO1.cget 1 rfl 0).1, (hO1.cget 1 rfl 1).1, (hO1.cget 1 rfl 2).1, (hO1.cget 1 rfl 3).1, (hO1.cget 1 rfl 4).1, (hO1.cget 1 rfl 5).1, (hO1.cget 1 rfl 6).1⟩
      try simp only [Act.put, List.setIfInBounds_toArray, List.set_cons_zero, List.set_cons_succ]
      clear hK
      refine lin_sole (by kernel_rfl) (fun K hK => ?_)
      go_simp
      go_at_call 25; refine (OW.out _ hO1.below).mono ?_
      rintro e w2 ⟨na, nc, ps, rfl, hps, hOw⟩
      have hO2 := (Own.join hO1 hOw).sel [2, 3, 0, 1, 4] (by decide)
      refine hK.out _ _ ?_ (fun hHeld => ?_)
      · exact ⟨(hO2.cget 0 rfl 0).1, (hO2.cget 0 rfl 1).1, (hO2.cget 1 rfl 0).1, (hO2.cget 1 rfl 1).1, (hO2.cget 1 rfl 2).1, (hO2.cget 1 rfl 3).1, (hO2.cget 1 rfl 4).1, (hO2.cget 1 rfl 5).1, (hO2.cget 1 rfl 6).1⟩
      try simp only [Act.put, List.setIfInBounds_toArray, List.set_cons_zero, List.set_cons_succ]
      clear hK
      refine lin_law (by kernel_rfl) rfl ?_
      refine wpList_append_row _ rfl _ _ 36 rfl 3 i0 (.int .i64 0) 1 8 Try.underlying36 hi0 hz0 hz1 hz2 rfl (by decide) (.slice (some ⟨bb, 0, none⟩) 0 0) 0 [] rfl (hO2.row 4 rfl) io xs.length ic (xs.map (.int .i64)) rfl (SI.out _ hO2.below).1 (SI.out _ hO2.below).2.1 (SI.out _ hO2.below).2.2 (by simp [Value.oneCell']) (by unfold maxLen; omega) (by omega) ?_
      intro v2 w3 hr3 ht3 hf3; simp only [Nat.zero_add, List.nil_append] at hr3; obtain ⟨ia, icc, rfl, g1, g2, _⟩ := hr3.shape
      have hO3 := hO2.move 4 rfl (Moves.of_append hr3 ht3 hf3)
      clear hr3 ht3 hf3
      refine wpList_nil ⟨rfl, ⟨(hO3.cget 0 rfl 0).1, (hO3.cget 0 rfl 1).1, (hO3.cget 1 rfl 0).1, (hO3.cget 1 rfl 1).1, (hO3.cget 1 rfl 2).1, (hO3.cget 1 rfl 3).1, (hO3.cget 1 rfl 4).1, (hO3.cget 1 rfl 5).1, (hO3.cget 1 rfl 6).1⟩, fun hHeld => ?_⟩
      try simp only [Act.put, List.setIfInBounds_toArray, List.set_cons_zero, List.set_cons_succ]
      have hLF := liesF_of (hO3.row 2 rfl) (hO3.at 3 rfl) (by have := congrArg List.length hps.out; simp at this; exact this.symm)
      rw [hps.out] at hLF
      have NE := Lib.hid (knew_err q mem fs na nc xs.length ia icc _ hLF g1 g2 hE)
      refine lin_sole (by kernel_rfl) (fun K hK => ?_)
      go_simp
      go_at_call 8; refine NE.out.mono ?_
      rintro e w4 ⟨rfl, hb4⟩
      have hO4 := hO3.grow hb4
      refine hK.out _ _ ?_ (fun hHeld => ?_)
      · exact ⟨(hO4.cget 0 rfl 0).1, (hO4.cget 0 rfl 1).1, (hO4.cget 1 rfl 0).1, (hO4.cget 1 rfl 1).1, (hO4.cget 1 rfl 2).1, (hO4.cget 1 rfl 3).1, (hO4.cget 1 rfl 4).1, (hO4.cget 1 rfl 5).1, (hO4.cget 1 rfl 6).1⟩
      try simp only [Act.put, List.setIfInBounds_toArray, List.set_cons_zero, List.set_cons_succ]
      clear hK
      refine lin_take (v := ?_) (by kernel_rfl) (by kernel_rfl) (fun _ _ _ h => h) (Or.inl ⟨by rfl, ?_⟩) (by assumption) ?_; (rotate_left; (intro wS hSw; (try dsimp only at hSw); go_simp; (try with_reducible rfl)); rotate_left); simp only [Act.put, List.setIfInBounds_toArray, List.set_cons_zero, List.set_cons_succ]
      refine lin_take (v := ?_) (by kernel_rfl) (by kernel_rfl) (fun _ _ _ h => h) (Or.inl ⟨by rfl, ?_⟩) (by assumption) ?_; (rotate_left; (intro wS hSw; (try dsimp only at hSw); go_simp; (try with_reducible rfl)); rotate_left); simp only [Act.put, List.setIfInBounds_toArray, List.set_cons_zero, List.set_cons_succ]
      refine lin_take (v := ?_) (by kernel_rfl) (by kernel_rfl) (fun _ _ _ h => h) (Or.inl ⟨by rfl, ?_⟩) (by assumption) ?_; (rotate_left; (intro wS hSw; (try dsimp only at hSw); go_simp; (try with_reducible rfl)); rotate_left); simp only [Act.put, List.setIfInBounds_toArray, List.set_cons_zero, List.set_cons_succ]
      refine lin_take (v := ?_) (by kernel_rfl) (by kernel_rfl) (fun _ _ _ h => h) (Or.inl ⟨by rfl, ?_⟩) (by assumption) ?_; (rotate_left; (intro wS hSw; (try dsimp only at hSw); go_simp; (try with_reducible rfl)); rotate_left); simp only [Act.put, List.setIfInBounds_toArray, List.set_cons_zero, List.set_cons_succ]
      refine lin_take (v := ?_) (by kernel_rfl) (by kernel_rfl) (fun _ _ _ h => h) (Or.inl ⟨by rfl, ?_⟩) (by assumption) ?_; (rotate_left; (intro wS hSw; (try dsimp only at hSw); go_simp; (try with_reducible rfl)); rotate_left); simp only [Act.put, List.setIfInBounds_toArray, List.set_cons_zero, List.set_cons_succ]
      refine lin_done (by kernel_rfl) ?_
      go_wp2_with fail
      go_meet
      exact ⟨rfl, rfl, hO4.sel [0, 1] (by decide)⟩
  case rest =>
  obtain ⟨rfl, rfl, hO⟩ := hcut
  obtain ⟨E, hEE⟩ : ∃ E, coreE q mem fs xs.length = E := ⟨_, rfl⟩
  have RK := Lib.hid (rkcheck q mem fs ao cap xs.length io ic wc (HL.out _ hO.below) hic (by unfold maxLen; omega))
  rw [hEE] at RK hE ⊢
  replace hEE := Lib.hid hEE
  obtain ⟨k0, k1, q0, q1, q2, q3, q4, q5, q6⟩ := show wc.cell? ⟨pb, 0, none⟩ = some (.int .i64 mem) ∧ wc.cell? ⟨pb, 1, none⟩ = some (.slice ao fs.length cap) ∧ wc.cell? ⟨qb, 0, none⟩ = some (.int .i64 q.W) ∧ wc.cell? ⟨qb, 1, none⟩ = some (.int .i64 q.T) ∧ wc.cell? ⟨qb, 2, none⟩ = some (.int .i64 q.F) ∧ wc.cell? ⟨qb, 3, none⟩ = some (.int .i64 q.D) ∧ wc.cell? ⟨qb, 4, none⟩ = some (.int .i64 q.O) ∧ wc.cell? ⟨qb, 5, none⟩ = some (.bool q.fo) ∧ wc.cell? ⟨qb, 6, none⟩ = some (.bool q.la) from ⟨(hO.cget 0 rfl 0).1, (hO.cget 0 rfl 1).1, (hO.cget 1 rfl 0).1, (hO.cget 1 rfl 1).1, (hO.cget 1 rfl 2).1, (hO.cget 1 rfl 3).1, (hO.cget 1 rfl 4).1, (hO.cget 1 rfl 5).1, (hO.cget 1 rfl 6).1⟩
  go_upto_region 7 with (go_at_call 26; refine RK.out.mono ?_; rintro e wcc ⟨rfl, hbc⟩)
  clear RK k0 k1 q0 q1 q2 q3 q4 q5 q6
  replace hO := hO.grow hbc
  clear hbc
  replace hEE := hEE.out
  go_cut [54] from 41 to 54 (fun t wx => t = .bool false ∧ Own w wx [cellsA pb #[.int .i64 mem, .slice ao fs.length cap] 33, cellsA qb #[.int .i64 q.W, .int .i64 q.T, .int .i64 q.F, .int .i64 q.D, .int .i64 q.O, .bool q.fo, .bool q.la] 35])
  case first =>
    have hO' : Own w wcc.drew [cellsA pb #[.int .i64 mem, .slice ao fs.length cap] 33, cellsA qb #[.int .i64 q.W, .int .i64 q.T, .int .i64 q.F, .int .i64 q.D, .int .i64 q.O, .bool q.fo, .bool q.la] 35] := hO.drewN 1
    clear hO
    have hO := hO'
    clear hO'
    have hS0 : (fun w' : World => w'.cell? ⟨pb, 0, none⟩ = some (.int .i64 mem) ∧ w'.cell? ⟨pb, 1, none⟩ = some (.slice ao fs.length cap) ∧ w'.cell? ⟨qb, 0, none⟩ = some (.int .i64 q.W) ∧ w'.cell? ⟨qb, 1, none⟩ = some (.int .i64 q.T) ∧ w'.cell? ⟨qb, 2, none⟩ = some (.int .i64 q.F) ∧ w'.cell? ⟨qb, 3, none⟩ = some (.int .i64 q.D) ∧ w'.cell? ⟨qb, 4, none⟩ = some (.int .i64 q.O) ∧ w'.cell? ⟨qb, 5, none⟩ = some (.bool q.fo) ∧ w'.cell? ⟨qb, 6, none⟩ = some (.bool q.la)) wcc.drew := ⟨(hO.cget 0 rfl 0).1, (hO.cget 0 rfl 1).1, (hO.cget 1 rfl 0).1, (hO.cget 1 rfl 1).1, (hO.cget 1 rfl 2).1, (hO.cget 1 rfl 3).1, (hO.cget 1 rfl 4).1, (hO.cget 1 rfl 5).1, (hO.cget 1 rfl 6).1⟩
    refine lin_start (S := (fun w' : World => w'.cell? ⟨pb, 0, none⟩ = some (.int .i64 mem) ∧ w'.cell? ⟨pb, 1, none⟩ = some (.slice ao fs.length cap) ∧ w'.cell? ⟨qb, 0, none⟩ = some (.int .i64 q.W) ∧ w'.cell? ⟨qb, 1, none⟩ = some (.int .i64 q.T) ∧ w'.cell? ⟨qb, 2, none⟩ = some (.int .i64 q.F) ∧ w'.cell? ⟨qb, 3, none⟩ = some (.int .i64 q.D) ∧ w'.cell? ⟨qb, 4, none⟩ = some (.int .i64 q.O) ∧ w'.cell? ⟨qb, 5, none⟩ = some (.bool q.fo) ∧ w'.cell? ⟨qb, 6, none⟩ = some (.bool q.la))) rfl 14 rfl hS0 ?_
    simp only [numbered, Nat.zero_add, Nat.reduceAdd]
    generalize wcc.drew = u0 at *
    have hHeld := hS0
    refine lin_take (v := ?_) (by kernel_rfl) (by kernel_rfl) (fun _ _ _ h => h) (Or.inl ⟨by rfl, ?_⟩) (by assumption) ?_; (rotate_left; (intro wS hSw; (try dsimp only at hSw); go_simp; (try with_reducible rfl)); rotate_left); simp only [Act.put, List.setIfInBounds_toArray, List.set_cons_zero, List.set_cons_succ]
    refine lin_take (v := ?_) (by kernel_rfl) (by kernel_rfl) (fun _ _ _ h => h) (Or.inl ⟨by rfl, ?_⟩) (by assumption) ?_; (rotate_left; (intro wS hSw; (try dsimp only at hSw); go_simp; (try with_reducible rfl)); rotate_left); simp only [Act.put, List.setIfInBounds_toArray, List.set_cons_zero, List.set_cons_succ]
    refine lin_take (v := ?_) (by kernel_rfl) (by kernel_rfl) (fun _ _ _ h => h) (Or.inl ⟨by rfl, ?_⟩) (by assumption) ?_; (rotate_left; (intro wS hSw; (try dsimp only at hSw); go_simp; (try with_reducible rfl)); rotate_left); simp only [Act.put, List.setIfInBounds_toArray, List.set_cons_zero, List.set_cons_succ]
    refine lin_take (v := ?_) (by kernel_rfl) (by kernel_rfl) (fun _ _ _ h => h) (Or.inl ⟨by rfl, ?_⟩) (by assumption) ?_; (rotate_left; (intro wS hSw; (try dsimp only at hSw); go_simp; (try with_reducible rfl)); rotate_left); simp only [Act.put, List.setIfInBounds_toArray, List.set_cons_zero, List.set_cons_succ]
    refine lin_take (v := ?_) (by kernel_rfl) (by kernel_rfl) (fun _ _ _ h => h) (Or.inl ⟨by rfl, ?_⟩) (by assumption) ?_; (rotate_left; (intro wS hSw; (try dsimp only at hSw); go_simp; (try with_reducible rfl)); rotate_left); simp only [Act.put, List.setIfInBounds_toArray, List.set_cons_zero, List.set_cons_succ]
    refine lin_rot ?_; simp only [List.cons_append, List.nil_append]
    refine lin_rot ?_; simp only [List.cons_append, List.nil_append]
    refine lin_take (v := ?_) (by kernel_rfl) (by kernel_rfl) (fun _ _ _ h => h) (Or.inl ⟨by rfl, ?_⟩) (by assumption) ?_; (rotate_left; (intro wS hSw; (try dsimp only at hSw); go_simp; (try with_reducible rfl)); rotate_left); simp only [Act.put, List.setIfInBounds_toArray, List.set_cons_zero, List.set_cons_succ]
    refine lin_rot ?_; simp only [List.cons_append, List.nil_append]
    refine lin_take (v := ?_) (by kernel_rfl) (by kernel_rfl) (fun _ _ _ h => h) (Or.inl ⟨by rfl, ?_⟩) (by assumption) ?_; (rotate_left; (intro wS hSw; (try dsimp only at hSw); go_simp; (try with_reducible rfl)); rotate_left); simp only [Act.put, List.setIfInBounds_toArray, List.set_cons_zero, List.set_cons_succ]
    refine lin_rot ?_; simp only [List.cons_append, List.nil_append]
    refine lin_take (v := ?_) (by kernel_rfl) (by kernel_rfl) (fun _ _ _ h => h) (Or.inl ⟨by rfl, ?_⟩) (by assumption) ?_; (rotate_left; (intro wS hSw; (try dsimp only at hSw); go_simp; (try with_reducible rfl)); rotate_left); simp only [Act.put, List.setIfInBounds_toArray, List.set_cons_zero, List.set_cons_succ]
    refine lin_rot ?_; simp only [List.cons_append, List.nil_append]
    refine lin_rot ?_; simp only [List.cons_append, List.nil_append]
    refine lin_pair (by kernel_rfl) ?pthree ?pfour
    case' pthree =>
      intro K hK
      go_simp
      go_at_call 25; refine (OW.out _ hO.below).mono ?_
      rintro e w2 ⟨na, nc, ps, rfl, hps, hOw⟩
      have hO1 := Own.join hO hOw
      refine hK.out _ _ ?_ (fun hHeld => ?_)
      · exact ⟨((hO1.sel [2, 3] (by decide)).cget 0 rfl 0).1, ((hO1.sel [2, 3] (by decide)).cget 0 rfl 1).1, ((hO1.sel [2, 3] (by decide)).cget 1 rfl 0).1, ((hO1.sel [2, 3] (by decide)).cget 1 rfl 1).1, ((hO1.sel [2, 3] (by decide)).cget 1 rfl 2).1, ((hO1.sel [2, 3] (by decide)).cget 1 rfl 3).1, ((hO1.sel [2, 3] (by decide)).cget 1 rfl 4).1, ((hO1.sel [2, 3] (by decide)).cget 1 rfl 5).1, ((hO1.sel [2, 3] (by decide)).cget 1 rfl 6).1⟩
      try simp only [Act.put, List.setIfInBounds_toArray, List.set_cons_zero, List.set_cons_succ]
      clear hK
      refine lin_sole (by kernel_rfl) (fun K hK => ?_)
      go_simp
      obtain ⟨bb, hbb⟩ : ∃ bb, w2.heap.size = bb := ⟨_, rfl⟩
      have hO2 := (hO1.sel [2, 3, 0, 1] (by decide)).base 3 1
      rw [hbb] at hO2 ⊢
      refine hK.out _ _ ?_ (fun hHeld => ?_)
      · exact ⟨(hO2.cget 0 rfl 0).1, (hO2.cget 0 rfl 1).1, (hO2.cget 1 rfl 0).1, (hO2.cget 1 rfl 1).1, (hO2.cget 1 rfl 2).1, (hO2.cget 1 rfl 3).1, (hO2.cget 1 rfl 4).1, (hO2.cget 1 rfl 5).1, (hO2.cget 1 rfl 6).1⟩
      try simp only [Act.put, List.setIfInBounds_toArray, List.set_cons_zero, List.set_cons_succ]
      clear hK
      refine lin_law_g (by kernel_rfl) (by rfl) ?_
      refine wpList_append_row _ rfl _ _ 36 rfl 3 i0 (.int .i64 0) 1 8 Try.underlying36 hi0 hz0 hz1 hz2 rfl (by decide) (.slice (some ⟨bb, 0, none⟩) 0 0) 0 [] rfl (hO2.row 4 rfl) io xs.length ic (xs.map (.int .i64)) rfl (SI.out _ hO2.below).1 (SI.out _ hO2.below).2.1 (SI.out _ hO2.below).2.2 (by simp [Value.oneCell']) (by unfold maxLen; omega) (by omega) ?_
      intro v2 w3 hr3 ht3 hf3; simp only [Nat.zero_add, List.nil_append] at hr3; obtain ⟨ia, icc, rfl, g1, g2, _⟩ := hr3.shape
      have hO3 := hO2.move 4 rfl (Moves.of_append hr3 ht3 hf3)
      clear hr3 ht3 hf3
      refine wpList_nil ⟨rfl, ⟨(hO3.cget 0 rfl 0).1, (hO3.cget 0 rfl 1).1, (hO3.cget 1 rfl 0).1, (hO3.cget 1 rfl 1).1, (hO3.cget 1 rfl 2).1, (hO3.cget 1 rfl 3).1, (hO3.cget 1 rfl 4).1, (hO3.cget 1 rfl 5).1, (hO3.cget 1 rfl 6).1⟩, fun hHeld => ?_⟩
      try simp only [Act.put, List.setIfInBounds_toArray, List.set_cons_zero, List.set_cons_succ]
      have hLF := liesF_of (hO3.row 2 rfl) (hO3.at 3 rfl) (by have := congrArg List.length hps.out; simp at this; exact this.symm)
      rw [hps.out] at hLF
      have KC := Lib.hid (kcheck q mem fs na nc xs.length ia icc _ hLF g1 g2)
      rw [hEE] at KC
      refine lin_sole (by kernel_rfl) (fun K hK => ?_)
      go_simp
      go_at_call 27; refine KC.out.mono ?_
      rintro e w4 ⟨rfl, hb4⟩
      have hO4 := hO3.grow hb4
      refine hK.out _ _ ?_ (fun hHeld => ?_)
      · exact ⟨(hO4.cget 0 rfl 0).1, (hO4.cget 0 rfl 1).1, (hO4.cget 1 rfl 0).1, (hO4.cget 1 rfl 1).1, (hO4.cget 1 rfl 2).1, (hO4.cget 1 rfl 3).1, (hO4.cget 1 rfl 4).1, (hO4.cget 1 rfl 5).1, (hO4.cget 1 rfl 6).1⟩
      try simp only [Act.put, List.setIfInBounds_toArray, List.set_cons_zero, List.set_cons_succ]
      clear hK
      refine lin_take (v := ?_) (by kernel_rfl) (by kernel_rfl) (fun _ _ _ h => h) (Or.inl ⟨by rfl, ?_⟩) (by assumption) ?_; (rotate_left; (intro wS hSw; (try dsimp only at hSw); go_simp; (try with_reducible rfl)); rotate_left); simp only [Act.put, List.setIfInBounds_toArray, List.set_cons_zero, List.set_cons_succ]
      refine lin_take (v := ?_) (by kernel_rfl) (by kernel_rfl) (fun _ _ _ h => h) (Or.inl ⟨by rfl, ?_⟩) (by assumption) ?_; (rotate_left; (intro wS hSw; (try dsimp only at hSw); go_simp; (try with_reducible rfl)); rotate_left); simp only [Act.put, List.setIfInBounds_toArray, List.set_cons_zero, List.set_cons_succ]
      refine lin_done (by kernel_rfl) ?_
      go_wp2_with fail
      go_meet
      exact ⟨rfl, hO4.sel [0, 1] (by decide)⟩
    case' pfour =>
      intro K hK
      go_simp
      obtain ⟨bb, hbb⟩ : ∃ bb, u0.heap.size = bb := ⟨_, rfl⟩
      have hO1 := hO.base 3 1
      rw [hbb] at hO1 ⊢
      refine hK.out _ _ ?_ (fun hHeld => ?_)
      · exact ⟨(hO1.cget 0 rfl 0).1, (hO1.cget 0 rfl 1).1, (hO1.cget 1 rfl 0).1, (hO1.cget 1 rfl 1).1, (hO1.cget 1 rfl 2).1, (hO1.cget 1 rfl 3).1, (hO1.cget 1 rfl 4).1, (hO1.cget 1 rfl 5).1, (hO1.cget 1 rfl 6).1⟩
      try simp only [Act.put, List.setIfInBounds_toArray, List.set_cons_zero, List.set_cons_succ]
      clear hK
      refine lin_sole (by kernel_rfl) (fun K hK => ?_)
      go_simp
      go_at_call 25; refine (OW.out _ hO1.below).mono ?_
      rintro e w2 ⟨na, nc, ps, rfl, hps, hOw⟩
      have hO2 := (Own.join hO1 hOw).sel [2, 3, 0, 1, 4] (by decide)
      refine hK.out _ _ ?_ (fun hHeld => ?_)
      · exact ⟨(hO2.cget 0 rfl 0).1, (hO2.cget 0 rfl 1).1, (hO2.cget 1 rfl 0).1, (hO2.cget 1 rfl 1).1, (hO2.cget 1 rfl 2).1, (hO2.cget 1 rfl 3).1, (hO2.cget 1 rfl 4).1, (hO2.cget 1 rfl 5).1, (hO2.cget 1 rfl 6).1⟩
      try simp only [Act.put, List.setIfInBounds_toArray, List.set_cons_zero, List.set_cons_succ]
      clear hK
      refine lin_law_g (by kernel_rfl) (by rfl) ?_
      refine wpList_append_row _ rfl _ _ 36 rfl 3 i0 (.int .i64 0) 1 8 Try.underlying36 hi0 hz0 hz1 hz2 rfl (by decide) (.slice (some ⟨bb, 0, none⟩) 0 0) 0 [] rfl (hO2.row 4 rfl) io xs.length ic (xs.map (.int .i64)) rfl (SI.out _ hO2.below).1 (SI.out _ hO2.below).2.1 (SI.out _ hO2.below).2.2 (by simp [Value.oneCell']) (by unfold maxLen; omega) (by omega) ?_
      intro v2 w3 hr3 ht3 hf3; simp only [Nat.zero_add, List.nil_append] at hr3; obtain ⟨ia, icc, rfl, g1, g2, _⟩ := hr3.shape
      have hO3 := hO2.move 4 rfl (Moves.of_append hr3 ht3 hf3)
      clear hr3 ht3 hf3
      refine wpList_nil ⟨rfl, ⟨(hO3.cget 0 rfl 0).1, (hO3.cget 0 rfl 1).1, (hO3.cget 1 rfl 0).1, (hO3.cget 1 rfl 1).1, (hO3.cget 1 rfl 2).1, (hO3.cget 1 rfl 3).1, (hO3.cget 1 rfl 4).1, (hO3.cget 1 rfl 5).1, (hO3.cget 1 rfl 6).1⟩, fun hHeld => ?_⟩
      try simp only [Act.put, List.setIfInBounds_toArray, List.set_cons_zero, List.set_cons_succ]
      have hLF := liesF_of (hO3.row 2 rfl) (hO3.at 3 rfl) (by have := congrArg List.length hps.out; simp at this; exact this.symm)
      rw [hps.out] at hLF
      have KC := Lib.hid (kcheck q mem fs na nc xs.length ia icc _ hLF g1 g2)
      rw [hEE] at KC
      refine lin_sole (by kernel_rfl) (fun K hK => ?_)
      go_simp
      go_at_call 27; refine KC.out.mono ?_
      rintro e w4 ⟨rfl, hb4⟩
      have hO4 := hO3.grow hb4
      refine hK.out _ _ ?_ (fun hHeld => ?_)
      · exact ⟨(hO4.cget 0 rfl 0).1, (hO4.cget 0 rfl 1).1, (hO4.cget 1 rfl 0).1, (hO4.cget 1 rfl 1).1, (hO4.cget 1 rfl 2).1, (hO4.cget 1 rfl 3).1, (hO4.cget 1 rfl 4).1, (hO4.cget 1 rfl 5).1, (hO4.cget 1 rfl 6).1⟩
      try simp only [Act.put, List.setIfInBounds_toArray, List.set_cons_zero, List.set_cons_succ]
      clear hK
      refine lin_take (v := ?_) (by kernel_rfl) (by kernel_rfl) (fun _ _ _ h => h) (Or.inl ⟨by rfl, ?_⟩) (by assumption) ?_; (rotate_left; (intro wS hSw; (try dsimp only at hSw); go_simp; (try with_reducible rfl)); rotate_left); simp only [Act.put, List.setIfInBounds_toArray, List.set_cons_zero, List.set_cons_succ]
      refine lin_take (v := ?_) (by kernel_rfl) (by kernel_rfl) (fun _ _ _ h => h) (Or.inl ⟨by rfl, ?_⟩) (by assumption) ?_; (rotate_left; (intro wS hSw; (try dsimp only at hSw); go_simp; (try with_reducible rfl)); rotate_left); simp only [Act.put, List.setIfInBounds_toArray, List.set_cons_zero, List.set_cons_succ]
      refine lin_done (by kernel_rfl) ?_
      go_wp2_with fail
      go_meet
      exact ⟨rfl, hO4.sel [0, 1] (by decide)⟩
  case rest =>
  obtain ⟨rfl, hO⟩ := hcut
  have hE2 : (E == 0) = false := by simpa using hE
  have hbb := Lib.hid hO.below
  clear hO hEE
  go_wp2_with fail
  go_ret
  exact ⟨rfl, hbb.out⟩
end Go.Proofs.Ytcegncbnanbenaa
