/- CoreBegins: where all is right, up to the new run. -/
import Derived.Test.YtcegncbnanbenaaCbErr
import Derived.Test.YtcegncbnanbenaaCb25
import Derived.Laws.CopyOwn
import Derived.Deep.Cut
import Derived.Deep.CutRange
set_option linter.unusedVariables false
set_option linter.unusedSimpArgs false
namespace Go.Proofs.Ytcegncbnanbenaa
open Go.RowKit
set_option maxRecDepth 100000
set_option maxHeartbeats 4000000
theorem setsL_low : ∀ (vs : List Value) (xs : List Value) (o i : Nat), i < o → (setsL xs o vs)[i]? = xs[i]?
  | [], _, _, _, _ => rfl
  | v :: r, xs, o, i, h => by
    rw [setsL, setsL_low r (xs.set o v) (o + 1) i (by omega), List.getElem?_set_ne (by omega)]
theorem setsL_get : ∀ (vs : List Value) (xs : List Value) (o j : Nat) (u : Value), vs[j]? = some u → o + vs.length ≤ xs.length → (setsL xs o vs)[o + j]? = some u
  | [], _, _, _, _, h, _ => by simp at h
  | v :: r, xs, o, 0, u, h, hl => by
    simp only [List.length_cons] at hl
    have h0 := setsL_low r (xs.set o v) (o + 1) o (by omega)
    rw [List.getElem?_set_self (by omega)] at h0
    exact h0.trans (by simpa using h)
  | v :: r, xs, o, j + 1, u, h, hl => by
    simp only [List.length_cons] at hl
    rw [setsL, show o + (j + 1) = o + 1 + j by omega]
    exact setsL_get r _ (o + 1) j u (by simpa using h) (by simp; omega)
theorem framesL_get {M j : Nat} {v : Value} (hM : 1 ≤ M) (h : rootV.toList[j]? = some v) : (framesL M)[19 + j]? = some v := by
  unfold framesL
  exact setsL_get _ _ _ _ _ h (by rw [show rootV.toList.length = 19 from rfl, Array.length_toList, size_madeCells]; omega)
theorem q_ok {q : QP} {mem : Int} {fs : List (List I4)} {n : Nat} (h : coreE q mem fs n = 0) : q.ok = true ∧ ((n : Int) ≤ mem) := by
  unfold coreE at h
  split at h
  · exact absurd h (by assumption)
  split at h
  · omega
  split at h
  · omega
  · rename_i h1 h2 h3
    refine ⟨?_, by omega⟩
    cases hq : q.ok
    · exact absurd (Or.inl hq) h2
    · rfl
/-- A run that has not begun, and the statement's own boxes. -/
def CoreBox (w0 w : World) (q : QP) (mem : Int) (fs : List (List I4)) (xs : List Int) (cb pb qb : Nat) (ao : Option Addr) (cap : Nat) : Prop :=
  ∃ (gs sb gd sd ob lb tb ag hb rb M : Nat) (oa : Option Addr) (oc : Nat) (ps : List Fn) (bs' : List Int) (fr' : Nat) (pk' : Int) (bv : Value),
    (M : Int) = q.F ∧ ps.map (·.2) = fs ∧
    Own w0 w (arenaL ag hb bv ((List.replicate (M + 1) false).set 1 true) bs' fr' pk' (tabL tb gs sb ag rb (M + 1) q.W q.F q.T q.D (wordsL q) (framesL M) (coreL cb gs gd sd ob lb q (.slice oa fs.length oc) (.pointer (some ⟨tb, 0, none⟩)) 0 0 0 (xs ++ List.replicate (mem.toNat - xs.length) 0) fs.length ps ++ [cellsA pb #[.int .i64 mem, .slice ao fs.length cap] 33, cellsA qb #[.int .i64 q.W, .int .i64 q.T, .int .i64 q.F, .int .i64 q.D, .int .i64 q.O, .bool q.fo, .bool q.la] 35])))
theorem CoreBox.of {w0 w w' : World} {q : QP} {mem : Int} {fs : List (List I4)} {xs : List Int} {cb pb qb : Nat} {ao : Option Addr} {cap : Nat} (h : CoreNew w w' q mem fs xs cb) (hB : Own w0 w [cellsA pb #[.int .i64 mem, .slice ao fs.length cap] 33, cellsA qb #[.int .i64 q.W, .int .i64 q.T, .int .i64 q.F, .int .i64 q.D, .int .i64 q.O, .bool q.fo, .bool q.la] 35]) : CoreBox w0 w' q mem fs xs cb pb qb ao cap := by
  obtain ⟨gs, sb, gd, sd, ob, lb, tb, ag, hb, rb, M, oa, oc, ps, bs', fr', pk', hM, hps, bv, hO⟩ := h
  exact ⟨gs, sb, gd, sd, ob, lb, tb, ag, hb, rb, M, oa, oc, ps, bs', fr', pk', bv, hM, hps, hB.join hO⟩
theorem CoreBox.grow {w0 w w' : World} {q : QP} {mem : Int} {fs : List (List I4)} {xs : List Int} {cb pb qb : Nat} {ao : Option Addr} {cap : Nat} (h : CoreBox w0 w q mem fs xs cb pb qb ao cap) (hb : Below w.heap.size w w') : CoreBox w0 w' q mem fs xs cb pb qb ao cap := by
  obtain ⟨gs, sb, gd, sd, ob, lb, tb, ag, hb', rb, M, oa, oc, ps, bs', fr', pk', bv, hM, hps, hO⟩ := h
  exact ⟨gs, sb, gd, sd, ob, lb, tb, ag, hb', rb, M, oa, oc, ps, bs', fr', pk', bv, hM, hps, hO.grow hb⟩
theorem CoreBox.boxes {w0 w : World} {q : QP} {mem : Int} {fs : List (List I4)} {xs : List Int} {cb pb qb : Nat} {ao : Option Addr} {cap : Nat} (h : CoreBox w0 w q mem fs xs cb pb qb ao cap) : Own w0 w [cellsA pb #[.int .i64 mem, .slice ao fs.length cap] 33, cellsA qb #[.int .i64 q.W, .int .i64 q.T, .int .i64 q.F, .int .i64 q.D, .int .i64 q.O, .bool q.fo, .bool q.la] 35] := by
  obtain ⟨gs, sb, gd, sd, ob, lb, tb, ag, hb', rb, M, oa, oc, ps, bs', fr', pk', bv, hM, hps, hO⟩ := h
  exact hO.sel [12, 13] (by decide)
theorem CoreBox.keep {w0 w : World} {q : QP} {mem : Int} {fs : List (List I4)} {xs : List Int} {cb pb qb : Nat} {ao : Option Addr} {cap : Nat} (h : CoreBox w0 w q mem fs xs cb pb qb ao cap) : (fun w' : World => w'.cell? ⟨pb, 0, none⟩ = some (.int .i64 mem) ∧ w'.cell? ⟨pb, 1, none⟩ = some (.slice ao fs.length cap) ∧ w'.cell? ⟨qb, 0, none⟩ = some (.int .i64 q.W) ∧ w'.cell? ⟨qb, 1, none⟩ = some (.int .i64 q.T) ∧ w'.cell? ⟨qb, 2, none⟩ = some (.int .i64 q.F) ∧ w'.cell? ⟨qb, 3, none⟩ = some (.int .i64 q.D) ∧ w'.cell? ⟨qb, 4, none⟩ = some (.int .i64 q.O) ∧ w'.cell? ⟨qb, 5, none⟩ = some (.bool q.fo) ∧ w'.cell? ⟨qb, 6, none⟩ = some (.bool q.la)) w := ⟨(h.boxes.cget 0 rfl 0).1, (h.boxes.cget 0 rfl 1).1, (h.boxes.cget 1 rfl 0).1, (h.boxes.cget 1 rfl 1).1, (h.boxes.cget 1 rfl 2).1, (h.boxes.cget 1 rfl 3).1, (h.boxes.cget 1 rfl 4).1, (h.boxes.cget 1 rfl 5).1, (h.boxes.cget 1 rfl 6).1⟩
theorem begins_ok (q : QP) (mem : Int) (fs : List (List I4)) (ao : Option Addr) (cap : Nat) (xs : List Int) (io : Option Addr) (ic : Nat) (w : World) (hL : LiesF w ao cap fs) (hI : Lies w io ic xs) (hin : io = none → ic = 0) (hE : coreE q mem fs xs.length = 0) :
    Calls Try.prog 5 #[.agg #[.int .i64 mem, .slice ao fs.length cap], .slice io xs.length ic, .agg #[.int .i64 q.W, .int .i64 q.T, .int .i64 q.F, .int .i64 q.D, .int .i64 q.O, .bool q.fo, .bool q.la]] w fun e w' => e = .returned (.bool true) ∧ Below w.heap.size w w' := by
  obtain ⟨i0, hi0, hz0, hz1, hz2⟩ := info_parts' Try.infoIntK
  have hO := ((Own.nil (Below.refl _ w)).box #[.int .i64 mem, .slice ao fs.length cap] 33).box #[.int .i64 q.W, .int .i64 q.T, .int .i64 q.F, .int .i64 q.D, .int .i64 q.O, .bool q.fo, .bool q.la] 35
  simp only [List.cons_append, List.nil_append, World.size_alloc] at hO
  obtain ⟨pb, hpb⟩ : ∃ pb, w.heap.size = pb := ⟨_, rfl⟩
  have W := Lib.hid (fun w' => works25_any w')
  have GR := Lib.hid (fun (w' : World) (hb : Below w.heap.size w w') => great_any mem fs ao cap w' (hL.below hb))
  have hic := hI.1
  have hic2 := hI.2.1
  have SI := Lib.hid (fun (w' : World) (hb : Below w.heap.size w w') => (hI.below hb).src hin)
  have HL := Lib.hid (fun (w' : World) (hb : Below w.heap.size w w') => hL.below hb)
  have HI := Lib.hid (fun (w' : World) (hb : Below w.heap.size w w') => hI.below hb)
  unfold maxLen at hic2
  clear hL hI
  go_enter Try.func5, Try.ntmps5
  go_upto_region 1 with fail
  rw [hpb] at hO
  try simp only [hpb]
  generalize (w.alloc (.cells #[.int .i64 mem, .slice ao fs.length cap] 33)).alloc (.cells #[.int .i64 q.W, .int .i64 q.T, .int .i64 q.F, .int .i64 q.D, .int .i64 q.O, .bool q.fo, .bool q.la] 35) = u at *
  generalize pb + 1 = qb at *
  clear hpb
  go_upto_region 3 with (go_at_call 7; refine (W.out _).mono ?_; rintro e w0 ⟨rfl, hb0⟩)
  replace hO := hO.grow hb0
  obtain ⟨k0, k1, q0, q1, q2, q3, q4, q5, q6⟩ := show w0.cell? ⟨pb, 0, none⟩ = some (.int .i64 mem) ∧ w0.cell? ⟨pb, 1, none⟩ = some (.slice ao fs.length cap) ∧ w0.cell? ⟨qb, 0, none⟩ = some (.int .i64 q.W) ∧ w0.cell? ⟨qb, 1, none⟩ = some (.int .i64 q.T) ∧ w0.cell? ⟨qb, 2, none⟩ = some (.int .i64 q.F) ∧ w0.cell? ⟨qb, 3, none⟩ = some (.int .i64 q.D) ∧ w0.cell? ⟨qb, 4, none⟩ = some (.int .i64 q.O) ∧ w0.cell? ⟨qb, 5, none⟩ = some (.bool q.fo) ∧ w0.cell? ⟨qb, 6, none⟩ = some (.bool q.la) from ⟨(hO.cget 0 rfl 0).1, (hO.cget 0 rfl 1).1, (hO.cget 1 rfl 0).1, (hO.cget 1 rfl 1).1, (hO.cget 1 rfl 2).1, (hO.cget 1 rfl 3).1, (hO.cget 1 rfl 4).1, (hO.cget 1 rfl 5).1, (hO.cget 1 rfl 6).1⟩
  replace GR := Lib.hid (GR.out _ hO.below)
  clear hb0
  go_wp2_with fail
  go_at_call 24
  refine GR.out.mono ?_
  rintro e w1 ⟨b, rfl, hsml, hb1⟩
  replace hO := hO.grow hb1
  clear GR hb1 k0 k1 q0 q1 q2 q3 q4 q5 q6
  cases b with
  | true =>
    go_wp2
    go_ret
    exact ⟨rfl, hO.below⟩
  | false =>
  obtain ⟨hs1, hs2⟩ := hsml.out rfl
  by_cases hbig : 1000 < xs.length
  · have hbig2 : (1000 : Int) < (xs.length : Int) := by omega
    go_wp2
    go_ret
    exact ⟨rfl, hO.below⟩
  have hsm : ¬ (1000 : Int) < (xs.length : Int) := by omega
  have OW := Lib.hid (fun (w' : World) (hb : Below w.heap.size w w') => own_any mem fs ao cap w' (HL.out _ hb) hs1 hs2)
  clear hsml
  go_upto_region 5 with fail
  go_cut [7, 8] from 28 to 36 (fun c e wx => ∃ cb, c = .pointer (some ⟨cb, 0, none⟩) ∧ e = .int .i64 0 ∧ CoreBox w wx q mem fs xs cb pb qb ao cap)
  case first =>
    have hO' : Own w w1.drew [cellsA pb #[.int .i64 mem, .slice ao fs.length cap] 33, cellsA qb #[.int .i64 q.W, .int .i64 q.T, .int .i64 q.F, .int .i64 q.D, .int .i64 q.O, .bool q.fo, .bool q.la] 35] := hO.drewN 1
    clear hO
    have hO := hO'
    clear hO'
    have hS0 : (fun w' : World => w'.cell? ⟨pb, 0, none⟩ = some (.int .i64 mem) ∧ w'.cell? ⟨pb, 1, none⟩ = some (.slice ao fs.length cap) ∧ w'.cell? ⟨qb, 0, none⟩ = some (.int .i64 q.W) ∧ w'.cell? ⟨qb, 1, none⟩ = some (.int .i64 q.T) ∧ w'.cell? ⟨qb, 2, none⟩ = some (.int .i64 q.F) ∧ w'.cell? ⟨qb, 3, none⟩ = some (.int .i64 q.D) ∧ w'.cell? ⟨qb, 4, none⟩ = some (.int .i64 q.O) ∧ w'.cell? ⟨qb, 5, none⟩ = some (.bool q.fo) ∧ w'.cell? ⟨qb, 6, none⟩ = some (.bool q.la)) w1.drew := ⟨(hO.cget 0 rfl 0).1, (hO.cget 0 rfl 1).1, (hO.cget 1 rfl 0).1, (hO.cget 1 rfl 1).1, (hO.cget 1 rfl 2).1, (hO.cget 1 rfl 3).1, (hO.cget 1 rfl 4).1, (hO.cget 1 rfl 5).1, (hO.cget 1 rfl 6).1⟩
    refine lin_start (S := (fun w' : World => w'.cell? ⟨pb, 0, none⟩ = some (.int .i64 mem) ∧ w'.cell? ⟨pb, 1, none⟩ = some (.slice ao fs.length cap) ∧ w'.cell? ⟨qb, 0, none⟩ = some (.int .i64 q.W) ∧ w'.cell? ⟨qb, 1, none⟩ = some (.int .i64 q.T) ∧ w'.cell? ⟨qb, 2, none⟩ = some (.int .i64 q.F) ∧ w'.cell? ⟨qb, 3, none⟩ = some (.int .i64 q.D) ∧ w'.cell? ⟨qb, 4, none⟩ = some (.int .i64 q.O) ∧ w'.cell? ⟨qb, 5, none⟩ = some (.bool q.fo) ∧ w'.cell? ⟨qb, 6, none⟩ = some (.bool q.la))) rfl 12 rfl hS0 ?_
    simp only [numbered, Nat.zero_add, Nat.reduceAdd]
    generalize w1.drew = u0 at *
    have hHeld := hS0
    refine lin_take (v := ?_) (by kernel_rfl) (by kernel_rfl) (fun _ _ _ h => h) (Or.inl ⟨by rfl, ?_⟩) (by assumption) ?_; (rotate_left; (intro wS hSw; (try dsimp only at hSw); go_simp; (try with_reducible rfl)); rotate_left); simp only [Act.put, List.setIfInBounds_toArray, List.set_cons_zero, List.set_cons_succ]
    refine lin_rot ?_; simp only [List.cons_append, List.nil_append]
    refine lin_rot ?_; simp only [List.cons_append, List.nil_append]
    refine lin_take (v := ?_) (by kernel_rfl) (by kernel_rfl) (fun _ _ _ h => h) (Or.inl ⟨by rfl, ?_⟩) (by assumption) ?_; (rotate_left; (intro wS hSw; (try dsimp only at hSw); go_simp; (try with_reducible rfl)); rotate_left); simp only [Act.put, List.setIfInBounds_toArray, List.set_cons_zero, List.set_cons_succ]
    refine lin_rot ?_; simp only [List.cons_append, List.nil_append]
    refine lin_take (v := ?_) (by kernel_rfl) (by kernel_rfl) (fun _ _ _ h => h) (Or.inl ⟨by rfl, ?_⟩) (by assumption) ?_; (rotate_left; (intro wS hSw; (try dsimp only at hSw); go_simp; (try with_reducible rfl)); rotate_left); simp only [Act.put, List.setIfInBounds_toArray, List.set_cons_zero, List.set_cons_succ]
    refine lin_rot ?_; simp only [List.cons_append, List.nil_append]
    refine lin_rot ?_; simp only [List.cons_append, List.nil_append]
    refine lin_rot ?_; simp only [List.cons_append, List.nil_append]
    refine lin_rot ?_; simp only [List.cons_append, List.nil_append]
    refine lin_rot ?_; simp only [List.cons_append, List.nil_append]
    refine lin_rot ?_; simp only [List.cons_append, List.nil_append]
    refine lin_pair (by kernel_rfl) ?pone ?ptwo
    case' pone =>
      intro K hK
      go_simp
      go_at_call 25; refine (OW.out _ hO.below).mono ?_
      rintro e w2 ⟨na, nc, ps, rfl, hps, hOw⟩
      have hO1 := Own.join hO hOw
      refine hK.out _ _ ?_ (fun hHeld => ?_)
      · exact ⟨((hO1.sel [2, 3] (by decide)).cget 0 rfl 0).1, ((hO1.sel [2, 3] (by decide)).cget 0 rfl 1).1, ((hO1.sel [2, 3] (by decide)).cget 1 rfl 0).1, ((hO1.sel [2, 3] (by decide)).cget 1 rfl 1).1, ((hO1.sel [2, 3] (by decide)).cget 1 rfl 2).1, ((hO1.sel [2, 3] (by decide)).cget 1 rfl 3).1, ((hO1.sel [2, 3] (by decide)).cget 1 rfl 4).1, ((hO1.sel [2, 3] (by decide)).cget 1 rfl 5).1, ((hO1.sel [2, 3] (by decide)).cget 1 rfl 6).1⟩
      try simp only [Act.put, List.setIfInBounds_toArray, List.set_cons_zero, List.set_cons_succ]
      clear hK
      refine lin_sole (by kernel_rfl) (fun K hK => ?_)
      go_simp
      obtain ⟨bb, hbb⟩ : ∃ bb, w2.heap.size = bb := ⟨_, rfl⟩
      have hO2 := (hO1.sel [2, 3, 0, 1] (by decide)).base 3 1
      rw [hbb] at hO2 ⊢
      refine hK.out _ _ ?_ (fun hHeld => ?_)
      · exact ⟨(hO2.cget 0 rfl 0).1, (hO2.cget 0 rfl 1).1, (hO2.cget 1 rfl 0).1, (hO2.cget 1 rfl 1).1, (hO2.cget 1 rfl 2).1, (hO2.cget 1 rfl 3).1, (hO2.cget 1 rfl 4).1, (hO2.cget 1 rfl 5).1, (hO2.cget 1 rfl 6).1⟩
      try simp only [Act.put, List.setIfInBounds_toArray, List.set_cons_zero, List.set_cons_succ]
      clear hK
      refine lin_law (by kernel_rfl) rfl ?_
      refine wpList_append_row _ rfl _ _ 36 rfl 3 i0 (.int .i64 0) 1 8 Try.underlying36 hi0 hz0 hz1 hz2 rfl (by decide) (.slice (some ⟨bb, 0, none⟩) 0 0) 0 [] rfl (hO2.row 4 rfl) io xs.length ic (xs.map (.int .i64)) rfl (SI.out _ hO2.below).1 (SI.out _ hO2.below).2.1 (SI.out _ hO2.below).2.2 (by simp [Value.oneCell']) (by unfold maxLen; omega) (by omega) ?_
      intro v2 w3 hr3 ht3 hf3; simp only [Nat.zero_add, List.nil_append] at hr3; obtain ⟨ia, icc, rfl, g1, g2, _⟩ := hr3.shape
      have hO3 := hO2.move 4 rfl (Moves.of_append hr3 ht3 hf3)
      clear hr3 ht3 hf3
      refine wpList_nil ⟨rfl, ⟨(hO3.cget 0 rfl 0).1, (hO3.cget 0 rfl 1).1, (hO3.cget 1 rfl 0).1, (hO3.cget 1 rfl 1).1, (hO3.cget 1 rfl 2).1, (hO3.cget 1 rfl 3).1, (hO3.cget 1 rfl 4).1, (hO3.cget 1 rfl 5).1, (hO3.cget 1 rfl 6).1⟩, fun hHeld => ?_⟩
      try simp only [Act.put, List.setIfInBounds_toArray, List.set_cons_zero, List.set_cons_succ]
      have hLF := liesF_of (hO3.row 2 rfl) (hO3.at 3 rfl) (by have := congrArg List.length hps.out; simp at this; exact this.symm)
      rw [hps.out] at hLF
      have NE := Lib.hid (knew q mem fs na nc xs ia icc _ hLF (Lies.of_row (hO3.row 4 rfl) rfl) hE)
      refine lin_sole (by kernel_rfl) (fun K hK => ?_)
      go_simp
      go_at_call 8; refine NE.out.mono ?_
      rintro e w4 ⟨cb, rfl, hN⟩
      have hO4 := CoreBox.of hN (hO3.sel [0, 1] (by decide))
      refine hK.out _ _ ?_ (fun hHeld => ?_)
      · exact hO4.keep
      try simp only [Act.put, List.setIfInBounds_toArray, List.set_cons_zero, List.set_cons_succ]
      clear hK
      refine lin_take (v := ?_) (by kernel_rfl) (by kernel_rfl) (fun _ _ _ h => h) (Or.inl ⟨by rfl, ?_⟩) (by assumption) ?_; (rotate_left; (intro wS hSw; (try dsimp only at hSw); go_simp; (try with_reducible rfl)); rotate_left); simp only [Act.put, List.setIfInBounds_toArray, List.set_cons_zero, List.set_cons_succ]
      refine lin_take (v := ?_) (by kernel_rfl) (by kernel_rfl) (fun _ _ _ h => h) (Or.inl ⟨by rfl, ?_⟩) (by assumption) ?_; (rotate_left; (intro wS hSw; (try dsimp only at hSw); go_simp; (try with_reducible rfl)); rotate_left); simp only [Act.put, List.setIfInBounds_toArray, List.set_cons_zero, List.set_cons_succ]
      refine lin_take (v := ?_) (by kernel_rfl) (by kernel_rfl) (fun _ _ _ h => h) (Or.inl ⟨by rfl, ?_⟩) (by assumption) ?_; (rotate_left; (intro wS hSw; (try dsimp only at hSw); go_simp; (try with_reducible rfl)); rotate_left); simp only [Act.put, List.setIfInBounds_toArray, List.set_cons_zero, List.set_cons_succ]
      refine lin_take (v := ?_) (by kernel_rfl) (by kernel_rfl) (fun _ _ _ h => h) (Or.inl ⟨by rfl, ?_⟩) (by assumption) ?_; (rotate_left; (intro wS hSw; (try dsimp only at hSw); go_simp; (try with_reducible rfl)); rotate_left); simp only [Act.put, List.setIfInBounds_toArray, List.set_cons_zero, List.set_cons_succ]
      refine lin_take (v := ?_) (by kernel_rfl) (by kernel_rfl) (fun _ _ _ h => h) (Or.inl ⟨by rfl, ?_⟩) (by assumption) ?_; (rotate_left; (intro wS hSw; (try dsimp only at hSw); go_simp; (try with_reducible rfl)); rotate_left); simp only [Act.put, List.setIfInBounds_toArray, List.set_cons_zero, List.set_cons_succ]
      refine lin_done (by kernel_rfl) ?_
      go_wp2_with fail
      go_meet
      exact ⟨cb, rfl, rfl, hO4⟩
    case' ptwo =>
      intro K hK
      go_simp
      obtain ⟨bb, hbb⟩ : ∃ bb, u0.heap.size = bb := ⟨_, rfl⟩
      have hO1 := hO.base 3 1
      rw [hbb] at hO1 ⊢
      refine hK.out _ _ ?_ (fun hHeld => ?_)
      · exact ⟨(hO1.cget 0 rfl 0).1, (hO1.cget 0 rfl 1).1, (hO1.cget 1 rfl 0).1, (hO1.cget 1 rfl 1).1, (hO1.cget 1 rfl 2).1, (hO1.cget 1 rfl 3).1, (hO1.cget 1 rfl 4).1, (hO1.cget 1 rfl 5).1, (hO1.cget 1 rfl 6).1⟩
      try simp only [Act.put, List.setIfInBounds_toArray, List.set_cons_zero, List.set_cons_succ]
      clear hK
      refine lin_sole (by kernel_rfl) (fun K hK => ?_)
      go_simp
      go_at_call 25; refine (OW.out _ hO1.below).mono ?_
      rintro e w2 ⟨na, nc, ps, rfl, hps, hOw⟩
      have hO2 := (Own.join hO1 hOw).sel [2, 3, 0, 1, 4] (by decide)
      refine hK.out _ _ ?_ (fun hHeld => ?_)
      · exact ⟨(hO2.cget 0 rfl 0).1, (hO2.cget 0 rfl 1).1, (hO2.cget 1 rfl 0).1, (hO2.cget 1 rfl 1).1, (hO2.cget 1 rfl 2).1, (hO2.cget 1 rfl 3).1, (hO2.cget 1 rfl 4).1, (hO2.cget 1 rfl 5).1, (hO2.cget 1 rfl 6).1⟩
      try simp only [Act.put, List.setIfInBounds_toArray, List.set_cons_zero, List.set_cons_succ]
      clear hK
      refine lin_law (by kernel_rfl) rfl ?_
      refine wpList_append_row _ rfl _ _ 36 rfl 3 i0 (.int .i64 0) 1 8 Try.underlying36 hi0 hz0 hz1 hz2 rfl (by decide) (.slice (some ⟨bb, 0, none⟩) 0 0) 0 [] rfl (hO2.row 4 rfl) io xs.length ic (xs.map (.int .i64)) rfl (SI.out _ hO2.below).1 (SI.out _ hO2.below).2.1 (SI.out _ hO2.below).2.2 (by simp [Value.oneCell']) (by unfold maxLen; omega) (by omega) ?_
      intro v2 w3 hr3 ht3 hf3; simp only [Nat.zero_add, List.nil_append] at hr3; obtain ⟨ia, icc, rfl, g1, g2, _⟩ := hr3.shape
      have hO3 := hO2.move 4 rfl (Moves.of_append hr3 ht3 hf3)
      clear hr3 ht3 hf3
      refine wpList_nil ⟨rfl, ⟨(hO3.cget 0 rfl 0).1, (hO3.cget 0 rfl 1).1, (hO3.cget 1 rfl 0).1, (hO3.cget 1 rfl 1).1, (hO3.cget 1 rfl 2).1, (hO3.cget 1 rfl 3).1, (hO3.cget 1 rfl 4).1, (hO3.cget 1 rfl 5).1, (hO3.cget 1 rfl 6).1⟩, fun hHeld => ?_⟩
      try simp only [Act.put, List.setIfInBounds_toArray, List.set_cons_zero, List.set_cons_succ]
      have hLF := liesF_of (hO3.row 2 rfl) (hO3.at 3 rfl) (by have := congrArg List.length hps.out; simp at this; exact this.symm)
      rw [hps.out] at hLF
      have NE := Lib.hid (knew q mem fs na nc xs ia icc _ hLF (Lies.of_row (hO3.row 4 rfl) rfl) hE)
      refine lin_sole (by kernel_rfl) (fun K hK => ?_)
      go_simp
      go_at_call 8; refine NE.out.mono ?_
      rintro e w4 ⟨cb, rfl, hN⟩
      have hO4 := CoreBox.of hN (hO3.sel [0, 1] (by decide))
      refine hK.out _ _ ?_ (fun hHeld => ?_)
      · exact hO4.keep
      try simp only [Act.put, List.setIfInBounds_toArray, List.set_cons_zero, List.set_cons_succ]
      clear hK
      refine lin_take (v := ?_) (by kernel_rfl) (by kernel_rfl) (fun _ _ _ h => h) (Or.inl ⟨by rfl, ?_⟩) (by assumption) ?_; (rotate_left; (intro wS hSw; (try dsimp only at hSw); go_simp; (try with_reducible rfl)); rotate_left); simp only [Act.put, List.setIfInBounds_toArray, List.set_cons_zero, List.set_cons_succ]
      refine lin_take (v := ?_) (by kernel_rfl) (by kernel_rfl) (fun _ _ _ h => h) (Or.inl ⟨by rfl, ?_⟩) (by assumption) ?_; (rotate_left; (intro wS hSw; (try dsimp only at hSw); go_simp; (try with_reducible rfl)); rotate_left); simp only [Act.put, List.setIfInBounds_toArray, List.set_cons_zero, List.set_cons_succ]
      refine lin_take (v := ?_) (by kernel_rfl) (by kernel_rfl) (fun _ _ _ h => h) (Or.inl ⟨by rfl, ?_⟩) (by assumption) ?_; (rotate_left; (intro wS hSw; (try dsimp only at hSw); go_simp; (try with_reducible rfl)); rotate_left); simp only [Act.put, List.setIfInBounds_toArray, List.set_cons_zero, List.set_cons_succ]
      refine lin_take (v := ?_) (by kernel_rfl) (by kernel_rfl) (fun _ _ _ h => h) (Or.inl ⟨by rfl, ?_⟩) (by assumption) ?_; (rotate_left; (intro wS hSw; (try dsimp only at hSw); go_simp; (try with_reducible rfl)); rotate_left); simp only [Act.put, List.setIfInBounds_toArray, List.set_cons_zero, List.set_cons_succ]
      refine lin_take (v := ?_) (by kernel_rfl) (by kernel_rfl) (fun _ _ _ h => h) (Or.inl ⟨by rfl, ?_⟩) (by assumption) ?_; (rotate_left; (intro wS hSw; (try dsimp only at hSw); go_simp; (try with_reducible rfl)); rotate_left); simp only [Act.put, List.setIfInBounds_toArray, List.set_cons_zero, List.set_cons_succ]
      refine lin_done (by kernel_rfl) ?_
      go_wp2_with fail
      go_meet
      exact ⟨cb, rfl, rfl, hO4⟩
  case rest =>
  obtain ⟨cb, rfl, rfl, hCB⟩ := hcut
  have RK := Lib.hid (rkcheck q mem fs ao cap xs.length io ic wc (HL.out _ hCB.boxes.below) hic (by unfold maxLen; omega))
  rw [hE] at RK
  obtain ⟨k0, k1, q0, q1, q2, q3, q4, q5, q6⟩ := hCB.keep
  go_upto_region 7 with (go_at_call 26; refine RK.out.mono ?_; rintro e wcc ⟨rfl, hbc⟩)
  clear RK k0 k1 q0 q1 q2 q3 q4 q5 q6
  replace hCB := hCB.grow hbc
  clear hbc
  go_cut [54] from 41 to 54 (fun t wx => t = .bool false ∧ CoreBox w wx q mem fs xs cb pb qb ao cap)
  case first =>
    have hCU := hCB.grow ((Below.refl _ wcc).drew)
    have hS0 : (fun w' : World => w'.cell? ⟨pb, 0, none⟩ = some (.int .i64 mem) ∧ w'.cell? ⟨pb, 1, none⟩ = some (.slice ao fs.length cap) ∧ w'.cell? ⟨qb, 0, none⟩ = some (.int .i64 q.W) ∧ w'.cell? ⟨qb, 1, none⟩ = some (.int .i64 q.T) ∧ w'.cell? ⟨qb, 2, none⟩ = some (.int .i64 q.F) ∧ w'.cell? ⟨qb, 3, none⟩ = some (.int .i64 q.D) ∧ w'.cell? ⟨qb, 4, none⟩ = some (.int .i64 q.O) ∧ w'.cell? ⟨qb, 5, none⟩ = some (.bool q.fo) ∧ w'.cell? ⟨qb, 6, none⟩ = some (.bool q.la)) wcc.drew := hCU.keep
    have hO := Own.nil (Below.refl _ wcc.drew)
    clear hCB
    refine lin_start (S := (fun w' : World => w'.cell? ⟨pb, 0, none⟩ = some (.int .i64 mem) ∧ w'.cell? ⟨pb, 1, none⟩ = some (.slice ao fs.length cap) ∧ w'.cell? ⟨qb, 0, none⟩ = some (.int .i64 q.W) ∧ w'.cell? ⟨qb, 1, none⟩ = some (.int .i64 q.T) ∧ w'.cell? ⟨qb, 2, none⟩ = some (.int .i64 q.F) ∧ w'.cell? ⟨qb, 3, none⟩ = some (.int .i64 q.D) ∧ w'.cell? ⟨qb, 4, none⟩ = some (.int .i64 q.O) ∧ w'.cell? ⟨qb, 5, none⟩ = some (.bool q.fo) ∧ w'.cell? ⟨qb, 6, none⟩ = some (.bool q.la))) rfl 14 rfl hS0 ?_
    simp only [numbered, Nat.zero_add, Nat.reduceAdd]
    generalize wcc.drew = u0 at *
    have hHeld := hS0
    refine lin_take (v := ?_) (by kernel_rfl) (by kernel_rfl) (fun _ _ _ h => h) (Or.inl ⟨by rfl, ?_⟩) (by assumption) ?_; (rotate_left; (intro wS hSw; (try dsimp only at hSw); go_simp; (try with_reducible rfl)); rotate_left); simp only [Act.put, List.setIfInBounds_toArray, List.set_cons_zero, List.set_cons_succ]
    refine lin_take (v := ?_) (by kernel_rfl) (by kernel_rfl) (fun _ _ _ h => h) (Or.inl ⟨by rfl, ?_⟩) (by assumption) ?_; (rotate_left; (intro wS hSw; (try dsimp only at hSw); go_simp; (try with_reducible rfl)); rotate_left); simp only [Act.put, List.setIfInBounds_toArray, List.set_cons_zero, List.set_cons_succ]
    refine lin_take (v := ?_) (by kernel_rfl) (by kernel_rfl) (fun _ _ _ h => h) (Or.inl ⟨by rfl, ?_⟩) (by assumption) ?_; (rotate_left; (intro wS hSw; (try dsimp only at hSw); go_simp; (try with_reducible rfl)); rotate_left); simp only [Act.put, List.setIfInBounds_toArray, List.set_cons_zero, List.set_cons_succ]
    refine lin_take (v := ?_) (by kernel_rfl) (by kernel_rfl) (fun _ _ _ h => h) (Or.inl ⟨by rfl, ?_⟩) (by assumption) ?_; (rotate_left; (intro wS hSw; (try dsimp only at hSw); go_simp; (try with_reducible rfl)); rotate_left); simp only [Act.put, List.setIfInBounds_toArray, List.set_cons_zero, List.set_cons_succ]
    refine lin_take (v := ?_) (by kernel_rfl) (by kernel_rfl) (fun _ _ _ h => h) (Or.inl ⟨by rfl, ?_⟩) (by assumption) ?_; (rotate_left; (intro wS hSw; (try dsimp only at hSw); go_simp; (try with_reducible rfl)); rotate_left); simp only [Act.put, List.setIfInBounds_toArray, List.set_cons_zero, List.set_cons_succ]
    refine lin_rot ?_; simp only [List.cons_append, List.nil_append]
    refine lin_rot ?_; simp only [List.cons_append, List.nil_append]
    refine lin_take (v := ?_) (by kernel_rfl) (by kernel_rfl) (fun _ _ _ h => h) (Or.inl ⟨by rfl, ?_⟩) (by assumption) ?_; (rotate_left; (intro wS hSw; (try dsimp only at hSw); go_simp; (try with_reducible rfl)); rotate_left); simp only [Act.put, List.setIfInBounds_toArray, List.set_cons_zero, List.set_cons_succ]
    refine lin_rot ?_; simp only [List.cons_append, List.nil_append]
    refine lin_take (v := ?_) (by kernel_rfl) (by kernel_rfl) (fun _ _ _ h => h) (Or.inl ⟨by rfl, ?_⟩) (by assumption) ?_; (rotate_left; (intro wS hSw; (try dsimp only at hSw); go_simp; (try with_reducible rfl)); rotate_left); simp only [Act.put, List.setIfInBounds_toArray, List.set_cons_zero, List.set_cons_succ]
    refine lin_rot ?_; simp only [List.cons_append, List.nil_append]
    refine lin_take (v := ?_) (by kernel_rfl) (by kernel_rfl) (fun _ _ _ h => h) (Or.inl ⟨by rfl, ?_⟩) (by assumption) ?_; (rotate_left; (intro wS hSw; (try dsimp only at hSw); go_simp; (try with_reducible rfl)); rotate_left); simp only [Act.put, List.setIfInBounds_toArray, List.set_cons_zero, List.set_cons_succ]
    refine lin_rot ?_; simp only [List.cons_append, List.nil_append]
    refine lin_rot ?_; simp only [List.cons_append, List.nil_append]
    refine lin_pair (by kernel_rfl) ?pthree ?pfour
    case' pthree =>
      intro K hK
      go_simp
      go_at_call 25; refine (OW.out _ (hCU.grow hO.below).boxes.below).mono ?_
      rintro e w2 ⟨na, nc, ps, rfl, hps, hOw⟩
      have hO1 := Own.join hO hOw
      refine hK.out _ _ ?_ (fun hHeld => ?_)
      · exact (hCU.grow hO1.below).keep
      try simp only [Act.put, List.setIfInBounds_toArray, List.set_cons_zero, List.set_cons_succ]
      clear hK
      refine lin_sole (by kernel_rfl) (fun K hK => ?_)
      go_simp
      obtain ⟨bb, hbb⟩ : ∃ bb, w2.heap.size = bb := ⟨_, rfl⟩
      have hO2 := hO1.base 3 1
      simp only [List.cons_append, List.nil_append] at hO2
      rw [hbb] at hO2 ⊢
      refine hK.out _ _ ?_ (fun hHeld => ?_)
      · exact (hCU.grow hO2.below).keep
      try simp only [Act.put, List.setIfInBounds_toArray, List.set_cons_zero, List.set_cons_succ]
      clear hK
      refine lin_law_g (by kernel_rfl) (by rfl) ?_
      refine wpList_append_row _ rfl _ _ 36 rfl 3 i0 (.int .i64 0) 1 8 Try.underlying36 hi0 hz0 hz1 hz2 rfl (by decide) (.slice (some ⟨bb, 0, none⟩) 0 0) 0 [] rfl (hO2.row 2 rfl) io xs.length ic (xs.map (.int .i64)) rfl (SI.out _ (hCU.grow hO2.below).boxes.below).1 (SI.out _ (hCU.grow hO2.below).boxes.below).2.1 (SI.out _ (hCU.grow hO2.below).boxes.below).2.2 (by simp [Value.oneCell']) (by unfold maxLen; omega) (by omega) ?_
      intro v2 w3 hr3 ht3 hf3; simp only [Nat.zero_add, List.nil_append] at hr3; obtain ⟨ia, icc, rfl, g1, g2, _⟩ := hr3.shape
      have hO3 := hO2.move 2 rfl (Moves.of_append hr3 ht3 hf3)
      clear hr3 ht3 hf3
      refine wpList_nil ⟨rfl, (hCU.grow hO3.below).keep, fun hHeld => ?_⟩
      try simp only [Act.put, List.setIfInBounds_toArray, List.set_cons_zero, List.set_cons_succ]
      have hLF := liesF_of (hO3.row 0 rfl) (hO3.at 1 rfl) (by have := congrArg List.length hps.out; simp at this; exact this.symm)
      rw [hps.out] at hLF
      have KC := Lib.hid (kcheck q mem fs na nc xs.length ia icc _ hLF g1 g2)
      rw [hE] at KC
      refine lin_sole (by kernel_rfl) (fun K hK => ?_)
      go_simp
      go_at_call 27; refine KC.out.mono ?_
      rintro e w4 ⟨rfl, hb4⟩
      have hO4 := hO3.grow hb4
      refine hK.out _ _ ?_ (fun hHeld => ?_)
      · exact (hCU.grow hO4.below).keep
      try simp only [Act.put, List.setIfInBounds_toArray, List.set_cons_zero, List.set_cons_succ]
      clear hK
      refine lin_take (v := ?_) (by kernel_rfl) (by kernel_rfl) (fun _ _ _ h => h) (Or.inl ⟨by rfl, ?_⟩) (by assumption) ?_; (rotate_left; (intro wS hSw; (try dsimp only at hSw); go_simp; (try with_reducible rfl)); rotate_left); simp only [Act.put, List.setIfInBounds_toArray, List.set_cons_zero, List.set_cons_succ]
      refine lin_take (v := ?_) (by kernel_rfl) (by kernel_rfl) (fun _ _ _ h => h) (Or.inl ⟨by rfl, ?_⟩) (by assumption) ?_; (rotate_left; (intro wS hSw; (try dsimp only at hSw); go_simp; (try with_reducible rfl)); rotate_left); simp only [Act.put, List.setIfInBounds_toArray, List.set_cons_zero, List.set_cons_succ]
      refine lin_done (by kernel_rfl) ?_
      go_wp2_with fail
      go_meet
      exact ⟨rfl, hCU.grow hO4.below⟩
    case' pfour =>
      intro K hK
      go_simp
      obtain ⟨bb, hbb⟩ : ∃ bb, u0.heap.size = bb := ⟨_, rfl⟩
      have hO1 := hO.base 3 1
      simp only [List.cons_append, List.nil_append] at hO1
      rw [hbb] at hO1 ⊢
      refine hK.out _ _ ?_ (fun hHeld => ?_)
      · exact (hCU.grow hO1.below).keep
      try simp only [Act.put, List.setIfInBounds_toArray, List.set_cons_zero, List.set_cons_succ]
      clear hK
      refine lin_sole (by kernel_rfl) (fun K hK => ?_)
      go_simp
      go_at_call 25; refine (OW.out _ (hCU.grow hO1.below).boxes.below).mono ?_
      rintro e w2 ⟨na, nc, ps, rfl, hps, hOw⟩
      have hO2 := Own.join hO1 hOw
      simp only [List.cons_append, List.nil_append] at hO2
      refine hK.out _ _ ?_ (fun hHeld => ?_)
      · exact (hCU.grow hO2.below).keep
      try simp only [Act.put, List.setIfInBounds_toArray, List.set_cons_zero, List.set_cons_succ]
      clear hK
      refine lin_law_g (by kernel_rfl) (by rfl) ?_
      refine wpList_append_row _ rfl _ _ 36 rfl 3 i0 (.int .i64 0) 1 8 Try.underlying36 hi0 hz0 hz1 hz2 rfl (by decide) (.slice (some ⟨bb, 0, none⟩) 0 0) 0 [] rfl (hO2.row 2 rfl) io xs.length ic (xs.map (.int .i64)) rfl (SI.out _ (hCU.grow hO2.below).boxes.below).1 (SI.out _ (hCU.grow hO2.below).boxes.below).2.1 (SI.out _ (hCU.grow hO2.below).boxes.below).2.2 (by simp [Value.oneCell']) (by unfold maxLen; omega) (by omega) ?_
      intro v2 w3 hr3 ht3 hf3; simp only [Nat.zero_add, List.nil_append] at hr3; obtain ⟨ia, icc, rfl, g1, g2, _⟩ := hr3.shape
      have hO3 := hO2.move 2 rfl (Moves.of_append hr3 ht3 hf3)
      clear hr3 ht3 hf3
      refine wpList_nil ⟨rfl, (hCU.grow hO3.below).keep, fun hHeld => ?_⟩
      try simp only [Act.put, List.setIfInBounds_toArray, List.set_cons_zero, List.set_cons_succ]
      have hLF := liesF_of (hO3.row 0 rfl) (hO3.at 1 rfl) (by have := congrArg List.length hps.out; simp at this; exact this.symm)
      rw [hps.out] at hLF
      have KC := Lib.hid (kcheck q mem fs na nc xs.length ia icc _ hLF g1 g2)
      rw [hE] at KC
      refine lin_sole (by kernel_rfl) (fun K hK => ?_)
      go_simp
      go_at_call 27; refine KC.out.mono ?_
      rintro e w4 ⟨rfl, hb4⟩
      have hO4 := hO3.grow hb4
      refine hK.out _ _ ?_ (fun hHeld => ?_)
      · exact (hCU.grow hO4.below).keep
      try simp only [Act.put, List.setIfInBounds_toArray, List.set_cons_zero, List.set_cons_succ]
      clear hK
      refine lin_take (v := ?_) (by kernel_rfl) (by kernel_rfl) (fun _ _ _ h => h) (Or.inl ⟨by rfl, ?_⟩) (by assumption) ?_; (rotate_left; (intro wS hSw; (try dsimp only at hSw); go_simp; (try with_reducible rfl)); rotate_left); simp only [Act.put, List.setIfInBounds_toArray, List.set_cons_zero, List.set_cons_succ]
      refine lin_take (v := ?_) (by kernel_rfl) (by kernel_rfl) (fun _ _ _ h => h) (Or.inl ⟨by rfl, ?_⟩) (by assumption) ?_; (rotate_left; (intro wS hSw; (try dsimp only at hSw); go_simp; (try with_reducible rfl)); rotate_left); simp only [Act.put, List.setIfInBounds_toArray, List.set_cons_zero, List.set_cons_succ]
      refine lin_done (by kernel_rfl) ?_
      go_wp2_with fail
      go_meet
      exact ⟨rfl, hCU.grow hO4.below⟩
  case rest =>
  obtain ⟨rfl, hCB⟩ := hcut
  clear OW HL
  obtain ⟨gs, sb, gd, sd, ob, lb, tb, ag, hb, rb, M, oa, oc, ps, bs', fr', pk', bv, hM, hps, hO⟩ := hCB
  have hok := q_ok hE
  replace hps := Lib.hid hps
  have CP := Lib.hid (cplan2 (w := wc) (cb := cb) q ⟨(hO.cget 6 rfl 1).1, (hO.cget 6 rfl 2).1, (hO.cget 6 rfl 3).1, (hO.cget 6 rfl 4).1, (hO.cget 6 rfl 5).1, (hO.cget 6 rfl 6).1, (hO.cget 6 rfl 7).1⟩)
  go_upto_region 12 with (go_at_call 28; refine CP.out.mono ?_; rintro e w1 ⟨rfl, hb1⟩)
  replace hO := (hO.grow hb1).box #[.int .i64 q.W, .int .i64 q.F, .int .i64 q.T, .int .i64 q.D] 72
  obtain ⟨zb, hzb⟩ : ∃ zb, w1.heap.size = zb := ⟨_, rfl⟩
  rw [hzb] at hO
  try simp only [hzb]
  generalize w1.alloc (.cells #[.int .i64 q.W, .int .i64 q.F, .int .i64 q.T, .int .i64 q.D] 72) = w2 at *
  clear CP hb1 hzb
  have CW := Lib.hid (cwords (w := w2) (cb := cb) ((hO.cget 6 rfl 8).1))
  have AL := Lib.hid (own_all hO 4 rfl)
  have FR := Lib.hid (fun w' => frame_ok (show okPlan q.W q.F q.T q.D = true from hok.1) 1 w')
  have hO0 := Lib.hid hO
  clear hO
  go_upto_region 13 with (first | (go_at_call 18; refine CW.out.mono ?_; rintro e wq ⟨rfl, rfl⟩) | (go_at_call 13; refine AL.out.mono ?_; rintro e w3 ⟨wa, wcap, rfl, hO3, hWL, -, -, hb3⟩))
  clear CW AL hO0
  obtain ⟨p0, p1, p2, p3⟩ : w3.cell? ⟨zb, 0, none⟩ = some (.int .i64 q.W) ∧ w3.cell? ⟨zb, 1, none⟩ = some (.int .i64 q.F) ∧ w3.cell? ⟨zb, 2, none⟩ = some (.int .i64 q.T) ∧ w3.cell? ⟨zb, 3, none⟩ = some (.int .i64 q.D) := ⟨(hO3.cget 14 rfl 0).1, (hO3.cget 14 rfl 1).1, (hO3.cget 14 rfl 2).1, (hO3.cget 14 rfl 3).1⟩
  have hO4 := Lib.hid (fun (w' : World) (hb : Below w3.heap.size w3 w') => hO3.grow hb)
  have hWL4 := Lib.hid (fun (w' : World) (hb : Below w3.heap.size w3 w') => hWL.below hb)
  clear hO3 hWL hb3
  go_upto_region 14 with (go_at_call 29; refine (FR.out _).mono ?_; rintro e w4 ⟨rfl, hb4⟩)
  have hO := hO4.out _ hb4
  have hWL := hWL4.out _ hb4
  clear hO4 hWL4 FR hb4 p0 p1 p2 p3
  have WA := Lib.hid (fun i => wordsL_at q hok.1 i)
  obtain ⟨A, hA⟩ : ∃ A, frameV q.W q.F q.T q.D 1 = A := ⟨_, rfl⟩
  obtain ⟨N, hN⟩ : ∃ N, (wordsL q).length = N := ⟨_, rfl⟩
  have hNb : N ≤ 2 ^ 63 - 1 := by
    have := hWL.1; have := hWL.2.1; unfold maxLen at this; omega
  have WD := Lib.hid (fun m => hWL.below (((Own.nil (Below.refl _ w4)).drewN m).below))
  rw [hA, hN] at WA
  simp only [hA, hN]
  replace hO := Lib.hid hO
  clear hWL
  replace hA := Lib.hid hA
  replace hN := Lib.hid hN
  go_upto_region 15 with fail
  go_loopw [13] (fun iv wr => ∃ r m : Nat, r ≤ N ∧ iv = .int .i64 r ∧ wr = w4.drewN m) (fun iv _ => (N - intOf iv).toNat)
  case atStart => exact ⟨0, 0, by omega, rfl, rfl⟩
  case round =>
  obtain ⟨r, m, hr, rfl, rfl⟩ := hrel
  by_cases hlt : r < N
  · obtain ⟨ad, rfl, hc⟩ := (WD.out m).get (r := r) (by rw [hN.out]; exact hlt)
    have hv := WA.out r hlt
    have hlti : (r : Int) < (N : Int) := by omega
    have hw1 : IntKind.i64.wrap ((r : Int) + 1) = (r : Int) + 1 := IntWalk.i64_in _ (by omega)
    by_cases hrA : (r : Int) = A
    · rw [if_pos hrA] at hv
      rw [hv] at hc
      clear hv
      subst hrA
      go_wp2_with fail
      go_roundw
      case rel => exact ⟨r + 1, m, by omega, by go_num, rfl⟩
      case measure => simp [intOf]; omega
    · rw [if_neg hrA] at hv
      rw [hv] at hc
      clear hv
      have hrA2 : ((r : Int) == A) = false := by simpa using hrA
      go_wp2_with fail
      go_roundw
      case rel => exact ⟨r + 1, m, by omega, by go_num, rfl⟩
      case measure => simp [intOf]; omega
  · have hlti : ¬ (r : Int) < (N : Int) := by omega
    go_upto_region 19 with fail
    clear WD WA hlti hlt
    have hO5 := (hO.out).drewN m
    clear hO
    generalize w4.drewN m = w5 at *
    obtain ⟨hcp, -, hO1, hO2', -⟩ := core_ok hE
    obtain ⟨hm0, hm1, -, -⟩ := check_bd hcp
    obtain ⟨K, hK⟩ : ∃ K : Nat, (K : Int) = mem := ⟨mem.toNat, by omega⟩
    subst hK
    have hnK : xs.length ≤ K := by omega
    have k0 := (hO5.cget 12 rfl 0).1
    have hI5 := Lib.hid (HI.out _ hO5.below)
    replace hO5 := Lib.hid hO5
    go_upto_region 20 with (at_make; refine wpList_make_any _ rfl _ _ 36 rfl 3 i0 (.int .i64 0) 1 8 Try.underlying36 hi0 hz0 hz1 hz2 .i64 .i64 (K : Int) (K : Int) rfl rfl (by omega) (by omega) (by omega) (by decide) ?_)
    simp only [Value.cells, madeK_one, Nat.mul_one, Int.toNat_natCast]
    have hrow : (w5.alloc (.cells (List.replicate K (Value.int .i64 0)).toArray 3)).heap[w5.heap.size]? = some (.cells (List.replicate K (Value.int .i64 0)).toArray 3 (0, 0)) := by
      show (w5.heap.push _)[w5.heap.size]? = _
      simp
    have hb6 : Below w5.heap.size w5 (w5.alloc (.cells (List.replicate K (Value.int .i64 0)).toArray 3)) := (Below.refl _ w5).alloc (Nat.le_refl _) _
    have hI6 := hI5.out.below hb6
    obtain ⟨mb, hmb⟩ : ∃ mb, w5.heap.size = mb := ⟨_, rfl⟩
    rw [hmb] at hrow hb6
    simp only [hmb]
    generalize w5.alloc (.cells (List.replicate K (Value.int .i64 0)).toArray 3) = w6 at *
    have hpos : 0 < (xs.map (Value.int .i64)).length → (some (⟨mb, 0, none⟩ : Addr)) = some ⟨mb, 0, none⟩ ∧ ∃ ad, io = some ad ∧ ∀ j v, (xs.map (Value.int .i64))[j]? = some v → w6.cell? (ad.add j) = some v := by
      intro h0
      obtain ⟨ad, had, -⟩ := hI6.get (r := 0) (by simpa using h0)
      refine ⟨rfl, ad, had, fun j v hj => ?_⟩
      have hjl : j < xs.length := by have := (List.getElem?_eq_some_iff.1 hj).1; simpa using this
      obtain ⟨ad2, had2, hc⟩ := hI6.get (r := j) hjl
      rw [had] at had2
      cases had2
      rw [getD_map hjl] at hj
      cases hj
      exact hc
    replace hpos := Lib.hid hpos
    have hcl : (xs.map (Value.int .i64)).length = Nat.min xs.length K := by rw [List.length_map]; exact (Nat.min_eq_left hnK).symm
    have hcf : 0 + (xs.map (Value.int .i64)).length ≤ (List.replicate K (Value.int .i64 0)).length := by rw [List.length_map, List.length_replicate, Nat.zero_add]; exact hnK
    have hc1 : ∀ v ∈ xs.map (Value.int .i64), v.oneCell' = true := by simp [Value.oneCell']
    replace hcl := Lib.hid hcl
    replace hcf := Lib.hid hcf
    replace hc1 := Lib.hid hc1
    go_upto_region 21 with (with_reducible refine wpList_copy_splice rfl (.tmp 97) (.tmp 98) 36 36 rfl 3 Try.underlying36 (by kernel_rfl) _ _ _ _ _ _ rfl rfl mb 0 (List.replicate K (.int .i64 0)) 3 hrow (xs.map (.int .i64)) hcl.out hpos.out hcf.out hc1.out mb w5 hb6 (Nat.le_refl _) ?_; intro w7 hr7 hb7)
    have hb7 : Below w5.heap.size w5 w7 := by rw [hmb]; exact hb7
    have hO7 := (hO5.out).grow hb7
    obtain ⟨ds, hdse⟩ : ∃ ds, xs ++ List.replicate (K - xs.length) 0 = ds := ⟨_, rfl⟩
    have hdsl : ds.length = K := by rw [← hdse]; simp; omega
    have hrow7 := hr7.out
    have hspl : splice (List.replicate K (Value.int .i64 0)) 0 (xs.map (Value.int .i64)) = ds.map (Value.int .i64) := by rw [← hdse]; simp [splice]
    rw [hspl] at hrow7
    have hD7 : Lies w7 (some ⟨mb, 0, none⟩) K ds := Lies.of_row (n := K) ⟨by rw [List.length_map, hdsl, Nat.mul_one], .inr ⟨mb, 0, K, _, (0, 0), rfl, hrow7, Nat.le_refl _, by unfold maxLen; omega, by simp [hdsl], by simp, fun j hj => by simp⟩⟩ hdsl.symm
    simp only [Int.toNat_natCast, hdse] at hO7
    clear hr7 hrow7 hspl hb7 hpos hcl hcf hc1 hrow hb6 hI6 hI5 hO5 hmb k0
    replace hO7 := Lib.hid hO7
    replace hD7 := Lib.hid hD7
    replace hdsl := Lib.hid hdsl
    replace hdse := Lib.hid hdse
    have CS := Lib.hid (cstatus (w := w7) (cb := cb) (st := 0) (wy := 0) (fun n => ((hO7.out.drewN n).cget 6 rfl 21).1) (fun n => ((hO7.out.drewN n).cget 6 rfl 22).1))
    go_upto_region 22 with (go_at_call 15; refine CS.out.mono ?_; rintro e w8 ⟨rfl, m8, rfl⟩)
    replace hO7 := Lib.hid (hO7.out.drewN m8)
    replace hD7 := Lib.hid (hD7.out.drewN m8)
    clear CS
    generalize w7.drewN m8 = w8 at *
    have hM1 : 1 ≤ M := by have := (ok_bd (show okPlan q.W q.F q.T q.D = true from hok.1)).2.2.1; omega
    have hM2 : M ≤ 256 := by have := (ok_bd (show okPlan q.W q.F q.T q.D = true from hok.1)).2.2.2.1; omega
    have hheld : heldB ((List.replicate (M + 1) false).set 1 true) ((1 : Nat) : Int) = true := by
      unfold heldB
      have h1 : ((1 : Nat) : Int) < ((List.replicate (M + 1) false).set 1 true).length := by rw [List.length_set, List.length_replicate]; omega
      have h2 : ((List.replicate (M + 1) false).set 1 true).getD ((1 : Nat) : Int).toNat false = true := by rw [Int.toNat_natCast, List.getD_eq_getElem?_getD, List.getElem?_set_self (by rw [List.length_replicate]; omega)]; rfl
      rw [decide_eq_true h1, h2]; rfl
    have CF := Lib.hid (cframes (w := w8) (cb := cb) ((hO7.out.cget 6 rfl 10).1))
    have AT : Hid (Calls Try.prog 30 #[.pointer (some ⟨tb, 0, none⟩), .int .i64 1] w8 fun e w' => e = .returned (.pointer (some ⟨rb, 19, none⟩)) ∧ w8 = w') := Lib.hid (at_yes (show TOwn w w8 tb gs sb ag hb rb (M + 1) q.W q.F q.T q.D (wordsL q) (framesL M) ((List.replicate (M + 1) false).set 1 true) bs' fr' pk' _ from ⟨bv, hO7.out⟩) (by simp; omega) 1 (by omega) hheld)
    go_upto_region 23 with (first | (go_at_call 19; refine CF.out.mono ?_; rintro e wq ⟨rfl, rfl⟩) | (go_at_call 30; refine AT.out.mono ?_; rintro e wq ⟨rfl, rfl⟩))
    clear CF AT hheld
    have hbox := Lib.hid (fun (w' : World) (hb : Below w8.heap.size w8 w') => show S23 q qb zb rb w' from by
      have h := hO7.out.grow hb
      refine ⟨?_, (h.cget 13 rfl 0).1, (h.cget 13 rfl 1).1, (h.cget 13 rfl 2).1, (h.cget 13 rfl 3).1, (h.cget 14 rfl 0).1, (h.cget 14 rfl 1).1, (h.cget 14 rfl 2).1, (h.cget 14 rfl 3).1⟩
      intro j v hj
      have h5 := (h.row 5 rfl).cells ⟨rb, 0, none⟩ rfl (19 + j) v (framesL_get hM1 hj)
      rwa [Addr.add_lit, Nat.zero_add] at h5)
    refine reg23 _ _ _ _ _ _ _ _ _ _ _ _ _ _ _ _ _ _ _ _ _ _ _ _ _ _ _ _ _ _ _ _ _ _ _ _ _ _ _ _ _ _ _ _ _ _ _ _ _ _ _ _ _ _ _ _ _ _ _ _ _ _ _ _ _ _ _ _ _ _ _ _ _ _ _ _ _ _ _ _ _ _ _ _ _ _ _ _ _ _ _ _ _ _ _ _ _ _ _ _ _ _ _ _ _ _ _ _ _ _ _ _ _ _ _ _ _ _ _ _ _ _ _ _ _ _ _ _ _ _ _ _ _ _ _ _ _ _ _ _ _ _ _ _ _ _ _ _ _ _ _ _ _ _ _ _ _ _ _ _ _ _ _ _ _ _ _ _ _ _ _ _ _ _ _ _ _ _ _ _ _ _ _ _ _ _ _ _ _ _ _ _ _ _ _ _ _ q (by intro ch aa ab ww hd hh; obtain ⟨ta, da⟩ := aa; obtain ⟨tb2, db⟩ := ab; cases hd; exact hh) hbox ?_
    intro x108 x109 x110 x111 x112 x113 x114 x115 x116 x117 x118 x119 x120 x121 x122 x123 x124 x125 x126 x127 x128 x129 x130 x131 x132 x133 x134 x135 x136 x137 x138 x139 x140 x141 x142 x143 w9 hb9
    replace hO7 := Lib.hid (hO7.out.grow hb9)
    replace hD7 := Lib.hid (hD7.out.below hb9)
    clear hbox hb9
    go_upto_region 25 with fail
    have hpl := Lib.hid (show okPlan q.W q.F q.T q.D = true from hok.1)
    have hNN : (N : Int) = sizeV q.W q.F q.T q.D := by
      rw [← hN.out, wordsL_len, Int.toNat_of_nonneg (by have := sizeV_bd hpl.out; unfold sizeV; omega)]
    have hL0 := hdsl.out
    subst hL0
    refine reg25 _ _ _ _ _ _ _ _ _ _ _ _ _ _ _ _ _ _ _ _ _ _ _ _ _ _ _ _ _ _ _ _ _ _ _ _ _ _ _ _ _ _ _ _ _ _ _ _ _ _ _ _ _ _ _ _ _ _ _ _ _ _ _ _ _ _ _ _ _ _ _ _ _ _ _ _ _ _ _ _ _ _ _ _ _ _ _ _ _ _ _ _ _ _ _ _ _ _ _ _ _ _ _ _ _ _ _ _ _ _ _ _ _ _ _ _ _ _ _ _ _ _ _ _ _ _ _ _ _ _ _ _ _ _ _ _ _ _ _ _ _ _ _ _ _ _ _ _ _ _ _ _ _ _ _ _ _ _ _ _ _ _ _ _ _ _ _ _ _ _ _ _ _ _ _ _ _ _ _ _ _ _ _ _ _ _ _ _ _ _ _ _ _ q (ob := ob) (gs := gs) (gd := gd) (lb := lb) (sd := sd) (by intro ch aa ab ww hd hh; obtain ⟨ta, da⟩ := aa; obtain ⟨tb2, db⟩ := ab; cases hd; exact hh) hpl hNN (Lib.hid (hO7.out.sel [8, 13, 14, 6, 9, 7] (by decide))) hD7 ?_
    intro x145 x146 x147 x148 x149 x150 x151 x152 x153 x154 x155 x156 x157 x158 x159 x160 x161 x162 x163 x164 x165 x166 x167 x168 x169 x170 x171 x172 x173 x174 x175 x176 x177 x178 x179 x180 x181 x182 x183 x184 x185 x186 x187 x188 x189 x190 x191 x192 x193 x194 x195 x196 x197 x198 x199 wE hbE
    clear hO7 hD7 hpl hNN
    go_wp2_with fail
    go_ret
    exact ⟨rfl, hbE⟩
end Go.Proofs.Ytcegncbnanbenaa
