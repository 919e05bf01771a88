/- CoreStops: the first end counts. -/
import Derived.Test.YtcegncbnanbenaaCs30
set_option linter.unusedVariables false
set_option linter.unusedSimpArgs false
namespace Go.Proofs.Ytcegncbnanbenaa
open Go.RowKit
set_option maxRecDepth 100000
set_option maxHeartbeats 4000000
def codeS : List I4 := [(21, 0, 0, 0), (1, 3, 4, 0), (0, 0, 0, 0)]
def fsS : List (List I4) := [[(0, 0, 0, 0)], codeS]
def qS : QP := ⟨1, 1, 1, 2, 0, false, false⟩
theorem codeAt_else {fn pc : Int} (h : ¬ (fn = 1 ∧ 0 ≤ pc ∧ pc < 3)) : codeAt fsS fn pc = (0, 0, 0, 0) := by
  unfold codeAt
  split
  · rename_i h2
    obtain ⟨a, b, c, d⟩ := h2
    have hl : (fsS.length : Int) = 2 := rfl
    rcases (show fn = 0 ∨ fn = 1 by omega) with rfl | rfl
    · have h3 : (fsS.getD (0 : Int).toNat []) = [(0, 0, 0, 0)] := rfl
      rw [h3] at d ⊢
      simp at d
      obtain rfl : pc = 0 := by omega
      rfl
    · have h3 : (fsS.getD (1 : Int).toNat []) = codeS := rfl
      rw [h3] at d
      simp [codeS] at d
      omega
  · rfl
theorem walkCoreStops (v0 v1 v2 : Value) (w : World) (h0 : Arg Try.prog w 51 v0) (h1 : Arg Try.prog w 3 v1) (h2 : Arg Try.prog w 3 v2) : Calls Try.prog 4 #[v0, v1, v2] w fun e w' => e = .returned (.bool true) ∧ Below w.heap.size w w' := by
  obtain ⟨ao, cap, xs, rfl, hx1, hx2, _, g, off, hxc⟩ := h0.arrays' 2 Try.underlying51 Try.underlying52 Try.underlying3 (by kernel_rfl) (by kernel_rfl) (by decide)
  obtain ⟨fn, rfl, _⟩ := h1.int Try.underlying3
  obtain ⟨pc, rfl, _⟩ := h2.int Try.underlying3
  obtain ⟨i1, hi1, hz0, hz1, hz2⟩ := info_parts' Try.infoIns
  have W := Lib.hid (works25_any w)
  unfold maxLen at hx2
  have HC := Lib.hid hxc
  clear h0 h1 h2 hxc
  go_enter Try.func4, Try.ntmps4
  go_upto_region 3 with (go_at_call 7; refine W.out.mono ?_; rintro e w0 ⟨rfl, hb0⟩)
  clear W
  by_cases hbig : 100 < xs.length
  · have hbig2 : (100 : Int) < (xs.length : Int) := by omega
    go_wp2
    go_ret
    exact ⟨rfl, hb0⟩
  have hsm : ¬ (100 : Int) < (xs.length : Int) := by omega
  have hA := (Own.nil hb0).row_made 29 4 #[.int .i64 21, .int .i64 0, .int .i64 0, .int .i64 0, .int .i64 1, .int .i64 3, .int .i64 4, .int .i64 0, .int .i64 0, .int .i64 0, .int .i64 0, .int .i64 0] 3 (by unfold maxLen; omega) rfl
  simp only [List.nil_append] at hA
  go_upto_region 6 with fail
  obtain ⟨kb, hkb⟩ : ∃ kb, w0.heap.size = kb := ⟨_, rfl⟩
  rw [hkb] at hA ⊢
  generalize w0.alloc (.cells #[.int .i64 21, .int .i64 0, .int .i64 0, .int .i64 0, .int .i64 1, .int .i64 3, .int .i64 4, .int .i64 0, .int .i64 0, .int .i64 0, .int .i64 0, .int .i64 0] 29) = w1 at *
  have hA : Own w w1 [rowA 29 4 (.slice (some ⟨kb, 0, none⟩) 3 3) 3 (insL codeS)] := hA
  clear hkb hb0
  have hB := hA.row_made 29 4 #[.int .i64 0, .int .i64 0, .int .i64 0, .int .i64 0] 1 (by unfold maxLen; omega) rfl
  simp only [List.cons_append, List.nil_append] at hB
  obtain ⟨rb, hrb⟩ : ∃ rb, w1.heap.size = rb := ⟨_, rfl⟩
  rw [hrb] at hB
  have hsrc : Src (w1.alloc (.cells #[.int .i64 0, .int .i64 0, .int .i64 0, .int .i64 0] 29)) (some ⟨kb, 0, none⟩) 3 3 4 (insL codeS) := (hB.row 0 rfl).src'
  have hone := insL_cell codeS
  go_upto_region 7 with (at_builtin; go_loud (refine wpList_append_copy' (w1.alloc (.cells #[.int .i64 0, .int .i64 0, .int .i64 0, .int .i64 0] 29)) rfl _ _ 30 rfl 29 i1 (.agg #[.int .i64 0, .int .i64 0, .int .i64 0, .int .i64 0]) 4 32 Try.underlying30 hi1 hz0 hz1 hz2 rfl (by decide) _ (by simp [World.size_alloc, hrb]) rfl (some ⟨kb, 0, none⟩) 3 3 (insL codeS) rfl hsrc hone (by unfold maxLen; omega) (by omega) ?_); intro ka kc w3 hr3 hb3 hf3)
  have hC := hB.push hb3 (rowA 29 4 (.slice ka 3 kc) 3 (insL codeS)) hr3 hf3
  have hD := hC.row_made 30 1 #[.slice (some ⟨rb, 0, none⟩) 1 1, .slice ka 3 kc] 2 (by unfold maxLen; omega) rfl
  simp only [List.cons_append, List.nil_append] at hD
  have hL : LiesF (w3.alloc (.cells #[.slice (some ⟨rb, 0, none⟩) 1 1, .slice ka 3 kc] 30)) (some ⟨w3.heap.size, 0, none⟩) 2 ([((some ⟨rb, 0, none⟩, 1), [((0 : Int), (0 : Int), (0 : Int), (0 : Int))]), ((ka, kc), codeS)].map (·.2)) := by
    refine liesF_of (ps := [((some ⟨rb, 0, none⟩, 1), [(0, 0, 0, 0)]), ((ka, kc), codeS)]) (n := 2) (hD.row 3 rfl) ?_ rfl
    intro p hp
    simp at hp
    rcases hp with rfl | rfl
    · exact hD.row 1 rfl
    · exact hD.row 2 rfl
  have KN := Lib.hid (show Calls Try.prog 8 #[.agg #[.int .i64 0, .slice (some ⟨w3.heap.size, 0, none⟩) 2 2], .slice none 0 0, .agg #[.int .i64 1, .int .i64 1, .int .i64 1, .int .i64 2, .int .i64 0, .bool false, .bool false]] (w3.alloc (.cells #[.slice (some ⟨rb, 0, none⟩) 1 1, .slice ka 3 kc] 30)) fun e w' => ∃ cb, e = .returned (.tuple #[.pointer (some ⟨cb, 0, none⟩), .int .i64 0]) ∧ CoreNew (w3.alloc (.cells #[.slice (some ⟨rb, 0, none⟩) 1 1, .slice ka 3 kc] 30)) w' qS 0 fsS [] cb from
    knew qS 0 fsS (some ⟨w3.heap.size, 0, none⟩) 2 [] none 0 _ hL (Lies.of_row (a := []) (Row.nil _ _ _) rfl) (by kernel_rfl))
  have hE := hD.sel [0] (by decide)
  clear hL hA hB hC hD hr3 hb3 hf3 hsrc hone hrb
  refine KN.out.mono ?_
  rintro e w4 ⟨cb, rfl, hNw⟩
  obtain ⟨gs, sb, gd, sd, ob, lb, tb, ag, hb', rb', M, fa, fc, ps, bs', fr', pk', hM, hps, bv, hO⟩ := hNw
  have hO2 := hE.join (hO.sel [6, 10, 11] (by decide))
  obtain ⟨q, hq⟩ : ∃ q, qS = q := ⟨_, rfl⟩
  obtain ⟨fv, hfv⟩ : ∃ fv, Value.slice fa fsS.length fc = fv := ⟨_, rfl⟩
  obtain ⟨ft, hft⟩ : ∃ ft, Value.pointer (some ⟨tb, 0, none⟩) = ft := ⟨_, rfl⟩
  have hO : Own w w4 [coreC cb gs gd ob lb q fv ft 0 0 0, rowA 30 1 fv 2 (ps.map hdr), doneA ps, rowA 29 4 (.slice (some ⟨kb, 0, none⟩) 3 3) 3 (insL codeS)] := by
    subst hq hfv hft
    exact hO2
  replace hps := Lib.hid hps
  replace hfv := Lib.hid hfv
  clear KN hM hq hft hE hO2
  have wr0 : ∀ r : Nat, r < xs.length → (r : Int) < (xs.length : Int) := fun r h => by omega
  replace wr0 := Lib.hid wr0
  go_wp2_with fail
  go_loopw [10, 11, 13] (fun sv yv iv wr => ∃ (r : Nat) (st wy : Int), r ≤ xs.length ∧ iv = .int .i64 r ∧ sv = .int .i64 st ∧ yv = .int .i64 wy ∧ ((r = 0 ∧ st = 0 ∧ wy = 0) ∨ (0 < r ∧ ¬ st = 0)) ∧ Own w wr [coreC cb gs gd ob lb q fv ft (r : Int) st wy, rowA 30 1 fv 2 (ps.map hdr), doneA ps, rowA 29 4 (.slice (some ⟨kb, 0, none⟩) 3 3) 3 (insL codeS)]) (fun _ _ i _ => (xs.length - intOf i).toNat)
  case atStart => exact ⟨0, 0, 0, by omega, rfl, rfl, rfl, .inl ⟨rfl, rfl, rfl⟩, hO⟩
  case round =>
  clear hO
  obtain ⟨r, st, wy, hr, rfl, rfl, rfl, hcase, hO⟩ := hrel
  by_cases hlt : r < xs.length
  · obtain ⟨rfl, hc⟩ := HC.out r hlt
    have p0 := hc 0 (by omega)
    have p1 := hc 1 (by omega)
    rw [Nat.add_zero] at p0
    clear hc
    generalize (xs.getD r []).getD 0 0 = k at *
    generalize (xs.getD r []).getD 1 0 = y at *
    replace p0 := Lib.hid p0
    replace p1 := Lib.hid p1
    have hlti := wr0.out r hlt
    have c0 := hO.old p0.out
    have c1 := hO.old p1.out
    by_cases hst : st = 0
    · obtain ⟨h1, rfl, rfl⟩ : r = 0 ∧ st = 0 ∧ wy = 0 := by omega
      replace h1 := Lib.hid h1
      clear hcase hst
      by_cases hk : k = 0
      · subst hk
        go_upto_region 19 with fail
        clear c0 c1
        have hO' : Own w wr.drew _ := hO.drewN 1
        clear hO
        have hO := hO'
        clear hO'
        have hS0 : (fun w' : World => w'.cell? ⟨g, off + r * 2, none⟩ = some (.int .i64 0) ∧ w'.cell? ⟨g, off + r * 2 + 1, none⟩ = some (.int .i64 y)) wr.drew := ⟨hO.old p0.out, hO.old p1.out⟩
        have PS := cstop (cb := cb) (gs := gs) (gd := gd) (ob := ob) (lb := lb) (q := q) (fv := fv) (ft := ft) (se := (r : Int)) (st := 0) (wy := 0) hO 0 rfl 0 y
        rw [if_pos rfl, if_pos rfl] at PS
        replace PS := Lib.hid PS
        refine lin_start (S := (fun w' : World => w'.cell? ⟨g, off + r * 2, none⟩ = some (.int .i64 0) ∧ w'.cell? ⟨g, off + r * 2 + 1, none⟩ = some (.int .i64 y))) rfl 12 rfl hS0 ?_
        simp only [numbered, Nat.zero_add, Nat.reduceAdd]
        generalize wr.drew = u0 at *
        refine lin_take (v := ?_) (by kernel_rfl) (by kernel_rfl) (fun _ _ _ h => h) (Or.inl ⟨by rfl, ?_⟩) (by assumption) ?_; (rotate_left; (intro wS hSw; (try dsimp only at hSw); go_simp; (try with_reducible rfl)); rotate_left); simp only [Act.put, List.setIfInBounds_toArray, List.set_cons_zero, List.set_cons_succ]
        refine lin_take (v := ?_) (by kernel_rfl) (by kernel_rfl) (fun _ _ _ h => h) (Or.inl ⟨by rfl, ?_⟩) (by assumption) ?_; (rotate_left; (intro wS hSw; (try dsimp only at hSw); go_simp; (try with_reducible rfl)); rotate_left); simp only [Act.put, List.setIfInBounds_toArray, List.set_cons_zero, List.set_cons_succ]
        refine lin_take (v := ?_) (by kernel_rfl) (by kernel_rfl) (fun _ _ _ h => h) (Or.inl ⟨by rfl, ?_⟩) (by assumption) ?_; (rotate_left; (intro wS hSw; (try dsimp only at hSw); go_simp; (try with_reducible rfl)); rotate_left); simp only [Act.put, List.setIfInBounds_toArray, List.set_cons_zero, List.set_cons_succ]
        refine lin_take (v := ?_) (by kernel_rfl) (by kernel_rfl) (fun _ _ _ h => h) (Or.inl ⟨by rfl, ?_⟩) (by assumption) ?_; (rotate_left; (intro wS hSw; (try dsimp only at hSw); go_simp; (try with_reducible rfl)); rotate_left); simp only [Act.put, List.setIfInBounds_toArray, List.set_cons_zero, List.set_cons_succ]
        refine lin_take (v := ?_) (by kernel_rfl) (by kernel_rfl) (fun _ _ _ h => h) (Or.inl ⟨by rfl, ?_⟩) (by assumption) ?_; (rotate_left; (intro wS hSw; (try dsimp only at hSw); go_simp; (try with_reducible rfl)); rotate_left); simp only [Act.put, List.setIfInBounds_toArray, List.set_cons_zero, List.set_cons_succ]
        refine lin_take (v := ?_) (by kernel_rfl) (by kernel_rfl) (fun _ _ _ h => h) (Or.inl ⟨by rfl, ?_⟩) (by assumption) ?_; (rotate_left; (intro wS hSw; (try dsimp only at hSw); go_simp; (try with_reducible rfl)); rotate_left); simp only [Act.put, List.setIfInBounds_toArray, List.set_cons_zero, List.set_cons_succ]
        refine lin_take (v := ?_) (by kernel_rfl) (by kernel_rfl) (fun _ _ _ h => h) (Or.inl ⟨by rfl, ?_⟩) (by assumption) ?_; (rotate_left; (intro wS hSw; (try dsimp only at hSw); go_simp; (try with_reducible rfl)); rotate_left); simp only [Act.put, List.setIfInBounds_toArray, List.set_cons_zero, List.set_cons_succ]
        refine lin_take (v := ?_) (by kernel_rfl) (by kernel_rfl) (fun _ _ _ h => h) (Or.inl ⟨by rfl, ?_⟩) (by assumption) ?_; (rotate_left; (intro wS hSw; (try dsimp only at hSw); go_simp; (try with_reducible rfl)); rotate_left); simp only [Act.put, List.setIfInBounds_toArray, List.set_cons_zero, List.set_cons_succ]
        refine lin_take (v := ?_) (by kernel_rfl) (by kernel_rfl) (fun _ _ _ h => h) (Or.inl ⟨by rfl, ?_⟩) (by assumption) ?_; (rotate_left; (intro wS hSw; (try dsimp only at hSw); go_simp; (try with_reducible rfl)); rotate_left); simp only [Act.put, List.setIfInBounds_toArray, List.set_cons_zero, List.set_cons_succ]
        refine lin_take (v := ?_) (by kernel_rfl) (by kernel_rfl) (fun _ _ _ h => h) (Or.inl ⟨by rfl, ?_⟩) (by assumption) ?_; (rotate_left; (intro wS hSw; (try dsimp only at hSw); go_simp; (try with_reducible rfl)); rotate_left); simp only [Act.put, List.setIfInBounds_toArray, List.set_cons_zero, List.set_cons_succ]
        refine lin_take (v := ?_) (by kernel_rfl) (by kernel_rfl) (fun _ _ _ h => h) (Or.inl ⟨by rfl, ?_⟩) (by assumption) ?_; (rotate_left; (intro wS hSw; (try dsimp only at hSw); go_simp; (try with_reducible rfl)); rotate_left); simp only [Act.put, List.setIfInBounds_toArray, List.set_cons_zero, List.set_cons_succ]
        refine lin_sole (by kernel_rfl) (fun K hK => ?_)
        go_simp
        go_at_call 14; refine PS.out.mono ?_
        rintro e u1 ⟨rfl, hO1⟩
        refine hK.out _ _ ?_ (fun hHeld => ?_)
        · exact ⟨hO1.old p0.out, hO1.old p1.out⟩
        try simp only [Act.put, List.setIfInBounds_toArray, List.set_cons_zero, List.set_cons_succ]
        clear hK hHeld
        refine lin_done (by kernel_rfl) ?_
        have hO : Own w u1 [coreC cb gs gd ob lb q fv ft (r : Int) 0 y, rowA 30 1 fv 2 (ps.map hdr), doneA ps, rowA 29 4 (.slice (some ⟨kb, 0, none⟩) 3 3) 3 (insL codeS)] := hO1
        clear hO1 PS hS0
        go_upto_region 20 with fail
        have hO' : Own w u1.drew _ := hO.drewN 1
        clear hO
        have hO := hO'
        clear hO'
        have hS0 : (fun w' : World => w'.cell? ⟨g, off + r * 2, none⟩ = some (.int .i64 0) ∧ w'.cell? ⟨g, off + r * 2 + 1, none⟩ = some (.int .i64 y)) u1.drew := ⟨hO.old p0.out, hO.old p1.out⟩
        refine lin_start (S := (fun w' : World => w'.cell? ⟨g, off + r * 2, none⟩ = some (.int .i64 0) ∧ w'.cell? ⟨g, off + r * 2 + 1, none⟩ = some (.int .i64 y))) rfl 12 rfl hS0 ?_
        simp only [numbered, Nat.zero_add, Nat.reduceAdd]
        generalize u1.drew = u2 at *
        refine lin_take (v := ?_) (by kernel_rfl) (by kernel_rfl) (fun _ _ _ h => h) (Or.inl ⟨by rfl, ?_⟩) (by assumption) ?_; (rotate_left; (intro wS hSw; (try dsimp only at hSw); go_simp; (try with_reducible rfl)); rotate_left); simp only [Act.put, List.setIfInBounds_toArray, List.set_cons_zero, List.set_cons_succ]
        refine lin_take (v := ?_) (by kernel_rfl) (by kernel_rfl) (fun _ _ _ h => h) (Or.inl ⟨by rfl, ?_⟩) (by assumption) ?_; (rotate_left; (intro wS hSw; (try dsimp only at hSw); go_simp; (try with_reducible rfl)); rotate_left); simp only [Act.put, List.setIfInBounds_toArray, List.set_cons_zero, List.set_cons_succ]
        refine lin_take (v := ?_) (by kernel_rfl) (by kernel_rfl) (fun _ _ _ h => h) (Or.inl ⟨by rfl, ?_⟩) (by assumption) ?_; (rotate_left; (intro wS hSw; (try dsimp only at hSw); go_simp; (try with_reducible rfl)); rotate_left); simp only [Act.put, List.setIfInBounds_toArray, List.set_cons_zero, List.set_cons_succ]
        refine lin_take (v := ?_) (by kernel_rfl) (by kernel_rfl) (fun _ _ _ h => h) (Or.inl ⟨by rfl, ?_⟩) (by assumption) ?_; (rotate_left; (intro wS hSw; (try dsimp only at hSw); go_simp; (try with_reducible rfl)); rotate_left); simp only [Act.put, List.setIfInBounds_toArray, List.set_cons_zero, List.set_cons_succ]
        refine lin_take (v := ?_) (by kernel_rfl) (by kernel_rfl) (fun _ _ _ h => h) (Or.inl ⟨by rfl, ?_⟩) (by assumption) ?_; (rotate_left; (intro wS hSw; (try dsimp only at hSw); go_simp; (try with_reducible rfl)); rotate_left); simp only [Act.put, List.setIfInBounds_toArray, List.set_cons_zero, List.set_cons_succ]
        refine lin_take (v := ?_) (by kernel_rfl) (by kernel_rfl) (fun _ _ _ h => h) (Or.inl ⟨by rfl, ?_⟩) (by assumption) ?_; (rotate_left; (intro wS hSw; (try dsimp only at hSw); go_simp; (try with_reducible rfl)); rotate_left); simp only [Act.put, List.setIfInBounds_toArray, List.set_cons_zero, List.set_cons_succ]
        refine lin_take (v := ?_) (by kernel_rfl) (by kernel_rfl) (fun _ _ _ h => h) (Or.inl ⟨by rfl, ?_⟩) (by assumption) ?_; (rotate_left; (intro wS hSw; (try dsimp only at hSw); go_simp; (try with_reducible rfl)); rotate_left); simp only [Act.put, List.setIfInBounds_toArray, List.set_cons_zero, List.set_cons_succ]
        refine lin_take (v := ?_) (by kernel_rfl) (by kernel_rfl) (fun _ _ _ h => h) (Or.inl ⟨by rfl, ?_⟩) (by assumption) ?_; (rotate_left; (intro wS hSw; (try dsimp only at hSw); go_simp; (try with_reducible rfl)); rotate_left); simp only [Act.put, List.setIfInBounds_toArray, List.set_cons_zero, List.set_cons_succ]
        refine lin_take (v := ?_) (by kernel_rfl) (by kernel_rfl) (fun _ _ _ h => h) (Or.inl ⟨by rfl, ?_⟩) (by assumption) ?_; (rotate_left; (intro wS hSw; (try dsimp only at hSw); go_simp; (try with_reducible rfl)); rotate_left); simp only [Act.put, List.setIfInBounds_toArray, List.set_cons_zero, List.set_cons_succ]
        refine lin_take (v := ?_) (by kernel_rfl) (by kernel_rfl) (fun _ _ _ h => h) (Or.inl ⟨by rfl, ?_⟩) (by assumption) ?_; (rotate_left; (intro wS hSw; (try dsimp only at hSw); go_simp; (try with_reducible rfl)); rotate_left); simp only [Act.put, List.setIfInBounds_toArray, List.set_cons_zero, List.set_cons_succ]
        refine lin_take (v := ?_) (by kernel_rfl) (by kernel_rfl) (fun _ _ _ h => h) (Or.inl ⟨by rfl, ?_⟩) (by assumption) ?_; (rotate_left; (intro wS hSw; (try dsimp only at hSw); go_simp; (try with_reducible rfl)); rotate_left); simp only [Act.put, List.setIfInBounds_toArray, List.set_cons_zero, List.set_cons_succ]
        refine lin_sole (by kernel_rfl) (fun K hK => ?_)
        go_simp
        go_at_call 14; refine (cstop_nil _ _ _).mono ?_
        rintro e u3 ⟨rfl, rfl⟩
        refine hK.out _ _ ?_ (fun hHeld => ?_)
        · exact ⟨hO.old p0.out, hO.old p1.out⟩
        try simp only [Act.put, List.setIfInBounds_toArray, List.set_cons_zero, List.set_cons_succ]
        clear hK hHeld
        refine lin_done (by kernel_rfl) ?_
        clear hS0
        have P5 := Lib.hid (cstatus (w := u2) (cb := cb) (st := 0) (wy := y) (fun n => ((hO.drewN n).cget 0 rfl 21).1) (fun n => ((hO.drewN n).cget 0 rfl 22).1))
        go_upto_region 22 with (go_at_call 15; refine P5.out.mono ?_; rintro e w9 ⟨rfl, nq, rfl⟩)
        have hO' := hO.drewN nq
        clear P5 hO
        have hO := hO'
        clear hO'
        generalize u2.drewN nq = u4 at *
        have c0 := hO.old p0.out
        have P6 := Lib.hid (cserial (cb := cb) (gs := gs) (gd := gd) (ob := ob) (lb := lb) (q := q) (fv := fv) (ft := ft) (se := (r : Int)) (st := 0) (wy := y) hO 0 rfl ⟨by omega, by omega⟩)
        clear hO
        go_wp2_with (go_at_call 16; refine P6.out.mono ?_; rintro e w10 ⟨rfl, hO⟩; have c0 := hO.old p0.out; replace hO := Lib.hid hO)
        go_ret
        exact ⟨rfl, hO.out.below⟩
      · have hk2 : (k == 0) = false := by simpa using hk
        go_upto_region 19 with fail
        clear c0 c1
        have hO' : Own w wr.drew _ := hO.drewN 1
        clear hO
        have hO := hO'
        clear hO'
        have hS0 : (fun w' : World => w'.cell? ⟨g, off + r * 2, none⟩ = some (.int .i64 k) ∧ w'.cell? ⟨g, off + r * 2 + 1, none⟩ = some (.int .i64 y)) wr.drew := ⟨hO.old p0.out, hO.old p1.out⟩
        have PS := cstop (cb := cb) (gs := gs) (gd := gd) (ob := ob) (lb := lb) (q := q) (fv := fv) (ft := ft) (se := (r : Int)) (st := 0) (wy := 0) hO 0 rfl k y
        rw [if_pos rfl, if_pos rfl] at PS
        replace PS := Lib.hid PS
        refine lin_start (S := (fun w' : World => w'.cell? ⟨g, off + r * 2, none⟩ = some (.int .i64 k) ∧ w'.cell? ⟨g, off + r * 2 + 1, none⟩ = some (.int .i64 y))) rfl 12 rfl hS0 ?_
        simp only [numbered, Nat.zero_add, Nat.reduceAdd]
        generalize wr.drew = u0 at *
        refine lin_take (v := ?_) (by kernel_rfl) (by kernel_rfl) (fun _ _ _ h => h) (Or.inl ⟨by rfl, ?_⟩) (by assumption) ?_; (rotate_left; (intro wS hSw; (try dsimp only at hSw); go_simp; (try with_reducible rfl)); rotate_left); simp only [Act.put, List.setIfInBounds_toArray, List.set_cons_zero, List.set_cons_succ]
        refine lin_take (v := ?_) (by kernel_rfl) (by kernel_rfl) (fun _ _ _ h => h) (Or.inl ⟨by rfl, ?_⟩) (by assumption) ?_; (rotate_left; (intro wS hSw; (try dsimp only at hSw); go_simp; (try with_reducible rfl)); rotate_left); simp only [Act.put, List.setIfInBounds_toArray, List.set_cons_zero, List.set_cons_succ]
        refine lin_take (v := ?_) (by kernel_rfl) (by kernel_rfl) (fun _ _ _ h => h) (Or.inl ⟨by rfl, ?_⟩) (by assumption) ?_; (rotate_left; (intro wS hSw; (try dsimp only at hSw); go_simp; (try with_reducible rfl)); rotate_left); simp only [Act.put, List.setIfInBounds_toArray, List.set_cons_zero, List.set_cons_succ]
        refine lin_take (v := ?_) (by kernel_rfl) (by kernel_rfl) (fun _ _ _ h => h) (Or.inl ⟨by rfl, ?_⟩) (by assumption) ?_; (rotate_left; (intro wS hSw; (try dsimp only at hSw); go_simp; (try with_reducible rfl)); rotate_left); simp only [Act.put, List.setIfInBounds_toArray, List.set_cons_zero, List.set_cons_succ]
        refine lin_take (v := ?_) (by kernel_rfl) (by kernel_rfl) (fun _ _ _ h => h) (Or.inl ⟨by rfl, ?_⟩) (by assumption) ?_; (rotate_left; (intro wS hSw; (try dsimp only at hSw); go_simp; (try with_reducible rfl)); rotate_left); simp only [Act.put, List.setIfInBounds_toArray, List.set_cons_zero, List.set_cons_succ]
        refine lin_take (v := ?_) (by kernel_rfl) (by kernel_rfl) (fun _ _ _ h => h) (Or.inl ⟨by rfl, ?_⟩) (by assumption) ?_; (rotate_left; (intro wS hSw; (try dsimp only at hSw); go_simp; (try with_reducible rfl)); rotate_left); simp only [Act.put, List.setIfInBounds_toArray, List.set_cons_zero, List.set_cons_succ]
        refine lin_take (v := ?_) (by kernel_rfl) (by kernel_rfl) (fun _ _ _ h => h) (Or.inl ⟨by rfl, ?_⟩) (by assumption) ?_; (rotate_left; (intro wS hSw; (try dsimp only at hSw); go_simp; (try with_reducible rfl)); rotate_left); simp only [Act.put, List.setIfInBounds_toArray, List.set_cons_zero, List.set_cons_succ]
        refine lin_take (v := ?_) (by kernel_rfl) (by kernel_rfl) (fun _ _ _ h => h) (Or.inl ⟨by rfl, ?_⟩) (by assumption) ?_; (rotate_left; (intro wS hSw; (try dsimp only at hSw); go_simp; (try with_reducible rfl)); rotate_left); simp only [Act.put, List.setIfInBounds_toArray, List.set_cons_zero, List.set_cons_succ]
        refine lin_take (v := ?_) (by kernel_rfl) (by kernel_rfl) (fun _ _ _ h => h) (Or.inl ⟨by rfl, ?_⟩) (by assumption) ?_; (rotate_left; (intro wS hSw; (try dsimp only at hSw); go_simp; (try with_reducible rfl)); rotate_left); simp only [Act.put, List.setIfInBounds_toArray, List.set_cons_zero, List.set_cons_succ]
        refine lin_take (v := ?_) (by kernel_rfl) (by kernel_rfl) (fun _ _ _ h => h) (Or.inl ⟨by rfl, ?_⟩) (by assumption) ?_; (rotate_left; (intro wS hSw; (try dsimp only at hSw); go_simp; (try with_reducible rfl)); rotate_left); simp only [Act.put, List.setIfInBounds_toArray, List.set_cons_zero, List.set_cons_succ]
        refine lin_take (v := ?_) (by kernel_rfl) (by kernel_rfl) (fun _ _ _ h => h) (Or.inl ⟨by rfl, ?_⟩) (by assumption) ?_; (rotate_left; (intro wS hSw; (try dsimp only at hSw); go_simp; (try with_reducible rfl)); rotate_left); simp only [Act.put, List.setIfInBounds_toArray, List.set_cons_zero, List.set_cons_succ]
        refine lin_sole (by kernel_rfl) (fun K hK => ?_)
        go_simp
        go_at_call 14; refine PS.out.mono ?_
        rintro e u1 ⟨rfl, hO1⟩
        refine hK.out _ _ ?_ (fun hHeld => ?_)
        · exact ⟨hO1.old p0.out, hO1.old p1.out⟩
        try simp only [Act.put, List.setIfInBounds_toArray, List.set_cons_zero, List.set_cons_succ]
        clear hK hHeld
        refine lin_done (by kernel_rfl) ?_
        have hO : Own w u1 [coreC cb gs gd ob lb q fv ft (r : Int) k y, rowA 30 1 fv 2 (ps.map hdr), doneA ps, rowA 29 4 (.slice (some ⟨kb, 0, none⟩) 3 3) 3 (insL codeS)] := hO1
        clear hO1 PS hS0
        go_upto_region 20 with fail
        have hO' : Own w u1.drew _ := hO.drewN 1
        clear hO
        have hO := hO'
        clear hO'
        have hS0 : (fun w' : World => w'.cell? ⟨g, off + r * 2, none⟩ = some (.int .i64 k) ∧ w'.cell? ⟨g, off + r * 2 + 1, none⟩ = some (.int .i64 y)) u1.drew := ⟨hO.old p0.out, hO.old p1.out⟩
        refine lin_start (S := (fun w' : World => w'.cell? ⟨g, off + r * 2, none⟩ = some (.int .i64 k) ∧ w'.cell? ⟨g, off + r * 2 + 1, none⟩ = some (.int .i64 y))) rfl 12 rfl hS0 ?_
        simp only [numbered, Nat.zero_add, Nat.reduceAdd]
        generalize u1.drew = u2 at *
        refine lin_take (v := ?_) (by kernel_rfl) (by kernel_rfl) (fun _ _ _ h => h) (Or.inl ⟨by rfl, ?_⟩) (by assumption) ?_; (rotate_left; (intro wS hSw; (try dsimp only at hSw); go_simp; (try with_reducible rfl)); rotate_left); simp only [Act.put, List.setIfInBounds_toArray, List.set_cons_zero, List.set_cons_succ]
        refine lin_take (v := ?_) (by kernel_rfl) (by kernel_rfl) (fun _ _ _ h => h) (Or.inl ⟨by rfl, ?_⟩) (by assumption) ?_; (rotate_left; (intro wS hSw; (try dsimp only at hSw); go_simp; (try with_reducible rfl)); rotate_left); simp only [Act.put, List.setIfInBounds_toArray, List.set_cons_zero, List.set_cons_succ]
        refine lin_take (v := ?_) (by kernel_rfl) (by kernel_rfl) (fun _ _ _ h => h) (Or.inl ⟨by rfl, ?_⟩) (by assumption) ?_; (rotate_left; (intro wS hSw; (try dsimp only at hSw); go_simp; (try with_reducible rfl)); rotate_left); simp only [Act.put, List.setIfInBounds_toArray, List.set_cons_zero, List.set_cons_succ]
        refine lin_take (v := ?_) (by kernel_rfl) (by kernel_rfl) (fun _ _ _ h => h) (Or.inl ⟨by rfl, ?_⟩) (by assumption) ?_; (rotate_left; (intro wS hSw; (try dsimp only at hSw); go_simp; (try with_reducible rfl)); rotate_left); simp only [Act.put, List.setIfInBounds_toArray, List.set_cons_zero, List.set_cons_succ]
        refine lin_take (v := ?_) (by kernel_rfl) (by kernel_rfl) (fun _ _ _ h => h) (Or.inl ⟨by rfl, ?_⟩) (by assumption) ?_; (rotate_left; (intro wS hSw; (try dsimp only at hSw); go_simp; (try with_reducible rfl)); rotate_left); simp only [Act.put, List.setIfInBounds_toArray, List.set_cons_zero, List.set_cons_succ]
        refine lin_take (v := ?_) (by kernel_rfl) (by kernel_rfl) (fun _ _ _ h => h) (Or.inl ⟨by rfl, ?_⟩) (by assumption) ?_; (rotate_left; (intro wS hSw; (try dsimp only at hSw); go_simp; (try with_reducible rfl)); rotate_left); simp only [Act.put, List.setIfInBounds_toArray, List.set_cons_zero, List.set_cons_succ]
        refine lin_take (v := ?_) (by kernel_rfl) (by kernel_rfl) (fun _ _ _ h => h) (Or.inl ⟨by rfl, ?_⟩) (by assumption) ?_; (rotate_left; (intro wS hSw; (try dsimp only at hSw); go_simp; (try with_reducible rfl)); rotate_left); simp only [Act.put, List.setIfInBounds_toArray, List.set_cons_zero, List.set_cons_succ]
        refine lin_take (v := ?_) (by kernel_rfl) (by kernel_rfl) (fun _ _ _ h => h) (Or.inl ⟨by rfl, ?_⟩) (by assumption) ?_; (rotate_left; (intro wS hSw; (try dsimp only at hSw); go_simp; (try with_reducible rfl)); rotate_left); simp only [Act.put, List.setIfInBounds_toArray, List.set_cons_zero, List.set_cons_succ]
        refine lin_take (v := ?_) (by kernel_rfl) (by kernel_rfl) (fun _ _ _ h => h) (Or.inl ⟨by rfl, ?_⟩) (by assumption) ?_; (rotate_left; (intro wS hSw; (try dsimp only at hSw); go_simp; (try with_reducible rfl)); rotate_left); simp only [Act.put, List.setIfInBounds_toArray, List.set_cons_zero, List.set_cons_succ]
        refine lin_take (v := ?_) (by kernel_rfl) (by kernel_rfl) (fun _ _ _ h => h) (Or.inl ⟨by rfl, ?_⟩) (by assumption) ?_; (rotate_left; (intro wS hSw; (try dsimp only at hSw); go_simp; (try with_reducible rfl)); rotate_left); simp only [Act.put, List.setIfInBounds_toArray, List.set_cons_zero, List.set_cons_succ]
        refine lin_take (v := ?_) (by kernel_rfl) (by kernel_rfl) (fun _ _ _ h => h) (Or.inl ⟨by rfl, ?_⟩) (by assumption) ?_; (rotate_left; (intro wS hSw; (try dsimp only at hSw); go_simp; (try with_reducible rfl)); rotate_left); simp only [Act.put, List.setIfInBounds_toArray, List.set_cons_zero, List.set_cons_succ]
        refine lin_sole (by kernel_rfl) (fun K hK => ?_)
        go_simp
        go_at_call 14; refine (cstop_nil _ _ _).mono ?_
        rintro e u3 ⟨rfl, rfl⟩
        refine hK.out _ _ ?_ (fun hHeld => ?_)
        · exact ⟨hO.old p0.out, hO.old p1.out⟩
        try simp only [Act.put, List.setIfInBounds_toArray, List.set_cons_zero, List.set_cons_succ]
        clear hK hHeld
        refine lin_done (by kernel_rfl) ?_
        clear hS0
        have P5 := Lib.hid (cstatus (w := u2) (cb := cb) (st := k) (wy := y) (fun n => ((hO.drewN n).cget 0 rfl 21).1) (fun n => ((hO.drewN n).cget 0 rfl 22).1))
        go_upto_region 22 with (go_at_call 15; refine P5.out.mono ?_; rintro e w9 ⟨rfl, nq, rfl⟩)
        have hO' := hO.drewN nq
        clear P5 hO
        have hO := hO'
        clear hO'
        generalize u2.drewN nq = u4 at *
        have c0 := hO.old p0.out
        have P6 := Lib.hid (cserial (cb := cb) (gs := gs) (gd := gd) (ob := ob) (lb := lb) (q := q) (fv := fv) (ft := ft) (se := (r : Int)) (st := k) (wy := y) hO 0 rfl ⟨by omega, by omega⟩)
        clear hO
        go_wp2_with (go_at_call 16; refine P6.out.mono ?_; rintro e w10 ⟨rfl, hO⟩; have c0 := hO.old p0.out; replace hO := Lib.hid hO)
        go_round
        case rel => exact ⟨r + 1, k, y, by omega, by first | rfl | trivial | go_num, by first | rfl | trivial, by first | rfl | trivial, .inr ⟨by omega, hk⟩, hO.out⟩
        case measure => simp [intOf]; omega
    · have hst2 : (st == 0) = false := by simpa using hst
      have h1 : 0 < r := by omega
      clear hcase
      by_cases hk : k = 0
      · subst hk
        go_upto_region 19 with fail
        clear c0 c1
        have hO' : Own w wr.drew _ := hO.drewN 1
        clear hO
        have hO := hO'
        clear hO'
        have hS0 : (fun w' : World => w'.cell? ⟨g, off + r * 2, none⟩ = some (.int .i64 0) ∧ w'.cell? ⟨g, off + r * 2 + 1, none⟩ = some (.int .i64 y)) wr.drew := ⟨hO.old p0.out, hO.old p1.out⟩
        have PS := cstop (cb := cb) (gs := gs) (gd := gd) (ob := ob) (lb := lb) (q := q) (fv := fv) (ft := ft) (se := (r : Int)) (st := st) (wy := wy) hO 0 rfl 0 y
        rw [if_neg hst, if_neg hst] at PS
        replace PS := Lib.hid PS
        refine lin_start (S := (fun w' : World => w'.cell? ⟨g, off + r * 2, none⟩ = some (.int .i64 0) ∧ w'.cell? ⟨g, off + r * 2 + 1, none⟩ = some (.int .i64 y))) rfl 12 rfl hS0 ?_
        simp only [numbered, Nat.zero_add, Nat.reduceAdd]
        generalize wr.drew = u0 at *
        refine lin_take (v := ?_) (by kernel_rfl) (by kernel_rfl) (fun _ _ _ h => h) (Or.inl ⟨by rfl, ?_⟩) (by assumption) ?_; (rotate_left; (intro wS hSw; (try dsimp only at hSw); go_simp; (try with_reducible rfl)); rotate_left); simp only [Act.put, List.setIfInBounds_toArray, List.set_cons_zero, List.set_cons_succ]
        refine lin_take (v := ?_) (by kernel_rfl) (by kernel_rfl) (fun _ _ _ h => h) (Or.inl ⟨by rfl, ?_⟩) (by assumption) ?_; (rotate_left; (intro wS hSw; (try dsimp only at hSw); go_simp; (try with_reducible rfl)); rotate_left); simp only [Act.put, List.setIfInBounds_toArray, List.set_cons_zero, List.set_cons_succ]
        refine lin_take (v := ?_) (by kernel_rfl) (by kernel_rfl) (fun _ _ _ h => h) (Or.inl ⟨by rfl, ?_⟩) (by assumption) ?_; (rotate_left; (intro wS hSw; (try dsimp only at hSw); go_simp; (try with_reducible rfl)); rotate_left); simp only [Act.put, List.setIfInBounds_toArray, List.set_cons_zero, List.set_cons_succ]
        refine lin_take (v := ?_) (by kernel_rfl) (by kernel_rfl) (fun _ _ _ h => h) (Or.inl ⟨by rfl, ?_⟩) (by assumption) ?_; (rotate_left; (intro wS hSw; (try dsimp only at hSw); go_simp; (try with_reducible rfl)); rotate_left); simp only [Act.put, List.setIfInBounds_toArray, List.set_cons_zero, List.set_cons_succ]
        refine lin_take (v := ?_) (by kernel_rfl) (by kernel_rfl) (fun _ _ _ h => h) (Or.inl ⟨by rfl, ?_⟩) (by assumption) ?_; (rotate_left; (intro wS hSw; (try dsimp only at hSw); go_simp; (try with_reducible rfl)); rotate_left); simp only [Act.put, List.setIfInBounds_toArray, List.set_cons_zero, List.set_cons_succ]
        refine lin_take (v := ?_) (by kernel_rfl) (by kernel_rfl) (fun _ _ _ h => h) (Or.inl ⟨by rfl, ?_⟩) (by assumption) ?_; (rotate_left; (intro wS hSw; (try dsimp only at hSw); go_simp; (try with_reducible rfl)); rotate_left); simp only [Act.put, List.setIfInBounds_toArray, List.set_cons_zero, List.set_cons_succ]
        refine lin_take (v := ?_) (by kernel_rfl) (by kernel_rfl) (fun _ _ _ h => h) (Or.inl ⟨by rfl, ?_⟩) (by assumption) ?_; (rotate_left; (intro wS hSw; (try dsimp only at hSw); go_simp; (try with_reducible rfl)); rotate_left); simp only [Act.put, List.setIfInBounds_toArray, List.set_cons_zero, List.set_cons_succ]
        refine lin_take (v := ?_) (by kernel_rfl) (by kernel_rfl) (fun _ _ _ h => h) (Or.inl ⟨by rfl, ?_⟩) (by assumption) ?_; (rotate_left; (intro wS hSw; (try dsimp only at hSw); go_simp; (try with_reducible rfl)); rotate_left); simp only [Act.put, List.setIfInBounds_toArray, List.set_cons_zero, List.set_cons_succ]
        refine lin_take (v := ?_) (by kernel_rfl) (by kernel_rfl) (fun _ _ _ h => h) (Or.inl ⟨by rfl, ?_⟩) (by assumption) ?_; (rotate_left; (intro wS hSw; (try dsimp only at hSw); go_simp; (try with_reducible rfl)); rotate_left); simp only [Act.put, List.setIfInBounds_toArray, List.set_cons_zero, List.set_cons_succ]
        refine lin_take (v := ?_) (by kernel_rfl) (by kernel_rfl) (fun _ _ _ h => h) (Or.inl ⟨by rfl, ?_⟩) (by assumption) ?_; (rotate_left; (intro wS hSw; (try dsimp only at hSw); go_simp; (try with_reducible rfl)); rotate_left); simp only [Act.put, List.setIfInBounds_toArray, List.set_cons_zero, List.set_cons_succ]
        refine lin_take (v := ?_) (by kernel_rfl) (by kernel_rfl) (fun _ _ _ h => h) (Or.inl ⟨by rfl, ?_⟩) (by assumption) ?_; (rotate_left; (intro wS hSw; (try dsimp only at hSw); go_simp; (try with_reducible rfl)); rotate_left); simp only [Act.put, List.setIfInBounds_toArray, List.set_cons_zero, List.set_cons_succ]
        refine lin_sole (by kernel_rfl) (fun K hK => ?_)
        go_simp
        go_at_call 14; refine PS.out.mono ?_
        rintro e u1 ⟨rfl, hO1⟩
        refine hK.out _ _ ?_ (fun hHeld => ?_)
        · exact ⟨hO1.old p0.out, hO1.old p1.out⟩
        try simp only [Act.put, List.setIfInBounds_toArray, List.set_cons_zero, List.set_cons_succ]
        clear hK hHeld
        refine lin_done (by kernel_rfl) ?_
        have hO : Own w u1 [coreC cb gs gd ob lb q fv ft (r : Int) st wy, rowA 30 1 fv 2 (ps.map hdr), doneA ps, rowA 29 4 (.slice (some ⟨kb, 0, none⟩) 3 3) 3 (insL codeS)] := hO1
        clear hO1 PS hS0
        go_upto_region 20 with fail
        have hO' : Own w u1.drew _ := hO.drewN 1
        clear hO
        have hO := hO'
        clear hO'
        have hS0 : (fun w' : World => w'.cell? ⟨g, off + r * 2, none⟩ = some (.int .i64 0) ∧ w'.cell? ⟨g, off + r * 2 + 1, none⟩ = some (.int .i64 y)) u1.drew := ⟨hO.old p0.out, hO.old p1.out⟩
        refine lin_start (S := (fun w' : World => w'.cell? ⟨g, off + r * 2, none⟩ = some (.int .i64 0) ∧ w'.cell? ⟨g, off + r * 2 + 1, none⟩ = some (.int .i64 y))) rfl 12 rfl hS0 ?_
        simp only [numbered, Nat.zero_add, Nat.reduceAdd]
        generalize u1.drew = u2 at *
        refine lin_take (v := ?_) (by kernel_rfl) (by kernel_rfl) (fun _ _ _ h => h) (Or.inl ⟨by rfl, ?_⟩) (by assumption) ?_; (rotate_left; (intro wS hSw; (try dsimp only at hSw); go_simp; (try with_reducible rfl)); rotate_left); simp only [Act.put, List.setIfInBounds_toArray, List.set_cons_zero, List.set_cons_succ]
        refine lin_take (v := ?_) (by kernel_rfl) (by kernel_rfl) (fun _ _ _ h => h) (Or.inl ⟨by rfl, ?_⟩) (by assumption) ?_; (rotate_left; (intro wS hSw; (try dsimp only at hSw); go_simp; (try with_reducible rfl)); rotate_left); simp only [Act.put, List.setIfInBounds_toArray, List.set_cons_zero, List.set_cons_succ]
        refine lin_take (v := ?_) (by kernel_rfl) (by kernel_rfl) (fun _ _ _ h => h) (Or.inl ⟨by rfl, ?_⟩) (by assumption) ?_; (rotate_left; (intro wS hSw; (try dsimp only at hSw); go_simp; (try with_reducible rfl)); rotate_left); simp only [Act.put, List.setIfInBounds_toArray, List.set_cons_zero, List.set_cons_succ]
        refine lin_take (v := ?_) (by kernel_rfl) (by kernel_rfl) (fun _ _ _ h => h) (Or.inl ⟨by rfl, ?_⟩) (by assumption) ?_; (rotate_left; (intro wS hSw; (try dsimp only at hSw); go_simp; (try with_reducible rfl)); rotate_left); simp only [Act.put, List.setIfInBounds_toArray, List.set_cons_zero, List.set_cons_succ]
        refine lin_take (v := ?_) (by kernel_rfl) (by kernel_rfl) (fun _ _ _ h => h) (Or.inl ⟨by rfl, ?_⟩) (by assumption) ?_; (rotate_left; (intro wS hSw; (try dsimp only at hSw); go_simp; (try with_reducible rfl)); rotate_left); simp only [Act.put, List.setIfInBounds_toArray, List.set_cons_zero, List.set_cons_succ]
        refine lin_take (v := ?_) (by kernel_rfl) (by kernel_rfl) (fun _ _ _ h => h) (Or.inl ⟨by rfl, ?_⟩) (by assumption) ?_; (rotate_left; (intro wS hSw; (try dsimp only at hSw); go_simp; (try with_reducible rfl)); rotate_left); simp only [Act.put, List.setIfInBounds_toArray, List.set_cons_zero, List.set_cons_succ]
        refine lin_take (v := ?_) (by kernel_rfl) (by kernel_rfl) (fun _ _ _ h => h) (Or.inl ⟨by rfl, ?_⟩) (by assumption) ?_; (rotate_left; (intro wS hSw; (try dsimp only at hSw); go_simp; (try with_reducible rfl)); rotate_left); simp only [Act.put, List.setIfInBounds_toArray, List.set_cons_zero, List.set_cons_succ]
        refine lin_take (v := ?_) (by kernel_rfl) (by kernel_rfl) (fun _ _ _ h => h) (Or.inl ⟨by rfl, ?_⟩) (by assumption) ?_; (rotate_left; (intro wS hSw; (try dsimp only at hSw); go_simp; (try with_reducible rfl)); rotate_left); simp only [Act.put, List.setIfInBounds_toArray, List.set_cons_zero, List.set_cons_succ]
        refine lin_take (v := ?_) (by kernel_rfl) (by kernel_rfl) (fun _ _ _ h => h) (Or.inl ⟨by rfl, ?_⟩) (by assumption) ?_; (rotate_left; (intro wS hSw; (try dsimp only at hSw); go_simp; (try with_reducible rfl)); rotate_left); simp only [Act.put, List.setIfInBounds_toArray, List.set_cons_zero, List.set_cons_succ]
        refine lin_take (v := ?_) (by kernel_rfl) (by kernel_rfl) (fun _ _ _ h => h) (Or.inl ⟨by rfl, ?_⟩) (by assumption) ?_; (rotate_left; (intro wS hSw; (try dsimp only at hSw); go_simp; (try with_reducible rfl)); rotate_left); simp only [Act.put, List.setIfInBounds_toArray, List.set_cons_zero, List.set_cons_succ]
        refine lin_take (v := ?_) (by kernel_rfl) (by kernel_rfl) (fun _ _ _ h => h) (Or.inl ⟨by rfl, ?_⟩) (by assumption) ?_; (rotate_left; (intro wS hSw; (try dsimp only at hSw); go_simp; (try with_reducible rfl)); rotate_left); simp only [Act.put, List.setIfInBounds_toArray, List.set_cons_zero, List.set_cons_succ]
        refine lin_sole (by kernel_rfl) (fun K hK => ?_)
        go_simp
        go_at_call 14; refine (cstop_nil _ _ _).mono ?_
        rintro e u3 ⟨rfl, rfl⟩
        refine hK.out _ _ ?_ (fun hHeld => ?_)
        · exact ⟨hO.old p0.out, hO.old p1.out⟩
        try simp only [Act.put, List.setIfInBounds_toArray, List.set_cons_zero, List.set_cons_succ]
        clear hK hHeld
        refine lin_done (by kernel_rfl) ?_
        clear hS0
        have P5 := Lib.hid (cstatus (w := u2) (cb := cb) (st := st) (wy := wy) (fun n => ((hO.drewN n).cget 0 rfl 21).1) (fun n => ((hO.drewN n).cget 0 rfl 22).1))
        go_upto_region 22 with (go_at_call 15; refine P5.out.mono ?_; rintro e w9 ⟨rfl, nq, rfl⟩)
        have hO' := hO.drewN nq
        clear P5 hO
        have hO := hO'
        clear hO'
        generalize u2.drewN nq = u4 at *
        have c0 := hO.old p0.out
        have P6 := Lib.hid (cserial (cb := cb) (gs := gs) (gd := gd) (ob := ob) (lb := lb) (q := q) (fv := fv) (ft := ft) (se := (r : Int)) (st := st) (wy := wy) hO 0 rfl ⟨by omega, by omega⟩)
        clear hO
        go_wp2_with (go_at_call 16; refine P6.out.mono ?_; rintro e w10 ⟨rfl, hO⟩; have c0 := hO.old p0.out; replace hO := Lib.hid hO)
        go_ret
        exact ⟨rfl, hO.out.below⟩
      · have hk2 : (k == 0) = false := by simpa using hk
        go_upto_region 19 with fail
        clear c0 c1
        have hO' : Own w wr.drew _ := hO.drewN 1
        clear hO
        have hO := hO'
        clear hO'
        have hS0 : (fun w' : World => w'.cell? ⟨g, off + r * 2, none⟩ = some (.int .i64 k) ∧ w'.cell? ⟨g, off + r * 2 + 1, none⟩ = some (.int .i64 y)) wr.drew := ⟨hO.old p0.out, hO.old p1.out⟩
        have PS := cstop (cb := cb) (gs := gs) (gd := gd) (ob := ob) (lb := lb) (q := q) (fv := fv) (ft := ft) (se := (r : Int)) (st := st) (wy := wy) hO 0 rfl k y
        rw [if_neg hst, if_neg hst] at PS
        replace PS := Lib.hid PS
        refine lin_start (S := (fun w' : World => w'.cell? ⟨g, off + r * 2, none⟩ = some (.int .i64 k) ∧ w'.cell? ⟨g, off + r * 2 + 1, none⟩ = some (.int .i64 y))) rfl 12 rfl hS0 ?_
        simp only [numbered, Nat.zero_add, Nat.reduceAdd]
        generalize wr.drew = u0 at *
        refine lin_take (v := ?_) (by kernel_rfl) (by kernel_rfl) (fun _ _ _ h => h) (Or.inl ⟨by rfl, ?_⟩) (by assumption) ?_; (rotate_left; (intro wS hSw; (try dsimp only at hSw); go_simp; (try with_reducible rfl)); rotate_left); simp only [Act.put, List.setIfInBounds_toArray, List.set_cons_zero, List.set_cons_succ]
        refine lin_take (v := ?_) (by kernel_rfl) (by kernel_rfl) (fun _ _ _ h => h) (Or.inl ⟨by rfl, ?_⟩) (by assumption) ?_; (rotate_left; (intro wS hSw; (try dsimp only at hSw); go_simp; (try with_reducible rfl)); rotate_left); simp only [Act.put, List.setIfInBounds_toArray, List.set_cons_zero, List.set_cons_succ]
        refine lin_take (v := ?_) (by kernel_rfl) (by kernel_rfl) (fun _ _ _ h => h) (Or.inl ⟨by rfl, ?_⟩) (by assumption) ?_; (rotate_left; (intro wS hSw; (try dsimp only at hSw); go_simp; (try with_reducible rfl)); rotate_left); simp only [Act.put, List.setIfInBounds_toArray, List.set_cons_zero, List.set_cons_succ]
        refine lin_take (v := ?_) (by kernel_rfl) (by kernel_rfl) (fun _ _ _ h => h) (Or.inl ⟨by rfl, ?_⟩) (by assumption) ?_; (rotate_left; (intro wS hSw; (try dsimp only at hSw); go_simp; (try with_reducible rfl)); rotate_left); simp only [Act.put, List.setIfInBounds_toArray, List.set_cons_zero, List.set_cons_succ]
        refine lin_take (v := ?_) (by kernel_rfl) (by kernel_rfl) (fun _ _ _ h => h) (Or.inl ⟨by rfl, ?_⟩) (by assumption) ?_; (rotate_left; (intro wS hSw; (try dsimp only at hSw); go_simp; (try with_reducible rfl)); rotate_left); simp only [Act.put, List.setIfInBounds_toArray, List.set_cons_zero, List.set_cons_succ]
        refine lin_take (v := ?_) (by kernel_rfl) (by kernel_rfl) (fun _ _ _ h => h) (Or.inl ⟨by rfl, ?_⟩) (by assumption) ?_; (rotate_left; (intro wS hSw; (try dsimp only at hSw); go_simp; (try with_reducible rfl)); rotate_left); simp only [Act.put, List.setIfInBounds_toArray, List.set_cons_zero, List.set_cons_succ]
        refine lin_take (v := ?_) (by kernel_rfl) (by kernel_rfl) (fun _ _ _ h => h) (Or.inl ⟨by rfl, ?_⟩) (by assumption) ?_; (rotate_left; (intro wS hSw; (try dsimp only at hSw); go_simp; (try with_reducible rfl)); rotate_left); simp only [Act.put, List.setIfInBounds_toArray, List.set_cons_zero, List.set_cons_succ]
        refine lin_take (v := ?_) (by kernel_rfl) (by kernel_rfl) (fun _ _ _ h => h) (Or.inl ⟨by rfl, ?_⟩) (by assumption) ?_; (rotate_left; (intro wS hSw; (try dsimp only at hSw); go_simp; (try with_reducible rfl)); rotate_left); simp only [Act.put, List.setIfInBounds_toArray, List.set_cons_zero, List.set_cons_succ]
        refine lin_take (v := ?_) (by kernel_rfl) (by kernel_rfl) (fun _ _ _ h => h) (Or.inl ⟨by rfl, ?_⟩) (by assumption) ?_; (rotate_left; (intro wS hSw; (try dsimp only at hSw); go_simp; (try with_reducible rfl)); rotate_left); simp only [Act.put, List.setIfInBounds_toArray, List.set_cons_zero, List.set_cons_succ]
        refine lin_take (v := ?_) (by kernel_rfl) (by kernel_rfl) (fun _ _ _ h => h) (Or.inl ⟨by rfl, ?_⟩) (by assumption) ?_; (rotate_left; (intro wS hSw; (try dsimp only at hSw); go_simp; (try with_reducible rfl)); rotate_left); simp only [Act.put, List.setIfInBounds_toArray, List.set_cons_zero, List.set_cons_succ]
        refine lin_take (v := ?_) (by kernel_rfl) (by kernel_rfl) (fun _ _ _ h => h) (Or.inl ⟨by rfl, ?_⟩) (by assumption) ?_; (rotate_left; (intro wS hSw; (try dsimp only at hSw); go_simp; (try with_reducible rfl)); rotate_left); simp only [Act.put, List.setIfInBounds_toArray, List.set_cons_zero, List.set_cons_succ]
        refine lin_sole (by kernel_rfl) (fun K hK => ?_)
        go_simp
        go_at_call 14; refine PS.out.mono ?_
        rintro e u1 ⟨rfl, hO1⟩
        refine hK.out _ _ ?_ (fun hHeld => ?_)
        · exact ⟨hO1.old p0.out, hO1.old p1.out⟩
        try simp only [Act.put, List.setIfInBounds_toArray, List.set_cons_zero, List.set_cons_succ]
        clear hK hHeld
        refine lin_done (by kernel_rfl) ?_
        have hO : Own w u1 [coreC cb gs gd ob lb q fv ft (r : Int) st wy, rowA 30 1 fv 2 (ps.map hdr), doneA ps, rowA 29 4 (.slice (some ⟨kb, 0, none⟩) 3 3) 3 (insL codeS)] := hO1
        clear hO1 PS hS0
        go_upto_region 20 with fail
        have hO' : Own w u1.drew _ := hO.drewN 1
        clear hO
        have hO := hO'
        clear hO'
        have hS0 : (fun w' : World => w'.cell? ⟨g, off + r * 2, none⟩ = some (.int .i64 k) ∧ w'.cell? ⟨g, off + r * 2 + 1, none⟩ = some (.int .i64 y)) u1.drew := ⟨hO.old p0.out, hO.old p1.out⟩
        refine lin_start (S := (fun w' : World => w'.cell? ⟨g, off + r * 2, none⟩ = some (.int .i64 k) ∧ w'.cell? ⟨g, off + r * 2 + 1, none⟩ = some (.int .i64 y))) rfl 12 rfl hS0 ?_
        simp only [numbered, Nat.zero_add, Nat.reduceAdd]
        generalize u1.drew = u2 at *
        refine lin_take (v := ?_) (by kernel_rfl) (by kernel_rfl) (fun _ _ _ h => h) (Or.inl ⟨by rfl, ?_⟩) (by assumption) ?_; (rotate_left; (intro wS hSw; (try dsimp only at hSw); go_simp; (try with_reducible rfl)); rotate_left); simp only [Act.put, List.setIfInBounds_toArray, List.set_cons_zero, List.set_cons_succ]
        refine lin_take (v := ?_) (by kernel_rfl) (by kernel_rfl) (fun _ _ _ h => h) (Or.inl ⟨by rfl, ?_⟩) (by assumption) ?_; (rotate_left; (intro wS hSw; (try dsimp only at hSw); go_simp; (try with_reducible rfl)); rotate_left); simp only [Act.put, List.setIfInBounds_toArray, List.set_cons_zero, List.set_cons_succ]
        refine lin_take (v := ?_) (by kernel_rfl) (by kernel_rfl) (fun _ _ _ h => h) (Or.inl ⟨by rfl, ?_⟩) (by assumption) ?_; (rotate_left; (intro wS hSw; (try dsimp only at hSw); go_simp; (try with_reducible rfl)); rotate_left); simp only [Act.put, List.setIfInBounds_toArray, List.set_cons_zero, List.set_cons_succ]
        refine lin_take (v := ?_) (by kernel_rfl) (by kernel_rfl) (fun _ _ _ h => h) (Or.inl ⟨by rfl, ?_⟩) (by assumption) ?_; (rotate_left; (intro wS hSw; (try dsimp only at hSw); go_simp; (try with_reducible rfl)); rotate_left); simp only [Act.put, List.setIfInBounds_toArray, List.set_cons_zero, List.set_cons_succ]
        refine lin_take (v := ?_) (by kernel_rfl) (by kernel_rfl) (fun _ _ _ h => h) (Or.inl ⟨by rfl, ?_⟩) (by assumption) ?_; (rotate_left; (intro wS hSw; (try dsimp only at hSw); go_simp; (try with_reducible rfl)); rotate_left); simp only [Act.put, List.setIfInBounds_toArray, List.set_cons_zero, List.set_cons_succ]
        refine lin_take (v := ?_) (by kernel_rfl) (by kernel_rfl) (fun _ _ _ h => h) (Or.inl ⟨by rfl, ?_⟩) (by assumption) ?_; (rotate_left; (intro wS hSw; (try dsimp only at hSw); go_simp; (try with_reducible rfl)); rotate_left); simp only [Act.put, List.setIfInBounds_toArray, List.set_cons_zero, List.set_cons_succ]
        refine lin_take (v := ?_) (by kernel_rfl) (by kernel_rfl) (fun _ _ _ h => h) (Or.inl ⟨by rfl, ?_⟩) (by assumption) ?_; (rotate_left; (intro wS hSw; (try dsimp only at hSw); go_simp; (try with_reducible rfl)); rotate_left); simp only [Act.put, List.setIfInBounds_toArray, List.set_cons_zero, List.set_cons_succ]
        refine lin_take (v := ?_) (by kernel_rfl) (by kernel_rfl) (fun _ _ _ h => h) (Or.inl ⟨by rfl, ?_⟩) (by assumption) ?_; (rotate_left; (intro wS hSw; (try dsimp only at hSw); go_simp; (try with_reducible rfl)); rotate_left); simp only [Act.put, List.setIfInBounds_toArray, List.set_cons_zero, List.set_cons_succ]
        refine lin_take (v := ?_) (by kernel_rfl) (by kernel_rfl) (fun _ _ _ h => h) (Or.inl ⟨by rfl, ?_⟩) (by assumption) ?_; (rotate_left; (intro wS hSw; (try dsimp only at hSw); go_simp; (try with_reducible rfl)); rotate_left); simp only [Act.put, List.setIfInBounds_toArray, List.set_cons_zero, List.set_cons_succ]
        refine lin_take (v := ?_) (by kernel_rfl) (by kernel_rfl) (fun _ _ _ h => h) (Or.inl ⟨by rfl, ?_⟩) (by assumption) ?_; (rotate_left; (intro wS hSw; (try dsimp only at hSw); go_simp; (try with_reducible rfl)); rotate_left); simp only [Act.put, List.setIfInBounds_toArray, List.set_cons_zero, List.set_cons_succ]
        refine lin_take (v := ?_) (by kernel_rfl) (by kernel_rfl) (fun _ _ _ h => h) (Or.inl ⟨by rfl, ?_⟩) (by assumption) ?_; (rotate_left; (intro wS hSw; (try dsimp only at hSw); go_simp; (try with_reducible rfl)); rotate_left); simp only [Act.put, List.setIfInBounds_toArray, List.set_cons_zero, List.set_cons_succ]
        refine lin_sole (by kernel_rfl) (fun K hK => ?_)
        go_simp
        go_at_call 14; refine (cstop_nil _ _ _).mono ?_
        rintro e u3 ⟨rfl, rfl⟩
        refine hK.out _ _ ?_ (fun hHeld => ?_)
        · exact ⟨hO.old p0.out, hO.old p1.out⟩
        try simp only [Act.put, List.setIfInBounds_toArray, List.set_cons_zero, List.set_cons_succ]
        clear hK hHeld
        refine lin_done (by kernel_rfl) ?_
        clear hS0
        have P5 := Lib.hid (cstatus (w := u2) (cb := cb) (st := st) (wy := wy) (fun n => ((hO.drewN n).cget 0 rfl 21).1) (fun n => ((hO.drewN n).cget 0 rfl 22).1))
        go_upto_region 22 with (go_at_call 15; refine P5.out.mono ?_; rintro e w9 ⟨rfl, nq, rfl⟩)
        have hO' := hO.drewN nq
        clear P5 hO
        have hO := hO'
        clear hO'
        generalize u2.drewN nq = u4 at *
        have c0 := hO.old p0.out
        have P6 := Lib.hid (cserial (cb := cb) (gs := gs) (gd := gd) (ob := ob) (lb := lb) (q := q) (fv := fv) (ft := ft) (se := (r : Int)) (st := st) (wy := wy) hO 0 rfl ⟨by omega, by omega⟩)
        clear hO
        go_wp2_with (go_at_call 16; refine P6.out.mono ?_; rintro e w10 ⟨rfl, hO⟩; have c0 := hO.old p0.out; replace hO := Lib.hid hO)
        go_round
        case rel => exact ⟨r + 1, st, wy, by omega, by first | rfl | trivial | go_num, by first | rfl | trivial, by first | rfl | trivial, .inr ⟨by omega, hst⟩, hO.out⟩
        case measure => simp [intOf]; omega
  obtain rfl : r = xs.length := by omega
  clear hcase HC wr0
  have hfv' := hfv.out
  subst hfv'
  clear hfv
  have hlf : LiesF wr fa fc (ps.map (·.2)) := liesF_of (n := 2) (hO.row 1 rfl) (hO.at 2 rfl) (by have := congrArg List.length hps.out; simp at this; rw [this]; rfl)
  rw [hps.out] at hlf
  have hc0 : wr.cell? ⟨cb, 0, none⟩ = some (.slice fa fsS.length fc) := (hO.cget 0 rfl 0).1
  have hcode : ∀ j v, (insL codeS)[j]? = some v → wr.cell? ⟨kb, j, none⟩ = some v := fun j v h => hO.row_get 3 rfl h
  have hbO := Lib.hid hO.below
  have hB := (Own.nil (Below.refl _ wr)).box #[.int .i64 0, .int .i64 0, .int .i64 0, .int .i64 0] 29
  simp only [List.nil_append] at hB
  clear hO
  go_upto_region 27 with fail
  have hkb : ∀ j v, (insL codeS)[j]? = some v → (wr.alloc (.cells #[.int .i64 0, .int .i64 0, .int .i64 0, .int .i64 0] 29)).cell? ⟨kb, j, none⟩ = some v := fun j v h => hB.old (hcode j v h)
  clear hcode
  obtain ⟨xb, hxb⟩ : ∃ xb, wr.heap.size = xb := ⟨_, rfl⟩
  rw [hxb] at hB ⊢
  generalize wr.alloc (.cells #[.int .i64 0, .int .i64 0, .int .i64 0, .int .i64 0] 29) = u1 at *
  have CC0 := Lib.hid (fun (w' : World) (hb : Below wr.heap.size wr w') (y0 y1 y2 y3 : Int) (hy : codeAt fsS fn pc = (y0, y1, y2, y3)) => show Calls Try.prog 17 #[.pointer (some ⟨cb, 0, none⟩), .int .i64 fn, .int .i64 pc] w' fun e w2 => e = .returned (.agg #[.int .i64 y0, .int .i64 y1, .int .i64 y2, .int .i64 y3]) ∧ Below w'.heap.size w' w2 from ccode (w := w') (cb := cb) (fs := fsS) (oa := fa) (oc := fc) ((cell_old hb _ (by rw [hc0]; rfl)).trans hc0) (hlf.below hb) fn pc (y0, y1, y2, y3) hy)
  clear hc0 hlf hps hxb
  by_cases hf : fn = 1 ∧ 0 ≤ pc ∧ pc < 3
  · obtain ⟨rfl, hp1, hp2⟩ := hf
    rcases (show pc = 0 ∨ pc = 1 ∨ pc = 2 by omega) with rfl | rfl | rfl
    · have hyy : codeAt fsS 1 0 = (21, 0, 0, 0) := rfl
      have r0 := hkb 0 _ rfl
      have r1 := hkb 1 _ rfl
      have r2 := hkb 2 _ rfl
      have r3 := hkb 3 _ rfl
      obtain ⟨⟨o0, f0⟩, ⟨o1, f1⟩, ⟨o2, f2⟩, o3, f3⟩ := cells4f 0 hB rfl
      go_upto_region 29 with fail
      have hB := (((hB.cset 0 rfl 0 (.int .i64 21)).cset 0 rfl 1 (.int .i64 0)).cset 0 rfl 2 (.int .i64 0)).cset 0 rfl 3 (.int .i64 0)
      generalize (((u1.setCell ⟨xb, 0, none⟩ (.int .i64 21)).setCell ⟨xb, 1, none⟩ (.int .i64 0)).setCell ⟨xb, 2, none⟩ (.int .i64 0)).setCell ⟨xb, 3, none⟩ (.int .i64 0) = u at *
      clear o0 o1 o2 o3 f0 f1 f2 f3 r0 r1 r2 r3
      have K30 := Lib.hid (fun (w' : World) (hb : Below u.heap.size u w') => show (fun w' : World => w'.cell? ⟨xb, 0, none⟩ = some (.int .i64 21) ∧ w'.cell? ⟨xb, 1, none⟩ = some (.int .i64 0) ∧ w'.cell? ⟨xb, 2, none⟩ = some (.int .i64 0) ∧ w'.cell? ⟨xb, 3, none⟩ = some (.int .i64 0)) w' from ⟨((hB.grow hb).cget 0 rfl 0).1, ((hB.grow hb).cget 0 rfl 1).1, ((hB.grow hb).cget 0 rfl 2).1, ((hB.grow hb).cget 0 rfl 3).1⟩)
      have hbR := Lib.hid hB.below
      clear hB hkb
      have NS := Lib.hid (cstatus_nil u)
      go_upto_region 30 with (go_at_call 15; refine NS.out.mono ?_; rintro e x9 ⟨rfl, rfl⟩)
      refine reg30 _ _ _ _ _ _ _ _ _ _ _ _ _ _ _ _ _ _ _ _ _ _ _ _ _ _ _ _ _ _ _ _ _ _ _ _ _ _ _ _ _ _ _ _ _ _ _ _ _ _ _ _ _ _ _ _ _ _ _ _ _ _ _ _ _ _ _ _ _ _ _ _ _ _ _ _ _ _ _ _ _ _ _ _ _ _ _ _ _ _ _ _ _ _ _ _ _ _ _ _ _ _ _ _ _ _ _ _ _ _ _ _ _ _ _ _ _ _ _ _ _ _ _ _ _ _ _ _ _ _ _ _ _ _ _ _ _ _ _ _ _ _ _ _ _ _ _ _ _ _ _ _ _ _ _ _ _ _ _ _ _ _ _ _ _ _ _ _ _ _ _ _ _ _ _ _ _ _ _ _ _ _ _ _ _ _ _ _ _ _ _ _ _ _ _ _ (by intro ch aa ab ww hd hh; obtain ⟨ta, da⟩ := aa; obtain ⟨tb2, db⟩ := ab; cases hd; exact hh) (Lib.hid (fun w' hb => CC0.out w' (below_chain hbR.out hb) 21 0 0 0 hyy)) K30 ?_
      intro x0 x1 x2 x3 x4 x5 x6 x7 x8 x9 x10 x11 x12 x13 x14 x15 x16 x17 x18 x19 x20 x21 x22 x23 x24 x25 x26 x27 x28 x29 x30 x31 x32 x33 x34 x35 x36 x37 x38 x39 x40 x41 x42 x43 x44 x45 x46 x47 x48 x49 x50 x51 x52 x53 x54 x55 x56 x57 x58 wE hbE
      clear K30 CC0 NS
      go_wp2_with fail
      go_ret
      exact ⟨rfl, below_chain hbO.out (below_chain hbR.out hbE)⟩
    · have hyy : codeAt fsS 1 1 = (1, 3, 4, 0) := rfl
      have r0 := hkb 4 _ rfl
      have r1 := hkb 5 _ rfl
      have r2 := hkb 6 _ rfl
      have r3 := hkb 7 _ rfl
      obtain ⟨⟨o0, f0⟩, ⟨o1, f1⟩, ⟨o2, f2⟩, o3, f3⟩ := cells4f 0 hB rfl
      go_upto_region 29 with fail
      have hB := (((hB.cset 0 rfl 0 (.int .i64 1)).cset 0 rfl 1 (.int .i64 3)).cset 0 rfl 2 (.int .i64 4)).cset 0 rfl 3 (.int .i64 0)
      generalize (((u1.setCell ⟨xb, 0, none⟩ (.int .i64 1)).setCell ⟨xb, 1, none⟩ (.int .i64 3)).setCell ⟨xb, 2, none⟩ (.int .i64 4)).setCell ⟨xb, 3, none⟩ (.int .i64 0) = u at *
      clear o0 o1 o2 o3 f0 f1 f2 f3 r0 r1 r2 r3
      have K30 := Lib.hid (fun (w' : World) (hb : Below u.heap.size u w') => show (fun w' : World => w'.cell? ⟨xb, 0, none⟩ = some (.int .i64 1) ∧ w'.cell? ⟨xb, 1, none⟩ = some (.int .i64 3) ∧ w'.cell? ⟨xb, 2, none⟩ = some (.int .i64 4) ∧ w'.cell? ⟨xb, 3, none⟩ = some (.int .i64 0)) w' from ⟨((hB.grow hb).cget 0 rfl 0).1, ((hB.grow hb).cget 0 rfl 1).1, ((hB.grow hb).cget 0 rfl 2).1, ((hB.grow hb).cget 0 rfl 3).1⟩)
      have hbR := Lib.hid hB.below
      clear hB hkb
      have NS := Lib.hid (cstatus_nil u)
      go_upto_region 30 with (go_at_call 15; refine NS.out.mono ?_; rintro e x9 ⟨rfl, rfl⟩)
      refine reg30 _ _ _ _ _ _ _ _ _ _ _ _ _ _ _ _ _ _ _ _ _ _ _ _ _ _ _ _ _ _ _ _ _ _ _ _ _ _ _ _ _ _ _ _ _ _ _ _ _ _ _ _ _ _ _ _ _ _ _ _ _ _ _ _ _ _ _ _ _ _ _ _ _ _ _ _ _ _ _ _ _ _ _ _ _ _ _ _ _ _ _ _ _ _ _ _ _ _ _ _ _ _ _ _ _ _ _ _ _ _ _ _ _ _ _ _ _ _ _ _ _ _ _ _ _ _ _ _ _ _ _ _ _ _ _ _ _ _ _ _ _ _ _ _ _ _ _ _ _ _ _ _ _ _ _ _ _ _ _ _ _ _ _ _ _ _ _ _ _ _ _ _ _ _ _ _ _ _ _ _ _ _ _ _ _ _ _ _ _ _ _ _ _ _ _ _ (by intro ch aa ab ww hd hh; obtain ⟨ta, da⟩ := aa; obtain ⟨tb2, db⟩ := ab; cases hd; exact hh) (Lib.hid (fun w' hb => CC0.out w' (below_chain hbR.out hb) 1 3 4 0 hyy)) K30 ?_
      intro x0 x1 x2 x3 x4 x5 x6 x7 x8 x9 x10 x11 x12 x13 x14 x15 x16 x17 x18 x19 x20 x21 x22 x23 x24 x25 x26 x27 x28 x29 x30 x31 x32 x33 x34 x35 x36 x37 x38 x39 x40 x41 x42 x43 x44 x45 x46 x47 x48 x49 x50 x51 x52 x53 x54 x55 x56 x57 x58 wE hbE
      clear K30 CC0 NS
      go_wp2_with fail
      go_ret
      exact ⟨rfl, below_chain hbO.out (below_chain hbR.out hbE)⟩
    · have hyy : codeAt fsS 1 2 = (0, 0, 0, 0) := rfl
      have r0 := hkb 8 _ rfl
      have r1 := hkb 9 _ rfl
      have r2 := hkb 10 _ rfl
      have r3 := hkb 11 _ rfl
      obtain ⟨⟨o0, f0⟩, ⟨o1, f1⟩, ⟨o2, f2⟩, o3, f3⟩ := cells4f 0 hB rfl
      go_upto_region 29 with fail
      have hB := (((hB.cset 0 rfl 0 (.int .i64 0)).cset 0 rfl 1 (.int .i64 0)).cset 0 rfl 2 (.int .i64 0)).cset 0 rfl 3 (.int .i64 0)
      generalize (((u1.setCell ⟨xb, 0, none⟩ (.int .i64 0)).setCell ⟨xb, 1, none⟩ (.int .i64 0)).setCell ⟨xb, 2, none⟩ (.int .i64 0)).setCell ⟨xb, 3, none⟩ (.int .i64 0) = u at *
      clear o0 o1 o2 o3 f0 f1 f2 f3 r0 r1 r2 r3
      have K30 := Lib.hid (fun (w' : World) (hb : Below u.heap.size u w') => show (fun w' : World => w'.cell? ⟨xb, 0, none⟩ = some (.int .i64 0) ∧ w'.cell? ⟨xb, 1, none⟩ = some (.int .i64 0) ∧ w'.cell? ⟨xb, 2, none⟩ = some (.int .i64 0) ∧ w'.cell? ⟨xb, 3, none⟩ = some (.int .i64 0)) w' from ⟨((hB.grow hb).cget 0 rfl 0).1, ((hB.grow hb).cget 0 rfl 1).1, ((hB.grow hb).cget 0 rfl 2).1, ((hB.grow hb).cget 0 rfl 3).1⟩)
      have hbR := Lib.hid hB.below
      clear hB hkb
      have NS := Lib.hid (cstatus_nil u)
      go_upto_region 30 with (go_at_call 15; refine NS.out.mono ?_; rintro e x9 ⟨rfl, rfl⟩)
      refine reg30 _ _ _ _ _ _ _ _ _ _ _ _ _ _ _ _ _ _ _ _ _ _ _ _ _ _ _ _ _ _ _ _ _ _ _ _ _ _ _ _ _ _ _ _ _ _ _ _ _ _ _ _ _ _ _ _ _ _ _ _ _ _ _ _ _ _ _ _ _ _ _ _ _ _ _ _ _ _ _ _ _ _ _ _ _ _ _ _ _ _ _ _ _ _ _ _ _ _ _ _ _ _ _ _ _ _ _ _ _ _ _ _ _ _ _ _ _ _ _ _ _ _ _ _ _ _ _ _ _ _ _ _ _ _ _ _ _ _ _ _ _ _ _ _ _ _ _ _ _ _ _ _ _ _ _ _ _ _ _ _ _ _ _ _ _ _ _ _ _ _ _ _ _ _ _ _ _ _ _ _ _ _ _ _ _ _ _ _ _ _ _ _ _ _ _ _ (by intro ch aa ab ww hd hh; obtain ⟨ta, da⟩ := aa; obtain ⟨tb2, db⟩ := ab; cases hd; exact hh) (Lib.hid (fun w' hb => CC0.out w' (below_chain hbR.out hb) 0 0 0 0 hyy)) K30 ?_
      intro x0 x1 x2 x3 x4 x5 x6 x7 x8 x9 x10 x11 x12 x13 x14 x15 x16 x17 x18 x19 x20 x21 x22 x23 x24 x25 x26 x27 x28 x29 x30 x31 x32 x33 x34 x35 x36 x37 x38 x39 x40 x41 x42 x43 x44 x45 x46 x47 x48 x49 x50 x51 x52 x53 x54 x55 x56 x57 x58 wE hbE
      clear K30 CC0 NS
      go_wp2_with fail
      go_ret
      exact ⟨rfl, below_chain hbO.out (below_chain hbR.out hbE)⟩
  · have hy := codeAt_else hf
    by_cases h1 : fn = 1
    · by_cases h2 : 0 ≤ pc
      · have h3 : ¬ pc < 3 := fun h => hf ⟨h1, h2, h⟩
        clear hf
        subst h1
        have hyy := hy
        clear hy
        go_upto_region 29 with fail
        generalize u1 = u at *
        have K30 := Lib.hid (fun (w' : World) (hb : Below u.heap.size u w') => show (fun w' : World => w'.cell? ⟨xb, 0, none⟩ = some (.int .i64 0) ∧ w'.cell? ⟨xb, 1, none⟩ = some (.int .i64 0) ∧ w'.cell? ⟨xb, 2, none⟩ = some (.int .i64 0) ∧ w'.cell? ⟨xb, 3, none⟩ = some (.int .i64 0)) w' from ⟨((hB.grow hb).cget 0 rfl 0).1, ((hB.grow hb).cget 0 rfl 1).1, ((hB.grow hb).cget 0 rfl 2).1, ((hB.grow hb).cget 0 rfl 3).1⟩)
        have hbR := Lib.hid hB.below
        clear hB hkb
        have NS := Lib.hid (cstatus_nil u)
        go_upto_region 30 with (go_at_call 15; refine NS.out.mono ?_; rintro e x9 ⟨rfl, rfl⟩)
        refine reg30 _ _ _ _ _ _ _ _ _ _ _ _ _ _ _ _ _ _ _ _ _ _ _ _ _ _ _ _ _ _ _ _ _ _ _ _ _ _ _ _ _ _ _ _ _ _ _ _ _ _ _ _ _ _ _ _ _ _ _ _ _ _ _ _ _ _ _ _ _ _ _ _ _ _ _ _ _ _ _ _ _ _ _ _ _ _ _ _ _ _ _ _ _ _ _ _ _ _ _ _ _ _ _ _ _ _ _ _ _ _ _ _ _ _ _ _ _ _ _ _ _ _ _ _ _ _ _ _ _ _ _ _ _ _ _ _ _ _ _ _ _ _ _ _ _ _ _ _ _ _ _ _ _ _ _ _ _ _ _ _ _ _ _ _ _ _ _ _ _ _ _ _ _ _ _ _ _ _ _ _ _ _ _ _ _ _ _ _ _ _ _ _ _ _ _ _ (by intro ch aa ab ww hd hh; obtain ⟨ta, da⟩ := aa; obtain ⟨tb2, db⟩ := ab; cases hd; exact hh) (Lib.hid (fun w' hb => CC0.out w' (below_chain hbR.out hb) 0 0 0 0 hyy)) K30 ?_
        intro x0 x1 x2 x3 x4 x5 x6 x7 x8 x9 x10 x11 x12 x13 x14 x15 x16 x17 x18 x19 x20 x21 x22 x23 x24 x25 x26 x27 x28 x29 x30 x31 x32 x33 x34 x35 x36 x37 x38 x39 x40 x41 x42 x43 x44 x45 x46 x47 x48 x49 x50 x51 x52 x53 x54 x55 x56 x57 x58 wE hbE
        clear K30 CC0 NS
        go_wp2_with fail
        go_ret
        exact ⟨rfl, below_chain hbO.out (below_chain hbR.out hbE)⟩
      · clear hf
        subst h1
        have hyy := hy
        clear hy
        go_upto_region 29 with fail
        generalize u1 = u at *
        have K30 := Lib.hid (fun (w' : World) (hb : Below u.heap.size u w') => show (fun w' : World => w'.cell? ⟨xb, 0, none⟩ = some (.int .i64 0) ∧ w'.cell? ⟨xb, 1, none⟩ = some (.int .i64 0) ∧ w'.cell? ⟨xb, 2, none⟩ = some (.int .i64 0) ∧ w'.cell? ⟨xb, 3, none⟩ = some (.int .i64 0)) w' from ⟨((hB.grow hb).cget 0 rfl 0).1, ((hB.grow hb).cget 0 rfl 1).1, ((hB.grow hb).cget 0 rfl 2).1, ((hB.grow hb).cget 0 rfl 3).1⟩)
        have hbR := Lib.hid hB.below
        clear hB hkb
        have NS := Lib.hid (cstatus_nil u)
        go_upto_region 30 with (go_at_call 15; refine NS.out.mono ?_; rintro e x9 ⟨rfl, rfl⟩)
        refine reg30 _ _ _ _ _ _ _ _ _ _ _ _ _ _ _ _ _ _ _ _ _ _ _ _ _ _ _ _ _ _ _ _ _ _ _ _ _ _ _ _ _ _ _ _ _ _ _ _ _ _ _ _ _ _ _ _ _ _ _ _ _ _ _ _ _ _ _ _ _ _ _ _ _ _ _ _ _ _ _ _ _ _ _ _ _ _ _ _ _ _ _ _ _ _ _ _ _ _ _ _ _ _ _ _ _ _ _ _ _ _ _ _ _ _ _ _ _ _ _ _ _ _ _ _ _ _ _ _ _ _ _ _ _ _ _ _ _ _ _ _ _ _ _ _ _ _ _ _ _ _ _ _ _ _ _ _ _ _ _ _ _ _ _ _ _ _ _ _ _ _ _ _ _ _ _ _ _ _ _ _ _ _ _ _ _ _ _ _ _ _ _ _ _ _ _ _ (by intro ch aa ab ww hd hh; obtain ⟨ta, da⟩ := aa; obtain ⟨tb2, db⟩ := ab; cases hd; exact hh) (Lib.hid (fun w' hb => CC0.out w' (below_chain hbR.out hb) 0 0 0 0 hyy)) K30 ?_
        intro x0 x1 x2 x3 x4 x5 x6 x7 x8 x9 x10 x11 x12 x13 x14 x15 x16 x17 x18 x19 x20 x21 x22 x23 x24 x25 x26 x27 x28 x29 x30 x31 x32 x33 x34 x35 x36 x37 x38 x39 x40 x41 x42 x43 x44 x45 x46 x47 x48 x49 x50 x51 x52 x53 x54 x55 x56 x57 x58 wE hbE
        clear K30 CC0 NS
        go_wp2_with fail
        go_ret
        exact ⟨rfl, below_chain hbO.out (below_chain hbR.out hbE)⟩
    · clear hf
      have hyy := hy
      clear hy
      go_upto_region 29 with fail
      generalize u1 = u at *
      have K30 := Lib.hid (fun (w' : World) (hb : Below u.heap.size u w') => show (fun w' : World => w'.cell? ⟨xb, 0, none⟩ = some (.int .i64 0) ∧ w'.cell? ⟨xb, 1, none⟩ = some (.int .i64 0) ∧ w'.cell? ⟨xb, 2, none⟩ = some (.int .i64 0) ∧ w'.cell? ⟨xb, 3, none⟩ = some (.int .i64 0)) w' from ⟨((hB.grow hb).cget 0 rfl 0).1, ((hB.grow hb).cget 0 rfl 1).1, ((hB.grow hb).cget 0 rfl 2).1, ((hB.grow hb).cget 0 rfl 3).1⟩)
      have hbR := Lib.hid hB.below
      clear hB hkb
      have NS := Lib.hid (cstatus_nil u)
      go_upto_region 30 with (go_at_call 15; refine NS.out.mono ?_; rintro e x9 ⟨rfl, rfl⟩)
      refine reg30 _ _ _ _ _ _ _ _ _ _ _ _ _ _ _ _ _ _ _ _ _ _ _ _ _ _ _ _ _ _ _ _ _ _ _ _ _ _ _ _ _ _ _ _ _ _ _ _ _ _ _ _ _ _ _ _ _ _ _ _ _ _ _ _ _ _ _ _ _ _ _ _ _ _ _ _ _ _ _ _ _ _ _ _ _ _ _ _ _ _ _ _ _ _ _ _ _ _ _ _ _ _ _ _ _ _ _ _ _ _ _ _ _ _ _ _ _ _ _ _ _ _ _ _ _ _ _ _ _ _ _ _ _ _ _ _ _ _ _ _ _ _ _ _ _ _ _ _ _ _ _ _ _ _ _ _ _ _ _ _ _ _ _ _ _ _ _ _ _ _ _ _ _ _ _ _ _ _ _ _ _ _ _ _ _ _ _ _ _ _ _ _ _ _ _ _ (by intro ch aa ab ww hd hh; obtain ⟨ta, da⟩ := aa; obtain ⟨tb2, db⟩ := ab; cases hd; exact hh) (Lib.hid (fun w' hb => CC0.out w' (below_chain hbR.out hb) 0 0 0 0 hyy)) K30 ?_
      intro x0 x1 x2 x3 x4 x5 x6 x7 x8 x9 x10 x11 x12 x13 x14 x15 x16 x17 x18 x19 x20 x21 x22 x23 x24 x25 x26 x27 x28 x29 x30 x31 x32 x33 x34 x35 x36 x37 x38 x39 x40 x41 x42 x43 x44 x45 x46 x47 x48 x49 x50 x51 x52 x53 x54 x55 x56 x57 x58 wE hbE
      clear K30 CC0 NS
      go_wp2_with fail
      go_ret
      exact ⟨rfl, below_chain hbO.out (below_chain hbR.out hbE)⟩
end Go.Proofs.Ytcegncbnanbenaa
