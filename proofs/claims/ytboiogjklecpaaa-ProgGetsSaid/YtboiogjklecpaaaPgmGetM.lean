/- prog.Get, whole. -/
import Derived.Test.YtboiogjklecpaaaPgmGet1
import Derived.Test.YtboiogjklecpaaaPgmGetE
set_option linter.unusedVariables false
set_option linter.unusedSimpArgs false
namespace Go.Proofs.Ytboiogjklecpaaa
open Go.RowKit
set_option maxRecDepth 100000
set_option maxHeartbeats 8000000
theorem PJ1.le {s : List UInt8} {w : World} {n : Nat} {mem : Int} {t : Nat} {a' : Act} {w' : World} (h : PJ1 s w n mem t a' w') : t ≤ s.length := by
  obtain ⟨_, _, _, _, _, _, _, h, _⟩ := h
  exact h
theorem PJ2.le {s : List UInt8} {w : World} {n : Nat} {mem : Int} {t : Nat} {a' : Act} {w' : World} (h : PJ2 s w n mem t a' w') : t ≤ s.length := by
  obtain ⟨_, _, _, _, _, _, _, _, _, _, _, h, _⟩ := h
  exact h
/-- The jumps among the labels. -/
theorem pg_scope (s : List UInt8) (w : World) (n : Nat) (mem : Int) (hd : HeadOk s n mem) (hs : s.length ≤ 20000) (hn : n ≤ 16) (act : Act) (w1 : World)
    (first : (codeOf Try.f32).wp Try.prog (jumpsTo (fun l a' w' => (l = 0 ∧ PJ0 s w n mem a' w') ∨ (l = 1 ∧ ∃ t, PJ1 s w n mem t a' w') ∨ (l = 2 ∧ ∃ t, PJ2 s w n mem t a' w')) (bodyPost Try.prog Try.f32 (PRet s w))) act w1) :
    (Code.scope (codeOf Try.f32)).wp Try.prog (bodyPost Try.prog Try.f32 (PRet s w)) act w1 := by
  refine wp_scope_labels (fun l m a' w' => (l = 0 ∧ PJ0 s w n mem a' w') ∨ (l = 1 ∧ ∃ t, m = 2 * (s.length - t) + 1 ∧ PJ1 s w n mem t a' w') ∨ (l = 2 ∧ ∃ t, m = 2 * (s.length - t) + 2 ∧ PJ2 s w n mem t a' w')) ?_ ?_
  · refine Code.wp_mono ?_ first
    intro e a' w' h
    cases e with
    | goto l =>
      rcases h with ⟨h0, h⟩ | ⟨h0, t, h⟩ | ⟨h0, t, h⟩
      · exact ⟨0, .inl ⟨h0, h⟩⟩
      · exact ⟨_, .inr (.inl ⟨h0, t, rfl, h⟩)⟩
      · exact ⟨_, .inr (.inr ⟨h0, t, rfl, h⟩)⟩
    | _ => exact h
  · intro l m a' w' h
    rcases h with ⟨rfl, h⟩ | ⟨rfl, t, rfl, h⟩ | ⟨rfl, t, rfl, h⟩
    · exact ⟨_, rfl, wp_skip_seq (pg_end s w n mem hd hs hn a' w' _ (fun c a d v w h => by cases d <;> exact h) (fun a' w' h => h) h)⟩
    · exact ⟨_, rfl, wp_skip_seq (pg_one s w n mem hd hs hn t a' w' _ (fun c a d v w h => by cases d <;> exact h) (fun a' w' h => ⟨0, by omega, .inl ⟨rfl, h⟩⟩)
        (fun t' a' w' ht h => ⟨_, by have := h.le; omega, .inr (.inl ⟨rfl, t', rfl, h⟩)⟩) (fun t' a' w' ht h => ⟨_, by have := h.le; omega, .inr (.inr ⟨rfl, t', rfl, h⟩)⟩) (fun a' w' h => h) h)⟩
    · exact ⟨_, rfl, wp_skip_seq (pg_two s w n mem hd hs hn t a' w' _ (fun c a d v w h => by cases d <;> exact h)
        (fun a' w' h => ⟨_, by omega, .inr (.inl ⟨rfl, t, rfl, h⟩)⟩) (fun t' a' w' ht h => ⟨_, by have := h.le; omega, .inr (.inr ⟨rfl, t', rfl, h⟩)⟩) (fun a' w' h => h) h)⟩
theorem pg_first (s : List UInt8) (w : World) (n : Nat) (mem : Int) (hd : HeadOk s n mem) (hs : s.length ≤ 20000) (hn : n ≤ 16) (t : Nat) (act : Act) (w1 : World) (hJ : PJ1 s w n mem t act w1) :
    (behind (codeOf Try.f32) 1).wp Try.prog (jumpsTo (fun l a' w' => (l = 0 ∧ PJ0 s w n mem a' w') ∨ (l = 1 ∧ ∃ t, PJ1 s w n mem t a' w') ∨ (l = 2 ∧ ∃ t, PJ2 s w n mem t a' w')) (bodyPost Try.prog Try.f32 (PRet s w))) act w1 :=
  pg_one s w n mem hd hs hn t act w1 _ (fun c a d v w h => by cases d <;> exact h) (fun a' w' h => Or.inl ⟨rfl, h⟩) (fun t a' w' ht h => Or.inr (Or.inl ⟨rfl, t, h⟩)) (fun t a' w' ht h => Or.inr (Or.inr ⟨rfl, t, h⟩)) (fun a' w' h => h) hJ
theorem pget_any (s : List UInt8) (w : World) (hs : s.length ≤ 20000) : Calls Try.prog 32 #[.string ⟨s.toArray⟩] w (PRet s w) := by
  have hO := (((Own.nil (Below.refl _ w)).box #[.int .i64 0, .slice none 0 0] 42).box #[.int .i64 0, .slice none 0 0] 42).box #[.int .i64 0, .slice none 0 0] 42
  simp only [List.cons_append, List.nil_append, World.size_alloc, Nat.add_assoc, Nat.reduceAdd] at hO
  replace hO := hO.sel [1, 2, 0] (by decide)
  simp only [List.filterMap, List.getElem?_cons_succ, List.getElem?_cons_zero] at hO
  by_cases h6 : s.length < 6
  · have hG : getP s = .error 1 := by unfold getP; rw [if_pos h6]
    replace hG := Lib.hid hG
    have h6i : (s.length : Int) < 6 := by omega
    go_enter Try.func32, Try.ntmps32
    go_wp2_with fail
    go_step3
    go_upto_region 2 with fail
    generalize ((w.alloc (.cells #[.int .i64 0, .slice none 0 0] 42)).alloc (.cells #[.int .i64 0, .slice none 0 0] 42)).alloc (.cells #[.int .i64 0, .slice none 0 0] 42) = w1 at *
    generalize w.heap.size + 2 = nb at *
    generalize w.heap.size + 1 = pb at *
    generalize w.heap.size = rb at *
    obtain ⟨n0, n1⟩ := And.intro (cells2f 1 hO rfl).1.1 (cells2f 1 hO rfl).2.1
    obtain ⟨⟨r0, r0f⟩, ⟨r1, r1f⟩⟩ := cells2f 2 hO rfl
    go_wp2
    rw [Exit.noGoto_ret]
    have hZ := ((hO.cset 2 rfl 0 (.int .i64 0)).cset 2 rfl 1 (.slice none 0 0)).sel [2] (by decide)
    generalize (w1.setCell ⟨rb, 0, none⟩ (.int .i64 0)).setCell ⟨rb, 1, none⟩ (.slice none 0 0) = wz at *
    have hZ2 : Own w wz [cellsA rb #[.int .i64 0, .slice none 0 0] 42] := hZ
    obtain ⟨p0, p1⟩ := And.intro (cells2f 0 hZ2 rfl).1.1 (cells2f 0 hZ2 rfl).2.1
    exact  (bodyPost_ret (v := .tuple #[.agg #[.int .i64 0, .slice none 0 0], .int .i64 1]) (by simp [results, Try.results32, go_sem, p0, p1]) rfl (pret_err hG.out hZ2.below))
  have h6i : ¬ (s.length : Int) < 6 := by omega
  obtain ⟨x0, x1, x2, x3, x4, x5, q, hq⟩ : ∃ x0 x1 x2 x3 x4 x5 q, s = x0 :: x1 :: x2 :: x3 :: x4 :: x5 :: q := by
    match s, h6 with
    | a :: b :: c :: d :: e :: f :: q, _ => exact ⟨a, b, c, d, e, f, q, rfl⟩
    | [], h => simp at h
    | [_], h => simp at h
    | [_, _], h => simp at h
    | [_, _, _], h => simp at h
    | [_, _, _, _], h => simp at h
    | [_, _, _, _, _], h => simp at h
  have hx2 : (⟨s.toArray⟩ : ByteArray).extract 0 2 = ⟨([x0, x1] : List UInt8).toArray⟩ := by
    rw [cut_to, hq]
    rfl
  have hi2 : ∀ h : 2 < (⟨s.toArray⟩ : ByteArray).size, (⟨s.toArray⟩ : ByteArray)[2]'h = x2 := by
    subst hq
    intro h
    rfl
  have hx3 : (⟨s.toArray⟩ : ByteArray).extract 3 s.length = ⟨(s.drop 3).toArray⟩ := cut_at
  have hsz : 2 < (⟨s.toArray⟩ : ByteArray).size := by show 2 < s.toArray.size; simp; omega
  by_cases h3 : s.take 3 = [72, 82, 1]
  rotate_left
  · have hG : getP s = .error 4 := by unfold getP; rw [if_neg h6, if_pos h3]
    replace hG := Lib.hid hG
    by_cases h72 : ([x0, x1] == [72, 82]) = true
    · have h1 : ¬ x2 = 1 := fun h => h3 (by
        rw [hq]
        simp at h72 ⊢
        exact ⟨h72.1, h72.2, h⟩)
      have h1i : ((x2.toNat : Int) == 1) = false := by
        rw [beq_eq_false_iff_ne]
        intro h
        exact h1 (UInt8.toNat_inj.1 (by simpa using (show x2.toNat = 1 by omega)))
      clear h3 h1
      replace hq := Lib.hid hq
      go_enter Try.func32, Try.ntmps32
      go_wp2_with fail
      go_step3
      go_upto_region 2 with fail
      generalize ((w.alloc (.cells #[.int .i64 0, .slice none 0 0] 42)).alloc (.cells #[.int .i64 0, .slice none 0 0] 42)).alloc (.cells #[.int .i64 0, .slice none 0 0] 42) = w1 at *
      generalize w.heap.size + 2 = nb at *
      generalize w.heap.size + 1 = pb at *
      generalize w.heap.size = rb at *
      obtain ⟨n0, n1⟩ := And.intro (cells2f 1 hO rfl).1.1 (cells2f 1 hO rfl).2.1
      obtain ⟨⟨r0, r0f⟩, ⟨r1, r1f⟩⟩ := cells2f 2 hO rfl
      go_wp2
      rw [Exit.noGoto_ret]
      have hZ := ((hO.cset 2 rfl 0 (.int .i64 0)).cset 2 rfl 1 (.slice none 0 0)).sel [2] (by decide)
      generalize (w1.setCell ⟨rb, 0, none⟩ (.int .i64 0)).setCell ⟨rb, 1, none⟩ (.slice none 0 0) = wz at *
      have hZ2 : Own w wz [cellsA rb #[.int .i64 0, .slice none 0 0] 42] := hZ
      obtain ⟨p0, p1⟩ := And.intro (cells2f 0 hZ2 rfl).1.1 (cells2f 0 hZ2 rfl).2.1
      exact  (bodyPost_ret (v := .tuple #[.agg #[.int .i64 0, .slice none 0 0], .int .i64 4]) (by simp [results, Try.results32, go_sem, p0, p1]) rfl (pret_err hG.out hZ2.below))
    · have h72' : ([x0, x1] == [72, 82]) = false := by simpa using h72
      clear h3 h72
      replace hq := Lib.hid hq
      go_enter Try.func32, Try.ntmps32
      go_wp2_with fail
      go_step3
      go_upto_region 2 with fail
      generalize ((w.alloc (.cells #[.int .i64 0, .slice none 0 0] 42)).alloc (.cells #[.int .i64 0, .slice none 0 0] 42)).alloc (.cells #[.int .i64 0, .slice none 0 0] 42) = w1 at *
      generalize w.heap.size + 2 = nb at *
      generalize w.heap.size + 1 = pb at *
      generalize w.heap.size = rb at *
      obtain ⟨n0, n1⟩ := And.intro (cells2f 1 hO rfl).1.1 (cells2f 1 hO rfl).2.1
      obtain ⟨⟨r0, r0f⟩, ⟨r1, r1f⟩⟩ := cells2f 2 hO rfl
      go_wp2
      rw [Exit.noGoto_ret]
      have hZ := ((hO.cset 2 rfl 0 (.int .i64 0)).cset 2 rfl 1 (.slice none 0 0)).sel [2] (by decide)
      generalize (w1.setCell ⟨rb, 0, none⟩ (.int .i64 0)).setCell ⟨rb, 1, none⟩ (.slice none 0 0) = wz at *
      have hZ2 : Own w wz [cellsA rb #[.int .i64 0, .slice none 0 0] 42] := hZ
      obtain ⟨p0, p1⟩ := And.intro (cells2f 0 hZ2 rfl).1.1 (cells2f 0 hZ2 rfl).2.1
      exact  (bodyPost_ret (v := .tuple #[.agg #[.int .i64 0, .slice none 0 0], .int .i64 4]) (by simp [results, Try.results32, go_sem, p0, p1]) rfl (pret_err hG.out hZ2.below))
  · have h72 : ([x0, x1] == [72, 82]) = true := by
      rw [hq] at h3
      simp at h3 ⊢
      exact ⟨h3.1, h3.2.1⟩
    have h1i : ((x2.toNat : Int) == 1) = true := by
      rw [hq] at h3
      simp at h3
      rw [h3.2.2]
      rfl
    have hd1 : 1 ≤ (s.drop 3).length := by rw [List.length_drop]; omega
    have hd2 : (s.drop 3).length ≤ 100000 := by rw [List.length_drop]; omega
    have hd3 : 2 ≤ (s.drop 4).length := by rw [List.length_drop]; omega
    have hd4 : (s.drop 4).length ≤ 100000 := by rw [List.length_drop]; omega
    obtain ⟨N, hN⟩ : ∃ N : Nat, ofB ((s.drop 3).take 1) = N := ⟨(ofB ((s.drop 3).take 1)).toNat, by have := (ofB_bd ((s.drop 3).take 1)).1; omega⟩
    obtain ⟨mem, hM⟩ : ∃ mem, ofB ((s.drop 4).take 2) = mem := ⟨_, rfl⟩
    obtain ⟨E, hE⟩ : ∃ E, sizesP mem N = E := ⟨_, rfl⟩
    have SZ := fun w => sizes_any mem N w
    rw [hE] at SZ
    replace SZ := Lib.hid SZ
    have hG0 : getP s = if E ≠ 0 then .error E else endP mem (getFs N (s.drop 6) []) := by
      unfold getP
      rw [if_neg h6, if_neg (by simpa using h3), hM, hN, hE, Int.toNat_natCast]
    replace hq := Lib.hid hq
    replace hG0 := Lib.hid hG0
    replace hN := Lib.hid hN
    replace hM := Lib.hid hM
    clear h3
    by_cases hE0 : E = 0
    · subst hE0
      obtain ⟨hm0, hm1, hn0, hn1⟩ := sizes_ok hE
      have hG := hG0.out
      rw [if_neg (by simp)] at hG
      have hd : HeadOk s N mem := ⟨by omega, hG⟩
      replace hd := Lib.hid hd
      clear hE hG hG0
      go_enter Try.func32, Try.ntmps32
      go_wp2_with fail
      refine pg_scope s w N mem hd.out hs (by omega) _ _ ?_
      dsimp only [codeOf, Try.f32]
      go_upto_region 2 with fail
      generalize ((w.alloc (.cells #[.int .i64 0, .slice none 0 0] 42)).alloc (.cells #[.int .i64 0, .slice none 0 0] 42)).alloc (.cells #[.int .i64 0, .slice none 0 0] 42) = w1 at *
      generalize w.heap.size + 2 = nb at *
      generalize w.heap.size + 1 = pb at *
      generalize w.heap.size = rb at *
      obtain ⟨n0, n1⟩ := And.intro (cells2f 1 hO rfl).1.1 (cells2f 1 hO rfl).2.1
      obtain ⟨⟨r0, r0f⟩, ⟨r1, r1f⟩⟩ := cells2f 2 hO rfl
      obtain ⟨y0, y1⟩ := And.intro (cells2f 0 hO rfl).1.1 (cells2f 0 hO rfl).2.1
      go_wp2_with fail
      try rw [hx3]
      go_at_call 55
      refine (own_cut hO (s.drop 3)).mono ?_
      rintro e w2 ⟨cb, rfl, hO2⟩
      clear hO y0 y1 n0 n1 r0 r0f r1 r1f hx3 hx2 hi2
      go_wp2_with fail
      go_at_call 56
      refine (own_num hO2 3 rfl 1 1 (by decide) hd1 hd2 N hN.out (s.drop 4) (by rw [List.drop_drop])).mono ?_
      rintro e w3 ⟨rfl, hO3⟩
      clear hO2
      go_wp2_with fail
      go_at_call 56
      refine (own_num hO3 3 rfl 2 2 (by decide) hd3 hd4 mem hM.out (s.drop 6) (by rw [List.drop_drop])).mono ?_
      rintro e w4 ⟨rfl, hO4⟩
      clear hO3
      have hO5 : Own w w4 [cellsA pb #[.int .i64 0, .slice none 0 0] 42, cellsA nb #[.int .i64 0, .slice none 0 0] 42, cellsA rb #[.int .i64 0, .slice none 0 0] 42] := hO4.sel [0, 1, 2] (by decide)
      clear hO4
      obtain ⟨⟨y0, y0f⟩, ⟨y1, y1f⟩⟩ := cells2f 0 hO5 rfl
      go_upto_region 9 with fail
      have hO6 : Own w (w4.setCell ⟨pb, 0, none⟩ (.int .i64 mem)) [cellsA pb #[.int .i64 mem, .slice none 0 0] 42, cellsA nb #[.int .i64 0, .slice none 0 0] 42, cellsA rb #[.int .i64 0, .slice none 0 0] 42] := hO5.cset 0 rfl 0 (.int .i64 mem)
      clear hO5 y0 y0f y1 y1f
      generalize w4.setCell ⟨pb, 0, none⟩ (.int .i64 mem) = w5 at *
      obtain ⟨y0, y1⟩ := And.intro (cells2f 0 hO6 rfl).1.1 (cells2f 0 hO6 rfl).2.1
      obtain ⟨n0, n1⟩ := And.intro (cells2f 1 hO6 rfl).1.1 (cells2f 1 hO6 rfl).2.1
      obtain ⟨⟨r0, r0f⟩, ⟨r1, r1f⟩⟩ := cells2f 2 hO6 rfl
      go_wp2_with fail
      go_at_call 63
      refine (SZ.out _).mono ?_
      rintro e w6 ⟨rfl, rfl⟩
      go_wp2
      go_step3
      rename_i K hK
      have hO7 := (hO6.push (Below.refl _ _) (rowA 52 1 (.slice none 0 0) 0 (([] : List Fn).map hdr)) (Row.nil _ _ _) (by rintro k ⟨⟩)).noneDone
      refine hK _ _ ((fun act hJ => pg_first s w N mem hd.out hs (by omega) 6 act w5 hJ) _ ?_)
      exact ⟨rb, pb, nb, [], none, 0, ⟨rfl, rfl, rfl, rfl, rfl, rfl, rfl, rfl, rfl⟩, by omega, by simp, Lib.hid rfl, hO7⟩
    · have hne : (E != 0) = true := by simpa using hE0
      have hG : getP s = .error E := by rw [hG0.out, if_pos hE0]
      replace hG := Lib.hid hG
      replace hE := Lib.hid hE
      go_enter Try.func32, Try.ntmps32
      go_wp2_with fail
      go_step3
      go_upto_region 2 with fail
      generalize ((w.alloc (.cells #[.int .i64 0, .slice none 0 0] 42)).alloc (.cells #[.int .i64 0, .slice none 0 0] 42)).alloc (.cells #[.int .i64 0, .slice none 0 0] 42) = w1 at *
      generalize w.heap.size + 2 = nb at *
      generalize w.heap.size + 1 = pb at *
      generalize w.heap.size = rb at *
      obtain ⟨n0, n1⟩ := And.intro (cells2f 1 hO rfl).1.1 (cells2f 1 hO rfl).2.1
      obtain ⟨⟨r0, r0f⟩, ⟨r1, r1f⟩⟩ := cells2f 2 hO rfl
      obtain ⟨y0, y1⟩ := And.intro (cells2f 0 hO rfl).1.1 (cells2f 0 hO rfl).2.1
      go_wp2_with fail
      try rw [hx3]
      go_at_call 55
      refine (own_cut hO (s.drop 3)).mono ?_
      rintro e w2 ⟨cb, rfl, hO2⟩
      clear hO y0 y1 n0 n1 r0 r0f r1 r1f hx3 hx2 hi2
      go_wp2_with fail
      go_at_call 56
      refine (own_num hO2 3 rfl 1 1 (by decide) hd1 hd2 N hN.out (s.drop 4) (by rw [List.drop_drop])).mono ?_
      rintro e w3 ⟨rfl, hO3⟩
      clear hO2
      go_wp2_with fail
      go_at_call 56
      refine (own_num hO3 3 rfl 2 2 (by decide) hd3 hd4 mem hM.out (s.drop 6) (by rw [List.drop_drop])).mono ?_
      rintro e w4 ⟨rfl, hO4⟩
      clear hO3
      have hO5 : Own w w4 [cellsA pb #[.int .i64 0, .slice none 0 0] 42, cellsA nb #[.int .i64 0, .slice none 0 0] 42, cellsA rb #[.int .i64 0, .slice none 0 0] 42] := hO4.sel [0, 1, 2] (by decide)
      clear hO4
      obtain ⟨⟨y0, y0f⟩, ⟨y1, y1f⟩⟩ := cells2f 0 hO5 rfl
      go_upto_region 9 with fail
      have hO6 : Own w (w4.setCell ⟨pb, 0, none⟩ (.int .i64 mem)) [cellsA pb #[.int .i64 mem, .slice none 0 0] 42, cellsA nb #[.int .i64 0, .slice none 0 0] 42, cellsA rb #[.int .i64 0, .slice none 0 0] 42] := hO5.cset 0 rfl 0 (.int .i64 mem)
      clear hO5 y0 y0f y1 y1f
      generalize w4.setCell ⟨pb, 0, none⟩ (.int .i64 mem) = w5 at *
      obtain ⟨y0, y1⟩ := And.intro (cells2f 0 hO6 rfl).1.1 (cells2f 0 hO6 rfl).2.1
      obtain ⟨n0, n1⟩ := And.intro (cells2f 1 hO6 rfl).1.1 (cells2f 1 hO6 rfl).2.1
      obtain ⟨⟨r0, r0f⟩, ⟨r1, r1f⟩⟩ := cells2f 2 hO6 rfl
      go_wp2_with fail
      go_at_call 63
      refine (SZ.out _).mono ?_
      rintro e w6 ⟨rfl, rfl⟩
      go_wp2
      rw [Exit.noGoto_ret]
      have hZ := ((hO6.cset 2 rfl 0 (.int .i64 0)).cset 2 rfl 1 (.slice none 0 0)).sel [2] (by decide)
      generalize (w5.setCell ⟨rb, 0, none⟩ (.int .i64 0)).setCell ⟨rb, 1, none⟩ (.slice none 0 0) = wz at *
      have hZ2 : Own w wz [cellsA rb #[.int .i64 0, .slice none 0 0] 42] := hZ
      obtain ⟨p0, p1⟩ := And.intro (cells2f 0 hZ2 rfl).1.1 (cells2f 0 hZ2 rfl).2.1
      exact  (bodyPost_ret (v := .tuple #[.agg #[.int .i64 0, .slice none 0 0], .int .i64 E]) (by simp [results, Try.results32, go_sem, p0, p1]) rfl (pret_err hG.out hZ2.below))
end Go.Proofs.Ytboiogjklecpaaa
