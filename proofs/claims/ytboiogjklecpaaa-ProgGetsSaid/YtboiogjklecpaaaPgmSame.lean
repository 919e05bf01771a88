/- forebaylaw04.Great, forebayref04.Same. -/
import Derived.Test.YtboiogjklecpaaaPgmCheck
set_option linter.unusedVariables false
set_option linter.unusedSimpArgs false
namespace Go.Proofs.Ytboiogjklecpaaa
open Go.RowKit
set_option maxRecDepth 100000
set_option maxHeartbeats 8000000
def Small (fs : List (List I4)) : Prop := fs.length ≤ 40 ∧ ∀ l ∈ fs, l.length ≤ 300
theorem mem_getD' {α : Type} {l : List α} {i : Nat} {d : α} (h : i < l.length) : l.getD i d ∈ l := by
  rw [List.getD_eq_getElem?_getD, List.getElem?_eq_getElem h]
  exact List.getElem_mem h
theorem great_any (mem : Int) (fs : List (List I4)) (ao : Option Addr) (cap : Nat) (w : World) (h : LiesF w ao cap fs) : Calls Try.prog 28 #[.agg #[.int .i64 mem, .slice ao fs.length cap]] w fun e w' => ∃ b, e = .returned (.bool b) ∧ Hid (b = false → Small fs) ∧ Below w.heap.size w w' := by
  have hc := h.1
  have hc2 := h.2.1
  unfold maxLen at hc2
  have hO := (Own.nil (Below.refl _ w)).box #[.int .i64 mem, .slice ao fs.length cap] 42
  have y0 := (cells2f 0 hO rfl).1.1
  have y1 := (cells2f 0 hO rfl).2.1
  by_cases hl : fs.length > 40
  · go_enter Try.func28, Try.ntmps28
    go_wp2
    go_ret
    exact ⟨true, rfl, Lib.hid (by simp), by go_grown⟩
  · go_enter Try.func28, Try.ntmps28
    go_wp2_with fail
    generalize w.alloc (.cells #[.int .i64 mem, .slice ao fs.length cap] 42) = u at *
    generalize w.heap.size = pb at *
    go_loopw [3] (fun i wr => ∃ r : Nat, r ≤ fs.length ∧ i = .int .i64 r ∧ Hid (∀ l ∈ fs.take r, l.length ≤ 300) ∧ Own w wr [cellsA pb #[.int .i64 mem, .slice ao fs.length cap] 42]) (fun i _ => (fs.length - intOf i).toNat)
    case atStart => exact ⟨0, by omega, rfl, Lib.hid (by simp), hO⟩
    case round =>
      clear hO y0 y1
      obtain ⟨r, hr, rfl, hB, hO⟩ := hrel
      have y0 := (cells2f 0 hO rfl).1.1
      have y1 := (cells2f 0 hO rfl).2.1
      by_cases hlt : r < fs.length
      · obtain ⟨g, off, bo, d, rfl, hx, hL⟩ := (h.below hO.below).get hlt
        obtain ⟨l, hl'⟩ : ∃ l, fs.getD r [] = l := ⟨_, rfl⟩
        rw [hl'] at hx hL
        have hmem := Lib.hid (show fs.take (r + 1) = fs.take r ++ [l] by
          rw [List.take_succ_eq_append_getElem hlt]
          rw [List.getD_eq_getElem?_getD, List.getElem?_eq_getElem hlt] at hl'
          simp only [Option.getD_some] at hl'
          rw [hl'])
        clear hl'
        have ld1 := hL.1
        have ld2 := hL.2.1
        unfold maxLen at ld2
        by_cases hg : l.length > 300
        · go_wp2
          go_ret
          exact ⟨true, rfl, Lib.hid (by simp), hO.below⟩
        · go_wp2
          go_round
          case rel => exact ⟨r + 1, by omega, by go_num, Lib.hid (by
            rw [hmem.out]
            intro x hx
            rcases List.mem_append.1 hx with hx | hx
            · exact hB.out x hx
            · simp at hx; subst hx; omega), hO⟩
          case measure => simp [intOf]; omega
      · obtain rfl : r = fs.length := by omega
        have hS : Hid (Small fs) := Lib.hid ⟨by omega, by have := hB.out; rwa [List.take_length] at this⟩
        go_wp2
        go_ret
        exact ⟨false, rfl, Lib.hid (fun _ => hS.out), hO.below⟩
def sameP (m1 : Int) (f1 : List (List I4)) (m2 : Int) (f2 : List (List I4)) : Bool := decide (m1 = m2 ∧ f1 = f2)
theorem list_next {α : Type} {a b : List α} {r : Nat} {x : α} (d : α) (ha : r < a.length) (hb : r < b.length) (ht : a.take r = b.take r) (h : a.getD r d = b.getD r d) : a.take (r + 1) = b.take (r + 1) := by
  rw [List.take_succ_eq_append_getElem ha, List.take_succ_eq_append_getElem hb, ht]
  simp only [List.getD_eq_getElem?_getD, List.getElem?_eq_getElem ha, List.getElem?_eq_getElem hb, Option.getD_some] at h
  rw [h]
theorem cell_drewN' {w : World} {p : Addr} (n : Nat) : (w.drewN n).cell? p = w.cell? p := by rfl
theorem same_any (m1 m2 : Int) (f1 f2 : List (List I4)) (ao bo : Option Addr) (c1 c2 : Nat) (w : World) (ha : LiesF w ao c1 f1) (hb : LiesF w bo c2 f2) : Calls Try.prog 34 #[.agg #[.int .i64 m1, .slice ao f1.length c1], .agg #[.int .i64 m2, .slice bo f2.length c2]] w fun e w' => e = .returned (.bool (sameP m1 f1 m2 f2)) ∧ Below w.heap.size w w' := by
  have hc := ha.1
  have hc2 := ha.2.1
  have hd := hb.1
  have hd2 := hb.2.1
  unfold maxLen at hc2 hd2
  have hO := ((Own.nil (Below.refl _ w)).box #[.int .i64 m1, .slice ao f1.length c1] 42).box #[.int .i64 m2, .slice bo f2.length c2] 42
  simp only [List.cons_append, List.nil_append, World.size_alloc] at hO
  by_cases hm : m1 = m2 ∧ f1.length = f2.length
  rotate_left
  · have hR := Lib.hid (show sameP m1 f1 m2 f2 = false by
      unfold sameP
      refine decide_eq_false fun h => hm ⟨h.1, by rw [h.2]⟩)
    have y0 := (cells2f 0 hO rfl).1.1
    have y1 := (cells2f 0 hO rfl).2.1
    have z0 := (cells2f 1 hO rfl).1.1
    have z1 := (cells2f 1 hO rfl).2.1
    by_cases he : m1 = m2
    · subst he
      have hl : ¬ f1.length = f2.length := fun h => hm ⟨rfl, h⟩
      clear hm
      go_enter Try.func34, Try.ntmps34
      go_wp2
      go_ret
      exact ⟨by rw [hR.out]; first | done | rfl, hO.below⟩
    · clear hm
      have hne : (m1 != m2) = true := by simpa using he
      go_enter Try.func34, Try.ntmps34
      go_wp2
      go_ret
      exact ⟨by rw [hR.out]; first | done | rfl, hO.below⟩
  obtain ⟨rfl, hl⟩ := hm
  obtain ⟨N, hN⟩ : ∃ N, f1.length = N := ⟨_, rfl⟩
  have hN2 : f2.length = N := by omega
  rw [hN] at hc
  rw [hN2] at hd
  rw [hN, hN2] at hO
  rw [hN, hN2]
  clear hl
  replace hN := Lib.hid hN
  replace hN2 := Lib.hid hN2
  have y0 := (cells2f 0 hO rfl).1.1
  have y1 := (cells2f 0 hO rfl).2.1
  have z0 := (cells2f 1 hO rfl).1.1
  have z1 := (cells2f 1 hO rfl).2.1
  go_enter Try.func34, Try.ntmps34
  go_wp2_with fail
  generalize (w.alloc (.cells #[.int .i64 m1, .slice ao N c1] 42)).alloc (.cells #[.int .i64 m1, .slice bo N c2] 42) = u at *
  generalize w.heap.size + 1 = qb at *
  generalize w.heap.size = pb at *
  clear y0 y1 z0 z1
  go_loopw [5] (fun i wr => ∃ r : Nat, r ≤ N ∧ i = .int .i64 r ∧ Hid (f1.take r = f2.take r) ∧ Own w wr [cellsA pb #[.int .i64 m1, .slice ao N c1] 42, cellsA qb #[.int .i64 m1, .slice bo N c2] 42]) (fun i _ => (N - intOf i).toNat)
  case atStart => exact ⟨0, by omega, rfl, Lib.hid (by simp), hO⟩
  case round =>
    clear hO
    obtain ⟨r, hr, rfl, hB, hO⟩ := hrel
    have y0 := (cells2f 0 hO rfl).1.1
    have y1 := (cells2f 0 hO rfl).2.1
    have z0 := (cells2f 1 hO rfl).1.1
    have z1 := (cells2f 1 hO rfl).2.1
    by_cases hlt : r < N
    · obtain ⟨g, off, xo, d, rfl, hx, hL⟩ := (ha.below hO.below).get (i := r) (by rw [hN.out]; exact hlt)
      obtain ⟨g', off', xo', d', rfl, hx', hL'⟩ := (hb.below hO.below).get (i := r) (by rw [hN2.out]; exact hlt)
      have hnx := Lib.hid (fun h => list_next (x := ([] : List I4)) [] (a := f1) (b := f2) (by rw [hN.out]; exact hlt) (by rw [hN2.out]; exact hlt) hB.out h)
      have hno := Lib.hid (fun (h : f1.getD r [] ≠ f2.getD r []) => show sameP m1 f1 m1 f2 = false from decide_eq_false fun hh => h (by rw [hh.2]))
      generalize f1.getD r [] = l1 at *
      generalize f2.getD r [] = l2 at *
      have ld1 := hL.1
      have ld2 := hL.2.1
      have le1 := hL'.1
      have le2 := hL'.2.1
      unfold maxLen at ld2 le2
      by_cases hl12 : l1.length = l2.length
      · obtain ⟨M, hM⟩ : ∃ M, l1.length = M := ⟨_, rfl⟩
        have hM2 : l2.length = M := by omega
        rw [hM] at hx ld1
        rw [hM2] at hx' le1
        clear hl12
        replace hM := Lib.hid hM
        replace hM2 := Lib.hid hM2
        go_wp2_with fail
        go_quiet (fail)
        have hO2 := hO.drewN nq
        have hx2 := (cell_drewN' nq).trans hx
        have hx2' := (cell_drewN' nq).trans hx'
        have hL2 := hL.below (below_drewN' (Below.refl _ _) nq)
        have hL2' := hL'.below (below_drewN' (Below.refl _ _) nq)
        clear y0 y1 z0 z1 hx hx' hL hL' hO
        generalize wr.drewN nq = wo at *
        have y0 := (cells2f 0 hO2 rfl).1.1
        have y1 := (cells2f 0 hO2 rfl).2.1
        have z0 := (cells2f 1 hO2 rfl).1.1
        have z1 := (cells2f 1 hO2 rfl).2.1
        go_wp2_with fail
        go_loopw [6] (fun i wr => ∃ q : Nat, q ≤ M ∧ i = .int .i64 q ∧ Hid (l1.take q = l2.take q) ∧ ∃ nn, wr = wo.drewN nn) (fun i _ => (M - intOf i).toNat)
        case atStart => exact ⟨0, by omega, rfl, Lib.hid (by simp), 0, rfl⟩
        case round =>
          obtain ⟨q, hq, rfl, hB2, nn, rfl⟩ := hrel
          by_cases hlt2 : q < M
          · obtain ⟨e, eo, rfl, hF⟩ := hL2.get (i := q) (by rw [hM.out]; exact hlt2)
            obtain ⟨e', eo', rfl, hF'⟩ := hL2'.get (i := q) (by rw [hM2.out]; exact hlt2)
            have hnx2 := Lib.hid (fun h => list_next (x := ((0, 0, 0, 0) : I4)) (0, 0, 0, 0) (a := l1) (b := l2) (by rw [hM.out]; exact hlt2) (by rw [hM2.out]; exact hlt2) hB2.out h)
            have hno2 := Lib.hid (fun (h : l1.getD q (0, 0, 0, 0) ≠ l2.getD q (0, 0, 0, 0)) => hno.out (by rintro rfl; exact h rfl))
            obtain ⟨⟨o, a, b, c⟩, hX⟩ : ∃ x, l1.getD q (0, 0, 0, 0) = x := ⟨_, rfl⟩
            obtain ⟨⟨o', a', b', c'⟩, hX'⟩ : ∃ x, l2.getD q (0, 0, 0, 0) = x := ⟨_, rfl⟩
            rw [hX] at hF hnx2 hno2
            rw [hX'] at hF' hnx2 hno2
            obtain ⟨x0, x1, x2, x3⟩ := hF
            obtain ⟨v0, v1, v2, v3⟩ := hF'
            simp only at x0 x1 x2 x3 v0 v1 v2 v3
            clear hX hX'
            by_cases he : (o, a, b, c) = (o', a', b', c')
            · have hnx3 := Lib.hid (hnx2.out he)
              cases he
              go_wp2_with fail
              go_quiet (fail)
              go_wp2
              go_round
              case rel => exact ⟨q + 1, by omega, by go_num, hnx3, _, by first | rfl | exact drewN_two⟩
              case measure => simp [intOf]; omega
            · have hno3 := Lib.hid (hno2.out he)
              have hne2 : ¬ (o = o' ∧ a = a' ∧ b = b' ∧ c = c') := fun hh => he (by simp [hh])
              clear he
              rcases (show o ≠ o' ∨ (o = o' ∧ a ≠ a') ∨ (o = o' ∧ a = a' ∧ b ≠ b') ∨ (o = o' ∧ a = a' ∧ b = b' ∧ c ≠ c') by omega) with k | ⟨rfl, k⟩ | ⟨rfl, rfl, k⟩ | ⟨rfl, rfl, rfl, k⟩
              · have k0 : (o == o') = false := by simpa using k
                clear hne2
                go_wp2_with fail
                go_quiet (fail)
                go_wp2
                go_ret
                exact ⟨by rw [hno3.out]; first | done | rfl, below_chain hO2.below (by first | exact below_drewN' (below_drewN' (Below.refl _ _) _) _ | exact below_drewN' (Below.refl _ _) _)⟩
              · have k0 : (a == a') = false := by simpa using k
                clear hne2
                go_wp2_with fail
                go_quiet (fail)
                go_wp2
                go_ret
                exact ⟨by rw [hno3.out]; first | done | rfl, below_chain hO2.below (by first | exact below_drewN' (below_drewN' (Below.refl _ _) _) _ | exact below_drewN' (Below.refl _ _) _)⟩
              · have k0 : (b == b') = false := by simpa using k
                clear hne2
                go_wp2_with fail
                go_quiet (fail)
                go_wp2
                go_ret
                exact ⟨by rw [hno3.out]; first | done | rfl, below_chain hO2.below (by first | exact below_drewN' (below_drewN' (Below.refl _ _) _) _ | exact below_drewN' (Below.refl _ _) _)⟩
              · have k0 : (c == c') = false := by simpa using k
                clear hne2
                go_wp2_with fail
                go_quiet (fail)
                go_wp2
                go_ret
                exact ⟨by rw [hno3.out]; first | done | rfl, below_chain hO2.below (by first | exact below_drewN' (below_drewN' (Below.refl _ _) _) _ | exact below_drewN' (Below.refl _ _) _)⟩
          · obtain rfl : q = M := by omega
            have hll : l1 = l2 := by
              have := hB2.out
              rwa [← hM.out, List.take_length, hM.out, ← hM2.out, List.take_length] at this
            go_wp2
            go_round
            case rel => exact ⟨r + 1, by omega, by go_num, Lib.hid (hnx.out hll), hO2.drewN _⟩
            case measure => simp [intOf]; omega
      · have hno2 := Lib.hid (hno.out (by rintro rfl; exact hl12 rfl))
        go_wp2_with fail
        go_quiet (fail)
        go_wp2
        go_ret
        exact ⟨by rw [hno2.out]; first | done | rfl, (hO.drewN _).below⟩
    · obtain rfl : r = N := by omega
      have hR := Lib.hid (show sameP m1 f1 m1 f2 = true by
        have := hB.out
        rw [← hN.out, List.take_length, hN.out, ← hN2.out, List.take_length] at this
        exact decide_eq_true ⟨rfl, this⟩)
      go_wp2
      go_ret
      exact ⟨by rw [hR.out]; first | done | rfl, hO.below⟩
end Go.Proofs.Ytboiogjklecpaaa
