/- forebaylaw43.own and works; what packing and unpacking say of each other. -/
import Derived.Test.YtcegncbnanbenaaPackRef
import Derived.Test.YtcegncbnanbenaaPackRUn
import Derived.Test.YtcegncbnanbenaaPackLoops
set_option linter.unusedVariables false
set_option linter.unusedSimpArgs false
namespace Go.Proofs.Ytcegncbnanbenaa
open Go.RowKit
set_option maxRecDepth 100000
set_option maxHeartbeats 8000000
theorem pksC_inv {l : List Pk} {j : Nat} {u : Value} (h : (pksC l)[j]? = some u) : ∃ x, l[j / 2]? = some x ∧ (pkC x)[j % 2]? = some u := by
  have h1 := (List.getElem?_eq_some_iff.1 h).1
  rw [pksC_len] at h1
  obtain ⟨x, hx⟩ : ∃ x, l[j / 2]? = some x := ⟨_, List.getElem?_eq_getElem (by omega)⟩
  refine ⟨x, hx, ?_⟩
  rw [← pksC_get hx (j % 2) (by omega), show j / 2 * 2 + j % 2 = j by omega]
  exact h
theorem LiesP.src {w : World} {ao : Option Addr} {c : Nat} {l : List Pk} (h : LiesP w ao c l) : Src w ao l.length c 2 (pksC l) := by
  refine ⟨pksC_len l, fun h0 => ⟨by have := h.2.2.1 h0; have := h.1; omega, h.2.2.1 h0⟩, fun ad had j u hu => ?_⟩
  obtain ⟨⟨x, y⟩, hx, hj⟩ := pksC_inv hu
  obtain ⟨g, off, e, t0, t1⟩ := h.get hx
  rw [had] at e
  cases e
  rw [Addr.add_lit]
  rcases (show j % 2 = 0 ∨ j % 2 = 1 by omega) with k | k
  · rw [k] at hj
    rw [show off + j = off + j / 2 * 2 by omega, t0]
    simpa [pkC] using hj
  · rw [k] at hj
    rw [show off + j = off + j / 2 * 2 + 1 by omega, t1]
    simpa [pkC] using hj
theorem pksC_one (l : List Pk) : ∀ u ∈ pksC l, u.oneCell' = true := by
  intro u hu
  obtain ⟨x, _, hx⟩ := List.mem_flatMap.1 hu
  simp [pkC] at hx
  rcases hx with rfl | rfl <;> rfl
theorem own43_any (l : List Pk) (ao : Option Addr) (c : Nat) (w : World) (h : LiesP w ao c l) (hl : l.length ≤ 100000) : Calls Try.prog 38 #[.slice ao l.length c] w fun e w' => ∃ oa oc, e = .returned (.slice oa l.length oc) ∧ LiesP w' oa oc l ∧ Below w.heap.size w w' := by
  obtain ⟨i1, hi1, hw0, hw1', hw2'⟩ := info_parts' Try.infoPick
  have hsrc := h.src
  have h1c := pksC_one l
  obtain ⟨M, hM⟩ : ∃ M, l.length = M := ⟨_, rfl⟩
  rw [hM] at hsrc hl ⊢
  obtain ⟨cs, hcs⟩ : ∃ cs, pksC l = cs := ⟨_, rfl⟩
  rw [hcs] at hsrc h1c
  replace hcs := Lib.hid hcs
  replace hM := Lib.hid hM
  go_enter Try.func38, Try.ntmps38
  go_wp2_with (at_builtin; go_must (refine wpList_append_copy' _ rfl _ _ 85 rfl 124 i1 (.agg #[.int .i64 0, .int .i64 0]) 2 16 Try.underlying85 hi1 hw0 hw1' hw2' rfl (by decide) _ (by simp) rfl ao M c cs rfl hsrc h1c (by unfold maxLen; omega) (by omega) ?_); intro ao2 cap2 w2 hrow hb2 hf2)
  go_ret
  exact ⟨ao2, cap2, rfl, Row.liesP (by rw [hcs.out]; exact hrow) hM.out.symm, hb2⟩
theorem dec_len : ∀ (s : List UInt8), (decP s).length ≤ 256 * s.length
  | [] => by simp [decP]
  | [_] => by simp [decP]
  | [_, _] => by simp [decP]
  | a :: b :: c :: r => by
    have h1 := c.toNat_lt
    have h2 := dec_len r
    rw [decP, List.length_append, List.length_replicate]
    simp; omega
theorem un_len (s : List UInt8) : (unP s).length ≤ 256 * s.length := by
  unfold unP
  split
  · exact dec_len s
  · simp
theorem packS_len (l : List Pk) : (packS l).length ≤ 3 * l.length := by
  unfold packS
  split
  · exact enc_bd 0 l
  · simp
/-- What was packed is unpacked as it was. -/
theorem pack_back (l : List Pk) : (packE l = 0 ∧ unE (packS l) = 0 ∧ unP (packS l) = l) ∨ (packE l = 3 ∧ unE (packS l) = 0) := by
  by_cases h : l.all fitsP = true
  · left
    obtain ⟨n, hn⟩ := enc_len3 0 l
    have h3 : (encR 0 l).length % 3 = 0 := by omega
    unfold packE packS
    rw [if_pos h, if_pos h]
    unfold unE unP
    rw [if_pos h3, if_pos h3]
    exact ⟨rfl, rfl, dec_enc0 l (fun y hy => List.all_eq_true.1 h y hy)⟩
  · right
    unfold packE packS
    rw [if_neg h, if_neg h]
    exact ⟨rfl, rfl⟩
/-- What was unpacked is packed, and is unpacked once more. -/
theorem un_back (s : List UInt8) : (unE s = 0 ∧ packE (unP s) = 0 ∧ unE (packS (unP s)) = 0 ∧ unP (packS (unP s)) = unP s ∧ (packS (unP s)).length ≤ s.length) ∨ unE s = 1 := by
  by_cases h : s.length % 3 = 0
  · left
    have hU : unP s = decP s := by unfold unP; rw [if_pos h]
    have hall : (decP s).all fitsP = true := List.all_eq_true.2 (fun x hx => dec_fits s x hx)
    have hE : packE (decP s) = 0 := by unfold packE; rw [if_pos hall]
    have hS : packS (decP s) = encR 0 (decP s) := by unfold packS; rw [if_pos hall]
    rw [hU]
    refine ⟨by unfold unE; rw [if_pos h], hE, ?_⟩
    rcases pack_back (decP s) with ⟨_, h2, h3⟩ | ⟨h1, _⟩
    · exact ⟨h2, h3, by rw [hS]; exact enc_dec s⟩
    · rw [hE] at h1; cases h1
  · right
    unfold unE
    rw [if_neg h]
theorem Arg.picks {w : World} {v : Value} (h : Arg Try.prog w 85 v) : ∃ (l : List Pk) (ao : Option Addr) (c : Nat), v = .slice ao l.length c ∧ LiesP w ao c l := by
  obtain ⟨ao, cap, xs, h1, h2, h3, h4, h5, h6⟩ := h.elems ((0, 0) : Pk) 2 pkC (fun _ => True) Try.underlying85 (by kernel_rfl) (fun cs hcl hr => by
    obtain ⟨xs, e1, e2, e3⟩ := hr.intFields 2 (show fieldsOf Try.prog 124 = some ((List.range 2).map fun i => (3, i)) by kernel_rfl) Try.underlying3 (by kernel_rfl) (by kernel_rfl)
    match xs, e2 with
    | [a, b], _ => exact ⟨(a, b), by rw [e1]; rfl, trivial⟩)
  refine ⟨xs, ao, cap, h1, h2, h3, h4, fun i x hx => ?_⟩
  have hi := (List.getElem?_eq_some_iff.1 hx).1
  obtain ⟨⟨g, off, spot⟩, had, hj⟩ := h6 0 (by omega)
  have q0 := hj 0 (by decide)
  have hspot : spot = none := by simpa [Addr.add] using World.cell?_spot (q0.trans (show (pkC (xs.getD 0 (0, 0)))[0]? = some (.int .i64 (xs.getD 0 (0, 0)).1) from rfl))
  subst hspot
  clear hj q0
  obtain ⟨ad, had', hj⟩ := h6 i hi
  rw [had] at had'
  cases had'
  have hx' : xs.getD i (0, 0) = x := by rw [List.getD_eq_getElem?_getD, hx]; rfl
  rw [hx'] at hj
  have q0 := hj 0 (by decide)
  have q1 := hj 1 (by decide)
  rw [Addr.add_lit] at q0 q1
  exact ⟨g, off, had, by simpa [pkC] using q0, by simpa [pkC, Nat.add_assoc] using q1⟩
theorem works43_any (w : World) : Calls Try.prog 36 #[] w fun e w' => e = .returned (.bool true) ∧ Below w.heap.size w w' := by
  have hO := (Own.nil (Below.refl _ w)).row_made 124 2 #[.int .i64 1, .int .i64 0, .int .i64 1, .int .i64 0, .int .i64 2, .int .i64 3] 3 (by decide) rfl
  have hR : Row (w.alloc (.cells #[.int .i64 1, .int .i64 0, .int .i64 1, .int .i64 0, .int .i64 2, .int .i64 3] 124)) 124 2 (.slice (some ⟨w.heap.size, 0, none⟩) 3 3) 3 (pksC [(1, 0), (1, 0), (2, 3)]) := hO.row 0 rfl
  have hL := hR.liesP rfl
  have hb := hO.below
  clear hO hR
  go_enter Try.func36, Try.ntmps36
  go_upto_region 2 with fail
  generalize w.alloc (.cells #[.int .i64 1, .int .i64 0, .int .i64 1, .int .i64 0, .int .i64 2, .int .i64 3] 124) = w1 at *
  have PK := rpack_any _ _ _ w1 hL (by decide)
  rw [show packS [(1, 0), (1, 0), (2, 3)] = [1, 0, 1, 2, 3, 0] by decide, show packE [(1, 0), (1, 0), (2, 3)] = 0 by decide] at PK
  go_wp2_with fail
  go_at_call 37
  refine PK.mono ?_
  rintro e w2 ⟨rfl, hb2⟩
  clear PK
  have hL2 := hL.below hb2
  have UN := un_any [1, 0, 1, 2, 3, 0] w2 (by decide)
  rw [show unP [1, 0, 1, 2, 3, 0] = [(1, 0), (1, 0), (2, 3)] by decide, show unE [1, 0, 1, 2, 3, 0] = 0 by decide] at UN
  go_wp2_with fail
  go_at_call 40
  refine UN.mono ?_
  rintro e w3 ⟨oa, oc, rfl, hM, hb3⟩
  clear UN
  have hL3 := hL2.below hb3
  go_wp2_with fail
  go_at_call 42
  have SM := psame_any _ _ _ _ _ _ w3 hM hL3
  rw [decide_eq_true rfl] at SM
  refine SM.mono ?_
  rintro e w4 ⟨rfl, hb4⟩
  clear SM
  have hL4 := hL3.below hb4
  have LP := loops_any ([(1, 0), (1, 0), (2, 3)].take 2) _ _ w4 (hL4.head 2) (by decide)
  rw [show loopsP (([(1, 0), (1, 0), (2, 3)] : List Pk).take 2) = 1 by decide] at LP
  go_wp2_with fail
  go_at_call 43
  refine LP.mono ?_
  rintro e w5 ⟨rfl, hb5⟩
  clear LP
  have LP := loops_any _ _ _ w5 (hL4.below hb5) (by decide)
  rw [show loopsP ([(1, 0), (1, 0), (2, 3)] : List Pk) = 3 by decide] at LP
  go_wp2_with fail
  go_at_call 43
  refine LP.mono ?_
  rintro e w6 ⟨rfl, hb6⟩
  go_wp2
  go_ret
  exact ⟨rfl, below_chain (below_chain (below_chain (below_chain (below_chain hb hb2) hb3) hb4) hb5) hb6⟩
end Go.Proofs.Ytcegncbnanbenaa
