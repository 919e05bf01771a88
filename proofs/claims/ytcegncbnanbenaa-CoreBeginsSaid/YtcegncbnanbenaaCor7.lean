/- Package core: the document's check of a run; a number that is emitted. -/
import Derived.Test.YtcegncbnanbenaaCor6
import Derived.Test.YtcegncbnanbenaaCoRCheck
set_option linter.unusedVariables false
set_option linter.unusedSimpArgs false
namespace Go.Proofs.Ytcegncbnanbenaa
open Go.RowKit
set_option maxRecDepth 100000
set_option maxHeartbeats 4000000
theorem rkcheck (q : QP) (mem : Int) (fs : List (List I4)) (ao : Option Addr) (cap : Nat) (n : Nat) (io : Option Addr) (ic : Nat) (w : World) (h : LiesF w ao cap fs) (hn : n ≤ ic) (hic : ic ≤ maxLen) :
    Calls Try.prog 26 #[.agg #[.int .i64 mem, .slice ao fs.length cap], .slice io n ic, .agg #[.int .i64 q.W, .int .i64 q.T, .int .i64 q.F, .int .i64 q.D, .int .i64 q.O, .bool q.fo, .bool q.la]] w fun e w' => e = .returned (.int .i64 (coreE q mem fs n)) ∧ Below w.heap.size w w' := by
  have hO := ((Own.nil (Below.refl _ w)).box #[.int .i64 mem, .slice ao fs.length cap] 33).box #[.int .i64 q.W, .int .i64 q.T, .int .i64 q.F, .int .i64 q.D, .int .i64 q.O, .bool q.fo, .bool q.la] 35
  simp only [List.cons_append, List.nil_append, World.size_alloc] at hO
  obtain ⟨xb, hxb⟩ : ∃ xb, w.heap.size = xb := ⟨_, rfl⟩
  unfold maxLen at hic
  obtain ⟨E, hE⟩ : ∃ E, checkP mem fs = E := ⟨_, rfl⟩
  have CK := Lib.hid (fun (w' : World) (hb : Below w.heap.size w w') => prcheck_any mem fs ao cap w' (h.below hb))
  rw [hE] at CK
  obtain ⟨ok, hok⟩ : ∃ ok, q.ok = ok := ⟨_, rfl⟩
  have PC := Lib.hid (fun (w' : World) => right_any q.W q.F q.T q.D w')
  rw [show okPlan q.W q.F q.T q.D = ok from hok] at PC
  have hR := Lib.hid (show coreE q mem fs n = if E ≠ 0 then E else if ok = false ∨ q.O < 0 ∨ 1000 < q.O then 3 else if mem < (n : Int) then 9 else 0 by unfold coreE; rw [hE, hok])
  clear hE hok h
  go_enter Try.func26, Try.ntmps26
  go_upto_region 1 with fail
  rw [hxb] at hO
  try simp only [hxb]
  generalize (w.alloc (.cells #[.int .i64 mem, .slice ao fs.length cap] 33)).alloc (.cells #[.int .i64 q.W, .int .i64 q.T, .int .i64 q.F, .int .i64 q.D, .int .i64 q.O, .bool q.fo, .bool q.la] 35) = u at *
  generalize xb + 1 = yb at *
  have K := Lib.hid (fun (w' : World) (hb : Below u.heap.size u w') => show (w'.cell? ⟨xb, 0, none⟩ = some (.int .i64 mem) ∧ w'.cell? ⟨xb, 1, none⟩ = some (.slice ao fs.length cap)) ∧ (w'.cell? ⟨yb, 0, none⟩ = some (.int .i64 q.W) ∧ w'.cell? ⟨yb, 1, none⟩ = some (.int .i64 q.T) ∧ w'.cell? ⟨yb, 2, none⟩ = some (.int .i64 q.F) ∧ w'.cell? ⟨yb, 3, none⟩ = some (.int .i64 q.D) ∧ w'.cell? ⟨yb, 4, none⟩ = some (.int .i64 q.O)) from by
    have hO' := hO.grow hb
    exact ⟨⟨(hO'.cget 0 rfl 0).1, (hO'.cget 0 rfl 1).1⟩, (hO'.cget 1 rfl 0).1, (hO'.cget 1 rfl 1).1, (hO'.cget 1 rfl 2).1, (hO'.cget 1 rfl 3).1, (hO'.cget 1 rfl 4).1⟩)
  have hb0 := Lib.hid hO.below
  clear hO hxb
  obtain ⟨⟨k0, k1⟩, -⟩ := K.out u (Below.refl _ _)
  replace CK := Lib.hid (CK.out u hb0.out)
  by_cases hE0 : E = 0
  · subst hE0
    go_upto_region 4 with (go_at_call 58; refine CK.out.mono ?_; rintro e w1 ⟨rfl, hb1⟩)
    clear k0 k1
    obtain ⟨⟨k0, k1⟩, q0, q1, q2, q3, q4⟩ := K.out w1 hb1
    cases ok with
    | false =>
      have hV := Lib.hid (show coreE q mem fs n = 3 by rw [hR.out, if_neg (by simp), if_pos (.inl rfl)])
      clear hR
      go_wp2_with (go_at_call 59; refine (PC.out _).mono ?_; rintro e w3 ⟨rfl, hb3⟩)
      go_ret
      exact ⟨by rw [hV.out]; rfl, below_chain hb0.out (below_chain hb1 hb3)⟩
    | true =>
      have hKE := Lib.hid (fun (w3 : World) (hb3 : Below w1.heap.size w1 w3) => And.intro (K.out w3 (below_chain hb1 hb3)).1.1 (K.out w3 (below_chain hb1 hb3)).2.2.2.2.2)
      have hbb := Lib.hid (fun (w3 : World) (hb3 : Below w1.heap.size w1 w3) => below_chain hb0.out (below_chain hb1 hb3))
      clear K CK hb0 hb1
      by_cases o1 : q.O < 0
      · have hV := Lib.hid (show coreE q mem fs n = 3 by rw [hR.out, if_neg (by simp), if_pos (.inr (.inl o1))])
        clear hR
        go_wp2_with (go_at_call 59; refine (PC.out _).mono ?_; rintro e w3 ⟨rfl, hb3⟩; obtain ⟨z0, z4⟩ := hKE.out _ hb3; replace hb3 := Lib.hid hb3)
        go_ret
        exact ⟨by rw [hV.out]; rfl, hbb.out _ hb3.out⟩
      by_cases o2 : 1000 < q.O
      · have hV := Lib.hid (show coreE q mem fs n = 3 by rw [hR.out, if_neg (by simp), if_pos (.inr (.inr o2))])
        clear hR
        go_wp2_with (go_at_call 59; refine (PC.out _).mono ?_; rintro e w3 ⟨rfl, hb3⟩; obtain ⟨z0, z4⟩ := hKE.out _ hb3; replace hb3 := Lib.hid hb3)
        go_ret
        exact ⟨by rw [hV.out]; rfl, hbb.out _ hb3.out⟩
      by_cases o3 : mem < (n : Int)
      · have hV := Lib.hid (show coreE q mem fs n = 9 by rw [hR.out, if_neg (by simp), if_neg (by simp; omega), if_pos o3])
        clear hR
        go_wp2_with (go_at_call 59; refine (PC.out _).mono ?_; rintro e w3 ⟨rfl, hb3⟩; obtain ⟨z0, z4⟩ := hKE.out _ hb3; replace hb3 := Lib.hid hb3)
        go_ret
        exact ⟨by rw [hV.out]; rfl, hbb.out _ hb3.out⟩
      · have hV := Lib.hid (show coreE q mem fs n = 0 by rw [hR.out, if_neg (by simp), if_neg (by simp; omega), if_neg o3])
        clear hR
        go_wp2_with (go_at_call 59; refine (PC.out _).mono ?_; rintro e w3 ⟨rfl, hb3⟩; obtain ⟨z0, z4⟩ := hKE.out _ hb3; replace hb3 := Lib.hid hb3)
        go_ret
        exact ⟨by rw [hV.out]; rfl, hbb.out _ hb3.out⟩
  · have hE2 : (E == 0) = false := by simpa using hE0
    have hV := Lib.hid (show coreE q mem fs n = E by rw [hR.out, if_pos hE0])
    clear hR PC K
    go_wp2_with (go_at_call 58; refine CK.out.mono ?_; rintro e w1 ⟨rfl, hb1⟩)
    go_ret
    exact ⟨by rw [hV.out]; rfl, below_chain hb0.out hb1⟩
theorem semit {w0 w : World} {sb : Nat} {O : Int} (h : Own w0 w [cellsA sb #[.slice none 0 0, .int .i64 O] 120]) (x : Int) :
    Calls Try.prog 35 #[.pointer (some ⟨sb, 0, none⟩), .int .i64 x] w fun e w' => e = .returned (.bool (decide (0 < O))) ∧ Below w0.heap.size w0 w' := by
  obtain ⟨i0, hi0, hz0, hz1, hz2⟩ := info_parts' Try.infoIntK
  have c0 := (h.cget 0 rfl 0).1
  have c1 := (h.cget 0 rfl 1).1
  simp at c0 c1
  have hn := fun n => h.drewN n
  have hnn := Lib.hid hn
  clear hn h
  by_cases hO : 0 < O
  · have hO2 : ¬ O ≤ 0 := by omega
    have hO3 : decide (0 < O) = true := by simpa using hO
    rw [hO3]
    go_enter Try.func35, Try.ntmps35
    go_wp2_with fail
    go_quiet (fail)
    replace hnn := hnn.out
    rename_i nq
    have hO4 := (hnn nq).push (Below.refl _ _) (rowA 3 1 (.slice none 0 0) 0 []) (Row.nil _ _ _) (by rintro k ⟨⟩)
    clear c0 c1
    clear hnn
    generalize w.drewN nq = u at *
    have c0 := (hO4.cget 0 rfl 0).1
    simp at c0
    have HE := Lib.hid (fun (w3 : World) (ao2 : Option Addr) (cap2 : Nat) (hr : Row w3 3 1 (.slice ao2 1 cap2) 1 [.int .i64 x]) (ht : Touch (fun k => Value.ownBlock (.slice none 0 0) = some k) u w3) (hf : ∀ k, Value.ownBlock (.slice ao2 1 cap2) = some k → Value.ownBlock (.slice none 0 0) = some k ∨ u.heap.size ≤ k) =>
      show (∃ v, w3.cell? ⟨sb, 0, none⟩ = some v) ∧ w3.frozen? ⟨sb, 0, none⟩ = false ∧ Below w0.heap.size w0 (w3.setCell ⟨sb, 0, none⟩ (.slice ao2 1 cap2)) from by
        have h1 := hO4.move 1 rfl (Moves.of_append hr ht hf)
        have h2 := h1.cset 0 rfl 0 (.slice ao2 1 cap2)
        exact ⟨⟨_, (h1.cget 0 rfl 0).1⟩, (h1.cget 0 rfl 0).2, h2.below⟩)
    have hrw : Row u 3 1 (.slice none 0 0) 0 [] := Row.nil _ _ _
    clear hO4
    go_wp2_with (at_builtin; refine wpList_append_lit' _ rfl _ _ 36 rfl 3 i0 (.int .i64 0) 1 8 Try.underlying36 hi0 hz0 hz1 hz2 rfl (by decide) (.slice none 0 0) 0 [] rfl hrw #[.int .i64 x] _ 1 _ rfl rfl rfl (by simp [Value.oneCell']) (by unfold maxLen; omega) (by omega) ?_; intro ao2 cap2 w3 hr3 ht3 hf3; obtain ⟨⟨v, y5⟩, y6, hbn⟩ := HE.out _ _ _ hr3 ht3 hf3; replace hbn := Lib.hid hbn)
    go_ret
    exact ⟨rfl, hbn.out⟩
  · have hO2 : O ≤ 0 := by omega
    have hO3 : decide (0 < O) = false := by simpa using hO
    rw [hO3]
    go_enter Try.func35, Try.ntmps35
    go_wp2_with fail
    go_quiet (fail)
    go_wp2_with fail
    go_ret
    exact ⟨rfl, (hnn.out _).below⟩
end Go.Proofs.Ytcegncbnanbenaa
