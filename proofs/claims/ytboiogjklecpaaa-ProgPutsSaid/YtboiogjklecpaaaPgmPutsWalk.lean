/- The walk through the law ProgPuts. -/
import Derived.Test.YtboiogjklecpaaaPgmWorks
import Derived.Test.YtboiogjklecpaaaPgmOwn2
set_option linter.unusedVariables false
set_option linter.unusedSimpArgs false
namespace Go.Proofs.Ytboiogjklecpaaa
open Go.RowKit
set_option maxRecDepth 100000
set_option maxHeartbeats 8000000
theorem pputs_core (mem : Int) (fs : List (List I4)) (ao : Option Addr) (cap : Nat) (w : World) (h : LiesF w ao cap fs) :
    Calls Try.prog 7 #[.agg #[.int .i64 mem, .slice ao fs.length cap]] w fun e w' => e = .returned (.bool true) ∧ Below w.heap.size w w' := by
  have hO := (Own.nil (Below.refl _ w)).box #[.int .i64 mem, .slice ao fs.length cap] 42
  go_enter Try.func7, Try.ntmps7
  go_wp2_with fail
  go_at_call 27
  refine (works04_any _).mono ?_
  rintro e w1 ⟨rfl, hb1⟩
  have hO1 := hO.grow hb1
  generalize w.alloc (.cells #[.int .i64 mem, .slice ao fs.length cap] 42) = u at *
  generalize hpb : w.heap.size = pb at hO1 ⊢
  clear hpb hO hb1
  obtain ⟨y0, y1⟩ := And.intro (cells2f 0 hO1 rfl).1.1 (cells2f 0 hO1 rfl).2.1
  go_wp2_with fail
  go_at_call 28
  refine (great_any mem fs ao cap w1 (h.below hO1.below)).mono ?_
  rintro e w2 ⟨b, rfl, hS, hb2⟩
  have hO2 := hO1.grow hb2
  clear hO1 hb2 y0 y1
  obtain ⟨y0, y1⟩ := And.intro (cells2f 0 hO2 rfl).1.1 (cells2f 0 hO2 rfl).2.1
  cases b with
  | true =>
    go_wp2
    go_ret
    exact ⟨rfl, hO2.below⟩
  | false =>
    have hSm := Lib.hid (hS.out rfl)
    clear hS
    obtain ⟨E, hE⟩ : ∃ E, checkP mem fs = E := ⟨_, rfl⟩
    obtain ⟨S, hSS⟩ : ∃ S, putS mem fs = S := ⟨_, rfl⟩
    have hSl : S.length ≤ 20000 := by have := putS_small mem fs; rw [hSS] at this; omega
    have PP := fun oa oc w h => pput_any mem fs oa oc w h
    have RP := fun oa oc w h => prput_any mem fs oa oc w h
    have CK := fun oa oc w h => pcheck_any mem fs oa oc w h
    rw [hE, hSS] at PP RP
    rw [hE] at CK
    replace PP := Lib.hid PP
    replace RP := Lib.hid RP
    replace CK := Lib.hid CK
    go_wp2_with fail
    go_at_call 30
    refine (own_any' mem fs ao cap w w2 h hSm.out hO2.below).mono ?_
    rintro e w3 ⟨oa, oc, rfl, hL3, hb3⟩
    have hO3 := hO2.grow hb3
    clear hO2 hb3 y0 y1
    obtain ⟨y0, y1⟩ := And.intro (cells2f 0 hO3 rfl).1.1 (cells2f 0 hO3 rfl).2.1
    go_wp2_with fail
    go_at_call 29
    refine (PP.out _ _ _ hL3).mono ?_
    rintro e w4 ⟨rfl, hb4⟩
    have hO4 := hO3.grow hb4
    clear hO3 hb4 y0 y1 hL3
    obtain ⟨y0, y1⟩ := And.intro (cells2f 0 hO4 rfl).1.1 (cells2f 0 hO4 rfl).2.1
    go_wp2_with fail
    go_at_call 31
    refine (RP.out _ _ _ (h.below hO4.below)).mono ?_
    rintro e w5 ⟨rfl, hb5⟩
    have hO5 := hO4.grow hb5
    clear hO4 hb5 y0 y1
    go_wp2_with fail
    go_at_call 32
    refine (pget_any S w5 hSl).mono ?_
    unfold PRet
    obtain ⟨⟨M, FS⟩, hF⟩ : ∃ p, resF (getP S) = p := ⟨_, rfl⟩
    obtain ⟨E2, hE2⟩ : ∃ e, resE (getP S) = e := ⟨_, rfl⟩
    rw [hF, hE2]
    rintro e w6 ⟨qa, qc, rfl, hL6, hb6⟩
    simp only at hL6 ⊢
    have hO6 := (hO5.grow hb6).box #[.int .i64 M, .slice qa FS.length qc] 42
    have hL6' := hL6.below (w' := w6.alloc (.cells #[.int .i64 M, .slice qa FS.length qc] 42)) (by go_grown)
    go_upto_region 8 with fail
    generalize w6.alloc (.cells #[.int .i64 M, .slice qa FS.length qc] 42) = w7 at *
    generalize w6.heap.size = qb at *
    clear hO5 hb6 hL6
    obtain ⟨y0, y1⟩ := And.intro (cells2f 0 hO6 rfl).1.1 (cells2f 0 hO6 rfl).2.1
    obtain ⟨z0, z1⟩ := And.intro (cells2f 1 hO6 rfl).1.1 (cells2f 1 hO6 rfl).2.1
    have OW := Lib.hid (own_any' mem fs ao cap w w7 h hSm.out hO6.below)
    by_cases hE0 : E = 0
    · subst hE0
      have hSp : S = putP mem fs := by rw [← hSS]; unfold putS; rw [if_pos hE]
      have hg := getP_put hE
      rw [← hSp] at hg
      rw [hg] at hF hE2
      simp only [resF, resE, Prod.mk.injEq] at hF hE2
      obtain ⟨rfl, rfl⟩ := hF
      subst hE2
      clear hg hSp hE hSS
      go_wp2_with fail
      go_at_call 30
      refine OW.out.mono ?_
      rintro e w8 ⟨oa2, oc2, rfl, hL8, hb8⟩
      have hO8 := hO6.grow hb8
      go_wp2_with fail
      go_at_call 33
      refine (CK.out _ _ _ hL8).mono ?_
      rintro e w9 ⟨rfl, hb9⟩
      have hO9 := hO8.grow hb9
      have hL9 := (hL6'.below hb8).below hb9
      clear y0 y1 z0 z1 hO6 hO8 hb8 hb9 hL6' hL8
      obtain ⟨y0, y1⟩ := And.intro (cells2f 0 hO9 rfl).1.1 (cells2f 0 hO9 rfl).2.1
      obtain ⟨z0, z1⟩ := And.intro (cells2f 1 hO9 rfl).1.1 (cells2f 1 hO9 rfl).2.1
      have SM := Lib.hid (same_any mem mem fs fs ao qa cap qc w9 (h.below hO9.below) hL9)
      go_wp2_with fail
      go_at_call 34
      refine SM.out.mono ?_
      rw [show sameP mem fs mem fs = true by unfold sameP; simp]
      rintro e w10 ⟨rfl, hb10⟩
      go_wp2
      go_ret
      exact ⟨by first | rfl | simp, below_chain hO9.below hb10⟩
    · have hne : (E != 0) = true := by simpa using hE0
      go_wp2_with fail
      go_at_call 30
      refine OW.out.mono ?_
      rintro e w8 ⟨oa2, oc2, rfl, hL8, hb8⟩
      have hO8 := hO6.grow hb8
      go_wp2_with fail
      go_at_call 33
      refine (CK.out _ _ _ hL8).mono ?_
      rintro e w9 ⟨rfl, hb9⟩
      go_wp2
      go_ret
      exact ⟨by first | rfl | simp, below_chain hO8.below hb9⟩
theorem walkProgPuts (v0 : Value) (w : World) (h0 : Arg Try.prog w 42 v0) :
    Calls Try.prog 7 #[v0] w fun e w' => e = .returned (.bool true) ∧ Below w.heap.size w w' := by
  obtain ⟨mem, fs, ao, cap, rfl, h⟩ := h0.prog
  exact pputs_core mem fs ao cap w h
end Go.Proofs.Ytboiogjklecpaaa
