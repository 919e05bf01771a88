/- The walk through the law ProgOnce. -/
import Derived.Test.YtboiogjklecpaaaPgmWorks
import Derived.Test.YtboiogjklecpaaaPgmOwn2
import Derived.Test.YtboiogjklecpaaaPgmRCheck
set_option linter.unusedVariables false
set_option linter.unusedSimpArgs false
namespace Go.Proofs.Ytboiogjklecpaaa
open Go.RowKit
set_option maxRecDepth 100000
set_option maxHeartbeats 8000000
theorem ponce_core (mem : Int) (fs : List (List I4)) (ao : Option Addr) (cap : Nat) (mb : UInt8) (w : World) (h : LiesF w ao cap fs) :
    Calls Try.prog 10 #[.agg #[.int .i64 mem, .slice ao fs.length cap], .int .u8 (mb.toNat : Int)] w fun e w' => e = .returned (.bool true) ∧ Below w.heap.size w w' := by
  have hO := (Own.nil (Below.refl _ w)).box #[.int .i64 mem, .slice ao fs.length cap] 42
  go_enter Try.func10, Try.ntmps10
  go_wp2_with fail
  go_at_call 27
  refine (works04_any _).mono ?_
  rintro e w1 ⟨rfl, hb1⟩
  have hO1 := hO.grow hb1
  generalize w.alloc (.cells #[.int .i64 mem, .slice ao fs.length cap] 42) = u at *
  generalize hpb : w.heap.size = pb at hO1 ⊢
  clear hpb hO hb1
  obtain ⟨y0, y1⟩ := And.intro (cells2f 0 hO1 rfl).1.1 (cells2f 0 hO1 rfl).2.1
  go_wp2_with fail
  go_at_call 28
  refine (great_any mem fs ao cap w1 (h.below hO1.below)).mono ?_
  rintro e w2 ⟨b, rfl, hS, hb2⟩
  have hO2 := hO1.grow hb2
  clear hO1 hb2 y0 y1
  obtain ⟨y0, y1⟩ := And.intro (cells2f 0 hO2 rfl).1.1 (cells2f 0 hO2 rfl).2.1
  cases b with
  | true =>
    go_wp2
    go_ret
    exact ⟨rfl, hO2.below⟩
  | false =>
    have hSm := Lib.hid (hS.out rfl)
    clear hS
    have PP := fun oa oc w h => pput_any mem fs oa oc w h
    have CK := fun w h => prcheck_any mem fs ao cap w h
    have hSl0 := putS_small mem fs
    by_cases hE : checkP mem fs = 0
    · have hSp : putS mem fs = putP mem fs := by unfold putS; rw [if_pos hE]
      have hG1 := getP_more hE mb
      have hG2 := getP_short hE
      have hlen0 : 6 ≤ (putP mem fs).length := by rw [putP_len]; omega
      rw [hE, hSp] at PP
      rw [hSp] at hSl0
      generalize putP mem fs = S at *
      have R1 := fun w => pget_any (S ++ [mb]) w (by rw [List.length_append]; simp; omega)
      have R2 := fun w => pget_any S.dropLast w (by rw [List.length_dropLast]; omega)
      unfold PRet at R1 R2
      rw [hG1] at R1
      rw [hG2] at R2
      simp only [resF, resE, List.length_nil] at R1 R2
      replace PP := Lib.hid PP
      replace R1 := Lib.hid R1
      replace R2 := Lib.hid R2
      clear hE hSp hG1 hG2 CK
      have hlenS : 1 ≤ S.length := by omega
      have hlenM : S.length ≤ 12838 := hSl0
      clear hlen0 hSl0
      go_wp2_with fail
      go_at_call 30
      refine (own_any' mem fs ao cap w w2 h hSm.out hO2.below).mono ?_
      rintro e w3 ⟨oa, oc, rfl, hL3, hb3⟩
      have hO3 := hO2.grow hb3
      clear hO2 hb3 y0 y1
      go_wp2_with fail
      go_at_call 29
      refine (PP.out _ _ _ hL3).mono ?_
      rintro e w4 ⟨rfl, hb4⟩
      have hO4 := hO3.grow hb4
      clear hO3 hb4 hL3
      go_wp2_with (first | (with_reducible show wpList _ _ _ (Oper.mk _ (Op.convert 50 9 _) _ _ _ _ :: _) _ _; go_must (refine wpList_string_lit _ rfl 50 9 _ rfl 5 Try.underlying50 Try.underlying5 Try.underlying9 _ [mb] rfl (by simp [maxLen]) ?_ ?_)))
      · rfl
      go_wp2_with fail
      go_at_call 32
      rw [show (({ data := S.toArray } : ByteArray) ++ { data := #[mb] }) = ⟨(S ++ [mb]).toArray⟩ from ba_app S #[mb]]
      refine (R1.out _).mono ?_
      rintro e w5 ⟨ra, rc, rfl, _, hb5⟩
      have hO5 := ((hO4.alloc _).grow hb5).box #[.int .i64 0, .slice ra 0 rc] 42
      clear hO4 hb5
      go_upto_region 9 with fail
      generalize w5.alloc (.cells #[.int .i64 0, .slice ra 0 rc] 42) = w6 at *
      generalize w5.heap.size = rb at *
      have e1 : IntKind.i64.wrap ((S.length : Int) - 1) = (S.length : Int) - 1 := IntWalk.i64_in _ (by omega)
      have e2 : ((S.length : Int) - 1).toNat = S.length - 1 := by omega
      have hx : (⟨S.toArray⟩ : ByteArray).extract 0 (S.length - 1) = ⟨S.dropLast.toArray⟩ := by
        rw [cut_to, List.dropLast_eq_take]; simp
      go_wp2_with fail
      go_at_call 32
      refine (R2.out _).mono ?_
      rintro e w7 ⟨qa, qc, rfl, _, hb7⟩
      have hO7 := (hO5.grow hb7).box #[.int .i64 0, .slice qa 0 qc] 42
      go_wp2
      go_ret
      exact ⟨by first | rfl | simp, hO7.below⟩
    · have hne : (checkP mem fs != 0) = true := by simpa using hE
      generalize checkP mem fs = E at *
      replace PP := Lib.hid PP
      replace CK := Lib.hid CK
      clear hSl0
      go_wp2_with fail
      go_at_call 30
      refine (own_any' mem fs ao cap w w2 h hSm.out hO2.below).mono ?_
      rintro e w3 ⟨oa, oc, rfl, hL3, hb3⟩
      have hO3 := hO2.grow hb3
      clear hO2 hb3 y0 y1
      go_wp2_with fail
      go_at_call 29
      refine (PP.out _ _ _ hL3).mono ?_
      rintro e w4 ⟨rfl, hb4⟩
      have hO4 := hO3.grow hb4
      clear hO3 hb4 hL3
      obtain ⟨y0, y1⟩ := And.intro (cells2f 0 hO4 rfl).1.1 (cells2f 0 hO4 rfl).2.1
      go_wp2_with fail
      go_at_call 37
      refine (CK.out _ (h.below hO4.below)).mono ?_
      rintro e w5 ⟨rfl, hb5⟩
      go_wp2
      go_ret
      exact ⟨by first | rfl | simp, below_chain hO4.below hb5⟩
theorem walkProgOnce (v0 v1 : Value) (w : World) (h0 : Arg Try.prog w 42 v0) (h1 : Arg Try.prog w 5 v1) :
    Calls Try.prog 10 #[v0, v1] w fun e w' => e = .returned (.bool true) ∧ Below w.heap.size w w' := by
  obtain ⟨mem, fs, ao, cap, rfl, h⟩ := h0.prog
  obtain ⟨m, rfl, hm⟩ := h1.int Try.underlying5
  simp [Lit.wf, IntKind.min, IntKind.max, IntKind.signed, IntKind.bits] at hm
  have e : m = ((UInt8.ofNat m.toNat).toNat : Int) := by rw [UInt8.toNat_ofNat']; omega
  rw [e]
  exact ponce_core mem fs ao cap (UInt8.ofNat m.toNat) w h
end Go.Proofs.Ytboiogjklecpaaa
