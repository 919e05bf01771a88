/- The walk through the law ReplayPacks. -/
import Derived.Test.YtcegncbnanbenaaPackWorks
set_option linter.unusedVariables false
set_option linter.unusedSimpArgs false
namespace Go.Proofs.Ytcegncbnanbenaa
open Go.RowKit
set_option maxRecDepth 100000
set_option maxHeartbeats 8000000
theorem rpacks_core (l : List Pk) (ao : Option Addr) (c : Nat) (s : List UInt8) (w : World) (hL : LiesP w ao c l) (h1 : l.length ≤ 700) (h2 : s.length ≤ 60) :
    Calls Try.prog 6 #[.slice ao l.length c, .string ⟨s.toArray⟩] w fun e w' => e = .returned (.bool true) ∧ Below w.heap.size w w' := by
  have PB := pack_back l
  have UB := un_back s
  have OW := fun w h => own43_any l ao c w h (by omega)
  have PK := fun a c w h => rpack_any l a c w h (by omega)
  have RP := fun w h => rfpack_any l ao c w h (by omega)
  have UN := fun w => un_any s w (by omega)
  have RU := fun w => run_any s w (by omega)
  have UA := fun w => un_any (packS l) w (by have := packS_len l; omega)
  have PU := fun a c w h => rpack_any (unP s) a c w h (by have := un_len s; omega)
  have LP := fun a c w h => loops_any l a c w h (by omega)
  have RL := fun w h => rloops_any l ao c w h (by omega)
  have SU := fun a b c d w h k => psame_any (unP s) (unP s) a b c d w h k
  have SB := fun a b c d w h k => psame_any (unP (packS l)) l a b c d w h k
  obtain ⟨U, hU⟩ : ∃ U, unP s = U := ⟨_, rfl⟩
  obtain ⟨A, hA⟩ : ∃ U, packS l = U := ⟨_, rfl⟩
  obtain ⟨T, hT⟩ : ∃ T, packS U = T := ⟨_, rfl⟩
  have hTl : T.length ≤ 10000 := by
    rcases un_back s with ⟨_, _, _, _, h⟩ | h
    · rw [hU, hT] at h; omega
    · have : unP s = [] := by
        unfold unE at h; unfold unP
        split at h
        · cases h
        · rename_i h3; rw [if_neg h3]
      rw [hU] at this
      rw [← hT, this]
      simp [packS, encR]
  have UT := fun w => un_any T w hTl
  have ST := fun a b c d w h k => psame_any (unP T) U a b c d w h k
  rw [hU] at UB UN RU PU SU
  rw [hA] at PB PK RP UA SB
  rw [hT] at UB PU
  clear hU hA hT hTl
  generalize unP A = BK at *
  generalize unE A = I at *
  generalize packE l = E at *
  generalize unE s = H at *
  generalize unP T = X at *
  generalize unE T = Y at *
  generalize packE U = K at *
  generalize loopsP l = Z at *
  have g1 : ¬ (700 : Int) < (l.length : Int) := by omega
  have g2 : ¬ (60 : Int) < (s.length : Int) := by omega
  replace OW := Lib.hid OW
  replace PK := Lib.hid PK
  replace RP := Lib.hid RP
  replace UN := Lib.hid UN
  replace RU := Lib.hid RU
  replace UA := Lib.hid UA
  replace PU := Lib.hid PU
  replace LP := Lib.hid LP
  replace RL := Lib.hid RL
  replace SU := Lib.hid SU
  replace SB := Lib.hid SB
  replace UT := Lib.hid UT
  replace ST := Lib.hid ST
  have hb0 := Below.refl w.heap.size w
  go_enter Try.func6, Try.ntmps6
  go_wp2_with fail
  go_at_call 36
  refine (works43_any _).mono ?_
  rintro e w1 ⟨rfl, hb1⟩
  have hL1 := hL.below hb1
  go_wp2_with fail
  go_at_call 38
  refine (OW.out _ hL1).mono ?_
  rintro e w2 ⟨oa, oc, rfl, hO2, hb2⟩
  have hL2 := hL1.below hb2
  replace hb2 := below_chain hb1 hb2
  clear hb1 hL1 hL
  go_wp2_with fail
  go_at_call 37
  refine (PK.out _ _ _ hO2).mono ?_
  rintro e w3 ⟨rfl, hb3⟩
  have hL3 := hL2.below hb3
  replace hb3 := below_chain hb2 hb3
  clear hb2 hL2 hO2
  go_wp2_with fail
  go_at_call 39
  refine (RP.out _ hL3).mono ?_
  rintro e w4 ⟨rfl, hb4⟩
  have hL4 := hL3.below hb4
  replace hb4 := below_chain hb3 hb4
  clear hb3 hL3
  go_wp2_with fail
  go_at_call 40
  refine (UN.out _).mono ?_
  rintro e w5 ⟨ma, mc, rfl, hM5, hb5⟩
  have hL5 := hL4.below hb5
  replace hb5 := below_chain hb4 hb5
  clear hb4 hL4
  go_wp2_with fail
  go_at_call 41
  refine (RU.out _).mono ?_
  rintro e w6 ⟨na, nc, rfl, hN6, hb6⟩
  have hL6 := hL5.below hb6
  have hM6 := hM5.below hb6
  replace hb6 := below_chain hb5 hb6
  clear hb5 hL5 hM5
  go_wp2_with fail
  go_at_call 40
  refine (UA.out _).mono ?_
  rintro e w7 ⟨ba, bc, rfl, hB7, hb7⟩
  have hL7 := hL6.below hb7
  have hM7 := hM6.below hb7
  have hN7 := hN6.below hb7
  replace hb7 := below_chain hb6 hb7
  clear hb6 hL6 hM6 hN6
  go_wp2_with fail
  go_at_call 42
  have SM := SU.out _ _ _ _ _ hM7 hN7
  try rw [decide_eq_true rfl] at SM
  refine SM.mono ?_
  rintro e w8 ⟨rfl, hb8⟩
  clear SM
  have hL8 := hL7.below hb8
  have hM8 := hM7.below hb8
  have hB8 := hB7.below hb8
  replace hb8 := below_chain hb7 hb8
  clear hb7 hL7 hM7 hN7 hB7 SU
  rcases PB with ⟨rfl, rfl, rfl⟩ | ⟨rfl, rfl⟩
  · have SM := SB.out _ _ _ _ w8 hB8 hL8
    try rw [decide_eq_true rfl] at SM
    go_wp2_with fail
    go_at_call 42
    refine SM.mono ?_
    rintro e w9 ⟨rfl, hb9⟩
    clear SM
    have hL9 := hL8.below hb9
    have hM9 := hM8.below hb9
    replace hb9 := below_chain hb8 hb9
    clear hb8 hL8 hM8 hB8
    go_wp2_with fail
    go_at_call 37
    refine (PU.out _ _ _ hM9).mono ?_
    rintro e w10 ⟨rfl, hb10⟩
    have hL10 := hL9.below hb10
    have hM10 := hM9.below hb10
    replace hb10 := below_chain hb9 hb10
    clear hb9 hL9 hM9
    go_wp2_with fail
    go_at_call 40
    refine (UT.out _).mono ?_
    rintro e w11 ⟨xa, xc, rfl, hX11, hb11⟩
    have hL11 := hL10.below hb11
    have hM11 := hM10.below hb11
    replace hb11 := below_chain hb10 hb11
    clear hb10 hL10 hM10
    go_wp2_with fail
    go_at_call 38
    refine (OW.out _ hL11).mono ?_
    rintro e w12 ⟨pa, pc, rfl, hO12, hb12⟩
    have hL12 := hL11.below hb12
    have hM12 := hM11.below hb12
    have hX12 := hX11.below hb12
    replace hb12 := below_chain hb11 hb12
    clear hb11 hL11 hM11 hX11
    go_wp2_with fail
    go_at_call 43
    refine (LP.out _ _ _ hO12).mono ?_
    rintro e w13 ⟨rfl, hb13⟩
    have hL13 := hL12.below hb13
    have hM13 := hM12.below hb13
    have hX13 := hX12.below hb13
    replace hb13 := below_chain hb12 hb13
    clear hb12 hL12 hM12 hX12 hO12
    rcases UB with ⟨rfl, rfl, rfl, rfl, hTs⟩ | rfl
    · have ST2 := fun w h k => ST.out xa ma xc mc w h k
      rw [decide_eq_true rfl] at ST2
      replace ST2 := Lib.hid ST2
      have hTs2 : (T.length : Int) ≤ (s.length : Int) := by omega
      go_wp2_with fail
      go_at_call 44
      refine (RL.out _ hL13).mono ?_
      rintro e w14 ⟨rfl, hb14⟩
      have hM14 := hM13.below hb14
      have hX14 := hX13.below hb14
      replace hb14 := below_chain hb13 hb14
      clear hb13 hL13 hM13 hX13
      go_wp2_with fail
      go_at_call 42
      refine (ST2.out _ hX14 hM14).mono ?_
      rintro e w15 ⟨rfl, hb15⟩
      replace hb15 := below_chain hb14 hb15
      go_wp2
      go_ret
      exact ⟨by first | rfl | simp, hb15⟩
    · go_wp2_with fail
      go_at_call 44
      refine (RL.out _ hL13).mono ?_
      rintro e w14 ⟨rfl, hb14⟩
      replace hb14 := below_chain hb13 hb14
      go_wp2
      go_ret
      exact ⟨by first | rfl | simp, hb14⟩
  · have hb9 := hb8
    have hL9 := hL8
    have hM9 := hM8
    obtain ⟨w9, hw9⟩ : ∃ w9, w8 = w9 := ⟨_, rfl⟩
    subst hw9
    clear hb8 hL8 hM8 hB8
    go_wp2_with fail
    go_at_call 37
    refine (PU.out _ _ _ hM9).mono ?_
    rintro e w10 ⟨rfl, hb10⟩
    have hL10 := hL9.below hb10
    have hM10 := hM9.below hb10
    replace hb10 := below_chain hb9 hb10
    clear hb9 hL9 hM9
    go_wp2_with fail
    go_at_call 40
    refine (UT.out _).mono ?_
    rintro e w11 ⟨xa, xc, rfl, hX11, hb11⟩
    have hL11 := hL10.below hb11
    have hM11 := hM10.below hb11
    replace hb11 := below_chain hb10 hb11
    clear hb10 hL10 hM10
    go_wp2_with fail
    go_at_call 38
    refine (OW.out _ hL11).mono ?_
    rintro e w12 ⟨pa, pc, rfl, hO12, hb12⟩
    have hL12 := hL11.below hb12
    have hM12 := hM11.below hb12
    have hX12 := hX11.below hb12
    replace hb12 := below_chain hb11 hb12
    clear hb11 hL11 hM11 hX11
    go_wp2_with fail
    go_at_call 43
    refine (LP.out _ _ _ hO12).mono ?_
    rintro e w13 ⟨rfl, hb13⟩
    have hL13 := hL12.below hb13
    have hM13 := hM12.below hb13
    have hX13 := hX12.below hb13
    replace hb13 := below_chain hb12 hb13
    clear hb12 hL12 hM12 hX12 hO12
    rcases UB with ⟨rfl, rfl, rfl, rfl, hTs⟩ | rfl
    · have ST2 := fun w h k => ST.out xa ma xc mc w h k
      rw [decide_eq_true rfl] at ST2
      replace ST2 := Lib.hid ST2
      have hTs2 : (T.length : Int) ≤ (s.length : Int) := by omega
      go_wp2_with fail
      go_at_call 44
      refine (RL.out _ hL13).mono ?_
      rintro e w14 ⟨rfl, hb14⟩
      have hM14 := hM13.below hb14
      have hX14 := hX13.below hb14
      replace hb14 := below_chain hb13 hb14
      clear hb13 hL13 hM13 hX13
      go_wp2_with fail
      go_at_call 42
      refine (ST2.out _ hX14 hM14).mono ?_
      rintro e w15 ⟨rfl, hb15⟩
      replace hb15 := below_chain hb14 hb15
      go_wp2
      go_ret
      exact ⟨by first | rfl | simp, hb15⟩
    · go_wp2_with fail
      go_at_call 44
      refine (RL.out _ hL13).mono ?_
      rintro e w14 ⟨rfl, hb14⟩
      replace hb14 := below_chain hb13 hb14
      go_wp2
      go_ret
      exact ⟨by first | rfl | simp, hb14⟩
theorem walkReplayPacks (v0 v1 : Value) (w : World) (h0 : Arg Try.prog w 85 v0) (h1 : Arg Try.prog w 9 v1) :
    Calls Try.prog 6 #[v0, v1] w fun e w' => e = .returned (.bool true) ∧ Below w.heap.size w w' := by
  obtain ⟨l, ao, c, rfl, hL⟩ := h0.picks
  obtain ⟨s, rfl, hs⟩ := h1.string Try.underlying9
  obtain ⟨s, rfl⟩ := str_of s
  have hs2 : s.length ≤ maxLen := by simpa [ByteArray.size] using hs
  have hl3 := hL.1
  have hl4 := hL.2.1
  unfold maxLen at hs2 hl4
  by_cases hl : l.length ≤ 700
  · by_cases hs3 : s.length ≤ 60
    · exact rpacks_core l ao c s w hL hl hs3
    · have hl2 : 60 < s.length := by omega
      have hl5 : ¬ 700 < l.length := by omega
      go_enter Try.func6, Try.ntmps6
      go_wp2_with (go_at_call 36; refine (works43_any _).mono ?_; rintro e w1 ⟨rfl, hb1⟩)
      go_ret
      exact ⟨rfl, hb1⟩
  · have hl2 : 700 < l.length := by omega
    go_enter Try.func6, Try.ntmps6
    go_wp2_with (go_at_call 36; refine (works43_any _).mono ?_; rintro e w1 ⟨rfl, hb1⟩)
    go_ret
    exact ⟨rfl, hb1⟩
end Go.Proofs.Ytcegncbnanbenaa
