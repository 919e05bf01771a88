/- The walk through the law JoinLast. -/
import Derived.Test.YtpijgjalabocpaaJoin
import Derived.Test.YtpijgjalabocpaaArgs
import Derived.Deep.Cut
import Derived.Deep.CutRange
set_option linter.unusedVariables false
set_option linter.unusedSimpArgs false
namespace Go.Proofs.Ytpijgjalabocpaa
open Go.RowKit
def gB : Value → Int
  | .bool true => 0
  | _ => 1
set_option maxHeartbeats 4000000
set_option maxRecDepth 100000
theorem last_core (rs os : List Int) (ro oo : Option Addr) (rc oc : Nat) (w : World) (h1 : rs.length ≤ rc) (h2 : rc ≤ maxLen) (h3 : os.length ≤ oc) (h4 : oc ≤ maxLen) (hl : rs.length ≤ 60) (hl2 : os.length ≤ 1000)
    (hr : ∀ k, k < rs.length → ∃ ad, ro = some ad ∧ w.cell? (ad.add k) = some (.int .u8 (rs.getD k 0))) (hrw : ∀ k, k < rs.length → 0 ≤ rs.getD k 0 ∧ rs.getD k 0 ≤ 255)
    (ho : ∀ k, k < os.length → ∃ ad, oo = some ad ∧ w.cell? (ad.add k) = some (.int .u8 (os.getD k 0))) (how : ∀ k, k < os.length → 0 ≤ os.getD k 0 ∧ os.getD k 0 ≤ 255) :
    Calls Try.prog 11 #[.slice ro rs.length rc, .slice oo os.length oc] w fun e w' => e = .returned (.bool true) ∧ Below w.heap.size w w' := by
  unfold maxLen at h2 h4
  have N := Lib.hid (fun (w1 : World) (h : Below w.heap.size w w1) => new_st h 1 [0] rfl)
  replace hr := Lib.hid hr
  replace ho := Lib.hid ho
  replace hrw := Lib.hid hrw
  replace how := Lib.hid how
  go_enter Try.func11, Try.ntmps11
  go_wp2_with (go_at_call 35; refine (works18_any _).mono ?_; rintro e w1 ⟨rfl, hb1⟩)
  go_at_call 15
  refine (N.out _ hb1).mono ?_
  rintro e w2 ⟨rfl, hs2⟩
  go_wp2_with fail
  go_at_call 36
  refine (again_st hs2 (k := 0) (by simp) [1] rfl).mono ?_
  rintro e w3 ⟨rfl, hs3⟩
  clear hs2 hb1
  generalize w1.heap.size = b at *
  go_wp2_with fail
  go_loopw [6, 7] (fun a i wr => ∃ (k A : Nat), k ≤ rs.length ∧ i = .int .i64 k ∧ a = .int .i64 A ∧ A ≤ 17 * k ∧ St w wr (b + 1) b [1]) (fun _ i _ => (rs.length - intOf i).toNat)
  case atStart => exact ⟨0, 0, by omega, rfl, rfl, by omega, hs3⟩
  case round =>
    clear hs3
    obtain ⟨k, A0, hk, rfl, rfl, hA0, hs⟩ := hrel
    by_cases hlt : k < rs.length
    · obtain ⟨rd, rfl, hx0⟩ := hr.out k hlt
      obtain ⟨x0, x1⟩ := hrw.out k hlt
      have hx := hs.old hx0
      clear hx0
      generalize rs.getD k 0 = X at *
      obtain ⟨X, rfl⟩ : ∃ n : Nat, X = n := ⟨X.toNat, by omega⟩
      go_wp2_with fail
      have hSb : 0 ≤ (X : Int) % 9 ∧ (X : Int) % 9 ≤ 8 := by omega
      generalize (X : Int) % 9 = S0 at *
      obtain ⟨S, rfl⟩ : ∃ n : Nat, S0 = n := ⟨S0.toNat, by omega⟩
      obtain ⟨wo, rfl⟩ : ∃ wo : World, wo = wr := ⟨_, rfl⟩
      go_loopw [6, 9, 10, 11, 12] (fun a o l t g wr => ∃ (A O L : Nat) (G : Bool) (T : Int), a = .int .i64 A ∧ o = .int .i64 O ∧ l = .int .i64 L ∧ t = .int .i64 T ∧ g = .bool G ∧ O ≤ S ∧ (G = true → O = S) ∧ A + 2 * (S - O) + L + (if G = true then 0 else 1) ≤ A0 + 17 ∧ T = (if G = true ∧ L = 0 then 1 else 0) ∧ St w wr (b + 1) b [(L : Int) + if G = true then 0 else 1]) (fun _ o l _ g _ => (2 * ((S : Int) - intOf o) + intOf l + gB g).toNat)
      case atStart => exact ⟨A0, 0, 0, false, 0, rfl, rfl, rfl, rfl, rfl, by omega, by simp, by simp; omega, by simp, by simpa using hs⟩
      case round =>
        clear hs
        obtain ⟨A, O, L, G, T, rfl, rfl, rfl, rfl, rfl, hO, hG, hA, hT, hs⟩ := hrel
        by_cases hend : G = true ∧ L = 0
        · obtain ⟨rfl, rfl⟩ := hend
          have hOS := hG rfl
          subst hOS
          simp at hs hT hA
          subst hT
          clear hG hO
          have hAg := Lib.hid (again_st hs (k := 0) (by simp) [1] rfl)
          go_wp2_with (go_at_call 36; refine hAg.out.mono ?_; rintro e w5 ⟨rfl, hs5⟩)
          go_roundw
          case rel => exact ⟨k + 1, A, by omega, by go_num, rfl, by omega, hs5⟩
          case measure => simp [intOf]; omega
        · have hT0 : T = 0 := by rw [hT, if_neg hend]
          subst hT0
          clear hT
          have hAb : A ≤ 2000 := by omega
          cases G with
          | true =>
            have hOS := hG rfl
            subst hOS
            have hL : 0 < L := by
              rcases Nat.eq_zero_or_pos L with h | h
              · exact absurd ⟨rfl, h⟩ hend
              · exact h
            simp at hs hA
            clear hG hend hO
            go_upto_if 54 with fail
            go_cut [13] from 51 to 126 (fun c wx => ∃ C : Nat, C ≤ 255 ∧ c = .int .i64 C ∧ wr = wx)
            case first =>
              by_cases hAl : A < os.length
              · obtain ⟨od, rfl, hy0⟩ := ho.out A hAl
                obtain ⟨y0, y1⟩ := how.out A hAl
                have hy := hs.old hy0
                clear hy0
                generalize os.getD A 0 = Y at *
                obtain ⟨Y, rfl⟩ : ∃ n : Nat, Y = n := ⟨Y.toNat, by omega⟩
                go_wp2
                go_meet
                exact ⟨Y, by omega, rfl, rfl⟩
              · go_wp2
                go_meet
                exact ⟨0, by omega, rfl, rfl⟩
            case rest =>
              obtain ⟨C, hC, rfl, rfl⟩ := hcut
              cases hc1 : ((C : Int) % 3 == 1) with
              | true =>
                by_cases h1 : L = 1
                · subst h1
                  have hV := Lib.hid (leave_st hs (k := 0) (by simp) _ rfl [0] (by simp [wrap64] <;> omega) true (by simp <;> omega))
                  go_wp2_with (go_at_call 38; refine hV.out.mono ?_; rintro e w5 ⟨rfl, hs5⟩)
                  go_roundw
                  case rel => exact ⟨A + 1, O, 0, true, 1, by go_num, rfl, rfl, rfl, rfl, by omega, by simp, by simp <;> omega, by simp, by simpa using hs5⟩
                  case measure => simp [intOf, gB] <;> omega
                · have h1' : ((L : Int) == 1) = false := by simp <;> omega
                  have h2' : ((L : Int) - 1 == 0) = false := by simp <;> omega
                  have hV := Lib.hid (leave_st hs (k := 0) (by simp) _ rfl [(L : Int) - 1] (by simp [wrap64] <;> omega) false (by simp <;> omega))
                  go_wp2_with (go_at_call 38; refine hV.out.mono ?_; rintro e w5 ⟨rfl, hs5⟩)
                  go_roundw
                  case rel => exact ⟨A + 1, O, L - 1, true, 0, by go_num, rfl, by go_num, rfl, rfl, by omega, by simp, by simp <;> omega, by simp <;> omega, by rw [show ((L - 1 : Nat) : Int) = (L : Int) - 1 by omega]; simpa using hs5⟩
                  case measure => simp [intOf, gB] <;> omega
              | false =>
                by_cases h1 : L = 1
                · subst h1
                  have hV := Lib.hid (leave_st hs (k := 0) (by simp) _ rfl [0] (by simp [wrap64] <;> omega) true (by simp <;> omega))
                  go_wp2_with (go_at_call 38; refine hV.out.mono ?_; rintro e w5 ⟨rfl, hs5⟩)
                  go_roundw
                  case rel => exact ⟨A + 1, O, 0, true, 1, by go_num, rfl, rfl, rfl, rfl, by omega, by simp, by simp <;> omega, by simp, by simpa using hs5⟩
                  case measure => simp [intOf, gB] <;> omega
                · have h1' : ((L : Int) == 1) = false := by simp <;> omega
                  have h2' : ((L : Int) - 1 == 0) = false := by simp <;> omega
                  have hV := Lib.hid (leave_st hs (k := 0) (by simp) _ rfl [(L : Int) - 1] (by simp [wrap64] <;> omega) false (by simp <;> omega))
                  go_wp2_with (go_at_call 38; refine hV.out.mono ?_; rintro e w5 ⟨rfl, hs5⟩)
                  go_roundw
                  case rel => exact ⟨A + 1, O, L - 1, true, 0, by go_num, rfl, by go_num, rfl, rfl, by omega, by simp, by simp <;> omega, by simp <;> omega, by rw [show ((L - 1 : Nat) : Int) = (L : Int) - 1 by omega]; simpa using hs5⟩
                  case measure => simp [intOf, gB] <;> omega
          | false =>
            simp at hs hA
            clear hG hend
            by_cases hOS : O < S
            · have hne : ((O : Int) == (S : Int)) = false := by simp <;> omega
              go_upto_if 54 with fail
              go_cut [13] from 51 to 126 (fun c wx => ∃ C : Nat, C ≤ 255 ∧ c = .int .i64 C ∧ wr = wx)
              case first =>
                by_cases hAl : A < os.length
                · obtain ⟨od, rfl, hy0⟩ := ho.out A hAl
                  obtain ⟨y0, y1⟩ := how.out A hAl
                  have hy := hs.old hy0
                  clear hy0
                  generalize os.getD A 0 = Y at *
                  obtain ⟨Y, rfl⟩ : ∃ n : Nat, Y = n := ⟨Y.toNat, by omega⟩
                  go_wp2
                  go_meet
                  exact ⟨Y, by omega, rfl, rfl⟩
                · go_wp2
                  go_meet
                  exact ⟨0, by omega, rfl, rfl⟩
              case rest =>
                obtain ⟨C, hC, rfl, rfl⟩ := hcut
                cases hc0 : ((C : Int) % 3 == 0) with
                | true =>
                  have hV := Lib.hid (spawn_st hs (k := 0) (by simp) _ rfl [(L : Int) + 1 + 1] (by simp [wrap64] <;> omega))
                  go_wp2_with (go_at_call 37; refine hV.out.mono ?_; rintro e w5 ⟨rfl, hs5⟩)
                  go_roundw
                  case rel => exact ⟨A + 1, O + 1, L + 1, false, 0, by go_num, by go_num, by go_num, rfl, rfl, by omega, by simp, by simp <;> omega, by simp, by rw [show ((L + 1 : Nat) : Int) = (L : Int) + 1 by omega]; simpa using hs5⟩
                  case measure => simp [intOf, gB] <;> omega
                | false =>
                  rcases Nat.eq_zero_or_pos L with hL | hL
                  · subst hL
                    have hV := Lib.hid (spawn_st hs (k := 0) (by simp) _ rfl [2] (by simp [wrap64] <;> omega))
                    go_wp2_with (go_at_call 37; refine hV.out.mono ?_; rintro e w5 ⟨rfl, hs5⟩)
                    go_roundw
                    case rel => exact ⟨A + 1, O + 1, 1, false, 0, by go_num, by go_num, rfl, rfl, rfl, by omega, by simp, by simp <;> omega, by simp, by simpa using hs5⟩
                    case measure => simp [intOf, gB] <;> omega
                  · have hL0 : ((L : Int) == 0) = false := by simp <;> omega
                    have hq : ((L : Int) + 1 == 1) = false := by simp <;> omega
                    cases hc1 : ((C : Int) % 3 == 1) with
                    | true =>
                      have hV := Lib.hid (leave_st hs (k := 0) (by simp) _ rfl [(L : Int) + 1 - 1] (by simp [wrap64] <;> omega) false (by simp <;> omega))
                      go_wp2_with (go_at_call 38; refine hV.out.mono ?_; rintro e w5 ⟨rfl, hs5⟩)
                      go_roundw
                      case rel => exact ⟨A + 1, O, L - 1, false, 0, by go_num, rfl, by go_num, rfl, rfl, by omega, by simp, by simp <;> omega, by simp, by rw [show ((L - 1 : Nat) : Int) = (L : Int) - 1 by omega]; simpa using hs5⟩
                      case measure => simp [intOf, gB] <;> omega
                    | false =>
                      have hV := Lib.hid (leave_st hs (k := 0) (by simp) _ rfl [(L : Int) + 1 - 1] (by simp [wrap64] <;> omega) false (by simp <;> omega))
                      go_wp2_with (go_at_call 38; refine hV.out.mono ?_; rintro e w5 ⟨rfl, hs5⟩)
                      go_roundw
                      case rel => exact ⟨A + 1, O, L - 1, false, 0, by go_num, rfl, by go_num, rfl, rfl, by omega, by simp, by simp <;> omega, by simp, by rw [show ((L - 1 : Nat) : Int) = (L : Int) - 1 by omega]; simpa using hs5⟩
                      case measure => simp [intOf, gB] <;> omega
            · obtain rfl : O = S := by omega
              clear hOS
              go_upto_if 54 with fail
              go_cut [13] from 51 to 126 (fun c wx => ∃ C : Nat, C ≤ 255 ∧ c = .int .i64 C ∧ wr = wx)
              case first =>
                by_cases hAl : A < os.length
                · obtain ⟨od, rfl, hy0⟩ := ho.out A hAl
                  obtain ⟨y0, y1⟩ := how.out A hAl
                  have hy := hs.old hy0
                  clear hy0
                  generalize os.getD A 0 = Y at *
                  obtain ⟨Y, rfl⟩ : ∃ n : Nat, Y = n := ⟨Y.toNat, by omega⟩
                  go_wp2
                  go_meet
                  exact ⟨Y, by omega, rfl, rfl⟩
                · go_wp2
                  go_meet
                  exact ⟨0, by omega, rfl, rfl⟩
              case rest =>
                obtain ⟨C, hC, rfl, rfl⟩ := hcut
                rcases Nat.eq_zero_or_pos L with hL | hL
                · subst hL
                  have hV := Lib.hid (leave_st hs (k := 0) (by simp) _ rfl [0] (by simp [wrap64] <;> omega) true (by simp <;> omega))
                  go_wp2_with (go_at_call 38; refine hV.out.mono ?_; rintro e w5 ⟨rfl, hs5⟩)
                  go_roundw
                  case rel => exact ⟨A + 1, O, 0, true, 1, by go_num, rfl, rfl, rfl, rfl, by omega, by simp, by simp <;> omega, by simp <;> omega, by simpa using hs5⟩
                  case measure => simp [intOf, gB] <;> omega
                · have hL0 : ((L : Int) == 0) = false := by simp <;> omega
                  have hq : ((L : Int) + 1 == 1) = false := by simp <;> omega
                  cases hc1 : ((C : Int) % 3 == 1) with
                  | true =>
                    have hV := Lib.hid (leave_st hs (k := 0) (by simp) _ rfl [(L : Int) + 1 - 1] (by simp [wrap64] <;> omega) false (by simp <;> omega))
                    go_wp2_with (go_at_call 38; refine hV.out.mono ?_; rintro e w5 ⟨rfl, hs5⟩)
                    go_roundw
                    case rel => exact ⟨A + 1, O, L - 1, false, 0, by go_num, rfl, by go_num, rfl, rfl, by omega, by simp, by simp <;> omega, by simp, by rw [show ((L - 1 : Nat) : Int) = (L : Int) - 1 by omega]; simpa using hs5⟩
                    case measure => simp [intOf, gB] <;> omega
                  | false =>
                    have hV := Lib.hid (leave_st hs (k := 0) (by simp) _ rfl [(L : Int)] (by simp [wrap64] <;> omega) false (by simp <;> omega))
                    go_wp2_with (go_at_call 38; refine hV.out.mono ?_; rintro e w5 ⟨rfl, hs5⟩)
                    go_roundw
                    case rel => exact ⟨A + 1, O, L, true, 0, by go_num, rfl, rfl, rfl, rfl, by omega, by simp, by simp <;> omega, by simp <;> omega, by simpa using hs5⟩
                    case measure => simp [intOf, gB] <;> omega
    · go_wp2_with fail
      go_ret
      exact ⟨rfl, hs.below⟩
theorem walkJoinLast (v0 v1 : Value) (w : World) (h0 : Arg Try.prog w 54 v0) (h1 : Arg Try.prog w 54 v1) :
    Calls Try.prog 11 #[v0, v1] w fun e w' => e = .returned (.bool true) ∧ Below w.heap.size w w' := by
  obtain ⟨ro, rc, rs, rfl, p1, p2, p3, p4⟩ := h0.bytes Try.underlying54 Try.underlying5 (by kernel_rfl)
  obtain ⟨oo, oc, os, rfl, q1, q2, q3, q4⟩ := h1.bytes Try.underlying54 Try.underlying5 (by kernel_rfl)
  have p5 : ∀ k, k < rs.length → 0 ≤ rs.getD k 0 ∧ rs.getD k 0 ≤ 255 := fun k hk => by
    have := p3 k hk
    simpa [Lit.wf, IntKind.min, IntKind.max, IntKind.signed, IntKind.bits, -List.getD_eq_getElem?_getD] using this
  have q5 : ∀ k, k < os.length → 0 ≤ os.getD k 0 ∧ os.getD k 0 ≤ 255 := fun k hk => by
    have := q3 k hk
    simpa [Lit.wf, IntKind.min, IntKind.max, IntKind.signed, IntKind.bits, -List.getD_eq_getElem?_getD] using this
  by_cases hl : rs.length ≤ 60 ∧ os.length ≤ 1000
  · exact last_core rs os ro oo rc oc w p1 p2 q1 q2 hl.1 hl.2 p4 p5 q4 q5
  · unfold maxLen at p2 q2
    clear p3 p4 p5 q3 q4 q5
    by_cases hl1 : rs.length ≤ 60
    · have hl2 : 1000 < os.length := by omega
      go_enter Try.func11, Try.ntmps11
      go_wp2_with (go_at_call 35; refine (works18_any _).mono ?_; rintro e w1 ⟨rfl, hb1⟩)
      go_ret
      exact ⟨rfl, hb1⟩
    · have hl2 : 60 < rs.length := by omega
      go_enter Try.func11, Try.ntmps11
      go_wp2_with (go_at_call 35; refine (works18_any _).mono ?_; rintro e w1 ⟨rfl, hb1⟩)
      go_ret
      exact ⟨rfl, hb1⟩
end Go.Proofs.Ytpijgjalabocpaa
