/- The walk through the law DequeThieves. -/
import Derived.Test.YtofnjapgacgdlaaDqWorks
set_option linter.unusedVariables false
set_option linter.unusedSimpArgs false
namespace Go.Proofs.Ytofnjapgacgdlaa
open Go.RowKit
set_option maxRecDepth 100000
set_option maxHeartbeats 8000000
/-- 100, 101 and so on. -/
def upto (n : Nat) : List Int := (List.range n).map fun (j : Nat) => (100 : Int) + j
theorem upto_len (n : Nat) : (upto n).length = n := by simp [upto]
theorem upto_succ (n : Nat) : upto (n + 1) = upto n ++ [100 + (n : Int)] := by simp [upto, List.range_succ]
theorem upto_drop {n i : Nat} (h : i < n) : (upto n).drop i = (100 + (i : Int)) :: (upto n).drop (i + 1) := by
  rw [List.drop_eq_getElem_cons (by rw [upto_len]; exact h)]
  congr 1
  simp [upto]
theorem many_push {m : List Int} {i : Nat} (hi : i < 30) (q : Quiet 44 40 m 0 (upto i)) :
    ∃ m', runW 44 40 99 1 (push0 (i : Int) (100 + (i : Int))) m = (3, ⟨99, ((i + 1 : Nat) : Int), 100 + (i : Int), 0, 0, false, false⟩, m') ∧ m'.length = m.length ∧ Quiet 44 40 m' 0 (upto (i + 1)) := by
  obtain ⟨m', h1, h2, h3⟩ := push_room q (100 + (i : Int)) (by rw [upto_len]; omega) (by rw [upto_len]; omega) 96 1
  rw [upto_succ]
  refine ⟨m', ?_, h2, h3⟩
  rw [upto_len] at h1
  rw [List.length_append, upto_len] at h1
  simpa using h1
theorem many_steal {m : List Int} {i n : Nat} (q : Quiet 44 40 m (min i n) ((upto n).drop i)) :
    ∃ m' x hh nn, runW 44 40 99 1 steal0 m = (7, ⟨99, 0, x, hh, nn, decide (i < n), false⟩, m') ∧ (i < n → x = 100 + (i : Int)) ∧ m'.length = m.length ∧ Quiet 44 40 m' (min (i + 1) n) ((upto n).drop (i + 1)) := by
  by_cases h : i < n
  · rw [upto_drop h] at q
    rw [show min i n = i by omega] at q
    obtain ⟨m', nn, h1, h2, h3⟩ := steal_first q 92 1
    refine ⟨m', 100 + (i : Int), (i : Int), nn, ?_, fun _ => rfl, h2, ?_⟩
    · refine Eq.trans (show _ = _ from h1) ?_; simp [h]
    · rw [show min (i + 1) n = i + 1 by omega]; exact h3
  · rw [List.drop_eq_nil_of_le (by rw [upto_len]; omega)] at q ⊢
    obtain ⟨m', nn, h1, h2, h3⟩ := steal_none q 92 1
    refine ⟨m', 0, ((min i n : Nat) : Int), nn, ?_, fun hh => absurd hh h, h2, ?_⟩
    · refine Eq.trans (show _ = _ from h1) ?_; simp [h]
    · rw [show min (i + 1) n = min i n by omega]; exact h3
theorem cf40 {M : Nat} (h : M = 98) : Cf 2 40 1 44 M := by subst h; exact ⟨by decide, by decide, by decide, by decide⟩
theorem dthieves_core (a b : Nat) (w : World) (ha : a < 256) (hb : b < 256) :
    Calls Try.prog 9 #[.int .u8 a, .int .u8 b] w fun e w' => e = .returned (.bool true) ∧ Below w.heap.size w w' := by
  have ok : okPlan 2 1 1 40 = true := by decide
  obtain ⟨N, hN⟩ : ∃ N : Nat, a % 30 = N := ⟨_, rfl⟩
  obtain ⟨K, hK⟩ : ∃ K : Nat, b % 5 = K := ⟨_, rfl⟩
  have hN30 : N < 30 := by omega
  have hK5 : K < 5 := by omega
  have i1 : IntKind.i64.wrap (a : Int) = (a : Int) := IntWalk.i64_in _ (by omega)
  have i2 : IntKind.i64.wrap (b : Int) = (b : Int) := IntWalk.i64_in _ (by omega)
  have e1 : (a : Int).tmod 30 = (N : Int) := by rw [Int.tmod_eq_emod_of_nonneg (by omega)]; omega
  have e2 : (b : Int).tmod 5 = (K : Int) := by rw [Int.tmod_eq_emod_of_nonneg (by omega)]; omega
  have e1' : (a : Int) % 30 = (N : Int) := by omega
  have e2' : (b : Int) % 5 = (K : Int) := by omega
  clear hN hK
  have NW := Lib.hid (fun (w1 : World) (l : List Ast) (h : Own w w1 l) => own_new h 98 (List.replicate 98 0) rfl)
  go_enter Try.func9, Try.ntmps9
  go_wp2_with (go_at_call 30; refine (works13_any _).mono ?_; rintro e w0 ⟨rfl, hb0⟩)
  go_at_call 31
  refine (plan13_any _ _).mono ?_
  rintro e w1 ⟨rfl, hb1⟩
  go_wp2_with fail
  have h1 := (Own.nil (below_chain hb0 hb1)).box #[.int .i64 2, .int .i64 1, .int .i64 1, .int .i64 40] 43
  go_at_call 22
  refine (size_ok ok _).mono ?_
  rintro e w2 ⟨rfl, hb2⟩
  have h2 := h1.grow hb2
  clear h1 hb1 hb2 hb0
  have hsz : sizeV 2 1 1 40 = 98 := by decide
  go_wp2_with fail
  go_at_call 21
  refine (NW.out _ _ h2).mono ?_
  rintro e w3 ⟨rfl, h3⟩
  have h4 := h3.sel [1, 0] (by decide)
  replace h4 : Own w w3 [storeA (w2.heap.size + 1) w2.heap.size (List.replicate 98 0), planA w1.heap.size 2 40] := h4
  clear h2 h3 hsz ok
  generalize w2.heap.size = sb at *
  generalize w1.heap.size = pb at *
  generalize hg : sb + 1 = g at *
  clear hg
  replace h4 := Lib.hid h4
  go_wp2_with fail
  go_loopw [8, 9] (fun kv jv wr => ∃ i : Nat, i ≤ N ∧ kv = .int .i64 i ∧ jv = .int .i64 i ∧ Hid (∃ ms, ms.length = 98 ∧ Quiet 44 40 ms 0 (upto i) ∧ Own w wr [storeA g sb ms, planA pb 2 40])) (fun _ kv _ => (N - intOf kv).toNat)
  case atStart => exact ⟨0, by omega, rfl, rfl, Lib.hid ⟨_, by simp, quiet_zero 44 40 98 (by decide) (by decide), h4.out⟩⟩
  case round =>
    clear h4
    obtain ⟨i, hi, rfl, rfl, hH⟩ := hrel
    by_cases hlt : i < N
    · obtain ⟨ms, hl, hq, hO⟩ := hH.out
      obtain ⟨m2, r1, l1, q1⟩ := many_push (by omega) hq
      have RN := Lib.hid (fun (w1 : World) (wb : Nat) (h : DW 2 40 1 44 w w1 g sb wb ms (push0 i (100 + (i : Int))) [planA pb 2 40]) => run13 (cf40 hl) (.inl (Nat.zero_le 2)) h _ r1)
      have PU := Lib.hid (qPush 2 40 1 44 (i : Int) (100 + (i : Int)) hO)
      obtain ⟨x0, x1, x2, x3⟩ := planC hO
      rw [hl] at l1
      replace l1 := Lib.hid l1
      replace q1 := Lib.hid q1
      clear hO hq hl r1 hH
      go_wp2_with (first | (go_at_call 28; refine PU.out.mono ?_; rintro e w5 ⟨wb, rfl, h5⟩; replace h5 := Lib.hid h5) | (go_at_call 32; refine (RN.out _ _ h5.out).mono ?_; rintro e w6 ⟨rfl, h6⟩; replace h6 := Lib.hid h6) | (go_at_call 26; refine (qTail h6.out).mono ?_; rintro e w7 ⟨rfl, rfl⟩))
      go_roundw
      case rel => exact ⟨i + 1, by omega, by go_num, by go_num, Lib.hid ⟨m2, l1.out, q1.out, h6.out.drop⟩⟩
      case measure => simp [intOf]; omega
    · obtain rfl : i = N := by omega
      go_wp2_with fail
      go_loopw [11] (fun kv wr => ∃ j : Nat, j ≤ i + K ∧ kv = .int .i64 j ∧ Hid (∃ ms, ms.length = 98 ∧ Quiet 44 40 ms (min j i) ((upto i).drop j) ∧ Own w wr [storeA g sb ms, planA pb 2 40])) (fun kv _ => (i + K - intOf kv).toNat)
      case atStart => exact ⟨0, by omega, rfl, Lib.hid (by simpa using hH.out)⟩
      case round =>
        clear hH
        obtain ⟨j, hj, rfl, hH⟩ := hrel
        by_cases hlt2 : j < i + K
        · obtain ⟨ms, hl, hq, hO⟩ := hH.out
          obtain ⟨m2, x, hh, nn, r1, hx, l1, q1⟩ := many_steal hq
          have RN := Lib.hid (fun (w1 : World) (wb : Nat) (h : DW 2 40 1 44 w w1 g sb wb ms steal0 [planA pb 2 40]) => run13 (cf40 hl) (.inr (.inr (show 30 ≤ 30 ∧ 30 ≤ 37 by decide))) h _ r1)
          have PU := Lib.hid (qSteal 2 40 1 44 hO)
          obtain ⟨x0, x1, x2, x3⟩ := planC hO
          rw [hl] at l1
          replace l1 := Lib.hid l1
          replace q1 := Lib.hid q1
          have GV := Lib.hid (show gotV ⟨99, 0, x, hh, nn, decide (j < i), false⟩ = if j < i then (100 + (j : Int), true) else (0, false) by
            unfold gotV
            by_cases c : j < i
            · rw [if_pos c, if_pos ⟨rfl, by simpa using c⟩, hx c]
            · rw [if_neg c, if_neg (by rintro ⟨_, h⟩; exact c (by simpa using h))])
          clear hO hq hl r1 hH hx
          by_cases c : j < i
          · have c2 : decide ((j : Int) < (i : Int)) = true := by simpa using c
            have G := GV.out
            rw [if_pos c] at G
            replace G := Lib.hid G
            clear GV
            go_wp2_with (first | (go_at_call 27; refine PU.out.mono ?_; rintro e w5 ⟨wb, rfl, h5⟩; replace h5 := Lib.hid h5) | (go_at_call 32; refine (RN.out _ _ h5.out).mono ?_; rintro e w6 ⟨rfl, h6⟩; replace h6 := Lib.hid h6) | (go_at_call 25; refine (qGot h6.out).mono ?_; rw [G.out]; rintro e w7 ⟨rfl, rfl⟩))
            go_roundw
            case rel => exact ⟨j + 1, by omega, by go_num, Lib.hid ⟨m2, l1.out, q1.out, h6.out.drop⟩⟩
            case measure => simp [intOf]; omega
          · have c2 : decide ((j : Int) < (i : Int)) = false := by simpa using c
            have G := GV.out
            rw [if_neg c] at G
            replace G := Lib.hid G
            clear GV
            go_wp2_with (first | (go_at_call 27; refine PU.out.mono ?_; rintro e w5 ⟨wb, rfl, h5⟩; replace h5 := Lib.hid h5) | (go_at_call 32; refine (RN.out _ _ h5.out).mono ?_; rintro e w6 ⟨rfl, h6⟩; replace h6 := Lib.hid h6) | (go_at_call 25; refine (qGot h6.out).mono ?_; rw [G.out]; rintro e w7 ⟨rfl, rfl⟩))
            go_roundw
            case rel => exact ⟨j + 1, by omega, by go_num, Lib.hid ⟨m2, l1.out, q1.out, h6.out.drop⟩⟩
            case measure => simp [intOf]; omega
        · obtain ⟨ms, hl, hq, hO⟩ := hH.out
          have hB := Lib.hid hO.below
          clear hO hq hH
          go_wp2_with fail
          go_ret
          exact ⟨rfl, hB.out⟩
theorem walkDequeThieves (v0 v1 : Value) (w : World) (h0 : Arg Try.prog w 5 v0) (h1 : Arg Try.prog w 5 v1) :
    Calls Try.prog 9 #[v0, v1] w fun e w' => e = .returned (.bool true) ∧ Below w.heap.size w w' := by
  obtain ⟨m, rfl, hm⟩ := h0.int Try.underlying5
  obtain ⟨n, rfl, hn⟩ := h1.int Try.underlying5
  simp [Lit.wf, IntKind.min, IntKind.max, IntKind.signed, IntKind.bits] at hm hn
  obtain ⟨m, rfl⟩ : ∃ k : Nat, m = k := ⟨m.toNat, by omega⟩
  obtain ⟨n, rfl⟩ : ∃ k : Nat, n = k := ⟨n.toNat, by omega⟩
  exact dthieves_core m n w (by omega) (by omega)
end Go.Proofs.Ytofnjapgacgdlaa
