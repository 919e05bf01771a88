/- The walk through the law StoreSeen. -/
import Derived.Test.YtpijgjalabocpaaStoreSeen
set_option linter.unusedVariables false
set_option linter.unusedSimpArgs false
namespace Go.Proofs.Ytpijgjalabocpaa
open Go.RowKit
/-- Pieces picked out of the list by their places. -/
theorem Own.sel {w0 w : World} {l : List Ast} (h : Own w0 w l) (f : List Nat) (hf : f.Nodup) : Own w0 w (f.filterMap fun i => l[i]?) := by
  refine ⟨h.below, fun A hA => ?_, fun A hA => ?_, ?_⟩
  · obtain ⟨i, _, hi⟩ := List.mem_filterMap.1 hA
    exact h.at i hi
  · obtain ⟨i, _, hi⟩ := List.mem_filterMap.1 hA
    exact h.own A (List.mem_of_getElem? hi)
  · refine List.Pairwise.filterMap (R := (· ≠ ·)) _ ?_ hf
    intro a b hab A hA B hB k hk hk'
    rcases Nat.lt_or_gt_of_ne hab with hh | hh
    · exact h.apart a b hh hA hB k hk hk'
    · exact h.apart b a hh hB hA k hk' hk
set_option maxHeartbeats 20000000
set_option maxRecDepth 100000
theorem sseen_core (sz : Nat) (ls : List (List Int)) (lo : Option Addr) (lc : Nat) (w : World) (hsz : sz ≤ 255) (hl1 : ls.length ≤ lc) (hl2 : lc ≤ maxLen) (hll : ls.length ≤ 300)
    (g2 off : Nat) (hl : ∀ i, i < ls.length → lo = some ⟨g2, off, none⟩ ∧ ∀ j, j < 4 → w.cell? ⟨g2, off + i * 4 + j, none⟩ = some (.int .i64 ((ls.getD i []).getD j 0)))
    (hwf : ∀ i, i < ls.length → ∀ j, j < 4 → -9223372036854775808 ≤ (ls.getD i []).getD j 0 ∧ (ls.getD i []).getD j 0 ≤ 9223372036854775807) :
    Calls Try.prog 7 #[.int .u8 sz, .slice lo ls.length lc] w fun e w' => e = .returned (.bool true) ∧ Below w.heap.size w w' := by
  obtain ⟨i2, hi2, hq0, hq1', hq2'⟩ := info_parts' Try.infoSeen
  unfold maxLen at hl2
  replace hl := Lib.hid hl
  replace hwf := Lib.hid hwf
  have N := Lib.hid (fun (w1 : World) => show Calls Try.prog 15 #[.int .i64 sz] w1 fun e w' => e = .returned (.pointer (some ⟨w1.heap.size + 1, 0, none⟩)) ∧ StoreIs w' (w1.heap.size + 1) w1.heap.size (List.replicate sz 0) .nilFunc ∧ Below w1.heap.size w1 w' from by
    have := new_any (sz : Int) w1
    rwa [show (min (max (sz : Int) 0) 1048576).toNat = sz by omega] at this)
  have N2 := Lib.hid (fun (w1 : World) (l : List Ast) (h : Own w w1 l) => own_new h sz (List.replicate sz 0) (by congr 1; omega))
  have hml0 : (List.replicate sz (0 : Int)).length = sz := by simp
  generalize List.replicate sz (0 : Int) = ms0 at *
  replace hml0 := Lib.hid hml0
  go_enter Try.func7, Try.ntmps7
  go_wp2_with (go_at_call 14; refine (works09_any _).mono ?_; rintro e w1 ⟨rfl, hb1⟩)
  go_at_call 15
  refine (N.out _).mono ?_
  rintro e w2 ⟨rfl, hs2, hb2⟩
  have hO : Own w w2 [storeH (w1.heap.size + 1) w1.heap.size ms0 .nilFunc] := (Own.nil hb1).push hb2 (storeH (w1.heap.size + 1) w1.heap.size ms0 .nilFunc) hs2 (fun k hk => by rcases hk with rfl | rfl <;> omega)
  clear hs2 hb2 hb1 N
  generalize w1.heap.size = bs at *
  go_wp2_with fail
  go_at_call 15
  refine (N2.out _ _ hO).mono ?_
  rintro e w3 ⟨rfl, hO3⟩
  clear hO N2
  generalize w2.heap.size = bt at *
  have hO4 : Own w (w3.alloc (.cells #[.slice none 0 0] 50)) [storeH (bs + 1) bs ms0 .nilFunc, storeA (bt + 1) bt ms0, cellsA w3.heap.size #[.slice none 0 0] 50] := hO3.box #[.slice none 0 0] 50
  clear hO3
  go_wp2_with fail
  go_at_call 21
  generalize w3.alloc (.cells #[.slice none 0 0] 50) = u at *
  generalize w3.heap.size = sb at *
  refine (own_hookH hO4 0 rfl _ _ _).mono ?_
  rintro e w5 ⟨rfl, hO5⟩
  clear hO4
  have hO6 : SeenOwn w w5 (bs + 1) bs ms0 sb [] [storeA (bt + 1) bt ms0, rowA 52 2 (.slice none 0 0) 0 (seenL [])] := ⟨.slice none 0 0, ((hO5.push (Below.refl _ _) (rowA 52 2 (.slice none 0 0) 0 []) (Row.nil _ _ _) (by simp [rowA, Value.ownBlock])).push (Below.refl _ _) (rowA 52 2 (.slice none 0 0) 0 []) (Row.nil _ _ _) (by simp [rowA, Value.ownBlock])).sel [0, 2, 3, 1, 4] (by decide)⟩
  clear hO5
  go_wp2_with fail
  go_loopw [8, 9] (fun v i wr => ∃ (k : Nat) (ms : List Int) (ps : List (Int × Bool)) (wo : Option Addr) (wc : Nat), k ≤ ls.length ∧ ps.length ≤ k ∧ i = .int .i64 k ∧ v = .slice wo ps.length wc ∧ Hid (ms.length = sz) ∧ SeenOwn w wr (bs + 1) bs ms sb ps [storeA (bt + 1) bt ms, rowA 52 2 (.slice wo ps.length wc) ps.length (seenL ps)]) (fun _ i _ => (ls.length - intOf i).toNat)
  case atStart => exact ⟨0, ms0, [], none, 0, by omega, by simp, rfl, rfl, hml0, hO6⟩
  case round =>
    clear hO6 hml0
    obtain ⟨k, ms, ps, wo, wc, hk, hpk, rfl, rfl, hml, hO⟩ := hrel
    by_cases hlt : k < ls.length
    · obtain ⟨rfl, hx⟩ := hl.out k hlt
      have hw := hwf.out k hlt
      have x0 := hx 0 (by omega)
      have x1 := hx 1 (by omega)
      have x2 := hx 2 (by omega)
      have x3 := hx 3 (by omega)
      obtain ⟨v1a, v1b⟩ := hw 1 (by omega)
      obtain ⟨v2a, v2b⟩ := hw 2 (by omega)
      generalize (ls.getD k []).getD 0 0 = kd at *
      generalize (ls.getD k []).getD 1 0 = at_ at *
      generalize (ls.getD k []).getD 2 0 = nn at *
      generalize (ls.getD k []).getD 3 0 = old at *
      rw [Nat.add_zero] at x0
      have z0 := hO.elim fun sv hO => hO.old x0
      have z1 := hO.elim fun sv hO => hO.old x1
      have z2 := hO.elim fun sv hO => hO.old x2
      have z3 := hO.elim fun sv hO => hO.old x3
      clear x0 x1 x2 x3 hx hw
      go_wp2_with fail
      go_at_call 26
      have hK : 0 ≤ min (max kd 0) 4 ∧ min (max kd 0) 4 ≤ 4 := by omega
      generalize min (max kd 0) 4 = K at *
      have hu1 : SeenOwn w (wr.alloc (.cells #[.int .i64 K, .int .i64 at_, .int .i64 nn, .int .i64 old] 43)) (bs + 1) bs ms sb ps [storeA (bt + 1) bt ms, rowA 52 2 (.slice wo ps.length wc) ps.length (seenL ps), cellsA wr.heap.size #[.int .i64 K, .int .i64 at_, .int .i64 nn, .int .i64 old] 43] := hO.box #[.int .i64 K, .int .i64 at_, .int .i64 nn, .int .i64 old] 43
      obtain ⟨ms', x, t, hr⟩ : ∃ ms' x t, stepD K at_ nn old ms = (ms', x, t) := ⟨_, _, _, rfl⟩
      have hlen' := Lib.hid (show ms'.length = sz by have := stepD_length K at_ nn old ms; rw [hr] at this; rw [this, hml.out])
      generalize wr.alloc (.cells #[.int .i64 K, .int .i64 at_, .int .i64 nn, .int .i64 old] 43) = u1 at *
      generalize wr.heap.size = ob at *
      clear hO z0 z1 z2 z3
      by_cases hK4 : K = 4
      · have hx' : x = 0 ∧ t = true := by
          unfold stepD at hr
          rw [if_pos hK4] at hr
          simp only [Prod.mk.injEq] at hr
          exact ⟨hr.2.1.symm, hr.2.2.symm⟩
        obtain ⟨rfl, rfl⟩ := hx'
        have hm : fillL ms (fillA at_ nn) (fillM at_ nn) old ms.length = ms' := by
          unfold stepD at hr
          rw [if_pos hK4] at hr
          simp only [Prod.mk.injEq] at hr
          exact hr.1
        subst hK4
        have D1 := Lib.hid (do_seen_fill hu1 at_ nn old ⟨v1a, v1b⟩ ⟨v2a, v2b⟩ ms' hm)
        have D2 := Lib.hid (fun (w5 : World) (psn : List (Int × Bool)) (h : SeenOwn w w5 (bs + 1) bs ms' sb psn [storeA (bt + 1) bt ms, rowA 52 2 (.slice wo ps.length wc) ps.length (seenL ps), cellsA ob #[.int .i64 4, .int .i64 at_, .int .i64 nn, .int .i64 old] 43]) => h.elim fun sv hO => (own_do hO 3 rfl 4 at_ nn old hK ⟨v1a, v1b⟩ ⟨v2a, v2b⟩ ms' 0 true hr).mono (R' := fun e w' => e = .returned (.tuple #[.int .i64 0, .bool true]) ∧ SeenOwn w w' (bs + 1) bs ms' sb psn [storeA (bt + 1) bt ms', rowA 52 2 (.slice wo ps.length wc) ps.length (seenL ps), cellsA ob #[.int .i64 4, .int .i64 at_, .int .i64 nn, .int .i64 old] 43]) fun e w' ⟨he, hw⟩ => ⟨he, sv, hw⟩)
        replace hr := Lib.hid hr
        refine D1.out.mono ?_
        rintro e w6 ⟨rfl, hw6⟩
        clear hu1 D1 hm
        have hq5 : ∀ j, w6.cell? ⟨ob, j, none⟩ = (#[Value.int .i64 4, .int .i64 at_, .int .i64 nn, .int .i64 old] : Array Value)[j]? := fun j => hw6.elim fun sv hO => (hO.cget 5 rfl j).1
        obtain ⟨y0, y1, y2, y3⟩ := And.intro (hq5 0) (And.intro (hq5 1) (And.intro (hq5 2) (hq5 3)))
        simp at y0 y1 y2 y3
        clear hq5
        
        go_wp2_with fail
        go_at_call 26
        refine (D2.out _ _ hw6).mono ?_
        rintro e w7 ⟨rfl, hw7⟩
        clear y0 y1 y2 y3 hw6 D2
        have hq5 : ∀ j, w7.cell? ⟨ob, j, none⟩ = (#[Value.int .i64 4, .int .i64 at_, .int .i64 nn, .int .i64 old] : Array Value)[j]? := fun j => hw7.elim fun sv hO => (hO.cget 5 rfl j).1
        obtain ⟨y0, y1, y2, y3⟩ := And.intro (hq5 0) (And.intro (hq5 1) (And.intro (hq5 2) (hq5 3)))
        simp at y0 y1 y2 y3
        clear hq5
        
        go_wp2_with fail
        go_roundw
        case rel => exact ⟨k + 1, ms', ps, wo, wc, by omega, by omega, by go_num, rfl, hlen', hw7.unbox (l := [storeA (bt + 1) bt ms', rowA 52 2 (.slice wo ps.length wc) ps.length (seenL ps)])⟩
        case measure => simp [intOf]; omega
        
      · have hK3 : K < 4 := by omega
        by_cases hin : at_ < 0 ∨ (ms.length : Int) ≤ at_
        · have hx' : ms = ms' ∧ x = 0 ∧ t = false := by
            unfold stepD at hr
            rw [if_neg hK4, if_pos hin] at hr
            simp only [Prod.mk.injEq] at hr
            exact ⟨hr.1, hr.2.1.symm, hr.2.2.symm⟩
          obtain ⟨rfl, rfl, rfl⟩ := hx' 
          have D1 := Lib.hid (do_seen_out hu1 K at_ nn old (by omega) hin)
          have D2 := Lib.hid (fun (w5 : World) (psn : List (Int × Bool)) (h : SeenOwn w w5 (bs + 1) bs ms sb psn [storeA (bt + 1) bt ms, rowA 52 2 (.slice wo ps.length wc) ps.length (seenL ps), cellsA ob #[.int .i64 K, .int .i64 at_, .int .i64 nn, .int .i64 old] 43]) => h.elim fun sv hO => (own_do hO 3 rfl K at_ nn old hK ⟨v1a, v1b⟩ ⟨v2a, v2b⟩ ms 0 false hr).mono (R' := fun e w' => e = .returned (.tuple #[.int .i64 0, .bool false]) ∧ SeenOwn w w' (bs + 1) bs ms sb psn [storeA (bt + 1) bt ms, rowA 52 2 (.slice wo ps.length wc) ps.length (seenL ps), cellsA ob #[.int .i64 K, .int .i64 at_, .int .i64 nn, .int .i64 old] 43]) fun e w' ⟨he, hw⟩ => ⟨he, sv, hw⟩)
          replace hr := Lib.hid hr
          refine D1.out.mono ?_
          rintro e w6 ⟨rfl, hw6⟩
          clear hu1 D1 hin
          have hq5 : ∀ j, w6.cell? ⟨ob, j, none⟩ = (#[Value.int .i64 K, .int .i64 at_, .int .i64 nn, .int .i64 old] : Array Value)[j]? := fun j => hw6.elim fun sv hO => (hO.cget 5 rfl j).1
          obtain ⟨y0, y1, y2, y3⟩ := And.intro (hq5 0) (And.intro (hq5 1) (And.intro (hq5 2) (hq5 3)))
          simp at y0 y1 y2 y3
          clear hq5
          
          go_wp2_with fail
          go_at_call 26
          refine (D2.out _ _ hw6).mono ?_
          rintro e w7 ⟨rfl, hw7⟩
          clear y0 y1 y2 y3 hw6 D2
          have hq5 : ∀ j, w7.cell? ⟨ob, j, none⟩ = (#[Value.int .i64 K, .int .i64 at_, .int .i64 nn, .int .i64 old] : Array Value)[j]? := fun j => hw7.elim fun sv hO => (hO.cget 5 rfl j).1
          obtain ⟨y0, y1, y2, y3⟩ := And.intro (hq5 0) (And.intro (hq5 1) (And.intro (hq5 2) (hq5 3)))
          simp at y0 y1 y2 y3
          clear hq5
          
          go_wp2_with fail
          go_roundw
          case rel => exact ⟨k + 1, ms, ps, wo, wc, by omega, by omega, by go_num, rfl, hlen', hw7.unbox (l := [storeA (bt + 1) bt ms, rowA 52 2 (.slice wo ps.length wc) ps.length (seenL ps)])⟩
          case measure => simp [intOf]; omega
          
        · obtain ⟨a, rfl⟩ : ∃ a : Nat, at_ = a := ⟨at_.toNat, by omega⟩
          have ha : a < ms.length := by omega
          have ht : t = true := by
            unfold stepD at hr
            rw [if_neg hK4, if_neg hin] at hr
            repeat' split at hr
            all_goals (simp only [Prod.mk.injEq] at hr; exact hr.2.2.symm)
          subst ht
          have D1 := Lib.hid (do_seen_in hu1 (by omega) K nn old a (by omega) ha ms' x hr)
          have D2 := Lib.hid (fun (w5 : World) (psn : List (Int × Bool)) (h : SeenOwn w w5 (bs + 1) bs ms' sb psn [storeA (bt + 1) bt ms, rowA 52 2 (.slice wo ps.length wc) ps.length (seenL ps), cellsA ob #[.int .i64 K, .int .i64 a, .int .i64 nn, .int .i64 old] 43]) => h.elim fun sv hO => (own_do hO 3 rfl K a nn old hK ⟨v1a, v1b⟩ ⟨v2a, v2b⟩ ms' x true hr).mono (R' := fun e w' => e = .returned (.tuple #[.int .i64 x, .bool true]) ∧ SeenOwn w w' (bs + 1) bs ms' sb psn [storeA (bt + 1) bt ms', rowA 52 2 (.slice wo ps.length wc) ps.length (seenL ps), cellsA ob #[.int .i64 K, .int .i64 a, .int .i64 nn, .int .i64 old] 43]) fun e w' ⟨he, hw⟩ => ⟨he, sv, hw⟩)
          replace hr := Lib.hid hr
          have hx0 : (x != x) = false := by simp
          refine D1.out.mono ?_
          rintro e w6 ⟨rfl, hw6⟩
          clear hu1 D1 hin ha
          have hq5 : ∀ j, w6.cell? ⟨ob, j, none⟩ = (#[Value.int .i64 K, .int .i64 a, .int .i64 nn, .int .i64 old] : Array Value)[j]? := fun j => hw6.elim fun sv hO => (hO.cget 5 rfl j).1
          obtain ⟨y0, y1, y2, y3⟩ := And.intro (hq5 0) (And.intro (hq5 1) (And.intro (hq5 2) (hq5 3)))
          simp at y0 y1 y2 y3
          clear hq5
          
          go_wp2_with fail
          go_at_call 26
          refine (D2.out _ _ hw6).mono ?_
          rintro e w7 ⟨rfl, hw7⟩
          clear y0 y1 y2 y3 hw6 D2
          have hq5 : ∀ j, w7.cell? ⟨ob, j, none⟩ = (#[Value.int .i64 K, .int .i64 a, .int .i64 nn, .int .i64 old] : Array Value)[j]? := fun j => hw7.elim fun sv hO => (hO.cget 5 rfl j).1
          obtain ⟨y0, y1, y2, y3⟩ := And.intro (hq5 0) (And.intro (hq5 1) (And.intro (hq5 2) (hq5 3)))
          simp at y0 y1 y2 y3
          clear hq5
          
          obtain ⟨sv, hO7⟩ := hw7
          have hr3 := hO7.row 4 rfl
          obtain ⟨_, _, q0, s1, s2, s3⟩ := hr3.shape
          simp only [Value.slice.injEq] at q0
          obtain ⟨rfl, _, rfl⟩ := q0
          unfold maxLen at s2
          have hE := Lib.hid (fun (w2 : World) (ao2 : Option Addr) (cap2 : Nat) (hr2 : Row w2 52 2 (.slice ao2 (ps.length + 1) cap2) (ps.length + 1) (seenL ps ++ [.int .i64 a, .bool (decide (0 < K))])) (ht2 : Touch (fun k => Value.ownBlock (.slice wo ps.length wc) = some k) w7 w2) (hf2 : ∀ k, Value.ownBlock (.slice ao2 (ps.length + 1) cap2) = some k → Value.ownBlock (.slice wo ps.length wc) = some k ∨ w7.heap.size ≤ k) => hO7.move 4 rfl (Moves.of_append hr2 ht2 hf2))
          clear hO7
          go_wp2_with (first | (at_builtin; refine wpList_append_lit' _ rfl (.tmp 71) (.tmp 78) 50 rfl 52 i2 _ 2 16 Try.underlying50 hi2 hq0 hq1' hq2' rfl (by decide) (.slice wo ps.length wc) ps.length (seenL ps) rfl hr3 #[.int .i64 a, .bool (decide (0 < K))] _ 1 _ rfl rfl rfl (by simp [Value.oneCell']) (by unfold maxLen; omega) (by omega) ?_; intro ao2 cap2 wz hr2 ht2 hf2))
          have hO8 := hE.out _ _ _ hr2 ht2 hf2
          rw [seenL_snoc, show ps.length + 1 = (ps ++ [((a : Int), decide (0 < K))]).length by simp] at hO8
          go_roundw
          case rel => exact ⟨k + 1, ms', ps ++ [((a : Int), decide (0 < K))], ao2, cap2, by omega, by simp; omega, by go_num, by simp, hlen', SeenOwn.unbox (l := [storeA (bt + 1) bt ms', rowA 52 2 (.slice ao2 (ps ++ [((a : Int), decide (0 < K))]).length cap2) (ps ++ [((a : Int), decide (0 < K))]).length (seenL (ps ++ [((a : Int), decide (0 < K))]))]) ⟨sv, hO8⟩⟩
          case measure => simp [intOf]; omega
          
    · obtain rfl : k = ls.length := by omega
      obtain ⟨sv, hO⟩ := hO
      have c0 := (hO.cget 1 rfl 0).1
      simp at c0
      obtain ⟨so, sc, rfl, s1, s2, s3⟩ := (hO.row 2 rfl).shape
      obtain ⟨_, _, q0, s4, s5, s6⟩ := (hO.row 4 rfl).shape
      simp only [Value.slice.injEq] at q0
      obtain ⟨rfl, _, rfl⟩ := q0
      unfold maxLen at s2 s5
      have hlp : ps.length ≤ 1000 := by omega
      have hget := Lib.hid (fun (j : Nat) (hj : j < ps.length) => show ∃ g3 off3 g4 off4, so = some ⟨g3, off3, none⟩ ∧ wo = some ⟨g4, off4, none⟩ ∧ wr.cell? ⟨g3, off3 + j * 2, none⟩ = some (.int .i64 ps[j].1) ∧ wr.cell? ⟨g3, off3 + j * 2 + 1, none⟩ = some (.bool ps[j].2) ∧ wr.cell? ⟨g4, off4 + j * 2, none⟩ = some (.int .i64 ps[j].1) ∧ wr.cell? ⟨g4, off4 + j * 2 + 1, none⟩ = some (.bool ps[j].2) by
        obtain ⟨g3, off3, cap3, hv3, q1, q2, q3, q4⟩ := (hO.row 2 rfl).addr (by omega)
        obtain ⟨g4, off4, cap4, hv4, r1, r2, r3, r4⟩ := (hO.row 4 rfl).addr (by omega)
        simp only [Value.slice.injEq] at hv3 hv4
        obtain ⟨q5, q6⟩ := seenL_get ps j hj
        refine ⟨g3, off3, g4, off4, hv3.1, hv4.1, ?_, ?_, ?_, ?_⟩
        · rw [q3 _ (by omega), q5]
        · rw [Nat.add_assoc, q3 _ (by omega), q6]
        · rw [r3 _ (by omega), q5]
        · rw [Nat.add_assoc, r3 _ (by omega), q6])
      have E1 := fun (w8 : World) (h : Own w w8 (seenS (bs + 1) bs ms sb (.slice so ps.length sc) ps [storeA (bt + 1) bt ms, rowA 52 2 (.slice wo ps.length wc) ps.length (seenL ps)])) => own_allH h 0 rfl
      have E2 := fun (w8 : World) (l : List Ast) (h : Own w w8 (seenS (bs + 1) bs ms sb (.slice so ps.length sc) ps (storeA (bt + 1) bt ms :: l))) => own_all h 3 rfl
      have I := fun (w8 : World) (ao8 : Option Addr) (cap8 : Nat) (ao5 : Option Addr) (cap5 : Nat) (h : Lies w8 ao8 cap8 ms) (h' : Lies w8 ao5 cap5 ms) => ints_any ao8 ao5 cap8 cap5 ms ms w8 h h'
      rw [show (ms == ms) = true by simp] at I
      have hL := fun (w8 : World) (ao8 : Option Addr) (cap8 : Nat) (h : Own w w8 (seenS (bs + 1) bs ms sb (.slice so ps.length sc) ps [storeA (bt + 1) bt ms, rowA 52 2 (.slice wo ps.length wc) ps.length (seenL ps)] ++ [rowA 3 1 (.slice ao8 ms.length cap8) ms.length (ms.map (.int .i64))])) => Lies.of_row (h.row 5 rfl) rfl
      rw [hml.out] at E1 E2 I hL
      replace E1 := Lib.hid E1
      replace E2 := Lib.hid E2
      replace I := Lib.hid I
      replace hL := Lib.hid hL
      go_wp2_with fail
      go_loopw [15] (fun i wx => ∃ j m : Nat, j ≤ ps.length ∧ i = .int .i64 j ∧ wx = wr.drewN m) (fun i _ => (ps.length - intOf i).toNat)
      case atStart => exact ⟨0, 0, by omega, rfl, rfl⟩
      case round =>
        obtain ⟨j, m, hj, rfl, rfl⟩ := hrel
        by_cases hlt2 : j < ps.length
        · obtain ⟨g3, off3, g4, off4, rfl, rfl, z0, z1, z2, z3⟩ := hget.out j hlt2
          generalize ps[j].1 = X at *
          generalize ps[j].2 = Y at *
          clear hget
          go_wp2
          go_quiet (fail)
          go_wp2
          go_roundw
          case rel => exact ⟨j + 1, _, by omega, by go_num, by first | rfl | exact drewN_two⟩
          case measure => simp [intOf]; omega
        · obtain rfl : j = ps.length := by omega
          have hO9 := hO.drewN m
          generalize wr.drewN m = w8 at *
          clear hget c0
          have c0 := (hO9.cget 1 rfl 0).1
          simp at c0
          go_wp2_with fail
          go_at_call 18
          refine (E1.out _ hO9).mono ?_
          rintro e w9 ⟨ao9, cap9, rfl, hO10⟩
          go_wp2_with fail
          go_at_call 18
          refine (E2.out _ _ hO10).mono ?_
          rintro e w10 ⟨ao10, cap10, rfl, hO11, hL10, _, _, _⟩
          go_wp2_with fail
          go_at_call 23
          refine (I.out _ _ _ _ _ (hL.out _ _ _ hO11) hL10).mono ?_
          rintro e w11 ⟨rfl, m11, rfl⟩
          go_wp2_with fail
          go_ret
          exact ⟨rfl, (hO11.drewN m11).below⟩
theorem walkStoreSeen (v0 v1 : Value) (w : World) (h0 : Arg Try.prog w 5 v0) (h1 : Arg Try.prog w 40 v1) :
    Calls Try.prog 7 #[v0, v1] w fun e w' => e = .returned (.bool true) ∧ Below w.heap.size w w' := by
  obtain ⟨sz, rfl, hs⟩ := h0.int Try.underlying5
  simp [Lit.wf, IntKind.min, IntKind.max, IntKind.signed, IntKind.bits] at hs
  obtain ⟨sz, rfl⟩ : ∃ n : Nat, sz = n := ⟨sz.toNat, by omega⟩
  obtain ⟨lo, lc, ls, rfl, p1, p2, p3, g2, off, p4⟩ := h1.structs' 4 Try.underlying40 (by kernel_rfl) Try.underlying3 (by kernel_rfl) (by kernel_rfl) (by decide)
  by_cases hl : ls.length ≤ 300
  · exact sseen_core sz ls lo lc w (by omega) p1 p2 hl g2 off p4 (fun i hi j hj => by
      have := p3 i hi j hj
      simp [Lit.wf, IntKind.min, IntKind.max, IntKind.signed, IntKind.bits] at this
      exact this)
  · unfold maxLen at p2
    clear p4 p3
    have hl2 : 300 < ls.length := by omega
    go_enter Try.func7, Try.ntmps7
    go_wp2_with (go_at_call 14; refine (works09_any _).mono ?_; rintro e w1 ⟨rfl, hb1⟩)
    go_ret
    exact ⟨rfl, hb1⟩
end Go.Proofs.Ytpijgjalabocpaa
