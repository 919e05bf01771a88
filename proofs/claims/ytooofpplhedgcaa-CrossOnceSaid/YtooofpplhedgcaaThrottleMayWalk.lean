/- The walk through the law ThrottleMay. -/
import Derived.Test.YtooofpplhedgcaaWorks20
import Derived.Test.YtooofpplhedgcaaArgs
import Derived.Test.YtooofpplhedgcaaLies
set_option linter.unusedVariables false
set_option linter.unusedSimpArgs false
namespace Go.Proofs.Ytooofpplhedgcaa
open Go.RowKit
theorem Try.infoBoolM : (Try.prog.info? 4).map (fun i => (i.zero, i.size, i.bytes)) = some (some (.bool false), 1, 1) := by kernel_rfl
theorem bmap_get {hs : List Bool} {a : Nat} (ha : a < hs.length) : (hs.map Value.bool)[a]? = some (.bool (hs.getD a false)) := by
  rw [List.getElem?_map, List.getElem?_eq_getElem ha, List.getD_eq_getElem?_getD, List.getElem?_eq_getElem ha]; rfl
theorem bset_get {hs : List Bool} {i j : Nat} {b : Bool} (h : i < hs.length) : (hs.set i b).getD j false = if i = j then b else hs.getD j false := by
  by_cases hij : i = j
  · subst hij
    rw [if_pos rfl, List.getD_eq_getElem?_getD, List.getElem?_set_self h]; rfl
  · rw [if_neg hij, List.getD_eq_getElem?_getD, List.getElem?_set_ne hij, ← List.getD_eq_getElem?_getD]
/-- What is known of the iterations: those below have all ended, those from 'started' have not. -/
structure MayInv (k S B : Nat) (es : List Bool) : Prop where
  bs : B ≤ S
  sb : S ≤ B + k
  low : ∀ j, j < B → es.getD j false = true
  high : ∀ j, S ≤ j → es.getD j false = false
  here : B < S → es.getD B false = false
theorem MayInv.one {k S B : Nat} {es : List Bool} (h : MayInv k S B es) (hk : 0 < k) {S' : Nat} (hS : S' = if S < B + k then S + 1 else S) : ∃ j, B ≤ j ∧ j < S' ∧ es.getD j false = false := by
  have h1 := h.bs
  have h2 := h.sb
  by_cases c : S < B + k
  · rw [if_pos c] at hS
    exact ⟨S, by omega, by omega, h.high S (Nat.le_refl _)⟩
  · rw [if_neg c] at hS
    exact ⟨B, by omega, by omega, h.here (by omega)⟩
set_option maxRecDepth 100000
set_option maxHeartbeats 20000000
theorem tmay_core (t : Nat) (vs : List Int) (vo : Option Addr) (vc k : Nat) (w : World) (ht : t ≤ 255) (hk : t % 64 + 1 = k) (hl1 : vs.length ≤ vc) (hl2 : vc ≤ maxLen) (hll : vs.length ≤ 300)
    (hr : ∀ i, i < vs.length → 0 ≤ vs.getD i 0 ∧ vs.getD i 0 ≤ 255) (hv : ∀ i, i < vs.length → ∃ ad, vo = some ad ∧ w.cell? (ad.add i) = some (.int .u8 (vs.getD i 0))) :
    Calls Try.prog 6 #[.int .u8 t, .slice vo vs.length vc] w fun e w' => e = .returned (.bool true) ∧ Below w.heap.size w w' := by
  obtain ⟨i0, hi, hz0, hz1', hz2'⟩ := info_parts' Try.infoBoolM
  unfold maxLen at hl2
  have hkb : 1 ≤ k ∧ k ≤ 64 := by omega
  have hkt : (t : Int) % 64 + 1 = (k : Int) := by omega
  have ht0 : 0 ≤ (t : Int) % 64 ∧ (t : Int) % 64 ≤ 63 := by omega
  replace hv := Lib.hid hv
  replace hr := Lib.hid hr
  replace hkt := Lib.hid hkt
  have ht1 : IntKind.i64.wrap (t : Int) = (t : Int) := IntWalk.i64_in _ (by omega)
  have ht2 : (t : Int).tmod 64 = (t : Int) % 64 := Int.tmod_eq_emod_of_nonneg (by omega)
  go_enter Try.func6, Try.ntmps6
  go_wp2_with (first | (go_at_call 24; refine (works20_any _).mono ?_; rintro e w1 ⟨rfl, hb1⟩) | (refine wpList_make_any _ rfl _ _ 45 rfl 4 i0 (.bool false) 1 1 Try.underlying45 hi hz0 hz1' hz2' .i64 .i64 ((vs.length : Int) + 1) ((vs.length : Int) + 1) rfl rfl (by omega) (by omega) (by omega) (by decide) ?_))
  rw [hkt.out]
  have hO : Own w (w1.alloc (.cells (madeCells #[.bool false] (vs.length + 1)) 4)) [rowA 4 1 (.slice (some ⟨w1.heap.size, 0, none⟩) (vs.length + 1) (vs.length + 1)) (vs.length + 1) ((List.replicate (vs.length + 1) false).map .bool)] := by
    refine ((Own.nil hb1).row_made 4 1 (madeCells #[.bool false] (vs.length + 1)) (vs.length + 1) (by unfold maxLen; omega) (by simp [madeCells])).cast ?_
    rw [madeK_one, List.map_replicate]; rfl
  have hI0 := Lib.hid (show MayInv k 0 0 (List.replicate (vs.length + 1) false) from ⟨by omega, by omega, fun j hj => by omega, fun j _ => by rw [List.getD_eq_getElem?_getD, List.getElem?_replicate]; split <;> rfl, by omega⟩)
  have hL0 := Lib.hid (show (List.replicate (vs.length + 1) false).length = vs.length + 1 by simp)
  generalize List.replicate (vs.length + 1) false = es0 at *
  generalize w1.alloc (.cells (madeCells #[.bool false] (vs.length + 1)) 4) = u1 at *
  generalize w1.heap.size = mb at *
  clear hb1 hkt ht0 ht1 ht2
  go_loopw [7, 8, 9] (fun sv bv iv wr => ∃ (i S B : Nat) (es : List Bool), i ≤ vs.length ∧ S ≤ i ∧ iv = .int .i64 i ∧ sv = .int .i64 S ∧ bv = .int .i64 B ∧ Hid (MayInv k S B es) ∧ Hid (es.length = vs.length + 1) ∧ Own w wr [rowA 4 1 (.slice (some ⟨mb, 0, none⟩) (vs.length + 1) (vs.length + 1)) (vs.length + 1) (es.map .bool)]) (fun _ _ iv _ => (vs.length - intOf iv).toNat)
  case atStart => exact ⟨0, 0, 0, es0, by omega, by omega, rfl, rfl, rfl, hI0, hL0, hO⟩
  case round =>
    clear hO hI0 hL0
    obtain ⟨i, S, B, es, hi', hS, rfl, rfl, rfl, hI, hL, hO⟩ := hrel
    have hbs := hI.out.bs
    have hsb := hI.out.sb
    by_cases hlt : i < vs.length
    · obtain ⟨ad, rfl, x0⟩ := hv.out i hlt
      obtain ⟨r0, r1⟩ := hr.out i hlt
      generalize vs.getD i 0 = v at *
      obtain ⟨S', hS'⟩ : ∃ S', (if S < B + k then S + 1 else S) = S' := ⟨_, rfl⟩
      obtain ⟨jF, hj1, hj2, hj3⟩ := hI.out.one (by omega) hS'.symm
      have hS2 : B < S' ∧ S' ≤ B + k ∧ S ≤ S' ∧ S' ≤ i + 1 := by split at hS' <;> omega
      have M1 := Lib.hid (fun w5 => may_any S k B (by omega) (by omega) w5 (decide (S < B + k)) (by
        rw [show max (k : Int) 1 = k by omega]
        by_cases c : S < B + k
        · rw [decide_eq_true c]; by_cases c2 : (S : Int) < k
          · simp [c2]
          · simp; omega
        · rw [decide_eq_false c, decide_eq_false (by omega), decide_eq_false (by omega)]; rfl))
      have hhigh := hI.out.high
      have hlow := hI.out.low
      have hl' := hL.out
      have hI2 : Hid (∀ j, S' ≤ j → es.getD j false = false) := Lib.hid (fun j hj => hhigh j (by omega))
      have hlow' := Lib.hid hlow
      clear hhigh hlow hbs hsb hI
      have hE : ∀ j, j < S' → wr.cell? ⟨mb, j, none⟩ = some (.bool (es.getD j false)) := fun j hj => hO.row_get 0 rfl (bmap_get (by omega))
      replace hE := Lib.hid hE
      have x1 := hO.old x0
      clear x0
      clear hj1
      have hS3 : S < B + k ∧ S' = S + 1 ∨ ¬ S < B + k ∧ S' = S := by split at hS' <;> omega
      clear hS'
      have hjF : Hid (jF < S' ∧ es.getD jF false = false) := Lib.hid ⟨hj2, hj3⟩
      clear hj2 hj3
      have hv1 : IntKind.i64.wrap v = v := IntWalk.i64_in _ (by omega)
      have hv2 : v.tmod k = v % k := Int.tmod_eq_emod_of_nonneg r0
      have hv3 : 0 ≤ v % k ∧ v % k < k := ⟨Int.emod_nonneg _ (by omega), Int.emod_lt_of_pos _ (by omega)⟩
      generalize v % (k : Int) = vk at *
      have hk0 : ¬ k = 0 := by omega
      rcases hS3 with ⟨hc, rfl⟩ | ⟨hc, rfl⟩
      all_goals
        first | rw [decide_eq_true hc] at M1 | rw [decide_eq_false hc] at M1
        clear hc
        go_wp2_with (first | (go_at_call 32; refine (M1.out _).mono ?_; rintro e w5 ⟨rfl, rfl⟩))
        first
          | rw [show (S : Int) + 1 = ((S + 1 : Nat) : Int) by omega]; generalize S + 1 = S2 at *
          | generalize S' = S2 at *
        go_loop [10, 11] (fun m n => ∃ (M N : Nat), N ≤ S2 ∧ m = .int .i64 M ∧ n = .int .i64 N ∧ M + B ≤ max N B ∧ (jF < N → 1 ≤ M)) (fun _ n => (S2 - intOf n).toNat)
        case atStart => exact ⟨0, 0, by omega, rfl, rfl, by omega, by omega⟩
        case round =>
          obtain ⟨M, N, hN, rfl, rfl, hM1, hM2⟩ := hrel
          by_cases hlt2 : N < S2
          · have y0 := hE.out N hlt2
            by_cases hB : es.getD N false = true
            · have hM3 : jF < N + 1 → 1 ≤ M := fun h => hM2 (by
                rcases Nat.lt_or_ge jF N with h1 | h1
                · exact h1
                · obtain rfl : jF = N := by omega
                  rw [hjF.out.2] at hB; cases hB)
              rw [hB] at y0
              go_wp2
              go_round
              case rel => exact ⟨M, N + 1, by omega, by go_num, by go_num, by omega, hM3⟩
              case measure => simp [intOf]; omega
            · have hB' : es.getD N false = false := by simpa using hB
              have hNB : B ≤ N := by
                rcases Nat.lt_or_ge N B with h1 | h1
                · exact absurd (hlow'.out N h1) hB
                · exact h1
              rw [hB'] at y0
              go_wp2
              go_round
              case rel => exact ⟨M + 1, N + 1, by omega, by go_num, by go_num, by omega, by omega⟩
              case measure => simp [intOf]; omega
          · obtain rfl : N = S2 := by omega
            have hM3 := hM2 hjF.out.1
            clear hM2
            have hM4 : M ≤ k := by omega
            have hM5 : ((M : Int) == 0) = false := by simp; omega
            have hM6 : decide ((k : Int) < (M : Int)) = false := by simp; omega
            by_cases hn : 0 ≤ (N : Int) - 1 - vk
            · obtain ⟨q, hq⟩ : ∃ q : Nat, (N : Int) - 1 - vk = (q : Int) := ⟨((N : Int) - 1 - vk).toNat, by omega⟩
              have hqN : q < N := by omega
              have y1 := hO.row_get 0 rfl (bmap_get (hs := es) (a := q) (by omega))
              have y2 := hO.row_free 0 rfl (j := q) (by omega)
              have hO2 := Lib.hid (show Own w (wr.setCell ⟨mb, q, none⟩ (.bool true)) [rowA 4 1 (.slice (some ⟨mb, 0, none⟩) (vs.length + 1) (vs.length + 1)) (vs.length + 1) ((es.set q true).map .bool)] from (hO.row_set 0 rfl q (.bool true) rfl).cast (by rw [← List.map_set]; rfl))
              have hl2 : (es.set q true).length = vs.length + 1 := by rw [List.length_set]; exact hl'
              have hlow2 : Hid (∀ j, j < B → (es.set q true).getD j false = true) := Lib.hid (fun j hj => by rw [bset_get (by omega)]; split; rfl; exact hlow'.out j hj)
              have hhigh2 : Hid (∀ j, N ≤ j → (es.set q true).getD j false = false) := Lib.hid (fun j hj => by rw [bset_get (by omega), if_neg (by omega)]; exact hI2.out j hj)
              generalize es.set q true = es2 at *
              clear hn
              go_wp2_with fail
              replace hO2 := hO2.out
              clear y1 y2 hO hI2 hE
              generalize wr.setCell ⟨mb, q, none⟩ (.bool true) = wr2 at *
              go_loop [8] (fun b => ∃ B1 : Nat, B ≤ B1 ∧ B1 ≤ N ∧ b = .int .i64 B1 ∧ Hid (∀ j, j < B1 → es2.getD j false = true)) (fun b => (N - intOf b).toNat)
              case atStart => exact ⟨B, Nat.le_refl _, by omega, rfl, hlow2⟩
              case round =>
                obtain ⟨B1, hB1, hB2, rfl, hB3⟩ := hrel
                by_cases hlt3 : B1 < N
                · have y0 := hO2.row_get 0 rfl (bmap_get (hs := es2) (a := B1) (by omega))
                  cases hb : es2.getD B1 false with
                  | true =>
                    rw [hb] at y0
                    go_wp2
                    go_round
                    case rel => exact ⟨B1 + 1, by omega, by omega, by go_num, Lib.hid (fun j hj => by
                      rcases Nat.lt_or_ge j B1 with h1 | h1
                      · exact hB3.out j h1
                      · obtain rfl : j = B1 := by omega
                        exact hb)⟩
                    case measure => simp [intOf]; omega
                  | false =>
                    rw [hb] at y0
                    go_wp2
                    go_roundw
                    case rel => exact ⟨i + 1, N, B1, _, by omega, by omega, by go_num, rfl, rfl, Lib.hid ⟨by omega, by omega, hB3.out, hhigh2.out, fun _ => hb⟩, Lib.hid hl2, hO2⟩
                    case measure => simp [intOf]; omega
                · obtain rfl : B1 = N := by omega
                  go_wp2
                  go_roundw
                  case rel => exact ⟨i + 1, B1, B1, _, by omega, by omega, by go_num, rfl, rfl, Lib.hid ⟨by omega, by omega, hB3.out, hhigh2.out, fun h => absurd h (by omega)⟩, Lib.hid hl2, hO2⟩
                  case measure => simp [intOf]; omega
            · clear hE
              go_wp2_with fail
              go_loop [8] (fun b => ∃ B1 : Nat, B ≤ B1 ∧ B1 ≤ N ∧ b = .int .i64 B1 ∧ Hid (∀ j, j < B1 → es.getD j false = true)) (fun b => (N - intOf b).toNat)
              case atStart => exact ⟨B, Nat.le_refl _, by omega, rfl, hlow'⟩
              case round =>
                obtain ⟨B1, hB1, hB2, rfl, hB3⟩ := hrel
                by_cases hlt3 : B1 < N
                · have y0 := hO.row_get 0 rfl (bmap_get (hs := es) (a := B1) (by omega))
                  cases hb : es.getD B1 false with
                  | true =>
                    rw [hb] at y0
                    go_wp2
                    go_round
                    case rel => exact ⟨B1 + 1, by omega, by omega, by go_num, Lib.hid (fun j hj => by
                      rcases Nat.lt_or_ge j B1 with h1 | h1
                      · exact hB3.out j h1
                      · obtain rfl : j = B1 := by omega
                        exact hb)⟩
                    case measure => simp [intOf]; omega
                  | false =>
                    rw [hb] at y0
                    go_wp2
                    go_roundw
                    case rel => exact ⟨i + 1, N, B1, _, by omega, by omega, by go_num, rfl, rfl, Lib.hid ⟨by omega, by omega, hB3.out, hI2.out, fun _ => hb⟩, Lib.hid hl', hO⟩
                    case measure => simp [intOf]; omega
                · obtain rfl : B1 = N := by omega
                  go_wp2
                  go_roundw
                  case rel => exact ⟨i + 1, B1, B1, _, by omega, by omega, by go_num, rfl, rfl, Lib.hid ⟨by omega, by omega, hB3.out, hI2.out, fun h => absurd h (by omega)⟩, Lib.hid hl', hO⟩
                  case measure => simp [intOf]; omega
    · obtain rfl : i = vs.length := by omega
      have M1 := Lib.hid (fun w5 => may_any S k S (by omega) (by omega) w5 true (by
        rw [show max (k : Int) 1 = k by omega, decide_eq_true (show (S : Int) - k < S by omega)]; simp))
      have M2 := Lib.hid (fun w5 => may_any 0 (-5) 0 (by omega) (by omega) w5 true (by decide))
      have M3 := Lib.hid (fun w5 => may_any 1 (-5) 0 (by omega) (by omega) w5 false (by decide))
      go_wp2_with (first | (go_at_call 32; (first | (with_reducible refine (M1.out _).mono ?_) | (with_reducible refine (M2.out _).mono ?_) | (with_reducible refine (M3.out _).mono ?_)); rintro e w5 ⟨rfl, rfl⟩))
      go_ret
      exact ⟨rfl, hO.below⟩
theorem walkThrottleMay (v0 v1 : Value) (w : World) (h0 : Arg Try.prog w 5 v0) (h1 : Arg Try.prog w 52 v1) :
    Calls Try.prog 6 #[v0, v1] w fun e w' => e = .returned (.bool true) ∧ Below w.heap.size w w' := by
  obtain ⟨m, rfl, hm⟩ := h0.int Try.underlying5
  simp [Lit.wf, IntKind.min, IntKind.max, IntKind.signed, IntKind.bits] at hm
  obtain ⟨m, rfl⟩ : ∃ n : Nat, m = n := ⟨m.toNat, by omega⟩
  obtain ⟨ro, rc, rs, rfl, p1, p2, p3, p4⟩ := h1.bytes Try.underlying52 Try.underlying5 (by kernel_rfl)
  have p5 : ∀ k, k < rs.length → 0 ≤ rs.getD k 0 ∧ rs.getD k 0 ≤ 255 := fun k hk => by
    have := p3 k hk
    simpa [Lit.wf, IntKind.min, IntKind.max, IntKind.signed, IntKind.bits, -List.getD_eq_getElem?_getD] using this
  by_cases hl : rs.length ≤ 300
  · exact tmay_core m rs ro rc _ w (by omega) rfl p1 p2 hl p5 p4
  · unfold maxLen at p2
    clear p3 p4 p5
    have hl2 : 300 < rs.length := by omega
    go_enter Try.func6, Try.ntmps6
    go_wp2_with (go_at_call 24; refine (works20_any _).mono ?_; rintro e w1 ⟨rfl, hb1⟩)
    go_ret
    exact ⟨rfl, hb1⟩
end Go.Proofs.Ytooofpplhedgcaa
