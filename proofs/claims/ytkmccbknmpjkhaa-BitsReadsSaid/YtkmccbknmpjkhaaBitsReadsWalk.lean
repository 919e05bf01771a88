/- The walk through the law BitsReads. -/
import Derived.Test.YtkmccbknmpjkhaaWorks02
set_option linter.unusedVariables false
namespace Go.Proofs.Ytkmccbknmpjkhaa
open Go.RowKit
theorem numOf_true (l : List UInt8) (j : Nat) : numOf l true j = (0, l, true) := by simp [numOf]
theorem numOf_short (l : List UInt8) (j : Nat) (h : l.length < j) : numOf l false j = (0, l, true) := by simp [numOf, h]
theorem numOf_fits (l : List UInt8) (j : Nat) (h : ¬ l.length < j) : numOf l false j = (ofB (l.take j), l.drop j, false) := by simp [numOf, h]
set_option maxHeartbeats 2000000
set_option maxRecDepth 100000
theorem walkBitsReads (v0 v1 : Value) (w : World) (h0 : Arg Try.prog w 9 v0) (h1 : Arg Try.prog w 22 v1) :
    Calls Try.prog 3 #[v0, v1] w fun e w' => e = .returned (.bool true) ∧ Below w.heap.size w w' := by
  obtain ⟨s, rfl, hs0⟩ := h0.string Try.underlying9
  obtain ⟨zs, hwf, hz⟩ := h1.intsR Try.underlying22 Try.underlying3 (by kernel_rfl)
  obtain ⟨l, rfl⟩ := str_of s
  have hv : ∃ ao cap, v1 = .slice ao zs.length cap := by
    rcases hz with ⟨ao, cap, rfl, rfl, _⟩ | ⟨g, off, cap, rfl, _⟩
    · exact ⟨_, _, rfl⟩
    · exact ⟨_, _, rfl⟩
  by_cases hl0 : 1000 < l.length
  · obtain ⟨ao, cap, rfl⟩ := hv
    go_enter Try.func3, Try.ntmps3
    go_wp2_with (go_at_call 12; refine (works02_any _).mono ?_; rintro e w1 ⟨rfl, hb1⟩)
    go_ret
    exact ⟨rfl, hb1⟩
  by_cases hl00 : 1000 < zs.length
  · obtain ⟨ao, cap, rfl⟩ := hv
    go_enter Try.func3, Try.ntmps3
    go_wp2_with (go_at_call 12; refine (works02_any _).mono ?_; rintro e w1 ⟨rfl, hb1⟩)
    go_ret
    exact ⟨rfl, hb1⟩
  clear hv
  have hl1 : l.length ≤ 1000 := by omega
  have hl2 : zs.length ≤ 1000 := by omega
  clear hl0 hl00 h0 h1
  obtain ⟨v1, rfl⟩ : ∃ v, v = v1 := ⟨_, rfl⟩
  rcases hz with ⟨ao, cap, rfl, rfl, hz⟩ | ⟨g, off, cap, rfl, hz1, hz2, hz3, hz4, hz5⟩
  · go_enter Try.func3, Try.ntmps3
    go_wp2_with (first | (go_at_call 12; refine (works02_any _).mono ?_; rintro e w1 ⟨rfl, hb1⟩) | (go_at_call 13; refine (new_any _ _).mono ?_; rintro e w2 ⟨rfl, hc2, ht2, hz2⟩))
    have hb2 := ht2.below hb1 hb1.size (fun _ h => h.elim)
    go_rounds 1
    go_wp2_with (first | (go_at_call 17; (with_reducible refine (left_nil _).mono ?_); rintro e w6 ⟨rfl, rfl⟩) | (go_at_call 18; (with_reducible refine (done_nil _).mono ?_); rintro e w7 ⟨rfl, rfl⟩))
    go_ret
    exact ⟨rfl, hb2⟩
  · have HZ := Lib.hid hz5
    clear hz5
    go_enter Try.func3, Try.ntmps3
    go_wp2_with (first | (go_at_call 12; refine (works02_any _).mono ?_; rintro e w1 ⟨rfl, hb1⟩) | (go_at_call 13; refine (new_any _ _).mono ?_; rintro e w2 ⟨rfl, hc2, ht2, hz2⟩))
    go_loopw [7, 8, 9] (fun at_ sh i wr => ∃ (a : Nat) (b : Bool) (r : Nat), r ≤ zs.length ∧ a ≤ l.length ∧ at_ = .int .i64 a ∧ sh = .bool b ∧ i = .int .i64 r ∧ CutIs wr w1.heap.size (l.drop a) b ∧ Below w.heap.size w wr) (fun _ _ i _ => (zs.length - intOf i).toNat)
    case atStart => exact ⟨0, false, 0, by omega, by omega, rfl, rfl, rfl, by simpa using hc2, ht2.below hb1 hb1.size (fun _ h => h.elim)⟩
    case round =>
      obtain ⟨a, b, r, hr, ha, rfl, rfl, rfl, hc, hb⟩ := hrel
      clear hc2 ht2
      by_cases hlt : r < zs.length
      · obtain ⟨z, hz0⟩ : ∃ z, zs.getD r 0 = z := ⟨_, rfl⟩
        have hx := (hb.cell (p := ⟨g, off + r, none⟩) hz4).trans (HZ.out r hlt)
        rw [hz0] at hx
        clear hz0
        have hB : w.heap.size ≤ w1.heap.size := hb1.size
        obtain ⟨hj1, hj2⟩ := hs_bd z
        have hgr : g < wr.heap.size := Nat.lt_of_lt_of_le hz4 hb.size
        have hgn : ¬ g = w1.heap.size := by omega
        have hdl : (l.drop a).length = l.length - a := by simp
        have hb' : ∀ {S : Nat → Prop} {w' : World}, (∀ k, S k → k = w1.heap.size) → Touch S wr w' → Below w.heap.size w w' := fun hS ht => ht.below hb hb.size (fun k hk => by have := hS k hk; omega)
        cases b with
        | true =>
          have hn := fun wx h => num_any w1.heap.size (l.drop a) true z wx h (by simp; omega)
          rw [numOf_true] at hn
          have HN := Lib.hid hn
          have hd := fun wx h => done_any w1.heap.size (l.drop a) true wx h
          have HD := Lib.hid hd
          clear hn hd
          by_cases hal : a < l.length
          all_goals
            go_wp2_with (first | (go_at_call 14; refine (rsize_any _ _).mono ?_; rintro e w3 ⟨rfl, rfl⟩) | (go_at_call 16; (with_reducible refine (num_nil _ _).mono ?_); rintro e w5 ⟨rfl, rfl⟩) | (go_at_call 16; (with_reducible refine (HN.out _ (by assumption)).mono ?_); rintro e w4 ⟨rfl, hc4, ht4, hz4'⟩; have hx4 := (ht4.cell (p := ⟨g, off + r, none⟩) hgr hgn).trans hx) | (go_at_call 17; refine (left_any _ _ _ _ (by assumption)).mono ?_; rintro e w6 ⟨rfl, rfl⟩) | (go_at_call 18; refine (HD.out _ (by assumption)).mono ?_; rintro e w7 ⟨rfl, rfl⟩))
            go_roundw
            case rel => exact ⟨a, true, r + 1, by omega, by omega, rfl, rfl, by go_num, by assumption, hb' (fun k hk => hk) (by assumption)⟩
            case measure => simp only [intOf]; omega
        | false =>
          by_cases hf : a + hs z ≤ l.length
          · have hfb : decide ((l.length : Int) < (a : Int) + (hs z : Int)) = false := by simp; omega
            have hn := fun wx h => num_any w1.heap.size (l.drop a) false z wx h (by simp; omega)
            rw [numOf_fits _ _ (by omega)] at hn
            have e1 : (l.drop a).take (a + hs z - a) = (l.drop a).take (hs z) := by rw [show a + hs z - a = hs z by omega]
            have e2 : (l.drop a).drop (hs z) = l.drop (a + hs z) := by rw [List.drop_drop]
            rw [e2, ← e1] at hn
            have HN := Lib.hid hn
            have hd := fun wx h => done_any w1.heap.size (l.drop (a + hs z)) false wx h
            have hdl2 : (l.drop (a + hs z)).length = l.length - (a + hs z) := by simp
            by_cases hal : a + hs z < l.length
            · rw [hdl2, if_neg (by simp), if_neg (by omega)] at hd
              have HD := Lib.hid hd
              clear hn hd e1 e2
              go_wp2_with (first | (go_at_call 14; refine (rsize_any _ _).mono ?_; rintro e w3 ⟨rfl, rfl⟩) | (go_at_call 15; rw [ByteArray.extract_mk]; refine (of_any _ _ (by simp; omega)).mono ?_; rintro e w8 ⟨rfl, rfl⟩) | (go_at_call 16; (with_reducible refine (num_nil _ _).mono ?_); rintro e w5 ⟨rfl, rfl⟩) | (go_at_call 16; (with_reducible refine (HN.out _ (by assumption)).mono ?_); rintro e w4 ⟨rfl, hc4, ht4, hz4'⟩; have hx4 := (ht4.cell (p := ⟨g, off + r, none⟩) hgr hgn).trans hx) | (go_at_call 17; refine (left_any _ _ _ _ (by assumption)).mono ?_; rintro e w6 ⟨rfl, rfl⟩) | (go_at_call 18; refine (HD.out _ (by assumption)).mono ?_; rintro e w7 ⟨rfl, rfl⟩))
              go_roundw
              case rel => exact ⟨a + hs z, false, r + 1, by omega, by omega, by go_num, rfl, by go_num, by assumption, hb' (fun k hk => hk) (by assumption)⟩
              case measure => simp only [intOf]; omega
            · rw [hdl2, if_neg (by simp), if_pos (by omega)] at hd
              have HD := Lib.hid hd
              clear hn hd e1 e2
              go_wp2_with (first | (go_at_call 14; refine (rsize_any _ _).mono ?_; rintro e w3 ⟨rfl, rfl⟩) | (go_at_call 15; rw [ByteArray.extract_mk]; refine (of_any _ _ (by simp; omega)).mono ?_; rintro e w8 ⟨rfl, rfl⟩) | (go_at_call 16; (with_reducible refine (num_nil _ _).mono ?_); rintro e w5 ⟨rfl, rfl⟩) | (go_at_call 16; (with_reducible refine (HN.out _ (by assumption)).mono ?_); rintro e w4 ⟨rfl, hc4, ht4, hz4'⟩; have hx4 := (ht4.cell (p := ⟨g, off + r, none⟩) hgr hgn).trans hx) | (go_at_call 17; refine (left_any _ _ _ _ (by assumption)).mono ?_; rintro e w6 ⟨rfl, rfl⟩) | (go_at_call 18; refine (HD.out _ (by assumption)).mono ?_; rintro e w7 ⟨rfl, rfl⟩))
              go_roundw
              case rel => exact ⟨a + hs z, false, r + 1, by omega, by omega, by go_num, rfl, by go_num, by assumption, hb' (fun k hk => hk) (by assumption)⟩
              case measure => simp only [intOf]; omega
          · have hfb : decide ((l.length : Int) < (a : Int) + (hs z : Int)) = true := by simp; omega
            have hn := fun wx h => num_any w1.heap.size (l.drop a) false z wx h (by simp; omega)
            rw [numOf_short _ _ (by rw [hdl]; omega)] at hn
            have HN := Lib.hid hn
            have hd := fun wx h => done_any w1.heap.size (l.drop a) true wx h
            have HD := Lib.hid hd
            clear hn hd
            by_cases hal : a < l.length
            all_goals
              go_wp2_with (first | (go_at_call 14; refine (rsize_any _ _).mono ?_; rintro e w3 ⟨rfl, rfl⟩) | (go_at_call 15; rw [ByteArray.extract_mk]; refine (of_any _ _ (by simp; omega)).mono ?_; rintro e w8 ⟨rfl, rfl⟩) | (go_at_call 16; (with_reducible refine (num_nil _ _).mono ?_); rintro e w5 ⟨rfl, rfl⟩) | (go_at_call 16; (with_reducible refine (HN.out _ (by assumption)).mono ?_); rintro e w4 ⟨rfl, hc4, ht4, hz4'⟩; have hx4 := (ht4.cell (p := ⟨g, off + r, none⟩) hgr hgn).trans hx) | (go_at_call 17; refine (left_any _ _ _ _ (by assumption)).mono ?_; rintro e w6 ⟨rfl, rfl⟩) | (go_at_call 18; refine (HD.out _ (by assumption)).mono ?_; rintro e w7 ⟨rfl, rfl⟩))
              go_roundw
              case rel => exact ⟨a, true, r + 1, by omega, by omega, rfl, rfl, by go_num, by assumption, hb' (fun k hk => hk) (by assumption)⟩
              case measure => simp only [intOf]; omega
      · obtain rfl : r = zs.length := by omega
        go_wp2_with (first | (go_at_call 17; (with_reducible refine (left_nil _).mono ?_); rintro e w6 ⟨rfl, rfl⟩) | (go_at_call 18; (with_reducible refine (done_nil _).mono ?_); rintro e w7 ⟨rfl, rfl⟩))
        go_ret
        exact ⟨rfl, hb⟩
end Go.Proofs.Ytkmccbknmpjkhaa
