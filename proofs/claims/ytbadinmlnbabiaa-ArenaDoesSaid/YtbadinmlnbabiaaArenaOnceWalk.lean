/- The walk through the law ArenaOnce. -/
import Derived.Test.YtbadinmlnbabiaaArenaInv
import Derived.Test.YtbadinmlnbabiaaArgs
set_option linter.unusedVariables false
set_option linter.unusedSimpArgs false
namespace Go.Proofs.Ytbadinmlnbabiaa
open Go.RowKit
set_option maxHeartbeats 8000000
set_option maxRecDepth 100000
theorem works10_any (w : World) : Calls Try.prog 29 #[] w fun e w' => e = .returned (.bool true) ∧ Below w.heap.size w w' := by
  have N := Lib.hid (aNew_any 2 2 rfl (Below.refl w.heap.size w))
  have T1 := Lib.hid (fun (w5 : World) (h : AOwn w w5 (w.heap.size + 1) w.heap.size [false, false, false] [] 0 0 []) => take_yes h (by decide) (by decide) (by decide) (id := 1) (bs' := []) (fr' := 1) (by decide) (by decide) [false, true, false] 1 rfl (by decide))
  have T2 := Lib.hid (fun (w5 : World) (h : AOwn w w5 (w.heap.size + 1) w.heap.size [false, true, false] [] 1 1 []) => take_yes h (by decide) (by decide) (by decide) (id := 2) (bs' := []) (fr' := 2) (by decide) (by decide) [false, true, true] 2 rfl (by decide))
  have T3 := Lib.hid (fun (w5 : World) (h : AOwn w w5 (w.heap.size + 1) w.heap.size [false, true, true] [] 2 2 []) => take_no h (by decide) (by decide) (by decide))
  have G1 := Lib.hid (fun (w5 : World) (h : AOwn w w5 (w.heap.size + 1) w.heap.size [false, true, true] [] 2 2 []) => give_yes h (by decide) (by decide) 1 (by decide) [false, false, true] rfl)
  have G2 := Lib.hid (fun (w5 : World) (h : AOwn w w5 (w.heap.size + 1) w.heap.size [false, false, true] [1] 2 2 []) => give_no h (by decide) 1 (by decide))
  have H := Lib.hid (fun (w5 : World) (h : AOwn w w5 (w.heap.size + 1) w.heap.size [false, false, true] [1] 2 2 []) => held_own h (by decide) 2 true (by decide))
  have U := Lib.hid (fun (w5 : World) (h : AOwn w w5 (w.heap.size + 1) w.heap.size [false, false, true] [1] 2 2 []) => show Calls Try.prog 36 #[.pointer (some ⟨w.heap.size + 1, 0, none⟩)] w5 fun e w' => e = .returned (.int .i64 1) ∧ AOwn w w' (w.heap.size + 1) w.heap.size [false, false, true] [1] 2 2 [] from used_own h (by decide))
  have PK := Lib.hid (fun (w5 : World) (h : AOwn w w5 (w.heap.size + 1) w.heap.size [false, false, true] [1] 2 2 []) => peak_own h)
  go_enter Try.func29, Try.ntmps29
  go_wp2_with fail
  go_at_call 30
  refine N.out.mono ?_
  rintro e w1 ⟨rfl, h1⟩
  go_wp2_with fail
  go_at_call 32
  refine (T1.out _ h1).mono ?_
  rintro e w2 ⟨rfl, h2⟩
  go_wp2_with fail
  go_at_call 32
  refine (T2.out _ h2).mono ?_
  rintro e w3 ⟨rfl, h3⟩
  go_wp2_with fail
  go_at_call 32
  refine (T3.out _ h3).mono ?_
  rintro e w4 ⟨rfl, h4⟩
  go_wp2_with fail
  go_at_call 34
  refine (G1.out _ h4).mono ?_
  rintro e w5 ⟨rfl, h5⟩
  go_wp2_with fail
  go_at_call 34
  refine (G2.out _ h5).mono ?_
  rintro e w6 ⟨rfl, rfl⟩
  go_wp2_with (first | (go_at_call 38; refine (H.out _ h5).mono ?_; rintro e w6 ⟨rfl, rfl⟩) | (go_at_call 36; refine (U.out _ h5).mono ?_; rintro e w7 ⟨rfl, h7⟩) | (go_at_call 37; refine (PK.out _ h7).mono ?_; rintro e w8 ⟨rfl, rfl⟩))
  go_ret
  exact ⟨rfl, h7.below⟩
theorem aonce_core (N : Nat) (ls : List (List Int)) (lo : Option Addr) (lc : Nat) (w : World) (hN : N ≤ 255) (hl1 : ls.length ≤ lc) (hl2 : lc ≤ maxLen) (hll : ls.length ≤ 300)
    (g2 off : Nat) (hl : ∀ i, i < ls.length → lo = some ⟨g2, off, none⟩ ∧ ∀ j, j < 2 → w.cell? ⟨g2, off + i * 2 + j, none⟩ = some (.int .i64 ((ls.getD i []).getD j 0))) :
    Calls Try.prog 8 #[.int .u8 N, .slice lo ls.length lc] w fun e w' => e = .returned (.bool true) ∧ Below w.heap.size w w' := by
  obtain ⟨i0, hi, hz0, hz1', hz2'⟩ := info_parts' Try.infoBoolK
  unfold maxLen at hl2
  replace hl := Lib.hid hl
  have NW := Lib.hid (fun (w1 : World) (h : Below w.heap.size w w1) => aNew_any N N (by omega) h)
  go_enter Try.func8, Try.ntmps8
  go_wp2_with (go_at_call 29; refine (works10_any _).mono ?_; rintro e w1 ⟨rfl, hb1⟩)
  go_at_call 30
  refine (NW.out _ hb1).mono ?_
  rintro e w2 ⟨rfl, h2⟩
  clear hb1 NW
  go_wp2_with (first | (refine wpList_make_any _ rfl _ _ 60 rfl 4 i0 (.bool false) 1 1 Try.underlying60 hi hz0 hz1' hz2' .i64 .i64 257 257 rfl rfl (by omega) (by omega) (by omega) (by decide) ?_))
  have h3 : AOwn w (w2.alloc (.cells (madeCells #[.bool false] 257) 4)) (w1.heap.size + 1) w1.heap.size (List.replicate (N + 1) false) [] 0 0 [rowA 4 1 (.slice (some ⟨w2.heap.size, 0, none⟩) 257 257) 257 ((List.replicate 257 false).map .bool)] := by
    obtain ⟨bv, h⟩ := h2
    refine ⟨bv, (h.row_made 4 1 (madeCells #[.bool false] 257) 257 (by simp [maxLen]) (by simp [madeCells])).cast ?_⟩
    rw [madeK_one, List.map_replicate]; rfl
  have hr0 := Lib.hid (show (List.replicate 257 false).length = 257 ∧ ∀ j, j ≤ N → (List.replicate 257 false).getD j false = (List.replicate (N + 1) false).getD j false by
    refine ⟨by rw [List.length_replicate], fun j hj => ?_⟩
    rw [List.getD_eq_getElem?_getD, List.getElem?_replicate, List.getD_eq_getElem?_getD, List.getElem?_replicate, if_pos (by omega), if_pos (by omega)])
  have hI0 := Lib.hid (AInv.new N)
  have hc0 := Lib.hid (show ((List.replicate (N + 1) false).count true : Nat) = 0 by simp [List.count_replicate])
  generalize w2.alloc (.cells (madeCells #[.bool false] 257) 4) = u at *
  generalize List.replicate (N + 1) false = hs0 at *
  generalize List.replicate 257 false = hl0 at *
  generalize w1.heap.size = hb at *
  generalize w2.heap.size = mb at *
  clear h2
  go_loopw [7, 8] (fun us i wr => ∃ (k fr : Nat) (hs hl : List Bool) (bs : List Int) (pk : Int), k ≤ ls.length ∧ i = .int .i64 k ∧ us = .int .i64 (hs.count true : Nat) ∧ Hid (AInv N hs bs fr) ∧ Hid ((hs.count true : Nat) ≤ pk ∧ pk ≤ N) ∧ Hid (hl.length = 257 ∧ ∀ j, j ≤ N → hl.getD j false = hs.getD j false) ∧ AOwn w wr (hb + 1) hb hs bs fr pk [rowA 4 1 (.slice (some ⟨mb, 0, none⟩) 257 257) 257 (hl.map .bool)]) (fun _ i _ => (ls.length - intOf i).toNat)
  case atStart => exact ⟨0, 0, hs0, hl0, [], 0, by omega, rfl, by rw [hc0.out]; rfl, hI0, Lib.hid (by rw [hc0.out]; omega), hr0, h3⟩
  case round =>
    clear h3 hI0 hr0 hc0
    obtain ⟨k, fr, hs, hl', bs, pk, hk, rfl, rfl, hI, hp, hr, hO⟩ := hrel
    by_cases hlt : k < ls.length
    · obtain ⟨rfl, hx⟩ := hl.out k hlt
      have x0 := hx 0 (by omega)
      have x1 := hx 1 (by omega)
      generalize (ls.getD k []).getD 0 0 = kd at *
      generalize (ls.getD k []).getD 1 0 = nn at *
      rw [Nat.add_zero] at x0
      have z0 := hO.old x0
      have z1 := hO.old x1
      clear x0 x1 hx
      have hNI := hI.out
      have hlen := hNI.len
      have hfr : fr ≤ 4096 := by have := hNI.frN; omega
      have hbl : bs.length ≤ 100000 := by have := hNI.ct; have := hNI.frN; omega
      have hp1 := hp.out
      have hr1 := hr.out
      replace hlen := Lib.hid hlen
      by_cases hk3 : kd < 3
      · obtain ⟨nx, hnx⟩ : ∃ nx, nextA hs bs fr = nx := ⟨_, rfl⟩
        cases nx with
        | none =>
          have hU := hNI.full hnx
          have T := Lib.hid (take_no hO (by rw [hlen.out]; omega) hfr hnx)
          obtain ⟨U, hU2⟩ : ∃ U, hs.count true = U := ⟨_, rfl⟩
          rw [hU2] at hU
          simp only [hU2]
          replace hU2 := Lib.hid hU2
          subst hU
          clear hNI hnx hp1 hr1 hO
          go_wp2_with (first | (go_at_call 32; refine T.out.mono ?_; rintro e w5 ⟨rfl, h5⟩))
          go_roundw
          case rel => exact ⟨k + 1, fr, hs, hl', bs, pk, by omega, by go_num, by rw [hU2.out], hI, hp, hr, h5⟩
          case measure => simp [intOf]; omega
        | some q =>
          obtain ⟨id, bs', fr'⟩ := q
          obtain ⟨i, rfl, i1, i2, i3, hI', hlt3⟩ := hNI.take hnx
          have hct := count_true (by rw [hlen.out]; omega) i3
          have T := Lib.hid (take_yes hO (by rw [hlen.out]; omega) hbl hfr hnx (by rw [hlen.out]; omega) (hs.set i true) _ rfl rfl)
          have hcn := cnt_count (hs.set i true)
          have hr' := Lib.hid (show (hl'.set i true).length = 257 ∧ ∀ j, j ≤ N → (hl'.set i true).getD j false = (hs.set i true).getD j false by
            refine ⟨by rw [List.length_set]; exact hr1.1, fun j hj => ?_⟩
            rw [bget_set (by omega), bget_set (by rw [hlen.out]; omega), hr1.2 j hj])
          have hpk' := Lib.hid (show (((hs.set i true).count true : Nat) : Int) ≤ max pk (cnt (hs.set i true)) ∧ max pk (cnt (hs.set i true)) ≤ N by omega)
          generalize max pk (cnt (hs.set i true)) = pk' at *
          have G := Lib.hid (fun (w5 : World) (h : AOwn w w5 (hb + 1) hb (hs.set i true) bs' fr' pk' [rowA 4 1 (.slice (some ⟨mb, 0, none⟩) 257 257) 257 (hl'.map .bool)]) => show w5.cell? ⟨mb, i, none⟩ = some (.bool false) ∧ w5.frozen? ⟨mb, i, none⟩ = false ∧ AOwn w (w5.setCell ⟨mb, i, none⟩ (.bool true)) (hb + 1) hb (hs.set i true) bs' fr' pk' [rowA 4 1 (.slice (some ⟨mb, 0, none⟩) 257 257) 257 ((hl'.set i true).map .bool)] by
            obtain ⟨bv, h⟩ := h
            refine ⟨?_, h.row_free 3 rfl (by omega), bv, (h.row_set 3 rfl i (.bool true) rfl).cast ?_⟩
            · have := h.row_get 3 rfl (bool_map (hs := hl') (a := i) (by omega))
              rwa [hr1.2 i i2, i3] at this
            · rw [← List.map_set]; rfl)
          replace hI' := Lib.hid hI'
          obtain ⟨U, hU2⟩ : ∃ U, hs.count true = U := ⟨_, rfl⟩
          rw [hU2] at hct hlt3
          simp only [hU2]
          replace hct := Lib.hid hct
          replace i3 := Lib.hid i3
          clear hNI hnx hp1 hr1 hcn hU2 hO
          go_wp2_with (first | (go_at_call 32; refine T.out.mono ?_; rintro e w5 ⟨rfl, h5⟩; obtain ⟨y0, y1, h6⟩ := G.out _ h5))
          go_roundw
          case rel => exact ⟨k + 1, fr', _, _, bs', pk', by omega, by go_num, by rw [hct.out]; go_num, hI', hpk', hr', h6⟩
          case measure => simp [intOf]; omega
      · obtain ⟨t, ht⟩ : ∃ t, heldB hs nn = t := ⟨_, rfl⟩
        cases t with
        | true =>
          obtain ⟨i, rfl, i1, i2, i3⟩ := heldB_nat ht
          have i2' : i ≤ N := by rw [hlen.out] at i2; omega
          obtain ⟨hI', hpos, hct⟩ := hNI.give ht
          have T := Lib.hid (give_yes hO (by rw [hlen.out]; omega) hbl i ht (hs.set i false) rfl)
          have hr' := Lib.hid (show (hl'.set i false).length = 257 ∧ ∀ j, j ≤ N → (hl'.set i false).getD j false = (hs.set i false).getD j false by
            refine ⟨by rw [List.length_set]; exact hr1.1, fun j hj => ?_⟩
            rw [bget_set (by omega), bget_set (by rw [hlen.out]; omega), hr1.2 j hj])
          have hpk' := Lib.hid (show (((hs.set i false).count true : Nat) : Int) ≤ pk ∧ pk ≤ N by omega)
          have y0 : wr.cell? ⟨mb, i, none⟩ = some (.bool true) := by
            obtain ⟨bv, h⟩ := hO
            have := h.row_get 3 rfl (bool_map (hs := hl') (a := i) (by omega))
            rwa [hr1.2 i i2', i3] at this
          have G := Lib.hid (fun (w5 : World) (h : AOwn w w5 (hb + 1) hb (hs.set i false) (bs ++ [(i : Int)]) fr pk [rowA 4 1 (.slice (some ⟨mb, 0, none⟩) 257 257) 257 (hl'.map .bool)]) => show w5.cell? ⟨mb, i, none⟩ = some (.bool true) ∧ w5.frozen? ⟨mb, i, none⟩ = false ∧ AOwn w (w5.setCell ⟨mb, i, none⟩ (.bool false)) (hb + 1) hb (hs.set i false) (bs ++ [(i : Int)]) fr pk [rowA 4 1 (.slice (some ⟨mb, 0, none⟩) 257 257) 257 ((hl'.set i false).map .bool)] by
            obtain ⟨bv, h⟩ := h
            refine ⟨?_, h.row_free 3 rfl (by omega), bv, (h.row_set 3 rfl i (.bool false) rfl).cast ?_⟩
            · have := h.row_get 3 rfl (bool_map (hs := hl') (a := i) (by omega))
              rwa [hr1.2 i i2', i3] at this
            · rw [← List.map_set]; rfl)
          replace hI' := Lib.hid hI'
          obtain ⟨U, hU2⟩ : ∃ U, hs.count true = U := ⟨_, rfl⟩
          rw [hU2] at hct hpos
          have hub : U ≤ 255 := by rw [← hU2]; omega
          simp only [hU2]
          replace hct := Lib.hid hct
          replace i3 := Lib.hid i3
          clear hNI ht hp1 hr1 hU2 hO
          go_wp2_with (first | (go_at_call 34; refine T.out.mono ?_; rintro e w5 ⟨rfl, h5⟩; obtain ⟨y2, y1, h6⟩ := G.out _ h5))
          go_roundw
          case rel => exact ⟨k + 1, fr, _, _, _, pk, by omega, by go_num, by have := hct.out; rw [show (U : Int) - 1 = (((hs.set i false).count true : Nat) : Int) by omega], hI', hpk', hr', h6⟩
          case measure => simp [intOf]; omega
        | false =>
          have T := Lib.hid (give_no hO (by rw [hlen.out]; omega) nn ht)
          obtain ⟨U, hU2⟩ : ∃ U, hs.count true = U := ⟨_, rfl⟩
          simp only [hU2]
          replace hU2 := Lib.hid hU2
          by_cases n1 : 1 ≤ nn
          · by_cases n2 : nn ≤ N
            · obtain ⟨i, rfl⟩ : ∃ i : Nat, nn = i := ⟨nn.toNat, by omega⟩
              have i3 : hs.getD i false = false := by
                cases q : hs.getD i false with
                | false => rfl
                | true => rw [heldB_of (by omega) (by rw [hlen.out]; omega) q] at ht; cases ht
              have y0 : wr.cell? ⟨mb, i, none⟩ = some (.bool false) := by
                obtain ⟨bv, h⟩ := hO
                have := h.row_get 3 rfl (bool_map (hs := hl') (a := i) (by omega))
                rwa [hr1.2 i (by omega), i3] at this
              clear hNI ht hp1 hr1 i3
              go_wp2_with (first | (go_at_call 34; refine T.out.mono ?_; rintro e w5 ⟨rfl, rfl⟩))
              go_roundw
              case rel => exact ⟨k + 1, fr, hs, hl', bs, pk, by omega, by go_num, by rw [hU2.out], hI, hp, hr, hO⟩
              case measure => simp [intOf]; omega
            · clear hNI ht hp1 hr1
              go_wp2_with (first | (go_at_call 34; refine T.out.mono ?_; rintro e w5 ⟨rfl, rfl⟩))
              go_roundw
              case rel => exact ⟨k + 1, fr, hs, hl', bs, pk, by omega, by go_num, by rw [hU2.out], hI, hp, hr, hO⟩
              case measure => simp [intOf]; omega
          · clear hNI ht hp1 hr1
            go_wp2_with (first | (go_at_call 34; refine T.out.mono ?_; rintro e w5 ⟨rfl, rfl⟩))
            go_roundw
            case rel => exact ⟨k + 1, fr, hs, hl', bs, pk, by omega, by go_num, by rw [hU2.out], hI, hp, hr, hO⟩
            case measure => simp [intOf]; omega
    · obtain rfl : k = ls.length := by omega
      have hlen := hI.out.len
      have U := used_own hO (by rw [hlen]; omega)
      rw [cnt_count] at U
      have PK := Lib.hid (fun (w5 : World) (h : AOwn w w5 (hb + 1) hb hs bs fr pk [rowA 4 1 (.slice (some ⟨mb, 0, none⟩) 257 257) 257 (hl'.map .bool)]) => peak_own h)
      obtain ⟨hp1, hp2⟩ := hp.out
      generalize hs.count true = C at *
      replace U := Lib.hid U
      replace hlen := Lib.hid hlen
      go_wp2_with fail
      go_at_call 36
      refine U.out.mono ?_
      rintro e w5 ⟨rfl, h5⟩
      go_wp2_with (first | (go_at_call 37; refine (PK.out _ h5).mono ?_; rintro e w8 ⟨rfl, rfl⟩))
      go_ret
      exact ⟨rfl, h5.below⟩
theorem walkArenaOnce (v0 v1 : Value) (w : World) (h0 : Arg Try.prog w 5 v0) (h1 : Arg Try.prog w 43 v1) :
    Calls Try.prog 8 #[v0, v1] w fun e w' => e = .returned (.bool true) ∧ Below w.heap.size w w' := by
  obtain ⟨sz, rfl, hs⟩ := h0.int Try.underlying5
  simp [Lit.wf, IntKind.min, IntKind.max, IntKind.signed, IntKind.bits] at hs
  obtain ⟨sz, rfl⟩ : ∃ n : Nat, sz = n := ⟨sz.toNat, by omega⟩
  obtain ⟨lo, lc, ls, rfl, p1, p2, p3, g2, off, p4⟩ := h1.structs' 2 Try.underlying43 (by kernel_rfl) Try.underlying3 (by kernel_rfl) (by kernel_rfl) (by decide)
  by_cases hl : ls.length ≤ 300
  · exact aonce_core sz ls lo lc w (by omega) p1 p2 hl g2 off p4
  · unfold maxLen at p2
    clear p4 p3
    have hl2 : 300 < ls.length := by omega
    go_enter Try.func8, Try.ntmps8
    go_wp2_with (go_at_call 29; refine (works10_any _).mono ?_; rintro e w1 ⟨rfl, hb1⟩)
    go_ret
    exact ⟨rfl, hb1⟩
end Go.Proofs.Ytbadinmlnbabiaa
