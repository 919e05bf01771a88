/- The walk through the law FrameTable. -/
import Derived.Test.YtbadinmlnbabiaaTableDuo
import Derived.Test.YtbadinmlnbabiaaWorks16b
import Derived.Test.YtbadinmlnbabiaaFrameKin
import Derived.Test.YtbadinmlnbabiaaLin
import Derived.Test.YtbadinmlnbabiaaArgs
import Derived.Deep.Cut
import Derived.Deep.CutRange
import Derived.Deep.CutBlock
set_option linter.unusedVariables false
set_option linter.unusedSimpArgs false
namespace Go.Proofs.Ytbadinmlnbabiaa
open Go.RowKit
set_option maxRecDepth 100000
set_option maxHeartbeats 20000000
/-- What each frame's counter is. -/
def PcInv (N : Nat) (hs : List Bool) (xs : List Value) (pcs : List Int) : Prop := ∀ i : Nat, 1 ≤ i → i ≤ N → hs.getD i false = true → xs[i * 19 + 2]? = some (.int .i64 (pcs.getD i 0))
theorem fillL_none (ms : List Int) (F : Nat) (n : Int) (L : Nat) : fillL ms F 0 n L = ms := by
  refine List.ext_getElem? fun j => ?_
  simp only [fillL, List.getElem?_mapIdx]
  cases hj : ms[j]? with
  | none => rfl
  | some x => simp only [Option.map_some]; rw [if_neg (by omega)]
theorem fillL_grow {ms : List Int} {F q : Nat} {n : Int} (h : F + q < ms.length) : (fillL ms F q n ms.length).set (F + q) n = fillL ms F (q + 1 : Nat) n ms.length := by
  refine List.ext_getElem? fun j => ?_
  by_cases hj : F + q = j
  · subst hj
    rw [List.getElem?_set_self (by rw [fillL_length]; exact h)]
    rw [fillL_get _ _ _ _ _ _ h, if_pos (by omega)]
  · rw [List.getElem?_set_ne hj]
    by_cases hl : j < ms.length
    · rw [fillL_get _ _ _ _ _ _ hl, fillL_get _ _ _ _ _ _ hl]
      congr 1
      by_cases hc : F ≤ j ∧ j < F + q
      · rw [if_pos (by omega), if_pos (by omega)]
      · rw [if_neg (by omega), if_neg (by omega)]
    · rw [List.getElem?_eq_none (by rw [fillL_length]; omega), List.getElem?_eq_none (by rw [fillL_length]; omega)]
theorem setsL_length : ∀ (vs : List Value) (o : Nat) (xs : List Value), (setsL xs o vs).length = xs.length
  | [], _, _ => rfl
  | v :: r, o, xs => by rw [setsL, setsL_length r]; simp
theorem setsL_out : ∀ (vs : List Value) (o : Nat) (xs : List Value) (j : Nat), (j < o ∨ o + vs.length ≤ j) → (setsL xs o vs)[j]? = xs[j]?
  | [], _, _, _, _ => rfl
  | v :: r, o, xs, j, h => by
    rw [setsL, setsL_out r (o + 1) _ j (by simp at h; omega), List.getElem?_set_ne (by simp at h; omega)]
theorem setsL_in : ∀ (vs : List Value) (o : Nat) (xs : List Value) (j : Nat), j < vs.length → o + vs.length ≤ xs.length → (setsL xs o vs)[o + j]? = vs[j]?
  | [], _, _, _, h, _ => by simp at h
  | v :: r, o, xs, 0, _, hl => by
    rw [setsL, setsL_out r (o + 1) _ (o + 0) (by omega), Nat.add_zero, List.getElem?_set_self (by simp at hl; omega)]
    rfl
  | v :: r, o, xs, j + 1, h, hl => by
    rw [setsL, show o + (j + 1) = o + 1 + j by omega, setsL_in r (o + 1) _ j (by simp at h; omega) (by simp at hl ⊢; omega)]
    rfl
theorem PcInv.make {N : Nat} {hs : List Bool} {xs : List Value} {pcs : List Int} (h : PcInv N hs xs pcs) {i : Nat} (hi : i < hs.length) (FV : List Value) (hF : FV.length = 19) (nn : Int) (h2 : FV[2]? = some (.int .i64 nn)) (hx : i * 19 + 19 ≤ xs.length) (hp : i < pcs.length) : PcInv N (hs.set i true) (setsL xs (i * 19) FV) (pcs.set i nn) := by
  intro j j1 jN hj
  by_cases hij : i = j
  · subst hij
    rw [setsL_in FV (i * 19) xs 2 (by omega) (by omega), h2, List.getD_eq_getElem?_getD, List.getElem?_set_self hp]
    rfl
  · rw [setsL_out FV (i * 19) xs (j * 19 + 2) (by omega)]
    rw [List.getD_eq_getElem?_getD, List.getElem?_set_ne hij, ← List.getD_eq_getElem?_getD] at hj
    rw [List.getD_eq_getElem?_getD, List.getElem?_set_ne hij, ← List.getD_eq_getElem?_getD]
    exact h j j1 jN hj
theorem PcInv.free {N : Nat} {hs : List Bool} {xs : List Value} {pcs : List Int} (h : PcInv N hs xs pcs) {i : Nat} (hi : i < hs.length) : PcInv N (hs.set i false) xs pcs := by
  intro j j1 jN hj
  by_cases hij : i = j
  · subst hij
    rw [List.getD_eq_getElem?_getD, List.getElem?_set_self hi] at hj
    simp at hj
  · rw [List.getD_eq_getElem?_getD, List.getElem?_set_ne hij, ← List.getD_eq_getElem?_getD] at hj
    exact h j j1 jN hj
theorem PcInv.set {N : Nat} {hs : List Bool} {xs : List Value} {pcs : List Int} (h : PcInv N hs xs pcs) {i : Nat} (v : Int) (hx : i * 19 + 2 < xs.length) (hp : i < pcs.length) : PcInv N hs (xs.set (i * 19 + 2) (.int .i64 v)) (pcs.set i v) := by
  intro j j1 jN hj
  by_cases hij : i = j
  · subst hij
    rw [List.getElem?_set_self hx, List.getD_eq_getElem?_getD, List.getElem?_set_self hp]
    rfl
  · rw [List.getElem?_set_ne (by omega), List.getD_eq_getElem?_getD, List.getElem?_set_ne hij, ← List.getD_eq_getElem?_getD]
    exact h j j1 jN hj
theorem ftable_core (f0 N : Nat) (ls : List (List Int)) (lo : Option Addr) (lc : Nat) (w : World) (hf0 : f0 ≤ 255) (hN : (f0 : Int) % 6 + 1 = (N : Int)) (hl1 : ls.length ≤ lc) (hl2 : lc ≤ maxLen) (hll : ls.length ≤ 150)
    (g2 off : Nat) (hl : ∀ i, i < ls.length → lo = some ⟨g2, off, none⟩ ∧ ∀ j, j < 3 → w.cell? ⟨g2, off + i * 3 + j, none⟩ = some (.int .i64 ((ls.getD i []).getD j 0))) :
    Calls Try.prog 12 #[.int .u8 f0, .slice lo ls.length lc] w fun e w' => e = .returned (.bool true) ∧ Below w.heap.size w w' := by
  obtain ⟨i1, hi1, hw0, hw1', hw2'⟩ := info_parts' Try.infoIntK
  unfold maxLen at hl2
  have hN1 : 1 ≤ N := by omega
  have hN6 : N ≤ 6 := by omega
  have hok : okPlan 1 N 2 3 = true := by unfold okPlan; simp; omega
  obtain ⟨S, hS⟩ : ∃ S, 7 + N * 14 = S := ⟨_, rfl⟩
  have hSz : sizeV 1 N 2 3 = S := by unfold sizeV wideV roomV; omega
  have SZ := fun w => size_ok hok w
  rw [hSz] at SZ
  have hS91 : S ≤ 91 := by omega
  replace SZ := Lib.hid SZ
  replace hok := Lib.hid hok
  replace hl := Lib.hid hl
  replace hS := Lib.hid hS
  clear hSz
  go_enter Try.func12, Try.ntmps12
  go_wp2_with fail
  go_at_call 43
  refine (works16_any _).mono ?_
  rintro e w1 ⟨rfl, hb1⟩
  go_wp2_with fail
  go_at_call 54
  refine (plan16_any N _).mono ?_
  rintro e w2 ⟨rfl, hb2⟩
  clear hN
  have hO := (Own.nil (below_chain hb1 hb2)).box #[.int .i64 1, .int .i64 N, .int .i64 2, .int .i64 3] 24
  go_upto_region 6 with fail
  generalize w2.alloc (.cells #[.int .i64 1, .int .i64 N, .int .i64 2, .int .i64 3] 24) = w3 at *
  generalize w2.heap.size = pb at *
  clear hb1 hb2
  obtain ⟨x0, x1, x2, x3⟩ := cells4p 0 hO rfl
  go_wp2_with fail
  go_at_call 15
  refine (SZ.out _).mono ?_
  rintro e w3' ⟨rfl, hb3⟩
  have hO3 := hO.grow hb3
  clear hO hb3 x0 x1 x2 x3
  go_wp2_with fail
  go_at_call 49
  refine (own_new hO3 S (List.replicate S 0) (by congr 1; omega)).mono ?_
  rintro e w4 ⟨rfl, hO4⟩
  have hO5 := hO4.sel [1, 0] (by decide)
  replace hO5 : Own w w4 (storeA (w3'.heap.size + 1) w3'.heap.size (List.replicate S 0) :: [cellsA pb #[.int .i64 1, .int .i64 N, .int .i64 2, .int .i64 3] 24]) := hO5
  generalize w3'.heap.size + 1 = gs at *
  generalize w3'.heap.size = sb at *
  clear hO3 hO4
  go_wp2_with fail
  have hB := hO5.drewN 1
  have hS0 : (fun w' : World => w'.cell? ⟨pb, 0, none⟩ = some (.int .i64 1) ∧ w'.cell? ⟨pb, 1, none⟩ = some (.int .i64 N) ∧ w'.cell? ⟨pb, 2, none⟩ = some (.int .i64 2) ∧ w'.cell? ⟨pb, 3, none⟩ = some (.int .i64 3)) w4.drew := cells4p 1 hB rfl
  replace hB : Own w w4.drew (storeA gs sb (List.replicate S 0) :: [cellsA pb #[.int .i64 1, .int .i64 N, .int .i64 2, .int .i64 3] 24]) := hB
  clear hO5
  refine lin_start (S := (fun w' : World => w'.cell? ⟨pb, 0, none⟩ = some (.int .i64 1) ∧ w'.cell? ⟨pb, 1, none⟩ = some (.int .i64 N) ∧ w'.cell? ⟨pb, 2, none⟩ = some (.int .i64 2) ∧ w'.cell? ⟨pb, 3, none⟩ = some (.int .i64 3))) rfl 8 rfl hS0 ?_
  simp only [numbered, Nat.zero_add, Nat.reduceAdd]
  generalize w4.drew = u4 at *
  refine lin_take (v := ?_) (by kernel_rfl) (by kernel_rfl) (fun _ _ _ h => h) (Or.inl ⟨by rfl, ?_⟩) (by assumption) ?_; (rotate_left; (intro wS hSw; (try dsimp only at hSw); go_simp; (try with_reducible rfl)); rotate_left); simp only [Act.put, List.setIfInBounds_toArray, List.set_cons_zero, List.set_cons_succ]
  refine lin_take (v := ?_) (by kernel_rfl) (by kernel_rfl) (fun _ _ _ h => h) (Or.inl ⟨by rfl, ?_⟩) (by assumption) ?_; (rotate_left; (intro wS hSw; (try dsimp only at hSw); go_simp; (try with_reducible rfl)); rotate_left); simp only [Act.put, List.setIfInBounds_toArray, List.set_cons_zero, List.set_cons_succ]
  refine lin_rot ?_; simp only [List.cons_append, List.nil_append]
  refine lin_take (v := ?_) (by kernel_rfl) (by kernel_rfl) (fun _ _ _ h => h) (Or.inl ⟨by rfl, ?_⟩) (by assumption) ?_; (rotate_left; (intro wS hSw; (try dsimp only at hSw); go_simp; (try with_reducible rfl)); rotate_left); simp only [Act.put, List.setIfInBounds_toArray, List.set_cons_zero, List.set_cons_succ]
  refine lin_take (v := ?_) (by kernel_rfl) (by kernel_rfl) (fun _ _ _ h => h) (Or.inl ⟨by rfl, ?_⟩) (by assumption) ?_; (rotate_left; (intro wS hSw; (try dsimp only at hSw); go_simp; (try with_reducible rfl)); rotate_left); simp only [Act.put, List.setIfInBounds_toArray, List.set_cons_zero, List.set_cons_succ]
  refine lin_rot ?_; simp only [List.cons_append, List.nil_append]
  refine lin_rot ?_; simp only [List.cons_append, List.nil_append]
  refine lin_rot ?_; simp only [List.cons_append, List.nil_append]
  refine lin_sole (by kernel_rfl) (fun K hK => ?_)
  go_simp
  refine (tnew_any hB 1 N 2 3 N (by rw [if_pos hok.out]) (by omega)).mono ?_
  rintro e w5 ⟨tb, ag, hb, rb, rfl, bv, hT⟩
  clear hB
  refine hK.out _ _ ?_ (fun hHeld => ?_)
  · exact cells4p 6 hT rfl
  try simp only [Act.put, List.setIfInBounds_toArray, List.set_cons_zero, List.set_cons_succ]
  refine lin_sole (by kernel_rfl) (fun K hK => ?_)
  go_simp
  refine (rNew_any N N (by omega) hT).mono ?_
  rintro e w6 ⟨rfl, hT6⟩
  clear hT
  refine hK.out _ _ ?_ (fun hHeld => ?_)
  · exact cells4p 6 hT6 rfl
  try simp only [Act.put, List.setIfInBounds_toArray, List.set_cons_zero, List.set_cons_succ]
  refine lin_take (v := ?_) (by kernel_rfl) (by kernel_rfl) (fun _ _ _ h => h) (Or.inl ⟨by rfl, ?_⟩) (by assumption) ?_; (rotate_left; (intro wS hSw; (try dsimp only at hSw); go_simp; (try with_reducible rfl)); rotate_left); simp only [Act.put, List.setIfInBounds_toArray, List.set_cons_zero, List.set_cons_succ]
  refine lin_take (v := ?_) (by kernel_rfl) (by kernel_rfl) (fun _ _ _ h => h) (Or.inl ⟨by rfl, ?_⟩) (by assumption) ?_; (rotate_left; (intro wS hSw; (try dsimp only at hSw); go_simp; (try with_reducible rfl)); rotate_left); simp only [Act.put, List.setIfInBounds_toArray, List.set_cons_zero, List.set_cons_succ]
  refine lin_done (by kernel_rfl) ?_
  clear hHeld hS0
  obtain ⟨x0, x1, x2, x3⟩ := cells4p 6 hT6 rfl
  go_wp2_with fail
  go_at_call 15
  refine (SZ.out _).mono ?_
  rintro e w7 ⟨rfl, hb7⟩
  have hT7 := hT6.grow hb7
  clear hT6 hb7 x0 x1 x2 x3
  generalize w5.heap.size = gr at *
  go_upto_region 9 with (first | (refine wpList_make_any _ rfl _ _ 42 rfl 3 i1 (.int .i64 0) 1 8 Try.underlying42 hi1 hw0 hw1' hw2' .i64 .i64 (S : Int) (S : Int) rfl rfl (by omega) (by omega) (by omega) (by decide) ?_))
  have hT8 := hT7.ints_made (madeCells #[Value.int .i64 0] S) S (madeK_one _ _) (by unfold maxLen; omega)
  generalize w7.alloc (.cells (madeCells #[Value.int .i64 0] S) 3) = w8 at *
  generalize w7.heap.size = wb at *
  clear hT7
  go_wp2_with (first | (refine wpList_make_any _ rfl _ _ 42 rfl 3 i1 (.int .i64 0) 1 8 Try.underlying42 hi1 hw0 hw1' hw2' .i64 .i64 (10 : Int) (10 : Int) rfl rfl (by omega) (by omega) (by omega) (by decide) ?_))
  have hT9 := hT8.ints_made (madeCells #[Value.int .i64 0] 10) 10 (madeK_one _ _) (by unfold maxLen; omega)
  generalize w8.alloc (.cells (madeCells #[Value.int .i64 0] 10) 3) = w9 at *
  generalize w8.heap.size = cb at *
  clear hT8
  have hF0 := hT9.sel [0, 1, 2, 3, 4, 5, 7, 8, 9, 6, 10, 11] (by decide)
  obtain ⟨xs0, hxs0⟩ : ∃ xs0, (madeCells zeroF ((N + 1) * 19)).toList = xs0 := ⟨_, rfl⟩
  have hxl : xs0.length = (N + 1) * 19 := by
    rw [← hxs0]
    rw [Array.length_toList, size_madeCells]
  replace hF0 : FDuo w w9 tb gs sb ag hb rb gr pb wb cb N S (List.replicate S 0) xs0 (List.replicate (N + 1) false) [] [] [] 0 0 0 0 (List.replicate S 0) (List.replicate 10 0) [] := ⟨bv, _, _, by rw [← hxs0]; exact hF0⟩
  have hP0 : Hid (PcInv N (List.replicate (N + 1) false) xs0 (List.replicate 10 0)) := Lib.hid (by
    intro i _ _ h
    rw [List.getD_eq_getElem?_getD, List.getElem?_replicate] at h
    split at h <;> simp at h)
  have hI0 := Lib.hid (AInv.new N)
  have hT0 := Lib.hid (TkInv.new N)
  generalize List.replicate (N + 1) false = hs0 at *
  obtain ⟨ms0, hms0⟩ : ∃ ms0, List.replicate S (0 : Int) = ms0 := ⟨_, rfl⟩
  have hml0 : ms0.length = S := by rw [← hms0]; simp
  rw [hms0] at hF0
  obtain ⟨pcs0, hps0⟩ : ∃ ps, List.replicate 10 (0 : Int) = ps := ⟨_, rfl⟩
  have hpl0 : pcs0.length = 10 := by rw [← hps0]; rfl
  rw [hps0] at hF0 hP0
  replace hml0 := Lib.hid hml0
  replace hpl0 := Lib.hid hpl0
  replace hxl := Lib.hid hxl
  clear hms0 hps0 hxs0 hT9
  go_loopw [12] (fun i wr => ∃ (k fr : Nat) (hs : List Bool) (bs tk ms pcs : List Int) (xs : List Value) (pk : Int), k ≤ ls.length ∧ fr ≤ k ∧ i = .int .i64 k ∧ Hid (AInv N hs bs fr) ∧ Hid (TkInv hs tk) ∧ Hid (ms.length = S) ∧ Hid (xs.length = (N + 1) * 19) ∧ Hid (pcs.length = 10) ∧ Hid (PcInv N hs xs pcs) ∧ FDuo w wr tb gs sb ag hb rb gr pb wb cb N S ms xs hs bs bs tk fr fr pk pk ms pcs []) (fun i _ => (ls.length - intOf i).toNat)
  case atStart => exact ⟨0, 0, hs0, [], [], ms0, pcs0, xs0, 0, by omega, by omega, rfl, hI0, hT0, hml0, hxl, hpl0, hP0, hF0⟩
  case round =>
    clear hF0 hI0 hT0 hml0 hxl hpl0 hP0
    obtain ⟨k, fr, hs, bs, tk, ms, pcs, xs, pk, hk, hfk, rfl, hI, hT, hml, hxl, hpl, hP, hO⟩ := hrel
    by_cases hlt : k < ls.length
    rotate_left
    · obtain rfl : k = ls.length := by omega
      go_wp2_with fail
      go_at_call 47
      refine (root_any _).mono ?_
      rintro e w10 ⟨rfl, hb10⟩
      go_wp2_with fail
      go_at_call 50
      refine (make_nil rootV _).mono ?_
      rintro e w11 ⟨rfl, hb11⟩
      go_wp2_with (first | (go_at_call 51; refine (at_nil _ _).mono ?_; rintro e w12 ⟨rfl, rfl⟩) | (go_at_call 55; refine (free_nil _ _).mono ?_; rintro e w12 ⟨rfl, rfl⟩) | (go_at_call 52; refine (tused_nil _).mono ?_; rintro e w12 ⟨rfl, rfl⟩) | (go_at_call 53; refine (tpeak_nil _).mono ?_; rintro e w12 ⟨rfl, rfl⟩))
      go_ret
      exact ⟨rfl, below_chain (below_chain hO.below hb10) hb11⟩
    obtain ⟨rfl, hx⟩ := hl.out k hlt
    have x0 := hx 0 (by omega)
    have x1 := hx 1 (by omega)
    have x2 := hx 2 (by omega)
    generalize (ls.getD k []).getD 0 0 = kd at *
    generalize (ls.getD k []).getD 1 0 = nn at *
    generalize (ls.getD k []).getD 2 0 = xx at *
    rw [Nat.add_zero] at x0
    have z0 := hO.old x0
    have z1 := hO.old x1
    have z2 := hO.old x2
    clear x0 x1 x2 hx
    have hO1 := hO.box #[.int .i64 kd, .int .i64 nn, .int .i64 xx] 82
    go_upto_block 2 with fail
    generalize wr.alloc (.cells #[.int .i64 kd, .int .i64 nn, .int .i64 xx] 82) = wo at *
    generalize wr.heap.size = ob at *
    clear hO z0 z1 z2
    obtain ⟨o0, o1, o2⟩ := hO1.o3
    go_cut [] from 48 to 254 (fun wx => ∃ (fr2 : Nat) (hs2 : List Bool) (bs2 tk2 ms2 pcs2 : List Int) (xs2 : List Value) (pk2 : Int), Hid (fr2 ≤ k + 1) ∧ Hid (AInv N hs2 bs2 fr2) ∧ Hid (TkInv hs2 tk2) ∧ Hid (ms2.length = S) ∧ Hid (xs2.length = (N + 1) * 19) ∧ Hid (pcs2.length = 10) ∧ Hid (PcInv N hs2 xs2 pcs2) ∧ FDuo w wx tb gs sb ag hb rb gr pb wb cb N S ms2 xs2 hs2 bs2 bs2 tk2 fr2 fr2 pk2 pk2 ms2 pcs2 [])
    case rest => as_aux_lemma =>
      clear o0 o1 o2 hO1 hI hT hml hxl hpl hP
      obtain ⟨fr2, hs2, bs2, tk2, ms2, pcs2, xs2, pk2, hfk2, hI2, hT2, hml2, hxl2, hpl2, hP2, hD⟩ := hcut
      have hlen2 := hI2.out.len
      have hTl := hT2.out.len
      have hcn := cnt_count hs2
      have hh0 := hI2.out.h0
      obtain ⟨bv, rbv, rtv, hA0⟩ := hD
      obtain ⟨rto, rtc, rfl⟩ : ∃ rto rtc, rtv = .slice rto tk2.length rtc := by obtain ⟨a, b, c, _⟩ := (hA0.row 8 rfl).shape; exact ⟨a, b, c⟩
      have hA : TOwn w wc tb gs sb ag hb rb (N + 1) 1 N 2 3 ms2 xs2 hs2 bs2 fr2 pk2 (refL gr N rbv bs2 (.slice rto tk2.length rtc) tk2 fr2 pk2 (L3 pb wb cb N S ms2 pcs2 [])) := ⟨bv, hA0⟩
      clear hA0 bv
      have KS := Lib.hid (fun (w5 : World) (h : TOwn w w5 tb gs sb ag hb rb (N + 1) 1 N 2 3 ms2 xs2 hs2 bs2 fr2 pk2 (refL gr N rbv bs2 (.slice rto tk2.length rtc) tk2 fr2 pk2 (L3 pb wb cb N S ms2 pcs2 []))) => show (fun w' : World => w'.cell? ⟨gr, 2, none⟩ = some (.slice rto tk2.length rtc) ∧ w'.cell? ⟨gr, 4, none⟩ = some (.int .i64 pk2)) w5 from h.elim fun _ h => ⟨(h.cget 6 rfl 2).1, (h.cget 6 rfl 4).1⟩)
      have HS := Lib.hid (fun (w5 : World) (h : TOwn w w5 tb gs sb ag hb rb (N + 1) 1 N 2 3 ms2 xs2 hs2 bs2 fr2 pk2 (refL gr N rbv bs2 (.slice rto tk2.length rtc) tk2 fr2 pk2 (L3 pb wb cb N S ms2 pcs2 []))) (x : Int) (t : Bool) (ht : heldB hs2 x = t) => has_any (w := w5) (h.elim fun _ hO => Lies.of_row (hO.row 8 rfl) rfl) x t (by rw [hT2.out.has hh0]; exact ht))
      have AY := Lib.hid (fun (w5 : World) (h : TOwn w w5 tb gs sb ag hb rb (N + 1) 1 N 2 3 ms2 xs2 hs2 bs2 fr2 pk2 (refL gr N rbv bs2 (.slice rto tk2.length rtc) tk2 fr2 pk2 (L3 pb wb cb N S ms2 pcs2 []))) (i : Nat) (hi : i < N + 1) (ht : heldB hs2 i = true) => at_yes h (by omega) i hi ht)
      have AN := Lib.hid (fun (w5 : World) (h : TOwn w w5 tb gs sb ag hb rb (N + 1) 1 N 2 3 ms2 xs2 hs2 bs2 fr2 pk2 (refL gr N rbv bs2 (.slice rto tk2.length rtc) tk2 fr2 pk2 (L3 pb wb cb N S ms2 pcs2 []))) (x : Int) (ht : heldB hs2 x = false) => at_no h (by omega) x ht)
      have US := Lib.hid (fun (w5 : World) (h : TOwn w w5 tb gs sb ag hb rb (N + 1) 1 N 2 3 ms2 xs2 hs2 bs2 fr2 pk2 (refL gr N rbv bs2 (.slice rto tk2.length rtc) tk2 fr2 pk2 (L3 pb wb cb N S ms2 pcs2 []))) => show Calls Try.prog 52 #[.pointer (some ⟨tb, 0, none⟩)] w5 fun e w' => e = .returned (.int .i64 tk2.length) ∧ TOwn w w' tb gs sb ag hb rb (N + 1) 1 N 2 3 ms2 xs2 hs2 bs2 fr2 pk2 (refL gr N rbv bs2 (.slice rto tk2.length rtc) tk2 fr2 pk2 (L3 pb wb cb N S ms2 pcs2 [])) by have q := tused h (by omega); rwa [hcn, ← hTl] at q)
      have PKK := Lib.hid (fun (w5 : World) (h : TOwn w w5 tb gs sb ag hb rb (N + 1) 1 N 2 3 ms2 xs2 hs2 bs2 fr2 pk2 (refL gr N rbv bs2 (.slice rto tk2.length rtc) tk2 fr2 pk2 (L3 pb wb cb N S ms2 pcs2 []))) => tpeak h)
      have AL := Lib.hid (fun (w5 : World) (h : TOwn w w5 tb gs sb ag hb rb (N + 1) 1 N 2 3 ms2 xs2 hs2 bs2 fr2 pk2 (refL gr N rbv bs2 (.slice rto tk2.length rtc) tk2 fr2 pk2 (L3 pb wb cb N S ms2 pcs2 []))) => show Calls Try.prog 57 #[.pointer (some ⟨gs, 0, none⟩)] w5 fun e w' => ∃ ao cap, e = .returned (.slice ao S cap) ∧ TOwn w w' tb gs sb ag hb rb (N + 1) 1 N 2 3 ms2 xs2 hs2 bs2 fr2 pk2 (refL gr N rbv bs2 (.slice rto tk2.length rtc) tk2 fr2 pk2 (L3 pb wb cb N S ms2 pcs2 [])) ∧ Lies w' ao cap ms2 from by
        obtain ⟨bv, h⟩ := h
        exact (own_all h 4 rfl).mono fun e w' ⟨ao, cap, he, hO, hL, _⟩ => ⟨ao, cap, by rw [he, hml2.out], ⟨bv, hO⟩, hL⟩)
      have WL := Lib.hid (fun (w5 : World) (h : TOwn w w5 tb gs sb ag hb rb (N + 1) 1 N 2 3 ms2 xs2 hs2 bs2 fr2 pk2 (refL gr N rbv bs2 (.slice rto tk2.length rtc) tk2 fr2 pk2 (L3 pb wb cb N S ms2 pcs2 []))) => show Lies w5 (some ⟨wb, 0, none⟩) S ms2 from h.elim fun _ hO => hO.ints_lies 10 rfl hml2.out.symm)
      have IA := Lib.hid (fun (w5 : World) (ao : Option Addr) (cap : Nat) (h1 : Lies w5 ao cap ms2) (h2 : Lies w5 (some ⟨wb, 0, none⟩) S ms2) => show Calls Try.prog 41 #[.slice ao S cap, .slice (some ⟨wb, 0, none⟩) S S] w5 fun e w' => e = .returned (.bool true) ∧ ∃ m, w' = w5.drewN m from by
        have q := ints_any ao (some ⟨wb, 0, none⟩) cap S ms2 ms2 w5 h1 h2
        rw [hml2.out] at q
        simpa using q)
      replace hlen2 := Lib.hid hlen2
      clear hTl hcn hh0
      go_wp2_with fail
      go_loopw [21] (fun i wr => ∃ q : Nat, q ≤ 11 ∧ i = .int .i64 ((q : Int) - 1) ∧ TOwn w wr tb gs sb ag hb rb (N + 1) 1 N 2 3 ms2 xs2 hs2 bs2 fr2 pk2 (refL gr N rbv bs2 (.slice rto tk2.length rtc) tk2 fr2 pk2 (L3 pb wb cb N S ms2 pcs2 []))) (fun i _ => (10 - intOf i).toNat)
      case atStart => exact ⟨0, by omega, rfl, hA⟩
      case round =>
        clear hA
        obtain ⟨q, hq, rfl, hA⟩ := hrel
        obtain ⟨x, hx⟩ : ∃ x : Int, (q : Int) - 1 = x := ⟨_, rfl⟩
        rw [hx]
        have hx1 : -1 ≤ x ∧ x ≤ 10 := by omega
        obtain ⟨hx2, hx3⟩ := hx1
        by_cases hq11 : x < 10
        · cases hxt : heldB hs2 x with
          | false =>
            have hxt' := Lib.hid hxt
            clear hxt
            go_wp2_with fail
            go_at_call 51
            refine (AN.out _ hA x hxt'.out).mono ?_
            rintro e w8 ⟨rfl, rfl⟩
            have hA8 : TOwn w wr.drew tb gs sb ag hb rb (N + 1) 1 N 2 3 ms2 xs2 hs2 bs2 fr2 pk2 (refL gr N rbv bs2 (.slice rto tk2.length rtc) tk2 fr2 pk2 (L3 pb wb cb N S ms2 pcs2 [])) := AOwn.drewN hA 1
            have hS0 := KS.out _ hA8
            go_wp2_with fail
            refine lin_start (S := (fun w' : World => w'.cell? ⟨gr, 2, none⟩ = some (.slice rto tk2.length rtc) ∧ w'.cell? ⟨gr, 4, none⟩ = some (.int .i64 pk2))) rfl 24 rfl hS0 ?_
            simp only [numbered, Nat.zero_add, Nat.reduceAdd]
            refine lin_take (v := ?_) (by kernel_rfl) (by kernel_rfl) (fun _ _ _ h => h) (Or.inl ⟨by rfl, ?_⟩) (by assumption) ?_; (rotate_left; (intro wS hSw; (try dsimp only at hSw); go_simp; (try with_reducible rfl)); rotate_left); simp only [Act.put, List.setIfInBounds_toArray, List.set_cons_zero, List.set_cons_succ]
            refine lin_take (v := ?_) (by kernel_rfl) (by kernel_rfl) (fun _ _ _ h => h) (Or.inl ⟨by rfl, ?_⟩) (by assumption) ?_; (rotate_left; (intro wS hSw; (try dsimp only at hSw); go_simp; (try with_reducible rfl)); rotate_left); simp only [Act.put, List.setIfInBounds_toArray, List.set_cons_zero, List.set_cons_succ]
            refine lin_take (v := ?_) (by kernel_rfl) (by kernel_rfl) (fun _ _ _ h => h) (Or.inl ⟨by rfl, ?_⟩) (by assumption) ?_; (rotate_left; (intro wS hSw; (try dsimp only at hSw); go_simp; (try with_reducible rfl)); rotate_left); simp only [Act.put, List.setIfInBounds_toArray, List.set_cons_zero, List.set_cons_succ]
            refine lin_take (v := ?_) (by kernel_rfl) (by kernel_rfl) (fun _ _ _ h => h) (Or.inl ⟨by rfl, ?_⟩) (by assumption) ?_; (rotate_left; (intro wS hSw; (try dsimp only at hSw); go_simp; (try with_reducible rfl)); rotate_left); simp only [Act.put, List.setIfInBounds_toArray, List.set_cons_zero, List.set_cons_succ]
            refine lin_take (v := ?_) (by kernel_rfl) (by kernel_rfl) (fun _ _ _ h => h) (Or.inl ⟨by rfl, ?_⟩) (by assumption) ?_; (rotate_left; (intro wS hSw; (try dsimp only at hSw); go_simp; (try with_reducible rfl)); rotate_left); simp only [Act.put, List.setIfInBounds_toArray, List.set_cons_zero, List.set_cons_succ]
            refine lin_take (v := ?_) (by kernel_rfl) (by kernel_rfl) (fun _ _ _ h => h) (Or.inl ⟨by rfl, ?_⟩) (by assumption) ?_; (rotate_left; (intro wS hSw; (try dsimp only at hSw); go_simp; (try with_reducible rfl)); rotate_left); simp only [Act.put, List.setIfInBounds_toArray, List.set_cons_zero, List.set_cons_succ]
            refine lin_take (v := ?_) (by kernel_rfl) (by kernel_rfl) (fun _ _ _ h => h) (Or.inl ⟨by rfl, ?_⟩) (by assumption) ?_; (rotate_left; (intro wS hSw; (try dsimp only at hSw); go_simp; (try with_reducible rfl)); rotate_left); simp only [Act.put, List.setIfInBounds_toArray, List.set_cons_zero, List.set_cons_succ]
            refine lin_sole (by kernel_rfl) (fun K hK => ?_)
            go_simp
            refine (HS.out _ hA8 x false hxt'.out).mono ?_
            rintro e w9 ⟨rfl, rfl⟩
            refine hK.out _ _ ?_ (fun hHeld => ?_)
            · exact hS0
            try simp only [Act.put, List.setIfInBounds_toArray, List.set_cons_zero, List.set_cons_succ]
            refine lin_take (v := ?_) (by kernel_rfl) (by kernel_rfl) (fun _ _ _ h => h) (Or.inl ⟨by rfl, ?_⟩) (by assumption) ?_; (rotate_left; (intro wS hSw; (try dsimp only at hSw); go_simp; (try with_reducible rfl)); rotate_left); simp only [Act.put, List.setIfInBounds_toArray, List.set_cons_zero, List.set_cons_succ]
            refine lin_take (v := ?_) (by kernel_rfl) (by kernel_rfl) (fun _ _ _ h => h) (Or.inl ⟨by rfl, ?_⟩) (by assumption) ?_; (rotate_left; (intro wS hSw; (try dsimp only at hSw); go_simp; (try with_reducible rfl)); rotate_left); simp only [Act.put, List.setIfInBounds_toArray, List.set_cons_zero, List.set_cons_succ]
            refine lin_take (v := ?_) (by kernel_rfl) (by kernel_rfl) (fun _ _ _ h => h) (Or.inl ⟨by rfl, ?_⟩) (by assumption) ?_; (rotate_left; (intro wS hSw; (try dsimp only at hSw); go_simp; (try with_reducible rfl)); rotate_left); simp only [Act.put, List.setIfInBounds_toArray, List.set_cons_zero, List.set_cons_succ]
            refine lin_take (v := ?_) (by kernel_rfl) (by kernel_rfl) (fun _ _ _ h => h) (Or.inl ⟨by rfl, ?_⟩) (by assumption) ?_; (rotate_left; (intro wS hSw; (try dsimp only at hSw); go_simp; (try with_reducible rfl)); rotate_left); simp only [Act.put, List.setIfInBounds_toArray, List.set_cons_zero, List.set_cons_succ]
            refine lin_take (v := ?_) (by kernel_rfl) (by kernel_rfl) (fun _ _ _ h => h) (Or.inl ⟨by rfl, ?_⟩) (by assumption) ?_; (rotate_left; (intro wS hSw; (try dsimp only at hSw); go_simp; (try with_reducible rfl)); rotate_left); simp only [Act.put, List.setIfInBounds_toArray, List.set_cons_zero, List.set_cons_succ]
            refine lin_take (v := undef) (by kernel_rfl) (by kernel_rfl) (fun _ _ _ h => h) (Or.inr ⟨by rfl, rfl⟩) (by assumption) ?_; simp only [Act.put, List.setIfInBounds_toArray, List.set_cons_zero, List.set_cons_succ]
            refine lin_take (v := undef) (by kernel_rfl) (by kernel_rfl) (fun _ _ _ h => h) (Or.inr ⟨by rfl, rfl⟩) (by assumption) ?_; simp only [Act.put, List.setIfInBounds_toArray, List.set_cons_zero, List.set_cons_succ]
            refine lin_take (v := undef) (by kernel_rfl) (by kernel_rfl) (fun _ _ _ h => h) (Or.inr ⟨by rfl, rfl⟩) (by assumption) ?_; simp only [Act.put, List.setIfInBounds_toArray, List.set_cons_zero, List.set_cons_succ]
            refine lin_take (v := undef) (by kernel_rfl) (by kernel_rfl) (fun _ _ _ h => h) (Or.inr ⟨by rfl, rfl⟩) (by assumption) ?_; simp only [Act.put, List.setIfInBounds_toArray, List.set_cons_zero, List.set_cons_succ]
            refine lin_take (v := undef) (by kernel_rfl) (by kernel_rfl) (fun _ _ _ h => h) (Or.inr ⟨by rfl, rfl⟩) (by assumption) ?_; simp only [Act.put, List.setIfInBounds_toArray, List.set_cons_zero, List.set_cons_succ]
            refine lin_take (v := undef) (by kernel_rfl) (by kernel_rfl) (fun _ _ _ h => h) (Or.inr ⟨by rfl, rfl⟩) (by assumption) ?_; simp only [Act.put, List.setIfInBounds_toArray, List.set_cons_zero, List.set_cons_succ]
            refine lin_take (v := undef) (by kernel_rfl) (by kernel_rfl) (fun _ _ _ h => h) (Or.inr ⟨by rfl, rfl⟩) (by assumption) ?_; simp only [Act.put, List.setIfInBounds_toArray, List.set_cons_zero, List.set_cons_succ]
            refine lin_take (v := undef) (by kernel_rfl) (by kernel_rfl) (fun _ _ _ h => h) (Or.inr ⟨by rfl, rfl⟩) (by assumption) ?_; simp only [Act.put, List.setIfInBounds_toArray, List.set_cons_zero, List.set_cons_succ]
            refine lin_take (v := undef) (by kernel_rfl) (by kernel_rfl) (fun _ _ _ h => h) (Or.inr ⟨by rfl, rfl⟩) (by assumption) ?_; simp only [Act.put, List.setIfInBounds_toArray, List.set_cons_zero, List.set_cons_succ]
            refine lin_take (v := ?_) (by kernel_rfl) (by kernel_rfl) (fun _ _ _ h => h) (Or.inl ⟨by rfl, ?_⟩) (by assumption) ?_; (rotate_left; (intro wS hSw; (try dsimp only at hSw); go_simp; (try with_reducible rfl)); rotate_left); simp only [Act.put, List.setIfInBounds_toArray, List.set_cons_zero, List.set_cons_succ]
            refine lin_take (v := ?_) (by kernel_rfl) (by kernel_rfl) (fun _ _ _ h => h) (Or.inl ⟨by rfl, ?_⟩) (by assumption) ?_; (rotate_left; (intro wS hSw; (try dsimp only at hSw); go_simp; (try with_reducible rfl)); rotate_left); simp only [Act.put, List.setIfInBounds_toArray, List.set_cons_zero, List.set_cons_succ]
            refine lin_done (by kernel_rfl) ?_
            go_wp2_with fail
            go_round
            case rel => exact ⟨q + 1, by omega, congrArg (Value.int .i64) (by omega), hA8⟩
            case measure => simp [intOf]; omega
          | true =>
            have hxt' := Lib.hid hxt
            obtain ⟨i, rfl, j1, j2, j3⟩ := heldB_nat hxt
            have hiN : i ≤ N := by have := hlen2.out; omega
            have hi10 : i < 10 := by omega
            obtain ⟨pcv, hpcv⟩ : ∃ v, pcs2.getD i 0 = v := ⟨_, rfl⟩
            have hxc := hP2.out i j1 hiN j3
            rw [hpcv] at hxc
            have KH := Lib.hid (fun (w5 : World) (h : TOwn w w5 tb gs sb ag hb rb (N + 1) 1 N 2 3 ms2 xs2 hs2 bs2 fr2 pk2 (refL gr N rbv bs2 (.slice rto tk2.length rtc) tk2 fr2 pk2 (L3 pb wb cb N S ms2 pcs2 []))) => show (fun w' : World => w'.cell? ⟨gr, 2, none⟩ = some (.slice rto tk2.length rtc) ∧ w'.cell? ⟨rb, i * 19 + 2, none⟩ = some (.int .i64 pcv) ∧ w'.cell? ⟨cb, i, none⟩ = some (.int .i64 pcv)) w5 from h.elim fun _ h => ⟨(h.cget 6 rfl 2).1, h.row_get 5 rfl hxc, by have q := h.ints_get 11 rfl (j := i) (by rw [hpl2.out]; omega); rwa [hpcv] at q⟩)
            clear hxt j2 j3 hxc hpcv
            go_wp2_with fail
            go_at_call 51
            refine (AY.out _ hA i (by omega) hxt'.out).mono ?_
            rintro e w8 ⟨rfl, rfl⟩
            have hA8 : TOwn w wr.drew tb gs sb ag hb rb (N + 1) 1 N 2 3 ms2 xs2 hs2 bs2 fr2 pk2 (refL gr N rbv bs2 (.slice rto tk2.length rtc) tk2 fr2 pk2 (L3 pb wb cb N S ms2 pcs2 [])) := AOwn.drewN hA 1
            have hS0 := KH.out _ hA8
            go_wp2_with fail
            refine lin_start (S := (fun w' : World => w'.cell? ⟨gr, 2, none⟩ = some (.slice rto tk2.length rtc) ∧ w'.cell? ⟨rb, i * 19 + 2, none⟩ = some (.int .i64 pcv) ∧ w'.cell? ⟨cb, i, none⟩ = some (.int .i64 pcv))) rfl 24 rfl hS0 ?_
            simp only [numbered, Nat.zero_add, Nat.reduceAdd]
            refine lin_take (v := ?_) (by kernel_rfl) (by kernel_rfl) (fun _ _ _ h => h) (Or.inl ⟨by rfl, ?_⟩) (by assumption) ?_; (rotate_left; (intro wS hSw; (try dsimp only at hSw); go_simp; (try with_reducible rfl)); rotate_left); simp only [Act.put, List.setIfInBounds_toArray, List.set_cons_zero, List.set_cons_succ]
            refine lin_take (v := ?_) (by kernel_rfl) (by kernel_rfl) (fun _ _ _ h => h) (Or.inl ⟨by rfl, ?_⟩) (by assumption) ?_; (rotate_left; (intro wS hSw; (try dsimp only at hSw); go_simp; (try with_reducible rfl)); rotate_left); simp only [Act.put, List.setIfInBounds_toArray, List.set_cons_zero, List.set_cons_succ]
            refine lin_take (v := ?_) (by kernel_rfl) (by kernel_rfl) (fun _ _ _ h => h) (Or.inl ⟨by rfl, ?_⟩) (by assumption) ?_; (rotate_left; (intro wS hSw; (try dsimp only at hSw); go_simp; (try with_reducible rfl)); rotate_left); simp only [Act.put, List.setIfInBounds_toArray, List.set_cons_zero, List.set_cons_succ]
            refine lin_take (v := ?_) (by kernel_rfl) (by kernel_rfl) (fun _ _ _ h => h) (Or.inl ⟨by rfl, ?_⟩) (by assumption) ?_; (rotate_left; (intro wS hSw; (try dsimp only at hSw); go_simp; (try with_reducible rfl)); rotate_left); simp only [Act.put, List.setIfInBounds_toArray, List.set_cons_zero, List.set_cons_succ]
            refine lin_take (v := ?_) (by kernel_rfl) (by kernel_rfl) (fun _ _ _ h => h) (Or.inl ⟨by rfl, ?_⟩) (by assumption) ?_; (rotate_left; (intro wS hSw; (try dsimp only at hSw); go_simp; (try with_reducible rfl)); rotate_left); simp only [Act.put, List.setIfInBounds_toArray, List.set_cons_zero, List.set_cons_succ]
            refine lin_take (v := ?_) (by kernel_rfl) (by kernel_rfl) (fun _ _ _ h => h) (Or.inl ⟨by rfl, ?_⟩) (by assumption) ?_; (rotate_left; (intro wS hSw; (try dsimp only at hSw); go_simp; (try with_reducible rfl)); rotate_left); simp only [Act.put, List.setIfInBounds_toArray, List.set_cons_zero, List.set_cons_succ]
            refine lin_take (v := ?_) (by kernel_rfl) (by kernel_rfl) (fun _ _ _ h => h) (Or.inl ⟨by rfl, ?_⟩) (by assumption) ?_; (rotate_left; (intro wS hSw; (try dsimp only at hSw); go_simp; (try with_reducible rfl)); rotate_left); simp only [Act.put, List.setIfInBounds_toArray, List.set_cons_zero, List.set_cons_succ]
            refine lin_sole (by kernel_rfl) (fun K hK => ?_)
            go_simp
            refine (HS.out _ hA8 i true hxt'.out).mono ?_
            rintro e w9 ⟨rfl, rfl⟩
            refine hK.out _ _ ?_ (fun hHeld => ?_)
            · exact hS0
            try simp only [Act.put, List.setIfInBounds_toArray, List.set_cons_zero, List.set_cons_succ]
            refine lin_take (v := ?_) (by kernel_rfl) (by kernel_rfl) (fun _ _ _ h => h) (Or.inl ⟨by rfl, ?_⟩) (by assumption) ?_; (rotate_left; (intro wS hSw; (try dsimp only at hSw); go_simp; (try with_reducible rfl)); rotate_left); simp only [Act.put, List.setIfInBounds_toArray, List.set_cons_zero, List.set_cons_succ]
            refine lin_take (v := ?_) (by kernel_rfl) (by kernel_rfl) (fun _ _ _ h => h) (Or.inl ⟨by rfl, ?_⟩) (by assumption) ?_; (rotate_left; (intro wS hSw; (try dsimp only at hSw); go_simp; (try with_reducible rfl)); rotate_left); simp only [Act.put, List.setIfInBounds_toArray, List.set_cons_zero, List.set_cons_succ]
            refine lin_take (v := ?_) (by kernel_rfl) (by kernel_rfl) (fun _ _ _ h => h) (Or.inl ⟨by rfl, ?_⟩) (by assumption) ?_; (rotate_left; (intro wS hSw; (try dsimp only at hSw); go_simp; (try with_reducible rfl)); rotate_left); simp only [Act.put, List.setIfInBounds_toArray, List.set_cons_zero, List.set_cons_succ]
            refine lin_take (v := ?_) (by kernel_rfl) (by kernel_rfl) (fun _ _ _ h => h) (Or.inl ⟨by rfl, ?_⟩) (by assumption) ?_; (rotate_left; (intro wS hSw; (try dsimp only at hSw); go_simp; (try with_reducible rfl)); rotate_left); simp only [Act.put, List.setIfInBounds_toArray, List.set_cons_zero, List.set_cons_succ]
            refine lin_take (v := ?_) (by kernel_rfl) (by kernel_rfl) (fun _ _ _ h => h) (Or.inl ⟨by rfl, ?_⟩) (by assumption) ?_; (rotate_left; (intro wS hSw; (try dsimp only at hSw); go_simp; (try with_reducible rfl)); rotate_left); simp only [Act.put, List.setIfInBounds_toArray, List.set_cons_zero, List.set_cons_succ]
            refine lin_take (v := ?_) (by kernel_rfl) (by kernel_rfl) (fun _ _ _ h => h) (Or.inl ⟨by rfl, ?_⟩) (by assumption) ?_; (rotate_left; (intro wS hSw; (try dsimp only at hSw); go_simp; (try with_reducible rfl)); rotate_left); simp only [Act.put, List.setIfInBounds_toArray, List.set_cons_zero, List.set_cons_succ]
            refine lin_take (v := ?_) (by kernel_rfl) (by kernel_rfl) (fun _ _ _ h => h) (Or.inl ⟨by rfl, ?_⟩) (by assumption) ?_; (rotate_left; (intro wS hSw; (try dsimp only at hSw); go_simp; (try with_reducible rfl)); rotate_left); simp only [Act.put, List.setIfInBounds_toArray, List.set_cons_zero, List.set_cons_succ]
            refine lin_take (v := ?_) (by kernel_rfl) (by kernel_rfl) (fun _ _ _ h => h) (Or.inl ⟨by rfl, ?_⟩) (by assumption) ?_; (rotate_left; (intro wS hSw; (try dsimp only at hSw); go_simp; (try with_reducible rfl)); rotate_left); simp only [Act.put, List.setIfInBounds_toArray, List.set_cons_zero, List.set_cons_succ]
            refine lin_take (v := ?_) (by kernel_rfl) (by kernel_rfl) (fun _ _ _ h => h) (Or.inl ⟨by rfl, ?_⟩) (by assumption) ?_; (rotate_left; (intro wS hSw; (try dsimp only at hSw); go_simp; (try with_reducible rfl)); rotate_left); simp only [Act.put, List.setIfInBounds_toArray, List.set_cons_zero, List.set_cons_succ]
            refine lin_take (v := ?_) (by kernel_rfl) (by kernel_rfl) (fun _ _ _ h => h) (Or.inl ⟨by rfl, ?_⟩) (by assumption) ?_; (rotate_left; (intro wS hSw; (try dsimp only at hSw); go_simp; (try with_reducible rfl)); rotate_left); simp only [Act.put, List.setIfInBounds_toArray, List.set_cons_zero, List.set_cons_succ]
            refine lin_take (v := ?_) (by kernel_rfl) (by kernel_rfl) (fun _ _ _ h => h) (Or.inl ⟨by rfl, ?_⟩) (by assumption) ?_; (rotate_left; (intro wS hSw; (try dsimp only at hSw); go_simp; (try with_reducible rfl)); rotate_left); simp only [Act.put, List.setIfInBounds_toArray, List.set_cons_zero, List.set_cons_succ]
            refine lin_take (v := ?_) (by kernel_rfl) (by kernel_rfl) (fun _ _ _ h => h) (Or.inl ⟨by rfl, ?_⟩) (by assumption) ?_; (rotate_left; (intro wS hSw; (try dsimp only at hSw); go_simp; (try with_reducible rfl)); rotate_left); simp only [Act.put, List.setIfInBounds_toArray, List.set_cons_zero, List.set_cons_succ]
            refine lin_take (v := ?_) (by kernel_rfl) (by kernel_rfl) (fun _ _ _ h => h) (Or.inl ⟨by rfl, ?_⟩) (by assumption) ?_; (rotate_left; (intro wS hSw; (try dsimp only at hSw); go_simp; (try with_reducible rfl)); rotate_left); simp only [Act.put, List.setIfInBounds_toArray, List.set_cons_zero, List.set_cons_succ]
            refine lin_take (v := ?_) (by kernel_rfl) (by kernel_rfl) (fun _ _ _ h => h) (Or.inl ⟨by rfl, ?_⟩) (by assumption) ?_; (rotate_left; (intro wS hSw; (try dsimp only at hSw); go_simp; (try with_reducible rfl)); rotate_left); simp only [Act.put, List.setIfInBounds_toArray, List.set_cons_zero, List.set_cons_succ]
            refine lin_take (v := ?_) (by kernel_rfl) (by kernel_rfl) (fun _ _ _ h => h) (Or.inl ⟨by rfl, ?_⟩) (by assumption) ?_; (rotate_left; (intro wS hSw; (try dsimp only at hSw); go_simp; (try with_reducible rfl)); rotate_left); simp only [Act.put, List.setIfInBounds_toArray, List.set_cons_zero, List.set_cons_succ]
            refine lin_take (v := ?_) (by kernel_rfl) (by kernel_rfl) (fun _ _ _ h => h) (Or.inl ⟨by rfl, ?_⟩) (by assumption) ?_; (rotate_left; (intro wS hSw; (try dsimp only at hSw); go_simp; (try with_reducible rfl)); rotate_left); simp only [Act.put, List.setIfInBounds_toArray, List.set_cons_zero, List.set_cons_succ]
            refine lin_done (by kernel_rfl) ?_
            go_wp2_with fail
            go_round
            case rel => exact ⟨q + 1, by omega, congrArg (Value.int .i64) (by omega), hA8⟩
            case measure => simp [intOf]; omega
        · have hA8 : TOwn w wr.drew tb gs sb ag hb rb (N + 1) 1 N 2 3 ms2 xs2 hs2 bs2 fr2 pk2 (refL gr N rbv bs2 (.slice rto tk2.length rtc) tk2 fr2 pk2 (L3 pb wb cb N S ms2 pcs2 [])) := AOwn.drewN hA 1
          have hS0 := KS.out _ hA8
          go_wp2_with fail
          refine lin_start (S := (fun w' : World => w'.cell? ⟨gr, 2, none⟩ = some (.slice rto tk2.length rtc) ∧ w'.cell? ⟨gr, 4, none⟩ = some (.int .i64 pk2))) rfl 24 rfl hS0 ?_
          simp only [numbered, Nat.zero_add, Nat.reduceAdd]
          refine lin_take (v := ?_) (by kernel_rfl) (by kernel_rfl) (fun _ _ _ h => h) (Or.inl ⟨by rfl, ?_⟩) (by assumption) ?_; (rotate_left; (intro wS hSw; (try dsimp only at hSw); go_simp; (try with_reducible rfl)); rotate_left); simp only [Act.put, List.setIfInBounds_toArray, List.set_cons_zero, List.set_cons_succ]
          refine lin_rot ?_; simp only [List.cons_append, List.nil_append]
          refine lin_take (v := ?_) (by kernel_rfl) (by kernel_rfl) (fun _ _ _ h => h) (Or.inl ⟨by rfl, ?_⟩) (by assumption) ?_; (rotate_left; (intro wS hSw; (try dsimp only at hSw); go_simp; (try with_reducible rfl)); rotate_left); simp only [Act.put, List.setIfInBounds_toArray, List.set_cons_zero, List.set_cons_succ]
          refine lin_take (v := ?_) (by kernel_rfl) (by kernel_rfl) (fun _ _ _ h => h) (Or.inl ⟨by rfl, ?_⟩) (by assumption) ?_; (rotate_left; (intro wS hSw; (try dsimp only at hSw); go_simp; (try with_reducible rfl)); rotate_left); simp only [Act.put, List.setIfInBounds_toArray, List.set_cons_zero, List.set_cons_succ]
          refine lin_take (v := ?_) (by kernel_rfl) (by kernel_rfl) (fun _ _ _ h => h) (Or.inl ⟨by rfl, ?_⟩) (by assumption) ?_; (rotate_left; (intro wS hSw; (try dsimp only at hSw); go_simp; (try with_reducible rfl)); rotate_left); simp only [Act.put, List.setIfInBounds_toArray, List.set_cons_zero, List.set_cons_succ]
          refine lin_take (v := ?_) (by kernel_rfl) (by kernel_rfl) (fun _ _ _ h => h) (Or.inl ⟨by rfl, ?_⟩) (by assumption) ?_; (rotate_left; (intro wS hSw; (try dsimp only at hSw); go_simp; (try with_reducible rfl)); rotate_left); simp only [Act.put, List.setIfInBounds_toArray, List.set_cons_zero, List.set_cons_succ]
          refine lin_take (v := ?_) (by kernel_rfl) (by kernel_rfl) (fun _ _ _ h => h) (Or.inl ⟨by rfl, ?_⟩) (by assumption) ?_; (rotate_left; (intro wS hSw; (try dsimp only at hSw); go_simp; (try with_reducible rfl)); rotate_left); simp only [Act.put, List.setIfInBounds_toArray, List.set_cons_zero, List.set_cons_succ]
          refine lin_rot ?_; simp only [List.cons_append, List.nil_append]
          refine lin_rot ?_; simp only [List.cons_append, List.nil_append]
          refine lin_rot ?_; simp only [List.cons_append, List.nil_append]
          refine lin_rot ?_; simp only [List.cons_append, List.nil_append]
          refine lin_rot ?_; simp only [List.cons_append, List.nil_append]
          refine lin_rot ?_; simp only [List.cons_append, List.nil_append]
          refine lin_rot ?_; simp only [List.cons_append, List.nil_append]
          refine lin_rot ?_; simp only [List.cons_append, List.nil_append]
          refine lin_rot ?_; simp only [List.cons_append, List.nil_append]
          refine lin_rot ?_; simp only [List.cons_append, List.nil_append]
          refine lin_rot ?_; simp only [List.cons_append, List.nil_append]
          refine lin_rot ?_; simp only [List.cons_append, List.nil_append]
          refine lin_rot ?_; simp only [List.cons_append, List.nil_append]
          refine lin_rot ?_; simp only [List.cons_append, List.nil_append]
          refine lin_rot ?_; simp only [List.cons_append, List.nil_append]
          refine lin_rot ?_; simp only [List.cons_append, List.nil_append]
          refine lin_rot ?_; simp only [List.cons_append, List.nil_append]
          refine lin_sole (by kernel_rfl) (fun K hK => ?_)
          go_simp
          refine (US.out _ hA8).mono ?_
          rintro e w9 ⟨rfl, hA9⟩
          have hS9 := KS.out _ hA9
          refine hK.out _ _ ?_ (fun hHeld => ?_)
          · exact hS9
          try simp only [Act.put, List.setIfInBounds_toArray, List.set_cons_zero, List.set_cons_succ]
          refine lin_take (v := ?_) (by kernel_rfl) (by kernel_rfl) (fun _ _ _ h => h) (Or.inl ⟨by rfl, ?_⟩) (by assumption) ?_; (rotate_left; (intro wS hSw; (try dsimp only at hSw); go_simp; (try with_reducible rfl)); rotate_left); simp only [Act.put, List.setIfInBounds_toArray, List.set_cons_zero, List.set_cons_succ]
          refine lin_take (v := ?_) (by kernel_rfl) (by kernel_rfl) (fun _ _ _ h => h) (Or.inl ⟨by rfl, ?_⟩) (by assumption) ?_; (rotate_left; (intro wS hSw; (try dsimp only at hSw); go_simp; (try with_reducible rfl)); rotate_left); simp only [Act.put, List.setIfInBounds_toArray, List.set_cons_zero, List.set_cons_succ]
          refine lin_take (v := ?_) (by kernel_rfl) (by kernel_rfl) (fun _ _ _ h => h) (Or.inl ⟨by rfl, ?_⟩) (by assumption) ?_; (rotate_left; (intro wS hSw; (try dsimp only at hSw); go_simp; (try with_reducible rfl)); rotate_left); simp only [Act.put, List.setIfInBounds_toArray, List.set_cons_zero, List.set_cons_succ]
          refine lin_rot ?_; simp only [List.cons_append, List.nil_append]
          refine lin_take (v := ?_) (by kernel_rfl) (by kernel_rfl) (fun _ _ _ h => h) (Or.inl ⟨by rfl, ?_⟩) (by assumption) ?_; (rotate_left; (intro wS hSw; (try dsimp only at hSw); go_simp; (try with_reducible rfl)); rotate_left); simp only [Act.put, List.setIfInBounds_toArray, List.set_cons_zero, List.set_cons_succ]
          refine lin_take (v := ?_) (by kernel_rfl) (by kernel_rfl) (fun _ _ _ h => h) (Or.inl ⟨by rfl, ?_⟩) (by assumption) ?_; (rotate_left; (intro wS hSw; (try dsimp only at hSw); go_simp; (try with_reducible rfl)); rotate_left); simp only [Act.put, List.setIfInBounds_toArray, List.set_cons_zero, List.set_cons_succ]
          refine lin_take (v := ?_) (by kernel_rfl) (by kernel_rfl) (fun _ _ _ h => h) (Or.inl ⟨by rfl, ?_⟩) (by assumption) ?_; (rotate_left; (intro wS hSw; (try dsimp only at hSw); go_simp; (try with_reducible rfl)); rotate_left); simp only [Act.put, List.setIfInBounds_toArray, List.set_cons_zero, List.set_cons_succ]
          refine lin_take (v := ?_) (by kernel_rfl) (by kernel_rfl) (fun _ _ _ h => h) (Or.inl ⟨by rfl, ?_⟩) (by assumption) ?_; (rotate_left; (intro wS hSw; (try dsimp only at hSw); go_simp; (try with_reducible rfl)); rotate_left); simp only [Act.put, List.setIfInBounds_toArray, List.set_cons_zero, List.set_cons_succ]
          refine lin_rot ?_; simp only [List.cons_append, List.nil_append]
          refine lin_rot ?_; simp only [List.cons_append, List.nil_append]
          refine lin_rot ?_; simp only [List.cons_append, List.nil_append]
          refine lin_rot ?_; simp only [List.cons_append, List.nil_append]
          refine lin_rot ?_; simp only [List.cons_append, List.nil_append]
          refine lin_rot ?_; simp only [List.cons_append, List.nil_append]
          refine lin_rot ?_; simp only [List.cons_append, List.nil_append]
          refine lin_rot ?_; simp only [List.cons_append, List.nil_append]
          refine lin_rot ?_; simp only [List.cons_append, List.nil_append]
          refine lin_sole (by kernel_rfl) (fun K hK => ?_)
          go_simp
          refine (PKK.out _ hA9).mono ?_
          rintro e w10 ⟨rfl, rfl⟩
          refine hK.out _ _ ?_ (fun hHeld => ?_)
          · exact hS9
          try simp only [Act.put, List.setIfInBounds_toArray, List.set_cons_zero, List.set_cons_succ]
          refine lin_take (v := ?_) (by kernel_rfl) (by kernel_rfl) (fun _ _ _ h => h) (Or.inl ⟨by rfl, ?_⟩) (by assumption) ?_; (rotate_left; (intro wS hSw; (try dsimp only at hSw); go_simp; (try with_reducible rfl)); rotate_left); simp only [Act.put, List.setIfInBounds_toArray, List.set_cons_zero, List.set_cons_succ]
          refine lin_take (v := ?_) (by kernel_rfl) (by kernel_rfl) (fun _ _ _ h => h) (Or.inl ⟨by rfl, ?_⟩) (by assumption) ?_; (rotate_left; (intro wS hSw; (try dsimp only at hSw); go_simp; (try with_reducible rfl)); rotate_left); simp only [Act.put, List.setIfInBounds_toArray, List.set_cons_zero, List.set_cons_succ]
          refine lin_take (v := ?_) (by kernel_rfl) (by kernel_rfl) (fun _ _ _ h => h) (Or.inl ⟨by rfl, ?_⟩) (by assumption) ?_; (rotate_left; (intro wS hSw; (try dsimp only at hSw); go_simp; (try with_reducible rfl)); rotate_left); simp only [Act.put, List.setIfInBounds_toArray, List.set_cons_zero, List.set_cons_succ]
          refine lin_take (v := ?_) (by kernel_rfl) (by kernel_rfl) (fun _ _ _ h => h) (Or.inl ⟨by rfl, ?_⟩) (by assumption) ?_; (rotate_left; (intro wS hSw; (try dsimp only at hSw); go_simp; (try with_reducible rfl)); rotate_left); simp only [Act.put, List.setIfInBounds_toArray, List.set_cons_zero, List.set_cons_succ]
          refine lin_rot ?_; simp only [List.cons_append, List.nil_append]
          refine lin_take (v := ?_) (by kernel_rfl) (by kernel_rfl) (fun _ _ _ h => h) (Or.inl ⟨by rfl, ?_⟩) (by assumption) ?_; (rotate_left; (intro wS hSw; (try dsimp only at hSw); go_simp; (try with_reducible rfl)); rotate_left); simp only [Act.put, List.setIfInBounds_toArray, List.set_cons_zero, List.set_cons_succ]
          refine lin_rot ?_; simp only [List.cons_append, List.nil_append]
          refine lin_rot ?_; simp only [List.cons_append, List.nil_append]
          refine lin_rot ?_; simp only [List.cons_append, List.nil_append]
          refine lin_sole (by kernel_rfl) (fun K hK => ?_)
          go_simp
          refine (AL.out _ hA9).mono ?_
          rintro e w11 ⟨sao, scap, rfl, hA11, hL11⟩
          have hW11 := WL.out _ hA11
          refine hK.out _ _ ?_ (fun hHeld => ?_)
          · exact KS.out _ hA11
          try simp only [Act.put, List.setIfInBounds_toArray, List.set_cons_zero, List.set_cons_succ]
          refine lin_sole (by kernel_rfl) (fun K hK => ?_)
          go_simp
          refine (IA.out _ _ _ hL11 hW11).mono ?_
          rintro e w12 ⟨rfl, nd, hnd⟩
          have hA12 : TOwn w (w11.drewN nd) tb gs sb ag hb rb (N + 1) 1 N 2 3 ms2 xs2 hs2 bs2 fr2 pk2 (refL gr N rbv bs2 (.slice rto tk2.length rtc) tk2 fr2 pk2 (L3 pb wb cb N S ms2 pcs2 [])) := AOwn.drewN hA11 nd
          rw [← hnd] at hA12
          clear hnd
          refine hK.out _ _ ?_ (fun hHeld => ?_)
          · exact KS.out _ hA12
          try simp only [Act.put, List.setIfInBounds_toArray, List.set_cons_zero, List.set_cons_succ]
          refine lin_take (v := ?_) (by kernel_rfl) (by kernel_rfl) (fun _ _ _ h => h) (Or.inl ⟨by rfl, ?_⟩) (by assumption) ?_; (rotate_left; (intro wS hSw; (try dsimp only at hSw); go_simp; (try with_reducible rfl)); rotate_left); simp only [Act.put, List.setIfInBounds_toArray, List.set_cons_zero, List.set_cons_succ]
          refine lin_take (v := ?_) (by kernel_rfl) (by kernel_rfl) (fun _ _ _ h => h) (Or.inl ⟨by rfl, ?_⟩) (by assumption) ?_; (rotate_left; (intro wS hSw; (try dsimp only at hSw); go_simp; (try with_reducible rfl)); rotate_left); simp only [Act.put, List.setIfInBounds_toArray, List.set_cons_zero, List.set_cons_succ]
          refine lin_done (by kernel_rfl) ?_
          go_wp2_with fail
          go_roundw
          case rel => exact ⟨k + 1, fr2, hs2, bs2, tk2, ms2, pcs2, xs2, pk2, by omega, by have := hfk2.out; omega, by go_num, hI2, hT2, hml2, hxl2, hpl2, hP2, by obtain ⟨bv, h⟩ := hA12; exact ⟨bv, _, _, h⟩⟩
          case measure => simp [intOf]; omega
    case first =>
    by_cases hk3 : kd < 3
    · have hbd : ∀ w, (Instr.build 65 #[(0, .int .i64 1), (2, .int .i64 nn)]).run Try.prog w = .ok (.agg (frV 1 0 nn 0 0 0 0 0 0 0 0 0 false false 0 0 0 0 0)) w := fun _ => by kernel_rfl
      obtain ⟨nx, hnx⟩ : ∃ nx, nextA hs bs fr = nx := ⟨_, rfl⟩
      cases nx with
      | none => as_aux_lemma =>
        obtain ⟨TA, TR⟩ := fduo_full (w0 := w) (tb := tb) (gs := gs) (sb := sb) (ag := ag) (hb := hb) (rb := rb) (gr := gr) (pb := pb) (wb := wb) (cb := cb) (S := S) (ms := ms) (wds := ms) (pcs := pcs) (ol := [cellsA ob #[.int .i64 kd, .int .i64 nn, .int .i64 xx] 82]) (xs := xs) (tk := tk) (pk := pk) hI.out hN6 hnx (frV 1 0 nn 0 0 0 0 0 0 0 0 0 false false 0 0 0 0 0)
        replace TA := Lib.hid TA
        replace TR := Lib.hid TR
        clear hnx
        go_wp2_with fail
        go_at_call 50
        refine (TA.out _ hO1).mono ?_
        rintro e w5 ⟨rfl, hD5⟩
        clear o0 o1 o2
        go_wp2_with fail
        go_at_call 33
        refine (TR.out _ hD5).mono ?_
        rintro e wx ⟨rfl, hD6⟩
        go_wp2_with fail
        go_meet
        case rel => exact ⟨fr, hs, bs, tk, ms, pcs, xs, pk, Lib.hid (by omega), hI, hT, hml, hxl, hpl, hP, hD6.unbox⟩
      | some q => as_aux_lemma =>
        obtain ⟨id, bs2, fr2⟩ := q
        obtain ⟨i, rfl, i1, i2, i3, hI2, hlt3⟩ := hI.out.take hnx
        have hlen := hI.out.len
        have hT2 := hT.out.take i1 (by omega) i3
        have hfk2 := Lib.hid (show fr2 ≤ k + 1 by
          unfold nextA at hnx
          split at hnx
          · split at hnx
            · cases hnx
            · simp only [Option.some.injEq, Prod.mk.injEq] at hnx; omega
          · simp only [Option.some.injEq, Prod.mk.injEq] at hnx; omega)
        obtain ⟨Fa, hFa⟩ : ∃ Fa, 7 + (i - 1) * 14 = Fa := ⟨_, rfl⟩
        have hFr : frameV 1 N 2 3 i = Fa := by
          have hcl : clamp (i : Int) 1 N = i := by unfold clamp; omega
          unfold frameV wideV roomV; rw [hcl]; omega
        have hFS : Fa + 14 ≤ S := by have := hS.out; omega
        have hmS := hml.out
        obtain ⟨TA, TR⟩ := fduo_take (w0 := w) (tb := tb) (gs := gs) (sb := sb) (ag := ag) (hb := hb) (rb := rb) (gr := gr) (pb := pb) (wb := wb) (cb := cb) (S := S) (ms := ms) (wds := ms) (pcs := pcs) (ol := [cellsA ob #[.int .i64 kd, .int .i64 nn, .int .i64 xx] 82]) (xs := xs) (tk := tk) (pk := pk) hI.out hT.out hN6 hN1 hnx i2 hxl.out (frV 1 0 nn 0 0 0 0 0 0 0 0 0 false false 0 0 0 0 0) rfl (by simp [frV, Value.oneCell']) Fa hFr _ rfl
        have FR := fun w => frame_ok hok.out i w
        have RM := fun w => room_ok hok.out w
        rw [hFr] at FR
        rw [show roomV 2 = 14 by decide] at RM
        have hP2 := hP.out.make (i := i) (by omega) (frV 1 0 nn 0 0 0 0 0 0 0 0 0 false false 0 0 0 0 0).toList rfl nn rfl (by have := hxl.out; omega) (by have := hpl.out; omega)
        have hxl2 : (setsL xs (i * 19) (frV 1 0 nn 0 0 0 0 0 0 0 0 0 false false 0 0 0 0 0).toList).length = (N + 1) * 19 := by rw [setsL_length]; exact hxl.out
        have hw0 : ms = fillL ms Fa (0 : Nat) 0 ms.length := (fillL_none ms Fa 0 _).symm
        have hgrow := fun q (hq : q < 14) => fillL_grow (ms := ms) (F := Fa) (q := q) (n := 0) (by omega)
        have hlast : (fillL ms Fa (14 : Nat) 0 ms.length).set Fa 1 = fillL (fillL ms Fa 14 0 ms.length) Fa 1 1 ms.length := by
          have q := fillL_grow (ms := fillL ms Fa 14 0 ms.length) (F := Fa) (q := 0) (n := 1) (by rw [fillL_length]; omega)
          rw [fillL_length] at q
          have q0 := fillL_none (fillL ms Fa 14 0 ms.length) Fa 1 ms.length
          rw [show ((0 : Nat) : Int) = 0 from rfl, q0] at q
          exact q
        have hml2 : (fillL (fillL ms Fa 14 0 ms.length) Fa 1 1 ms.length).length = S := by rw [fillL_length, fillL_length]; exact hmS
        have hflen := fun q : Nat => (fillL_length ms Fa q 0 ms.length).trans hmS
        generalize setsL xs (i * 19) (frV 1 0 nn 0 0 0 0 0 0 0 0 0 false false 0 0 0 0 0).toList = xs2 at *
        generalize fillL (fillL ms Fa 14 0 ms.length) Fa 1 1 ms.length = ms2 at *
        obtain ⟨FL, hFL⟩ : ∃ FL : Nat → List Int, (fun q : Nat => fillL ms Fa q 0 ms.length) = FL := ⟨_, rfl⟩
        replace hgrow : Hid (∀ q, q < 14 → (FL q).set (Fa + q) 0 = FL (q + 1)) := Lib.hid (fun q hq => by rw [← hFL]; exact hgrow q hq)
        replace hlast : Hid ((FL 14).set Fa 1 = ms2) := Lib.hid (by rw [← hFL]; exact hlast)
        replace hw0 : Hid (ms = FL 0) := Lib.hid (by rw [← hFL]; exact hw0)
        replace hflen : Hid (∀ q, (FL q).length = S) := Lib.hid (fun q => by rw [← hFL]; exact hflen q)
        obtain ⟨hs2, hhs⟩ : ∃ hs2, hs.set i true = hs2 := ⟨_, rfl⟩
        obtain ⟨tk2, htk⟩ : ∃ tk2, tk ++ [(i : Int)] = tk2 := ⟨_, rfl⟩
        obtain ⟨pk2, hpk⟩ : ∃ pk2, max pk ((tk.length : Int) + 1) = pk2 := ⟨_, rfl⟩
        rw [hhs, hpk] at TA
        rw [hhs, htk, hpk] at TR
        rw [hhs] at hI2 hT2 hP2
        rw [htk] at hT2
        replace TA := Lib.hid TA
        replace TR := Lib.hid TR
        replace FR := Lib.hid FR
        replace RM := Lib.hid RM
        replace hI2 := Lib.hid hI2
        replace hT2 := Lib.hid hT2
        replace hP2 := Lib.hid hP2
        replace hml2 := Lib.hid hml2
        replace hxl2 := Lib.hid hxl2
        replace hFa := Lib.hid hFa
        have hi10 : (i : Int) < 10 := by omega
        clear hnx hhs htk hpk hlen i3 hlt3 hFr hmS hFL
        go_wp2_with fail
        go_at_call 50
        refine (TA.out _ hO1).mono ?_
        rintro e w5 ⟨rfl, hD5⟩
        clear o0 o1 o2
        obtain ⟨o0, o1, o2⟩ := hD5.o3
        go_wp2_with fail
        go_at_call 33
        refine (TR.out _ _ _ _ _ _ hD5).mono ?_
        rintro e w6 ⟨rfl, hD6⟩
        clear o0 o1 o2 hD5 TA TR
        have e1 : ¬ (10 : Int) ≤ (i : Int) := by omega
        have e2 : ¬ (Fa : Int) < 0 := by omega
        have e3 : IntKind.i64.wrap ((Fa : Int) + 14) = (Fa : Int) + 14 := IntWalk.i64_in _ (by omega)
        have e4 : ¬ (S : Int) < (Fa : Int) + 14 := by omega
        obtain ⟨p0, p1, p2, p3⟩ := hD6.plan
        go_wp2_with fail
        go_at_call 17
        refine (FR.out _).mono ?_
        rintro e w7 ⟨rfl, hb7⟩
        have hD7 := hD6.grow hb7
        clear hD6 hb7 p0 p1 p2 p3
        obtain ⟨p0, p1, p2, p3⟩ := hD7.plan
        go_wp2_with fail
        go_at_call 16
        refine (RM.out _).mono ?_
        rintro e w8 ⟨rfl, hb8⟩
        have hD8 := hD7.grow hb8
        clear hD7 hb8 p0 p1 p2 p3
        obtain ⟨p0, p1, p2, p3⟩ := hD8.plan
        go_wp2_with fail
        go_at_call 17
        refine (FR.out _).mono ?_
        rintro e w9' ⟨rfl, hb9⟩
        have hD9 := hD8.grow hb9
        clear hD8 hb9 p0 p1 p2 p3
        go_wp2_with fail
        rw [hw0.out] at hD9
        replace hD9 := (show FDuo w w9' tb gs sb ag hb rb gr pb wb cb N S ms2 xs2 hs2 bs2 bs2 tk2 fr2 fr2 pk2 pk2 (FL 0) pcs [cellsA ob #[.int .i64 kd, .int .i64 nn, .int .i64 xx] 82] from hD9)
        go_loopw [18] (fun v wr => ∃ q : Nat, q ≤ 14 ∧ v = .int .i64 q ∧ FDuo w wr tb gs sb ag hb rb gr pb wb cb N S ms2 xs2 hs2 bs2 bs2 tk2 fr2 fr2 pk2 pk2 (FL q) pcs [cellsA ob #[.int .i64 kd, .int .i64 nn, .int .i64 xx] 82]) (fun v _ => (14 - intOf v).toNat)
        case atStart => exact ⟨0, by omega, rfl, hD9⟩
        case round =>
          clear hD9
          obtain ⟨q, hq, rfl, hD10⟩ := hrel
          obtain ⟨p0, p1, p2, p3⟩ := hD10.plan
          go_wp2_with fail
          go_at_call 16
          refine (RM.out _).mono ?_
          rintro e w11 ⟨rfl, hb11⟩
          have hD11 := hD10.grow hb11
          clear hD10 hb11 p0 p1 p2 p3
          obtain ⟨p0, p1, p2, p3⟩ := hD11.plan
          by_cases hq14 : q < 14
          · go_wp2_with fail
            go_at_call 17
            refine (FR.out _).mono ?_
            rintro e w12 ⟨rfl, hb12⟩
            have hD12 := hD11.grow hb12
            clear hD11 hb12 p0 p1 p2 p3
            obtain ⟨c0, c1⟩ := hD12.wfree (j := Fa + q) (by omega) (hflen.out q)
            have hD13 := hD12.wset (Fa + q) 0
            rw [hgrow.out q hq14] at hD13
            have e5 : IntKind.i64.wrap ((Fa : Int) + (q : Int)) = (Fa : Int) + (q : Int) := IntWalk.i64_in _ (by omega)
            have e6 : (Fa : Int) + (q : Int) < (S : Int) := by omega
            have e7 : ((Fa : Int) + (q : Int)).toNat = Fa + q := by omega
            have e8 : (0 : Int) ≤ (Fa : Int) + (q : Int) := by omega
            go_wp2_with fail
            go_round
            case rel => exact ⟨q + 1, by omega, by go_num, hD13⟩
            case measure => simp [intOf]; omega
          · obtain rfl : q = 14 := by omega
            go_wp2_with fail
            go_at_call 17
            refine (FR.out _).mono ?_
            rintro e w12 ⟨rfl, hb12⟩
            have hD12 := hD11.grow hb12
            clear hD11 hb12 p0 p1 p2 p3
            obtain ⟨c0, c1⟩ := hD12.wfree (j := Fa) (by omega) (hflen.out 14)
            have hD13 := hD12.wset Fa 1
            rw [hlast.out] at hD13
            obtain ⟨o0, o1, o2⟩ := hD13.o3
            obtain ⟨d0, d1⟩ := hD13.pfree (j := i) (by omega) hpl.out
            have hD14 := hD13.pset i nn
            have e6 : (Fa : Int) < (S : Int) := by omega
            go_wp2_with fail
            go_meet
            case rel => exact ⟨fr2, hs2, bs2, tk2, ms2, pcs.set i nn, xs2, pk2, hfk2, hI2, hT2, hml2, hxl2, Lib.hid (by rw [List.length_set]; exact hpl.out), hP2, hD14.unbox⟩
    · by_cases hk33 : kd = 3
      · subst hk33
        have hlen := hI.out.len
        cases hxt : heldB hs nn with
        | false => as_aux_lemma =>
          obtain ⟨GA, GR⟩ := fduo_giveno (w0 := w) (tb := tb) (gs := gs) (sb := sb) (ag := ag) (hb := hb) (rb := rb) (gr := gr) (pb := pb) (wb := wb) (cb := cb) (S := S) (ms := ms) (wds := ms) (pcs := pcs) (ol := [cellsA ob #[.int .i64 3, .int .i64 nn, .int .i64 xx] 82]) (xs := xs) (tk := tk) (pk := pk) hI.out hT.out hN6 hxt
          replace GA := Lib.hid GA
          replace GR := Lib.hid GR
          clear hxt hlen
          go_wp2_with fail
          have hS0 : (fun w' : World => w'.cell? ⟨ob, 1, none⟩ = some (.int .i64 nn)) wo.drew := (hO1.drewN 1).o3.2.1
          refine lin_start (S := (fun w' : World => w'.cell? ⟨ob, 1, none⟩ = some (.int .i64 nn))) rfl 9 rfl hS0 ?_
          simp only [numbered, Nat.zero_add, Nat.reduceAdd]
          refine lin_take (v := ?_) (by kernel_rfl) (by kernel_rfl) (fun _ _ _ h => h) (Or.inl ⟨by rfl, ?_⟩) (by assumption) ?_; (rotate_left; (intro wS hSw; (try dsimp only at hSw); go_simp; (try with_reducible rfl)); rotate_left); simp only [Act.put, List.setIfInBounds_toArray, List.set_cons_zero, List.set_cons_succ]
          refine lin_take (v := ?_) (by kernel_rfl) (by kernel_rfl) (fun _ _ _ h => h) (Or.inl ⟨by rfl, ?_⟩) (by assumption) ?_; (rotate_left; (intro wS hSw; (try dsimp only at hSw); go_simp; (try with_reducible rfl)); rotate_left); simp only [Act.put, List.setIfInBounds_toArray, List.set_cons_zero, List.set_cons_succ]
          refine lin_take (v := ?_) (by kernel_rfl) (by kernel_rfl) (fun _ _ _ h => h) (Or.inl ⟨by rfl, ?_⟩) (by assumption) ?_; (rotate_left; (intro wS hSw; (try dsimp only at hSw); go_simp; (try with_reducible rfl)); rotate_left); simp only [Act.put, List.setIfInBounds_toArray, List.set_cons_zero, List.set_cons_succ]
          refine lin_rot ?_; simp only [List.cons_append, List.nil_append]
          refine lin_take (v := ?_) (by kernel_rfl) (by kernel_rfl) (fun _ _ _ h => h) (Or.inl ⟨by rfl, ?_⟩) (by assumption) ?_; (rotate_left; (intro wS hSw; (try dsimp only at hSw); go_simp; (try with_reducible rfl)); rotate_left); simp only [Act.put, List.setIfInBounds_toArray, List.set_cons_zero, List.set_cons_succ]
          refine lin_take (v := ?_) (by kernel_rfl) (by kernel_rfl) (fun _ _ _ h => h) (Or.inl ⟨by rfl, ?_⟩) (by assumption) ?_; (rotate_left; (intro wS hSw; (try dsimp only at hSw); go_simp; (try with_reducible rfl)); rotate_left); simp only [Act.put, List.setIfInBounds_toArray, List.set_cons_zero, List.set_cons_succ]
          refine lin_take (v := ?_) (by kernel_rfl) (by kernel_rfl) (fun _ _ _ h => h) (Or.inl ⟨by rfl, ?_⟩) (by assumption) ?_; (rotate_left; (intro wS hSw; (try dsimp only at hSw); go_simp; (try with_reducible rfl)); rotate_left); simp only [Act.put, List.setIfInBounds_toArray, List.set_cons_zero, List.set_cons_succ]
          refine lin_rot ?_; simp only [List.cons_append, List.nil_append]
          refine lin_rot ?_; simp only [List.cons_append, List.nil_append]
          refine lin_sole (by kernel_rfl) (fun K hK => ?_)
          go_simp
          refine (GA.out _ (hO1.drewN 1)).mono ?_
          rintro e w5 ⟨rfl, hD5⟩
          refine hK.out _ _ ?_ (fun hHeld => ?_)
          · exact hD5.o3.2.1
          try simp only [Act.put, List.setIfInBounds_toArray, List.set_cons_zero, List.set_cons_succ]
          refine lin_sole (by kernel_rfl) (fun K hK => ?_)
          go_simp
          refine (GR.out _ hD5).mono ?_
          rintro e w6 ⟨rfl, hD6⟩
          refine hK.out _ _ ?_ (fun hHeld => ?_)
          · exact hD6.o3.2.1
          try simp only [Act.put, List.setIfInBounds_toArray, List.set_cons_zero, List.set_cons_succ]
          refine lin_take (v := ?_) (by kernel_rfl) (by kernel_rfl) (fun _ _ _ h => h) (Or.inl ⟨by rfl, ?_⟩) (by assumption) ?_; (rotate_left; (intro wS hSw; (try dsimp only at hSw); go_simp; (try with_reducible rfl)); rotate_left); simp only [Act.put, List.setIfInBounds_toArray, List.set_cons_zero, List.set_cons_succ]
          refine lin_done (by kernel_rfl) ?_
          go_wp2_with fail
          go_meet
          case rel => exact ⟨fr, hs, bs, tk, ms, pcs, xs, pk, Lib.hid (by omega), hI, hT, hml, hxl, hpl, hP, hD6.unbox⟩
        | true => as_aux_lemma =>
          obtain ⟨i, rfl, j1, j2, j3⟩ := heldB_nat hxt
          obtain ⟨GA, GR⟩ := fduo_give (w0 := w) (tb := tb) (gs := gs) (sb := sb) (ag := ag) (hb := hb) (rb := rb) (gr := gr) (pb := pb) (wb := wb) (cb := cb) (S := S) (ms := ms) (wds := ms) (pcs := pcs) (ol := [cellsA ob #[.int .i64 3, .int .i64 i, .int .i64 xx] 82]) (xs := xs) (tk := tk) (pk := pk) hI.out hT.out hN6 hxt
          have hI2 := Lib.hid (hI.out.give hxt).1
          have hT2 := Lib.hid (hT.out.give j2 j3)
          have hP2 := Lib.hid (hP.out.free j2)
          replace GA := Lib.hid GA
          replace GR := Lib.hid GR
          clear hxt hlen j2 j3
          go_wp2_with fail
          have hS0 : (fun w' : World => w'.cell? ⟨ob, 1, none⟩ = some (.int .i64 i)) wo.drew := (hO1.drewN 1).o3.2.1
          refine lin_start (S := (fun w' : World => w'.cell? ⟨ob, 1, none⟩ = some (.int .i64 i))) rfl 9 rfl hS0 ?_
          simp only [numbered, Nat.zero_add, Nat.reduceAdd]
          refine lin_take (v := ?_) (by kernel_rfl) (by kernel_rfl) (fun _ _ _ h => h) (Or.inl ⟨by rfl, ?_⟩) (by assumption) ?_; (rotate_left; (intro wS hSw; (try dsimp only at hSw); go_simp; (try with_reducible rfl)); rotate_left); simp only [Act.put, List.setIfInBounds_toArray, List.set_cons_zero, List.set_cons_succ]
          refine lin_take (v := ?_) (by kernel_rfl) (by kernel_rfl) (fun _ _ _ h => h) (Or.inl ⟨by rfl, ?_⟩) (by assumption) ?_; (rotate_left; (intro wS hSw; (try dsimp only at hSw); go_simp; (try with_reducible rfl)); rotate_left); simp only [Act.put, List.setIfInBounds_toArray, List.set_cons_zero, List.set_cons_succ]
          refine lin_take (v := ?_) (by kernel_rfl) (by kernel_rfl) (fun _ _ _ h => h) (Or.inl ⟨by rfl, ?_⟩) (by assumption) ?_; (rotate_left; (intro wS hSw; (try dsimp only at hSw); go_simp; (try with_reducible rfl)); rotate_left); simp only [Act.put, List.setIfInBounds_toArray, List.set_cons_zero, List.set_cons_succ]
          refine lin_rot ?_; simp only [List.cons_append, List.nil_append]
          refine lin_take (v := ?_) (by kernel_rfl) (by kernel_rfl) (fun _ _ _ h => h) (Or.inl ⟨by rfl, ?_⟩) (by assumption) ?_; (rotate_left; (intro wS hSw; (try dsimp only at hSw); go_simp; (try with_reducible rfl)); rotate_left); simp only [Act.put, List.setIfInBounds_toArray, List.set_cons_zero, List.set_cons_succ]
          refine lin_take (v := ?_) (by kernel_rfl) (by kernel_rfl) (fun _ _ _ h => h) (Or.inl ⟨by rfl, ?_⟩) (by assumption) ?_; (rotate_left; (intro wS hSw; (try dsimp only at hSw); go_simp; (try with_reducible rfl)); rotate_left); simp only [Act.put, List.setIfInBounds_toArray, List.set_cons_zero, List.set_cons_succ]
          refine lin_take (v := ?_) (by kernel_rfl) (by kernel_rfl) (fun _ _ _ h => h) (Or.inl ⟨by rfl, ?_⟩) (by assumption) ?_; (rotate_left; (intro wS hSw; (try dsimp only at hSw); go_simp; (try with_reducible rfl)); rotate_left); simp only [Act.put, List.setIfInBounds_toArray, List.set_cons_zero, List.set_cons_succ]
          refine lin_rot ?_; simp only [List.cons_append, List.nil_append]
          refine lin_rot ?_; simp only [List.cons_append, List.nil_append]
          refine lin_sole (by kernel_rfl) (fun K hK => ?_)
          go_simp
          refine (GA.out _ (hO1.drewN 1)).mono ?_
          rintro e w5 ⟨rfl, hD5⟩
          refine hK.out _ _ ?_ (fun hHeld => ?_)
          · exact hD5.o3.2.1
          try simp only [Act.put, List.setIfInBounds_toArray, List.set_cons_zero, List.set_cons_succ]
          refine lin_sole (by kernel_rfl) (fun K hK => ?_)
          go_simp
          refine (GR.out _ hD5).mono ?_
          rintro e w6 ⟨rfl, hD6⟩
          refine hK.out _ _ ?_ (fun hHeld => ?_)
          · exact hD6.o3.2.1
          try simp only [Act.put, List.setIfInBounds_toArray, List.set_cons_zero, List.set_cons_succ]
          refine lin_take (v := ?_) (by kernel_rfl) (by kernel_rfl) (fun _ _ _ h => h) (Or.inl ⟨by rfl, ?_⟩) (by assumption) ?_; (rotate_left; (intro wS hSw; (try dsimp only at hSw); go_simp; (try with_reducible rfl)); rotate_left); simp only [Act.put, List.setIfInBounds_toArray, List.set_cons_zero, List.set_cons_succ]
          refine lin_done (by kernel_rfl) ?_
          go_wp2_with fail
          go_meet
          case rel => exact ⟨fr, _, _, _, ms, pcs, xs, pk, Lib.hid (by omega), hI2, hT2, hml, hxl, hpl, hP2, hD6.unbox⟩
      · have hlen := hI.out.len
        have hh0 := hI.out.h0
        have k3 : (kd == 3) = false := by rw [beq_eq_false_iff_ne]; exact hk33
        obtain ⟨bv, rbv, rtv, hA0⟩ := hO1
        obtain ⟨rto, rtc, rfl⟩ : ∃ rto rtc, rtv = .slice rto tk.length rtc := by obtain ⟨a, b, c, _⟩ := (hA0.row 8 rfl).shape; exact ⟨a, b, c⟩
        have hA : TOwn w wo tb gs sb ag hb rb (N + 1) 1 N 2 3 ms xs hs bs fr pk (refL gr N rbv bs (.slice rto tk.length rtc) tk fr pk (L3 pb wb cb N S ms pcs [cellsA ob #[.int .i64 kd, .int .i64 nn, .int .i64 xx] 82])) := ⟨bv, hA0⟩
        clear hA0 bv
        have KS := Lib.hid (fun (w5 : World) (h : TOwn w w5 tb gs sb ag hb rb (N + 1) 1 N 2 3 ms xs hs bs fr pk (refL gr N rbv bs (.slice rto tk.length rtc) tk fr pk (L3 pb wb cb N S ms pcs [cellsA ob #[.int .i64 kd, .int .i64 nn, .int .i64 xx] 82]))) => show (fun w' : World => w'.cell? ⟨gr, 2, none⟩ = some (.slice rto tk.length rtc) ∧ w'.cell? ⟨ob, 1, none⟩ = some (.int .i64 nn)) w5 from h.elim fun _ h => ⟨(h.cget 6 rfl 2).1, (h.cget 12 rfl 1).1⟩)
        have HS := Lib.hid (fun (w5 : World) (h : TOwn w w5 tb gs sb ag hb rb (N + 1) 1 N 2 3 ms xs hs bs fr pk (refL gr N rbv bs (.slice rto tk.length rtc) tk fr pk (L3 pb wb cb N S ms pcs [cellsA ob #[.int .i64 kd, .int .i64 nn, .int .i64 xx] 82]))) (x : Int) (t : Bool) (ht : heldB hs x = t) => has_any (w := w5) (h.elim fun _ hO => Lies.of_row (hO.row 8 rfl) rfl) x t (by rw [hT.out.has hh0]; exact ht))
        have AY := Lib.hid (fun (w5 : World) (h : TOwn w w5 tb gs sb ag hb rb (N + 1) 1 N 2 3 ms xs hs bs fr pk (refL gr N rbv bs (.slice rto tk.length rtc) tk fr pk (L3 pb wb cb N S ms pcs [cellsA ob #[.int .i64 kd, .int .i64 nn, .int .i64 xx] 82]))) (i : Nat) (hi : i < N + 1) (ht : heldB hs i = true) => at_yes h (by omega) i hi ht)
        replace hlen := Lib.hid hlen
        clear hh0
        have hA8 : TOwn w wo.drew tb gs sb ag hb rb (N + 1) 1 N 2 3 ms xs hs bs fr pk (refL gr N rbv bs (.slice rto tk.length rtc) tk fr pk (L3 pb wb cb N S ms pcs [cellsA ob #[.int .i64 kd, .int .i64 nn, .int .i64 xx] 82])) := AOwn.drewN hA 1
        have hS0 := KS.out _ hA8
        cases hxt : heldB hs nn with
        | false => as_aux_lemma =>
          have hxt' := Lib.hid hxt
          clear hxt AY
          go_wp2_with fail
          refine lin_start (S := (fun w' : World => w'.cell? ⟨gr, 2, none⟩ = some (.slice rto tk.length rtc) ∧ w'.cell? ⟨ob, 1, none⟩ = some (.int .i64 nn))) rfl 8 rfl hS0 ?_
          simp only [numbered, Nat.zero_add, Nat.reduceAdd]
          refine lin_take (v := ?_) (by kernel_rfl) (by kernel_rfl) (fun _ _ _ h => h) (Or.inl ⟨by rfl, ?_⟩) (by assumption) ?_; (rotate_left; (intro wS hSw; (try dsimp only at hSw); go_simp; (try with_reducible rfl)); rotate_left); simp only [Act.put, List.setIfInBounds_toArray, List.set_cons_zero, List.set_cons_succ]
          refine lin_take (v := ?_) (by kernel_rfl) (by kernel_rfl) (fun _ _ _ h => h) (Or.inl ⟨by rfl, ?_⟩) (by assumption) ?_; (rotate_left; (intro wS hSw; (try dsimp only at hSw); go_simp; (try with_reducible rfl)); rotate_left); simp only [Act.put, List.setIfInBounds_toArray, List.set_cons_zero, List.set_cons_succ]
          refine lin_take (v := ?_) (by kernel_rfl) (by kernel_rfl) (fun _ _ _ h => h) (Or.inl ⟨by rfl, ?_⟩) (by assumption) ?_; (rotate_left; (intro wS hSw; (try dsimp only at hSw); go_simp; (try with_reducible rfl)); rotate_left); simp only [Act.put, List.setIfInBounds_toArray, List.set_cons_zero, List.set_cons_succ]
          refine lin_take (v := ?_) (by kernel_rfl) (by kernel_rfl) (fun _ _ _ h => h) (Or.inl ⟨by rfl, ?_⟩) (by assumption) ?_; (rotate_left; (intro wS hSw; (try dsimp only at hSw); go_simp; (try with_reducible rfl)); rotate_left); simp only [Act.put, List.setIfInBounds_toArray, List.set_cons_zero, List.set_cons_succ]
          refine lin_take (v := ?_) (by kernel_rfl) (by kernel_rfl) (fun _ _ _ h => h) (Or.inl ⟨by rfl, ?_⟩) (by assumption) ?_; (rotate_left; (intro wS hSw; (try dsimp only at hSw); go_simp; (try with_reducible rfl)); rotate_left); simp only [Act.put, List.setIfInBounds_toArray, List.set_cons_zero, List.set_cons_succ]
          refine lin_take (v := ?_) (by kernel_rfl) (by kernel_rfl) (fun _ _ _ h => h) (Or.inl ⟨by rfl, ?_⟩) (by assumption) ?_; (rotate_left; (intro wS hSw; (try dsimp only at hSw); go_simp; (try with_reducible rfl)); rotate_left); simp only [Act.put, List.setIfInBounds_toArray, List.set_cons_zero, List.set_cons_succ]
          refine lin_sole (by kernel_rfl) (fun K hK => ?_)
          go_simp
          refine (HS.out _ hA8 nn false hxt'.out).mono ?_
          rintro e w9 ⟨rfl, rfl⟩
          refine hK.out _ _ ?_ (fun hHeld => ?_)
          · exact hS0
          try simp only [Act.put, List.setIfInBounds_toArray, List.set_cons_zero, List.set_cons_succ]
          refine lin_take (v := ?_) (by kernel_rfl) (by kernel_rfl) (fun _ _ _ h => h) (Or.inl ⟨by rfl, ?_⟩) (by assumption) ?_; (rotate_left; (intro wS hSw; (try dsimp only at hSw); go_simp; (try with_reducible rfl)); rotate_left); simp only [Act.put, List.setIfInBounds_toArray, List.set_cons_zero, List.set_cons_succ]
          refine lin_done (by kernel_rfl) ?_
          go_wp2_with fail
          go_meet
          case rel => exact ⟨fr, hs, bs, tk, ms, pcs, xs, pk, Lib.hid (by omega), hI, hT, hml, hxl, hpl, hP, (show FDuo w _ tb gs sb ag hb rb gr pb wb cb N S ms xs hs bs bs tk fr fr pk pk ms pcs [cellsA ob #[.int .i64 kd, .int .i64 nn, .int .i64 xx] 82] from by obtain ⟨bv, h⟩ := hA8; exact ⟨bv, _, _, h⟩).unbox⟩
        | true =>
          have hxt' := Lib.hid hxt
          obtain ⟨i, rfl, j1, j2, j3⟩ := heldB_nat hxt
          have hiN : i ≤ N := by have := hlen.out; omega
          clear hxt j2
          go_wp2_with fail
          refine lin_start (S := (fun w' : World => w'.cell? ⟨gr, 2, none⟩ = some (.slice rto tk.length rtc) ∧ w'.cell? ⟨ob, 1, none⟩ = some (.int .i64 i))) rfl 8 rfl hS0 ?_
          simp only [numbered, Nat.zero_add, Nat.reduceAdd]
          refine lin_take (v := ?_) (by kernel_rfl) (by kernel_rfl) (fun _ _ _ h => h) (Or.inl ⟨by rfl, ?_⟩) (by assumption) ?_; (rotate_left; (intro wS hSw; (try dsimp only at hSw); go_simp; (try with_reducible rfl)); rotate_left); simp only [Act.put, List.setIfInBounds_toArray, List.set_cons_zero, List.set_cons_succ]
          refine lin_take (v := ?_) (by kernel_rfl) (by kernel_rfl) (fun _ _ _ h => h) (Or.inl ⟨by rfl, ?_⟩) (by assumption) ?_; (rotate_left; (intro wS hSw; (try dsimp only at hSw); go_simp; (try with_reducible rfl)); rotate_left); simp only [Act.put, List.setIfInBounds_toArray, List.set_cons_zero, List.set_cons_succ]
          refine lin_take (v := ?_) (by kernel_rfl) (by kernel_rfl) (fun _ _ _ h => h) (Or.inl ⟨by rfl, ?_⟩) (by assumption) ?_; (rotate_left; (intro wS hSw; (try dsimp only at hSw); go_simp; (try with_reducible rfl)); rotate_left); simp only [Act.put, List.setIfInBounds_toArray, List.set_cons_zero, List.set_cons_succ]
          refine lin_take (v := ?_) (by kernel_rfl) (by kernel_rfl) (fun _ _ _ h => h) (Or.inl ⟨by rfl, ?_⟩) (by assumption) ?_; (rotate_left; (intro wS hSw; (try dsimp only at hSw); go_simp; (try with_reducible rfl)); rotate_left); simp only [Act.put, List.setIfInBounds_toArray, List.set_cons_zero, List.set_cons_succ]
          refine lin_take (v := ?_) (by kernel_rfl) (by kernel_rfl) (fun _ _ _ h => h) (Or.inl ⟨by rfl, ?_⟩) (by assumption) ?_; (rotate_left; (intro wS hSw; (try dsimp only at hSw); go_simp; (try with_reducible rfl)); rotate_left); simp only [Act.put, List.setIfInBounds_toArray, List.set_cons_zero, List.set_cons_succ]
          refine lin_take (v := ?_) (by kernel_rfl) (by kernel_rfl) (fun _ _ _ h => h) (Or.inl ⟨by rfl, ?_⟩) (by assumption) ?_; (rotate_left; (intro wS hSw; (try dsimp only at hSw); go_simp; (try with_reducible rfl)); rotate_left); simp only [Act.put, List.setIfInBounds_toArray, List.set_cons_zero, List.set_cons_succ]
          refine lin_sole (by kernel_rfl) (fun K hK => ?_)
          go_simp
          refine (HS.out _ hA8 i true hxt'.out).mono ?_
          rintro e w9 ⟨rfl, rfl⟩
          refine hK.out _ _ ?_ (fun hHeld => ?_)
          · exact hS0
          try simp only [Act.put, List.setIfInBounds_toArray, List.set_cons_zero, List.set_cons_succ]
          refine lin_take (v := ?_) (by kernel_rfl) (by kernel_rfl) (fun _ _ _ h => h) (Or.inl ⟨by rfl, ?_⟩) (by assumption) ?_; (rotate_left; (intro wS hSw; (try dsimp only at hSw); go_simp; (try with_reducible rfl)); rotate_left); simp only [Act.put, List.setIfInBounds_toArray, List.set_cons_zero, List.set_cons_succ]
          refine lin_done (by kernel_rfl) ?_
          obtain ⟨o0, o1, o2⟩ : wo.drew.cell? ⟨ob, 0, none⟩ = some (.int .i64 kd) ∧ wo.drew.cell? ⟨ob, 1, none⟩ = some (.int .i64 i) ∧ wo.drew.cell? ⟨ob, 2, none⟩ = some (.int .i64 xx) := hA8.elim fun _ h => ⟨(h.cget 12 rfl 0).1, (h.cget 12 rfl 1).1, (h.cget 12 rfl 2).1⟩
          have AT := Lib.hid (AY.out _ hA8 i (by omega) hxt'.out)
          have hD9 : FDuo w wo.drew tb gs sb ag hb rb gr pb wb cb N S ms xs hs bs bs tk fr fr pk pk ms pcs [cellsA ob #[.int .i64 kd, .int .i64 i, .int .i64 xx] 82] := by obtain ⟨bv, h⟩ := hA8; exact ⟨bv, _, _, h⟩
          clear hA hA8 hS0 KS HS AY hHeld
          obtain ⟨pcv, hpcv⟩ : ∃ v, pcs.getD i 0 = v := ⟨_, rfl⟩
          have hxc := hP.out i j1 hiN j3
          have hxlt : i * 19 + 2 < (N + 1) * 19 := by omega
          have hi10 : i < 10 := by omega
          have hi10i : (i : Int) < 10 := by omega
          generalize wo.drew = w9 at *
          by_cases hk4 : kd = 4
          · as_aux_lemma =>
            subst hk4
            obtain ⟨c0, c1⟩ := hD9.xfree hxc hxlt
            have hD10 := hD9.xset (i * 19 + 2) (.int .i64 xx)
            obtain ⟨q0, q1, q2⟩ := hD10.o3
            obtain ⟨d0, d1⟩ := hD10.pfree hi10 hpl.out
            have hD11 := hD10.pset i xx
            have hP2 := Lib.hid (hP.out.set (i := i) xx (by rw [hxl.out]; exact hxlt) (by rw [hpl.out]; exact hi10))
            clear hxc hpcv j3 hk33
            go_wp2_with fail
            go_at_call 51
            refine AT.out.mono ?_
            rintro e w8 ⟨rfl, rfl⟩
            go_wp2_with fail
            go_meet
            case rel => exact ⟨fr, hs, bs, tk, ms, pcs.set i xx, xs.set (i * 19 + 2) (.int .i64 xx), pk, Lib.hid (by omega), hI, hT, hml, Lib.hid (by rw [List.length_set]; exact hxl.out), Lib.hid (by rw [List.length_set]; exact hpl.out), hP2, hD11.unbox⟩
          · as_aux_lemma =>
            have k4 : (kd == 4) = false := by rw [beq_eq_false_iff_ne]; exact hk4
            obtain ⟨Fa, hFa⟩ : ∃ Fa, 7 + (i - 1) * 14 = Fa := ⟨_, rfl⟩
            have hFr : frameV 1 N 2 3 i = Fa := by
              have hcl : clamp (i : Int) 1 N = i := by unfold clamp; omega
              unfold frameV wideV roomV; rw [hcl]; omega
            have hFS : Fa + 14 ≤ S := by have := hS.out; omega
            have FR := fun w => frame_ok hok.out i w
            rw [hFr] at FR
            replace FR := Lib.hid FR
            obtain ⟨U, hU⟩ : ∃ U, IntKind.u64.wrap xx = U := ⟨_, rfl⟩
            have hUb : 0 ≤ U ∧ U < 18446744073709551616 := by
              rw [← hU]
              simp only [IntKind.wrap, IntKind.signed, IntKind.bits]
              simp only [Bool.false_and, Bool.false_eq_true, if_false]
              omega
            obtain ⟨D, hD⟩ : ∃ D : Nat, U % 14 = D := ⟨(U % 14).toNat, by omega⟩
            have hD14 : D < 14 := by omega
            have m1 : U.tmod 14 = D := by rw [Int.tmod_eq_emod_of_nonneg hUb.1]; exact hD
            have m2 : IntKind.u64.wrap (D : Int) = D := by
              simp only [IntKind.wrap, IntKind.signed, IntKind.bits, Bool.false_and, Bool.false_eq_true, if_false]
              omega
            have m3 : IntKind.i64.wrap (D : Int) = D := IntWalk.i64_in _ (by omega)
            have m4 : IntKind.i64.wrap ((Fa : Int) + (D : Int)) = (Fa : Int) + (D : Int) := IntWalk.i64_in _ (by omega)
            have m5 : ¬ (Fa : Int) + (D : Int) < 0 := by omega
            have m6 : ¬ (S : Int) ≤ (Fa : Int) + (D : Int) := by omega
            have m7 : (Fa : Int) + (D : Int) < (S : Int) := by omega
            have m8 : ((Fa : Int) + (D : Int)).toNat = Fa + D := by omega
            have m9 : (0 : Int) ≤ (Fa : Int) + (D : Int) := by omega
            have ST := Lib.hid (fun (w5 : World) (h : FDuo w w5 tb gs sb ag hb rb gr pb wb cb N S ms xs hs bs bs tk fr fr pk pk ms pcs [cellsA ob #[.int .i64 kd, .int .i64 i, .int .i64 xx] 82]) => show Calls Try.prog 56 #[.pointer (some ⟨gs, 0, none⟩), .int .i64 ((Fa : Int) + (D : Int)), .int .i64 xx] w5 fun e w' => e = .returned (.bool true) ∧ FDuo w w' tb gs sb ag hb rb gr pb wb cb N S (ms.set (Fa + D) xx) xs hs bs bs tk fr fr pk pk ms pcs [cellsA ob #[.int .i64 kd, .int .i64 i, .int .i64 xx] 82] from by
              obtain ⟨bv, rbv, rtv, h⟩ := h
              have q := own_store h 4 rfl (k := Fa + D) (by rw [hml.out]; omega) xx _ rfl
              rw [Int.natCast_add] at q
              exact q.mono fun e w' ⟨he, hO⟩ => ⟨he, bv, rbv, rtv, hO⟩)
            clear hD hUb
            clear hxc hpcv j3 hk33 hFr
            obtain ⟨o0, o1, o2⟩ := hD9.o3
            go_wp2_with fail
            go_at_call 51
            refine AT.out.mono ?_
            rintro e w8 ⟨rfl, rfl⟩
            clear AT
            have hD9d := hD9.drewN 1
            have hS0 : (fun w' : World => w'.cell? ⟨pb, 0, none⟩ = some (.int .i64 1) ∧ w'.cell? ⟨pb, 1, none⟩ = some (.int .i64 N) ∧ w'.cell? ⟨pb, 2, none⟩ = some (.int .i64 2) ∧ w'.cell? ⟨pb, 3, none⟩ = some (.int .i64 3) ∧ w'.cell? ⟨ob, 1, none⟩ = some (.int .i64 i) ∧ w'.cell? ⟨ob, 2, none⟩ = some (.int .i64 xx)) w9.drew := ⟨hD9d.plan.1, hD9d.plan.2.1, hD9d.plan.2.2.1, hD9d.plan.2.2.2, hD9d.o3.2.1, hD9d.o3.2.2⟩
            go_wp2_with fail
            refine lin_start (S := (fun w' : World => w'.cell? ⟨pb, 0, none⟩ = some (.int .i64 1) ∧ w'.cell? ⟨pb, 1, none⟩ = some (.int .i64 N) ∧ w'.cell? ⟨pb, 2, none⟩ = some (.int .i64 2) ∧ w'.cell? ⟨pb, 3, none⟩ = some (.int .i64 3) ∧ w'.cell? ⟨ob, 1, none⟩ = some (.int .i64 i) ∧ w'.cell? ⟨ob, 2, none⟩ = some (.int .i64 xx))) rfl 11 rfl hS0 ?_
            simp only [numbered, Nat.zero_add, Nat.reduceAdd]
            refine lin_take (v := ?_) (by kernel_rfl) (by kernel_rfl) (fun _ _ _ h => h) (Or.inl ⟨by rfl, ?_⟩) (by assumption) ?_; (rotate_left; (intro wS hSw; (try dsimp only at hSw); go_simp; (try with_reducible rfl)); rotate_left); simp only [Act.put, List.setIfInBounds_toArray, List.set_cons_zero, List.set_cons_succ]
            refine lin_take (v := ?_) (by kernel_rfl) (by kernel_rfl) (fun _ _ _ h => h) (Or.inl ⟨by rfl, ?_⟩) (by assumption) ?_; (rotate_left; (intro wS hSw; (try dsimp only at hSw); go_simp; (try with_reducible rfl)); rotate_left); simp only [Act.put, List.setIfInBounds_toArray, List.set_cons_zero, List.set_cons_succ]
            refine lin_take (v := ?_) (by kernel_rfl) (by kernel_rfl) (fun _ _ _ h => h) (Or.inl ⟨by rfl, ?_⟩) (by assumption) ?_; (rotate_left; (intro wS hSw; (try dsimp only at hSw); go_simp; (try with_reducible rfl)); rotate_left); simp only [Act.put, List.setIfInBounds_toArray, List.set_cons_zero, List.set_cons_succ]
            refine lin_rot ?_; simp only [List.cons_append, List.nil_append]
            refine lin_take (v := ?_) (by kernel_rfl) (by kernel_rfl) (fun _ _ _ h => h) (Or.inl ⟨by rfl, ?_⟩) (by assumption) ?_; (rotate_left; (intro wS hSw; (try dsimp only at hSw); go_simp; (try with_reducible rfl)); rotate_left); simp only [Act.put, List.setIfInBounds_toArray, List.set_cons_zero, List.set_cons_succ]
            refine lin_take (v := ?_) (by kernel_rfl) (by kernel_rfl) (fun _ _ _ h => h) (Or.inl ⟨by rfl, ?_⟩) (by assumption) ?_; (rotate_left; (intro wS hSw; (try dsimp only at hSw); go_simp; (try with_reducible rfl)); rotate_left); simp only [Act.put, List.setIfInBounds_toArray, List.set_cons_zero, List.set_cons_succ]
            refine lin_take (v := ?_) (by kernel_rfl) (by kernel_rfl) (fun _ _ _ h => h) (Or.inl ⟨by rfl, ?_⟩) (by assumption) ?_; (rotate_left; (intro wS hSw; (try dsimp only at hSw); go_simp; (try with_reducible rfl)); rotate_left); simp only [Act.put, List.setIfInBounds_toArray, List.set_cons_zero, List.set_cons_succ]
            refine lin_take (v := ?_) (by kernel_rfl) (by kernel_rfl) (fun _ _ _ h => h) (Or.inl ⟨by rfl, ?_⟩) (by assumption) ?_; (rotate_left; (intro wS hSw; (try dsimp only at hSw); go_simp; (try with_reducible rfl)); rotate_left); simp only [Act.put, List.setIfInBounds_toArray, List.set_cons_zero, List.set_cons_succ]
            refine lin_take (v := ?_) (by kernel_rfl) (by kernel_rfl) (fun _ _ _ h => h) (Or.inl ⟨by rfl, ?_⟩) (by assumption) ?_; (rotate_left; (intro wS hSw; (try dsimp only at hSw); go_simp; (try with_reducible rfl)); rotate_left); simp only [Act.put, List.setIfInBounds_toArray, List.set_cons_zero, List.set_cons_succ]
            refine lin_rot ?_; simp only [List.cons_append, List.nil_append]
            refine lin_rot ?_; simp only [List.cons_append, List.nil_append]
            refine lin_sole (by kernel_rfl) (fun K hK => ?_)
            go_simp
            refine (FR.out _).mono ?_
            rintro e w10 ⟨rfl, hb10⟩
            have hD10 := hD9d.grow hb10
            refine hK.out _ _ ?_ (fun hHeld => ?_)
            · exact ⟨hD10.plan.1, hD10.plan.2.1, hD10.plan.2.2.1, hD10.plan.2.2.2, hD10.o3.2.1, hD10.o3.2.2⟩
            try simp only [Act.put, List.setIfInBounds_toArray, List.set_cons_zero, List.set_cons_succ]
            refine lin_take (v := ?_) (by kernel_rfl) (by kernel_rfl) (fun _ _ _ h => h) (Or.inl ⟨by rfl, ?_⟩) (by assumption) ?_; (rotate_left; (intro wS hSw; (try dsimp only at hSw); go_simp; (try with_reducible rfl)); rotate_left); simp only [Act.put, List.setIfInBounds_toArray, List.set_cons_zero, List.set_cons_succ]
            refine lin_take (v := ?_) (by kernel_rfl) (by kernel_rfl) (fun _ _ _ h => h) (Or.inl ⟨by rfl, ?_⟩) (by assumption) ?_; (rotate_left; (intro wS hSw; (try dsimp only at hSw); go_simp; (try with_reducible rfl)); rotate_left); simp only [Act.put, List.setIfInBounds_toArray, List.set_cons_zero, List.set_cons_succ]
            refine lin_done (by kernel_rfl) ?_
            clear hHeld hS0 o0 o1 o2
            obtain ⟨o0, o1, o2⟩ := hD10.o3
            go_wp2_with fail
            go_at_call 56
            refine (ST.out _ hD10).mono ?_
            rintro e w11 ⟨rfl, hD11⟩
            clear o0 o1 o2
            obtain ⟨o0, o1, o2⟩ := hD11.o3
            obtain ⟨c0, c1⟩ := hD11.wfree (j := Fa + D) (by omega) hml.out
            have hD12 := hD11.wset (Fa + D) xx
            go_wp2_with fail
            go_meet
            case rel => exact ⟨fr, hs, bs, tk, ms.set (Fa + D) xx, pcs, xs, pk, Lib.hid (by omega), hI, hT, Lib.hid (by rw [List.length_set]; exact hml.out), hxl, hpl, hP, hD12.unbox⟩
theorem walkFrameTable (v0 v1 : Value) (w : World) (h0 : Arg Try.prog w 5 v0) (h1 : Arg Try.prog w 79 v1) :
    Calls Try.prog 12 #[v0, v1] w fun e w' => e = .returned (.bool true) ∧ Below w.heap.size w w' := by
  obtain ⟨f0, rfl, hf⟩ := h0.int Try.underlying5
  simp [Lit.wf, IntKind.min, IntKind.max, IntKind.signed, IntKind.bits] at hf
  obtain ⟨f0, rfl⟩ : ∃ n : Nat, f0 = n := ⟨f0.toNat, by omega⟩
  obtain ⟨lo, lc, ls, rfl, p1, p2, p3, g2, off, p4⟩ := h1.structs' 3 Try.underlying79 (by kernel_rfl) Try.underlying3 (by kernel_rfl) (by kernel_rfl) (by decide)
  by_cases hl : ls.length ≤ 150
  · exact ftable_core f0 ((f0 : Int) % 6 + 1).toNat ls lo lc w (by omega) (by omega) p1 p2 hl g2 off p4
  · unfold maxLen at p2
    clear p4 p3
    have hl2 : 150 < ls.length := by omega
    go_enter Try.func12, Try.ntmps12
    go_wp2_with (go_at_call 43; refine (works16_any _).mono ?_; rintro e w1 ⟨rfl, hb1⟩)
    go_ret
    exact ⟨rfl, hb1⟩
end Go.Proofs.Ytbadinmlnbabiaa
