/- The walk through the law DequeFree. -/
import Derived.Test.YtofnjapgacgdlaaDequeThievesWalk
set_option linter.unusedVariables false
set_option linter.unusedSimpArgs false
namespace Go.Proofs.Ytofnjapgacgdlaa
open Go.RowKit
set_option maxRecDepth 100000
set_option maxHeartbeats 8000000
def thiefPc (j : Nat) : Nat := [30, 31, 32, 33, 34, 37, 36].getD j 0
/-- A thief has done j of its accesses; nobody else is under way. -/
structure Mid (B D j : Nat) (st : WS) (m : List Int) (xs : List Int) : Prop where
  len : B + 4 + D ≤ m.length
  d2 : 2 ≤ D
  hd : m.getD B 0 = if 4 ≤ j then 1 else 0
  tl : m.getD (B + 1) 0 = (xs.length : Int)
  lk : m.getD (B + 3) 0 = if j = 0 then m.getD (B + 2) 0 else st.n
  room : xs.length + 1 ≤ D
  far : xs.length ≤ 1000
  many : 3 ≤ xs.length
  at_ : ∀ i, i < xs.length → m.getD (B + 4 + i % D) 0 = xs.getD i 0
  pc : st.pc = thiefPc j
  h0 : 3 ≤ j → st.h = 0
  got : 6 ≤ j → st.got = true ∧ st.x = xs.getD 0 0
theorem mid_zero {B D : Nat} {m xs : List Int} (q : Quiet B D m 0 xs) (h3 : 3 ≤ xs.length) (hf : xs.length ≤ 1000) : Mid B D 0 steal0 m xs := by
  refine ⟨q.len, q.d2, by rw [q.hd]; rfl, by rw [q.tl]; simp, by rw [if_pos rfl, q.lk], q.room, hf, h3, fun i hi => ?_, rfl, by omega, by omega⟩
  have := q.at_ i hi
  rwa [Nat.zero_add] at this
theorem mid_step {B D j : Nat} {st : WS} {m xs : List Int} (h : Mid B D j st m xs) (hj : j < 6) :
    Mid B D (j + 1) (stepW B D st m).1 (stepW B D st m).2 xs ∧ pcOk (stepW B D st m).1.pc := by
  obtain ⟨pc, t, x, hh, n, got, full⟩ := st
  obtain ⟨h1, h2, h3, h4, h5, h6, h7, h8, h9, h10, h11, h12⟩ := h
  dsimp only at *
  have hm : ∀ i, B + 4 + i % D < m.length := fun i => by have := Nat.mod_lt i (show D > 0 by omega); omega
  have hj6 : j = 0 ∨ j = 1 ∨ j = 2 ∨ j = 3 ∨ j = 4 ∨ j = 5 := by omega
  rcases hj6 with rfl | rfl | rfl | rfl | rfl | rfl <;> (obtain rfl : pc = _ := h10)
  · rw [show thiefPc 0 = 30 from rfl, st30]
    refine ⟨⟨by simpa using h1, h2, ?_, ?_, ?_, h6, h7, h8, fun i hi => ?_, rfl, by omega, by omega⟩, .inr (.inr (show 30 ≤ 31 ∧ 31 ≤ 37 by decide))⟩ <;> dsimp only
    · rw [getS (by omega), if_neg (by omega), h3]; rfl
    · rw [getS (by omega), if_neg (by omega), h4]
    · rw [getS (by omega), if_neg (by omega), h5]; rfl
    · rw [getS (by omega), if_neg (by omega), h9 i hi]
  · rw [show thiefPc 1 = 31 from rfl, st31y _ _ _ _ _ _ _ _ _ (by rw [h5]; rfl)]
    exact ⟨⟨h1, h2, by rw [h3]; rfl, h4, by rw [h5]; rfl, h6, h7, h8, h9, rfl, by omega, by omega⟩, .inr (.inr (show 30 ≤ 32 ∧ 32 ≤ 37 by decide))⟩
  · rw [show thiefPc 2 = 32 from rfl, st32]
    exact ⟨⟨h1, h2, by rw [h3]; rfl, h4, by rw [h5]; rfl, h6, h7, h8, h9, rfl, fun _ => by rw [h3]; rfl, by omega⟩, .inr (.inr (show 30 ≤ 33 ∧ 33 ≤ 37 by decide))⟩
  · rw [show thiefPc 3 = 33 from rfl, st33]
    have e := h11 (by omega)
    refine ⟨⟨by simpa using h1, h2, ?_, ?_, ?_, h6, h7, h8, fun i hi => ?_, rfl, fun _ => e, by omega⟩, .inr (.inr (show 30 ≤ 34 ∧ 34 ≤ 37 by decide))⟩ <;> dsimp only
    · rw [getS (by omega), if_pos rfl, e, w64 (by omega)]; rfl
    · rw [getS (by omega), if_neg (by omega), h4]
    · rw [getS (by omega), if_neg (by omega), h5]; rfl
    · rw [getS (by omega), if_neg (by omega), h9 i hi]
  · have e := h11 (by omega)
    rw [show thiefPc 4 = 34 from rfl, st34y _ _ _ _ _ _ _ _ _ (by rw [e, w64 (by omega), h4]; omega)]
    exact ⟨⟨h1, h2, by rw [h3]; rfl, h4, by rw [h5]; rfl, h6, h7, h8, h9, rfl, fun _ => e, by omega⟩, .inr (.inr (show 30 ≤ 37 ∧ 37 ≤ 37 by decide))⟩
  · have e := h11 (by omega)
    rw [show thiefPc 5 = 37 from rfl, st37]
    refine ⟨⟨h1, h2, by rw [h3]; rfl, h4, by rw [h5]; rfl, h6, h7, h8, h9, rfl, fun _ => e, fun _ => ⟨rfl, ?_⟩⟩, .inr (.inr (show 30 ≤ 36 ∧ 36 ≤ 37 by decide))⟩
    have := h9 0 (by omega)
    dsimp only
    have s0 := slotN_nat B D 0
    rw [show ((0 : Nat) : Int) = 0 from rfl] at s0
    rw [e, s0, this]
theorem mid_pcOk {B D j : Nat} {st : WS} {m xs : List Int} (h : Mid B D j st m xs) (hj : j ≤ 6) : pcOk st.pc := by
  rw [h.pc]
  have hj6 : j = 0 ∨ j = 1 ∨ j = 2 ∨ j = 3 ∨ j = 4 ∨ j = 5 ∨ j = 6 := by omega
  rcases hj6 with rfl | rfl | rfl | rfl | rfl | rfl | rfl <;> exact .inr (.inr (by decide))
theorem mid_run {B D : Nat} {xs : List Int} : ∀ (d j : Nat) (st : WS) (m : List Int), j + d = 6 → Mid B D j st m xs → ∀ f i, ∃ R, runW B D (f + d + 1) i st m = R ∧ gotV R.2.1 = (xs.getD 0 0, true) := by
  intro d
  induction d with
  | zero =>
    intro j st m hj h f i
    obtain rfl : j = 6 := by omega
    obtain ⟨pc, t, x, hh, n, got, full⟩ := st
    obtain ⟨g1, g2⟩ := h.got (by omega)
    obtain rfl : pc = _ := h.pc
    refine ⟨_, runW_end (show stepW B D _ m = _ from st36 ..) rfl _ _, ?_⟩
    unfold gotV
    dsimp only at *
    rw [if_pos ⟨rfl, g1⟩, g2]
  | succ d ih =>
    intro j st m hj h f i
    obtain ⟨h1, h2⟩ := mid_step h (by omega)
    obtain ⟨R, r1, r2⟩ := ih (j + 1) _ _ (by omega) h1 f (i + 1)
    refine ⟨R, ?_, r2⟩
    rw [← r1]
    exact runW_step (s' := (stepW B D st m).1) (m' := (stepW B D st m).2) rfl (by unfold pcOk at h2; simp; omega) _ _
theorem mid_push {B D j : Nat} {st : WS} {m xs : List Int} (h : Mid B D j st m xs) (x : Int) (hf : xs.length + 3 ≤ D) (hh : xs.length < 1000) (f i : Nat) :
    ∃ m', runW B D (f + 3) i (push0 (xs.length : Int) x) m = (i + 2, ⟨99, ((xs.length + 1 : Nat) : Int), x, 0, 0, false, false⟩, m') ∧ m'.length = m.length ∧ Mid B D j st m' (xs ++ [x]) := by
  obtain ⟨h1, h2, h3, h4, h5, h6, h7, h8, h9, h10, h11, h12⟩ := h
  have hm : xs.length % D < D := Nat.mod_lt _ (by omega)
  have e : ¬ ((D : Int) - 1 ≤ wrap64 ((xs.length : Int) - m.getD B 0)) := by
    rw [h3]
    split <;> rw [w64 (by omega)] <;> omega
  refine ⟨(m.set (B + 4 + xs.length % D) x).set (B + 1) ((xs.length + 1 : Nat) : Int), ?_, by simp, ?_⟩
  · rw [push0, furthest_in _ (by omega), runW_step (st0n _ _ _ _ _ _ _ _ _ e) rfl, runW_step (st1 ..) rfl, slotN_nat, runW_end (st2 ..) rfl, w64 (by omega)]
    rfl
  · refine ⟨by simpa using h1, h2, ?_, ?_, ?_, by simp; omega, by simp; omega, by simp; omega, fun i hi => ?_, h10, h11, fun hj => ?_⟩
    · rw [getS (by simp; omega), if_neg (by omega), getS (by omega), if_neg (by omega), h3]
    · rw [getS (by simp; omega), if_pos rfl]; simp
    · have a3 : ∀ j, j = 2 ∨ j = 3 → ((m.set (B + 4 + xs.length % D) x).set (B + 1) ((xs.length + 1 : Nat) : Int)).getD (B + j) 0 = m.getD (B + j) 0 := fun j hj => by rw [getS (by simp; omega), if_neg (by omega), getS (by omega), if_neg (by omega)]
      rw [a3 3 (by omega), a3 2 (by omega), h5]
    · rw [getS (by simp; omega), if_neg (by omega), getS (by omega)]
      by_cases hi2 : i < xs.length
      · rw [if_neg, h9 i hi2, getD_app hi2]
        have := mod_ne (D := D) (a := i) (b := xs.length) (by omega) (by omega) (by omega)
        omega
      · have : i = xs.length := by simp at hi; omega
        subst this
        rw [if_pos rfl]; simp
    · rw [getD_app (by omega)]; exact h12 hj
theorem mid_pop {B D j : Nat} {st : WS} {m xs : List Int} {x : Int} (h : Mid B D j st m (xs ++ [x])) (h3 : 3 ≤ xs.length) (f i : Nat) :
    ∃ m', runW B D (f + 3) i (pop0 ((xs.length + 1 : Nat) : Int)) m = (i + 2, ⟨99, (xs.length : Int), x, 0, 0, true, false⟩, m') ∧ m'.length = m.length ∧ Mid B D j st m' xs := by
  obtain ⟨h1, h2, hd, h4, h5, h6, h7, h8, h9, h10, h11, h12⟩ := h
  have hx := h9 xs.length (by simp)
  rw [List.length_append, List.length_cons, List.length_nil, Nat.zero_add] at *
  have hm : xs.length % D < D := Nat.mod_lt _ (by omega)
  have e1 : wrap64 (((xs.length + 1 : Nat) : Int) - 1) = (xs.length : Int) := by rw [w64 (by omega)]; omega
  have e2 : (m.set (B + 1) (xs.length : Int)).getD B 0 ≤ (xs.length : Int) := by
    rw [getS (by omega), if_neg (by omega), hd]; split <;> omega
  have e3 : (m.set (B + 1) (xs.length : Int)).getD (B + 4 + xs.length % D) 0 = x := by
    rw [getS (by omega), if_neg (by omega), hx]; simp
  refine ⟨m.set (B + 1) (xs.length : Int), ?_, by simp, ?_⟩
  · rw [pop0, furthest_in _ (by omega), runW_step (st10 ..) rfl, e1, runW_step (st11y _ _ _ _ _ _ _ _ _ (by rw [e1]; exact e2)) rfl, runW_end (st20 ..) rfl, e1, slotN_nat, e3]
  · refine ⟨by simpa using h1, h2, ?_, ?_, ?_, by omega, by omega, h3, fun i hi => ?_, h10, h11, fun hj => ?_⟩
    · rw [getS (by omega), if_neg (by omega), hd]
    · rw [getS (by omega), if_pos rfl]
    · have a3 : ∀ j, j = 2 ∨ j = 3 → (m.set (B + 1) (xs.length : Int)).getD (B + j) 0 = m.getD (B + j) 0 := fun j hj => by rw [getS (by omega), if_neg (by omega)]
      rw [a3 3 (by omega), a3 2 (by omega), h5]
    · have : i % D < D := Nat.mod_lt _ (by omega)
      rw [getS (by omega), if_neg (by omega), h9 i (by omega), getD_app hi]
    · have := h12 hj
      rwa [getD_app (by omega)] at this
def popsL (n i : Nat) : List Int := (upto n ++ [7]).take (n + 1 - i)
theorem popsL_len {n i : Nat} : (popsL n i).length = n + 1 - i := by simp [popsL, upto_len] <;> omega
theorem popsL_last {n i : Nat} (h : i ≤ n) : popsL n i = popsL n (i + 1) ++ [if i = 0 then 7 else 100 + (n : Int) - i] := by
  unfold popsL
  rw [show n + 1 - i = (n - i) + 1 by omega, show n + 1 - (i + 1) = n - i by omega, List.take_succ_eq_append_getElem (by simp [upto_len]; omega)]
  congr 2
  by_cases h0 : i = 0
  · subst h0
    rw [if_pos rfl, List.getElem_append_right (by simp [upto_len])]; simp [upto_len]
  · rw [if_neg h0, List.getElem_append_left (by rw [upto_len]; omega)]
    simp [upto]; omega
theorem popsL_zero (n : Nat) : popsL n 0 = upto n ++ [7] := by unfold popsL; rw [List.take_of_length_le]; simp [upto_len]
theorem popsL_first {n i : Nat} (h : i < n) : (popsL n i).getD 0 0 = 100 := by
  unfold popsL
  cases n with
  | zero => omega
  | succ n =>
    rw [show n + 1 + 1 - i = (n + 1 - i) + 1 by omega]
    rw [List.getD_eq_getElem?_getD, List.getElem?_take_of_lt (by omega), List.getElem?_append_left (by rw [upto_len]; omega)]
    simp [upto]
theorem dfree_core (a b p : Nat) (w : World) (ha : a < 256) (hb : b < 256) (hp : p < 256) :
    Calls Try.prog 10 #[.int .u8 a, .int .u8 b, .int .u8 p] w fun e w' => e = .returned (.bool true) ∧ Below w.heap.size w w' := by
  have ok : okPlan 2 1 1 40 = true := by decide
  obtain ⟨N, hN⟩ : ∃ N : Nat, a % 20 + 3 = N := ⟨_, rfl⟩
  obtain ⟨K, hK⟩ : ∃ K : Nat, b % 7 = K := ⟨_, rfl⟩
  obtain ⟨O, hOO⟩ : ∃ O : Nat, p % (N - 1) = O := ⟨_, rfl⟩
  have hO2 : O < N - 1 := by rw [← hOO]; exact Nat.mod_lt _ (by omega)
  have hN30 : N < 23 := by omega
  have hN3 : 3 ≤ N := by omega
  have hK5 : K < 7 := by omega
  have i1 : IntKind.i64.wrap (a : Int) = (a : Int) := IntWalk.i64_in _ (by omega)
  have i2 : IntKind.i64.wrap (b : Int) = (b : Int) := IntWalk.i64_in _ (by omega)
  have i3 : IntKind.i64.wrap (p : Int) = (p : Int) := IntWalk.i64_in _ (by omega)
  obtain ⟨A, hA⟩ : ∃ A : Nat, a % 20 = A := ⟨_, rfl⟩
  have e1 : (a : Int).tmod 20 = (A : Int) := by rw [Int.tmod_eq_emod_of_nonneg (by omega)]; omega
  have e1b : (A : Int) + 3 = (N : Int) := by omega
  have e2 : (b : Int).tmod 7 = (K : Int) := by rw [Int.tmod_eq_emod_of_nonneg (by omega)]; omega
  have e3 : (p : Int).tmod ((N : Int) - 1) = (O : Int) := by
    rw [Int.tmod_eq_emod_of_nonneg (by omega), ← hOO, show (N : Int) - 1 = ((N - 1 : Nat) : Int) by omega]
    exact (Int.natCast_emod _ _).symm
  have hA20 : A < 20 := by omega
  have e4 : ¬ (N : Int) - 1 = 0 := by omega
  clear hN hK hA hOO
  have NW := Lib.hid (fun (w1 : World) (l : List Ast) (h : Own w w1 l) => own_new h 98 (List.replicate 98 0) rfl)
  go_enter Try.func10, Try.ntmps10
  go_wp2_with (go_at_call 30; refine (works13_any _).mono ?_; rintro e w0 ⟨rfl, hb0⟩)
  go_at_call 31
  refine (plan13_any _ _).mono ?_
  rintro e w1 ⟨rfl, hb1⟩
  go_wp2_with fail
  have h1 := (Own.nil (below_chain hb0 hb1)).box #[.int .i64 2, .int .i64 1, .int .i64 1, .int .i64 40] 43
  go_at_call 22
  refine (size_ok ok _).mono ?_
  rintro e w2 ⟨rfl, hb2⟩
  have h2 := h1.grow hb2
  clear h1 hb1 hb2 hb0
  have hsz : sizeV 2 1 1 40 = 98 := by decide
  go_wp2_with fail
  go_at_call 21
  refine (NW.out _ _ h2).mono ?_
  rintro e w3 ⟨rfl, h3⟩
  have h4 := h3.sel [1, 0] (by decide)
  replace h4 : Own w w3 [storeA (w2.heap.size + 1) w2.heap.size (List.replicate 98 0), planA w1.heap.size 2 40] := h4
  clear h2 h3 hsz ok
  generalize w2.heap.size = sb at *
  generalize w1.heap.size = pb at *
  generalize hg : sb + 1 = g at *
  clear hg
  replace h4 := Lib.hid h4
  go_wp2_with fail
  go_loopw [10, 11] (fun kv jv wr => ∃ i : Nat, i ≤ N ∧ kv = .int .i64 i ∧ jv = .int .i64 i ∧ Hid (∃ ms, ms.length = 98 ∧ Quiet 44 40 ms 0 (upto i) ∧ Own w wr [storeA g sb ms, planA pb 2 40])) (fun _ kv _ => (N - intOf kv).toNat)
  case atStart => exact ⟨0, by omega, rfl, rfl, Lib.hid ⟨_, by simp, quiet_zero 44 40 98 (by decide) (by decide), h4.out⟩⟩
  case round =>
    clear h4
    obtain ⟨i, hi, rfl, rfl, hH⟩ := hrel
    by_cases hlt : i < N
    · obtain ⟨ms, hl, hq, hO⟩ := hH.out
      obtain ⟨m2, r1, l1, q1⟩ := many_push (by omega) hq
      have RN := Lib.hid (fun (w1 : World) (wb : Nat) (h : DW 2 40 1 44 w w1 g sb wb ms (push0 i (100 + (i : Int))) [planA pb 2 40]) => run13 (cf40 hl) (.inl (Nat.zero_le 2)) h _ r1)
      have PU := Lib.hid (qPush 2 40 1 44 (i : Int) (100 + (i : Int)) hO)
      obtain ⟨x0, x1, x2, x3⟩ := planC hO
      rw [hl] at l1
      replace l1 := Lib.hid l1
      replace q1 := Lib.hid q1
      clear hO hq hl r1 hH
      go_wp2_with (first | (go_at_call 28; refine PU.out.mono ?_; rintro e w5 ⟨wb, rfl, h5⟩; replace h5 := Lib.hid h5) | (go_at_call 32; refine (RN.out _ _ h5.out).mono ?_; rintro e w6 ⟨rfl, h6⟩; replace h6 := Lib.hid h6) | (go_at_call 26; refine (qTail h6.out).mono ?_; rintro e w7 ⟨rfl, rfl⟩))
      go_roundw
      case rel => exact ⟨i + 1, by omega, by go_num, by go_num, Lib.hid ⟨m2, l1.out, q1.out, h6.out.drop⟩⟩
      case measure => simp [intOf]; omega
    · obtain rfl : i = N := by omega
      obtain ⟨ms, hl, hq, hO⟩ := hH.out
      have PU := Lib.hid (qSteal 2 40 1 44 hO)
      have md := Lib.hid (mid_zero hq (by rw [upto_len]; omega) (by rw [upto_len]; omega))
      replace hl := Lib.hid hl
      obtain ⟨x0, x1, x2, x3⟩ := planC hO
      clear hO hq hH
      go_wp2_with (go_at_call 27; refine PU.out.mono ?_; rintro e w5 ⟨tb, rfl, h5⟩; replace h5 := Lib.hid h5)
      clear x0 x1 x2 x3
      go_loopw [14] (fun kv wr => ∃ j : Nat, j ≤ K ∧ kv = .int .i64 j ∧ Hid (∃ ms st, ms.length = 98 ∧ Mid 44 40 j st ms (upto i) ∧ DW 2 40 1 44 w wr g sb tb ms st [planA pb 2 40])) (fun kv _ => (K - intOf kv).toNat)
      case atStart => exact ⟨0, by omega, rfl, Lib.hid ⟨ms, _, hl.out, md.out, h5.out⟩⟩
      case round =>
        clear h5 md hl PU
        obtain ⟨j, hj, rfl, hH⟩ := hrel
        by_cases hlt2 : j < K
        · obtain ⟨ms, st, hl, md, hD⟩ := hH.out
          have ST := Lib.hid (qStep (cf40 hl) (mid_pcOk md (by omega)) hD)
          obtain ⟨md2, _⟩ := mid_step md (by omega)
          have hl2 := stepW_len 44 ((40 : Nat) : Int) st ms
          rw [hl] at hl2
          replace hl2 := Lib.hid hl2
          replace md2 := Lib.hid md2
          clear md hD hH hl
          go_wp2_with (go_at_call 34; refine ST.out.mono ?_; rintro e w6 ⟨rfl, h6⟩; replace h6 := Lib.hid h6)
          go_roundw
          case rel => exact ⟨j + 1, by omega, by go_num, Lib.hid ⟨_, _, hl2.out, md2.out, h6.out⟩⟩
          case measure => simp [intOf]; omega
        · obtain rfl : j = K := by omega
          obtain ⟨ms, st, hl, md, hD⟩ := hH.out
          obtain ⟨m2, r1, l1, md1⟩ := mid_push md 7 (by rw [upto_len]; omega) (by rw [upto_len]; omega) 96 1
          rw [← popsL_zero] at md1
          rw [upto_len] at r1
          rw [hl] at l1
          obtain ⟨hpc, cs, bx, hk, hO⟩ := hD
          replace hO : Own w _ [storeA g sb ms, planA pb 2 40, walkA tb cs bx] := hO.pm (.cons _ (.swap ..))
          have PU := Lib.hid (qPush 2 40 1 44 (i : Int) 7 hO)
          have RN := Lib.hid (fun (w1 : World) (wb : Nat) (h : DW 2 40 1 44 w w1 g sb wb ms (push0 (i : Int) 7) [planA pb 2 40, walkA tb cs bx]) => run13 (cf40 hl) (.inl (Nat.zero_le 2)) h _ r1)
          obtain ⟨x0, x1, x2, x3⟩ := planC hO
          replace hpc := Lib.hid hpc
          replace hk := Lib.hid hk
          replace md1 := Lib.hid md1
          replace l1 := Lib.hid l1
          clear hO md hH hl r1
          go_wp2_with (first | (go_at_call 28; refine PU.out.mono ?_; rintro e w5 ⟨wb, rfl, h5⟩; replace h5 := Lib.hid h5) | (go_at_call 32; refine (RN.out _ _ h5.out).mono ?_; rintro e w6 ⟨rfl, h6⟩; replace h6 := Lib.hid h6) | (go_at_call 26; refine (qTail h6.out).mono ?_; rintro e w7 ⟨rfl, rfl⟩) | (go_at_call 29; refine (qFull h6.out).mono ?_; rintro e w7 ⟨rfl, rfl⟩))
          clear x0 x1 x2 x3
          replace h6 := Lib.hid h6.out.drop
          go_loopw [10, 15, 16] (fun tv pv kv wr => ∃ n q : Nat, n ≤ O ∧ tv = .int .i64 ((i + 1 - n : Nat) : Int) ∧ pv = .pointer (some ⟨q, 0, none⟩) ∧ kv = .int .i64 n ∧ Hid (∃ ms, ms.length = 98 ∧ Mid 44 40 j st ms (popsL i n) ∧ Own w wr [storeA g sb ms, planA pb 2 40, walkA tb cs bx])) (fun _ _ kv _ => (O - intOf kv).toNat)
          case atStart => exact ⟨0, wb, by omega, rfl, rfl, rfl, Lib.hid ⟨m2, l1.out, md1.out, h6.out⟩⟩
          case round =>
            clear h6 md1 l1 PU RN
            obtain ⟨n, q, hn, rfl, rfl, rfl, hH⟩ := hrel
            by_cases hlt3 : n < O
            · obtain ⟨ms, hl, md, hO⟩ := hH.out
              rw [popsL_last (by omega)] at md
              obtain ⟨m2, r1, l1, md1⟩ := mid_pop md (by rw [popsL_len]; omega) 96 1
              rw [popsL_len, show i + 1 - (n + 1) + 1 = i + 1 - n by omega] at r1
              rw [hl] at l1
              have PU := Lib.hid (qPop 2 40 1 44 ((i + 1 - n : Nat) : Int) hO)
              have RN := Lib.hid (fun (w1 : World) (wb : Nat) (h : DW 2 40 1 44 w w1 g sb wb ms (pop0 ((i + 1 - n : Nat) : Int)) [planA pb 2 40, walkA tb cs bx]) => run13 (cf40 hl) (.inr (.inl (show 10 ≤ 10 ∧ 10 ≤ 20 by decide))) h _ r1)
              obtain ⟨x0, x1, x2, x3⟩ := planC hO
              replace md1 := Lib.hid md1
              replace l1 := Lib.hid l1
              clear hO md hH hl r1
              generalize i + 1 - n = tn at *
              generalize htn : i + 1 - (n + 1) = tn1 at *
              replace htn := Lib.hid htn
              by_cases hn0 : n = 0
              · subst hn0
                rw [if_pos rfl] at RN
                go_wp2_with (first | (go_at_call 23; refine PU.out.mono ?_; rintro e w5 ⟨wc, rfl, h5⟩; replace h5 := Lib.hid h5) | (go_at_call 32; refine (RN.out _ _ h5.out).mono ?_; rintro e w6 ⟨rfl, h6⟩; replace h6 := Lib.hid h6) | (go_at_call 26; refine (qTail h6.out).mono ?_; rintro e w7 ⟨rfl, rfl⟩) | (go_at_call 25; refine (qGot h6.out).mono ?_; simp only [gotV, and_self, if_true]; rintro e w7 ⟨rfl, rfl⟩))
                go_roundw
                case rel => exact ⟨0 + 1, wc, by omega, by rw [htn.out], rfl, by go_num, Lib.hid ⟨m2, l1.out, md1.out, h6.out.drop⟩⟩
                case measure => simp [intOf]; omega
              · rw [if_neg hn0] at RN
                have hgt : decide (0 < (n : Int)) = true := by simp; omega
                have hn1 : ¬ (n : Int) = 0 := by omega
                have hn2 : ((n : Int) == 0) = false := by simp; omega
                obtain ⟨X, hX⟩ : ∃ X, 100 + (i : Int) - n = X := ⟨_, rfl⟩
                rw [hX] at RN
                go_wp2_with (first | (go_at_call 23; refine PU.out.mono ?_; rintro e w5 ⟨wc, rfl, h5⟩; replace h5 := Lib.hid h5) | (go_at_call 32; refine (RN.out _ _ h5.out).mono ?_; rintro e w6 ⟨rfl, h6⟩; replace h6 := Lib.hid h6) | (go_at_call 26; refine (qTail h6.out).mono ?_; rintro e w7 ⟨rfl, rfl⟩) | (go_at_call 25; refine (qGot h6.out).mono ?_; simp only [gotV, and_self, if_true]; rintro e w7 ⟨rfl, rfl⟩))
                go_roundw
                case rel => exact ⟨n + 1, wc, by omega, by rw [htn.out], rfl, by go_num, Lib.hid ⟨m2, l1.out, md1.out, h6.out.drop⟩⟩
                case measure => simp [intOf]; omega
            · obtain rfl : n = O := by omega
              obtain ⟨ms, hl, md, hO⟩ := hH.out
              obtain ⟨R, r1, r2⟩ := mid_run (6 - j) j st ms (by omega) md (92 + j) 1
              rw [popsL_first (by omega)] at r2
              rw [show 92 + j + (6 - j) + 1 = 99 by omega] at r1
              have hD : DW 2 40 1 44 w _ g sb tb ms st [planA pb 2 40] := ⟨hpc.out, cs, bx, hk.out, hO.pm (.cons _ (.swap ..))⟩
              have RN := Lib.hid (run13 (cf40 hl) (mid_pcOk md (by omega)) hD R r1)
              clear hO md hH hl r1 hD
              replace r2 := Lib.hid r2
              go_wp2_with (first | (go_at_call 32; refine RN.out.mono ?_; rintro e w6 ⟨rfl, h6⟩; replace h6 := Lib.hid h6) | (go_at_call 25; refine (qGot h6.out).mono ?_; rw [r2.out]; rintro e w7 ⟨rfl, rfl⟩))
              go_ret
              exact ⟨rfl, h6.out.drop.below⟩
theorem walkDequeFree (v0 v1 v2 : Value) (w : World) (h0 : Arg Try.prog w 5 v0) (h1 : Arg Try.prog w 5 v1) (h2 : Arg Try.prog w 5 v2) :
    Calls Try.prog 10 #[v0, v1, v2] w fun e w' => e = .returned (.bool true) ∧ Below w.heap.size w w' := by
  obtain ⟨m, rfl, hm⟩ := h0.int Try.underlying5
  obtain ⟨n, rfl, hn⟩ := h1.int Try.underlying5
  obtain ⟨o, rfl, ho⟩ := h2.int Try.underlying5
  simp [Lit.wf, IntKind.min, IntKind.max, IntKind.signed, IntKind.bits] at hm hn ho
  obtain ⟨m, rfl⟩ : ∃ k : Nat, m = k := ⟨m.toNat, by omega⟩
  obtain ⟨n, rfl⟩ : ∃ k : Nat, n = k := ⟨n.toNat, by omega⟩
  obtain ⟨o, rfl⟩ : ∃ k : Nat, o = k := ⟨o.toNat, by omega⟩
  exact dfree_core m n o w (by omega) (by omega) (by omega)
end Go.Proofs.Ytofnjapgacgdlaa
