/- BuildJumps: a jump leads to its label, whichever came first. -/
import Derived.Test.YtboiogjklecpaaaBldWorks
set_option linter.unusedVariables false
set_option linter.unusedSimpArgs false
namespace Go.Proofs.Ytboiogjklecpaaa
open Go.RowKit
set_option maxRecDepth 100000
set_option maxHeartbeats 4000000
def S21 : I4 := (21, 0, 0, 0)
def jL (a b : Nat) (at_ : Int) : List I4 := List.replicate a S21 ++ ((19, 3, at_, 0) :: (List.replicate b S21 ++ [(0, 0, 0, 0)]))
theorem jL_len (a b : Nat) (at_ : Int) : (jL a b at_).length = a + b + 2 := by simp [jL]; omega
theorem jL_mem {a b : Nat} {at_ : Int} {x : I4} (h : x ∈ jL a b at_) : x = S21 ∨ x = (19, 3, at_, 0) ∨ x = (0, 0, 0, 0) := by
  simp [jL] at h
  rcases h with ⟨_, h⟩ | h | ⟨_, h⟩ | h
  · exact .inl h
  · exact .inr (.inl h)
  · exact .inl h
  · exact .inr (.inr h)
theorem bodyP_zero (code funcs : Int) : ∀ l : List I4, (∀ x ∈ l, chk x = 0 ∧ leadsP x code funcs = true) → bodyP code funcs l = 0
  | [], _ => rfl
  | x :: l, h => by
    obtain ⟨h1, h2⟩ := h x (by simp)
    unfold bodyP
    rw [h1, if_neg (by simp), if_pos h2]
    exact bodyP_zero code funcs l (fun y hy => h y (by simp [hy]))
theorem chk_jump {at_ : Int} (h0 : 0 ≤ at_) (h1 : at_ ≤ 199) : chk (19, 3, at_, 0) = 0 := by
  unfold chk checkI
  dsimp only
  rw [if_neg (by omega), show formL 19 = [114, 116] from rfl]
  unfold checkF
  rw [if_pos (by rfl)]
  unfold checkF
  rw [if_pos (by unfold fitB; rw [if_neg (by decide), if_neg (by decide), if_pos (by decide)]; simp; omega)]
  rfl
theorem jL_check {a b : Nat} {at_ : Int} (hab : a + b ≤ 118) (h0 : 0 ≤ at_) (h1 : at_ < a + b + 2) : checkP 0 [jL a b at_] = 0 := by
  have hb : bodyP ((jL a b at_).length : Int) 1 (jL a b at_) = 0 := by
    refine bodyP_zero _ _ _ fun x hx => ?_
    rcases jL_mem hx with rfl | rfl | rfl
    · exact ⟨rfl, rfl⟩
    · refine ⟨chk_jump h0 (by omega), ?_⟩
      unfold leadsP
      dsimp only
      rw [if_neg (by omega), if_pos rfl, jL_len]
      simp
      omega
    · exact ⟨rfl, rfl⟩
  have hl : lastP (jL a b at_) = 0 := by
    unfold lastP
    rw [jL_len, show a + b + 2 - 1 = a + b + 1 by omega]
    have e : (jL a b at_).getD (a + b + 1) (0, 0, 0, 0) = (0, 0, 0, 0) := by
      unfold jL
      rw [List.getD_eq_getElem?_getD, List.getElem?_append_right (by simp; omega), List.length_replicate, show a + b + 1 - a = b + 1 by omega, List.getElem?_cons_succ, List.getElem?_append_right (by simp), List.length_replicate, Nat.sub_self]
      rfl
    rw [e]
    rfl
  have hm : manyP ((jL a b at_).length : Int) 200 = 0 := by
    unfold manyP
    rw [jL_len, if_neg (by omega), if_neg (by omega)]
  have hf : funcP 1 (jL a b at_) = 0 := by
    unfold funcP
    rw [hm, if_neg (by simp), hb, if_neg (by simp), hl]
  show (if sizesP 0 (([jL a b at_] : List (List I4)).length : Int) ≠ 0 then _ else _) = _
  rw [show sizesP 0 (([jL a b at_] : List (List I4)).length : Int) = 0 from rfl, if_neg (by simp)]
  show (if funcP 1 (jL a b at_) ≠ 0 then _ else _) = _
  rw [hf, if_neg (by simp)]
  rfl
theorem jL_at (a b : Nat) (at_ : Int) : (jL a b at_).getD a (0, 0, 0, 0) = (19, 3, at_, 0) := by
  unfold jL
  rw [List.getD_eq_getElem?_getD, List.getElem?_append_right (by simp), List.length_replicate, Nat.sub_self]
  rfl
theorem jL_ne {a b r : Nat} {at_ : Int} (hr : r < a + b + 2) (h : r ≠ a) : ((jL a b at_).getD r (0, 0, 0, 0)).1 ≠ 19 := by
  rw [List.getD_eq_getElem?_getD]
  unfold jL
  by_cases h1 : r < a
  · rw [List.getElem?_append_left (by simp; omega), List.getElem?_replicate, if_pos h1]; decide
  · rw [List.getElem?_append_right (by simp; omega), List.length_replicate]
    obtain ⟨k, hk⟩ : ∃ k, r - a = k + 1 := ⟨r - a - 1, by omega⟩
    rw [hk, List.getElem?_cons_succ]
    by_cases h2 : k < b
    · rw [List.getElem?_append_left (by simp; omega), List.getElem?_replicate, if_pos h2]; decide
    · rw [List.getElem?_append_right (by simp; omega), List.length_replicate, show k - b = 0 by omega]; decide
theorem done_at (x : ByteArray) (C D : List I4) (k : Nat) : doneB ⟨C ++ ((19, 3, 0, 0) :: D), [(x, k)], [(C.length, x)]⟩ = some (C ++ ((19, 3, (k : Int), 0) :: D)) := by
  have e : lookB [(x, k)] x = some k := by simp [lookB]
  unfold doneB
  dsimp only
  rw [patchP_cons, e]
  dsimp only
  have h1 : (C ++ ((19, 3, 0, 0) :: D) : List I4).getD C.length (0, 0, 0, 0) = (19, 3, 0, 0) := by
    rw [List.getD_eq_getElem?_getD, List.getElem?_append_right (Nat.le_refl _), Nat.sub_self]; rfl
  rw [h1, List.set_append_right _ _ (Nat.le_refl _), Nat.sub_self]
  rfl
def jF (x : ByteArray) (a b k : Nat) : BF := ⟨List.replicate a S21 ++ ((19, 3, 0, 0) :: (List.replicate b S21 ++ [(0, 0, 0, 0)])), [(x, k)], [(a, x)]⟩
theorem jF_end (x : ByteArray) {a b k : Nat} (hab : a + b ≤ 118) (hk : k < a + b + 2) : endB 0 [jF x a b k] = (0, [jL a b k], 0) := by
  have e : allB [jF x a b k] = some [jL a b k] := by
    rw [allB_cons]
    have := done_at x (List.replicate a S21) (List.replicate b S21 ++ [(0, 0, 0, 0)]) k
    rw [List.length_replicate] at this
    unfold jF
    rw [this]
    rfl
  unfold endB
  rw [e]
  dsimp only
  rw [jL_check hab (by omega) (by omega)]
  rfl
theorem jF_ok (x : ByteArray) (hx : x.size ≤ maxLen) {a b k : Nat} (hab : a + b ≤ 118) : ∀ f ∈ [jF x a b k], FnOk f := by
  intro f hf
  simp at hf
  subst hf
  refine ⟨by simp [jF]; omega, by simp [jF], ?_, ?_⟩
  · intro p hp; simp [jF] at hp ⊢; subst hp; simp
  · intro p hp; simp [jF] at hp; subst hp; exact hx
theorem rep_snoc (r : Nat) : List.replicate r S21 ++ [S21] = List.replicate (r + 1) S21 := by rw [List.replicate_succ']
theorem x_size : (⟨#[120]⟩ : ByteArray).size ≤ maxLen := by decide
theorem bj_back (x y : Int) (m n : Nat) (hm : x.tmod 60 = (m : Int)) (hn : y.tmod 60 = (n : Int)) (hx : 0 ≤ x ∧ x ≤ 255) (hy : 0 ≤ y ∧ y ≤ 255) (w : World) : Calls Try.prog 14 #[.int .u8 x, .int .u8 y, .bool true] w fun e w' => e = .returned (.bool true) ∧ Below w.heap.size w w' := by
  have W := Lib.hid (works07_any w)
  have hm60 : m < 60 := by have := Int.tmod_lt_of_pos x (b := 60) (by omega); omega
  have hn60 : n < 60 := by have := Int.tmod_lt_of_pos y (b := 60) (by omega); omega
  have wx : IntKind.i64.wrap x = x := IntWalk.i64_in _ (by omega)
  have wy : IntKind.i64.wrap y = y := IntWalk.i64_in _ (by omega)
  have wm : IntKind.i64.wrap (m : Int) = (m : Int) := IntWalk.i64_in _ (by omega)
  have wn : IntKind.i64.wrap (n : Int) = (n : Int) := IntWalk.i64_in _ (by omega)
  go_enter Try.func14, Try.ntmps14
  go_upto_region 4 with (go_at_call 38; refine W.out.mono ?_; rintro e w0 ⟨rfl, hb0⟩)
  clear W wx wy hm hn
  have P1 := Lib.hid (bnew 0 (Own.nil hb0))
  go_upto_region 5 with (go_at_call 39; refine P1.out.mono ?_; rintro e w1 ⟨bb, rfl, hB1⟩; replace hB1 := Lib.hid hB1)
  have P2 := Lib.hid (bfunc (by simp) hB1.out)
  clear P1 hB1 hb0
  go_upto_region 6 with (go_at_call 40; refine P2.out.mono ?_; rintro e w2 ⟨rfl, hB2⟩)
  have hB := Lib.hid (hB2.box #[.int .i64 21, .int .i64 0, .int .i64 0, .int .i64 0] 30)
  clear P2 hB2
  go_upto_region 7 with fail
  obtain ⟨ob, hob⟩ : ∃ ob, w2.heap.size = ob := ⟨_, rfl⟩
  rw [hob] at hB ⊢
  generalize w2.alloc (.cells #[.int .i64 21, .int .i64 0, .int .i64 0, .int .i64 0] 30) = w3 at *
  clear hob
  replace hB : Hid (BOwn w w3 bb 0 [⟨[], [], []⟩] [cellsA ob #[.int .i64 21, .int .i64 0, .int .i64 0, .int .i64 0] 30]) := hB
  go_wp2_with fail
  go_loopw [11] (fun i wr => ∃ r : Nat, r ≤ m ∧ i = .int .i64 r ∧ Hid (BOwn w wr bb 0 [⟨List.replicate (r) S21, [], []⟩] [cellsA ob #[.int .i64 21, .int .i64 0, .int .i64 0, .int .i64 0] 30])) (fun i _ => (m - intOf i).toNat)
  case atStart => exact ⟨0, by omega, rfl, Lib.hid (hB.out)⟩
  case round =>
  clear hB
  obtain ⟨r, hr, rfl, hB⟩ := hrel
  have o0 := hB.out.cell (j := 0) (List.mem_singleton.2 rfl)
  have o1 := hB.out.cell (j := 1) (List.mem_singleton.2 rfl)
  have o2 := hB.out.cell (j := 2) (List.mem_singleton.2 rfl)
  have o3 := hB.out.cell (j := 3) (List.mem_singleton.2 rfl)
  simp at o0 o1 o2 o3
  by_cases hlt : r < m
  · have hlti : (r : Int) < (m : Int) := by omega
    have P := Lib.hid (badd1 (B := []) S21 (by simp) hB.out (by simp; omega))
    unfold S21 at P
    go_wp2_with (go_at_call 42; refine P.out.mono ?_; rintro e w8 ⟨rfl, hB9⟩; replace hB9 := Lib.hid hB9)
    go_round
    case rel => exact ⟨r + 1, by omega, by first | rfl | trivial | go_num, Lib.hid (by have h := hB9.out; rw [← rep_snoc]; exact h)⟩
    case measure => simp [intOf]; omega
  obtain rfl : m = r := by omega
  have hlti : ¬ (m : Int) < (m : Int) := by omega
  clear o0 o1 o2 o3 hr hlt
  have P3 := Lib.hid (blabel_new (B := []) (by simp) hB.out ⟨#[120]⟩ x_size rfl (by simp))
  go_upto_region 15 with (go_at_call 41; refine P3.out.mono ?_; rintro e w8 ⟨rfl, hB9⟩)
  replace hB := Lib.hid hB9
  clear P3 hB9
  simp only [List.nil_append, List.length_replicate] at hB
  go_wp2_with fail
  go_loopw [13] (fun i wr => ∃ r : Nat, r ≤ n ∧ i = .int .i64 r ∧ Hid (BOwn w wr bb 0 [⟨List.replicate m S21 ++ List.replicate (r) S21, [(⟨#[120]⟩, m)], []⟩] [cellsA ob #[.int .i64 21, .int .i64 0, .int .i64 0, .int .i64 0] 30])) (fun i _ => (n - intOf i).toNat)
  case atStart => exact ⟨0, by omega, rfl, Lib.hid (by rw [List.replicate_zero, List.append_nil]; exact hB.out)⟩
  case round =>
  clear hB
  obtain ⟨r, hr, rfl, hB⟩ := hrel
  have o0 := hB.out.cell (j := 0) (List.mem_singleton.2 rfl)
  have o1 := hB.out.cell (j := 1) (List.mem_singleton.2 rfl)
  have o2 := hB.out.cell (j := 2) (List.mem_singleton.2 rfl)
  have o3 := hB.out.cell (j := 3) (List.mem_singleton.2 rfl)
  simp at o0 o1 o2 o3
  by_cases hlt : r < n
  · have hlti : (r : Int) < (n : Int) := by omega
    have P := Lib.hid (badd1 (B := []) S21 (by simp) hB.out (by simp; omega))
    unfold S21 at P
    go_wp2_with (go_at_call 42; refine P.out.mono ?_; rintro e w8 ⟨rfl, hB9⟩; replace hB9 := Lib.hid hB9)
    go_round
    case rel => exact ⟨r + 1, by omega, by first | rfl | trivial | go_num, Lib.hid (by have h := hB9.out; rw [← rep_snoc]; rw [← List.append_assoc]; exact h)⟩
    case measure => simp [intOf]; omega
  obtain rfl : n = r := by omega
  have hlti : ¬ (n : Int) < (n : Int) := by omega
  clear o0 o1 o2 o3 hr hlt
  have P4 := Lib.hid (bzero_some (B := []) (by simp) hB.out 3 ⟨#[120]⟩ (by simp; omega) (by simp))
  go_upto_region 23 with (go_at_call 49; refine P4.out.mono ?_; rintro e w8 ⟨rfl, hB9⟩)
  replace hB := Lib.hid hB9
  clear P4 hB9
  have P5 := Lib.hid (badd1 (B := []) (0, 0, 0, 0) (by simp) hB.out (by simp; omega))
  go_upto_region 24 with (go_at_call 42; refine P5.out.mono ?_; rintro e w8 ⟨rfl, hB9⟩)
  have hJ : BOwn w w8 bb 0 [jF ⟨#[120]⟩ (m + n) 0 m] [cellsA ob #[.int .i64 21, .int .i64 0, .int .i64 0, .int .i64 0] 30] := by
    refine cast (congrArg (fun B => BOwn w w8 bb 0 B [cellsA ob #[.int .i64 21, .int .i64 0, .int .i64 0, .int .i64 0] 30]) ?_) hB9
    simp [jF, ← List.replicate_append_replicate]
  clear P5 hB hB9
  have P6 := bend (by simp) (jF_ok ⟨#[120]⟩ x_size (by omega)) hJ
  rw [jF_end ⟨#[120]⟩ (by omega) (by omega)] at P6
  replace P6 := Lib.hid P6
  replace hJ := Lib.hid hJ.below
  generalize hLL : jL (m + n) 0 (m : Nat) = L at *
  have hlen : L.length = m + n + 2 := by rw [← hLL, jL_len]
  have hat := Lib.hid (show L.getD (m + n) (0, 0, 0, 0) = (19, 3, ((m : Nat) : Int), 0) from by rw [← hLL, jL_at])
  have hne := Lib.hid (show ∀ r, r < m + n + 2 → r ≠ (m + n) → (L.getD r (0, 0, 0, 0)).1 ≠ 19 from fun r h1 h2 => by rw [← hLL]; exact jL_ne (by omega) h2)
  clear hLL
  go_upto_region 25 with (go_at_call 44; refine P6.out.mono ?_; rintro e w9 ⟨ao, c, rfl, hL, hb9⟩)
  have hL1 := hL.below (w' := w9.alloc (.cells #[.int .i64 0, .slice ao 1 c] 42)) (by go_grown)
  have hbl := Lib.hid (show Below w.heap.size w (w9.alloc (.cells #[.int .i64 0, .slice ao 1 c] 42)) from below_chain hJ.out (below_chain hb9 (by go_grown)))
  have c1 : (w9.alloc (.cells #[.int .i64 0, .slice ao 1 c] 42)).cell? ⟨w9.heap.size, 1, none⟩ = some (.slice ao 1 c) := cell_at (alloc_new _ _) 1
  obtain ⟨pb, hpb⟩ : ∃ pb, w9.heap.size = pb := ⟨_, rfl⟩
  rw [hpb] at c1 ⊢
  clear hL hJ hb9 P6
  generalize w9.alloc (.cells #[.int .i64 0, .slice ao 1 c] 42) = u at *
  clear hpb
  obtain ⟨g, off, bo, d, rfl, y0, hI⟩ := hL1.get (i := 0) (by simp)
  simp at y0
  simp at hI
  have hc1 := hL1.1
  simp at hc1
  have hd1 := hI.1
  have hd2 := hI.2.1
  unfold maxLen at hd2
  replace hI := Lib.hid hI
  clear hL1
  have wmn : IntKind.i64.wrap ((m : Int) + (n : Int)) = (m : Int) + (n : Int) := IntWalk.i64_in _ (by omega)
  have wmn2 : IntKind.i64.wrap ((m : Int) + (n : Int) + 2) = (m : Int) + (n : Int) + 2 := IntWalk.i64_in _ (by omega)
  have hli : (L.length : Int) = (m : Int) + (n : Int) + 2 := by omega
  have hw1 := Lib.hid c1
  have hw2 := Lib.hid y0
  go_upto_region 27 with fail
  clear c1 y0 wmn wmn2
  go_wp2_with fail
  go_loopw [16, 17] (fun vm vi wr => ∃ r k : Nat, r ≤ L.length ∧ vi = .int .i64 r ∧ vm = .int .i64 k ∧ k = (if r ≤ (m + n) then 0 else 1) ∧ Hid (Below u.heap.size u wr)) (fun _ i _ => (L.length - intOf i).toNat)
  case atStart => exact ⟨0, 0, by omega, rfl, rfl, by simp, Lib.hid (Below.refl _ _)⟩
  case round =>
  obtain ⟨r, k, hr, rfl, rfl, hk, hb⟩ := hrel
  have hI2 := hI.out.below hb.out
  have c1 := (cell_old hb.out _ (by rw [hw1.out]; rfl)).trans hw1.out
  have y0 := (cell_old hb.out _ (by rw [hw2.out]; rfl)).trans hw2.out
  by_cases hlt : r < L.length
  · obtain ⟨g2, off2, rfl, z0, z1, z2, z3⟩ := hI2.get hlt
    have hlti : (r : Int) < (L.length : Int) := by omega
    by_cases hra : r = (m + n)
    · have hk0 : k = 0 := by rw [hk, if_pos (by omega)]
      subst hk0
      have e := hat.out
      rw [← hra] at e
      rw [e] at z0 z1 z2 z3
      dsimp only at z0 z1 z2 z3
      clear e hk
      rw [hra] at z0 z1 z2 z3 hlti ⊢
      go_wp2
      go_round
      case rel => exact ⟨(m + n) + 1, 1, by omega, by first | rfl | trivial | go_num, by first | rfl | trivial | go_num, by rw [if_neg (by omega)], Lib.hid (below_chain hb.out (by go_grown))⟩
      case measure => simp [intOf]; omega
    · have e19 := hne.out r (by omega) hra
      generalize L.getD r (0, 0, 0, 0) = y at *
      have e19' : (y.1 == 19) = false := by simpa using e19
      clear e19
      go_wp2
      go_round
      case rel => exact ⟨r + 1, k, by omega, by first | rfl | trivial | go_num, by first | rfl | trivial | go_num, by rw [hk]; split <;> split <;> omega, Lib.hid (below_chain hb.out (by go_grown))⟩
      case measure => simp [intOf]; omega
  obtain rfl : r = L.length := by omega
  obtain rfl : k = 1 := by rw [hk, if_neg (by omega)]
  clear hk
  go_wp2
  go_ret
  exact ⟨rfl, below_chain hbl.out hb.out⟩
theorem bj_ahead (x y : Int) (m n : Nat) (hm : x.tmod 60 = (m : Int)) (hn : y.tmod 60 = (n : Int)) (hx : 0 ≤ x ∧ x ≤ 255) (hy : 0 ≤ y ∧ y ≤ 255) (w : World) : Calls Try.prog 14 #[.int .u8 x, .int .u8 y, .bool false] w fun e w' => e = .returned (.bool true) ∧ Below w.heap.size w w' := by
  have W := Lib.hid (works07_any w)
  have hm60 : m < 60 := by have := Int.tmod_lt_of_pos x (b := 60) (by omega); omega
  have hn60 : n < 60 := by have := Int.tmod_lt_of_pos y (b := 60) (by omega); omega
  have wx : IntKind.i64.wrap x = x := IntWalk.i64_in _ (by omega)
  have wy : IntKind.i64.wrap y = y := IntWalk.i64_in _ (by omega)
  have wm : IntKind.i64.wrap (m : Int) = (m : Int) := IntWalk.i64_in _ (by omega)
  have wn : IntKind.i64.wrap (n : Int) = (n : Int) := IntWalk.i64_in _ (by omega)
  go_enter Try.func14, Try.ntmps14
  go_upto_region 4 with (go_at_call 38; refine W.out.mono ?_; rintro e w0 ⟨rfl, hb0⟩)
  clear W wx wy hm hn
  have P1 := Lib.hid (bnew 0 (Own.nil hb0))
  go_upto_region 5 with (go_at_call 39; refine P1.out.mono ?_; rintro e w1 ⟨bb, rfl, hB1⟩; replace hB1 := Lib.hid hB1)
  have P2 := Lib.hid (bfunc (by simp) hB1.out)
  clear P1 hB1 hb0
  go_upto_region 6 with (go_at_call 40; refine P2.out.mono ?_; rintro e w2 ⟨rfl, hB2⟩)
  have hB := Lib.hid (hB2.box #[.int .i64 21, .int .i64 0, .int .i64 0, .int .i64 0] 30)
  clear P2 hB2
  go_upto_region 7 with fail
  obtain ⟨ob, hob⟩ : ∃ ob, w2.heap.size = ob := ⟨_, rfl⟩
  rw [hob] at hB ⊢
  generalize w2.alloc (.cells #[.int .i64 21, .int .i64 0, .int .i64 0, .int .i64 0] 30) = w3 at *
  clear hob
  replace hB : Hid (BOwn w w3 bb 0 [⟨[], [], []⟩] [cellsA ob #[.int .i64 21, .int .i64 0, .int .i64 0, .int .i64 0] 30]) := hB
  go_wp2_with fail
  go_loopw [11] (fun i wr => ∃ r : Nat, r ≤ m ∧ i = .int .i64 r ∧ Hid (BOwn w wr bb 0 [⟨List.replicate (r) S21, [], []⟩] [cellsA ob #[.int .i64 21, .int .i64 0, .int .i64 0, .int .i64 0] 30])) (fun i _ => (m - intOf i).toNat)
  case atStart => exact ⟨0, by omega, rfl, Lib.hid (hB.out)⟩
  case round =>
  clear hB
  obtain ⟨r, hr, rfl, hB⟩ := hrel
  have o0 := hB.out.cell (j := 0) (List.mem_singleton.2 rfl)
  have o1 := hB.out.cell (j := 1) (List.mem_singleton.2 rfl)
  have o2 := hB.out.cell (j := 2) (List.mem_singleton.2 rfl)
  have o3 := hB.out.cell (j := 3) (List.mem_singleton.2 rfl)
  simp at o0 o1 o2 o3
  by_cases hlt : r < m
  · have hlti : (r : Int) < (m : Int) := by omega
    have P := Lib.hid (badd1 (B := []) S21 (by simp) hB.out (by simp; omega))
    unfold S21 at P
    go_wp2_with (go_at_call 42; refine P.out.mono ?_; rintro e w8 ⟨rfl, hB9⟩; replace hB9 := Lib.hid hB9)
    go_round
    case rel => exact ⟨r + 1, by omega, by first | rfl | trivial | go_num, Lib.hid (by have h := hB9.out; rw [← rep_snoc]; exact h)⟩
    case measure => simp [intOf]; omega
  obtain rfl : m = r := by omega
  have hlti : ¬ (m : Int) < (m : Int) := by omega
  clear o0 o1 o2 o3 hr hlt
  have P3 := Lib.hid (bzero_some (B := []) (by simp) hB.out 3 ⟨#[120]⟩ (by simp; omega) (by simp))
  go_upto_region 15 with (go_at_call 49; refine P3.out.mono ?_; rintro e w8 ⟨rfl, hB9⟩)
  replace hB := Lib.hid hB9
  clear P3 hB9
  simp only [List.nil_append, List.length_replicate] at hB
  go_wp2_with fail
  go_loopw [13] (fun i wr => ∃ r : Nat, r ≤ n ∧ i = .int .i64 r ∧ Hid (BOwn w wr bb 0 [⟨List.replicate m S21 ++ [(19, 3, 0, 0)] ++ List.replicate (r) S21, [], [(m, ⟨#[120]⟩)]⟩] [cellsA ob #[.int .i64 21, .int .i64 0, .int .i64 0, .int .i64 0] 30])) (fun i _ => (n - intOf i).toNat)
  case atStart => exact ⟨0, by omega, rfl, Lib.hid (by rw [List.replicate_zero, List.append_nil]; exact hB.out)⟩
  case round =>
  clear hB
  obtain ⟨r, hr, rfl, hB⟩ := hrel
  have o0 := hB.out.cell (j := 0) (List.mem_singleton.2 rfl)
  have o1 := hB.out.cell (j := 1) (List.mem_singleton.2 rfl)
  have o2 := hB.out.cell (j := 2) (List.mem_singleton.2 rfl)
  have o3 := hB.out.cell (j := 3) (List.mem_singleton.2 rfl)
  simp at o0 o1 o2 o3
  by_cases hlt : r < n
  · have hlti : (r : Int) < (n : Int) := by omega
    have P := Lib.hid (badd1 (B := []) S21 (by simp) hB.out (by simp; omega))
    unfold S21 at P
    go_wp2_with (go_at_call 42; refine P.out.mono ?_; rintro e w8 ⟨rfl, hB9⟩; replace hB9 := Lib.hid hB9)
    go_round
    case rel => exact ⟨r + 1, by omega, by first | rfl | trivial | go_num, Lib.hid (by have h := hB9.out; rw [← rep_snoc]; rw [← List.append_assoc]; exact h)⟩
    case measure => simp [intOf]; omega
  obtain rfl : n = r := by omega
  have hlti : ¬ (n : Int) < (n : Int) := by omega
  clear o0 o1 o2 o3 hr hlt
  have P4 := Lib.hid (blabel_new (B := []) (by simp) hB.out ⟨#[120]⟩ x_size rfl (by simp))
  have wk : IntKind.i64.wrap ((m : Int) + 1) = (m : Int) + 1 := IntWalk.i64_in _ (by omega)
  have wk2 : IntKind.i64.wrap ((m : Int) + 1 + (n : Int)) = (m : Int) + 1 + (n : Int) := IntWalk.i64_in _ (by omega)
  go_upto_region 23 with (go_at_call 41; refine P4.out.mono ?_; rintro e w8 ⟨rfl, hB9⟩)
  replace hB := Lib.hid hB9
  clear P4 hB9
  have P5 := Lib.hid (badd1 (B := []) (0, 0, 0, 0) (by simp) hB.out (by simp; omega))
  go_upto_region 24 with (go_at_call 42; refine P5.out.mono ?_; rintro e w8 ⟨rfl, hB9⟩)
  have hJ : BOwn w w8 bb 0 [jF ⟨#[120]⟩ m n (m + 1 + n)] [cellsA ob #[.int .i64 21, .int .i64 0, .int .i64 0, .int .i64 0] 30] := by
    refine cast (congrArg (fun B => BOwn w w8 bb 0 B [cellsA ob #[.int .i64 21, .int .i64 0, .int .i64 0, .int .i64 0] 30]) ?_) hB9
    simp [jF]
    omega
  clear P5 hB hB9
  have P6 := bend (by simp) (jF_ok ⟨#[120]⟩ x_size (by omega)) hJ
  rw [jF_end ⟨#[120]⟩ (by omega) (by omega)] at P6
  replace P6 := Lib.hid P6
  replace hJ := Lib.hid hJ.below
  generalize hLL : jL m n ((m + 1 + n) : Nat) = L at *
  have hlen : L.length = m + n + 2 := by rw [← hLL, jL_len]
  have hat := Lib.hid (show L.getD m (0, 0, 0, 0) = (19, 3, (((m + 1 + n) : Nat) : Int), 0) from by rw [← hLL, jL_at])
  have hne := Lib.hid (show ∀ r, r < m + n + 2 → r ≠ m → (L.getD r (0, 0, 0, 0)).1 ≠ 19 from fun r h1 h2 => by rw [← hLL]; exact jL_ne (by omega) h2)
  clear hLL
  go_upto_region 25 with (go_at_call 44; refine P6.out.mono ?_; rintro e w9 ⟨ao, c, rfl, hL, hb9⟩)
  have hL1 := hL.below (w' := w9.alloc (.cells #[.int .i64 0, .slice ao 1 c] 42)) (by go_grown)
  have hbl := Lib.hid (show Below w.heap.size w (w9.alloc (.cells #[.int .i64 0, .slice ao 1 c] 42)) from below_chain hJ.out (below_chain hb9 (by go_grown)))
  have c1 : (w9.alloc (.cells #[.int .i64 0, .slice ao 1 c] 42)).cell? ⟨w9.heap.size, 1, none⟩ = some (.slice ao 1 c) := cell_at (alloc_new _ _) 1
  obtain ⟨pb, hpb⟩ : ∃ pb, w9.heap.size = pb := ⟨_, rfl⟩
  rw [hpb] at c1 ⊢
  clear hL hJ hb9 P6
  generalize w9.alloc (.cells #[.int .i64 0, .slice ao 1 c] 42) = u at *
  clear hpb
  obtain ⟨g, off, bo, d, rfl, y0, hI⟩ := hL1.get (i := 0) (by simp)
  simp at y0
  simp at hI
  have hc1 := hL1.1
  simp at hc1
  have hd1 := hI.1
  have hd2 := hI.2.1
  unfold maxLen at hd2
  replace hI := Lib.hid hI
  clear hL1
  have wmn : IntKind.i64.wrap ((m : Int) + (n : Int)) = (m : Int) + (n : Int) := IntWalk.i64_in _ (by omega)
  have wmn2 : IntKind.i64.wrap ((m : Int) + (n : Int) + 2) = (m : Int) + (n : Int) + 2 := IntWalk.i64_in _ (by omega)
  have hli : (L.length : Int) = (m : Int) + (n : Int) + 2 := by omega
  have hw1 := Lib.hid c1
  have hw2 := Lib.hid y0
  go_upto_region 27 with fail
  clear c1 y0 wmn wmn2
  go_wp2_with fail
  go_loopw [16, 17] (fun vm vi wr => ∃ r k : Nat, r ≤ L.length ∧ vi = .int .i64 r ∧ vm = .int .i64 k ∧ k = (if r ≤ m then 0 else 1) ∧ Hid (Below u.heap.size u wr)) (fun _ i _ => (L.length - intOf i).toNat)
  case atStart => exact ⟨0, 0, by omega, rfl, rfl, by simp, Lib.hid (Below.refl _ _)⟩
  case round =>
  obtain ⟨r, k, hr, rfl, rfl, hk, hb⟩ := hrel
  have hI2 := hI.out.below hb.out
  have c1 := (cell_old hb.out _ (by rw [hw1.out]; rfl)).trans hw1.out
  have y0 := (cell_old hb.out _ (by rw [hw2.out]; rfl)).trans hw2.out
  by_cases hlt : r < L.length
  · obtain ⟨g2, off2, rfl, z0, z1, z2, z3⟩ := hI2.get hlt
    have hlti : (r : Int) < (L.length : Int) := by omega
    by_cases hra : r = m
    · have hk0 : k = 0 := by rw [hk, if_pos (by omega)]
      subst hk0
      have e := hat.out
      rw [← hra] at e
      rw [e] at z0 z1 z2 z3
      dsimp only at z0 z1 z2 z3
      clear e hk
      rw [hra] at z0 z1 z2 z3 hlti ⊢
      go_wp2
      go_round
      case rel => exact ⟨m + 1, 1, by omega, by first | rfl | trivial | go_num, by first | rfl | trivial | go_num, by rw [if_neg (by omega)], Lib.hid (below_chain hb.out (by go_grown))⟩
      case measure => simp [intOf]; omega
    · have e19 := hne.out r (by omega) hra
      generalize L.getD r (0, 0, 0, 0) = y at *
      have e19' : (y.1 == 19) = false := by simpa using e19
      clear e19
      go_wp2
      go_round
      case rel => exact ⟨r + 1, k, by omega, by first | rfl | trivial | go_num, by first | rfl | trivial | go_num, by rw [hk]; split <;> split <;> omega, Lib.hid (below_chain hb.out (by go_grown))⟩
      case measure => simp [intOf]; omega
  obtain rfl : r = L.length := by omega
  obtain rfl : k = 1 := by rw [hk, if_neg (by omega)]
  clear hk
  go_wp2
  go_ret
  exact ⟨rfl, below_chain hbl.out hb.out⟩
theorem walkBuildJumps (v0 v1 v2 : Value) (w : World) (h0 : Arg Try.prog w 5 v0) (h1 : Arg Try.prog w 5 v1) (h2 : Arg Try.prog w 4 v2) : Calls Try.prog 14 #[v0, v1, v2] w fun e w' => e = .returned (.bool true) ∧ Below w.heap.size w w' := by
  obtain ⟨x, rfl, hx⟩ := h0.int Try.underlying5
  obtain ⟨y, rfl, hy⟩ := h1.int Try.underlying5
  obtain ⟨b, rfl⟩ := h2.bool Try.underlying4
  simp [Lit.wf, IntKind.min, IntKind.max, IntKind.signed, IntKind.bits] at hx hy
  have ex : x.tmod 60 = ((x % 60).toNat : Int) := by rw [Int.tmod_eq_emod_of_nonneg (by omega)]; omega
  have ey : y.tmod 60 = ((y % 60).toNat : Int) := by rw [Int.tmod_eq_emod_of_nonneg (by omega)]; omega
  cases b with
  | true => exact bj_back x y _ _ ex ey (by omega) (by omega) w
  | false => exact bj_ahead x y _ _ ex ey (by omega) (by omega) w
end Go.Proofs.Ytboiogjklecpaaa
