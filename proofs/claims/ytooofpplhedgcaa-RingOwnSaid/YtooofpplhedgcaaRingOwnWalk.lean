/- The walk through the law RingOwn. -/
import Derived.Test.YtooofpplhedgcaaWorks17
import Derived.Test.YtooofpplhedgcaaArgs
set_option linter.unusedVariables false
set_option linter.unusedSimpArgs false
namespace Go.Proofs.Ytooofpplhedgcaa
open Go.RowKit
theorem tok_in {l i s : Int} (h1 : 0 ≤ l ∧ l ≤ 1048575) (h2 : 0 ≤ i ∧ i ≤ 1048575) (h3 : 0 ≤ s ∧ s ≤ 1048575) : tokV l i s = (l * 1048576 + i) * 1048576 + s := by
  unfold tokV hT
  rw [show min (max l 0) 1048575 = l by omega, show min (max i 0) 1048575 = i by omega, show min (max s 0) 1048575 = s by omega]
theorem tok_eq {l i s l' i' s' : Int} (h1 : 0 ≤ l ∧ l ≤ 1048575) (h2 : 0 ≤ i ∧ i ≤ 1048575) (h3 : 0 ≤ s ∧ s ≤ 1048575) (g1 : 0 ≤ l' ∧ l' ≤ 1048575) (g2 : 0 ≤ i' ∧ i' ≤ 1048575) (g3 : 0 ≤ s' ∧ s' ≤ 1048575) (h : tokV l i s = tokV l' i' s') : l = l' ∧ i = i' ∧ s = s' := by
  rw [tok_in h1 h2 h3, tok_in g1 g2 g3] at h
  omega
theorem word17 (it n : Nat) : wordV 2 4 3 4 1 (it : Int) (n : Int) = ((18 + 4 * (it % 4) + n : Nat) : Int) := by
  have h1 : frameV 2 4 3 4 1 = 16 := by decide
  unfold wordV
  rw [h1, show max (it : Int) 0 = it by omega]
  omega
theorem nap17 : frameV 2 4 3 4 1 + 1 = ((17 : Nat) : Int) := by decide
/-- The words behind what x has told. -/
def ownL (A : Nat) (TA TE : Int) : List Int := (((List.replicate 88 (0 : Int)).set A TA).set (A + 2) TE).set 17 TE
theorem ownL_length (A : Nat) (TA TE : Int) : (ownL A TA TE).length = 88 := by simp [ownL]
theorem zero88 (j : Nat) : (List.replicate 88 (0 : Int)).getD j 0 = 0 := by
  rw [List.getD_eq_getElem?_getD, List.getElem?_replicate]; split <;> rfl
theorem ownL_get (A : Nat) (TA TE : Int) (hA : 19 ≤ A ∧ A + 2 < 88) (j : Nat) : (ownL A TA TE).getD j 0 = if j = 17 then TE else if j = A + 2 then TE else if j = A then TA else 0 := by
  unfold ownL
  by_cases h1 : 17 = j
  · subst h1; rw [if_pos rfl, List.getD_eq_getElem?_getD, List.getElem?_set_self (by simp)]; rfl
  · rw [if_neg (by omega), List.getD_eq_getElem?_getD, List.getElem?_set_ne h1]
    by_cases h2 : A + 2 = j
    · subst h2; rw [if_pos rfl, List.getElem?_set_self (by simp; omega)]; rfl
    · rw [if_neg (by omega), List.getElem?_set_ne h2]
      by_cases h3 : A = j
      · subst h3; rw [if_pos rfl, List.getElem?_set_self (by simp; omega)]; rfl
      · rw [if_neg (by omega), List.getElem?_set_ne h3, ← List.getD_eq_getElem?_getD, zero88]
set_option maxRecDepth 100000
set_option maxHeartbeats 20000000
theorem cells3 {w0 w : World} {pb : Nat} {v0 v1 v2 : Value} {t : TypeId} {l : List Ast} (i : Nat) (h : Own w0 w l) (hi : l[i]? = some (cellsA pb #[v0, v1, v2] t)) :
    w.cell? ⟨pb, 0, none⟩ = some v0 ∧ w.cell? ⟨pb, 1, none⟩ = some v1 ∧ w.cell? ⟨pb, 2, none⟩ = some v2 :=
  ⟨(h.cget i hi 0).1, (h.cget i hi 1).1, (h.cget i hi 2).1⟩
theorem rown_core (a0 a1 a2 b0 b1 b2 : Nat) (w : World) (ha0 : a0 ≤ 65535) (ha1 : a1 ≤ 65535) (ha2 : a2 ≤ 65535) (hb0 : b0 ≤ 65535) (hb1 : b1 ≤ 65535) (hb2 : b2 ≤ 65535) :
    Calls Try.prog 3 #[.agg #[.int .u16 a0, .int .u16 a1, .int .u16 a2], .agg #[.int .u16 b0, .int .u16 b1, .int .u16 b2]] w fun e w' => e = .returned (.bool true) ∧ Below w.heap.size w w' := by
  have ok : okPlan 2 4 3 4 = true := by decide
  have SZ := Lib.hid (fun (w1 : World) (l : List Ast) (h : Own w w1 l) => Own.lift (size_ok ok w1) h (.int .i64 88) (by rw [show sizeV 2 4 3 4 = 88 by decide]))
  have NW := Lib.hid (fun (w1 : World) (l : List Ast) (h : Own w w1 l) => own_new h 88 (List.replicate 88 0) rfl)
  have PL := Lib.hid (fun (w1 : World) (l : List Ast) (h : Own w w1 l) => Own.lift (plan17_any w1) h _ rfl)
  have RN := Lib.hid (fun (se : Int) (w1 : World) (l : List Ast) (h : Own w w1 l) => Own.lift (rnew_any 2 4 3 4 1 se w1) h _ rfl)
  obtain ⟨A, hA⟩ : ∃ A, 18 + 4 * (a1 % 4) + 1 = A := ⟨_, rfl⟩
  obtain ⟨B, hB⟩ : ∃ B, 18 + 4 * (b1 % 4) + 1 = B := ⟨_, rfl⟩
  obtain ⟨TA, hTA⟩ : ∃ T, tokV ((a0 : Int) + 1) a1 a2 = T := ⟨_, rfl⟩
  obtain ⟨TE, hTE⟩ : ∃ T, tokV ((a0 : Int) + 1) a1 0 = T := ⟨_, rfl⟩
  obtain ⟨TB, hTB⟩ : ∃ T, tokV ((b0 : Int) + 1) b1 b2 = T := ⟨_, rfl⟩
  obtain ⟨TD, hTD⟩ : ∃ T, tokV ((b0 : Int) + 1) b1 0 = T := ⟨_, rfl⟩
  obtain ⟨m1, hm1⟩ : ∃ m, (List.replicate 88 (0 : Int)).set A TA = m := ⟨_, rfl⟩
  obtain ⟨m2, hm2⟩ : ∃ m, m1.set (A + 2) TE = m := ⟨_, rfl⟩
  obtain ⟨m3, hm3⟩ : ∃ m, m2.set 17 TE = m := ⟨_, rfl⟩
  have l1 : m1.length = 88 := by rw [← hm1]; simp
  have l2 : m2.length = 88 := by rw [← hm2]; simp [l1]
  have l3 : m3.length = 88 := by rw [← hm3]; simp [l2]
  have hAb : 19 ≤ A ∧ A + 2 < 88 := by omega
  have hBb : 19 ≤ B ∧ B + 2 < 88 := by omega
  have G := ownL_get A TA TE hAb
  rw [ownL, hm1, hm2, hm3] at G
  have hTDp : TD ≠ 0 := by rw [← hTD, tok_in (by omega) (by omega) (by omega)]; omega
  have hTBp : TB ≠ 0 := by rw [← hTB, tok_in (by omega) (by omega) (by omega)]; omega
  have hTAp : TA ≠ 0 := by rw [← hTA, tok_in (by omega) (by omega) (by omega)]; omega
  have hTEp : TE ≠ 0 := by rw [← hTE, tok_in (by omega) (by omega) (by omega)]; omega
  have wA : ∀ n : Nat, wordV 2 4 3 4 1 (a1 : Int) (n : Int) = ((A - 1 + n : Nat) : Int) := fun n => by rw [word17]; omega
  have wB : ∀ n : Nat, wordV 2 4 3 4 1 (b1 : Int) (n : Int) = ((B - 1 + n : Nat) : Int) := fun n => by rw [word17]; omega
  have WT := Lib.hid (fun (w1 : World) (l : List Ast) (gs sb : Nat) (h : Own w w1 (storeA gs sb (List.replicate 88 0) :: l)) => r_wait h ok 1 ((a0 : Int) + 1) a1 a2 (at_ := A) ((wA 1).trans (by omega)) (by simp; omega) TA hTA m1 hm1)
  have EN := Lib.hid (fun (w1 : World) (l : List Ast) (gs sb : Nat) (h : Own w w1 (storeA gs sb m1 :: l)) => r_end h ok 1 ((a0 : Int) + 1) a1 (at_ := A + 2) ((wA 3).trans (by omega)) (by omega) TE hTE m2 hm2)
  have SL := Lib.hid (fun (w1 : World) (l : List Ast) (gs sb : Nat) (h : Own w w1 (storeA gs sb m2 :: l)) => r_sleep h ok 1 ((a0 : Int) + 1) a1 (at_ := 17) nap17 (by omega) TE hTE m3 hm3)
  have xE := G (B + 2)
  rw [if_neg (by omega)] at xE
  have xN := G 17
  rw [if_pos rfl] at xN
  have xB := G B
  rw [if_neg (by omega)] at xB
  have xA := G A
  rw [if_neg (by omega), if_neg (by omega), if_pos rfl] at xA
  by_cases same : a0 = b0 ∧ a1 = b1
  · obtain ⟨rfl, rfl⟩ := same
    have hAB : A = B := by omega
    subst hAB
    have hTDE : TE = TD := by rw [← hTE, ← hTD]
    subst hTDE
    rw [if_pos rfl] at xE
    rw [if_neg (by omega), if_pos rfl] at xB
    obtain ⟨m4, hm4⟩ : ∃ m, m3.set A 0 = m := ⟨_, rfl⟩
    have l4 : m4.length = 88 := by rw [← hm4]; simp [l3]
    obtain ⟨m5, hm5⟩ : ∃ m, m4.set 17 0 = m := ⟨_, rfl⟩
    have l5 : m5.length = 88 := by rw [← hm5]; simp [l4]
    obtain ⟨n5, hn5⟩ : ∃ m, m3.set 17 0 = m := ⟨_, rfl⟩
    have k5 : n5.length = 88 := by rw [← hn5]; simp [l3]
    have q1 : m4.getD 17 0 = TE := by rw [← hm4, getD_set_other (by omega)]; exact xN
    have q2 : m5.getD A 0 ≠ TA := by rw [← hm5, getD_set_other (by omega), ← hm4, getD_set_self (by omega)]; exact hTAp.symm
    have q3 : m5.getD 17 0 ≠ TE := by rw [← hm5, getD_set_self (by omega)]; exact hTEp.symm
    have q4 : n5.getD A 0 = TA := by rw [← hn5, getD_set_other (by omega)]; exact xA
    have q5 : n5.getD 17 0 ≠ TE := by rw [← hn5, getD_set_self (by omega)]; exact hTEp.symm
    obtain ⟨n6, hn6⟩ : ∃ m, n5.set A 0 = m := ⟨_, rfl⟩
    have q6 : n6.getD 17 0 ≠ TE := by rw [← hn6, getD_set_other (by omega)]; exact q5
    have k6 : n6.length = 88 := by rw [← hn6]; simp [k5]
    have ED := Lib.hid (fun (w1 : World) (l : List Ast) (gs sb : Nat) (h : Own w w1 (storeA gs sb m3 :: l)) => r_ended h ok 1 ((a0 : Int) + 1) a1 (at_ := A + 2) ((wA 3).trans (by omega)) (by omega) TE TE hTE xE true (by simp))
    have SP := Lib.hid (fun (w1 : World) (l : List Ast) (gs sb : Nat) (h : Own w w1 (storeA gs sb m3 :: l)) => r_sleeps h ok 1 ((a0 : Int) + 1) a1 (at_ := 17) nap17 (by omega) TE TE hTE xN true (by simp))
    have hs1 : ((a0 : Int) == (a0 : Int)) = true := by simp
    have hs2 : ((a1 : Int) == (a1 : Int)) = true := by simp
    by_cases s2 : a2 = b2
    · subst s2
      have hTAB : TA = TB := by rw [← hTA, ← hTB]
      subst hTAB
      have FR := Lib.hid (fun (w1 : World) (l : List Ast) (gs sb : Nat) (h : Own w w1 (storeA gs sb m3 :: l)) => r_free_yes h ok 1 ((a0 : Int) + 1) a1 a2 (at_ := A) ((wA 1).trans (by omega)) (by omega) TA hTA xB m4 hm4)
      have RO := Lib.hid (fun (w1 : World) (l : List Ast) (gs sb : Nat) (h : Own w w1 (storeA gs sb m4 :: l)) => r_rouse_yes h ok 1 ((a0 : Int) + 1) a1 (at_ := 17) nap17 (by omega) TE hTE q1 m5 hm5)
      have FX := Lib.hid (fun (w1 : World) (l : List Ast) (gs sb : Nat) (h : Own w w1 (storeA gs sb m5 :: l)) => r_free_no h ok 1 ((a0 : Int) + 1) a1 a2 (at_ := A) ((wA 1).trans (by omega)) (by omega) TA hTA q2)
      have RX := Lib.hid (fun (w1 : World) (l : List Ast) (gs sb : Nat) (h : Own w w1 (storeA gs sb m5 :: l)) => r_rouse_no h ok 1 ((a0 : Int) + 1) a1 (at_ := 17) nap17 (by omega) TE hTE q3)
      have hs3 : ((a2 : Int) == (a2 : Int)) = true := by simp
      clear hA hB hTA hTE hTB hTD hm1 hm2 hm3 l1 l2 l3 hAb hBb G hTDp hTBp hTAp hTEp wA wB xE xN xB xA ok
      go_enter Try.func3, Try.ntmps3
      go_wp2_with fail
      have h0 := ((Own.nil (Below.refl w.heap.size w)).box #[.int .u16 a0, .int .u16 a1, .int .u16 a2] 23).box #[.int .u16 a0, .int .u16 a1, .int .u16 a2] 23
      rw [World.size_alloc] at h0
      generalize (w.alloc (.cells #[.int .u16 a0, .int .u16 a1, .int .u16 a2] 23)).alloc (.cells #[.int .u16 a0, .int .u16 a1, .int .u16 a2] 23) = t0 at *
      obtain ⟨ab, hab⟩ : ∃ ab, w.heap.size = ab := ⟨_, rfl⟩
      rw [hab] at h0 ⊢
      obtain ⟨bb, hbb⟩ : ∃ bb, ab + 1 = bb := ⟨_, rfl⟩
      rw [hbb] at h0 ⊢
      clear hab hbb
      go_at_call 9
      refine (works17_any _).mono ?_
      rintro e w1 ⟨rfl, hb1⟩
      have h1 := h0.grow hb1
      clear h0 hb1
      go_wp2_with fail
      go_at_call 10
      refine (PL.out _ _ h1).mono ?_
      rintro e w2 ⟨rfl, h2⟩
      clear h1
      have h3 := h2.box #[.int .i64 2, .int .i64 4, .int .i64 3, .int .i64 4] 26
      go_wp2_with fail
      generalize w2.alloc (.cells #[.int .i64 2, .int .i64 4, .int .i64 3, .int .i64 4] 26) = w3 at *
      generalize w2.heap.size = pb at *
      clear h2
      go_at_call 12
      refine (SZ.out _ _ h3).mono ?_
      rintro e w4 ⟨rfl, h4⟩
      clear h3
      go_wp2_with fail
      go_at_call 11
      refine (NW.out _ _ h4).mono ?_
      rintro e w5 ⟨rfl, h5⟩
      have h6 := h5.sel [3, 0, 1, 2] (by decide)
      clear h4 h5
      generalize w4.heap.size = sb at *
      obtain ⟨u0, u1, u2⟩ := cells3 1 h6 rfl
      obtain ⟨z0, z1, z2, z3⟩ := cells4 3 h6 rfl
      go_wp2_with fail
      go_at_call 13
      refine (RN.out _ _ _ h6).mono ?_
      rintro e w7 ⟨rfl, h7⟩
      have h8 := h7.box #[.int .i64 2, .int .i64 4, .int .i64 3, .int .i64 4, .int .i64 1, .int .i64 ((a0 : Int) + 1)] 32
      clear h6 u0 u1 u2 z0 z1 z2 z3
      obtain ⟨v0, v1, v2⟩ := cells3 2 h8 rfl
      obtain ⟨z0, z1, z2, z3⟩ := cells4 3 h8 rfl
      go_wp2_with fail
      generalize w7.alloc (.cells #[.int .i64 2, .int .i64 4, .int .i64 3, .int .i64 4, .int .i64 1, .int .i64 ((a0 : Int) + 1)] 32) = w8 at *
      generalize w7.heap.size = xb at *
      clear h7
      go_at_call 13
      refine (RN.out _ _ _ h8).mono ?_
      rintro e w9 ⟨rfl, h9⟩
      have h10 := h9.box #[.int .i64 2, .int .i64 4, .int .i64 3, .int .i64 4, .int .i64 1, .int .i64 ((a0 : Int) + 1)] 32
      clear h8 v0 v1 v2 z0 z1 z2 z3
      go_wp2_with fail
      generalize w9.alloc (.cells #[.int .i64 2, .int .i64 4, .int .i64 3, .int .i64 4, .int .i64 1, .int .i64 ((a0 : Int) + 1)] 32) = w10 at *
      generalize w9.heap.size = yb at *
      clear h9
      have FA := Lib.hid (fun (w1 : World) (ms : List Int) (h : Own w w1 (storeA (sb + 1) sb ms :: [cellsA ab #[.int .u16 a0, .int .u16 a1, .int .u16 a2] 23, cellsA bb #[.int .u16 a0, .int .u16 a1, .int .u16 a2] 23, cellsA pb #[.int .i64 2, .int .i64 4, .int .i64 3, .int .i64 4] 26, cellsA xb #[.int .i64 2, .int .i64 4, .int .i64 3, .int .i64 4, .int .i64 1, .int .i64 ((a0 : Int) + 1)] 32, cellsA yb #[.int .i64 2, .int .i64 4, .int .i64 3, .int .i64 4, .int .i64 1, .int .i64 ((a0 : Int) + 1)] 32])) => And.intro (cells3 1 h rfl) (And.intro (cells3 2 h rfl) (And.intro (cells6 4 h rfl) (cells6 5 h rfl))))
      obtain ⟨⟨u0, u1, u2⟩, ⟨v0, v1, v2⟩, ⟨x0, x1, x2, x3, x4, x5⟩, ⟨y0, y1, y2, y3, y4, y5⟩⟩ := FA.out _ _ h10
      go_quiet (fail)
      have h11 := h10.drewN nq
      generalize w10.drewN nq = w11 at *
      clear h10
      clear u0 u1 u2 v0 v1 v2 x0 x1 x2 x3 x4 x5 y0 y1 y2 y3 y4 y5
      obtain ⟨⟨u0, u1, u2⟩, ⟨v0, v1, v2⟩, ⟨x0, x1, x2, x3, x4, x5⟩, ⟨y0, y1, y2, y3, y4, y5⟩⟩ := FA.out _ _ h11
      go_wp2_with fail
      go_at_call 14
      refine (WT.out _ _ _ _ h11).mono ?_
      rintro e w12 ⟨rfl, h12⟩
      clear u0 u1 u2 v0 v1 v2 x0 x1 x2 x3 x4 x5 y0 y1 y2 y3 y4 y5
      obtain ⟨⟨u0, u1, u2⟩, ⟨v0, v1, v2⟩, ⟨x0, x1, x2, x3, x4, x5⟩, ⟨y0, y1, y2, y3, y4, y5⟩⟩ := FA.out _ _ h12
      go_wp2_with fail
      go_at_call 15
      refine (EN.out _ _ _ _ h12).mono ?_
      rintro e w13 ⟨rfl, h13⟩
      clear u0 u1 u2 v0 v1 v2 x0 x1 x2 x3 x4 x5 y0 y1 y2 y3 y4 y5
      obtain ⟨⟨u0, u1, u2⟩, ⟨v0, v1, v2⟩, ⟨x0, x1, x2, x3, x4, x5⟩, ⟨y0, y1, y2, y3, y4, y5⟩⟩ := FA.out _ _ h13
      go_wp2_with fail
      go_at_call 16
      refine (SL.out _ _ _ _ h13).mono ?_
      rintro e w14 ⟨rfl, h14⟩
      clear u0 u1 u2 v0 v1 v2 x0 x1 x2 x3 x4 x5 y0 y1 y2 y3 y4 y5
      obtain ⟨⟨u0, u1, u2⟩, ⟨v0, v1, v2⟩, ⟨x0, x1, x2, x3, x4, x5⟩, ⟨y0, y1, y2, y3, y4, y5⟩⟩ := FA.out _ _ h14
      go_wp2_with fail
      go_at_call 17
      refine (ED.out _ _ _ _ h14).mono ?_
      rintro e w15 ⟨rfl, h15⟩
      clear u0 u1 u2 v0 v1 v2 x0 x1 x2 x3 x4 x5 y0 y1 y2 y3 y4 y5
      obtain ⟨⟨u0, u1, u2⟩, ⟨v0, v1, v2⟩, ⟨x0, x1, x2, x3, x4, x5⟩, ⟨y0, y1, y2, y3, y4, y5⟩⟩ := FA.out _ _ h15
      go_wp2_with fail
      go_at_call 18
      refine (SP.out _ _ _ _ h15).mono ?_
      rintro e w16 ⟨rfl, h16⟩
      clear u0 u1 u2 v0 v1 v2 x0 x1 x2 x3 x4 x5 y0 y1 y2 y3 y4 y5
      obtain ⟨⟨u0, u1, u2⟩, ⟨v0, v1, v2⟩, ⟨x0, x1, x2, x3, x4, x5⟩, ⟨y0, y1, y2, y3, y4, y5⟩⟩ := FA.out _ _ h16
      go_wp2_with fail
      have hwb : IntKind.i64.wrap (a2 : Int) = (a2 : Int) := IntWalk.i64_in _ (by omega)
      have h17 := h16.drewN 1
      clear u0 u1 u2 v0 v1 v2 x0 x1 x2 x3 x4 x5 y0 y1 y2 y3 y4 y5
      obtain ⟨⟨u0, u1, u2⟩, ⟨v0, v1, v2⟩, ⟨x0, x1, x2, x3, x4, x5⟩, ⟨y0, y1, y2, y3, y4, y5⟩⟩ := FA.out _ _ h17
      have hS0 : (fun w' : World => w'.cell? ⟨yb, 0, none⟩ = some (.int .i64 2) ∧ w'.cell? ⟨yb, 1, none⟩ = some (.int .i64 4) ∧ w'.cell? ⟨yb, 2, none⟩ = some (.int .i64 3) ∧ w'.cell? ⟨yb, 3, none⟩ = some (.int .i64 4) ∧ w'.cell? ⟨yb, 4, none⟩ = some (.int .i64 1) ∧ w'.cell? ⟨yb, 5, none⟩ = some (.int .i64 ((a0 : Int) + 1)) ∧ w'.cell? ⟨bb, 2, none⟩ = some (.int .u16 a2)) w16.drew := ⟨y0, y1, y2, y3, y4, y5, v2⟩
      clear u0 u1 u2 v0 v1 v2 x0 x1 x2 x3 x4 x5 y0 y1 y2 y3 y4 y5
      refine lin_start (S := (fun w' : World => w'.cell? ⟨yb, 0, none⟩ = some (.int .i64 2) ∧ w'.cell? ⟨yb, 1, none⟩ = some (.int .i64 4) ∧ w'.cell? ⟨yb, 2, none⟩ = some (.int .i64 3) ∧ w'.cell? ⟨yb, 3, none⟩ = some (.int .i64 4) ∧ w'.cell? ⟨yb, 4, none⟩ = some (.int .i64 1) ∧ w'.cell? ⟨yb, 5, none⟩ = some (.int .i64 ((a0 : Int) + 1)) ∧ w'.cell? ⟨bb, 2, none⟩ = some (.int .u16 a2))) rfl 13 rfl hS0 ?_
      simp only [numbered, Nat.zero_add, Nat.reduceAdd]
      refine lin_take (v := ?_) (by kernel_rfl) (by kernel_rfl) (fun _ _ _ h => h) (Or.inl ⟨by rfl, ?_⟩) (by assumption) ?_; (rotate_left; (intro wS hSw; (try dsimp only at hSw); go_simp; (try with_reducible rfl)); rotate_left); simp only [Act.put, List.setIfInBounds_toArray, List.set_cons_zero, List.set_cons_succ]
      refine lin_take (v := ?_) (by kernel_rfl) (by kernel_rfl) (fun _ _ _ h => h) (Or.inl ⟨by rfl, ?_⟩) (by assumption) ?_; (rotate_left; (intro wS hSw; (try dsimp only at hSw); go_simp; (try with_reducible rfl)); rotate_left); simp only [Act.put, List.setIfInBounds_toArray, List.set_cons_zero, List.set_cons_succ]
      refine lin_take (v := ?_) (by kernel_rfl) (by kernel_rfl) (fun _ _ _ h => h) (Or.inl ⟨by rfl, ?_⟩) (by assumption) ?_; (rotate_left; (intro wS hSw; (try dsimp only at hSw); go_simp; (try with_reducible rfl)); rotate_left); simp only [Act.put, List.setIfInBounds_toArray, List.set_cons_zero, List.set_cons_succ]
      refine lin_take (v := ?_) (by kernel_rfl) (by kernel_rfl) (fun _ _ _ h => h) (Or.inl ⟨by rfl, ?_⟩) (by assumption) ?_; (rotate_left; (intro wS hSw; (try dsimp only at hSw); go_simp; (try with_reducible rfl)); rotate_left); simp only [Act.put, List.setIfInBounds_toArray, List.set_cons_zero, List.set_cons_succ]
      refine lin_take (v := ?_) (by kernel_rfl) (by kernel_rfl) (fun _ _ _ h => h) (Or.inl ⟨by rfl, ?_⟩) (by assumption) ?_; (rotate_left; (intro wS hSw; (try dsimp only at hSw); go_simp; (try with_reducible rfl)); rotate_left); simp only [Act.put, List.setIfInBounds_toArray, List.set_cons_zero, List.set_cons_succ]
      refine lin_take (v := ?_) (by kernel_rfl) (by kernel_rfl) (fun _ _ _ h => h) (Or.inl ⟨by rfl, ?_⟩) (by assumption) ?_; (rotate_left; (intro wS hSw; (try dsimp only at hSw); go_simp; (try with_reducible rfl)); rotate_left); simp only [Act.put, List.setIfInBounds_toArray, List.set_cons_zero, List.set_cons_succ]
      refine lin_rot ?_; simp only [List.cons_append, List.nil_append]
      refine lin_take (v := ?_) (by kernel_rfl) (by kernel_rfl) (fun _ _ _ h => h) (Or.inl ⟨by rfl, ?_⟩) (by assumption) ?_; (rotate_left; (intro wS hSw; (try dsimp only at hSw); go_simp; (try with_reducible rfl)); rotate_left); simp only [Act.put, List.setIfInBounds_toArray, List.set_cons_zero, List.set_cons_succ]
      refine lin_take (v := ?_) (by kernel_rfl) (by kernel_rfl) (fun _ _ _ h => h) (Or.inl ⟨by rfl, ?_⟩) (by assumption) ?_; (rotate_left; (intro wS hSw; (try dsimp only at hSw); go_simp; (try with_reducible rfl)); rotate_left); simp only [Act.put, List.setIfInBounds_toArray, List.set_cons_zero, List.set_cons_succ]
      refine lin_take (v := ?_) (by kernel_rfl) (by kernel_rfl) (fun _ _ _ h => h) (Or.inl ⟨by rfl, ?_⟩) (by assumption) ?_; (rotate_left; (intro wS hSw; (try dsimp only at hSw); go_simp; (try with_reducible rfl)); rotate_left); simp only [Act.put, List.setIfInBounds_toArray, List.set_cons_zero, List.set_cons_succ]
      refine lin_rot ?_; simp only [List.cons_append, List.nil_append]
      refine lin_rot ?_; simp only [List.cons_append, List.nil_append]
      refine lin_rot ?_; simp only [List.cons_append, List.nil_append]
      refine lin_sole (by kernel_rfl) (fun K hK => ?_)
      go_simp
      refine (FR.out _ _ _ _ h17).mono ?_
      rintro e w18 ⟨rfl, h18⟩
      obtain ⟨⟨u0, u1, u2⟩, ⟨v0, v1, v2⟩, ⟨x0, x1, x2, x3, x4, x5⟩, ⟨y0, y1, y2, y3, y4, y5⟩⟩ := FA.out _ _ h18
      refine hK.out _ _ ?_ (fun hHeld => ?_)
      · exact ⟨y0, y1, y2, y3, y4, y5, v2⟩
      try simp only [Act.put, List.setIfInBounds_toArray, List.set_cons_zero, List.set_cons_succ]
      clear u0 u1 u2 v0 v1 v2 x0 x1 x2 x3 x4 x5 y0 y1 y2 y3 y4 y5
      refine lin_sole (by kernel_rfl) (fun K hK => ?_)
      go_simp
      refine (RO.out _ _ _ _ h18).mono ?_
      rintro e w19 ⟨rfl, h19⟩
      obtain ⟨⟨u0, u1, u2⟩, ⟨v0, v1, v2⟩, ⟨x0, x1, x2, x3, x4, x5⟩, ⟨y0, y1, y2, y3, y4, y5⟩⟩ := FA.out _ _ h19
      refine hK.out _ _ ?_ (fun hHeld => ?_)
      · exact ⟨y0, y1, y2, y3, y4, y5, v2⟩
      try simp only [Act.put, List.setIfInBounds_toArray, List.set_cons_zero, List.set_cons_succ]
      clear u0 u1 u2 v0 v1 v2 x0 x1 x2 x3 x4 x5 y0 y1 y2 y3 y4 y5
      refine lin_take (v := ?_) (by kernel_rfl) (by kernel_rfl) (fun _ _ _ h => h) (Or.inl ⟨by rfl, ?_⟩) (by assumption) ?_; (rotate_left; (intro wS hSw; (try dsimp only at hSw); go_simp; (try with_reducible rfl)); rotate_left); simp only [Act.put, List.setIfInBounds_toArray, List.set_cons_zero, List.set_cons_succ]
      refine lin_take (v := ?_) (by kernel_rfl) (by kernel_rfl) (fun _ _ _ h => h) (Or.inl ⟨by rfl, ?_⟩) (by assumption) ?_; (rotate_left; (intro wS hSw; (try dsimp only at hSw); go_simp; (try with_reducible rfl)); rotate_left); simp only [Act.put, List.setIfInBounds_toArray, List.set_cons_zero, List.set_cons_succ]
      refine lin_done (by kernel_rfl) ?_
      obtain ⟨⟨u0, u1, u2⟩, ⟨v0, v1, v2⟩, ⟨x0, x1, x2, x3, x4, x5⟩, ⟨y0, y1, y2, y3, y4, y5⟩⟩ := FA.out _ _ h19
      clear hS0 hHeld hwb
      go_wp2_with fail
      go_at_call 19
      refine (FX.out _ _ _ _ h19).mono ?_
      rintro e w20 ⟨rfl, h20⟩
      clear u0 u1 u2 v0 v1 v2 x0 x1 x2 x3 x4 x5 y0 y1 y2 y3 y4 y5
      obtain ⟨⟨u0, u1, u2⟩, ⟨v0, v1, v2⟩, ⟨x0, x1, x2, x3, x4, x5⟩, ⟨y0, y1, y2, y3, y4, y5⟩⟩ := FA.out _ _ h20
      go_wp2_with fail
      go_at_call 20
      refine (RX.out _ _ _ _ h20).mono ?_
      rintro e w21 ⟨rfl, h21⟩
      go_wp2_with fail
      go_ret
      exact ⟨rfl, h21.below⟩
    · have hne : TA ≠ TB := by
        rw [← hTA, ← hTB]
        intro e
        have := tok_eq (by omega) (by omega) (by omega) (by omega) (by omega) (by omega) e
        omega
      have FR := Lib.hid (fun (w1 : World) (l : List Ast) (gs sb : Nat) (h : Own w w1 (storeA gs sb m3 :: l)) => r_free_no h ok 1 ((a0 : Int) + 1) a1 b2 (at_ := A) ((wA 1).trans (by omega)) (by omega) TB hTB (by rw [xB]; exact hne))
      have RO := Lib.hid (fun (w1 : World) (l : List Ast) (gs sb : Nat) (h : Own w w1 (storeA gs sb m3 :: l)) => r_rouse_yes h ok 1 ((a0 : Int) + 1) a1 (at_ := 17) nap17 (by omega) TE hTE xN n5 hn5)
      have FX := Lib.hid (fun (w1 : World) (l : List Ast) (gs sb : Nat) (h : Own w w1 (storeA gs sb n5 :: l)) => r_free_yes h ok 1 ((a0 : Int) + 1) a1 a2 (at_ := A) ((wA 1).trans (by omega)) (by omega) TA hTA q4 n6 hn6)
      have RX := Lib.hid (fun (w1 : World) (l : List Ast) (gs sb : Nat) (h : Own w w1 (storeA gs sb n6 :: l)) => r_rouse_no h ok 1 ((a0 : Int) + 1) a1 (at_ := 17) nap17 (by omega) TE hTE q6)
      have hs3 : ((a2 : Int) == (b2 : Int)) = false := by simp; omega
      clear hA hB hTA hTE hTB hTD hm1 hm2 hm3 l1 l2 l3 hAb hBb G hTDp hTBp hTAp hTEp wA wB xE xN xB xA ok
      go_enter Try.func3, Try.ntmps3
      go_wp2_with fail
      have h0 := ((Own.nil (Below.refl w.heap.size w)).box #[.int .u16 a0, .int .u16 a1, .int .u16 a2] 23).box #[.int .u16 a0, .int .u16 a1, .int .u16 b2] 23
      rw [World.size_alloc] at h0
      generalize (w.alloc (.cells #[.int .u16 a0, .int .u16 a1, .int .u16 a2] 23)).alloc (.cells #[.int .u16 a0, .int .u16 a1, .int .u16 b2] 23) = t0 at *
      obtain ⟨ab, hab⟩ : ∃ ab, w.heap.size = ab := ⟨_, rfl⟩
      rw [hab] at h0 ⊢
      obtain ⟨bb, hbb⟩ : ∃ bb, ab + 1 = bb := ⟨_, rfl⟩
      rw [hbb] at h0 ⊢
      clear hab hbb
      go_at_call 9
      refine (works17_any _).mono ?_
      rintro e w1 ⟨rfl, hb1⟩
      have h1 := h0.grow hb1
      clear h0 hb1
      go_wp2_with fail
      go_at_call 10
      refine (PL.out _ _ h1).mono ?_
      rintro e w2 ⟨rfl, h2⟩
      clear h1
      have h3 := h2.box #[.int .i64 2, .int .i64 4, .int .i64 3, .int .i64 4] 26
      go_wp2_with fail
      generalize w2.alloc (.cells #[.int .i64 2, .int .i64 4, .int .i64 3, .int .i64 4] 26) = w3 at *
      generalize w2.heap.size = pb at *
      clear h2
      go_at_call 12
      refine (SZ.out _ _ h3).mono ?_
      rintro e w4 ⟨rfl, h4⟩
      clear h3
      go_wp2_with fail
      go_at_call 11
      refine (NW.out _ _ h4).mono ?_
      rintro e w5 ⟨rfl, h5⟩
      have h6 := h5.sel [3, 0, 1, 2] (by decide)
      clear h4 h5
      generalize w4.heap.size = sb at *
      obtain ⟨u0, u1, u2⟩ := cells3 1 h6 rfl
      obtain ⟨z0, z1, z2, z3⟩ := cells4 3 h6 rfl
      go_wp2_with fail
      go_at_call 13
      refine (RN.out _ _ _ h6).mono ?_
      rintro e w7 ⟨rfl, h7⟩
      have h8 := h7.box #[.int .i64 2, .int .i64 4, .int .i64 3, .int .i64 4, .int .i64 1, .int .i64 ((a0 : Int) + 1)] 32
      clear h6 u0 u1 u2 z0 z1 z2 z3
      obtain ⟨v0, v1, v2⟩ := cells3 2 h8 rfl
      obtain ⟨z0, z1, z2, z3⟩ := cells4 3 h8 rfl
      go_wp2_with fail
      generalize w7.alloc (.cells #[.int .i64 2, .int .i64 4, .int .i64 3, .int .i64 4, .int .i64 1, .int .i64 ((a0 : Int) + 1)] 32) = w8 at *
      generalize w7.heap.size = xb at *
      clear h7
      go_at_call 13
      refine (RN.out _ _ _ h8).mono ?_
      rintro e w9 ⟨rfl, h9⟩
      have h10 := h9.box #[.int .i64 2, .int .i64 4, .int .i64 3, .int .i64 4, .int .i64 1, .int .i64 ((a0 : Int) + 1)] 32
      clear h8 v0 v1 v2 z0 z1 z2 z3
      go_wp2_with fail
      generalize w9.alloc (.cells #[.int .i64 2, .int .i64 4, .int .i64 3, .int .i64 4, .int .i64 1, .int .i64 ((a0 : Int) + 1)] 32) = w10 at *
      generalize w9.heap.size = yb at *
      clear h9
      have FA := Lib.hid (fun (w1 : World) (ms : List Int) (h : Own w w1 (storeA (sb + 1) sb ms :: [cellsA ab #[.int .u16 a0, .int .u16 a1, .int .u16 a2] 23, cellsA bb #[.int .u16 a0, .int .u16 a1, .int .u16 b2] 23, cellsA pb #[.int .i64 2, .int .i64 4, .int .i64 3, .int .i64 4] 26, cellsA xb #[.int .i64 2, .int .i64 4, .int .i64 3, .int .i64 4, .int .i64 1, .int .i64 ((a0 : Int) + 1)] 32, cellsA yb #[.int .i64 2, .int .i64 4, .int .i64 3, .int .i64 4, .int .i64 1, .int .i64 ((a0 : Int) + 1)] 32])) => And.intro (cells3 1 h rfl) (And.intro (cells3 2 h rfl) (And.intro (cells6 4 h rfl) (cells6 5 h rfl))))
      obtain ⟨⟨u0, u1, u2⟩, ⟨v0, v1, v2⟩, ⟨x0, x1, x2, x3, x4, x5⟩, ⟨y0, y1, y2, y3, y4, y5⟩⟩ := FA.out _ _ h10
      go_quiet (fail)
      have h11 := h10.drewN nq
      generalize w10.drewN nq = w11 at *
      clear h10
      clear u0 u1 u2 v0 v1 v2 x0 x1 x2 x3 x4 x5 y0 y1 y2 y3 y4 y5
      obtain ⟨⟨u0, u1, u2⟩, ⟨v0, v1, v2⟩, ⟨x0, x1, x2, x3, x4, x5⟩, ⟨y0, y1, y2, y3, y4, y5⟩⟩ := FA.out _ _ h11
      go_wp2_with fail
      go_at_call 14
      refine (WT.out _ _ _ _ h11).mono ?_
      rintro e w12 ⟨rfl, h12⟩
      clear u0 u1 u2 v0 v1 v2 x0 x1 x2 x3 x4 x5 y0 y1 y2 y3 y4 y5
      obtain ⟨⟨u0, u1, u2⟩, ⟨v0, v1, v2⟩, ⟨x0, x1, x2, x3, x4, x5⟩, ⟨y0, y1, y2, y3, y4, y5⟩⟩ := FA.out _ _ h12
      go_wp2_with fail
      go_at_call 15
      refine (EN.out _ _ _ _ h12).mono ?_
      rintro e w13 ⟨rfl, h13⟩
      clear u0 u1 u2 v0 v1 v2 x0 x1 x2 x3 x4 x5 y0 y1 y2 y3 y4 y5
      obtain ⟨⟨u0, u1, u2⟩, ⟨v0, v1, v2⟩, ⟨x0, x1, x2, x3, x4, x5⟩, ⟨y0, y1, y2, y3, y4, y5⟩⟩ := FA.out _ _ h13
      go_wp2_with fail
      go_at_call 16
      refine (SL.out _ _ _ _ h13).mono ?_
      rintro e w14 ⟨rfl, h14⟩
      clear u0 u1 u2 v0 v1 v2 x0 x1 x2 x3 x4 x5 y0 y1 y2 y3 y4 y5
      obtain ⟨⟨u0, u1, u2⟩, ⟨v0, v1, v2⟩, ⟨x0, x1, x2, x3, x4, x5⟩, ⟨y0, y1, y2, y3, y4, y5⟩⟩ := FA.out _ _ h14
      go_wp2_with fail
      go_at_call 17
      refine (ED.out _ _ _ _ h14).mono ?_
      rintro e w15 ⟨rfl, h15⟩
      clear u0 u1 u2 v0 v1 v2 x0 x1 x2 x3 x4 x5 y0 y1 y2 y3 y4 y5
      obtain ⟨⟨u0, u1, u2⟩, ⟨v0, v1, v2⟩, ⟨x0, x1, x2, x3, x4, x5⟩, ⟨y0, y1, y2, y3, y4, y5⟩⟩ := FA.out _ _ h15
      go_wp2_with fail
      go_at_call 18
      refine (SP.out _ _ _ _ h15).mono ?_
      rintro e w16 ⟨rfl, h16⟩
      clear u0 u1 u2 v0 v1 v2 x0 x1 x2 x3 x4 x5 y0 y1 y2 y3 y4 y5
      obtain ⟨⟨u0, u1, u2⟩, ⟨v0, v1, v2⟩, ⟨x0, x1, x2, x3, x4, x5⟩, ⟨y0, y1, y2, y3, y4, y5⟩⟩ := FA.out _ _ h16
      go_wp2_with fail
      have hwb : IntKind.i64.wrap (b2 : Int) = (b2 : Int) := IntWalk.i64_in _ (by omega)
      have h17 := h16.drewN 1
      clear u0 u1 u2 v0 v1 v2 x0 x1 x2 x3 x4 x5 y0 y1 y2 y3 y4 y5
      obtain ⟨⟨u0, u1, u2⟩, ⟨v0, v1, v2⟩, ⟨x0, x1, x2, x3, x4, x5⟩, ⟨y0, y1, y2, y3, y4, y5⟩⟩ := FA.out _ _ h17
      have hS0 : (fun w' : World => w'.cell? ⟨yb, 0, none⟩ = some (.int .i64 2) ∧ w'.cell? ⟨yb, 1, none⟩ = some (.int .i64 4) ∧ w'.cell? ⟨yb, 2, none⟩ = some (.int .i64 3) ∧ w'.cell? ⟨yb, 3, none⟩ = some (.int .i64 4) ∧ w'.cell? ⟨yb, 4, none⟩ = some (.int .i64 1) ∧ w'.cell? ⟨yb, 5, none⟩ = some (.int .i64 ((a0 : Int) + 1)) ∧ w'.cell? ⟨bb, 2, none⟩ = some (.int .u16 b2)) w16.drew := ⟨y0, y1, y2, y3, y4, y5, v2⟩
      clear u0 u1 u2 v0 v1 v2 x0 x1 x2 x3 x4 x5 y0 y1 y2 y3 y4 y5
      refine lin_start (S := (fun w' : World => w'.cell? ⟨yb, 0, none⟩ = some (.int .i64 2) ∧ w'.cell? ⟨yb, 1, none⟩ = some (.int .i64 4) ∧ w'.cell? ⟨yb, 2, none⟩ = some (.int .i64 3) ∧ w'.cell? ⟨yb, 3, none⟩ = some (.int .i64 4) ∧ w'.cell? ⟨yb, 4, none⟩ = some (.int .i64 1) ∧ w'.cell? ⟨yb, 5, none⟩ = some (.int .i64 ((a0 : Int) + 1)) ∧ w'.cell? ⟨bb, 2, none⟩ = some (.int .u16 b2))) rfl 13 rfl hS0 ?_
      simp only [numbered, Nat.zero_add, Nat.reduceAdd]
      refine lin_take (v := ?_) (by kernel_rfl) (by kernel_rfl) (fun _ _ _ h => h) (Or.inl ⟨by rfl, ?_⟩) (by assumption) ?_; (rotate_left; (intro wS hSw; (try dsimp only at hSw); go_simp; (try with_reducible rfl)); rotate_left); simp only [Act.put, List.setIfInBounds_toArray, List.set_cons_zero, List.set_cons_succ]
      refine lin_take (v := ?_) (by kernel_rfl) (by kernel_rfl) (fun _ _ _ h => h) (Or.inl ⟨by rfl, ?_⟩) (by assumption) ?_; (rotate_left; (intro wS hSw; (try dsimp only at hSw); go_simp; (try with_reducible rfl)); rotate_left); simp only [Act.put, List.setIfInBounds_toArray, List.set_cons_zero, List.set_cons_succ]
      refine lin_take (v := ?_) (by kernel_rfl) (by kernel_rfl) (fun _ _ _ h => h) (Or.inl ⟨by rfl, ?_⟩) (by assumption) ?_; (rotate_left; (intro wS hSw; (try dsimp only at hSw); go_simp; (try with_reducible rfl)); rotate_left); simp only [Act.put, List.setIfInBounds_toArray, List.set_cons_zero, List.set_cons_succ]
      refine lin_take (v := ?_) (by kernel_rfl) (by kernel_rfl) (fun _ _ _ h => h) (Or.inl ⟨by rfl, ?_⟩) (by assumption) ?_; (rotate_left; (intro wS hSw; (try dsimp only at hSw); go_simp; (try with_reducible rfl)); rotate_left); simp only [Act.put, List.setIfInBounds_toArray, List.set_cons_zero, List.set_cons_succ]
      refine lin_take (v := ?_) (by kernel_rfl) (by kernel_rfl) (fun _ _ _ h => h) (Or.inl ⟨by rfl, ?_⟩) (by assumption) ?_; (rotate_left; (intro wS hSw; (try dsimp only at hSw); go_simp; (try with_reducible rfl)); rotate_left); simp only [Act.put, List.setIfInBounds_toArray, List.set_cons_zero, List.set_cons_succ]
      refine lin_take (v := ?_) (by kernel_rfl) (by kernel_rfl) (fun _ _ _ h => h) (Or.inl ⟨by rfl, ?_⟩) (by assumption) ?_; (rotate_left; (intro wS hSw; (try dsimp only at hSw); go_simp; (try with_reducible rfl)); rotate_left); simp only [Act.put, List.setIfInBounds_toArray, List.set_cons_zero, List.set_cons_succ]
      refine lin_rot ?_; simp only [List.cons_append, List.nil_append]
      refine lin_take (v := ?_) (by kernel_rfl) (by kernel_rfl) (fun _ _ _ h => h) (Or.inl ⟨by rfl, ?_⟩) (by assumption) ?_; (rotate_left; (intro wS hSw; (try dsimp only at hSw); go_simp; (try with_reducible rfl)); rotate_left); simp only [Act.put, List.setIfInBounds_toArray, List.set_cons_zero, List.set_cons_succ]
      refine lin_take (v := ?_) (by kernel_rfl) (by kernel_rfl) (fun _ _ _ h => h) (Or.inl ⟨by rfl, ?_⟩) (by assumption) ?_; (rotate_left; (intro wS hSw; (try dsimp only at hSw); go_simp; (try with_reducible rfl)); rotate_left); simp only [Act.put, List.setIfInBounds_toArray, List.set_cons_zero, List.set_cons_succ]
      refine lin_take (v := ?_) (by kernel_rfl) (by kernel_rfl) (fun _ _ _ h => h) (Or.inl ⟨by rfl, ?_⟩) (by assumption) ?_; (rotate_left; (intro wS hSw; (try dsimp only at hSw); go_simp; (try with_reducible rfl)); rotate_left); simp only [Act.put, List.setIfInBounds_toArray, List.set_cons_zero, List.set_cons_succ]
      refine lin_rot ?_; simp only [List.cons_append, List.nil_append]
      refine lin_rot ?_; simp only [List.cons_append, List.nil_append]
      refine lin_rot ?_; simp only [List.cons_append, List.nil_append]
      refine lin_sole (by kernel_rfl) (fun K hK => ?_)
      go_simp
      refine (FR.out _ _ _ _ h17).mono ?_
      rintro e w18 ⟨rfl, h18⟩
      obtain ⟨⟨u0, u1, u2⟩, ⟨v0, v1, v2⟩, ⟨x0, x1, x2, x3, x4, x5⟩, ⟨y0, y1, y2, y3, y4, y5⟩⟩ := FA.out _ _ h18
      refine hK.out _ _ ?_ (fun hHeld => ?_)
      · exact ⟨y0, y1, y2, y3, y4, y5, v2⟩
      try simp only [Act.put, List.setIfInBounds_toArray, List.set_cons_zero, List.set_cons_succ]
      clear u0 u1 u2 v0 v1 v2 x0 x1 x2 x3 x4 x5 y0 y1 y2 y3 y4 y5
      refine lin_sole (by kernel_rfl) (fun K hK => ?_)
      go_simp
      refine (RO.out _ _ _ _ h18).mono ?_
      rintro e w19 ⟨rfl, h19⟩
      obtain ⟨⟨u0, u1, u2⟩, ⟨v0, v1, v2⟩, ⟨x0, x1, x2, x3, x4, x5⟩, ⟨y0, y1, y2, y3, y4, y5⟩⟩ := FA.out _ _ h19
      refine hK.out _ _ ?_ (fun hHeld => ?_)
      · exact ⟨y0, y1, y2, y3, y4, y5, v2⟩
      try simp only [Act.put, List.setIfInBounds_toArray, List.set_cons_zero, List.set_cons_succ]
      clear u0 u1 u2 v0 v1 v2 x0 x1 x2 x3 x4 x5 y0 y1 y2 y3 y4 y5
      refine lin_take (v := ?_) (by kernel_rfl) (by kernel_rfl) (fun _ _ _ h => h) (Or.inl ⟨by rfl, ?_⟩) (by assumption) ?_; (rotate_left; (intro wS hSw; (try dsimp only at hSw); go_simp; (try with_reducible rfl)); rotate_left); simp only [Act.put, List.setIfInBounds_toArray, List.set_cons_zero, List.set_cons_succ]
      refine lin_take (v := ?_) (by kernel_rfl) (by kernel_rfl) (fun _ _ _ h => h) (Or.inl ⟨by rfl, ?_⟩) (by assumption) ?_; (rotate_left; (intro wS hSw; (try dsimp only at hSw); go_simp; (try with_reducible rfl)); rotate_left); simp only [Act.put, List.setIfInBounds_toArray, List.set_cons_zero, List.set_cons_succ]
      refine lin_done (by kernel_rfl) ?_
      obtain ⟨⟨u0, u1, u2⟩, ⟨v0, v1, v2⟩, ⟨x0, x1, x2, x3, x4, x5⟩, ⟨y0, y1, y2, y3, y4, y5⟩⟩ := FA.out _ _ h19
      clear hS0 hHeld hwb
      go_wp2_with fail
      go_at_call 19
      refine (FX.out _ _ _ _ h19).mono ?_
      rintro e w20 ⟨rfl, h20⟩
      clear u0 u1 u2 v0 v1 v2 x0 x1 x2 x3 x4 x5 y0 y1 y2 y3 y4 y5
      obtain ⟨⟨u0, u1, u2⟩, ⟨v0, v1, v2⟩, ⟨x0, x1, x2, x3, x4, x5⟩, ⟨y0, y1, y2, y3, y4, y5⟩⟩ := FA.out _ _ h20
      go_wp2_with fail
      go_at_call 20
      refine (RX.out _ _ _ _ h20).mono ?_
      rintro e w21 ⟨rfl, h21⟩
      go_wp2_with fail
      go_ret
      exact ⟨rfl, h21.below⟩
  · have tne : TE ≠ TD := by
      rw [← hTE, ← hTD]
      intro e
      have := tok_eq (by omega) (by omega) (by omega) (by omega) (by omega) (by omega) e
      omega
    have tne2 : TA ≠ TB := by
      rw [← hTA, ← hTB]
      intro e
      have := tok_eq (by omega) (by omega) (by omega) (by omega) (by omega) (by omega) e
      omega
    have yE : m3.getD (B + 2) 0 ≠ TD := by
      rw [xE]
      split
      · exact tne
      · rw [if_neg (by omega)]; exact hTDp.symm
    have yB : m3.getD B 0 ≠ TB := by
      rw [xB]
      split
      · omega
      · split
        · exact tne2
        · exact hTBp.symm
    obtain ⟨VE, hVE⟩ : ∃ v, m3.getD (B + 2) 0 = v := ⟨_, rfl⟩
    rw [hVE] at yE
    obtain ⟨n5, hn5⟩ : ∃ m, m3.set A 0 = m := ⟨_, rfl⟩
    have k5 : n5.length = 88 := by rw [← hn5]; simp [l3]
    obtain ⟨n6, hn6⟩ : ∃ m, n5.set 17 0 = m := ⟨_, rfl⟩
    have q4 : n5.getD 17 0 = TE := by rw [← hn5, getD_set_other (by omega)]; exact xN
    have ED := Lib.hid (fun (w1 : World) (l : List Ast) (gs sb : Nat) (h : Own w w1 (storeA gs sb m3 :: l)) => r_ended h ok 1 ((b0 : Int) + 1) b1 (at_ := B + 2) ((wB 3).trans (by omega)) (by omega) TD VE hTD hVE false (by simp [yE]))
    have SP := Lib.hid (fun (w1 : World) (l : List Ast) (gs sb : Nat) (h : Own w w1 (storeA gs sb m3 :: l)) => r_sleeps h ok 1 ((b0 : Int) + 1) b1 (at_ := 17) nap17 (by omega) TD TE hTD xN false (by simp [tne]))
    have FR := Lib.hid (fun (w1 : World) (l : List Ast) (gs sb : Nat) (h : Own w w1 (storeA gs sb m3 :: l)) => r_free_no h ok 1 ((b0 : Int) + 1) b1 b2 (at_ := B) ((wB 1).trans (by omega)) (by omega) TB hTB yB)
    have RO := Lib.hid (fun (w1 : World) (l : List Ast) (gs sb : Nat) (h : Own w w1 (storeA gs sb m3 :: l)) => r_rouse_no h ok 1 ((b0 : Int) + 1) b1 (at_ := 17) nap17 (by omega) TD hTD (by rw [xN]; exact tne))
    have FX := Lib.hid (fun (w1 : World) (l : List Ast) (gs sb : Nat) (h : Own w w1 (storeA gs sb m3 :: l)) => r_free_yes h ok 1 ((a0 : Int) + 1) a1 a2 (at_ := A) ((wA 1).trans (by omega)) (by omega) TA hTA xA n5 hn5)
    have RX := Lib.hid (fun (w1 : World) (l : List Ast) (gs sb : Nat) (h : Own w w1 (storeA gs sb n5 :: l)) => r_rouse_yes h ok 1 ((a0 : Int) + 1) a1 (at_ := 17) nap17 (by omega) TE hTE q4 n6 hn6)
    by_cases s0 : a0 = b0
    · have s1 : ¬ a1 = b1 := fun h => same ⟨s0, h⟩
      subst s0
      have hs1 : ((a0 : Int) == (a0 : Int)) = true := by simp
      have hs2 : ((a1 : Int) == (b1 : Int)) = false := by simp; omega
      clear hA hB hTA hTE hTB hTD hm1 hm2 hm3 l1 l2 l3 hAb hBb G hTDp hTBp hTAp hTEp wA wB xE xN xB xA ok
      go_enter Try.func3, Try.ntmps3
      go_wp2_with fail
      have h0 := ((Own.nil (Below.refl w.heap.size w)).box #[.int .u16 a0, .int .u16 a1, .int .u16 a2] 23).box #[.int .u16 a0, .int .u16 b1, .int .u16 b2] 23
      rw [World.size_alloc] at h0
      generalize (w.alloc (.cells #[.int .u16 a0, .int .u16 a1, .int .u16 a2] 23)).alloc (.cells #[.int .u16 a0, .int .u16 b1, .int .u16 b2] 23) = t0 at *
      obtain ⟨ab, hab⟩ : ∃ ab, w.heap.size = ab := ⟨_, rfl⟩
      rw [hab] at h0 ⊢
      obtain ⟨bb, hbb⟩ : ∃ bb, ab + 1 = bb := ⟨_, rfl⟩
      rw [hbb] at h0 ⊢
      clear hab hbb
      go_at_call 9
      refine (works17_any _).mono ?_
      rintro e w1 ⟨rfl, hb1⟩
      have h1 := h0.grow hb1
      clear h0 hb1
      go_wp2_with fail
      go_at_call 10
      refine (PL.out _ _ h1).mono ?_
      rintro e w2 ⟨rfl, h2⟩
      clear h1
      have h3 := h2.box #[.int .i64 2, .int .i64 4, .int .i64 3, .int .i64 4] 26
      go_wp2_with fail
      generalize w2.alloc (.cells #[.int .i64 2, .int .i64 4, .int .i64 3, .int .i64 4] 26) = w3 at *
      generalize w2.heap.size = pb at *
      clear h2
      go_at_call 12
      refine (SZ.out _ _ h3).mono ?_
      rintro e w4 ⟨rfl, h4⟩
      clear h3
      go_wp2_with fail
      go_at_call 11
      refine (NW.out _ _ h4).mono ?_
      rintro e w5 ⟨rfl, h5⟩
      have h6 := h5.sel [3, 0, 1, 2] (by decide)
      clear h4 h5
      generalize w4.heap.size = sb at *
      obtain ⟨u0, u1, u2⟩ := cells3 1 h6 rfl
      obtain ⟨z0, z1, z2, z3⟩ := cells4 3 h6 rfl
      go_wp2_with fail
      go_at_call 13
      refine (RN.out _ _ _ h6).mono ?_
      rintro e w7 ⟨rfl, h7⟩
      have h8 := h7.box #[.int .i64 2, .int .i64 4, .int .i64 3, .int .i64 4, .int .i64 1, .int .i64 ((a0 : Int) + 1)] 32
      clear h6 u0 u1 u2 z0 z1 z2 z3
      obtain ⟨v0, v1, v2⟩ := cells3 2 h8 rfl
      obtain ⟨z0, z1, z2, z3⟩ := cells4 3 h8 rfl
      go_wp2_with fail
      generalize w7.alloc (.cells #[.int .i64 2, .int .i64 4, .int .i64 3, .int .i64 4, .int .i64 1, .int .i64 ((a0 : Int) + 1)] 32) = w8 at *
      generalize w7.heap.size = xb at *
      clear h7
      go_at_call 13
      refine (RN.out _ _ _ h8).mono ?_
      rintro e w9 ⟨rfl, h9⟩
      have h10 := h9.box #[.int .i64 2, .int .i64 4, .int .i64 3, .int .i64 4, .int .i64 1, .int .i64 ((a0 : Int) + 1)] 32
      clear h8 v0 v1 v2 z0 z1 z2 z3
      go_wp2_with fail
      generalize w9.alloc (.cells #[.int .i64 2, .int .i64 4, .int .i64 3, .int .i64 4, .int .i64 1, .int .i64 ((a0 : Int) + 1)] 32) = w10 at *
      generalize w9.heap.size = yb at *
      clear h9
      have FA := Lib.hid (fun (w1 : World) (ms : List Int) (h : Own w w1 (storeA (sb + 1) sb ms :: [cellsA ab #[.int .u16 a0, .int .u16 a1, .int .u16 a2] 23, cellsA bb #[.int .u16 a0, .int .u16 b1, .int .u16 b2] 23, cellsA pb #[.int .i64 2, .int .i64 4, .int .i64 3, .int .i64 4] 26, cellsA xb #[.int .i64 2, .int .i64 4, .int .i64 3, .int .i64 4, .int .i64 1, .int .i64 ((a0 : Int) + 1)] 32, cellsA yb #[.int .i64 2, .int .i64 4, .int .i64 3, .int .i64 4, .int .i64 1, .int .i64 ((a0 : Int) + 1)] 32])) => And.intro (cells3 1 h rfl) (And.intro (cells3 2 h rfl) (And.intro (cells6 4 h rfl) (cells6 5 h rfl))))
      obtain ⟨⟨u0, u1, u2⟩, ⟨v0, v1, v2⟩, ⟨x0, x1, x2, x3, x4, x5⟩, ⟨y0, y1, y2, y3, y4, y5⟩⟩ := FA.out _ _ h10
      go_quiet (fail)
      have h11 := h10.drewN nq
      generalize w10.drewN nq = w11 at *
      clear h10
      clear u0 u1 u2 v0 v1 v2 x0 x1 x2 x3 x4 x5 y0 y1 y2 y3 y4 y5
      obtain ⟨⟨u0, u1, u2⟩, ⟨v0, v1, v2⟩, ⟨x0, x1, x2, x3, x4, x5⟩, ⟨y0, y1, y2, y3, y4, y5⟩⟩ := FA.out _ _ h11
      go_wp2_with fail
      go_at_call 14
      refine (WT.out _ _ _ _ h11).mono ?_
      rintro e w12 ⟨rfl, h12⟩
      clear u0 u1 u2 v0 v1 v2 x0 x1 x2 x3 x4 x5 y0 y1 y2 y3 y4 y5
      obtain ⟨⟨u0, u1, u2⟩, ⟨v0, v1, v2⟩, ⟨x0, x1, x2, x3, x4, x5⟩, ⟨y0, y1, y2, y3, y4, y5⟩⟩ := FA.out _ _ h12
      go_wp2_with fail
      go_at_call 15
      refine (EN.out _ _ _ _ h12).mono ?_
      rintro e w13 ⟨rfl, h13⟩
      clear u0 u1 u2 v0 v1 v2 x0 x1 x2 x3 x4 x5 y0 y1 y2 y3 y4 y5
      obtain ⟨⟨u0, u1, u2⟩, ⟨v0, v1, v2⟩, ⟨x0, x1, x2, x3, x4, x5⟩, ⟨y0, y1, y2, y3, y4, y5⟩⟩ := FA.out _ _ h13
      go_wp2_with fail
      go_at_call 16
      refine (SL.out _ _ _ _ h13).mono ?_
      rintro e w14 ⟨rfl, h14⟩
      clear u0 u1 u2 v0 v1 v2 x0 x1 x2 x3 x4 x5 y0 y1 y2 y3 y4 y5
      obtain ⟨⟨u0, u1, u2⟩, ⟨v0, v1, v2⟩, ⟨x0, x1, x2, x3, x4, x5⟩, ⟨y0, y1, y2, y3, y4, y5⟩⟩ := FA.out _ _ h14
      go_wp2_with fail
      go_at_call 17
      refine (ED.out _ _ _ _ h14).mono ?_
      rintro e w15 ⟨rfl, h15⟩
      clear u0 u1 u2 v0 v1 v2 x0 x1 x2 x3 x4 x5 y0 y1 y2 y3 y4 y5
      obtain ⟨⟨u0, u1, u2⟩, ⟨v0, v1, v2⟩, ⟨x0, x1, x2, x3, x4, x5⟩, ⟨y0, y1, y2, y3, y4, y5⟩⟩ := FA.out _ _ h15
      go_wp2_with fail
      go_at_call 18
      refine (SP.out _ _ _ _ h15).mono ?_
      rintro e w16 ⟨rfl, h16⟩
      clear u0 u1 u2 v0 v1 v2 x0 x1 x2 x3 x4 x5 y0 y1 y2 y3 y4 y5
      obtain ⟨⟨u0, u1, u2⟩, ⟨v0, v1, v2⟩, ⟨x0, x1, x2, x3, x4, x5⟩, ⟨y0, y1, y2, y3, y4, y5⟩⟩ := FA.out _ _ h16
      go_wp2_with fail
      have hwb : IntKind.i64.wrap (b2 : Int) = (b2 : Int) := IntWalk.i64_in _ (by omega)
      have h17 := h16.drewN 1
      clear u0 u1 u2 v0 v1 v2 x0 x1 x2 x3 x4 x5 y0 y1 y2 y3 y4 y5
      obtain ⟨⟨u0, u1, u2⟩, ⟨v0, v1, v2⟩, ⟨x0, x1, x2, x3, x4, x5⟩, ⟨y0, y1, y2, y3, y4, y5⟩⟩ := FA.out _ _ h17
      have hS0 : (fun w' : World => w'.cell? ⟨yb, 0, none⟩ = some (.int .i64 2) ∧ w'.cell? ⟨yb, 1, none⟩ = some (.int .i64 4) ∧ w'.cell? ⟨yb, 2, none⟩ = some (.int .i64 3) ∧ w'.cell? ⟨yb, 3, none⟩ = some (.int .i64 4) ∧ w'.cell? ⟨yb, 4, none⟩ = some (.int .i64 1) ∧ w'.cell? ⟨yb, 5, none⟩ = some (.int .i64 ((a0 : Int) + 1)) ∧ w'.cell? ⟨bb, 2, none⟩ = some (.int .u16 b2)) w16.drew := ⟨y0, y1, y2, y3, y4, y5, v2⟩
      clear u0 u1 u2 v0 v1 v2 x0 x1 x2 x3 x4 x5 y0 y1 y2 y3 y4 y5
      refine lin_start (S := (fun w' : World => w'.cell? ⟨yb, 0, none⟩ = some (.int .i64 2) ∧ w'.cell? ⟨yb, 1, none⟩ = some (.int .i64 4) ∧ w'.cell? ⟨yb, 2, none⟩ = some (.int .i64 3) ∧ w'.cell? ⟨yb, 3, none⟩ = some (.int .i64 4) ∧ w'.cell? ⟨yb, 4, none⟩ = some (.int .i64 1) ∧ w'.cell? ⟨yb, 5, none⟩ = some (.int .i64 ((a0 : Int) + 1)) ∧ w'.cell? ⟨bb, 2, none⟩ = some (.int .u16 b2))) rfl 13 rfl hS0 ?_
      simp only [numbered, Nat.zero_add, Nat.reduceAdd]
      refine lin_take (v := ?_) (by kernel_rfl) (by kernel_rfl) (fun _ _ _ h => h) (Or.inl ⟨by rfl, ?_⟩) (by assumption) ?_; (rotate_left; (intro wS hSw; (try dsimp only at hSw); go_simp; (try with_reducible rfl)); rotate_left); simp only [Act.put, List.setIfInBounds_toArray, List.set_cons_zero, List.set_cons_succ]
      refine lin_take (v := ?_) (by kernel_rfl) (by kernel_rfl) (fun _ _ _ h => h) (Or.inl ⟨by rfl, ?_⟩) (by assumption) ?_; (rotate_left; (intro wS hSw; (try dsimp only at hSw); go_simp; (try with_reducible rfl)); rotate_left); simp only [Act.put, List.setIfInBounds_toArray, List.set_cons_zero, List.set_cons_succ]
      refine lin_take (v := ?_) (by kernel_rfl) (by kernel_rfl) (fun _ _ _ h => h) (Or.inl ⟨by rfl, ?_⟩) (by assumption) ?_; (rotate_left; (intro wS hSw; (try dsimp only at hSw); go_simp; (try with_reducible rfl)); rotate_left); simp only [Act.put, List.setIfInBounds_toArray, List.set_cons_zero, List.set_cons_succ]
      refine lin_take (v := ?_) (by kernel_rfl) (by kernel_rfl) (fun _ _ _ h => h) (Or.inl ⟨by rfl, ?_⟩) (by assumption) ?_; (rotate_left; (intro wS hSw; (try dsimp only at hSw); go_simp; (try with_reducible rfl)); rotate_left); simp only [Act.put, List.setIfInBounds_toArray, List.set_cons_zero, List.set_cons_succ]
      refine lin_take (v := ?_) (by kernel_rfl) (by kernel_rfl) (fun _ _ _ h => h) (Or.inl ⟨by rfl, ?_⟩) (by assumption) ?_; (rotate_left; (intro wS hSw; (try dsimp only at hSw); go_simp; (try with_reducible rfl)); rotate_left); simp only [Act.put, List.setIfInBounds_toArray, List.set_cons_zero, List.set_cons_succ]
      refine lin_take (v := ?_) (by kernel_rfl) (by kernel_rfl) (fun _ _ _ h => h) (Or.inl ⟨by rfl, ?_⟩) (by assumption) ?_; (rotate_left; (intro wS hSw; (try dsimp only at hSw); go_simp; (try with_reducible rfl)); rotate_left); simp only [Act.put, List.setIfInBounds_toArray, List.set_cons_zero, List.set_cons_succ]
      refine lin_rot ?_; simp only [List.cons_append, List.nil_append]
      refine lin_take (v := ?_) (by kernel_rfl) (by kernel_rfl) (fun _ _ _ h => h) (Or.inl ⟨by rfl, ?_⟩) (by assumption) ?_; (rotate_left; (intro wS hSw; (try dsimp only at hSw); go_simp; (try with_reducible rfl)); rotate_left); simp only [Act.put, List.setIfInBounds_toArray, List.set_cons_zero, List.set_cons_succ]
      refine lin_take (v := ?_) (by kernel_rfl) (by kernel_rfl) (fun _ _ _ h => h) (Or.inl ⟨by rfl, ?_⟩) (by assumption) ?_; (rotate_left; (intro wS hSw; (try dsimp only at hSw); go_simp; (try with_reducible rfl)); rotate_left); simp only [Act.put, List.setIfInBounds_toArray, List.set_cons_zero, List.set_cons_succ]
      refine lin_take (v := ?_) (by kernel_rfl) (by kernel_rfl) (fun _ _ _ h => h) (Or.inl ⟨by rfl, ?_⟩) (by assumption) ?_; (rotate_left; (intro wS hSw; (try dsimp only at hSw); go_simp; (try with_reducible rfl)); rotate_left); simp only [Act.put, List.setIfInBounds_toArray, List.set_cons_zero, List.set_cons_succ]
      refine lin_rot ?_; simp only [List.cons_append, List.nil_append]
      refine lin_rot ?_; simp only [List.cons_append, List.nil_append]
      refine lin_rot ?_; simp only [List.cons_append, List.nil_append]
      refine lin_sole (by kernel_rfl) (fun K hK => ?_)
      go_simp
      refine (FR.out _ _ _ _ h17).mono ?_
      rintro e w18 ⟨rfl, h18⟩
      obtain ⟨⟨u0, u1, u2⟩, ⟨v0, v1, v2⟩, ⟨x0, x1, x2, x3, x4, x5⟩, ⟨y0, y1, y2, y3, y4, y5⟩⟩ := FA.out _ _ h18
      refine hK.out _ _ ?_ (fun hHeld => ?_)
      · exact ⟨y0, y1, y2, y3, y4, y5, v2⟩
      try simp only [Act.put, List.setIfInBounds_toArray, List.set_cons_zero, List.set_cons_succ]
      clear u0 u1 u2 v0 v1 v2 x0 x1 x2 x3 x4 x5 y0 y1 y2 y3 y4 y5
      refine lin_sole (by kernel_rfl) (fun K hK => ?_)
      go_simp
      refine (RO.out _ _ _ _ h18).mono ?_
      rintro e w19 ⟨rfl, h19⟩
      obtain ⟨⟨u0, u1, u2⟩, ⟨v0, v1, v2⟩, ⟨x0, x1, x2, x3, x4, x5⟩, ⟨y0, y1, y2, y3, y4, y5⟩⟩ := FA.out _ _ h19
      refine hK.out _ _ ?_ (fun hHeld => ?_)
      · exact ⟨y0, y1, y2, y3, y4, y5, v2⟩
      try simp only [Act.put, List.setIfInBounds_toArray, List.set_cons_zero, List.set_cons_succ]
      clear u0 u1 u2 v0 v1 v2 x0 x1 x2 x3 x4 x5 y0 y1 y2 y3 y4 y5
      refine lin_take (v := ?_) (by kernel_rfl) (by kernel_rfl) (fun _ _ _ h => h) (Or.inl ⟨by rfl, ?_⟩) (by assumption) ?_; (rotate_left; (intro wS hSw; (try dsimp only at hSw); go_simp; (try with_reducible rfl)); rotate_left); simp only [Act.put, List.setIfInBounds_toArray, List.set_cons_zero, List.set_cons_succ]
      refine lin_take (v := ?_) (by kernel_rfl) (by kernel_rfl) (fun _ _ _ h => h) (Or.inl ⟨by rfl, ?_⟩) (by assumption) ?_; (rotate_left; (intro wS hSw; (try dsimp only at hSw); go_simp; (try with_reducible rfl)); rotate_left); simp only [Act.put, List.setIfInBounds_toArray, List.set_cons_zero, List.set_cons_succ]
      refine lin_done (by kernel_rfl) ?_
      obtain ⟨⟨u0, u1, u2⟩, ⟨v0, v1, v2⟩, ⟨x0, x1, x2, x3, x4, x5⟩, ⟨y0, y1, y2, y3, y4, y5⟩⟩ := FA.out _ _ h19
      clear hS0 hHeld hwb
      go_wp2_with fail
      go_at_call 19
      refine (FX.out _ _ _ _ h19).mono ?_
      rintro e w20 ⟨rfl, h20⟩
      clear u0 u1 u2 v0 v1 v2 x0 x1 x2 x3 x4 x5 y0 y1 y2 y3 y4 y5
      obtain ⟨⟨u0, u1, u2⟩, ⟨v0, v1, v2⟩, ⟨x0, x1, x2, x3, x4, x5⟩, ⟨y0, y1, y2, y3, y4, y5⟩⟩ := FA.out _ _ h20
      go_wp2_with fail
      go_at_call 20
      refine (RX.out _ _ _ _ h20).mono ?_
      rintro e w21 ⟨rfl, h21⟩
      go_wp2_with fail
      go_ret
      exact ⟨rfl, h21.below⟩
    · have hs1 : ((a0 : Int) == (b0 : Int)) = false := by simp; omega
      clear hA hB hTA hTE hTB hTD hm1 hm2 hm3 l1 l2 l3 hAb hBb G hTDp hTBp hTAp hTEp wA wB xE xN xB xA ok
      go_enter Try.func3, Try.ntmps3
      go_wp2_with fail
      have h0 := ((Own.nil (Below.refl w.heap.size w)).box #[.int .u16 a0, .int .u16 a1, .int .u16 a2] 23).box #[.int .u16 b0, .int .u16 b1, .int .u16 b2] 23
      rw [World.size_alloc] at h0
      generalize (w.alloc (.cells #[.int .u16 a0, .int .u16 a1, .int .u16 a2] 23)).alloc (.cells #[.int .u16 b0, .int .u16 b1, .int .u16 b2] 23) = t0 at *
      obtain ⟨ab, hab⟩ : ∃ ab, w.heap.size = ab := ⟨_, rfl⟩
      rw [hab] at h0 ⊢
      obtain ⟨bb, hbb⟩ : ∃ bb, ab + 1 = bb := ⟨_, rfl⟩
      rw [hbb] at h0 ⊢
      clear hab hbb
      go_at_call 9
      refine (works17_any _).mono ?_
      rintro e w1 ⟨rfl, hb1⟩
      have h1 := h0.grow hb1
      clear h0 hb1
      go_wp2_with fail
      go_at_call 10
      refine (PL.out _ _ h1).mono ?_
      rintro e w2 ⟨rfl, h2⟩
      clear h1
      have h3 := h2.box #[.int .i64 2, .int .i64 4, .int .i64 3, .int .i64 4] 26
      go_wp2_with fail
      generalize w2.alloc (.cells #[.int .i64 2, .int .i64 4, .int .i64 3, .int .i64 4] 26) = w3 at *
      generalize w2.heap.size = pb at *
      clear h2
      go_at_call 12
      refine (SZ.out _ _ h3).mono ?_
      rintro e w4 ⟨rfl, h4⟩
      clear h3
      go_wp2_with fail
      go_at_call 11
      refine (NW.out _ _ h4).mono ?_
      rintro e w5 ⟨rfl, h5⟩
      have h6 := h5.sel [3, 0, 1, 2] (by decide)
      clear h4 h5
      generalize w4.heap.size = sb at *
      obtain ⟨u0, u1, u2⟩ := cells3 1 h6 rfl
      obtain ⟨z0, z1, z2, z3⟩ := cells4 3 h6 rfl
      go_wp2_with fail
      go_at_call 13
      refine (RN.out _ _ _ h6).mono ?_
      rintro e w7 ⟨rfl, h7⟩
      have h8 := h7.box #[.int .i64 2, .int .i64 4, .int .i64 3, .int .i64 4, .int .i64 1, .int .i64 ((a0 : Int) + 1)] 32
      clear h6 u0 u1 u2 z0 z1 z2 z3
      obtain ⟨v0, v1, v2⟩ := cells3 2 h8 rfl
      obtain ⟨z0, z1, z2, z3⟩ := cells4 3 h8 rfl
      go_wp2_with fail
      generalize w7.alloc (.cells #[.int .i64 2, .int .i64 4, .int .i64 3, .int .i64 4, .int .i64 1, .int .i64 ((a0 : Int) + 1)] 32) = w8 at *
      generalize w7.heap.size = xb at *
      clear h7
      go_at_call 13
      refine (RN.out _ _ _ h8).mono ?_
      rintro e w9 ⟨rfl, h9⟩
      have h10 := h9.box #[.int .i64 2, .int .i64 4, .int .i64 3, .int .i64 4, .int .i64 1, .int .i64 ((b0 : Int) + 1)] 32
      clear h8 v0 v1 v2 z0 z1 z2 z3
      go_wp2_with fail
      generalize w9.alloc (.cells #[.int .i64 2, .int .i64 4, .int .i64 3, .int .i64 4, .int .i64 1, .int .i64 ((b0 : Int) + 1)] 32) = w10 at *
      generalize w9.heap.size = yb at *
      clear h9
      have FA := Lib.hid (fun (w1 : World) (ms : List Int) (h : Own w w1 (storeA (sb + 1) sb ms :: [cellsA ab #[.int .u16 a0, .int .u16 a1, .int .u16 a2] 23, cellsA bb #[.int .u16 b0, .int .u16 b1, .int .u16 b2] 23, cellsA pb #[.int .i64 2, .int .i64 4, .int .i64 3, .int .i64 4] 26, cellsA xb #[.int .i64 2, .int .i64 4, .int .i64 3, .int .i64 4, .int .i64 1, .int .i64 ((a0 : Int) + 1)] 32, cellsA yb #[.int .i64 2, .int .i64 4, .int .i64 3, .int .i64 4, .int .i64 1, .int .i64 ((b0 : Int) + 1)] 32])) => And.intro (cells3 1 h rfl) (And.intro (cells3 2 h rfl) (And.intro (cells6 4 h rfl) (cells6 5 h rfl))))
      obtain ⟨⟨u0, u1, u2⟩, ⟨v0, v1, v2⟩, ⟨x0, x1, x2, x3, x4, x5⟩, ⟨y0, y1, y2, y3, y4, y5⟩⟩ := FA.out _ _ h10
      go_quiet (fail)
      have h11 := h10.drewN nq
      generalize w10.drewN nq = w11 at *
      clear h10
      clear u0 u1 u2 v0 v1 v2 x0 x1 x2 x3 x4 x5 y0 y1 y2 y3 y4 y5
      obtain ⟨⟨u0, u1, u2⟩, ⟨v0, v1, v2⟩, ⟨x0, x1, x2, x3, x4, x5⟩, ⟨y0, y1, y2, y3, y4, y5⟩⟩ := FA.out _ _ h11
      go_wp2_with fail
      go_at_call 14
      refine (WT.out _ _ _ _ h11).mono ?_
      rintro e w12 ⟨rfl, h12⟩
      clear u0 u1 u2 v0 v1 v2 x0 x1 x2 x3 x4 x5 y0 y1 y2 y3 y4 y5
      obtain ⟨⟨u0, u1, u2⟩, ⟨v0, v1, v2⟩, ⟨x0, x1, x2, x3, x4, x5⟩, ⟨y0, y1, y2, y3, y4, y5⟩⟩ := FA.out _ _ h12
      go_wp2_with fail
      go_at_call 15
      refine (EN.out _ _ _ _ h12).mono ?_
      rintro e w13 ⟨rfl, h13⟩
      clear u0 u1 u2 v0 v1 v2 x0 x1 x2 x3 x4 x5 y0 y1 y2 y3 y4 y5
      obtain ⟨⟨u0, u1, u2⟩, ⟨v0, v1, v2⟩, ⟨x0, x1, x2, x3, x4, x5⟩, ⟨y0, y1, y2, y3, y4, y5⟩⟩ := FA.out _ _ h13
      go_wp2_with fail
      go_at_call 16
      refine (SL.out _ _ _ _ h13).mono ?_
      rintro e w14 ⟨rfl, h14⟩
      clear u0 u1 u2 v0 v1 v2 x0 x1 x2 x3 x4 x5 y0 y1 y2 y3 y4 y5
      obtain ⟨⟨u0, u1, u2⟩, ⟨v0, v1, v2⟩, ⟨x0, x1, x2, x3, x4, x5⟩, ⟨y0, y1, y2, y3, y4, y5⟩⟩ := FA.out _ _ h14
      go_wp2_with fail
      go_at_call 17
      refine (ED.out _ _ _ _ h14).mono ?_
      rintro e w15 ⟨rfl, h15⟩
      clear u0 u1 u2 v0 v1 v2 x0 x1 x2 x3 x4 x5 y0 y1 y2 y3 y4 y5
      obtain ⟨⟨u0, u1, u2⟩, ⟨v0, v1, v2⟩, ⟨x0, x1, x2, x3, x4, x5⟩, ⟨y0, y1, y2, y3, y4, y5⟩⟩ := FA.out _ _ h15
      go_wp2_with fail
      go_at_call 18
      refine (SP.out _ _ _ _ h15).mono ?_
      rintro e w16 ⟨rfl, h16⟩
      clear u0 u1 u2 v0 v1 v2 x0 x1 x2 x3 x4 x5 y0 y1 y2 y3 y4 y5
      obtain ⟨⟨u0, u1, u2⟩, ⟨v0, v1, v2⟩, ⟨x0, x1, x2, x3, x4, x5⟩, ⟨y0, y1, y2, y3, y4, y5⟩⟩ := FA.out _ _ h16
      go_wp2_with fail
      have hwb : IntKind.i64.wrap (b2 : Int) = (b2 : Int) := IntWalk.i64_in _ (by omega)
      have h17 := h16.drewN 1
      clear u0 u1 u2 v0 v1 v2 x0 x1 x2 x3 x4 x5 y0 y1 y2 y3 y4 y5
      obtain ⟨⟨u0, u1, u2⟩, ⟨v0, v1, v2⟩, ⟨x0, x1, x2, x3, x4, x5⟩, ⟨y0, y1, y2, y3, y4, y5⟩⟩ := FA.out _ _ h17
      have hS0 : (fun w' : World => w'.cell? ⟨yb, 0, none⟩ = some (.int .i64 2) ∧ w'.cell? ⟨yb, 1, none⟩ = some (.int .i64 4) ∧ w'.cell? ⟨yb, 2, none⟩ = some (.int .i64 3) ∧ w'.cell? ⟨yb, 3, none⟩ = some (.int .i64 4) ∧ w'.cell? ⟨yb, 4, none⟩ = some (.int .i64 1) ∧ w'.cell? ⟨yb, 5, none⟩ = some (.int .i64 ((b0 : Int) + 1)) ∧ w'.cell? ⟨bb, 2, none⟩ = some (.int .u16 b2)) w16.drew := ⟨y0, y1, y2, y3, y4, y5, v2⟩
      clear u0 u1 u2 v0 v1 v2 x0 x1 x2 x3 x4 x5 y0 y1 y2 y3 y4 y5
      refine lin_start (S := (fun w' : World => w'.cell? ⟨yb, 0, none⟩ = some (.int .i64 2) ∧ w'.cell? ⟨yb, 1, none⟩ = some (.int .i64 4) ∧ w'.cell? ⟨yb, 2, none⟩ = some (.int .i64 3) ∧ w'.cell? ⟨yb, 3, none⟩ = some (.int .i64 4) ∧ w'.cell? ⟨yb, 4, none⟩ = some (.int .i64 1) ∧ w'.cell? ⟨yb, 5, none⟩ = some (.int .i64 ((b0 : Int) + 1)) ∧ w'.cell? ⟨bb, 2, none⟩ = some (.int .u16 b2))) rfl 13 rfl hS0 ?_
      simp only [numbered, Nat.zero_add, Nat.reduceAdd]
      refine lin_take (v := ?_) (by kernel_rfl) (by kernel_rfl) (fun _ _ _ h => h) (Or.inl ⟨by rfl, ?_⟩) (by assumption) ?_; (rotate_left; (intro wS hSw; (try dsimp only at hSw); go_simp; (try with_reducible rfl)); rotate_left); simp only [Act.put, List.setIfInBounds_toArray, List.set_cons_zero, List.set_cons_succ]
      refine lin_take (v := ?_) (by kernel_rfl) (by kernel_rfl) (fun _ _ _ h => h) (Or.inl ⟨by rfl, ?_⟩) (by assumption) ?_; (rotate_left; (intro wS hSw; (try dsimp only at hSw); go_simp; (try with_reducible rfl)); rotate_left); simp only [Act.put, List.setIfInBounds_toArray, List.set_cons_zero, List.set_cons_succ]
      refine lin_take (v := ?_) (by kernel_rfl) (by kernel_rfl) (fun _ _ _ h => h) (Or.inl ⟨by rfl, ?_⟩) (by assumption) ?_; (rotate_left; (intro wS hSw; (try dsimp only at hSw); go_simp; (try with_reducible rfl)); rotate_left); simp only [Act.put, List.setIfInBounds_toArray, List.set_cons_zero, List.set_cons_succ]
      refine lin_take (v := ?_) (by kernel_rfl) (by kernel_rfl) (fun _ _ _ h => h) (Or.inl ⟨by rfl, ?_⟩) (by assumption) ?_; (rotate_left; (intro wS hSw; (try dsimp only at hSw); go_simp; (try with_reducible rfl)); rotate_left); simp only [Act.put, List.setIfInBounds_toArray, List.set_cons_zero, List.set_cons_succ]
      refine lin_take (v := ?_) (by kernel_rfl) (by kernel_rfl) (fun _ _ _ h => h) (Or.inl ⟨by rfl, ?_⟩) (by assumption) ?_; (rotate_left; (intro wS hSw; (try dsimp only at hSw); go_simp; (try with_reducible rfl)); rotate_left); simp only [Act.put, List.setIfInBounds_toArray, List.set_cons_zero, List.set_cons_succ]
      refine lin_take (v := ?_) (by kernel_rfl) (by kernel_rfl) (fun _ _ _ h => h) (Or.inl ⟨by rfl, ?_⟩) (by assumption) ?_; (rotate_left; (intro wS hSw; (try dsimp only at hSw); go_simp; (try with_reducible rfl)); rotate_left); simp only [Act.put, List.setIfInBounds_toArray, List.set_cons_zero, List.set_cons_succ]
      refine lin_rot ?_; simp only [List.cons_append, List.nil_append]
      refine lin_take (v := ?_) (by kernel_rfl) (by kernel_rfl) (fun _ _ _ h => h) (Or.inl ⟨by rfl, ?_⟩) (by assumption) ?_; (rotate_left; (intro wS hSw; (try dsimp only at hSw); go_simp; (try with_reducible rfl)); rotate_left); simp only [Act.put, List.setIfInBounds_toArray, List.set_cons_zero, List.set_cons_succ]
      refine lin_take (v := ?_) (by kernel_rfl) (by kernel_rfl) (fun _ _ _ h => h) (Or.inl ⟨by rfl, ?_⟩) (by assumption) ?_; (rotate_left; (intro wS hSw; (try dsimp only at hSw); go_simp; (try with_reducible rfl)); rotate_left); simp only [Act.put, List.setIfInBounds_toArray, List.set_cons_zero, List.set_cons_succ]
      refine lin_take (v := ?_) (by kernel_rfl) (by kernel_rfl) (fun _ _ _ h => h) (Or.inl ⟨by rfl, ?_⟩) (by assumption) ?_; (rotate_left; (intro wS hSw; (try dsimp only at hSw); go_simp; (try with_reducible rfl)); rotate_left); simp only [Act.put, List.setIfInBounds_toArray, List.set_cons_zero, List.set_cons_succ]
      refine lin_rot ?_; simp only [List.cons_append, List.nil_append]
      refine lin_rot ?_; simp only [List.cons_append, List.nil_append]
      refine lin_rot ?_; simp only [List.cons_append, List.nil_append]
      refine lin_sole (by kernel_rfl) (fun K hK => ?_)
      go_simp
      refine (FR.out _ _ _ _ h17).mono ?_
      rintro e w18 ⟨rfl, h18⟩
      obtain ⟨⟨u0, u1, u2⟩, ⟨v0, v1, v2⟩, ⟨x0, x1, x2, x3, x4, x5⟩, ⟨y0, y1, y2, y3, y4, y5⟩⟩ := FA.out _ _ h18
      refine hK.out _ _ ?_ (fun hHeld => ?_)
      · exact ⟨y0, y1, y2, y3, y4, y5, v2⟩
      try simp only [Act.put, List.setIfInBounds_toArray, List.set_cons_zero, List.set_cons_succ]
      clear u0 u1 u2 v0 v1 v2 x0 x1 x2 x3 x4 x5 y0 y1 y2 y3 y4 y5
      refine lin_sole (by kernel_rfl) (fun K hK => ?_)
      go_simp
      refine (RO.out _ _ _ _ h18).mono ?_
      rintro e w19 ⟨rfl, h19⟩
      obtain ⟨⟨u0, u1, u2⟩, ⟨v0, v1, v2⟩, ⟨x0, x1, x2, x3, x4, x5⟩, ⟨y0, y1, y2, y3, y4, y5⟩⟩ := FA.out _ _ h19
      refine hK.out _ _ ?_ (fun hHeld => ?_)
      · exact ⟨y0, y1, y2, y3, y4, y5, v2⟩
      try simp only [Act.put, List.setIfInBounds_toArray, List.set_cons_zero, List.set_cons_succ]
      clear u0 u1 u2 v0 v1 v2 x0 x1 x2 x3 x4 x5 y0 y1 y2 y3 y4 y5
      refine lin_take (v := ?_) (by kernel_rfl) (by kernel_rfl) (fun _ _ _ h => h) (Or.inl ⟨by rfl, ?_⟩) (by assumption) ?_; (rotate_left; (intro wS hSw; (try dsimp only at hSw); go_simp; (try with_reducible rfl)); rotate_left); simp only [Act.put, List.setIfInBounds_toArray, List.set_cons_zero, List.set_cons_succ]
      refine lin_take (v := ?_) (by kernel_rfl) (by kernel_rfl) (fun _ _ _ h => h) (Or.inl ⟨by rfl, ?_⟩) (by assumption) ?_; (rotate_left; (intro wS hSw; (try dsimp only at hSw); go_simp; (try with_reducible rfl)); rotate_left); simp only [Act.put, List.setIfInBounds_toArray, List.set_cons_zero, List.set_cons_succ]
      refine lin_done (by kernel_rfl) ?_
      obtain ⟨⟨u0, u1, u2⟩, ⟨v0, v1, v2⟩, ⟨x0, x1, x2, x3, x4, x5⟩, ⟨y0, y1, y2, y3, y4, y5⟩⟩ := FA.out _ _ h19
      clear hS0 hHeld hwb
      go_wp2_with fail
      go_at_call 19
      refine (FX.out _ _ _ _ h19).mono ?_
      rintro e w20 ⟨rfl, h20⟩
      clear u0 u1 u2 v0 v1 v2 x0 x1 x2 x3 x4 x5 y0 y1 y2 y3 y4 y5
      obtain ⟨⟨u0, u1, u2⟩, ⟨v0, v1, v2⟩, ⟨x0, x1, x2, x3, x4, x5⟩, ⟨y0, y1, y2, y3, y4, y5⟩⟩ := FA.out _ _ h20
      go_wp2_with fail
      go_at_call 20
      refine (RX.out _ _ _ _ h20).mono ?_
      rintro e w21 ⟨rfl, h21⟩
      go_wp2_with fail
      go_ret
      exact ⟨rfl, h21.below⟩
theorem walkRingOwn (v0 v1 : Value) (w : World) (h0 : Arg Try.prog w 23 v0) (h1 : Arg Try.prog w 23 v1) :
    Calls Try.prog 3 #[v0, v1] w fun e w' => e = .returned (.bool true) ∧ Below w.heap.size w w' := by
  have key : ∀ v, Arg Try.prog w 23 v → ∃ a b c : Nat, v = .agg #[.int .u16 a, .int .u16 b, .int .u16 c] ∧ a ≤ 65535 ∧ b ≤ 65535 ∧ c ≤ 65535 := by
    intro v h
    obtain ⟨xs, hcs, hl, hwf⟩ := h.reads.intArray 3 Try.underlying23 Try.underlying22 (by kernel_rfl) (by kernel_rfl)
    match xs, hl with
    | [x, y, z], _ =>
      obtain ⟨cs, rfl, hsz⟩ := agg_of (v := v) (n := 3) (by rw [hcs]; rfl) (by decide)
      have hx := hwf 0 (by omega)
      have hy := hwf 1 (by omega)
      have hz := hwf 2 (by omega)
      simp [Lit.wf, IntKind.min, IntKind.max, IntKind.signed, IntKind.bits] at hx hy hz
      refine ⟨x.toNat, y.toNat, z.toNat, ?_, by omega, by omega, by omega⟩
      have e : cs = #[.int .u16 x, .int .u16 y, .int .u16 z] := by
        apply Array.toList_inj.1
        simpa [Value.cells] using hcs
      rw [e, Int.toNat_of_nonneg hx.1, Int.toNat_of_nonneg hy.1, Int.toNat_of_nonneg hz.1]
  obtain ⟨a0, a1, a2, rfl, p0, p1, p2⟩ := key v0 h0
  obtain ⟨b0, b1, b2, rfl, q0, q1, q2⟩ := key v1 h1
  exact rown_core a0 a1 a2 b0 b1 b2 w p0 p1 p2 q0 q1 q2
end Go.Proofs.Ytooofpplhedgcaa
