/- The walk through the law ThrottleOnce. -/
import Derived.Test.YtooofpplhedgcaaThrottleMayWalk
import Derived.Deep.Cut
import Derived.Deep.CutRange
import Derived.Deep.CutBlock
set_option linter.unusedVariables false
set_option linter.unusedSimpArgs false
namespace Go.Proofs.Ytooofpplhedgcaa
open Go.RowKit
theorem zero_of (n j : Nat) : (List.replicate n (0 : Int)).getD j 0 = 0 := by
  rw [List.getD_eq_getElem?_getD, List.getElem?_replicate]; split <;> rfl
/-- The states that the two walks reach together: the loop's, the iteration's, and whether the frame's word says that the loop sleeps. -/
def reach (P Q : Nat) (nw : Bool) : Bool := Nat.testBit 78493566015618749509 (P * 10 + Q * 2 + nw.toNat)
structure OSt (P Q : Nat) (nw lk sl ov td : Bool) (G : Nat) : Prop where
  pb : P ≤ 6
  qb : Q ≤ 4
  lk : lk = decide (P ≠ 0)
  sl : sl = decide (1 ≤ P ∧ P ≤ 3)
  ov : ov = decide (3 ≤ Q)
  td : td = decide (1 ≤ Q)
  g : G = (if P = 5 ∨ P = 6 then 1 else 0) + (if Q = 4 then 1 else 0)
  r : reach P Q nw = true
theorem reach_once : ∀ P, P < 7 → ∀ Q, Q < 5 → ∀ nw : Bool, reach P Q nw = true → ((if P = 5 ∨ P = 6 then 1 else 0) + (if Q = 4 then 1 else 0) = 0 ∨ ((if P = 5 ∨ P = 6 then 1 else 0) + (if Q = 4 then 1 else 0) = 1 ∧ 1 ≤ Q)) := by decide
theorem reach_end : ∀ P, P < 7 → ∀ Q, Q < 5 → ∀ nw : Bool, 4 ≤ P → 3 ≤ Q → reach P Q nw = true → (if P = 5 ∨ P = 6 then 1 else 0) + (if Q = 4 then 1 else 0) = 1 := by decide
theorem OSt.once {P Q G : Nat} {nw lk sl ov td : Bool} (h : OSt P Q nw lk sl ov td G) : G = 0 ∨ G = 1 ∧ td = true := by
  rcases reach_once P (by have := h.pb; omega) Q (by have := h.qb; omega) nw h.r with h1 | ⟨h1, h2⟩
  · exact .inl (h.g.trans h1)
  · exact .inr ⟨h.g.trans h1, by rw [h.td]; simp [h2]⟩
theorem OSt.done {P Q G : Nat} {nw lk sl ov td : Bool} (h : OSt P Q nw lk sl ov td G) (hp : 4 ≤ P) (hq : 3 ≤ Q) : G = 1 ∧ lk = true ∧ ov = true :=
  ⟨h.g.trans (reach_end P (by have := h.pb; omega) Q (by have := h.qb; omega) nw hp hq h.r), by rw [h.lk]; simp; omega, by rw [h.ov]; simp [hq]⟩
structure MemOK (T : Int) (E N : Nat) (ms : List Int) (Q : Nat) (nw : Bool) : Prop where
  len : ms.length = 34
  e : ms.getD E 0 = if 1 ≤ Q then T else 0
  n : ms.getD N 0 = if nw = true then T else 0
theorem rc_p0e : ∀ Q, Q < 5 → ∀ nw : Bool, 1 ≤ Q → reach 0 Q nw = true → reach 6 Q nw = true := by decide
theorem rc_p0 : ∀ Q, Q < 5 → ∀ nw : Bool, ¬ 1 ≤ Q → reach 0 Q nw = true → reach 1 Q nw = true := by decide
theorem rc_p1 : ∀ Q, Q < 5 → ∀ nw : Bool, reach 1 Q nw = true → reach 2 Q true = true := by decide
theorem rc_p2e : ∀ Q, Q < 5 → ∀ nw : Bool, 1 ≤ Q → reach 2 Q nw = true → reach 3 Q nw = true := by decide
theorem rc_p2 : ∀ Q, Q < 5 → ∀ nw : Bool, ¬ 1 ≤ Q → reach 2 Q nw = true → reach 4 Q nw = true := by decide
theorem rc_p3y : ∀ Q, Q < 5 → ∀ nw : Bool, nw = true → reach 3 Q nw = true → reach 5 Q false = true := by decide
theorem rc_p3n : ∀ Q, Q < 5 → ∀ nw : Bool, nw = false → reach 3 Q nw = true → reach 4 Q false = true := by decide
theorem rc_q0 : ∀ P, P < 7 → ∀ nw : Bool, reach P 0 nw = true → reach P 1 nw = true := by decide
theorem rc_q1y : ∀ P, P < 7 → ∀ nw : Bool, nw = true → reach P 1 nw = true → reach P 2 true = true := by decide
theorem rc_q1n : ∀ P, P < 7 → ∀ nw : Bool, nw = false → reach P 1 nw = true → reach P 3 false = true := by decide
theorem rc_q2y : ∀ P, P < 7 → ∀ nw : Bool, nw = true → reach P 2 nw = true → reach P 4 false = true := by decide
theorem rc_q2n : ∀ P, P < 7 → ∀ nw : Bool, nw = false → reach P 2 nw = true → reach P 3 false = true := by decide
/-- The cells of the loop's walk, and of the iteration's. -/
def napC (it : Int) : Nat → Array Value
  | 0 => #[.int .i64 1, .int .i64 2, .int .i64 2, .int .i64 2, .int .i64 2, .int .i64 5, .int .i64 it, .int .i64 0, .bool false, .bool false]
  | 1 => #[.int .i64 1, .int .i64 2, .int .i64 2, .int .i64 2, .int .i64 2, .int .i64 5, .int .i64 it, .int .i64 0, .bool false, .bool false]
  | 2 => #[.int .i64 1, .int .i64 2, .int .i64 2, .int .i64 2, .int .i64 2, .int .i64 5, .int .i64 it, .int .i64 1, .bool false, .bool false]
  | 3 => #[.int .i64 1, .int .i64 2, .int .i64 2, .int .i64 2, .int .i64 2, .int .i64 5, .int .i64 it, .int .i64 2, .bool false, .bool false]
  | 4 => #[.int .i64 1, .int .i64 2, .int .i64 2, .int .i64 2, .int .i64 2, .int .i64 5, .int .i64 it, .int .i64 2, .bool true, .bool false]
  | 5 => #[.int .i64 1, .int .i64 2, .int .i64 2, .int .i64 2, .int .i64 2, .int .i64 5, .int .i64 it, .int .i64 2, .bool true, .bool true]
  | _ => #[.int .i64 1, .int .i64 2, .int .i64 2, .int .i64 2, .int .i64 2, .int .i64 5, .int .i64 it, .int .i64 0, .bool false, .bool false]
def wakC (it : Int) : Nat → Array Value
  | 0 => #[.int .i64 1, .int .i64 2, .int .i64 2, .int .i64 2, .int .i64 2, .int .i64 5, .int .i64 it, .int .i64 0, .bool false, .bool false, .bool true]
  | 1 => #[.int .i64 1, .int .i64 2, .int .i64 2, .int .i64 2, .int .i64 2, .int .i64 5, .int .i64 it, .int .i64 1, .bool false, .bool false, .bool true]
  | 2 => #[.int .i64 1, .int .i64 2, .int .i64 2, .int .i64 2, .int .i64 2, .int .i64 5, .int .i64 it, .int .i64 2, .bool false, .bool false, .bool true]
  | 3 => #[.int .i64 1, .int .i64 2, .int .i64 2, .int .i64 2, .int .i64 2, .int .i64 5, .int .i64 it, .int .i64 2, .bool true, .bool false, .bool true]
  | _ => #[.int .i64 1, .int .i64 2, .int .i64 2, .int .i64 2, .int .i64 2, .int .i64 5, .int .i64 it, .int .i64 2, .bool true, .bool true, .bool true]
set_option maxRecDepth 100000
set_option maxHeartbeats 20000000
theorem tonce_core (it : Nat) (os : List Bool) (oo : Option Addr) (oc : Nat) (w : World) (hit : it ≤ 65535) (hl1 : os.length ≤ oc) (hl2 : oc ≤ maxLen) (hll : os.length ≤ 300)
    (ho : ∀ i, i < os.length → ∃ ad, oo = some ad ∧ w.cell? (ad.add i) = some (.bool (os.getD i false))) :
    Calls Try.prog 5 #[.int .u16 it, .slice oo os.length oc] w fun e w' => e = .returned (.bool true) ∧ Below w.heap.size w w' := by
  have ok : okPlan 1 2 2 2 = true := by decide
  unfold maxLen at hl2
  replace ho := Lib.hid ho
  have SZ := Lib.hid (fun (w1 : World) (l : List Ast) (h : Own w w1 l) => Own.lift (size_ok ok w1) h (.int .i64 34) (by rw [show sizeV 1 2 2 2 = 34 by decide]))
  have NW := Lib.hid (fun (w1 : World) (l : List Ast) (h : Own w w1 l) => own_new h 34 (List.replicate 34 0) rfl)
  have RN := Lib.hid (fun (w1 : World) (l : List Ast) (h : Own w w1 l) => Own.lift (rnew_any 1 2 2 2 2 5 w1) h _ rfl)
  have SL := Lib.hid (fun (w1 : World) (l : List Ast) (h : Own w w1 l) => nap_new h 1 2 2 2 2 5 (it : Int))
  have CL := Lib.hid (fun (w1 : World) (l : List Ast) (h : Own w w1 l) => wake_new h 1 2 2 2 2 5 (it : Int) true)
  obtain ⟨T, hTk⟩ : ∃ T, tokV 5 it 0 = T := ⟨_, rfl⟩
  have hT0 : T ≠ 0 := by
    rw [← hTk]; unfold tokV hT
    rw [show min (max (it : Int) 0) 1048575 = it by omega]
    simp; omega
  obtain ⟨N, hN⟩ : ∃ N : Nat, frameV 1 2 2 2 2 + 1 = (N : Int) := ⟨(frameV 1 2 2 2 2 + 1).toNat, by decide⟩
  obtain ⟨E, hE⟩ : ∃ E : Nat, wordV 1 2 2 2 2 it 3 = (E : Int) := ⟨(wordV 1 2 2 2 2 it 3).toNat, by
    unfold wordV
    rw [show frameV 1 2 2 2 2 = 20 by decide, show max (it : Int) 0 = it by omega]
    omega⟩
  have hEN : N = 21 ∧ N < E ∧ E < 34 := by
    have h1 : frameV 1 2 2 2 2 = 20 := by decide
    unfold wordV at hE
    rw [h1] at hN hE
    rw [show max (it : Int) 0 = it by omega] at hE
    omega
  obtain ⟨hN1, hE1, hE2⟩ := hEN
  have hmem0 := Lib.hid (show MemOK T E N (List.replicate 34 0) 0 false from ⟨by simp, by rw [zero_of]; rfl, by rw [zero_of]; rfl⟩)
  have hst0 := Lib.hid (show OSt 0 0 false false false false false 0 from ⟨by omega, by omega, by decide, by decide, by decide, by decide, by decide, by decide⟩)
  have EN := Lib.hid (fun (w1 : World) (gs sb pb rb nb kb : Nat) (ms : List Int) (Q : Nat) (nw : Bool) (n k : Array Value) (h : Own w w1 (storeA gs sb ms :: [cellsA pb #[.int .i64 1, .int .i64 2, .int .i64 2, .int .i64 2] 26, cellsA rb #[.int .i64 1, .int .i64 2, .int .i64 2, .int .i64 2, .int .i64 2, .int .i64 5] 32, cellsA nb n 101, cellsA kb k 103])) (hm : MemOK T E N ms Q nw) => r_ended h ok 2 5 it (at_ := E) hE (by rw [hm.len]; omega) T _ hTk hm.e (decide (1 ≤ Q)) (by by_cases c : 1 ≤ Q <;> simp [c, hT0, Ne.symm hT0]))
  have N1 := Lib.hid (fun (w1 : World) (gs sb pb rb nb kb : Nat) (ms : List Int) (Q : Nat) (nw : Bool) (k : Array Value) (h : Own w w1 (storeA gs sb ms :: [cellsA pb #[.int .i64 1, .int .i64 2, .int .i64 2, .int .i64 2] 26, cellsA rb #[.int .i64 1, .int .i64 2, .int .i64 2, .int .i64 2, .int .i64 2, .int .i64 5] 32, cellsA nb #[.int .i64 1, .int .i64 2, .int .i64 2, .int .i64 2, .int .i64 2, .int .i64 5, .int .i64 it, .int .i64 0, .bool false, .bool false] 101, cellsA kb k 103])) (hm : MemOK T E N ms Q nw) => nap_step0 2 5 it ok 2 h rfl (at0 := N) hN (by rw [hm.len]; omega) T hTk (ms.set N T) rfl)
  have N2 := Lib.hid (fun (w1 : World) (gs sb pb rb nb kb : Nat) (ms : List Int) (Q : Nat) (nw : Bool) (k : Array Value) (h : Own w w1 (storeA gs sb ms :: [cellsA pb #[.int .i64 1, .int .i64 2, .int .i64 2, .int .i64 2] 26, cellsA rb #[.int .i64 1, .int .i64 2, .int .i64 2, .int .i64 2, .int .i64 2, .int .i64 5] 32, cellsA nb #[.int .i64 1, .int .i64 2, .int .i64 2, .int .i64 2, .int .i64 2, .int .i64 5, .int .i64 it, .int .i64 1, .bool false, .bool false] 101, cellsA kb k 103])) (hm : MemOK T E N ms Q nw) => nap_step1 2 5 it ok 2 h rfl (at0 := E) hE (by rw [hm.len]; omega) T _ hTk hm.e (decide (1 ≤ Q)) (!decide (1 ≤ Q)) (by by_cases c : 1 ≤ Q <;> simp [c, hT0, Ne.symm hT0]) rfl)
  have N3y := Lib.hid (fun (w1 : World) (gs sb pb rb nb kb : Nat) (ms : List Int) (Q : Nat) (k : Array Value) (h : Own w w1 (storeA gs sb ms :: [cellsA pb #[.int .i64 1, .int .i64 2, .int .i64 2, .int .i64 2] 26, cellsA rb #[.int .i64 1, .int .i64 2, .int .i64 2, .int .i64 2, .int .i64 2, .int .i64 5] 32, cellsA nb #[.int .i64 1, .int .i64 2, .int .i64 2, .int .i64 2, .int .i64 2, .int .i64 5, .int .i64 it, .int .i64 2, .bool false, .bool false] 101, cellsA kb k 103])) (hm : MemOK T E N ms Q true) => nap_step2_yes 2 5 it ok 2 h rfl (at0 := N) hN (by rw [hm.len]; omega) T hTk (by rw [hm.n]; rfl) (ms.set N 0) rfl)
  have N3n := Lib.hid (fun (w1 : World) (gs sb pb rb nb kb : Nat) (ms : List Int) (Q : Nat) (k : Array Value) (h : Own w w1 (storeA gs sb ms :: [cellsA pb #[.int .i64 1, .int .i64 2, .int .i64 2, .int .i64 2] 26, cellsA rb #[.int .i64 1, .int .i64 2, .int .i64 2, .int .i64 2, .int .i64 2, .int .i64 5] 32, cellsA nb #[.int .i64 1, .int .i64 2, .int .i64 2, .int .i64 2, .int .i64 2, .int .i64 5, .int .i64 it, .int .i64 2, .bool false, .bool false] 101, cellsA kb k 103])) (hm : MemOK T E N ms Q false) => nap_step2_no 2 5 it ok 2 h rfl (at0 := N) hN (by rw [hm.len]; omega) T hTk (by rw [hm.n]; exact fun h => hT0 h.symm))
  have NB4 := Lib.hid (fun (w1 : World) (gs sb pb rb nb kb : Nat) (ms : List Int) (k : Array Value) (h : Own w w1 (storeA gs sb ms :: [cellsA pb #[.int .i64 1, .int .i64 2, .int .i64 2, .int .i64 2] 26, cellsA rb #[.int .i64 1, .int .i64 2, .int .i64 2, .int .i64 2, .int .i64 2, .int .i64 5] 32, cellsA nb #[.int .i64 1, .int .i64 2, .int .i64 2, .int .i64 2, .int .i64 2, .int .i64 5, .int .i64 it, .int .i64 2, .bool true, .bool false] 101, cellsA kb k 103]))  => nap_won 3 h rfl)
  have NB5 := Lib.hid (fun (w1 : World) (gs sb pb rb nb kb : Nat) (ms : List Int) (k : Array Value) (h : Own w w1 (storeA gs sb ms :: [cellsA pb #[.int .i64 1, .int .i64 2, .int .i64 2, .int .i64 2] 26, cellsA rb #[.int .i64 1, .int .i64 2, .int .i64 2, .int .i64 2, .int .i64 2, .int .i64 5] 32, cellsA nb #[.int .i64 1, .int .i64 2, .int .i64 2, .int .i64 2, .int .i64 2, .int .i64 5, .int .i64 it, .int .i64 2, .bool true, .bool true] 101, cellsA kb k 103]))  => nap_won 3 h rfl)
  have K0 := Lib.hid (fun (w1 : World) (gs sb pb rb nb kb : Nat) (ms : List Int) (nw : Bool) (n : Array Value) (h : Own w w1 (storeA gs sb ms :: [cellsA pb #[.int .i64 1, .int .i64 2, .int .i64 2, .int .i64 2] 26, cellsA rb #[.int .i64 1, .int .i64 2, .int .i64 2, .int .i64 2, .int .i64 2, .int .i64 5] 32, cellsA nb n 101, cellsA kb #[.int .i64 1, .int .i64 2, .int .i64 2, .int .i64 2, .int .i64 2, .int .i64 5, .int .i64 it, .int .i64 0, .bool false, .bool false, .bool true] 103])) (hm : MemOK T E N ms 0 nw) => wake_step0 2 5 it ok 3 h rfl (at0 := E) hE (by rw [hm.len]; omega) T hTk (ms.set E T) rfl false rfl)
  have K1y := Lib.hid (fun (w1 : World) (gs sb pb rb nb kb : Nat) (ms : List Int) (n : Array Value) (h : Own w w1 (storeA gs sb ms :: [cellsA pb #[.int .i64 1, .int .i64 2, .int .i64 2, .int .i64 2] 26, cellsA rb #[.int .i64 1, .int .i64 2, .int .i64 2, .int .i64 2, .int .i64 2, .int .i64 5] 32, cellsA nb n 101, cellsA kb #[.int .i64 1, .int .i64 2, .int .i64 2, .int .i64 2, .int .i64 2, .int .i64 5, .int .i64 it, .int .i64 1, .bool false, .bool false, .bool true] 103])) (hm : MemOK T E N ms 1 true) => wake_step1 2 5 it ok 3 h rfl (at0 := N) hN (by rw [hm.len]; omega) T _ hTk hm.n true false (by simp) rfl)
  have K1n := Lib.hid (fun (w1 : World) (gs sb pb rb nb kb : Nat) (ms : List Int) (n : Array Value) (h : Own w w1 (storeA gs sb ms :: [cellsA pb #[.int .i64 1, .int .i64 2, .int .i64 2, .int .i64 2] 26, cellsA rb #[.int .i64 1, .int .i64 2, .int .i64 2, .int .i64 2, .int .i64 2, .int .i64 5] 32, cellsA nb n 101, cellsA kb #[.int .i64 1, .int .i64 2, .int .i64 2, .int .i64 2, .int .i64 2, .int .i64 5, .int .i64 it, .int .i64 1, .bool false, .bool false, .bool true] 103])) (hm : MemOK T E N ms 1 false) => wake_step1 2 5 it ok 3 h rfl (at0 := N) hN (by rw [hm.len]; omega) T _ hTk hm.n false true (by simp [Ne.symm hT0]) rfl)
  have K2y := Lib.hid (fun (w1 : World) (gs sb pb rb nb kb : Nat) (ms : List Int) (n : Array Value) (h : Own w w1 (storeA gs sb ms :: [cellsA pb #[.int .i64 1, .int .i64 2, .int .i64 2, .int .i64 2] 26, cellsA rb #[.int .i64 1, .int .i64 2, .int .i64 2, .int .i64 2, .int .i64 2, .int .i64 5] 32, cellsA nb n 101, cellsA kb #[.int .i64 1, .int .i64 2, .int .i64 2, .int .i64 2, .int .i64 2, .int .i64 5, .int .i64 it, .int .i64 2, .bool false, .bool false, .bool true] 103])) (hm : MemOK T E N ms 2 true) => wake_step2_yes 2 5 it ok 3 h rfl (at0 := N) hN (by rw [hm.len]; omega) T hTk (by rw [hm.n]; rfl) (ms.set N 0) rfl)
  have K2n := Lib.hid (fun (w1 : World) (gs sb pb rb nb kb : Nat) (ms : List Int) (n : Array Value) (h : Own w w1 (storeA gs sb ms :: [cellsA pb #[.int .i64 1, .int .i64 2, .int .i64 2, .int .i64 2] 26, cellsA rb #[.int .i64 1, .int .i64 2, .int .i64 2, .int .i64 2, .int .i64 2, .int .i64 5] 32, cellsA nb n 101, cellsA kb #[.int .i64 1, .int .i64 2, .int .i64 2, .int .i64 2, .int .i64 2, .int .i64 5, .int .i64 it, .int .i64 2, .bool false, .bool false, .bool true] 103])) (hm : MemOK T E N ms 2 false) => wake_step2_no 2 5 it ok 3 h rfl (at0 := N) hN (by rw [hm.len]; omega) T hTk (by rw [hm.n]; exact fun h => hT0 h.symm))
  have KG3 := Lib.hid (fun (w1 : World) (gs sb pb rb nb kb : Nat) (ms : List Int) (n : Array Value) (h : Own w w1 (storeA gs sb ms :: [cellsA pb #[.int .i64 1, .int .i64 2, .int .i64 2, .int .i64 2] 26, cellsA rb #[.int .i64 1, .int .i64 2, .int .i64 2, .int .i64 2, .int .i64 2, .int .i64 5] 32, cellsA nb n 101, cellsA kb #[.int .i64 1, .int .i64 2, .int .i64 2, .int .i64 2, .int .i64 2, .int .i64 5, .int .i64 it, .int .i64 2, .bool true, .bool false, .bool true] 103]))  => wake_won 4 h rfl)
  have KG4 := Lib.hid (fun (w1 : World) (gs sb pb rb nb kb : Nat) (ms : List Int) (n : Array Value) (h : Own w w1 (storeA gs sb ms :: [cellsA pb #[.int .i64 1, .int .i64 2, .int .i64 2, .int .i64 2] 26, cellsA rb #[.int .i64 1, .int .i64 2, .int .i64 2, .int .i64 2, .int .i64 2, .int .i64 5] 32, cellsA nb n 101, cellsA kb #[.int .i64 1, .int .i64 2, .int .i64 2, .int .i64 2, .int .i64 2, .int .i64 5, .int .i64 it, .int .i64 2, .bool true, .bool true, .bool true] 103]))  => wake_won 4 h rfl)
  have ME := Lib.hid (fun (ms : List Int) (nw : Bool) (hm : MemOK T E N ms 0 nw) => show MemOK T E N (ms.set E T) 1 nw from ⟨by rw [List.length_set]; exact hm.len, by rw [getD_set_self (by rw [hm.len]; omega)]; rfl, by rw [getD_set_other (by omega)]; exact hm.n⟩)
  have MN := Lib.hid (fun (ms : List Int) (Q : Nat) (nw nw2 : Bool) (x : Int) (hx : x = if nw2 = true then T else 0) (hm : MemOK T E N ms Q nw) => show MemOK T E N (ms.set N x) Q nw2 from ⟨by rw [List.length_set]; exact hm.len, by rw [getD_set_other (by omega)]; exact hm.e, by rw [getD_set_self (by rw [hm.len]; omega)]; exact hx⟩)
  have MQ := Lib.hid (fun (ms : List Int) (Q Q2 : Nat) (nw : Bool) (h1 : 1 ≤ Q) (h2 : 1 ≤ Q2) (hm : MemOK T E N ms Q nw) => show MemOK T E N ms Q2 nw from ⟨hm.len, by rw [hm.e, if_pos h1, if_pos h2], hm.n⟩)
  clear hTk hT0 hN hE hN1 hE1 hE2 ok
  have hi1 : IntKind.i64.wrap (it : Int) = (it : Int) := IntWalk.i64_in _ (by omega)
  go_enter Try.func5, Try.ntmps5
  go_wp2_with (go_at_call 24; refine (works20_any _).mono ?_; rintro e wa ⟨rfl, hb1⟩)
  go_at_call 25
  refine (plan20_any _).mono ?_
  rintro e wb ⟨rfl, hb2⟩
  go_wp2_with fail
  have h1 := (Own.nil (below_chain hb1 hb2)).box #[.int .i64 1, .int .i64 2, .int .i64 2, .int .i64 2] 26
  go_at_call 12
  refine (SZ.out _ _ h1).mono ?_
  rintro e w2 ⟨rfl, h2⟩
  go_wp2_with fail
  go_at_call 11
  refine (NW.out _ _ h2).mono ?_
  rintro e w3 ⟨rfl, h3⟩
  have h4 := h3.sel [1, 0] (by decide)
  obtain ⟨x0, x1, x2, x3⟩ := cells4 1 h4 rfl
  clear h1 h2 h3
  generalize w2.heap.size = sb at *
  generalize wb.heap.size = pb at *
  clear hb1 hb2
  go_wp2_with fail
  go_at_call 13
  refine (RN.out _ _ h4).mono ?_
  rintro e w5 ⟨rfl, h5⟩
  have h6 := h5.box #[.int .i64 1, .int .i64 2, .int .i64 2, .int .i64 2, .int .i64 2, .int .i64 5] 32
  clear h4 h5 x0 x1 x2 x3
  go_wp2_with fail
  generalize w5.alloc (.cells #[.int .i64 1, .int .i64 2, .int .i64 2, .int .i64 2, .int .i64 2, .int .i64 5] 32) = w6 at *
  generalize w5.heap.size = rb at *
  obtain ⟨y0, y1, y2, y3, y4, y5⟩ := cells6 2 h6 rfl
  go_cut [9, 10] from 31 to 36 (fun a b wx => ∃ nb kb : Nat, a = .pointer (some ⟨nb, 0, none⟩) ∧ b = .pointer (some ⟨kb, 0, none⟩) ∧ ∃ gs, gs = sb + 1 ∧ Own w wx (storeA gs sb (List.replicate 34 0) :: [cellsA pb #[.int .i64 1, .int .i64 2, .int .i64 2, .int .i64 2] 26, cellsA rb #[.int .i64 1, .int .i64 2, .int .i64 2, .int .i64 2, .int .i64 2, .int .i64 5] 32, cellsA nb (napC it 0) 101, cellsA kb (wakC it 0) 103]))
  case first =>
    go_region_with (first
      | (go_at_call 26; first
        | (refine (SL.out _ _ (h6.drewN 1)).mono ?_; rintro e w7 ⟨nb, rfl, h7⟩; clear y0 y1 y2 y3 y4 y5; obtain ⟨y0, y1, y2, y3, y4, y5⟩ := cells6 2 h7 rfl)
        | (refine (SL.out _ _ h8).mono ?_; rintro e w7 ⟨nb, rfl, h7⟩))
      | (go_at_call 27; first
        | (refine (CL.out _ _ (h6.drewN 1)).mono ?_; rintro e w8 ⟨kb, rfl, h8⟩; clear y0 y1 y2 y3 y4 y5; obtain ⟨y0, y1, y2, y3, y4, y5⟩ := cells6 2 h8 rfl)
        | (refine (CL.out _ _ h7).mono ?_; rintro e w8 ⟨kb, rfl, h8⟩)))
    all_goals
      go_wp2_with fail
      go_meet
      first | exact ⟨nb, kb, rfl, rfl, _, rfl, h8⟩ | exact ⟨nb, kb, rfl, rfl, _, rfl, h7.sel [0, 1, 2, 4, 3] (by decide)⟩
  case rest =>
    clear h6 y0 y1 y2 y3 y4 y5 SZ NW RN SL CL
    obtain ⟨nb, kb, rfl, rfl, gs, hgs, hO⟩ := hcut
    rw [← hgs]
    clear hgs
    go_wp2_with fail
    go_loopw [11, 12, 13, 14, 15, 16] (fun a s o t g kv wr => ∃ (k P Q : Nat) (nw : Bool) (ms : List Int) (lk sl ov td : Bool) (G : Nat), k ≤ os.length + 20 ∧ kv = .int .i64 k ∧ a = .bool lk ∧ s = .bool sl ∧ o = .bool ov ∧ t = .bool td ∧ g = .int .i64 G ∧ Hid (OSt P Q nw lk sl ov td G) ∧ Hid (MemOK T E N ms Q nw) ∧ Hid (4 - P ≤ 4 - ((k + 1) / 2 - (os.length + 1) / 2) ∧ 3 - Q ≤ 3 - (k / 2 - os.length / 2)) ∧ Own w wr (storeA gs sb ms :: [cellsA pb #[.int .i64 1, .int .i64 2, .int .i64 2, .int .i64 2] 26, cellsA rb #[.int .i64 1, .int .i64 2, .int .i64 2, .int .i64 2, .int .i64 2, .int .i64 5] 32, cellsA nb (napC it P) 101, cellsA kb (wakC it Q) 103])) (fun _ _ _ _ _ kv _ => (os.length + 20 - intOf kv).toNat)
    case atStart => exact ⟨0, 0, 0, false, _, false, false, false, false, 0, by omega, rfl, rfl, rfl, rfl, rfl, rfl, hst0, hmem0, Lib.hid (by omega), hO⟩
    case round =>
      clear hO hst0 hmem0
      obtain ⟨k, P, Q, nw, ms, lk, sl, ov, td, G, hk, rfl, rfl, rfl, rfl, rfl, rfl, hS, hM, hR, hO⟩ := hrel
      by_cases hlt : k < os.length + 20
      · go_upto_if 50 with fail
        rw [show decide ((k : Int) < (os.length : Int) + 20) = true from decide_eq_true (by omega)]
        go_cut [17] from 44 to 54 (fun f wx => ∃ b : Bool, f = .bool b ∧ Hid (os.length ≤ k → b = decide (k % 2 = 0)) ∧ wr = wx)
        case first =>
          by_cases hkl : k < os.length
          · obtain ⟨ad, rfl, x0⟩ := ho.out k hkl
            have x1 := hO.old x0
            go_wp2_with fail
            go_meet
            exact ⟨_, rfl, Lib.hid (fun h => absurd h (by omega)), rfl⟩
          · have hkl2 : ¬ (k : Int) < os.length := by omega
            have ht : ((k : Int) % 2 == 0) = decide (k % 2 = 0) := by
              by_cases c : k % 2 = 0
              · rw [decide_eq_true c]; simp; omega
              · rw [decide_eq_false c]; simp; omega
            go_wp2_with fail
            go_meet
            exact ⟨_, rfl, Lib.hid (fun _ => rfl), rfl⟩
        case rest =>
          obtain ⟨b, rfl, hb, rfl⟩ := hcut
          go_upto_block 2 with fail
          go_cut [11, 12, 13, 14, 15] from 55 to 98 (fun a s o t g wx => ∃ (P2 Q2 : Nat) (nw2 : Bool) (ms2 : List Int) (lk2 sl2 ov2 td2 : Bool) (G2 : Nat), a = .bool lk2 ∧ s = .bool sl2 ∧ o = .bool ov2 ∧ t = .bool td2 ∧ g = .int .i64 G2 ∧ Hid (OSt P2 Q2 nw2 lk2 sl2 ov2 td2 G2) ∧ Hid (MemOK T E N ms2 Q2 nw2) ∧ Hid (4 - P2 ≤ 4 - ((k + 1 + 1) / 2 - (os.length + 1) / 2) ∧ 3 - Q2 ≤ 3 - ((k + 1) / 2 - os.length / 2)) ∧ Own w wx (storeA gs sb ms2 :: [cellsA pb #[.int .i64 1, .int .i64 2, .int .i64 2, .int .i64 2] 26, cellsA rb #[.int .i64 1, .int .i64 2, .int .i64 2, .int .i64 2, .int .i64 2, .int .i64 5] 32, cellsA nb (napC it P2) 101, cellsA kb (wakC it Q2) 103]))
          case first =>
            have hG1 : G ≤ 1 := by have := hS.out.once; omega
            have hpb := hS.out.pb
            have hqb := hS.out.qb
            cases b with
            | true =>
              have hkq : os.length ≤ k → k % 2 = 0 := fun h => by simpa using (hb.out h).symm
              rcases (show P = 0 ∨ P = 1 ∨ P = 2 ∨ P = 3 ∨ 4 ≤ P by omega) with rfl | rfl | rfl | rfl | hP4
              · by_cases cQ : 1 ≤ Q
                · obtain rfl : lk = false := by have := hS.out.lk; simpa using this
                  obtain rfl : sl = false := by have := hS.out.sl; simpa using this
                  have E0 := EN.out wr gs sb pb rb nb kb ms Q nw (napC it 0) (wakC it Q) hO hM.out
                  rw [decide_eq_true cQ] at E0
                  replace E0 := Lib.hid E0
                  obtain ⟨y0, y1, y2, y3, y4, y5⟩ := cells6 2 hO rfl
                  go_wp2_with (first | (go_at_call 17; refine E0.out.mono ?_; rintro e w6 ⟨rfl, h6⟩))
                  go_meet
                  exact ⟨6, Q, nw, ms, _, _, ov, td, G + 1, rfl, rfl, rfl, rfl, by go_num, Lib.hid ⟨by omega, hS.out.qb, by decide, by decide, hS.out.ov, hS.out.td, by rw [hS.out.g]; simp [Nat.add_comm], rc_p0e Q (by omega) nw cQ hS.out.r⟩, hM, Lib.hid (by have := hR.out; omega), h6⟩
                · obtain rfl : lk = false := by have := hS.out.lk; simpa using this
                  obtain rfl : sl = false := by have := hS.out.sl; simpa using this
                  have E0 := EN.out wr gs sb pb rb nb kb ms Q nw (napC it 0) (wakC it Q) hO hM.out
                  rw [decide_eq_false cQ] at E0
                  replace E0 := Lib.hid E0
                  obtain ⟨y0, y1, y2, y3, y4, y5⟩ := cells6 2 hO rfl
                  go_wp2_with (first | (go_at_call 17; refine E0.out.mono ?_; rintro e w6 ⟨rfl, h6⟩))
                  go_meet
                  exact ⟨1, Q, nw, ms, _, _, ov, td, G, rfl, rfl, rfl, rfl, rfl, Lib.hid ⟨by omega, hS.out.qb, by decide, by decide, hS.out.ov, hS.out.td, by rw [hS.out.g]; simp [Nat.add_comm], rc_p0 Q (by omega) nw cQ hS.out.r⟩, hM, Lib.hid (by have := hR.out; omega), h6⟩
              · obtain rfl : lk = true := by have := hS.out.lk; simpa using this
                obtain rfl : sl = true := by have := hS.out.sl; simpa using this
                have E0 := N1.out wr gs sb pb rb nb kb ms Q nw (wakC it Q) hO hM.out
                replace E0 := Lib.hid E0
                go_wp2_with (first | (go_at_call 28; refine E0.out.mono ?_; rintro e w6 ⟨rfl, h6⟩))
                go_meet
                exact ⟨2, Q, true, _, _, _, ov, td, G, rfl, rfl, rfl, rfl, rfl, Lib.hid ⟨by omega, hS.out.qb, by decide, by decide, hS.out.ov, hS.out.td, by rw [hS.out.g]; simp [Nat.add_comm], rc_p1 Q (by omega) nw hS.out.r⟩, Lib.hid (MN.out ms Q nw true T rfl hM.out), Lib.hid (by have := hR.out; omega), h6⟩
              · by_cases cQ : 1 ≤ Q
                · obtain rfl : lk = true := by have := hS.out.lk; simpa using this
                  obtain rfl : sl = true := by have := hS.out.sl; simpa using this
                  have E0 := N2.out wr gs sb pb rb nb kb ms Q nw (wakC it Q) hO hM.out
                  rw [decide_eq_true cQ] at E0
                  replace E0 := Lib.hid E0
                  go_wp2_with (first | (go_at_call 28; refine E0.out.mono ?_; rintro e w6 ⟨rfl, h6⟩))
                  go_meet
                  exact ⟨3, Q, nw, _, _, _, ov, td, G, rfl, rfl, rfl, rfl, rfl, Lib.hid ⟨by omega, hS.out.qb, by decide, by decide, hS.out.ov, hS.out.td, by rw [hS.out.g]; simp [Nat.add_comm], rc_p2e Q (by omega) nw cQ hS.out.r⟩, hM, Lib.hid (by have := hR.out; omega), h6⟩
                · obtain rfl : lk = true := by have := hS.out.lk; simpa using this
                  obtain rfl : sl = true := by have := hS.out.sl; simpa using this
                  have E0 := N2.out wr gs sb pb rb nb kb ms Q nw (wakC it Q) hO hM.out
                  rw [decide_eq_false cQ] at E0
                  replace E0 := Lib.hid E0
                  go_wp2_with (first | (go_at_call 28; refine E0.out.mono ?_; rintro e w6 ⟨rfl, h6⟩) | (go_at_call 29; refine (NB4.out _ gs sb pb rb nb kb _ (wakC it Q) h6).mono ?_; rintro e w7 ⟨rfl, rfl⟩))
                  go_meet
                  exact ⟨4, Q, nw, _, _, _, ov, td, G, rfl, rfl, rfl, rfl, rfl, Lib.hid ⟨by omega, hS.out.qb, by decide, by decide, hS.out.ov, hS.out.td, by rw [hS.out.g]; simp [Nat.add_comm], rc_p2 Q (by omega) nw cQ hS.out.r⟩, hM, Lib.hid (by have := hR.out; omega), h6⟩
              · cases nw with
                | true =>
                  obtain rfl : lk = true := by have := hS.out.lk; simpa using this
                  obtain rfl : sl = true := by have := hS.out.sl; simpa using this
                  have E0 := N3y.out wr gs sb pb rb nb kb ms Q (wakC it Q) hO hM.out
                  replace E0 := Lib.hid E0
                  go_wp2_with (first | (go_at_call 28; refine E0.out.mono ?_; rintro e w6 ⟨rfl, h6⟩) | (go_at_call 29; refine (NB5.out _ gs sb pb rb nb kb _ (wakC it Q) h6).mono ?_; rintro e w7 ⟨rfl, rfl⟩))
                  go_meet
                  exact ⟨5, Q, false, _, _, _, ov, td, G + 1, rfl, rfl, rfl, rfl, by go_num, Lib.hid ⟨by omega, hS.out.qb, by decide, by decide, hS.out.ov, hS.out.td, by rw [hS.out.g]; simp [Nat.add_comm], rc_p3y Q (by omega) true rfl hS.out.r⟩, Lib.hid (MN.out ms Q true false 0 rfl hM.out), Lib.hid (by have := hR.out; omega), h6⟩
                | false =>
                  obtain rfl : lk = true := by have := hS.out.lk; simpa using this
                  obtain rfl : sl = true := by have := hS.out.sl; simpa using this
                  have E0 := N3n.out wr gs sb pb rb nb kb ms Q (wakC it Q) hO hM.out
                  replace E0 := Lib.hid E0
                  go_wp2_with (first | (go_at_call 28; refine E0.out.mono ?_; rintro e w6 ⟨rfl, h6⟩) | (go_at_call 29; refine (NB4.out _ gs sb pb rb nb kb _ (wakC it Q) h6).mono ?_; rintro e w7 ⟨rfl, rfl⟩))
                  go_meet
                  exact ⟨4, Q, false, _, _, _, ov, td, G, rfl, rfl, rfl, rfl, rfl, Lib.hid ⟨by omega, hS.out.qb, by decide, by decide, hS.out.ov, hS.out.td, by rw [hS.out.g]; simp [Nat.add_comm], rc_p3n Q (by omega) false rfl hS.out.r⟩, hM, Lib.hid (by have := hR.out; omega), h6⟩
              · obtain rfl : lk = true := by have := hS.out.lk; rw [this]; simp; omega
                obtain rfl : sl = false := by have := hS.out.sl; rw [this]; simp; omega
                go_wp2_with fail
                go_meet
                exact ⟨P, Q, nw, ms, _, _, ov, td, G, rfl, rfl, rfl, rfl, rfl, hS, hM, Lib.hid (by have := hR.out; omega), hO⟩
            | false =>
              have hkq : os.length ≤ k → k % 2 = 1 := fun h => by have := hb.out h; simp at this; omega
              rcases (show Q = 0 ∨ Q = 1 ∨ Q = 2 ∨ 3 ≤ Q by omega) with rfl | rfl | rfl | hQ3
              · obtain rfl : ov = false := by have := hS.out.ov; simpa using this
                have E0 := Lib.hid (K0.out wr gs sb pb rb nb kb ms nw (napC it P) hO hM.out)
                go_wp2_with (first | (go_at_call 30; refine E0.out.mono ?_; rintro e w6 ⟨rfl, h6⟩))
                go_meet
                exact ⟨P, 1, nw, _, lk, sl, _, _, G, rfl, rfl, rfl, rfl, rfl, Lib.hid ⟨hS.out.pb, by omega, hS.out.lk, hS.out.sl, by decide, by decide, by rw [hS.out.g]; simp, rc_q0 P (by omega) nw hS.out.r⟩, Lib.hid (ME.out ms nw hM.out), Lib.hid (by have := hR.out; omega), h6⟩
              · cases nw with
                | true =>
                  obtain rfl : ov = false := by have := hS.out.ov; simpa using this
                  have E0 := Lib.hid (K1y.out wr gs sb pb rb nb kb ms (napC it P) hO hM.out)
                  go_wp2_with (first | (go_at_call 30; refine E0.out.mono ?_; rintro e w6 ⟨rfl, h6⟩))
                  go_meet
                  exact ⟨P, 2, true, _, lk, sl, _, _, G, rfl, rfl, rfl, rfl, rfl, Lib.hid ⟨hS.out.pb, by omega, hS.out.lk, hS.out.sl, by decide, by decide, by rw [hS.out.g]; simp, rc_q1y P (by omega) true rfl hS.out.r⟩, Lib.hid (MQ.out ms 1 2 true (by omega) (by omega) hM.out), Lib.hid (by have := hR.out; omega), h6⟩
                | false =>
                  obtain rfl : ov = false := by have := hS.out.ov; simpa using this
                  have E0 := Lib.hid (K1n.out wr gs sb pb rb nb kb ms (napC it P) hO hM.out)
                  go_wp2_with (first | (go_at_call 30; refine E0.out.mono ?_; rintro e w6 ⟨rfl, h6⟩) | (go_at_call 31; refine (KG3.out _ gs sb pb rb nb kb _ (napC it P) h6).mono ?_; rintro e w7 ⟨rfl, rfl⟩))
                  go_meet
                  exact ⟨P, 3, false, _, lk, sl, _, _, G, rfl, rfl, rfl, rfl, rfl, Lib.hid ⟨hS.out.pb, by omega, hS.out.lk, hS.out.sl, by decide, by decide, by rw [hS.out.g]; simp, rc_q1n P (by omega) false rfl hS.out.r⟩, Lib.hid (MQ.out ms 1 3 false (by omega) (by omega) hM.out), Lib.hid (by have := hR.out; omega), h6⟩
              · cases nw with
                | true =>
                  obtain rfl : ov = false := by have := hS.out.ov; simpa using this
                  have E0 := Lib.hid (K2y.out wr gs sb pb rb nb kb ms (napC it P) hO hM.out)
                  go_wp2_with (first | (go_at_call 30; refine E0.out.mono ?_; rintro e w6 ⟨rfl, h6⟩) | (go_at_call 31; refine (KG4.out _ gs sb pb rb nb kb _ (napC it P) h6).mono ?_; rintro e w7 ⟨rfl, rfl⟩))
                  go_meet
                  exact ⟨P, 4, false, _, lk, sl, _, _, G + 1, rfl, rfl, rfl, rfl, by go_num, Lib.hid ⟨hS.out.pb, by omega, hS.out.lk, hS.out.sl, by decide, by decide, by rw [hS.out.g]; simp, rc_q2y P (by omega) true rfl hS.out.r⟩, Lib.hid (MN.out _ 4 true false 0 rfl (MQ.out ms 2 4 true (by omega) (by omega) hM.out)), Lib.hid (by have := hR.out; omega), h6⟩
                | false =>
                  obtain rfl : ov = false := by have := hS.out.ov; simpa using this
                  have E0 := Lib.hid (K2n.out wr gs sb pb rb nb kb ms (napC it P) hO hM.out)
                  go_wp2_with (first | (go_at_call 30; refine E0.out.mono ?_; rintro e w6 ⟨rfl, h6⟩) | (go_at_call 31; refine (KG3.out _ gs sb pb rb nb kb _ (napC it P) h6).mono ?_; rintro e w7 ⟨rfl, rfl⟩))
                  go_meet
                  exact ⟨P, 3, false, _, lk, sl, _, _, G, rfl, rfl, rfl, rfl, rfl, Lib.hid ⟨hS.out.pb, by omega, hS.out.lk, hS.out.sl, by decide, by decide, by rw [hS.out.g]; simp, rc_q2n P (by omega) false rfl hS.out.r⟩, Lib.hid (MQ.out ms 2 3 false (by omega) (by omega) hM.out), Lib.hid (by have := hR.out; omega), h6⟩
              · obtain rfl : ov = true := by have := hS.out.ov; rw [this]; simp [hQ3]
                go_wp2_with fail
                go_meet
                exact ⟨P, Q, nw, ms, lk, sl, _, td, G, rfl, rfl, rfl, rfl, rfl, hS, hM, Lib.hid (by have := hR.out; omega), hO⟩
          case rest =>
            obtain ⟨P2, Q2, nw2, ms2, lk2, sl2, ov2, td2, G2, rfl, rfl, rfl, rfl, rfl, hS2, hM2, hR2, hO2⟩ := hcut
            rcases hS2.out.once with rfl | ⟨rfl, rfl⟩
            all_goals
              go_wp2_with fail
              go_roundw
              case rel => exact ⟨k + 1, P2, Q2, nw2, ms2, lk2, sl2, ov2, _, _, by omega, by go_num, rfl, rfl, rfl, rfl, rfl, hS2, hM2, hR2, hO2⟩
              case measure => simp [intOf]; omega
      · obtain rfl : k = os.length + 20 := by omega
        obtain ⟨rfl, rfl, rfl⟩ := hS.out.done (by have := hR.out.1; omega) (by have := hR.out.2; omega)
        go_wp2_with fail
        go_ret
        exact ⟨rfl, hO.below⟩
theorem walkThrottleOnce (v0 v1 : Value) (w : World) (h0 : Arg Try.prog w 22 v0) (h1 : Arg Try.prog w 45 v1) :
    Calls Try.prog 5 #[v0, v1] w fun e w' => e = .returned (.bool true) ∧ Below w.heap.size w w' := by
  obtain ⟨m, rfl, hm⟩ := h0.int Try.underlying22
  simp [Lit.wf, IntKind.min, IntKind.max, IntKind.signed, IntKind.bits] at hm
  obtain ⟨m, rfl⟩ : ∃ n : Nat, m = n := ⟨m.toNat, by omega⟩
  obtain ⟨ro, rc, rs, rfl, p1, p2, p4⟩ := h1.bools Try.underlying45 Try.underlying4 (by kernel_rfl)
  by_cases hl : rs.length ≤ 300
  · exact tonce_core m rs ro rc w (by omega) p1 p2 hl p4
  · unfold maxLen at p2
    clear p4
    have hl2 : 300 < rs.length := by omega
    go_enter Try.func5, Try.ntmps5
    go_wp2_with (go_at_call 24; refine (works20_any _).mono ?_; rintro e w1 ⟨rfl, hb1⟩)
    go_ret
    exact ⟨rfl, hb1⟩
end Go.Proofs.Ytooofpplhedgcaa
