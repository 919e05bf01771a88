/- The walk through the law ModelWalks. -/
import Derived.Test.YtofnjapgacgdlaaDqWorks
import Derived.Test.YtofnjapgacgdlaaWorks14
import Derived.Test.YtofnjapgacgdlaaArgs
set_option linter.unusedVariables false
set_option linter.unusedSimpArgs false
namespace Go.Proofs.Ytofnjapgacgdlaa
open Go.RowKit
set_option maxRecDepth 100000
set_option maxHeartbeats 8000000
/-- A store, the plan's cells, and a plain deque. -/
def MW (D : Int) (w0 w : World) (g b pb db : Nat) (M : Int) (ms xs : List Int) : Prop := ∃ bv, Own w0 w (storeA g b ms :: planA pb 3 D :: dqL db bv M xs [])
/-- The same with a walk. -/
def MDW (D : Int) (B : Nat) (w0 w : World) (g b wb pb db : Nat) (M : Int) (ms xs : List Int) (s : WS) : Prop := ∃ bv, DW 3 D 1 B w0 w g b wb ms s (planA pb 3 D :: dqL db bv M xs [])
theorem MDW.drop {D : Int} {B : Nat} {w0 w : World} {g b wb pb db : Nat} {M : Int} {ms xs : List Int} {s : WS} (h : MDW D B w0 w g b wb pb db M ms xs s) : MW D w0 w g b pb db M ms xs := h.elim fun bv h => ⟨bv, h.drop⟩
theorem MW.plan {D : Int} {w0 w : World} {g b pb db : Nat} {M : Int} {ms xs : List Int} (h : MW D w0 w g b pb db M ms xs) : w.cell? ⟨pb, 0, none⟩ = some (.int .i64 3) ∧ w.cell? ⟨pb, 1, none⟩ = some (.int .i64 1) ∧ w.cell? ⟨pb, 2, none⟩ = some (.int .i64 1) ∧ w.cell? ⟨pb, 3, none⟩ = some (.int .i64 D) := h.elim fun bv h => planC h
theorem MDW.plan {D : Int} {B : Nat} {w0 w : World} {g b wb pb db : Nat} {M : Int} {ms xs : List Int} {s : WS} (h : MDW D B w0 w g b wb pb db M ms xs s) : w.cell? ⟨pb, 0, none⟩ = some (.int .i64 3) ∧ w.cell? ⟨pb, 1, none⟩ = some (.int .i64 1) ∧ w.cell? ⟨pb, 2, none⟩ = some (.int .i64 1) ∧ w.cell? ⟨pb, 3, none⟩ = some (.int .i64 D) := h.drop.plan
theorem MW.old {D : Int} {w0 w : World} {g b pb db : Nat} {M : Int} {ms xs : List Int} (h : MW D w0 w g b pb db M ms xs) {p : Addr} {v : Value} (hp : w0.cell? p = some v) : w.cell? p = some v := h.elim fun bv h => h.old hp
theorem MW.below {D : Int} {w0 w : World} {g b pb db : Nat} {M : Int} {ms xs : List Int} (h : MW D w0 w g b pb db M ms xs) : Below w0.heap.size w0 w := h.elim fun bv h => h.below
theorem MDW.old {D : Int} {B : Nat} {w0 w : World} {g b wb pb db : Nat} {M : Int} {ms xs : List Int} {s : WS} (h : MDW D B w0 w g b wb pb db M ms xs s) {p : Addr} {v : Value} (hp : w0.cell? p = some v) : w.cell? p = some v := h.drop.old hp
theorem MW.drewN {D : Int} {w0 w : World} {g b pb db : Nat} {M : Int} {ms xs : List Int} (h : MW D w0 w g b pb db M ms xs) (n : Nat) : MW D w0 (w.drewN n) g b pb db M ms xs := h.elim fun bv h => ⟨bv, h.drewN n⟩
theorem MDW.drewN {D : Int} {B : Nat} {w0 w : World} {g b wb pb db : Nat} {M : Int} {ms xs : List Int} {s : WS} (h : MDW D B w0 w g b wb pb db M ms xs s) (n : Nat) : MDW D B w0 (w.drewN n) g b wb pb db M ms xs s := h.elim fun bv h => ⟨bv, h.drewN n⟩
theorem wPush {D : Int} {B : Nat} {w0 w : World} {g b pb db : Nat} {M : Int} {ms xs : List Int} (h : MW D w0 w g b pb db M ms xs) (t x : Int) :
    Calls Try.prog 28 #[.agg #[.int .i64 3, .int .i64 1, .int .i64 1, .int .i64 D], .int .i64 1, .int .i64 t, .int .i64 x] w fun e w' => ∃ wb, e = .returned (.pointer (some ⟨wb, 0, none⟩)) ∧ MDW D B w0 w' g b wb pb db M ms xs (push0 t x) := by
  obtain ⟨bv, h⟩ := h
  refine (qPush 3 D 1 B t x h).mono ?_
  rintro e w' ⟨wb, rfl, h'⟩
  exact ⟨wb, rfl, bv, h'⟩
theorem wPop {D : Int} {B : Nat} {w0 w : World} {g b pb db : Nat} {M : Int} {ms xs : List Int} (h : MW D w0 w g b pb db M ms xs) (t : Int) :
    Calls Try.prog 23 #[.agg #[.int .i64 3, .int .i64 1, .int .i64 1, .int .i64 D], .int .i64 1, .int .i64 t] w fun e w' => ∃ wb, e = .returned (.pointer (some ⟨wb, 0, none⟩)) ∧ MDW D B w0 w' g b wb pb db M ms xs (pop0 t) := by
  obtain ⟨bv, h⟩ := h
  refine (qPop 3 D 1 B t h).mono ?_
  rintro e w' ⟨wb, rfl, h'⟩
  exact ⟨wb, rfl, bv, h'⟩
theorem wSteal {D : Int} {B : Nat} {w0 w : World} {g b pb db : Nat} {M : Int} {ms xs : List Int} (h : MW D w0 w g b pb db M ms xs)  :
    Calls Try.prog 27 #[.agg #[.int .i64 3, .int .i64 1, .int .i64 1, .int .i64 D], .int .i64 1] w fun e w' => ∃ wb, e = .returned (.pointer (some ⟨wb, 0, none⟩)) ∧ MDW D B w0 w' g b wb pb db M ms xs (steal0) := by
  obtain ⟨bv, h⟩ := h
  refine (qSteal 3 D 1 B h).mono ?_
  rintro e w' ⟨wb, rfl, h'⟩
  exact ⟨wb, rfl, bv, h'⟩
theorem wRun {D : Int} {B : Nat} {w0 w : World} {g b wb pb db : Nat} {M : Int} {ms xs : List Int} {s : WS} (h : MDW D B w0 w g b wb pb db M ms xs s) (c : Cf 3 D 1 B ms.length) (hp : pcOk s.pc) (R : Nat × WS × List Int) (hR : runW B D 100 0 s ms = R) :
    Calls Try.prog 24 #[.pointer (some ⟨wb, 0, none⟩), .pointer (some ⟨g, 0, none⟩)] w fun e w' => e = .returned (.bool (R.2.1.pc == 99)) ∧ MDW D B w0 w' g b wb pb db M R.2.2 xs R.2.1 := by
  obtain ⟨bv, h⟩ := h
  refine (run14 c hp h R hR).mono ?_
  rintro e w' ⟨rfl, h'⟩
  exact ⟨rfl, bv, h'⟩
theorem wGot {D : Int} {B : Nat} {w0 w : World} {g b wb pb db : Nat} {M : Int} {ms xs : List Int} {s : WS} (h : MDW D B w0 w g b wb pb db M ms xs s) : Calls Try.prog 25 #[.pointer (some ⟨wb, 0, none⟩)] w fun e w' => e = .returned (.tuple #[.int .i64 (gotV s).1, .bool (gotV s).2]) ∧ w = w' := by
  obtain ⟨bv, h⟩ := h; exact qGot h
theorem wFull {D : Int} {B : Nat} {w0 w : World} {g b wb pb db : Nat} {M : Int} {ms xs : List Int} {s : WS} (h : MDW D B w0 w g b wb pb db M ms xs s) : Calls Try.prog 29 #[.pointer (some ⟨wb, 0, none⟩)] w fun e w' => e = .returned (.bool s.full) ∧ w = w' := by
  obtain ⟨bv, h⟩ := h; exact qFull h
theorem wTail {D : Int} {B : Nat} {w0 w : World} {g b wb pb db : Nat} {M : Int} {ms xs : List Int} {s : WS} (h : MDW D B w0 w g b wb pb db M ms xs s) : Calls Try.prog 26 #[.pointer (some ⟨wb, 0, none⟩)] w fun e w' => e = .returned (.int .i64 s.t) ∧ w = w' := by
  obtain ⟨bv, h⟩ := h; exact qTail h
theorem MDW.open {D : Int} {B : Nat} {w0 w : World} {g b wb pb db : Nat} {M : Int} {ms xs : List Int} {s : WS} (h : MDW D B w0 w g b wb pb db M ms xs s) : ∃ cs bx, ((pcOk s.pc ∨ s.pc = 99) ∧ WkIs 3 D 1 B wb s cs bx) ∧ DOwn w0 w db M xs [storeA g b ms, walkA wb cs bx, planA pb 3 D] := by
  obtain ⟨bv, hp, cs, bx, hk, hO⟩ := h
  exact ⟨cs, bx, ⟨hp, hk⟩, bv, hO.pm (List.perm_append_comm (l₁ := [_, _, _]) (l₂ := [_, _]))⟩
theorem MDW.close {D : Int} {B : Nat} {w0 w : World} {g b wb pb db : Nat} {M : Int} {ms xs : List Int} {s : WS} {cs : Array Value} {bx : List (Nat × Value × TypeId)} (h1 : (pcOk s.pc ∨ s.pc = 99) ∧ WkIs 3 D 1 B wb s cs bx) (h2 : DOwn w0 w db M xs [storeA g b ms, walkA wb cs bx, planA pb 3 D]) : MDW D B w0 w g b wb pb db M ms xs s := by
  obtain ⟨bv, hO⟩ := h2
  exact ⟨bv, h1.1, cs, bx, h1.2, hO.pm (List.perm_append_comm (l₁ := [_, _]) (l₂ := [_, _, _]))⟩
theorem wMPush {D : Int} {B : Nat} {w0 w : World} {g b wb pb db : Nat} {M : Int} {ms xs : List Int} {s : WS} (h : MDW D B w0 w g b wb pb db M ms xs s) (x : Int) (hM : M ≤ 1000) (hle : (xs.length : Int) ≤ M) : Calls Try.prog 16 #[.pointer (some ⟨db, 0, none⟩), .int .i64 x] w fun e w' => e = .returned (.bool (decide ((xs.length : Int) < M))) ∧ MDW D B w0 w' g b wb pb db M ms (if (xs.length : Int) < M then xs ++ [x] else xs) s := by
  obtain ⟨cs, bx, h1, h2⟩ := h.open
  by_cases c : (xs.length : Int) < M
  · rw [if_pos c]
    refine (dPush_yes h2 x c hM).mono ?_
    rintro e w' ⟨rfl, h3⟩
    exact ⟨by rw [decide_eq_true c], .close h1 h3⟩
  · rw [if_neg c]
    refine (dPush_no h2 x (by omega)).mono ?_
    rintro e w' ⟨rfl, h3⟩
    exact ⟨by rw [decide_eq_false c], .close h1 h3⟩
theorem wMPop_yes {D : Int} {B : Nat} {w0 w : World} {g b wb pb db : Nat} {M : Int} {ms ys : List Int} {y : Int} {s : WS} (h : MDW D B w0 w g b wb pb db M ms (ys ++ [y]) s) (hl : ys.length < 1000) : Calls Try.prog 14 #[.pointer (some ⟨db, 0, none⟩)] w fun e w' => e = .returned (.tuple #[.int .i64 y, .bool true]) ∧ MDW D B w0 w' g b wb pb db M ms ys s := by
  obtain ⟨cs, bx, h1, h2⟩ := h.open
  refine (dPop_yes h2 (by simp) (by simp; omega)).mono ?_
  rintro e w' ⟨rfl, h3⟩
  refine ⟨by simp, .close h1 ?_⟩
  rw [show (ys ++ [y]).eraseIdx ((ys ++ [y]).length - 1) = ys by simp [List.eraseIdx_append_of_length_le]] at h3
  exact h3
theorem wMPop_no {D : Int} {B : Nat} {w0 w : World} {g b wb pb db : Nat} {M : Int} {ms : List Int} {s : WS} (h : MDW D B w0 w g b wb pb db M ms [] s) : Calls Try.prog 14 #[.pointer (some ⟨db, 0, none⟩)] w fun e w' => e = .returned (.tuple #[.int .i64 0, .bool false]) ∧ w = w' := by
  obtain ⟨cs, bx, h1, h2⟩ := h.open
  exact dPop_no h2
theorem wMSteal_yes {D : Int} {B : Nat} {w0 w : World} {g b wb pb db : Nat} {M : Int} {ms ys : List Int} {y : Int} {s : WS} (h : MDW D B w0 w g b wb pb db M ms (y :: ys) s) (hl : ys.length < 1000) : Calls Try.prog 15 #[.pointer (some ⟨db, 0, none⟩)] w fun e w' => e = .returned (.tuple #[.int .i64 y, .bool true]) ∧ MDW D B w0 w' g b wb pb db M ms ys s := by
  obtain ⟨cs, bx, h1, h2⟩ := h.open
  refine (dSteal_yes h2 (by simp) (by simp; omega)).mono ?_
  rintro e w' ⟨rfl, h3⟩
  exact ⟨by simp, .close h1 (by simpa using h3)⟩
theorem wMSteal_no {D : Int} {B : Nat} {w0 w : World} {g b wb pb db : Nat} {M : Int} {ms : List Int} {s : WS} (h : MDW D B w0 w g b wb pb db M ms [] s) : Calls Try.prog 15 #[.pointer (some ⟨db, 0, none⟩)] w fun e w' => e = .returned (.tuple #[.int .i64 0, .bool false]) ∧ w = w' := by
  obtain ⟨cs, bx, h1, h2⟩ := h.open
  exact dSteal_no h2
theorem cf3 {D : Nat} (h : 2 ≤ D ∧ D ≤ 10) {m : Nat} (hm : (m : Int) = sizeV 3 1 1 D) : Cf 3 D 1 (D + 4) m := by
  refine ⟨by unfold okPlan; rw [decide_eq_true_eq]; omega, ?_, ?_, ?_⟩
  · have : clamp 1 0 (3 - 1) = 1 := by decide
    unfold baseV
    rw [this]
    unfold wideV
    omega
  · rw [hm]; unfold sizeV wideV roomV; omega
  · have : (m : Int) ≤ 100000 := by rw [hm]; unfold sizeV wideV roomV; omega
    omega
theorem mwalks_core (a : Nat) (os : List (List Int)) (oo : Option Addr) (oc g0 off : Nat) (w : World) (ha : a < 256) (h1 : os.length ≤ oc) (h2 : oc ≤ maxLen) (hl : os.length ≤ 200)
    (ho : ∀ i, i < os.length → oo = some ⟨g0, off, none⟩ ∧ ∀ j, j < 2 → w.cell? ⟨g0, off + i * 2 + j, none⟩ = some (.int .i64 ((os.getD i []).getD j 0))) :
    Calls Try.prog 6 #[.int .u8 a, .slice oo os.length oc] w fun e w' => e = .returned (.bool true) ∧ Below w.heap.size w w' := by
  obtain ⟨D, hD⟩ : ∃ D : Nat, a % 9 + 2 = D := ⟨_, rfl⟩
  obtain ⟨A, hA⟩ : ∃ A : Nat, a % 9 = A := ⟨_, rfl⟩
  have hDb : 2 ≤ D ∧ D ≤ 10 := by omega
  have ok : okPlan 3 1 1 D = true := by unfold okPlan; rw [decide_eq_true_eq]; omega
  have i1 : IntKind.i64.wrap (a : Int) = (a : Int) := IntWalk.i64_in _ (by omega)
  have e1 : (a : Int).tmod 9 = (A : Int) := by rw [Int.tmod_eq_emod_of_nonneg (by omega)]; omega
  have e1b : (A : Int) + 2 = (D : Int) := by omega
  have hA9 : A < 9 := by omega
  clear hD hA
  unfold maxLen at h2
  replace ho := Lib.hid ho
  obtain ⟨N, hN⟩ : ∃ N : Nat, sizeV 3 1 1 D = (N : Int) := ⟨(sizeV 3 1 1 D).toNat, by unfold sizeV wideV roomV; omega⟩
  have hN2 : N ≤ 1000 ∧ D + 4 + 4 + D ≤ N := by
    have := hN
    unfold sizeV wideV roomV at this
    omega
  have cf := fun (m : Nat) (hm : m = N) => cf3 hDb (m := m) (by rw [hm, hN])
  have SZ := Lib.hid (fun w => hN ▸ size_ok ok w)
  have NW := Lib.hid (fun (w1 : World) (l : List Ast) (h : Own w w1 l) => own_new h N (List.replicate N 0) (by rw [show (min (max (N : Int) 0) 1048576).toNat = N by omega]))
  have MN := Lib.hid (fun (w1 : World) (l : List Ast) (h : Own w w1 l) => dNew_any ((D : Int) - 1) ((D : Int) - 1) (by omega) h)
  replace cf := Lib.hid cf
  clear hN ok
  go_enter Try.func6, Try.ntmps6
  go_wp2_with (go_at_call 12; refine (works14_any _).mono ?_; rintro e wa ⟨rfl, hb1⟩)
  have h1 := (Own.nil hb1).box #[.int .i64 3, .int .i64 1, .int .i64 1, .int .i64 D] 43
  clear hb1
  go_at_call 22
  refine (SZ.out _).mono ?_
  rintro e w2 ⟨rfl, hb2⟩
  have h2 := h1.grow hb2
  clear h1 hb2
  go_wp2_with fail
  go_at_call 21
  refine (NW.out _ _ h2).mono ?_
  rintro e w3 ⟨rfl, h3⟩
  have h4 := h3.sel [1, 0] (by decide)
  replace h4 : Own w w3 [storeA (w2.heap.size + 1) w2.heap.size (List.replicate N 0), planA wa.heap.size 3 D] := h4
  clear h2 h3
  generalize w2.heap.size = sb at *
  generalize wa.heap.size = pb at *
  generalize hg : sb + 1 = g at *
  clear hg
  obtain ⟨x0, x1, x2, x3⟩ := planC h4
  go_wp2_with (go_at_call 13; refine (MN.out _ _ h4).mono ?_; rintro e w5 ⟨db, rfl, h5⟩)
  have h6 : MW D w w5 g sb pb db ((D : Int) - 1) (List.replicate N 0) [] := h5.elim fun bv h => ⟨bv, h.pm (List.perm_append_comm (l₁ := [_, _]) (l₂ := [_, _]))⟩
  clear h4 h5 x0 x1 x2 x3
  replace h6 := Lib.hid h6
  go_loopw [8, 9] (fun tv kv wr => ∃ (k h : Nat) (xs : List Int), k ≤ os.length ∧ tv = .int .i64 ((h + xs.length : Nat) : Int) ∧ kv = .int .i64 k ∧ Hid (∃ ms, ms.length = N ∧ Quiet (D + 4) D ms h xs ∧ h + xs.length ≤ k ∧ MW D w wr g sb pb db ((D : Int) - 1) ms xs)) (fun _ kv _ => (os.length - intOf kv).toNat)
  case atStart => exact ⟨0, 0, [], by omega, rfl, rfl, Lib.hid ⟨_, by simp, quiet_zero (D + 4) D N (by omega) (by omega), by simp, h6.out⟩⟩
  case round =>
    clear h6
    obtain ⟨k, h, xs, hk, rfl, rfl, hH⟩ := hrel
    by_cases hlt : k < os.length
    · obtain ⟨rfl, hcell⟩ := ho.out k hlt
      have y0 := hcell 0 (by omega)
      have y1 := hcell 1 (by omega)
      rw [Nat.add_zero] at y0
      clear hcell
      generalize (os.getD k []).getD 0 0 = KK at *
      generalize (os.getD k []).getD 1 0 = X at *
      obtain ⟨ms, hl, hq, hhk, hO⟩ := hH.out
      clear hH
      have z0 := hO.old y0
      have z1 := hO.old y1
      have c0 := cf.out _ hl
      obtain ⟨p0, p1, p2, p3⟩ := hO.plan
      by_cases hK2 : KK = 2
      · subst hK2
        rcases List.eq_nil_or_concat xs with rfl | ⟨ys, y, rfl⟩
        · obtain ⟨m2, nn, r1, l1, q1⟩ := pop_none hq 91 0
          have RN := Lib.hid (fun (w1 : World) (wb : Nat) (h' : MDW D (D + 4) w w1 g sb wb pb db ((D : Int) - 1) ms [] (pop0 (h : Int))) => wRun h' c0 (.inr (.inl (show 10 ≤ 10 ∧ 10 ≤ 20 by decide))) _ r1)
          have PU := Lib.hid (wPop (B := D + 4) hO (h : Int))
          rw [hl] at l1
          replace l1 := Lib.hid l1
          replace q1 := Lib.hid q1
          simp only [List.length_nil, Nat.add_zero] at *
          clear hO hq hl r1 c0
          go_wp2_with (first | (go_at_call 23; refine PU.out.mono ?_; rintro e w5 ⟨wb, rfl, h5⟩; replace h5 := Lib.hid h5) | (go_at_call 24; refine (RN.out _ _ h5.out).mono ?_; rintro e w6 ⟨rfl, h6⟩; replace h6 := Lib.hid h6) | (go_at_call 25; refine (wGot h6.out).mono ?_; rintro e w7 ⟨rfl, rfl⟩) | (go_at_call 26; refine (wTail h6.out).mono ?_; rintro e w7 ⟨rfl, rfl⟩) | (go_at_call 14; refine (wMPop_no h6.out).mono ?_; rintro e w7 ⟨rfl, rfl⟩))
          go_roundw
          case rel => exact ⟨k + 1, h, [], by omega, rfl, by go_num, Lib.hid ⟨m2, l1.out, q1.out, by simp; omega, h6.out.drop⟩⟩
          case measure => simp [intOf]; omega
        · rw [List.concat_eq_append] at *
          obtain ⟨m2, r1, l1, q1⟩ := pop_last hq 97 0
          have RN := Lib.hid (fun (w1 : World) (wb : Nat) (h' : MDW D (D + 4) w w1 g sb wb pb db ((D : Int) - 1) ms (ys ++ [y]) (pop0 ((h + (ys ++ [y]).length : Nat) : Int))) => wRun h' c0 (.inr (.inl (show 10 ≤ 10 ∧ 10 ≤ 20 by decide))) _ r1)
          have PU := Lib.hid (wPop (B := D + 4) hO ((h + (ys ++ [y]).length : Nat) : Int))
          rw [hl] at l1
          replace l1 := Lib.hid l1
          replace q1 := Lib.hid q1
          have hyl : ys.length < 1000 := by simp at hhk; omega
          have hhk2 := Lib.hid (show h + ys.length ≤ k + 1 by simp at hhk; omega)
          clear hO hq hl r1 c0 hhk
          generalize hT : ((h + (ys ++ [y]).length : Nat) : Int) = T at *
          clear hT
          have yb := Lib.hid hyl
          clear hyl
          go_wp2_with (first | (go_at_call 23; refine PU.out.mono ?_; rintro e w5 ⟨wb, rfl, h5⟩; replace h5 := Lib.hid h5) | (go_at_call 24; refine (RN.out _ _ h5.out).mono ?_; rintro e w6 ⟨rfl, h6⟩; replace h6 := Lib.hid h6) | (go_at_call 25; refine (wGot h6.out).mono ?_; simp only [gotV, and_self, if_true]; rintro e w7 ⟨rfl, rfl⟩) | (go_at_call 26; refine (wTail h8.out).mono ?_; rintro e w7 ⟨rfl, rfl⟩) | (go_at_call 14; refine (wMPop_yes h6.out yb.out).mono ?_; rintro e w8 ⟨rfl, h8⟩; replace h8 := Lib.hid h8))
          go_roundw
          case rel => exact ⟨k + 1, h, ys, by omega, rfl, by go_num, Lib.hid ⟨m2, l1.out, q1.out, hhk2.out, h8.out.drop⟩⟩
          case measure => simp [intOf]; omega
      · by_cases hK3 : KK = 3
        · subst hK3
          cases xs with
          | nil =>
            obtain ⟨m2, nn, r1, l1, q1⟩ := steal_none hq 93 0
            have RN := Lib.hid (fun (w1 : World) (wb : Nat) (h' : MDW D (D + 4) w w1 g sb wb pb db ((D : Int) - 1) ms [] steal0) => wRun h' c0 (.inr (.inr (show 30 ≤ 30 ∧ 30 ≤ 37 by decide))) _ r1)
            have PU := Lib.hid (wSteal (B := D + 4) hO)
            rw [hl] at l1
            replace l1 := Lib.hid l1
            replace q1 := Lib.hid q1
            clear hO hq hl r1 c0
            go_wp2_with (first | (go_at_call 27; refine PU.out.mono ?_; rintro e w5 ⟨wb, rfl, h5⟩; replace h5 := Lib.hid h5) | (go_at_call 24; refine (RN.out _ _ h5.out).mono ?_; rintro e w6 ⟨rfl, h6⟩; replace h6 := Lib.hid h6) | (go_at_call 25; refine (wGot h6.out).mono ?_; rintro e w7 ⟨rfl, rfl⟩) | (go_at_call 15; refine (wMSteal_no h6.out).mono ?_; rintro e w7 ⟨rfl, rfl⟩))
            go_roundw
            case rel => exact ⟨k + 1, h, [], by omega, rfl, by go_num, Lib.hid ⟨m2, l1.out, q1.out, by simp at hhk ⊢; omega, h6.out.drop⟩⟩
            case measure => simp [intOf]; omega
          | cons y ys =>
            obtain ⟨m2, nn, r1, l1, q1⟩ := steal_first hq 93 0
            have RN := Lib.hid (fun (w1 : World) (wb : Nat) (h' : MDW D (D + 4) w w1 g sb wb pb db ((D : Int) - 1) ms (y :: ys) steal0) => wRun h' c0 (.inr (.inr (show 30 ≤ 30 ∧ 30 ≤ 37 by decide))) _ r1)
            have PU := Lib.hid (wSteal (B := D + 4) hO)
            rw [hl] at l1
            replace l1 := Lib.hid l1
            replace q1 := Lib.hid q1
            have yb := Lib.hid (show ys.length < 1000 by simp at hhk; omega)
            have hhk2 := Lib.hid (show h + 1 + ys.length ≤ k + 1 by simp at hhk; omega)
            clear hO hq hl r1 c0 hhk
            go_wp2_with (first | (go_at_call 27; refine PU.out.mono ?_; rintro e w5 ⟨wb, rfl, h5⟩; replace h5 := Lib.hid h5) | (go_at_call 24; refine (RN.out _ _ h5.out).mono ?_; rintro e w6 ⟨rfl, h6⟩; replace h6 := Lib.hid h6) | (go_at_call 25; refine (wGot h6.out).mono ?_; simp only [gotV, and_self, if_true]; rintro e w7 ⟨rfl, rfl⟩) | (go_at_call 15; refine (wMSteal_yes h6.out yb.out).mono ?_; rintro e w8 ⟨rfl, h8⟩; replace h8 := Lib.hid h8))
            go_roundw
            case rel => exact ⟨k + 1, h + 1, ys, by omega, by simp; omega, by go_num, Lib.hid ⟨m2, l1.out, q1.out, hhk2.out, h8.out.drop⟩⟩
            case measure => simp [intOf]; omega
        · have hroom := hq.room
          have hfar : h + xs.length < 100000 := by omega
          have PP : ∃ m' s', runW (D + 4) D 100 0 (push0 ((h + xs.length : Nat) : Int) X) ms = ((if xs.length + 1 < D then 2 else 0), s', m') ∧ s'.pc = 99 ∧ s'.full = decide (¬ ((xs.length : Int) < (D : Int) - 1)) ∧ s'.t = ((h + (if (xs.length : Int) < (D : Int) - 1 then xs ++ [X] else xs).length : Nat) : Int) ∧ m'.length = ms.length ∧ Quiet (D + 4) D m' h (if (xs.length : Int) < (D : Int) - 1 then xs ++ [X] else xs) := by
            by_cases c : (xs.length : Int) < (D : Int) - 1
            · rw [if_pos c, if_pos (by omega)]
              obtain ⟨m', r1, l1, q1⟩ := push_room hq X (by omega) hfar 97 0
              exact ⟨m', _, r1, rfl, by simp; omega, rfl, l1, q1⟩
            · rw [if_neg c, if_neg (by omega)]
              have r1 := push_full hq X (by omega) 99 0
              exact ⟨ms, _, r1, rfl, by simp; omega, rfl, rfl, hq⟩
          obtain ⟨m2, s2, r1, p99, pfull, pt, l1, q1⟩ := PP
          have RN := Lib.hid (fun (w1 : World) (wb : Nat) (h' : MDW D (D + 4) w w1 g sb wb pb db ((D : Int) - 1) ms xs (push0 ((h + xs.length : Nat) : Int) X)) => wRun h' c0 (.inl (Nat.zero_le 2)) _ r1)
          have PU := Lib.hid (fun (w1 : World) (h' : MW D w w1 g sb pb db ((D : Int) - 1) ms xs) => wPush (B := D + 4) h' ((h + xs.length : Nat) : Int) X)
          have MP := Lib.hid (fun (w1 : World) (wb : Nat) (h' : MDW D (D + 4) w w1 g sb wb pb db ((D : Int) - 1) m2 xs s2) => wMPush h' X (by omega) (by omega))
          have hlen2 := Lib.hid (show h + (if (xs.length : Int) < (D : Int) - 1 then xs ++ [X] else xs).length ≤ k + 1 by (split <;> (try simp only [List.length_append, List.length_cons, List.length_nil])) <;> omega)
          rw [hl] at l1
          replace l1 := Lib.hid l1
          replace q1 := Lib.hid q1
          replace pt := Lib.hid pt
          generalize (if (xs.length : Int) < (D : Int) - 1 then xs ++ [X] else xs) = zs at *
          generalize ((h + xs.length : Nat) : Int) = T at *
          generalize hbb : decide ((xs.length : Int) < (D : Int) - 1) = bb at *
          have hbf : s2.full = !bb := by rw [pfull, ← hbb]; exact decide_not
          dsimp only at RN
          rw [show (s2.pc == 99) = true by rw [p99]; rfl] at RN
          have hS0 := (show (fun w' : World => w'.cell? ⟨pb, 0, none⟩ = some (.int .i64 3) ∧ w'.cell? ⟨pb, 1, none⟩ = some (.int .i64 1) ∧ w'.cell? ⟨pb, 2, none⟩ = some (.int .i64 1) ∧ w'.cell? ⟨pb, 3, none⟩ = some (.int .i64 (D : Int)) ∧ w'.cell? ⟨g0, off + k * 2 + 1, none⟩ = some (.int .i64 X)) _ from ⟨(hO.drewN 1).plan.1, (hO.drewN 1).plan.2.1, (hO.drewN 1).plan.2.2.1, (hO.drewN 1).plan.2.2.2, (hO.drewN 1).old y1⟩)
          have hO1 := hO.drewN 1
          clear hO hq hl r1 c0 hhk hroom hfar pfull p99 hbb
          go_wp2_with fail
          refine lin_start (S := (fun w' : World => w'.cell? ⟨pb, 0, none⟩ = some (.int .i64 3) ∧ w'.cell? ⟨pb, 1, none⟩ = some (.int .i64 1) ∧ w'.cell? ⟨pb, 2, none⟩ = some (.int .i64 1) ∧ w'.cell? ⟨pb, 3, none⟩ = some (.int .i64 (D : Int)) ∧ w'.cell? ⟨g0, off + k * 2 + 1, none⟩ = some (.int .i64 X))) rfl 9 rfl hS0 ?_
          simp only [numbered, Nat.zero_add, Nat.reduceAdd]
          refine lin_take (v := ?_) (by kernel_rfl) (by kernel_rfl) (fun _ _ _ h => h) (Or.inl ⟨by rfl, ?_⟩) (by assumption) ?_; (rotate_left; (intro wS hSw; (try dsimp only at hSw); go_simp; (try with_reducible rfl)); rotate_left); simp only [Act.put, List.setIfInBounds_toArray, List.set_cons_zero, List.set_cons_succ]
          refine lin_take (v := ?_) (by kernel_rfl) (by kernel_rfl) (fun _ _ _ h => h) (Or.inl ⟨by rfl, ?_⟩) (by assumption) ?_; (rotate_left; (intro wS hSw; (try dsimp only at hSw); go_simp; (try with_reducible rfl)); rotate_left); simp only [Act.put, List.setIfInBounds_toArray, List.set_cons_zero, List.set_cons_succ]
          refine lin_take (v := ?_) (by kernel_rfl) (by kernel_rfl) (fun _ _ _ h => h) (Or.inl ⟨by rfl, ?_⟩) (by assumption) ?_; (rotate_left; (intro wS hSw; (try dsimp only at hSw); go_simp; (try with_reducible rfl)); rotate_left); simp only [Act.put, List.setIfInBounds_toArray, List.set_cons_zero, List.set_cons_succ]
          refine lin_take (v := ?_) (by kernel_rfl) (by kernel_rfl) (fun _ _ _ h => h) (Or.inl ⟨by rfl, ?_⟩) (by assumption) ?_; (rotate_left; (intro wS hSw; (try dsimp only at hSw); go_simp; (try with_reducible rfl)); rotate_left); simp only [Act.put, List.setIfInBounds_toArray, List.set_cons_zero, List.set_cons_succ]
          refine lin_take (v := ?_) (by kernel_rfl) (by kernel_rfl) (fun _ _ _ h => h) (Or.inl ⟨by rfl, ?_⟩) (by assumption) ?_; (rotate_left; (intro wS hSw; (try dsimp only at hSw); go_simp; (try with_reducible rfl)); rotate_left); simp only [Act.put, List.setIfInBounds_toArray, List.set_cons_zero, List.set_cons_succ]
          refine lin_take (v := ?_) (by kernel_rfl) (by kernel_rfl) (fun _ _ _ h => h) (Or.inl ⟨by rfl, ?_⟩) (by assumption) ?_; (rotate_left; (intro wS hSw; (try dsimp only at hSw); go_simp; (try with_reducible rfl)); rotate_left); simp only [Act.put, List.setIfInBounds_toArray, List.set_cons_zero, List.set_cons_succ]
          refine lin_take (v := ?_) (by kernel_rfl) (by kernel_rfl) (fun _ _ _ h => h) (Or.inl ⟨by rfl, ?_⟩) (by assumption) ?_; (rotate_left; (intro wS hSw; (try dsimp only at hSw); go_simp; (try with_reducible rfl)); rotate_left); simp only [Act.put, List.setIfInBounds_toArray, List.set_cons_zero, List.set_cons_succ]
          refine lin_sole (by kernel_rfl) (fun K hK => ?_)
          go_simp
          refine (PU.out _ hO1).mono ?_
          rintro e w5 ⟨wb, rfl, h5⟩
          obtain ⟨x0, x1, x2, x3⟩ := h5.plan
          have z1 := h5.old y1
          refine hK.out _ _ ⟨x0, x1, x2, x3, z1⟩ (fun hHeld => ?_)
          try simp only [Act.put, List.setIfInBounds_toArray, List.set_cons_zero, List.set_cons_succ]
          clear hK
          refine lin_take (v := ?_) (by kernel_rfl) (by kernel_rfl) (fun _ _ _ h => h) (Or.inl ⟨by rfl, ?_⟩) (by assumption) ?_; (rotate_left; (intro wS hSw; (try dsimp only at hSw); go_simp; (try with_reducible rfl)); rotate_left); simp only [Act.put, List.setIfInBounds_toArray, List.set_cons_zero, List.set_cons_succ]
          refine lin_done (by kernel_rfl) ?_
          go_wp2_with fail
          have h6 := h5.drewN 1
          have hS1 := (show (fun w' : World => w'.cell? ⟨g0, off + k * 2 + 1, none⟩ = some (.int .i64 X)) _ from h6.old y1)
          clear h5 x0 x1 x2 x3
          obtain ⟨pc2, t2, xx2, hh2, n2, got2, full2⟩ := s2
          dsimp only at *
          subst hbf
          cases bb
          · simp only [Bool.not_false] at *
            refine lin_start (S := (fun w' : World => w'.cell? ⟨g0, off + k * 2 + 1, none⟩ = some (.int .i64 X))) rfl 16 rfl hS1 ?_
            simp only [numbered, Nat.zero_add, Nat.reduceAdd]
            refine lin_take (v := ?_) (by kernel_rfl) (by kernel_rfl) (fun _ _ _ h => h) (Or.inl ⟨by rfl, ?_⟩) (by assumption) ?_; (rotate_left; (intro wS hSw; (try dsimp only at hSw); go_simp; (try with_reducible rfl)); rotate_left); simp only [Act.put, List.setIfInBounds_toArray, List.set_cons_zero, List.set_cons_succ]
            refine lin_take (v := ?_) (by kernel_rfl) (by kernel_rfl) (fun _ _ _ h => h) (Or.inl ⟨by rfl, ?_⟩) (by assumption) ?_; (rotate_left; (intro wS hSw; (try dsimp only at hSw); go_simp; (try with_reducible rfl)); rotate_left); simp only [Act.put, List.setIfInBounds_toArray, List.set_cons_zero, List.set_cons_succ]
            refine lin_sole (by kernel_rfl) (fun K hK => ?_)
            go_simp
            refine (RN.out _ _ h6).mono ?_
            rintro e w6 ⟨rfl, h7⟩
            have z2 := h7.old y1
            refine hK.out _ _ z2 (fun hHeld => ?_)
            try simp only [Act.put, List.setIfInBounds_toArray, List.set_cons_zero, List.set_cons_succ]
            clear hK
            refine lin_take (v := ?_) (by kernel_rfl) (by kernel_rfl) (fun _ _ _ h => h) (Or.inl ⟨by rfl, ?_⟩) (by assumption) ?_; (rotate_left; (intro wS hSw; (try dsimp only at hSw); go_simp; (try with_reducible rfl)); rotate_left); simp only [Act.put, List.setIfInBounds_toArray, List.set_cons_zero, List.set_cons_succ]
            refine lin_take (v := ?_) (by kernel_rfl) (by kernel_rfl) (fun _ _ _ h => h) (Or.inl ⟨by rfl, ?_⟩) (by assumption) ?_; (rotate_left; (intro wS hSw; (try dsimp only at hSw); go_simp; (try with_reducible rfl)); rotate_left); simp only [Act.put, List.setIfInBounds_toArray, List.set_cons_zero, List.set_cons_succ]
            refine lin_take (v := ?_) (by kernel_rfl) (by kernel_rfl) (fun _ _ _ h => h) (Or.inl ⟨by rfl, ?_⟩) (by assumption) ?_; (rotate_left; (intro wS hSw; (try dsimp only at hSw); go_simp; (try with_reducible rfl)); rotate_left); simp only [Act.put, List.setIfInBounds_toArray, List.set_cons_zero, List.set_cons_succ]
            refine lin_rot ?_; simp only [List.cons_append, List.nil_append]
            refine lin_take (v := ?_) (by kernel_rfl) (by kernel_rfl) (fun _ _ _ h => h) (Or.inl ⟨by rfl, ?_⟩) (by assumption) ?_; (rotate_left; (intro wS hSw; (try dsimp only at hSw); go_simp; (try with_reducible rfl)); rotate_left); simp only [Act.put, List.setIfInBounds_toArray, List.set_cons_zero, List.set_cons_succ]
            refine lin_take (v := ?_) (by kernel_rfl) (by kernel_rfl) (fun _ _ _ h => h) (Or.inl ⟨by rfl, ?_⟩) (by assumption) ?_; (rotate_left; (intro wS hSw; (try dsimp only at hSw); go_simp; (try with_reducible rfl)); rotate_left); simp only [Act.put, List.setIfInBounds_toArray, List.set_cons_zero, List.set_cons_succ]
            refine lin_take (v := ?_) (by kernel_rfl) (by kernel_rfl) (fun _ _ _ h => h) (Or.inl ⟨by rfl, ?_⟩) (by assumption) ?_; (rotate_left; (intro wS hSw; (try dsimp only at hSw); go_simp; (try with_reducible rfl)); rotate_left); simp only [Act.put, List.setIfInBounds_toArray, List.set_cons_zero, List.set_cons_succ]
            refine lin_take (v := ?_) (by kernel_rfl) (by kernel_rfl) (fun _ _ _ h => h) (Or.inl ⟨by rfl, ?_⟩) (by assumption) ?_; (rotate_left; (intro wS hSw; (try dsimp only at hSw); go_simp; (try with_reducible rfl)); rotate_left); simp only [Act.put, List.setIfInBounds_toArray, List.set_cons_zero, List.set_cons_succ]
            refine lin_take (v := ?_) (by kernel_rfl) (by kernel_rfl) (fun _ _ _ h => h) (Or.inl ⟨by rfl, ?_⟩) (by assumption) ?_; (rotate_left; (intro wS hSw; (try dsimp only at hSw); go_simp; (try with_reducible rfl)); rotate_left); simp only [Act.put, List.setIfInBounds_toArray, List.set_cons_zero, List.set_cons_succ]
            refine lin_take (v := ?_) (by kernel_rfl) (by kernel_rfl) (fun _ _ _ h => h) (Or.inl ⟨by rfl, ?_⟩) (by assumption) ?_; (rotate_left; (intro wS hSw; (try dsimp only at hSw); go_simp; (try with_reducible rfl)); rotate_left); simp only [Act.put, List.setIfInBounds_toArray, List.set_cons_zero, List.set_cons_succ]
            refine lin_rot ?_; simp only [List.cons_append, List.nil_append]
            refine lin_rot ?_; simp only [List.cons_append, List.nil_append]
            refine lin_rot ?_; simp only [List.cons_append, List.nil_append]
            refine lin_sole (by kernel_rfl) (fun K hK => ?_)
            go_simp
            refine (wFull h7).mono ?_
            rintro e w7 ⟨rfl, rfl⟩
            refine hK.out _ _ z2 (fun hHeld => ?_)
            try simp only [Act.put, List.setIfInBounds_toArray, List.set_cons_zero, List.set_cons_succ]
            clear hK
            refine lin_sole (by kernel_rfl) (fun K hK => ?_)
            go_simp
            refine (MP.out _ _ h7).mono ?_
            rintro e w8 ⟨rfl, h8⟩
            have z3 := h8.old y1
            refine hK.out _ _ z3 (fun hHeld => ?_)
            try simp only [Act.put, List.setIfInBounds_toArray, List.set_cons_zero, List.set_cons_succ]
            clear hK
            refine lin_take (v := ?_) (by kernel_rfl) (by kernel_rfl) (fun _ _ _ h => h) (Or.inl ⟨by rfl, ?_⟩) (by assumption) ?_; (rotate_left; (intro wS hSw; (try dsimp only at hSw); go_simp; (try with_reducible rfl)); rotate_left); simp only [Act.put, List.setIfInBounds_toArray, List.set_cons_zero, List.set_cons_succ]
            refine lin_take (v := ?_) (by kernel_rfl) (by kernel_rfl) (fun _ _ _ h => h) (Or.inl ⟨by rfl, ?_⟩) (by assumption) ?_; (rotate_left; (intro wS hSw; (try dsimp only at hSw); go_simp; (try with_reducible rfl)); rotate_left); simp only [Act.put, List.setIfInBounds_toArray, List.set_cons_zero, List.set_cons_succ]
            refine lin_done (by kernel_rfl) ?_
            go_wp2_with fail
            replace h8 := Lib.hid h8
            go_wp2_with (go_at_call 26; refine (wTail h8.out).mono ?_; rintro e w9 ⟨rfl, rfl⟩)
            go_roundw
            case rel => exact ⟨k + 1, h, zs, by omega, by rw [pt.out], by go_num, Lib.hid ⟨m2, l1.out, q1.out, hlen2.out, h8.out.drop⟩⟩
            case measure => simp [intOf]; omega
          · simp only [Bool.not_true] at *
            refine lin_start (S := (fun w' : World => w'.cell? ⟨g0, off + k * 2 + 1, none⟩ = some (.int .i64 X))) rfl 16 rfl hS1 ?_
            simp only [numbered, Nat.zero_add, Nat.reduceAdd]
            refine lin_take (v := ?_) (by kernel_rfl) (by kernel_rfl) (fun _ _ _ h => h) (Or.inl ⟨by rfl, ?_⟩) (by assumption) ?_; (rotate_left; (intro wS hSw; (try dsimp only at hSw); go_simp; (try with_reducible rfl)); rotate_left); simp only [Act.put, List.setIfInBounds_toArray, List.set_cons_zero, List.set_cons_succ]
            refine lin_take (v := ?_) (by kernel_rfl) (by kernel_rfl) (fun _ _ _ h => h) (Or.inl ⟨by rfl, ?_⟩) (by assumption) ?_; (rotate_left; (intro wS hSw; (try dsimp only at hSw); go_simp; (try with_reducible rfl)); rotate_left); simp only [Act.put, List.setIfInBounds_toArray, List.set_cons_zero, List.set_cons_succ]
            refine lin_sole (by kernel_rfl) (fun K hK => ?_)
            go_simp
            refine (RN.out _ _ h6).mono ?_
            rintro e w6 ⟨rfl, h7⟩
            have z2 := h7.old y1
            refine hK.out _ _ z2 (fun hHeld => ?_)
            try simp only [Act.put, List.setIfInBounds_toArray, List.set_cons_zero, List.set_cons_succ]
            clear hK
            refine lin_take (v := ?_) (by kernel_rfl) (by kernel_rfl) (fun _ _ _ h => h) (Or.inl ⟨by rfl, ?_⟩) (by assumption) ?_; (rotate_left; (intro wS hSw; (try dsimp only at hSw); go_simp; (try with_reducible rfl)); rotate_left); simp only [Act.put, List.setIfInBounds_toArray, List.set_cons_zero, List.set_cons_succ]
            refine lin_take (v := ?_) (by kernel_rfl) (by kernel_rfl) (fun _ _ _ h => h) (Or.inl ⟨by rfl, ?_⟩) (by assumption) ?_; (rotate_left; (intro wS hSw; (try dsimp only at hSw); go_simp; (try with_reducible rfl)); rotate_left); simp only [Act.put, List.setIfInBounds_toArray, List.set_cons_zero, List.set_cons_succ]
            refine lin_take (v := ?_) (by kernel_rfl) (by kernel_rfl) (fun _ _ _ h => h) (Or.inl ⟨by rfl, ?_⟩) (by assumption) ?_; (rotate_left; (intro wS hSw; (try dsimp only at hSw); go_simp; (try with_reducible rfl)); rotate_left); simp only [Act.put, List.setIfInBounds_toArray, List.set_cons_zero, List.set_cons_succ]
            refine lin_rot ?_; simp only [List.cons_append, List.nil_append]
            refine lin_take (v := ?_) (by kernel_rfl) (by kernel_rfl) (fun _ _ _ h => h) (Or.inl ⟨by rfl, ?_⟩) (by assumption) ?_; (rotate_left; (intro wS hSw; (try dsimp only at hSw); go_simp; (try with_reducible rfl)); rotate_left); simp only [Act.put, List.setIfInBounds_toArray, List.set_cons_zero, List.set_cons_succ]
            refine lin_take (v := ?_) (by kernel_rfl) (by kernel_rfl) (fun _ _ _ h => h) (Or.inl ⟨by rfl, ?_⟩) (by assumption) ?_; (rotate_left; (intro wS hSw; (try dsimp only at hSw); go_simp; (try with_reducible rfl)); rotate_left); simp only [Act.put, List.setIfInBounds_toArray, List.set_cons_zero, List.set_cons_succ]
            refine lin_take (v := ?_) (by kernel_rfl) (by kernel_rfl) (fun _ _ _ h => h) (Or.inl ⟨by rfl, ?_⟩) (by assumption) ?_; (rotate_left; (intro wS hSw; (try dsimp only at hSw); go_simp; (try with_reducible rfl)); rotate_left); simp only [Act.put, List.setIfInBounds_toArray, List.set_cons_zero, List.set_cons_succ]
            refine lin_take (v := ?_) (by kernel_rfl) (by kernel_rfl) (fun _ _ _ h => h) (Or.inl ⟨by rfl, ?_⟩) (by assumption) ?_; (rotate_left; (intro wS hSw; (try dsimp only at hSw); go_simp; (try with_reducible rfl)); rotate_left); simp only [Act.put, List.setIfInBounds_toArray, List.set_cons_zero, List.set_cons_succ]
            refine lin_take (v := ?_) (by kernel_rfl) (by kernel_rfl) (fun _ _ _ h => h) (Or.inl ⟨by rfl, ?_⟩) (by assumption) ?_; (rotate_left; (intro wS hSw; (try dsimp only at hSw); go_simp; (try with_reducible rfl)); rotate_left); simp only [Act.put, List.setIfInBounds_toArray, List.set_cons_zero, List.set_cons_succ]
            refine lin_take (v := ?_) (by kernel_rfl) (by kernel_rfl) (fun _ _ _ h => h) (Or.inl ⟨by rfl, ?_⟩) (by assumption) ?_; (rotate_left; (intro wS hSw; (try dsimp only at hSw); go_simp; (try with_reducible rfl)); rotate_left); simp only [Act.put, List.setIfInBounds_toArray, List.set_cons_zero, List.set_cons_succ]
            refine lin_rot ?_; simp only [List.cons_append, List.nil_append]
            refine lin_rot ?_; simp only [List.cons_append, List.nil_append]
            refine lin_rot ?_; simp only [List.cons_append, List.nil_append]
            refine lin_sole (by kernel_rfl) (fun K hK => ?_)
            go_simp
            refine (wFull h7).mono ?_
            rintro e w7 ⟨rfl, rfl⟩
            refine hK.out _ _ z2 (fun hHeld => ?_)
            try simp only [Act.put, List.setIfInBounds_toArray, List.set_cons_zero, List.set_cons_succ]
            clear hK
            refine lin_sole (by kernel_rfl) (fun K hK => ?_)
            go_simp
            refine (MP.out _ _ h7).mono ?_
            rintro e w8 ⟨rfl, h8⟩
            have z3 := h8.old y1
            refine hK.out _ _ z3 (fun hHeld => ?_)
            try simp only [Act.put, List.setIfInBounds_toArray, List.set_cons_zero, List.set_cons_succ]
            clear hK
            refine lin_take (v := ?_) (by kernel_rfl) (by kernel_rfl) (fun _ _ _ h => h) (Or.inl ⟨by rfl, ?_⟩) (by assumption) ?_; (rotate_left; (intro wS hSw; (try dsimp only at hSw); go_simp; (try with_reducible rfl)); rotate_left); simp only [Act.put, List.setIfInBounds_toArray, List.set_cons_zero, List.set_cons_succ]
            refine lin_take (v := ?_) (by kernel_rfl) (by kernel_rfl) (fun _ _ _ h => h) (Or.inl ⟨by rfl, ?_⟩) (by assumption) ?_; (rotate_left; (intro wS hSw; (try dsimp only at hSw); go_simp; (try with_reducible rfl)); rotate_left); simp only [Act.put, List.setIfInBounds_toArray, List.set_cons_zero, List.set_cons_succ]
            refine lin_done (by kernel_rfl) ?_
            go_wp2_with fail
            replace h8 := Lib.hid h8
            go_wp2_with (go_at_call 26; refine (wTail h8.out).mono ?_; rintro e w9 ⟨rfl, rfl⟩)
            go_roundw
            case rel => exact ⟨k + 1, h, zs, by omega, by rw [pt.out], by go_num, Lib.hid ⟨m2, l1.out, q1.out, hlen2.out, h8.out.drop⟩⟩
            case measure => simp [intOf]; omega
    · obtain rfl : k = os.length := by omega
      obtain ⟨ms, hl, hq, hhk, hO⟩ := hH.out
      have hB := Lib.hid hO.below
      clear hO hq hH
      go_wp2_with fail
      go_ret
      exact ⟨rfl, hB.out⟩
theorem walkModelWalks (v0 v1 : Value) (w : World) (h0 : Arg Try.prog w 5 v0) (h1 : Arg Try.prog w 22 v1) :
    Calls Try.prog 6 #[v0, v1] w fun e w' => e = .returned (.bool true) ∧ Below w.heap.size w w' := by
  obtain ⟨m, rfl, hm⟩ := h0.int Try.underlying5
  simp [Lit.wf, IntKind.min, IntKind.max, IntKind.signed, IntKind.bits] at hm
  obtain ⟨m, rfl⟩ : ∃ k : Nat, m = k := ⟨m.toNat, by omega⟩
  obtain ⟨oo, oc, os, rfl, p1, p2, _, g, off, p4⟩ := h1.structs' 2 Try.underlying22 (by kernel_rfl) Try.underlying3 (by kernel_rfl) (by kernel_rfl) (by omega)
  by_cases hl : os.length ≤ 200
  · exact mwalks_core m os oo oc g off w (by omega) p1 p2 hl p4
  · unfold maxLen at p2
    clear p4
    have hl2 : 200 < os.length := by omega
    go_enter Try.func6, Try.ntmps6
    go_wp2_with (go_at_call 12; refine (works14_any _).mono ?_; rintro e w1 ⟨rfl, hb1⟩)
    go_ret
    exact ⟨rfl, hb1⟩
end Go.Proofs.Ytofnjapgacgdlaa
