/- Package deque: walks that go alone to their ends. -/
import Derived.Test.YtofnjapgacgdlaaDq6
set_option linter.unusedVariables false
set_option linter.unusedSimpArgs false
namespace Go.Proofs.Ytofnjapgacgdlaa
open Go.RowKit
set_option maxRecDepth 100000
set_option maxHeartbeats 8000000
/-- A store's words, a walk, and what else there is. -/
def DW (W D k : Int) (B : Nat) (w0 w : World) (g b wb : Nat) (ms : List Int) (s : WS) (l : List Ast) : Prop :=
  (pcOk s.pc ∨ s.pc = 99) ∧ ∃ cs bx, WkIs W D k B wb s cs bx ∧ Own w0 w (storeA g b ms :: walkA wb cs bx :: l)
theorem DW.drop {W D k : Int} {B : Nat} {w0 w : World} {g b wb : Nat} {ms : List Int} {s : WS} {l : List Ast} (h : DW W D k B w0 w g b wb ms s l) : Own w0 w (storeA g b ms :: l) := by
  obtain ⟨-, cs, bx, -, hO⟩ := h
  exact hO.sub (.cons_cons _ (.cons _ (List.Sublist.refl _)))
theorem DW.drewN {W D k : Int} {B : Nat} {w0 w : World} {g b wb : Nat} {ms : List Int} {s : WS} {l : List Ast} (h : DW W D k B w0 w g b wb ms s l) (n : Nat) : DW W D k B w0 (w.drewN n) g b wb ms s l := by
  obtain ⟨h1, cs, bx, h2, hO⟩ := h
  exact ⟨h1, cs, bx, h2, hO.drewN n⟩
theorem DW.cell {W D k : Int} {B : Nat} {w0 w : World} {g b wb : Nat} {ms : List Int} {s : WS} {l : List Ast} (h : DW W D k B w0 w g b wb ms s l) (i : Nat) {q : Nat} {cs : Array Value} {t : TypeId} (hi : l[i]? = some (cellsA q cs t)) (j : Nat) : w.cell? ⟨q, j, none⟩ = cs[j]? := (h.drop.cget (i + 1) hi j).1
theorem qPush (W D k : Int) (B : Nat) (t x : Int) {w0 w : World} {g b : Nat} {ms : List Int} {l : List Ast} (h : Own w0 w (storeA g b ms :: l)) :
    Calls Try.prog 28 #[.agg #[.int .i64 W, .int .i64 1, .int .i64 1, .int .i64 D], .int .i64 k, .int .i64 t, .int .i64 x] w fun e w' => ∃ wb, e = .returned (.pointer (some ⟨wb, 0, none⟩)) ∧ DW W D k B w0 w' g b wb ms (push0 t x) l := by
  refine (dPush W D k B t x h).mono ?_
  rintro e w' ⟨wb, cs, bx, rfl, hk, hO⟩
  exact ⟨wb, rfl, .inl (.inl (Nat.zero_le 2)), cs, bx, hk, hO.pm (List.Perm.swap ..)⟩
theorem qPop (W D k : Int) (B : Nat) (t : Int) {w0 w : World} {g b : Nat} {ms : List Int} {l : List Ast} (h : Own w0 w (storeA g b ms :: l)) :
    Calls Try.prog 23 #[.agg #[.int .i64 W, .int .i64 1, .int .i64 1, .int .i64 D], .int .i64 k, .int .i64 t] w fun e w' => ∃ wb, e = .returned (.pointer (some ⟨wb, 0, none⟩)) ∧ DW W D k B w0 w' g b wb ms (pop0 t) l := by
  refine (dPop W D k B t h).mono ?_
  rintro e w' ⟨wb, cs, bx, rfl, hk, hO⟩
  exact ⟨wb, rfl, .inl (.inr (.inl (show 10 ≤ 10 ∧ 10 ≤ 20 by decide))), cs, bx, hk, hO.pm (List.Perm.swap ..)⟩
theorem qSteal (W D k : Int) (B : Nat) {w0 w : World} {g b : Nat} {ms : List Int} {l : List Ast} (h : Own w0 w (storeA g b ms :: l)) :
    Calls Try.prog 27 #[.agg #[.int .i64 W, .int .i64 1, .int .i64 1, .int .i64 D], .int .i64 k] w fun e w' => ∃ wb, e = .returned (.pointer (some ⟨wb, 0, none⟩)) ∧ DW W D k B w0 w' g b wb ms steal0 l := by
  refine (dSteal W D k B h).mono ?_
  rintro e w' ⟨wb, cs, bx, rfl, hk, hO⟩
  exact ⟨wb, rfl, .inl (.inr (.inr (show 30 ≤ 30 ∧ 30 ≤ 37 by decide))), cs, bx, hk, hO.pm (List.Perm.swap ..)⟩
theorem qEnded {W D k : Int} {B : Nat} {w0 w : World} {g b wb : Nat} {ms : List Int} {s : WS} {l : List Ast} (h : DW W D k B w0 w g b wb ms s l) : Calls Try.prog 33 #[.pointer (some ⟨wb, 0, none⟩)] w fun e w' => e = .returned (.bool (s.pc == 99)) ∧ w = w' := by
  obtain ⟨h1, cs, bx, h2, hO⟩ := h
  exact dEnded h1 h2 hO
theorem qGot {W D k : Int} {B : Nat} {w0 w : World} {g b wb : Nat} {ms : List Int} {s : WS} {l : List Ast} (h : DW W D k B w0 w g b wb ms s l) : Calls Try.prog 25 #[.pointer (some ⟨wb, 0, none⟩)] w fun e w' => e = .returned (.tuple #[.int .i64 (gotV s).1, .bool (gotV s).2]) ∧ w = w' := by
  obtain ⟨h1, cs, bx, h2, hO⟩ := h
  exact dGot h1 h2 hO
theorem qFull {W D k : Int} {B : Nat} {w0 w : World} {g b wb : Nat} {ms : List Int} {s : WS} {l : List Ast} (h : DW W D k B w0 w g b wb ms s l) : Calls Try.prog 29 #[.pointer (some ⟨wb, 0, none⟩)] w fun e w' => e = .returned (.bool s.full) ∧ w = w' := by
  obtain ⟨h1, cs, bx, h2, hO⟩ := h
  exact dFull h2 hO
theorem qTail {W D k : Int} {B : Nat} {w0 w : World} {g b wb : Nat} {ms : List Int} {s : WS} {l : List Ast} (h : DW W D k B w0 w g b wb ms s l) : Calls Try.prog 26 #[.pointer (some ⟨wb, 0, none⟩)] w fun e w' => e = .returned (.int .i64 s.t) ∧ w = w' := by
  obtain ⟨h1, cs, bx, h2, hO⟩ := h
  exact dTail h2 hO
theorem qStep {W D k : Int} {B : Nat} {w0 w : World} {g b wb : Nat} {ms : List Int} {s : WS} {l : List Ast} (c : Cf W D k B ms.length) (hp : pcOk s.pc) (h : DW W D k B w0 w g b wb ms s l) : Calls Try.prog 34 #[.pointer (some ⟨wb, 0, none⟩), .pointer (some ⟨g, 0, none⟩)] w fun e w' => e = .returned (.bool ((stepW B D s ms).1.pc == 99)) ∧ DW W D k B w0 w' g b wb (stepW B D s ms).2 (stepW B D s ms).1 l := by
  obtain ⟨h1, cs, bx, h2, hO⟩ := h
  refine (dStep c hp h2 hO).mono ?_
  rintro e w' ⟨h3, cs', bx', h4, h5⟩
  exact ⟨h3, stepW_pc B D s ms hp, cs', bx', h4, h5⟩
theorem run13 {W D k : Int} {B : Nat} {ms : List Int} (c : Cf W D k B ms.length) {w0 w : World} {g b wb : Nat} {l : List Ast} {s : WS} (hp : pcOk s.pc) (hO : DW W D k B w0 w g b wb ms s l) (R : Nat × WS × List Int) (hR : runW B D 99 1 s ms = R) :
    Calls Try.prog 32 #[.pointer (some ⟨wb, 0, none⟩), .pointer (some ⟨g, 0, none⟩)] w fun e w' => e = .returned (.int .i64 R.1) ∧ DW W D k B w0 w' g b wb R.2.2 R.2.1 l := by
  obtain ⟨-, cs, bx, hk, hO⟩ := hO
  replace hO := Lib.hid hO
  replace hk := Lib.hid hk
  replace hR := Lib.hid hR
  replace hp := Lib.hid hp
  generalize hN : ms.length = N at c
  replace hN := Lib.hid hN
  go_enter Try.func32, Try.ntmps32
  go_wp2_with fail
  go_loopw [5] (fun kv wr => ∃ i : Nat, (1 ≤ i ∧ i ≤ 100) ∧ kv = .int .i64 i ∧ Hid (∃ s' m' cs' bx', runW B D (100 - i) i s' m' = R ∧ pcOk s'.pc ∧ m'.length = N ∧ WkIs W D k B wb s' cs' bx' ∧ Own w0 wr (storeA g b m' :: walkA wb cs' bx' :: l))) (fun kv _ => (100 - intOf kv).toNat)
  case atStart => exact ⟨1, by omega, rfl, Lib.hid ⟨s, ms, cs, bx, hR.out, hp.out, hN.out, hk.out, hO.out⟩⟩
  case round =>
    clear hO hk hR hp hN
    obtain ⟨i, hi, rfl, hH⟩ := hrel
    by_cases hlt : i < 100
    · obtain ⟨s', m', cs', bx', hR, hp, hN, hk, hO⟩ := hH.out
      subst hN
      have ST := Lib.hid (dStep c hp hk hO)
      have hpc := stepW_pc B D s' m' hp
      have hlen := stepW_len B D s' m'
      rw [show 100 - i = (99 - i) + 1 by omega] at hR
      simp only [runW] at hR
      unfold StepP at ST
      clear hH hk hO hp
      generalize (stepW B D s' m').1 = s2 at *
      generalize (stepW B D s' m').2 = m2 at *
      replace hlen := Lib.hid hlen
      replace hpc := Lib.hid hpc
      by_cases h9 : s2.pc = 99
      · rw [if_pos h9] at hR
        rw [show (s2.pc == 99) = true by simpa using h9] at ST
        replace h9 := Lib.hid h9
        subst hR
        go_wp2_with (go_at_call 34; refine ST.out.mono ?_; rintro e w1 ⟨rfl, h1⟩)
        go_ret
        obtain ⟨cs2, bx2, hk2, hO2⟩ := h1
        exact ⟨rfl, .inr h9.out, cs2, bx2, hk2, hO2⟩
      · rw [if_neg h9] at hR
        rw [show (s2.pc == 99) = false by simpa using h9] at ST
        have hp2 := hpc.out.resolve_right h9
        replace hp2 := Lib.hid hp2
        rw [show 99 - i = 100 - (i + 1) by omega] at hR
        replace hR := Lib.hid hR
        clear h9
        go_wp2_with (go_at_call 34; refine ST.out.mono ?_; rintro e w1 ⟨rfl, h1⟩; replace h1 := Lib.hid h1)
        go_roundw
        case rel =>
          obtain ⟨cs2, bx2, hk2, hO2⟩ := h1.out
          exact ⟨i + 1, by omega, by go_num, Lib.hid ⟨s2, m2, cs2, bx2, hR.out, hp2.out, hlen.out, hk2, hO2⟩⟩
        case measure => simp [intOf]; omega
    · obtain rfl : i = 100 := by omega
      go_wp2_with fail
      go_ret
      obtain ⟨s', m', cs', bx', hR, hp, hN, hk, hO⟩ := hH.out
      subst hR
      exact ⟨rfl, .inl hp, cs', bx', hk, hO⟩
theorem run14 {W D k : Int} {B : Nat} {ms : List Int} (c : Cf W D k B ms.length) {w0 w : World} {g b wb : Nat} {l : List Ast} {s : WS} (hp : pcOk s.pc) (hO : DW W D k B w0 w g b wb ms s l) (R : Nat × WS × List Int) (hR : runW B D 100 0 s ms = R) :
    Calls Try.prog 24 #[.pointer (some ⟨wb, 0, none⟩), .pointer (some ⟨g, 0, none⟩)] w fun e w' => e = .returned (.bool (R.2.1.pc == 99)) ∧ DW W D k B w0 w' g b wb R.2.2 R.2.1 l := by
  obtain ⟨-, cs, bx, hk, hO⟩ := hO
  replace hO := Lib.hid hO
  replace hk := Lib.hid hk
  replace hR := Lib.hid hR
  replace hp := Lib.hid hp
  generalize hN : ms.length = N at c
  replace hN := Lib.hid hN
  go_enter Try.func24, Try.ntmps24
  go_wp2_with fail
  go_loopw [5] (fun kv wr => ∃ i : Nat, (0 ≤ i ∧ i ≤ 100) ∧ kv = .int .i64 i ∧ Hid (∃ s' m' cs' bx', runW B D (100 - i) i s' m' = R ∧ pcOk s'.pc ∧ m'.length = N ∧ WkIs W D k B wb s' cs' bx' ∧ Own w0 wr (storeA g b m' :: walkA wb cs' bx' :: l))) (fun kv _ => (100 - intOf kv).toNat)
  case atStart => exact ⟨0, by omega, rfl, Lib.hid ⟨s, ms, cs, bx, hR.out, hp.out, hN.out, hk.out, hO.out⟩⟩
  case round =>
    clear hO hk hR hp hN
    obtain ⟨i, hi, rfl, hH⟩ := hrel
    by_cases hlt : i < 100
    · obtain ⟨s', m', cs', bx', hR, hp, hN, hk, hO⟩ := hH.out
      subst hN
      have ST := Lib.hid (dStep c hp hk hO)
      have hpc := stepW_pc B D s' m' hp
      have hlen := stepW_len B D s' m'
      rw [show 100 - i = (99 - i) + 1 by omega] at hR
      simp only [runW] at hR
      unfold StepP at ST
      clear hH hk hO hp
      generalize (stepW B D s' m').1 = s2 at *
      generalize (stepW B D s' m').2 = m2 at *
      replace hlen := Lib.hid hlen
      replace hpc := Lib.hid hpc
      by_cases h9 : s2.pc = 99
      · rw [if_pos h9] at hR
        rw [show (s2.pc == 99) = true by simpa using h9] at ST
        replace h9 := Lib.hid h9
        subst hR
        go_wp2_with (go_at_call 34; refine ST.out.mono ?_; rintro e w1 ⟨rfl, h1⟩)
        go_ret
        obtain ⟨cs2, bx2, hk2, hO2⟩ := h1
        exact ⟨show Ending.returned (.bool true) = Ending.returned (.bool (s2.pc == 99)) by rw [h9.out]; rfl, .inr h9.out, cs2, bx2, hk2, hO2⟩
      · rw [if_neg h9] at hR
        rw [show (s2.pc == 99) = false by simpa using h9] at ST
        have hp2 := hpc.out.resolve_right h9
        replace hp2 := Lib.hid hp2
        rw [show 99 - i = 100 - (i + 1) by omega] at hR
        replace hR := Lib.hid hR
        clear h9
        go_wp2_with (go_at_call 34; refine ST.out.mono ?_; rintro e w1 ⟨rfl, h1⟩; replace h1 := Lib.hid h1)
        go_roundw
        case rel =>
          obtain ⟨cs2, bx2, hk2, hO2⟩ := h1.out
          exact ⟨i + 1, by omega, by go_num, Lib.hid ⟨s2, m2, cs2, bx2, hR.out, hp2.out, hlen.out, hk2, hO2⟩⟩
        case measure => simp [intOf]; omega
    · obtain rfl : i = 100 := by omega
      go_wp2_with fail
      go_ret
      obtain ⟨s', m', cs', bx', hR, hp, hN, hk, hO⟩ := hH.out
      subst hR
      exact ⟨show Ending.returned (.bool false) = Ending.returned (.bool (s'.pc == 99)) by rw [show (s'.pc == 99) = false by unfold pcOk at hp; simp; omega], .inl hp, cs', bx', hk, hO⟩
theorem Try.rowPlanD : (Try.prog.info? 43).map (fun i => (i.zero, i.size)) = some (some (.agg #[.int .i64 0, .int .i64 0, .int .i64 0, .int .i64 0]), 4) := by kernel_rfl
theorem plan13_any (f : Int) (w : World) : Calls Try.prog 31 #[.int .i64 f] w fun e w' => e = .returned (.agg #[.int .i64 2, .int .i64 1, .int .i64 1, .int .i64 f]) ∧ Below w.heap.size w w' := by
  go_enter Try.func31, Try.ntmps31
  go_wp2
  exact bodyPost_ret (v := .agg #[.int .i64 2, .int .i64 1, .int .i64 1, .int .i64 f]) (by simp [results, Try.results31, go_sem]) rfl ⟨rfl, by go_grown⟩
end Go.Proofs.Ytofnjapgacgdlaa
