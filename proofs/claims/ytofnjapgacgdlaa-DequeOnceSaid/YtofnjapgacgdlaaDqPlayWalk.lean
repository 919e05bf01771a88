/- Package deque: a play walked. -/
import Derived.Test.YtofnjapgacgdlaaDqMem
import Derived.Deep.Cut
import Derived.Deep.CutRange
import Derived.Deep.CutBlock
set_option linter.unusedVariables false
set_option linter.unusedSimpArgs false
namespace Go.Proofs.Ytofnjapgacgdlaa
open Go.RowKit
set_option maxRecDepth 100000
set_option maxHeartbeats 20000000


theorem closed_len (σ : PS) (k : Nat) (w : WS) : (closed σ k w).m = σ.m ∧ (closed σ k w).pushed.length ≤ σ.pushed.length + 1 ∧ (closed σ k w).popped.length ≤ σ.popped.length + 1 ∧ (closed σ k w).stolen.length ≤ σ.stolen.length + 1 ∧ (closed σ k w).stack.length ≤ σ.stack.length + 1 := by
  unfold closed
  repeat' split
  all_goals simp
  all_goals omega
theorem acc_len (B : Nat) (D : Int) (σ : PS) (k : Nat) (w : WS) : (acc B D σ k w).m.length = σ.m.length ∧ (acc B D σ k w).pushed.length ≤ σ.pushed.length + 1 ∧ (acc B D σ k w).popped.length ≤ σ.popped.length + 1 ∧ (acc B D σ k w).stolen.length ≤ σ.stolen.length + 1 ∧ (acc B D σ k w).stack.length ≤ σ.stack.length + 1 := by
  have hl := stepW_len B D w σ.m
  unfold acc
  split
  · obtain ⟨h1, h2, h3, h4, h5⟩ := closed_len { σ with m := (stepW B D w σ.m).2, ws := upd σ.ws k none } k (stepW B D w σ.m).1
    exact ⟨by rw [h1]; exact hl, h2, h3, h4, h5⟩
  · exact ⟨hl, by simp, by simp, by simp, by simp⟩
theorem play_len (B : Nat) (D : Int) (σ : PS) (k : Nat) (act : Option Bool) : (playStep B D σ k act).m.length = σ.m.length ∧ (playStep B D σ k act).pushed.length ≤ σ.pushed.length + 1 ∧ (playStep B D σ k act).popped.length ≤ σ.popped.length + 1 ∧ (playStep B D σ k act).stolen.length ≤ σ.stolen.length + 1 ∧ (playStep B D σ k act).stack.length ≤ σ.stack.length + 1 := by
  unfold playStep
  split
  · exact acc_len ..
  · split
    · exact ⟨rfl, by simp, by simp, by simp, by simp⟩
    · exact acc_len B D (begun σ k _) k _
theorem zeroOut : (Try.prog.info? 60).map (fun i => (i.zero, i.size)) = some (some (.agg #[.slice none 0 0, .slice none 0 0, .slice none 0 0, .slice none 0 0, .bool false]), 5) := by kernel_rfl
theorem DWP.row {D : Int} {B : Nat} {w0 w : World} {g sb wb : Nat} {m : List Int} {s : WS} {pb ob wkb rb : Nat} {P : Nat → Value} {pv qv sv kv : Value} {r : Bool} {pu po st sk : List Int} {rest : List Ast} (h : DW 2 D 1 B w0 w g sb wb m s (PB pb ob wkb rb D P pv qv sv kv r pu po st sk rest)) {K : Nat} (hK : K < 4) : w.cell? ⟨wkb, K, none⟩ = some (P K) ∧ w.frozen? ⟨wkb, K, none⟩ = false := by
  obtain ⟨hp, cs, bx, hk, hO⟩ := h
  exact PB.row (hO.pm (PB.perm (List.Perm.refl _))) hK
theorem DWP.out {D : Int} {B : Nat} {w0 w : World} {g sb wb : Nat} {m : List Int} {s : WS} {pb ob wkb rb : Nat} {P : Nat → Value} {pv qv sv kv : Value} {r : Bool} {pu po st sk : List Int} {rest : List Ast} (h : DW 2 D 1 B w0 w g sb wb m s (PB pb ob wkb rb D P pv qv sv kv r pu po st sk rest)) : (w.cell? ⟨ob, 0, none⟩ = some pv ∧ w.cell? ⟨ob, 1, none⟩ = some qv ∧ w.cell? ⟨ob, 2, none⟩ = some sv ∧ w.cell? ⟨ob, 3, none⟩ = some kv ∧ w.cell? ⟨ob, 4, none⟩ = some (.bool r)) ∧ ∀ j, w.frozen? ⟨ob, j, none⟩ = false := by
  obtain ⟨hp, cs, bx, hk, hO⟩ := h
  exact PB.out (hO.pm (PB.perm (List.Perm.refl _)))
theorem DWP.setRow {D : Int} {B : Nat} {w0 w : World} {g sb wb : Nat} {m : List Int} {s : WS} {pb ob wkb rb : Nat} {P : Nat → Value} {pv qv sv kv : Value} {r : Bool} {pu po st sk : List Int} {rest : List Ast} (h : DW 2 D 1 B w0 w g sb wb m s (PB pb ob wkb rb D P pv qv sv kv r pu po st sk rest)) {K : Nat} (hK : K < 4) (u : Value) : DW 2 D 1 B w0 (w.setCell ⟨wkb, K, none⟩ u) g sb wb m s (PB pb ob wkb rb D (updV P K u) pv qv sv kv r pu po st sk rest) := by
  obtain ⟨hp, cs, bx, hk, hO⟩ := h
  exact ⟨hp, cs, bx, hk, (PB.setRow (hO.pm (PB.perm (List.Perm.refl _))) hK u).pm (PB.perm (List.Perm.refl _)).symm⟩
theorem play_some {B : Nat} {D : Int} {σ : PS} {k : Nat} {act : Option Bool} {s : WS} (h : σ.ws k = some s) : playStep B D σ k act = acc B D σ k s := by
  unfold playStep; rw [h]
theorem play_new {B : Nat} {D : Int} {σ : PS} {k : Nat} {p : Bool} (h : σ.ws k = none) : playStep B D σ k (some p) = acc B D (begun σ k p) k (startW σ k p) := by
  unfold playStep; rw [h]
theorem play_idle {B : Nat} {D : Int} {σ : PS} {k : Nat} (h : σ.ws k = none) : playStep B D σ k none = σ := by
  unfold playStep; rw [h]
theorem upd_twice (ws : Nat → Option WS) (k : Nat) (a b : Option WS) : upd (upd ws k a) k b = upd ws k b := by
  funext j
  unfold upd
  split <;> rfl
theorem push0_full (B : Nat) (D t x : Int) (m : List Int) (h : (stepW B D (push0 t x) m).1.pc = 99) : (stepW B D (push0 t x) m).1.full = true := by
  by_cases c : D - 1 ≤ wrap64 (furthest t - m.getD B 0)
  · rw [show push0 t x = ⟨0, furthest t, x, 0, 0, false, false⟩ from rfl, st0y _ _ _ _ _ _ _ _ _ c]
  · rw [show push0 t x = ⟨0, furthest t, x, 0, 0, false, false⟩ from rfl, st0n _ _ _ _ _ _ _ _ _ c] at h
    exact absurd h (by show ¬ (1 = 99); decide)
theorem play_any (D : Nat) (hDb : 2 ≤ D ∧ D ≤ 8) (os : List (Nat × Nat × Int)) (oo : Option Addr) (oc g0 off : Nat) (w : World) (h1 : os.length ≤ oc) (h2 : oc ≤ maxLen) (hl : os.length ≤ 300)
    (ho : ∀ i, i < os.length → oo = some ⟨g0, off, none⟩ ∧ ∃ a b x, os.getD i (0, 0, 0) = (a, b, x) ∧ a < 256 ∧ b < 256 ∧ w.cell? ⟨g0, off + i * 3, none⟩ = some (.int .u8 a) ∧ w.cell? ⟨g0, off + i * 3 + 1, none⟩ = some (.int .u8 b) ∧ w.cell? ⟨g0, off + i * 3 + 2, none⟩ = some (.int .i64 x)) :
    Calls Try.prog 35 #[.int .i64 D, .slice oo os.length oc] w fun e w' => ∃ σ pv qv sv kv, e = .returned (.agg #[pv, qv, sv, kv, .bool true]) ∧ EndOk σ ∧ (σ.pushed.length ≤ 1000 ∧ σ.popped.length ≤ 1000 ∧ σ.stolen.length ≤ 1000 ∧ σ.stack.length ≤ 1000) ∧ Own w w' [rI pv σ.pushed, rI qv σ.popped, rI sv σ.stolen, rI kv σ.stack] := by
  obtain ⟨ti1, hi1, hw0, hw1', hw2'⟩ := info_parts' Try.infoIntD
  obtain ⟨ti2, hi2, hq0, hq1', hq2'⟩ := info_parts' Try.infoWalkP
  have ok : okPlan 2 1 1 D = true := by unfold okPlan; rw [decide_eq_true_eq]; omega
  unfold maxLen at h2
  replace ho := Lib.hid ho
  obtain ⟨N, hN⟩ : ∃ N : Nat, sizeV 2 1 1 D = (N : Int) := ⟨(sizeV 2 1 1 D).toNat, by unfold sizeV wideV roomV; omega⟩
  have hN2 : N ≤ 1000 ∧ D + 4 + 4 + D ≤ N := by
    have := hN
    unfold sizeV wideV roomV at this
    omega
  have cf := fun (m : Nat) (hm : m = N) => cf2 1 (D + 4) hDb (.inr ⟨rfl, rfl⟩) (m := m) (by rw [hm, hN])
  have SZ := Lib.hid (fun w => hN ▸ size_ok ok w)
  have NW := Lib.hid (fun (w1 : World) (l : List Ast) (h : Own w w1 l) => own_new h N (List.replicate N 0) (by rw [show (min (max (N : Int) 0) 1048576).toNat = N by omega]))
  replace cf := Lib.hid cf
  clear hN ok
  go_enter Try.func35, Try.ntmps35
  go_wp2_with fail
  have h0 := (Own.nil (Below.refl _ w)).box #[.slice none 0 0, .slice none 0 0, .slice none 0 0, .slice none 0 0, .bool false] 60
  generalize w.alloc (.cells #[.slice none 0 0, .slice none 0 0, .slice none 0 0, .slice none 0 0, .bool false] 60) = wx at *
  generalize hrb : w.heap.size = rb at *
  go_at_call 31
  refine (plan13_any _ _).mono ?_
  rintro e wb ⟨rfl, hb1⟩
  go_wp2_with fail
  have h1 := (h0.grow hb1).box #[.int .i64 2, .int .i64 1, .int .i64 1, .int .i64 D] 43
  clear hb1 h0
  go_at_call 22
  refine (SZ.out _).mono ?_
  rintro e w2 ⟨rfl, hb2⟩
  have h2 := h1.grow hb2
  clear h1 hb2
  go_wp2_with fail
  go_at_call 21
  refine (NW.out _ _ h2).mono ?_
  rintro e w3 ⟨rfl, h3⟩
  replace h3 : Own w w3 [cellsA rb #[.slice none 0 0, .slice none 0 0, .slice none 0 0, .slice none 0 0, .bool false] 60, planA wb.heap.size 2 D, storeA (w2.heap.size + 1) w2.heap.size (List.replicate N 0)] := h3
  clear h2
  generalize w2.heap.size = sb at *
  generalize wb.heap.size = pb at *
  generalize hg : sb + 1 = g at *
  clear hg
  have hmc : (madeCells #[Value.pointer none] 4).toList = [.pointer none, .pointer none, .pointer none, .pointer none] := by rw [madeK_one]; rfl
  have h4 := h3.row_made 46 1 (madeCells #[.pointer none] 4) 4 (by decide) (by simp [madeCells])
  rw [hmc] at h4
  have h5 := h4.box #[.slice none 0 0, .slice none 0 0, .slice none 0 0, .slice none 0 0, .bool true] 60
  rw [alloc_sz] at h5
  have nil_ : ∀ {w1 : World} {l : List Ast}, Own w w1 l → Own w w1 (l ++ [rI (.slice none 0 0) []]) := fun h => h.push (Below.refl _ _) (rI (.slice none 0 0) []) (Row.nil _ _ _) (by simp [rI, rowA, Value.ownBlock])
  have h6 := ((nil_ (nil_ (nil_ (nil_ h5)))).empty.empty.empty.empty).sel [6, 5, 8, 7, 9, 10, 11, 12, 4, 0, 1, 2, 3] (by decide)
  go_wp2_with (first | (refine wpList_make_any _ rfl _ _ 65 rfl 46 ti2 (.pointer none) 1 8 Try.underlying65 hi2 hq0 hq1' hq2' .i64 .i64 (4 : Int) (4 : Int) rfl rfl (by omega) (by omega) (by omega) (by decide) ?_))
  have h7 : PState w ((w3.alloc (.cells (madeCells #[.pointer none] 4) 46)).alloc (.cells #[.slice none 0 0, .slice none 0 0, .slice none 0 0, .slice none 0 0, .bool true] 60)) g sb pb (w3.heap.size + 1) w3.heap.size rb D (D + 4) (PS0 (List.replicate N 0)) :=
    ⟨fun _ => .pointer none, fun _ => emptyA, .slice none 0 0, .slice none 0 0, .slice none 0 0, .slice none 0 0, fun k _ => .inl ⟨rfl, rfl, rfl⟩, h6⟩
  clear h3 h4 h5 h6 nil_ hmc
  generalize (w3.alloc (.cells (madeCells #[.pointer none] 4) 46)).alloc (.cells #[.slice none 0 0, .slice none 0 0, .slice none 0 0, .slice none 0 0, .bool true] 60) = w4 at *
  generalize hob : w3.heap.size + 1 = ob at *
  generalize w3.heap.size = wkb at *
  clear hob
  replace h7 := Lib.hid h7
  have hz := Lib.hid (inv_zero (D + 4) D N (by omega) (by omega))
  go_loopw [9, 10, 11, 12] (fun tv nv bv iv wr => ∃ (i : Nat) (σ : PS), i ≤ os.length + 400 ∧ tv = .int .i64 σ.tail ∧ nv = .int .i64 (σ.next : Int) ∧ bv = .bool σ.pops ∧ iv = .int .i64 i ∧ Hid (InvE (D + 4) D σ i ∧ σ.m.length = N ∧ (σ.pushed.length ≤ i ∧ σ.popped.length ≤ i ∧ σ.stolen.length ≤ i ∧ σ.stack.length ≤ i) ∧ (os.length ≤ i → Winds (D + 4) σ i (os.length + 400 - i)) ∧ PState w wr g sb pb ob wkb rb D (D + 4) σ)) (fun _ _ _ iv _ => (os.length + 400 - intOf iv).toNat)
  case atStart => exact ⟨0, _, by omega, rfl, rfl, rfl, rfl, Lib.hid ⟨hz.out, by simp [PS0], by simp [PS0], fun h => by rw [show os.length = 0 by omega]; exact winds_start, h7.out⟩⟩
  case round =>
    clear h7 hz
    obtain ⟨i, σ, hi, rfl, rfl, rfl, rfl, hH⟩ := hrel
    by_cases hlt : i < os.length + 400
    · go_upto_if 38 with fail
      rw [show decide ((i : Int) < (os.length : Int) + 400) = true from decide_eq_true (by omega)]
      go_cut [13] from 26 to 45 (fun f wx => ∃ K : Nat, K < 4 ∧ f = .int .i64 K ∧ wr = wx ∧ Hid (os.length ≤ i → K = i % 4))
      case first =>
        obtain ⟨K0, hK0⟩ : ∃ K0 : Nat, i % 4 = K0 := ⟨_, rfl⟩
        have e0 : (i : Int).tmod 4 = (K0 : Int) := by rw [Int.tmod_eq_emod_of_nonneg (by omega)]; omega
        have hK04 : K0 < 4 := by omega
        by_cases hil : i < os.length
        · obtain ⟨rfl, who, kind, X, -, hw8, hk8, y0, y1, y2⟩ := ho.out i hil
          have z0 : wr.cell? ⟨g0, off + i * 3, none⟩ = some (.int .u8 who) := by
            obtain ⟨_, _, _, _, hP⟩ := hH.out
            obtain ⟨P, As, pv, qv, sv, kv, _, hO⟩ := hP
            exact hO.old y0
          obtain ⟨K1, hK1⟩ : ∃ K1 : Nat, who % 4 = K1 := ⟨_, rfl⟩
          have e1 : (who : Int).tmod 4 = (K1 : Int) := by rw [Int.tmod_eq_emod_of_nonneg (by omega)]; omega
          have i1 : IntKind.i64.wrap (who : Int) = (who : Int) := IntWalk.i64_in _ (by omega)
          have hK14 : K1 < 4 := by omega
          have hd1 : decide (i < os.length) = true := decide_eq_true (by omega)
          have hnl := Lib.hid hil
          clear hK0 hK1 y0 y1 y2 hil
          go_wp2_with fail
          go_meet
          exact ⟨K1, hK14, rfl, rfl, Lib.hid (fun h => by have := hnl.out; omega)⟩
        · have hd1 : decide (i < os.length) = false := decide_eq_false (by omega)
          have hnl := Lib.hid hK0
          have hcast : (i : Int) % 4 = (K0 : Int) := by omega
          replace hcast := Lib.hid hcast
          clear hK0
          rw [hd1]
          go_wp2_with fail
          go_meet
          exact ⟨K0, hK04, by rw [hcast.out], rfl, Lib.hid (fun _ => hnl.out.symm)⟩
      case rest =>
        obtain ⟨K, hK, rfl, rfl, hKi⟩ := hcut
        obtain ⟨hInv, hml, hlen4, hwin, hP⟩ := hH.out
        obtain ⟨P, As, pv, qv, sv, kv, rest, hwp, hpm, hO⟩ := hP.pick hK
        have hPQ : PQ D (D + 4) σ.ws P As K rest := ⟨hK, hwp, hpm⟩
        have FIN := Lib.hid (fun (act : Option Bool) (hact : os.length ≤ i → act = none) (wr' : World) (hps : PState w wr' g sb pb ob wkb rb D (D + 4) (playStep (D + 4) D σ K act)) =>
          show Hid (InvE (D + 4) D (playStep (D + 4) D σ K act) (i + 1) ∧ (playStep (D + 4) D σ K act).m.length = N ∧ ((playStep (D + 4) D σ K act).pushed.length ≤ i + 1 ∧ (playStep (D + 4) D σ K act).popped.length ≤ i + 1 ∧ (playStep (D + 4) D σ K act).stolen.length ≤ i + 1 ∧ (playStep (D + 4) D σ K act).stack.length ≤ i + 1) ∧ (os.length ≤ i + 1 → Winds (D + 4) (playStep (D + 4) D σ K act) (i + 1) (os.length + 400 - (i + 1))) ∧ PState w wr' g sb pb ob wkb rb D (D + 4) (playStep (D + 4) D σ K act)) from by
            obtain ⟨q1, q2, q3, q4, q5⟩ := play_len (D + 4) D σ K act
            refine Lib.hid ⟨inv_play hInv hK act (by omega), q1.trans hml, ⟨by omega, by omega, by omega, by omega⟩, fun hle => ?_, hps⟩
            by_cases hle2 : os.length ≤ i
            · have hw2 := hwin hle2
              rw [hact hle2, hKi.out hle2]
              rw [show os.length + 400 - i = os.length + 400 - (i + 1) + 1 by omega] at hw2
              exact winds_step hInv hw2
            · rw [show os.length + 400 - (i + 1) = 400 by omega]
              exact winds_start)
        have hKi4 : (K : Int) < 4 := by omega
        have hPS := Lib.hid (show PState w wr g sb pb ob wkb rb D (D + 4) σ from hH.out.2.2.2.2)
        obtain ⟨bp, cp, rfl, bp1, bp2, _⟩ := (hO.row 5 rfl).shape
        obtain ⟨bq, cq, rfl, bq1, bq2, _⟩ := (hO.row 6 rfl).shape
        obtain ⟨bs, cs_, rfl, bs1, bs2, _⟩ := (hO.row 7 rfl).shape
        obtain ⟨bk, ck, rfl, bk1, bk2, _⟩ := (hO.row 8 rfl).shape
        unfold maxLen at bp2 bq2 bs2 bk2
        have hob := PB.out (hO.pm (PB.perm (List.Perm.refl _)))
        have hnx : σ.next ≤ 1000 := by
          obtain ⟨_, _, _, _, _, _, _, hh⟩ := hInv
          have := hh.bd
          omega
        have hrt := Lib.hid (fun (act : Option Bool) => show (playStep (D + 4) D σ K act).right = true from by
          obtain ⟨_, _, _, _, _, _, _, hh⟩ := inv_play hInv hK act (by omega)
          exact hh.rt)
        rcases hPQ.wp K hK with ⟨hn, hv, hA⟩ | ⟨s0, wb, cs, bx, hs, hv, hk, hA⟩
        · have hO1 := hO.sub (.cons_cons _ (.cons _ (List.Sublist.refl _)))
          obtain ⟨r0, r1⟩ := PB.row hO1 hK
          rw [hv] at r0
          replace hlen4 := Lib.hid hlen4
          by_cases hil : i < os.length
          · obtain ⟨rfl, who, kind, X, -, hw8, hk8, y0, y1, y2⟩ := ho.out i hil
            have zk := hO1.old y1
            have hge : decide (os.length ≤ i) = false := decide_eq_false (by omega)
            have hge2 : decide ((os.length : Int) ≤ (i : Int)) = false := decide_eq_false (by omega)
            obtain ⟨x0, x1, x2, x3⟩ := planC hO1
            obtain ⟨kr, hkr⟩ : ∃ r : Nat, kind % 3 = r := ⟨_, rfl⟩
            have er : (kind : Int).tmod 3 = (kr : Int) := by rw [Int.tmod_eq_emod_of_nonneg (by omega)]; omega
            have er2 : (kind : Int) % 3 = (kr : Int) := by omega
            have hkr3 : kr < 3 := by omega
            have hili : (i : Int) < (os.length : Int) := by omega
            have hilh := Lib.hid hil
            replace hml := Lib.hid hml
            clear hkr y0 y1 y2 hob hH hInv hwin hP hwp hpm hO
            by_cases hK0 : K = 0
            rotate_left
            · have hKp : decide (0 < (K : Int)) = true := decide_eq_true (by omega)
              have hKp2 : 0 < K := by omega
              have CL := Lib.hid (qSteal 2 D 1 (D + 4) hO1)
              have hsw : startW σ K true = steal0 := by unfold startW; rw [if_neg hK0]
              have hacc : playStep (D + 4) D σ K (some true) = acc (D + 4) D (begun σ K true) K (steal0) := by rw [play_new hn, hsw]
              clear hsw
              have h9 : ¬ (stepW (D + 4) D steal0 σ.m).1.pc = 99 := by rw [show steal0 = ⟨30, 0, 0, 0, 0, false, false⟩ from rfl, st30]; show ¬ (31 = 99); decide
              clear hO1
              go_wp2_with (go_at_call 27; refine CL.out.mono ?_; rintro e w5 ⟨wb, rfl, h5⟩; obtain ⟨z0, z1⟩ := DWP.row h5 hK; have h6 := Lib.hid (DWP.setRow h5 hK (.pointer (some ⟨wb, 0, none⟩))); clear h5)
              clear z0 z1
              replace h6 := h6.out
              generalize w5.setCell ⟨wkb, K, none⟩ (.pointer (some ⟨wb, 0, none⟩)) = u at *
              have ST := Lib.hid (qStep (cf.out _ hml.out) (.inr (.inr (show 30 ≤ 30 ∧ 30 ≤ 37 by decide))) h6)
              clear h6
              replace hil := hilh
              rw [show ((stepW (D + 4) D (steal0) σ.m).1.pc == 99) = false by simpa using h9] at ST
              have hacc3 := Lib.hid (show playStep (D + 4) D σ K (some true) = { begun σ K true with m := (stepW (D + 4) D (steal0) σ.m).2, ws := upd (begun σ K true).ws K (some (stepW (D + 4) D (steal0) σ.m).1) } from by rw [hacc]; unfold acc; exact if_neg h9)
              generalize (stepW (D + 4) D (steal0) σ.m).1 = s1 at *
              generalize (stepW (D + 4) D (steal0) σ.m).2 = m1 at *
              clear hacc h9
              go_wp2_with (go_at_call 34; refine ST.out.mono ?_; rintro e w6 ⟨rfl, h7⟩; replace h7 := Lib.hid h7)
              go_roundw
              case rel =>
                refine ⟨i + 1, playStep (D + 4) D σ K (some true), by omega, by rw [hacc3.out]; rfl, by rw [hacc3.out]; rfl, by rw [hacc3.out]; show _ = Value.bool (if K = 0 then !true else σ.pops); rw [if_neg hK0], by go_num, FIN.out (some true) (fun h => absurd hil.out (by omega)) _ ?_⟩
                rw [hacc3.out]
                exact hPQ.some_ h7.out (upd_twice ..) rfl rfl rfl rfl rfl rfl
              case measure => simp [intOf]; omega
            · subst hK0
              by_cases hpush : kr < 2
              · have hd2 : decide ((kr : Int) < 2) = true := decide_eq_true (by omega)
                have hd3 : decide (kr < 2) = true := decide_eq_true hpush
                have CL := Lib.hid (qPush 2 D 1 (D + 4) σ.tail (σ.next : Int) hO1)
                have hsw : startW σ 0 true = push0 σ.tail (σ.next : Int) := by unfold startW; rfl
                have hacc : playStep (D + 4) D σ 0 (some true) = acc (D + 4) D (begun σ 0 true) 0 (push0 σ.tail (σ.next : Int)) := by rw [play_new hn, hsw]
                clear hsw
                clear hO1
                go_wp2_with (go_at_call 28; refine CL.out.mono ?_; rintro e w5 ⟨wb, rfl, h5⟩; obtain ⟨z0, z1⟩ := DWP.row h5 hK; have h6 := Lib.hid (DWP.setRow h5 hK (.pointer (some ⟨wb, 0, none⟩))); clear h5)
                clear z0 z1
                replace h6 := h6.out
                generalize w5.setCell ⟨wkb, 0, none⟩ (.pointer (some ⟨wb, 0, none⟩)) = u at *
                have ST := Lib.hid (qStep (cf.out _ hml.out) (.inl (Nat.zero_le 2)) h6)
                clear h6
                replace hil := hilh
                by_cases h9 : (stepW (D + 4) D (push0 σ.tail (σ.next : Int)) σ.m).1.pc = 99
                · have hfl9 := push0_full _ _ _ _ _ h9
                  rw [show ((stepW (D + 4) D (push0 σ.tail (σ.next : Int)) σ.m).1.pc == 99) = true by simpa using h9] at ST
                  have hacc1 : playStep (D + 4) D σ 0 (some true) = closed { begun σ 0 true with m := (stepW (D + 4) D (push0 σ.tail (σ.next : Int)) σ.m).2, ws := upd (begun σ 0 true).ws 0 none } 0 (stepW (D + 4) D (push0 σ.tail (σ.next : Int)) σ.m).1 := by rw [hacc]; unfold acc; exact if_pos h9
                  generalize (stepW (D + 4) D (push0 σ.tail (σ.next : Int)) σ.m).1 = s1 at *
                  generalize (stepW (D + 4) D (push0 σ.tail (σ.next : Int)) σ.m).2 = m1 at *
                  clear hacc
                  go_wp2_with (go_at_call 34; refine ST.out.mono ?_; rintro e w6 ⟨rfl, h5⟩; obtain ⟨z0, z1⟩ := DWP.row h5 hK; have h6 := Lib.hid (DWP.setRow h5 hK (.pointer none)); clear h5)
                  clear z0 z1
                  replace h6 := h6.out
                  rw [updV_twice] at h6
                  generalize w6.setCell ⟨wkb, 0, none⟩ (.pointer none) = v at *
                  have GV : gotV s1 = if s1.got = true then (s1.x, true) else (0, false) := by unfold gotV; simp [h9]
                  have hO7 := h6.drop
                  replace h6 := Lib.hid h6
                  by_cases hpp : (begun σ 0 true).pops = false
                  · by_cases hfull : s1.full = false
                    · exact absurd hfull (by rw [hfl9]; decide)
                    · have hfull : s1.full = true := by simpa using hfull
                      have hacc3 := Lib.hid (show playStep (D + 4) D σ 0 (some true) = { (begun σ 0 true) with m := m1, ws := upd (begun σ 0 true).ws 0 none, tail := s1.t } from by rw [hacc1]; unfold closed; rw [if_neg (by omega), if_neg (by rintro ⟨_, h⟩; rw [hfull] at h; cases h), if_neg (by rintro ⟨h, _⟩; exact absurd (hpp.symm.trans h) (by decide)), if_neg (by intro h; exact absurd (hpp.symm.trans h) (by decide))])
                      obtain ⟨⟨x0, x1, x2, x3, x4⟩, xf⟩ := PB.out hO7
                      have f0 := xf 0
                      have f1 := xf 1
                      have f2 := xf 2
                      have f3 := xf 3
                      have f4 := xf 4
                      clear xf
                      replace hO7 := Lib.hid hO7
                      obtain ⟨gx, hgx⟩ : ∃ gx, (if s1.got = true then (s1.x, true) else ((0 : Int), false)) = gx := ⟨_, rfl⟩
                      rw [hgx] at GV
                      clear hacc1 hgx
                      go_wp2_with (first | (go_at_call 25; refine (qGot h6.out).mono ?_; rw [GV]; rintro e w7 ⟨rfl, rfl⟩) | (go_at_call 26; refine (qTail h6.out).mono ?_; rintro e w7 ⟨rfl, rfl⟩) | (go_at_call 29; refine (qFull h6.out).mono ?_; rw [hfull]; rintro e w7 ⟨rfl, rfl⟩))
                      go_roundw
                      case rel =>
                        refine ⟨i + 1, playStep (D + 4) D σ 0 (some true), by omega, by rw [hacc3.out], by rw [hacc3.out] <;> first | rfl | exact (by go_num), by rw [hacc3.out] <;> first | rfl | rfl, by go_num, FIN.out (some true) (fun h => absurd hil.out (by omega)) _ ?_⟩
                        rw [hacc3.out]
                        exact hPQ.none_ hO7.out (upd_twice ..) rfl rfl rfl rfl rfl rfl
                      case measure => simp [intOf]; omega
                  · exact absurd rfl hpp
                · skip
                  rw [show ((stepW (D + 4) D (push0 σ.tail (σ.next : Int)) σ.m).1.pc == 99) = false by simpa using h9] at ST
                  have hacc3 := Lib.hid (show playStep (D + 4) D σ 0 (some true) = { begun σ 0 true with m := (stepW (D + 4) D (push0 σ.tail (σ.next : Int)) σ.m).2, ws := upd (begun σ 0 true).ws 0 (some (stepW (D + 4) D (push0 σ.tail (σ.next : Int)) σ.m).1) } from by rw [hacc]; unfold acc; exact if_neg h9)
                  generalize (stepW (D + 4) D (push0 σ.tail (σ.next : Int)) σ.m).1 = s1 at *
                  generalize (stepW (D + 4) D (push0 σ.tail (σ.next : Int)) σ.m).2 = m1 at *
                  clear hacc h9
                  go_wp2_with (go_at_call 34; refine ST.out.mono ?_; rintro e w6 ⟨rfl, h7⟩; replace h7 := Lib.hid h7)
                  go_roundw
                  case rel =>
                    refine ⟨i + 1, playStep (D + 4) D σ 0 (some true), by omega, by rw [hacc3.out]; rfl, by rw [hacc3.out]; rfl, by rw [hacc3.out]; rfl, by go_num, FIN.out (some true) (fun h => absurd hil.out (by omega)) _ ?_⟩
                    rw [hacc3.out]
                    exact hPQ.some_ h7.out (upd_twice ..) rfl rfl rfl rfl rfl rfl
                  case measure => simp [intOf]; omega
              · have hd2 : decide ((kr : Int) < 2) = false := decide_eq_false (by omega)
                have hd3 : decide (kr < 2) = false := decide_eq_false hpush
                have CL := Lib.hid (qPop 2 D 1 (D + 4) σ.tail hO1)
                have hsw : startW σ 0 false = pop0 σ.tail := by unfold startW; rfl
                have hacc : playStep (D + 4) D σ 0 (some false) = acc (D + 4) D (begun σ 0 false) 0 (pop0 σ.tail) := by rw [play_new hn, hsw]
                clear hsw
                have h9 : ¬ (stepW (D + 4) D (pop0 σ.tail) σ.m).1.pc = 99 := by rw [show pop0 σ.tail = ⟨10, furthest σ.tail, 0, 0, 0, false, false⟩ from rfl, st10]; show ¬ (11 = 99); decide
                clear hO1
                go_wp2_with (go_at_call 23; refine CL.out.mono ?_; rintro e w5 ⟨wb, rfl, h5⟩; obtain ⟨z0, z1⟩ := DWP.row h5 hK; have h6 := Lib.hid (DWP.setRow h5 hK (.pointer (some ⟨wb, 0, none⟩))); clear h5)
                clear z0 z1
                replace h6 := h6.out
                generalize w5.setCell ⟨wkb, 0, none⟩ (.pointer (some ⟨wb, 0, none⟩)) = u at *
                have ST := Lib.hid (qStep (cf.out _ hml.out) (.inr (.inl (show 10 ≤ 10 ∧ 10 ≤ 20 by decide))) h6)
                clear h6
                replace hil := hilh
                rw [show ((stepW (D + 4) D (pop0 σ.tail) σ.m).1.pc == 99) = false by simpa using h9] at ST
                have hacc3 := Lib.hid (show playStep (D + 4) D σ 0 (some false) = { begun σ 0 false with m := (stepW (D + 4) D (pop0 σ.tail) σ.m).2, ws := upd (begun σ 0 false).ws 0 (some (stepW (D + 4) D (pop0 σ.tail) σ.m).1) } from by rw [hacc]; unfold acc; exact if_neg h9)
                generalize (stepW (D + 4) D (pop0 σ.tail) σ.m).1 = s1 at *
                generalize (stepW (D + 4) D (pop0 σ.tail) σ.m).2 = m1 at *
                clear hacc h9
                go_wp2_with (go_at_call 34; refine ST.out.mono ?_; rintro e w6 ⟨rfl, h7⟩; replace h7 := Lib.hid h7)
                go_roundw
                case rel =>
                  refine ⟨i + 1, playStep (D + 4) D σ 0 (some false), by omega, by rw [hacc3.out]; rfl, by rw [hacc3.out]; rfl, by rw [hacc3.out]; rfl, by go_num, FIN.out (some false) (fun h => absurd hil.out (by omega)) _ ?_⟩
                  rw [hacc3.out]
                  exact hPQ.some_ h7.out (upd_twice ..) rfl rfl rfl rfl rfl rfl
                case measure => simp [intOf]; omega
          · have hge : decide (os.length ≤ i) = true := decide_eq_true (by omega)
            have hge2 : decide ((os.length : Int) ≤ (i : Int)) = true := decide_eq_true (by omega)
            have hRes := Lib.hid (show _ from FIN.out none (fun _ => rfl) wr (by rw [play_idle hn]; exact hPS.out))
            rw [play_idle hn] at hRes
            clear hob hH hInv hwin hP hwp hpm hO hO1
            go_wp2_with fail
            go_roundw
            case rel => exact ⟨i + 1, σ, by omega, rfl, rfl, rfl, by go_num, hRes.out⟩
            case measure => simp [intOf]; omega
        · rw [hA] at hO
          have hpc := (inv_pcOk hInv hs).1
          have hD : DW 2 D 1 (D + 4) w wr g sb wb σ.m s0 (PB pb ob wkb rb D P (.slice bp σ.pushed.length cp) (.slice bq σ.popped.length cq) (.slice bs σ.stolen.length cs_) (.slice bk σ.stack.length ck) σ.right σ.pushed σ.popped σ.stolen σ.stack rest) := ⟨.inl hpc, cs, bx, hk, hO⟩
          obtain ⟨y0, y1⟩ := DWP.row hD hK
          rw [hv] at y0
          have hPv : updV P K (.pointer (some ⟨wb, 0, none⟩)) = P := by
            rw [← hv]
            funext j
            unfold updV
            split
            · rename_i e; rw [e]
            · rfl
          have hD2 : DW 2 D 1 (D + 4) w wr g sb wb σ.m s0 (PB pb ob wkb rb D (updV P K (.pointer (some ⟨wb, 0, none⟩))) (.slice bp σ.pushed.length cp) (.slice bq σ.popped.length cq) (.slice bs σ.stolen.length cs_) (.slice bk σ.stack.length ck) σ.right σ.pushed σ.popped σ.stolen σ.stack rest) := by rw [hPv]; exact hD
          have ST := Lib.hid (qStep (cf.out _ hml) hpc hD2)
          have hacc : ∀ act, playStep (D + 4) D σ K act = if (stepW (D + 4) D s0 σ.m).1.pc = 99 then closed { σ with m := (stepW (D + 4) D s0 σ.m).2, ws := upd σ.ws K none } K (stepW (D + 4) D s0 σ.m).1 else { σ with m := (stepW (D + 4) D s0 σ.m).2, ws := upd σ.ws K (some (stepW (D + 4) D s0 σ.m).1) } := fun act => play_some hs
          generalize (stepW (D + 4) D s0 σ.m).1 = s1 at *
          generalize (stepW (D + 4) D s0 σ.m).2 = m1 at *
          clear hD hD2 hPv hO hpc hob hH hInv hml hwin hP hwp hpm hk
          replace hlen4 := Lib.hid hlen4
          by_cases h9 : s1.pc = 99
          · rw [show (s1.pc == 99) = true by simpa using h9] at ST
            have hacc1 := hacc none
            rw [if_pos h9] at hacc1
            clear hacc
            go_wp2_with (go_at_call 34; refine ST.out.mono ?_; rintro e w5 ⟨rfl, h5⟩; obtain ⟨z0, z1⟩ := DWP.row h5 hK; have h6 := Lib.hid (DWP.setRow h5 hK (.pointer none)); clear h5)
            clear z0 z1
            replace h6 := h6.out
            rw [updV_twice] at h6
            generalize w5.setCell ⟨wkb, K, none⟩ (.pointer none) = u at *
            have GV : gotV s1 = if s1.got = true then (s1.x, true) else (0, false) := by unfold gotV; simp [h9]
            have hO7 := h6.drop
            replace h6 := Lib.hid h6
            by_cases hK0 : K = 0
            rotate_left
            · have hKp : decide (0 < (K : Int)) = true := decide_eq_true (by omega)
              have hKp2 : 0 < K := by omega
              by_cases hg : s1.got = true
              · rw [if_pos hg] at GV
                have hacc3 := Lib.hid (show playStep (D + 4) D σ K none = { σ with m := m1, ws := upd σ.ws K none, stolen := σ.stolen ++ [s1.x] } from by rw [hacc1]; unfold closed; rw [if_pos hK0, if_pos hg])
                obtain ⟨⟨x0, x1, x2, x3, x4⟩, xf⟩ := PB.out hO7
                have f0 := xf 0
                have f1 := xf 1
                have f2 := xf 2
                have f3 := xf 3
                have f4 := xf 4
                clear xf
                have hE := Lib.hid (PB.app2 hO7 s1.x)
                have hr2 := hO7.row 6 rfl
                have hb := hlen4.out
                generalize s1.x = X at *
                clear hacc1 hO7 hK0 hg
                go_wp2_with (first | (go_at_call 25; refine (qGot h6.out).mono ?_; rw [GV]; rintro e w7 ⟨rfl, rfl⟩) | (at_builtin; refine wpList_append_lit' _ rfl (.tmp 97) (.tmp 99) 26 rfl 3 ti1 (.int .i64 0) 1 8 Try.underlying26 hi1 hw0 hw1' hw2' rfl (by decide) (.slice bs σ.stolen.length cs_) σ.stolen.length (σ.stolen.map (.int .i64)) rfl hr2 #[.int .i64 X] _ 1 _ (by simp) rfl rfl (by simp [Value.oneCell']) (by unfold maxLen; omega) (by omega) ?_; intro ao2 cap2 wz hr3 ht3 hf3; obtain ⟨⟨vv, g1⟩, g2, hE2⟩ := hE.out _ _ _ hr3 ht3 hf3))
                go_roundw
                case rel =>
                  refine ⟨i + 1, playStep (D + 4) D σ K none, by omega, by rw [hacc3.out], by rw [hacc3.out] <;> first | rfl | exact (by go_num) | (show _ = Value.int .i64 ((σ.next + 1 : Nat) : Int); go_num) | (show _ = Value.int .i64 ((σ.next + 1 : Nat) : Int); rfl) | (show _ = Value.int .i64 ((σ.next + 1 : Nat) : Int); congr 1; omega), by rw [hacc3.out] <;> first | rfl | (show _ = Value.bool σ.pops; rw [hpp]), by go_num, FIN.out none (fun _ => rfl) _ ?_⟩
                  rw [hacc3.out]
                  exact hPQ.none_ hE2 rfl rfl rfl rfl rfl rfl rfl
                case measure => simp [intOf]; omega
              · rw [if_neg hg] at GV
                have hacc3 := Lib.hid (show playStep (D + 4) D σ K none = { σ with m := m1, ws := upd σ.ws K none } from by rw [hacc1]; unfold closed; rw [if_pos hK0, if_neg hg])
                replace hO7 := Lib.hid hO7
                clear hacc1 hK0 hg
                go_wp2_with (go_at_call 25; refine (qGot h6.out).mono ?_; rw [GV]; rintro e w7 ⟨rfl, rfl⟩)
                go_roundw
                case rel =>
                  refine ⟨i + 1, playStep (D + 4) D σ K none, by omega, by rw [hacc3.out], by rw [hacc3.out] <;> first | rfl | exact (by go_num) | (show _ = Value.int .i64 ((σ.next + 1 : Nat) : Int); go_num) | (show _ = Value.int .i64 ((σ.next + 1 : Nat) : Int); rfl) | (show _ = Value.int .i64 ((σ.next + 1 : Nat) : Int); congr 1; omega), by rw [hacc3.out] <;> first | rfl | (show _ = Value.bool σ.pops; rw [hpp]), by go_num, FIN.out none (fun _ => rfl) _ ?_⟩
                  rw [hacc3.out]
                  exact hPQ.none_ hO7.out rfl rfl rfl rfl rfl rfl rfl
                case measure => simp [intOf]; omega
            · subst hK0
              by_cases hpp : σ.pops = false
              · by_cases hfull : s1.full = false
                · have hacc3 := Lib.hid (show playStep (D + 4) D σ 0 none = { σ with m := m1, ws := upd σ.ws 0 none, tail := s1.t, next := σ.next + 1, pushed := σ.pushed ++ [(σ.next : Int)], stack := σ.stack ++ [(σ.next : Int)] } from by rw [hacc1]; unfold closed; rw [if_neg (by omega), if_pos ⟨hpp, hfull⟩])
                  obtain ⟨⟨x0, x1, x2, x3, x4⟩, xf⟩ := PB.out hO7
                  have f0 := xf 0
                  have f1 := xf 1
                  have f2 := xf 2
                  have f3 := xf 3
                  have f4 := xf 4
                  clear xf
                  have hE := Lib.hid (PB.app0 hO7 (σ.next : Int))
                  have hr2 := hO7.row 4 rfl
                  have hb := hlen4.out
                  obtain ⟨gx, hgx⟩ : ∃ gx, (if s1.got = true then (s1.x, true) else ((0 : Int), false)) = gx := ⟨_, rfl⟩
                  rw [hgx] at GV
                  clear hacc1 hO7 hgx
                  go_upto_region 34 with (first | (go_at_call 25; refine (qGot h6.out).mono ?_; rw [GV]; rintro e w7 ⟨rfl, rfl⟩) | (go_at_call 26; refine (qTail h6.out).mono ?_; rintro e w7 ⟨rfl, rfl⟩) | (go_at_call 29; refine (qFull h6.out).mono ?_; rw [hfull]; rintro e w7 ⟨rfl, rfl⟩) | (at_builtin; refine wpList_append_lit' _ rfl (.tmp 116) (.tmp 118) 26 rfl 3 ti1 (.int .i64 0) 1 8 Try.underlying26 hi1 hw0 hw1' hw2' rfl (by decide) (.slice bp σ.pushed.length cp) σ.pushed.length (σ.pushed.map (.int .i64)) rfl hr2 #[.int .i64 (σ.next : Int)] _ 1 _ (by simp) rfl rfl (by simp [Value.oneCell']) (by unfold maxLen; omega) (by omega) ?_; intro ao2 cap2 wz hr3 ht3 hf3; obtain ⟨⟨vv, g1⟩, g2, hE2⟩ := hE.out _ _ _ hr3 ht3 hf3))
                  clear hE hr2 x0 x1 x2 x3 x4 f0 f1 f2 f3 f4 g1 g2 hr3 ht3 hf3
                  generalize wz.setCell ⟨ob, 0, none⟩ (.slice ao2 (σ.pushed.length + 1) cap2) = u2 at *
                  obtain ⟨⟨x0, x1, x2, x3, x4⟩, xf⟩ := PB.out hE2
                  have f0 := xf 0
                  have f1 := xf 1
                  have f2 := xf 2
                  have f3 := xf 3
                  have f4 := xf 4
                  clear xf
                  have x3b : (u2.alloc (.cells #[] 3)).cell? ⟨ob, 3, none⟩ = some (.slice bk σ.stack.length ck) := (PB.out (hE2.alloc (.cells #[] 3))).1.2.2.2.1
                  have hsrc := (hE2.row 7 rfl).src'
                  have hone := one_cellsD σ.stack
                  have hE := Lib.hid (fun (wq : World) (v : Value) (h2 : Own w wq ((storeA g sb m1 :: PB pb ob wkb rb D (updV P 0 (.pointer none)) (.slice ao2 (σ.pushed.length + 1) cap2) (.slice bq σ.popped.length cq) (.slice bs σ.stolen.length cs_) (.slice bk σ.stack.length ck) σ.right (σ.pushed ++ [(σ.next : Int)]) σ.popped σ.stolen σ.stack rest) ++ [rI v (σ.stack ++ [(σ.next : Int)])])) => PB.sk_new hE2 v (σ.stack ++ [(σ.next : Int)]) h2)
                  obtain ⟨LL, hLL⟩ : ∃ LL, (storeA g sb m1 :: PB pb ob wkb rb D (updV P 0 (.pointer none)) (.slice ao2 (σ.pushed.length + 1) cap2) (.slice bq σ.popped.length cq) (.slice bs σ.stolen.length cs_) (.slice bk σ.stack.length ck) σ.right (σ.pushed ++ [(σ.next : Int)]) σ.popped σ.stolen σ.stack rest) = LL := ⟨_, rfl⟩
                  rw [hLL] at hE2 hE
                  go_wp2_with (first | (at_builtin; refine wpList_append_copy' _ rfl (.tmp 121) (.tmp 123) 26 rfl 3 ti1 (.int .i64 0) 1 8 Try.underlying26 hi1 hw0 hw1' hw2' rfl (by decide) _ (by simp) rfl bk σ.stack.length ck (σ.stack.map (.int .i64)) rfl hsrc hone (by unfold maxLen; omega) (by omega) ?_; intro ao4 cap4 w8 hrow hb2 hf2; have hO8 := hE2.push hb2 (rowA 3 1 (.slice ao4 σ.stack.length cap4) σ.stack.length (σ.stack.map (.int .i64))) hrow hf2; have hO9 := Lib.hid (fun (wq : World) (aq : Option Addr) (cq' : Nat) (hq : Row wq 3 1 (.slice aq (σ.stack.length + 1) cq') (σ.stack.length + 1) (σ.stack.map (.int .i64) ++ [.int .i64 (σ.next : Int)])) (tq : Touch (fun k => Value.ownBlock (.slice ao4 σ.stack.length cap4) = some k) w8 wq) (fq : ∀ k, Value.ownBlock (.slice aq (σ.stack.length + 1) cq') = some k → Value.ownBlock (.slice ao4 σ.stack.length cap4) = some k ∨ w8.heap.size ≤ k) => hE.out wq (.slice aq (σ.stack.length + 1) cq') (by have q := hO8.move LL.length List.getElem?_concat_length (Moves.of_append hq tq fq); refine q.cast ?_; simp [rI]))) | (at_builtin; refine wpList_append_lit' _ rfl (.tmp 124) (.tmp 126) 26 rfl 3 ti1 (.int .i64 0) 1 8 Try.underlying26 hi1 hw0 hw1' hw2' rfl (by decide) (.slice ao4 σ.stack.length cap4) σ.stack.length (σ.stack.map (.int .i64)) rfl hrow #[.int .i64 (σ.next : Int)] _ 1 _ (by simp) rfl rfl (by simp [Value.oneCell']) (by unfold maxLen; omega) (by omega) ?_; intro ao5 cap5 w9 hr5 ht5 hf5; obtain ⟨⟨vv, g1⟩, g2, hE5⟩ := hO9.out _ _ _ hr5 ht5 hf5))
                  go_roundw
                  case rel =>
                    refine ⟨i + 1, playStep (D + 4) D σ 0 none, by omega, by rw [hacc3.out], by rw [hacc3.out] <;> first | rfl | exact (by go_num) | (show _ = Value.int .i64 ((σ.next + 1 : Nat) : Int); go_num) | (show _ = Value.int .i64 ((σ.next + 1 : Nat) : Int); rfl) | (show _ = Value.int .i64 ((σ.next + 1 : Nat) : Int); congr 1; omega), by rw [hacc3.out] <;> first | rfl | (show _ = Value.bool σ.pops; rw [hpp]), by go_num, FIN.out none (fun _ => rfl) _ ?_⟩
                    rw [hacc3.out]
                    exact hPQ.none_ hE5 rfl rfl rfl rfl rfl rfl rfl
                  case measure => simp [intOf]; omega
                · have hfull : s1.full = true := by simpa using hfull
                  have hacc3 := Lib.hid (show playStep (D + 4) D σ 0 none = { σ with m := m1, ws := upd σ.ws 0 none, tail := s1.t } from by rw [hacc1]; unfold closed; rw [if_neg (by omega), if_neg (by rintro ⟨_, h⟩; rw [hfull] at h; cases h), if_neg (by rintro ⟨h, _⟩; exact absurd (hpp.symm.trans h) (by decide)), if_neg (by intro h; exact absurd (hpp.symm.trans h) (by decide))])
                  obtain ⟨⟨x0, x1, x2, x3, x4⟩, xf⟩ := PB.out hO7
                  have f0 := xf 0
                  have f1 := xf 1
                  have f2 := xf 2
                  have f3 := xf 3
                  have f4 := xf 4
                  clear xf
                  replace hO7 := Lib.hid hO7
                  obtain ⟨gx, hgx⟩ : ∃ gx, (if s1.got = true then (s1.x, true) else ((0 : Int), false)) = gx := ⟨_, rfl⟩
                  rw [hgx] at GV
                  clear hacc1 hgx
                  go_wp2_with (first | (go_at_call 25; refine (qGot h6.out).mono ?_; rw [GV]; rintro e w7 ⟨rfl, rfl⟩) | (go_at_call 26; refine (qTail h6.out).mono ?_; rintro e w7 ⟨rfl, rfl⟩) | (go_at_call 29; refine (qFull h6.out).mono ?_; rw [hfull]; rintro e w7 ⟨rfl, rfl⟩))
                  go_roundw
                  case rel =>
                    refine ⟨i + 1, playStep (D + 4) D σ 0 none, by omega, by rw [hacc3.out], by rw [hacc3.out] <;> first | rfl | exact (by go_num) | (show _ = Value.int .i64 ((σ.next + 1 : Nat) : Int); go_num) | (show _ = Value.int .i64 ((σ.next + 1 : Nat) : Int); rfl) | (show _ = Value.int .i64 ((σ.next + 1 : Nat) : Int); congr 1; omega), by rw [hacc3.out] <;> first | rfl | (show _ = Value.bool σ.pops; rw [hpp]), by go_num, FIN.out none (fun _ => rfl) _ ?_⟩
                    rw [hacc3.out]
                    exact hPQ.none_ hO7.out rfl rfl rfl rfl rfl rfl rfl
                  case measure => simp [intOf]; omega
              · have hpp : σ.pops = true := by simpa using hpp
                by_cases hg : s1.got = true
                · rw [if_pos hg] at GV
                  have hr0 := hrt.out none
                  have hacc4 : playStep (D + 4) D σ 0 none = { σ with m := m1, ws := upd σ.ws 0 none, tail := s1.t, right := σ.right && (decide (0 < σ.stack.length) && (s1.x == σ.stack.getD (σ.stack.length - 1) 0)), popped := σ.popped ++ [s1.x], stack := σ.stack.take (σ.stack.length - 1) } := by rw [hacc1]; unfold closed; rw [if_neg (by omega), if_neg (by rintro ⟨h, _⟩; rw [hpp] at h; cases h), if_pos ⟨hpp, hg⟩]
                  rw [hacc4] at hr0
                  simp only [Bool.and_eq_true, decide_eq_true_eq, beq_iff_eq] at hr0
                  obtain ⟨hr1, hn0, hlast⟩ := hr0
                  obtain ⟨L, hL⟩ : ∃ L, σ.stack.length = L + 1 := ⟨σ.stack.length - 1, by omega⟩
                  have hacc3 := Lib.hid (show playStep (D + 4) D σ 0 none = { σ with m := m1, ws := upd σ.ws 0 none, tail := s1.t, right := true, popped := σ.popped ++ [s1.x], stack := σ.stack.take L } from by rw [hacc4]; simp only [hr1, hlast, hn0, decide_true, beq_self_eq_true, Bool.and_self, hL, Nat.add_sub_cancel]; simp)
                  rw [hL, Nat.add_sub_cancel] at hlast
                  have hskc : ∃ g3 o3, bk = some ⟨g3, o3, none⟩ ∧ u.cell? ⟨g3, o3 + L, none⟩ = some (.int .i64 s1.x) := by
                    obtain ⟨g3, o3, cap3, hv3, q1, q2, q3, q4⟩ := (hO7.row 7 rfl).addr (show 0 < σ.stack.length by omega)
                    simp only [Value.slice.injEq] at hv3
                    exact ⟨g3, o3, hv3.1, by rw [q3 L (by omega), getD_map (by omega), hlast]⟩
                  obtain ⟨g3, o3, rfl, y3⟩ := hskc
                  obtain ⟨⟨x0, x1, x2, x3, x4⟩, xf⟩ := PB.out hO7
                  have f0 := xf 0
                  have f1 := xf 1
                  have f2 := xf 2
                  have f3 := xf 3
                  have f4 := xf 4
                  clear xf
                  rw [hr1] at x4
                  have hR := Lib.hid (PB.rt hO7 true)
                  rw [hL] at x3 bk1
                  have hb := hlen4.out
                  replace hL := Lib.hid hL
                  have hLL : L ≤ 1000 := by have := hL.out; omega
                  have hgt : decide (0 < (L : Int) + 1) = true := decide_eq_true (by omega)
                  have hll : L < L + 1 := by omega
                  replace hlast := Lib.hid hlast
                  have hxl : (s1.x == s1.x) = true := by simp
                  generalize s1.x = X at *
                  clear hacc1 hacc4 hO7 hg hn0
                  go_upto_region 38 with (first | (go_at_call 25; refine (qGot h6.out).mono ?_; rw [GV]; rintro e w7 ⟨rfl, rfl⟩) | (go_at_call 26; refine (qTail h6.out).mono ?_; rintro e w7 ⟨rfl, rfl⟩) | (go_at_call 29; refine (qFull h6.out).mono ?_; rw [hfull]; rintro e w7 ⟨rfl, rfl⟩))
                  replace hR := hR.out
                  clear x0 x1 x2 x3 x4 f0 f1 f2 f3 f4 y3
                  generalize u.setCell ⟨ob, 4, none⟩ (.bool true) = u2 at *
                  obtain ⟨⟨x0, x1, x2, x3, x4⟩, xf⟩ := PB.out hR
                  have f0 := xf 0
                  have f1 := xf 1
                  have f2 := xf 2
                  have f3 := xf 3
                  have f4 := xf 4
                  clear xf
                  have hE := Lib.hid (PB.app1 hR X)
                  have hr2 := hR.row 5 rfl
                  clear hR
                  go_upto_region 39 with (first | (at_builtin; refine wpList_append_lit' _ rfl (.tmp 154) (.tmp 156) 26 rfl 3 ti1 (.int .i64 0) 1 8 Try.underlying26 hi1 hw0 hw1' hw2' rfl (by decide) (.slice bq σ.popped.length cq) σ.popped.length (σ.popped.map (.int .i64)) rfl hr2 #[.int .i64 X] _ 1 _ (by simp) rfl rfl (by simp [Value.oneCell']) (by unfold maxLen; omega) (by omega) ?_; intro ao2 cap2 wz hr3 ht3 hf3; obtain ⟨⟨vv, g1⟩, g2, hE2⟩ := hE.out _ _ _ hr3 ht3 hf3))
                  clear hE hr2 x0 x1 x2 x3 x4 f0 f1 f2 f3 f4 g1 g2 hr3 ht3 hf3
                  generalize wz.setCell ⟨ob, 1, none⟩ (.slice ao2 (σ.popped.length + 1) cap2) = u3 at *
                  obtain ⟨⟨x0, x1, x2, x3, x4⟩, xf⟩ := PB.out hE2
                  have f0 := xf 0
                  have f1 := xf 1
                  have f2 := xf 2
                  have f3 := xf 3
                  have f4 := xf 4
                  clear xf
                  have hT := Lib.hid (PB.sk_take hE2 (k := L) (by have := hL.out; omega))
                  rw [hL.out] at x3
                  have hmx : max (L : Int) 0 = (L : Int) := by omega
                  clear hE2
                  go_wp2_with fail
                  go_roundw
                  case rel =>
                    refine ⟨i + 1, playStep (D + 4) D σ 0 none, by omega, by rw [hacc3.out], by rw [hacc3.out] <;> first | rfl | exact (by go_num) | (show _ = Value.int .i64 ((σ.next + 1 : Nat) : Int); go_num) | (show _ = Value.int .i64 ((σ.next + 1 : Nat) : Int); rfl) | (show _ = Value.int .i64 ((σ.next + 1 : Nat) : Int); congr 1; omega), by rw [hacc3.out] <;> first | rfl | (show _ = Value.bool σ.pops; rw [hpp]), by go_num, FIN.out none (fun _ => rfl) _ ?_⟩
                    rw [hacc3.out]
                    exact hPQ.none_ (kv := .slice (some ⟨g3, o3, none⟩) L ck) hT.out rfl rfl rfl rfl rfl rfl rfl
                  case measure => simp [intOf]; omega
                · rw [if_neg hg] at GV
                  have hacc3 := Lib.hid (show playStep (D + 4) D σ 0 none = { σ with m := m1, ws := upd σ.ws 0 none, tail := s1.t, stack := [] } from by rw [hacc1]; unfold closed; rw [if_neg (by omega), if_neg (by rintro ⟨h, _⟩; rw [hpp] at h; cases h), if_neg (by rintro ⟨_, h⟩; exact hg h), if_pos hpp])
                  obtain ⟨⟨x0, x1, x2, x3, x4⟩, xf⟩ := PB.out hO7
                  have f0 := xf 0
                  have f1 := xf 1
                  have f2 := xf 2
                  have f3 := xf 3
                  have f4 := xf 4
                  clear xf
                  have hT := Lib.hid (PB.sk_nil hO7)
                  clear hacc1 hO7 hg
                  go_wp2_with (first | (go_at_call 25; refine (qGot h6.out).mono ?_; rw [GV]; rintro e w7 ⟨rfl, rfl⟩) | (go_at_call 26; refine (qTail h6.out).mono ?_; rintro e w7 ⟨rfl, rfl⟩) | (go_at_call 29; refine (qFull h6.out).mono ?_; rw [hfull]; rintro e w7 ⟨rfl, rfl⟩))
                  go_roundw
                  case rel =>
                    refine ⟨i + 1, playStep (D + 4) D σ 0 none, by omega, by rw [hacc3.out], by rw [hacc3.out] <;> first | rfl | exact (by go_num) | (show _ = Value.int .i64 ((σ.next + 1 : Nat) : Int); go_num) | (show _ = Value.int .i64 ((σ.next + 1 : Nat) : Int); rfl) | (show _ = Value.int .i64 ((σ.next + 1 : Nat) : Int); congr 1; omega), by rw [hacc3.out] <;> first | rfl | (show _ = Value.bool σ.pops; rw [hpp]), by go_num, FIN.out none (fun _ => rfl) _ ?_⟩
                    rw [hacc3.out]
                    exact hPQ.none_ hT.out rfl rfl rfl rfl rfl rfl rfl
                  case measure => simp [intOf]; omega
          · rw [show (s1.pc == 99) = false by simpa using h9] at ST
            have hacc2 := hacc none
            rw [if_neg h9] at hacc2
            replace hacc2 := Lib.hid hacc2
            clear hacc h9
            go_wp2_with (go_at_call 34; go_loud (refine ST.out.mono ?_; rintro e w5 ⟨rfl, h5⟩; replace h5 := Lib.hid h5))
            go_roundw
            case rel =>
              have hps : PState w w5 g sb pb ob wkb rb D (D + 4) (playStep (D + 4) D σ K none) := by
                rw [hacc2.out]
                exact hPQ.some_ h5.out rfl rfl rfl rfl rfl rfl rfl
              exact ⟨i + 1, _, by omega, by rw [hacc2.out], by rw [hacc2.out], by rw [hacc2.out], by go_num, FIN.out none (fun _ => rfl) _ hps⟩
            case measure => simp [intOf]; omega
    · obtain rfl : i = os.length + 400 := by omega
      obtain ⟨hInv, hml, hlen4, hwin, hP⟩ := hH.out
      have hw9 := hwin (by omega)
      rw [show os.length + 400 - (os.length + 400) = 0 by omega] at hw9
      have hE := play_end hInv (winds_end hw9)
      obtain ⟨P, As, pv, qv, sv, kv, hwp, hO⟩ := hP
      have hPn : ∀ k, k < 4 → P k = .pointer none := fun k hk => by
        rcases hwp k hk with ⟨_, h, _⟩ | ⟨_, _, _, _, h, _⟩
        · exact h
        · rw [hE.none_ k] at h; cases h
      rw [hE.rt] at hO
      replace hE := Lib.hid hE
      have hlen5 := Lib.hid (show σ.pushed.length ≤ 1000 ∧ σ.popped.length ≤ 1000 ∧ σ.stolen.length ≤ 1000 ∧ σ.stack.length ≤ 1000 by omega)
      replace hPn := Lib.hid hPn
      clear hH hInv hml hwin hwp hw9 hlen4
      replace hO := Lib.hid hO
      go_wp2_with fail
      go_loopw [18] (fun kv' wr' => ∃ k : Nat, k ≤ 4 ∧ kv' = .int .i64 k ∧ Hid (Own w wr' (storeA g sb σ.m :: PB pb ob wkb rb D P pv qv sv kv true σ.pushed σ.popped σ.stolen σ.stack [As 0, As 1, As 2, As 3]))) (fun kv' _ => (4 - intOf kv').toNat)
      case atStart => exact ⟨0, by omega, rfl, hO⟩
      case round =>
        clear hO
        obtain ⟨k, hk, rfl, hO⟩ := hrel
        by_cases hk4 : k < 4
        · obtain ⟨r0, r1⟩ := PB.row hO.out hk4
          rw [hPn.out k hk4] at r0
          obtain ⟨⟨x0, x1, x2, x3, x4⟩, xf⟩ := PB.out hO.out
          have f4 := xf 4
          clear xf x0 x1 x2 x3
          have hR := Lib.hid (PB.rt hO.out true)
          go_wp2_with fail
          go_roundw
          case rel => first | exact ⟨k + 1, by omega, by go_num, hR⟩ | exact ⟨k + 1, by omega, by go_num, hO⟩
          case measure => simp [intOf]; omega
        · obtain rfl : k = 4 := by omega
          obtain ⟨bp, cp, rfl, _⟩ := (hO.out.row 4 rfl).shape
          obtain ⟨bq, cq, rfl, _⟩ := (hO.out.row 5 rfl).shape
          obtain ⟨bs, cs_, rfl, _⟩ := (hO.out.row 6 rfl).shape
          obtain ⟨bk, ck, rfl, _⟩ := (hO.out.row 7 rfl).shape
          obtain ⟨⟨x0, x1, x2, x3, x4⟩, _⟩ := PB.out hO.out
          have q0 := hO.out.cget 8 rfl 0
          have q1 := hO.out.cget 8 rfl 1
          have q2 := hO.out.cget 8 rfl 2
          have q3 := hO.out.cget 8 rfl 3
          have q4 := hO.out.cget 8 rfl 4
          simp at q0 q1 q2 q3 q4
          obtain ⟨q0, p0⟩ := q0
          obtain ⟨q1, p1⟩ := q1
          obtain ⟨q2, p2⟩ := q2
          obtain ⟨q3, p3⟩ := q3
          obtain ⟨q4, p4⟩ := q4
          have hZ := Lib.hid (((((hO.out.cset 8 rfl 0 (.slice bp σ.pushed.length cp)).cset 8 rfl 1 (.slice bq σ.popped.length cq)).cset 8 rfl 2 (.slice bs σ.stolen.length cs_)).cset 8 rfl 3 (.slice bk σ.stack.length ck)).cset 8 rfl 4 (.bool true))
          clear hO
          go_wp2_with fail
          have hY := hZ.out
          have z0 := (hY.cget 8 rfl 0).1
          have z1 := (hY.cget 8 rfl 1).1
          have z2 := (hY.cget 8 rfl 2).1
          have z3 := (hY.cget 8 rfl 3).1
          have z4 := (hY.cget 8 rfl 4).1
          generalize ((((wr.setCell ⟨rb, 0, none⟩ (.slice bp σ.pushed.length cp)).setCell ⟨rb, 1, none⟩ (.slice bq σ.popped.length cq)).setCell ⟨rb, 2, none⟩ (.slice bs σ.stolen.length cs_)).setCell ⟨rb, 3, none⟩ (.slice bk σ.stack.length ck)).setCell ⟨rb, 4, none⟩ (.bool true) = wz at *
          simp at z0 z1 z2 z3 z4
          have hX := hY.sel [4, 5, 6, 7] (by decide)
          exact bodyPost_ret (v := .agg #[.slice bp σ.pushed.length cp, .slice bq σ.popped.length cq, .slice bs σ.stolen.length cs_, .slice bk σ.stack.length ck, .bool true]) (by simp [results, Try.results35, go_sem, z0, z1, z2, z3, z4]) rfl ⟨σ, _, _, _, _, rfl, hE.out, hlen5.out, hX⟩
end Go.Proofs.Ytofnjapgacgdlaa
