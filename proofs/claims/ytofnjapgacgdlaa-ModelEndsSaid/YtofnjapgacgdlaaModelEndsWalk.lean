/- The walk through the law ModelEnds. -/
import Derived.Test.YtofnjapgacgdlaaModelDoesWalk
set_option linter.unusedVariables false
set_option linter.unusedSimpArgs false
namespace Go.Proofs.Ytofnjapgacgdlaa
open Go.RowKit
set_option maxRecDepth 100000
set_option maxHeartbeats 20000000
/-- Three deques, and three rows, as they lie. -/
def Ends (w0 w : World) (ab bb cb : Nat) (po so ko : Option Addr) (pc sc kc : Nat) (xs ys zs ps ss ks : List Int) : Prop := ∃ av bv cv, Own w0 w [cellsA ab #[av, .int .i64 1000] 76, rowA 3 1 av (xs).length ((xs).map (.int .i64)), cellsA bb #[bv, .int .i64 1000] 76, rowA 3 1 bv (ys).length ((ys).map (.int .i64)), cellsA cb #[cv, .int .i64 1000] 76, rowA 3 1 cv (zs).length ((zs).map (.int .i64)), rowA 3 1 (.slice po ps.length pc) (ps).length ((ps).map (.int .i64)), rowA 3 1 (.slice so ss.length sc) (ss).length ((ss).map (.int .i64)), rowA 3 1 (.slice ko ks.length kc) (ks).length ((ks).map (.int .i64))]
section
variable {w0 w : World} {ab bb cb : Nat} {po so ko : Option Addr} {pc sc kc : Nat} {xs ys zs ps ss ks : List Int}
theorem Ends.a (h : Ends w0 w ab bb cb po so ko pc sc kc xs ys zs ps ss ks) {f : FuncId} {args : Array Value} {E : Ending} {l' : List Int} (c : ∀ l, DOwn w0 w ab 1000 xs l → Calls Try.prog f args w fun e w' => e = E ∧ DOwn w0 w' ab 1000 l' l) : Calls Try.prog f args w fun e w' => e = E ∧ Ends w0 w' ab bb cb po so ko pc sc kc l' ys zs ps ss ks := by
  obtain ⟨av, bv, cv, hO⟩ := h
  refine (c [cellsA bb #[bv, .int .i64 1000] 76, rowA 3 1 bv (ys).length ((ys).map (.int .i64)), cellsA cb #[cv, .int .i64 1000] 76, rowA 3 1 cv (zs).length ((zs).map (.int .i64)), rowA 3 1 (.slice po ps.length pc) (ps).length ((ps).map (.int .i64)), rowA 3 1 (.slice so ss.length sc) (ss).length ((ss).map (.int .i64)), rowA 3 1 (.slice ko ks.length kc) (ks).length ((ks).map (.int .i64))] ⟨av, hO.sel [0, 1, 2, 3, 4, 5, 6, 7, 8] (by decide)⟩).mono ?_
  rintro e w' ⟨he, v2, h2⟩
  exact ⟨he, v2, bv, cv, Own.sel h2 [0, 1, 2, 3, 4, 5, 6, 7, 8] (by decide)⟩
theorem Ends.b (h : Ends w0 w ab bb cb po so ko pc sc kc xs ys zs ps ss ks) {f : FuncId} {args : Array Value} {E : Ending} {l' : List Int} (c : ∀ l, DOwn w0 w bb 1000 ys l → Calls Try.prog f args w fun e w' => e = E ∧ DOwn w0 w' bb 1000 l' l) : Calls Try.prog f args w fun e w' => e = E ∧ Ends w0 w' ab bb cb po so ko pc sc kc xs l' zs ps ss ks := by
  obtain ⟨av, bv, cv, hO⟩ := h
  refine (c [cellsA ab #[av, .int .i64 1000] 76, rowA 3 1 av (xs).length ((xs).map (.int .i64)), cellsA cb #[cv, .int .i64 1000] 76, rowA 3 1 cv (zs).length ((zs).map (.int .i64)), rowA 3 1 (.slice po ps.length pc) (ps).length ((ps).map (.int .i64)), rowA 3 1 (.slice so ss.length sc) (ss).length ((ss).map (.int .i64)), rowA 3 1 (.slice ko ks.length kc) (ks).length ((ks).map (.int .i64))] ⟨bv, hO.sel [2, 3, 0, 1, 4, 5, 6, 7, 8] (by decide)⟩).mono ?_
  rintro e w' ⟨he, v2, h2⟩
  exact ⟨he, av, v2, cv, Own.sel h2 [2, 3, 0, 1, 4, 5, 6, 7, 8] (by decide)⟩
theorem Ends.c (h : Ends w0 w ab bb cb po so ko pc sc kc xs ys zs ps ss ks) {f : FuncId} {args : Array Value} {E : Ending} {l' : List Int} (c : ∀ l, DOwn w0 w cb 1000 zs l → Calls Try.prog f args w fun e w' => e = E ∧ DOwn w0 w' cb 1000 l' l) : Calls Try.prog f args w fun e w' => e = E ∧ Ends w0 w' ab bb cb po so ko pc sc kc xs ys l' ps ss ks := by
  obtain ⟨av, bv, cv, hO⟩ := h
  refine (c [cellsA ab #[av, .int .i64 1000] 76, rowA 3 1 av (xs).length ((xs).map (.int .i64)), cellsA bb #[bv, .int .i64 1000] 76, rowA 3 1 bv (ys).length ((ys).map (.int .i64)), rowA 3 1 (.slice po ps.length pc) (ps).length ((ps).map (.int .i64)), rowA 3 1 (.slice so ss.length sc) (ss).length ((ss).map (.int .i64)), rowA 3 1 (.slice ko ks.length kc) (ks).length ((ks).map (.int .i64))] ⟨cv, hO.sel [4, 5, 0, 1, 2, 3, 6, 7, 8] (by decide)⟩).mono ?_
  rintro e w' ⟨he, v2, h2⟩
  exact ⟨he, av, bv, v2, Own.sel h2 [2, 3, 4, 5, 0, 1, 6, 7, 8] (by decide)⟩
theorem Ends.row_ps (h : Ends w0 w ab bb cb po so ko pc sc kc xs ys zs ps ss ks) : Row w 3 1 (.slice po ps.length pc) ps.length (ps.map (.int .i64)) := by
  obtain ⟨av, bv, cv, hO⟩ := h
  exact hO.row 6 rfl
theorem Ends.add_ps (h : Ends w0 w ab bb cb po so ko pc sc kc xs ys zs ps ss ks) {w2 : World} {ao2 : Option Addr} {c2 : Nat} {x : Int} {l2 : List Int} (hl : ps ++ [x] = l2) (hr : Row w2 3 1 (.slice ao2 (ps.length + 1) c2) (ps.length + 1) (ps.map (.int .i64) ++ [.int .i64 x])) (ht : Touch (fun k => Value.ownBlock (.slice po ps.length pc) = some k) w w2) (hf : ∀ k, Value.ownBlock (.slice ao2 (ps.length + 1) c2) = some k → Value.ownBlock (.slice po ps.length pc) = some k ∨ w.heap.size ≤ k) : Ends w0 w2 ab bb cb ao2 so ko c2 sc kc xs ys zs l2 ss ks := by
  obtain ⟨av, bv, cv, hO⟩ := h
  subst hl
  have q := hO.move 6 rfl (Moves.of_append hr ht hf)
  refine ⟨av, bv, cv, ?_⟩
  rw [List.length_append, List.length_singleton, List.map_append]
  exact q
theorem Ends.row_ss (h : Ends w0 w ab bb cb po so ko pc sc kc xs ys zs ps ss ks) : Row w 3 1 (.slice so ss.length sc) ss.length (ss.map (.int .i64)) := by
  obtain ⟨av, bv, cv, hO⟩ := h
  exact hO.row 7 rfl
theorem Ends.add_ss (h : Ends w0 w ab bb cb po so ko pc sc kc xs ys zs ps ss ks) {w2 : World} {ao2 : Option Addr} {c2 : Nat} {x : Int} {l2 : List Int} (hl : ss ++ [x] = l2) (hr : Row w2 3 1 (.slice ao2 (ss.length + 1) c2) (ss.length + 1) (ss.map (.int .i64) ++ [.int .i64 x])) (ht : Touch (fun k => Value.ownBlock (.slice so ss.length sc) = some k) w w2) (hf : ∀ k, Value.ownBlock (.slice ao2 (ss.length + 1) c2) = some k → Value.ownBlock (.slice so ss.length sc) = some k ∨ w.heap.size ≤ k) : Ends w0 w2 ab bb cb po ao2 ko pc c2 kc xs ys zs ps l2 ks := by
  obtain ⟨av, bv, cv, hO⟩ := h
  subst hl
  have q := hO.move 7 rfl (Moves.of_append hr ht hf)
  refine ⟨av, bv, cv, ?_⟩
  rw [List.length_append, List.length_singleton, List.map_append]
  exact q
theorem Ends.row_ks (h : Ends w0 w ab bb cb po so ko pc sc kc xs ys zs ps ss ks) : Row w 3 1 (.slice ko ks.length kc) ks.length (ks.map (.int .i64)) := by
  obtain ⟨av, bv, cv, hO⟩ := h
  exact hO.row 8 rfl
theorem Ends.add_ks (h : Ends w0 w ab bb cb po so ko pc sc kc xs ys zs ps ss ks) {w2 : World} {ao2 : Option Addr} {c2 : Nat} {x : Int} {l2 : List Int} (hl : ks ++ [x] = l2) (hr : Row w2 3 1 (.slice ao2 (ks.length + 1) c2) (ks.length + 1) (ks.map (.int .i64) ++ [.int .i64 x])) (ht : Touch (fun k => Value.ownBlock (.slice ko ks.length kc) = some k) w w2) (hf : ∀ k, Value.ownBlock (.slice ao2 (ks.length + 1) c2) = some k → Value.ownBlock (.slice ko ks.length kc) = some k ∨ w.heap.size ≤ k) : Ends w0 w2 ab bb cb po so ao2 pc sc c2 xs ys zs ps ss l2 := by
  obtain ⟨av, bv, cv, hO⟩ := h
  subst hl
  have q := hO.move 8 rfl (Moves.of_append hr ht hf)
  refine ⟨av, bv, cv, ?_⟩
  rw [List.length_append, List.length_singleton, List.map_append]
  exact q
theorem Ends.old (h : Ends w0 w ab bb cb po so ko pc sc kc xs ys zs ps ss ks) {p : Addr} {v : Value} (hp : w0.cell? p = some v) : w.cell? p = some v := by
  obtain ⟨av, bv, cv, hO⟩ := h
  exact hO.old hp
theorem Ends.below (h : Ends w0 w ab bb cb po so ko pc sc kc xs ys zs ps ss ks) : Below w0.heap.size w0 w := by
  obtain ⟨av, bv, cv, hO⟩ := h
  exact hO.below
theorem Ends.drewN (h : Ends w0 w ab bb cb po so ko pc sc kc xs ys zs ps ss ks) (m : Nat) : Ends w0 (w.drewN m) ab bb cb po so ko pc sc kc xs ys zs ps ss ks := by
  obtain ⟨av, bv, cv, hO⟩ := h
  exact ⟨av, bv, cv, hO.drewN m⟩
end
theorem take_snoc' {l l2 : List Int} {i : Nat} (h : i < l.length) (hx : l.take (i + 1) = l2) : l.take i ++ [l.getD i 0] = l2 := by
  rw [← hx, List.take_succ_eq_append_getElem h, List.getD_eq_getElem?_getD, List.getElem?_eq_getElem h]; rfl
theorem getD_rev {l : List Int} {i : Nat} (h : i < l.length) : l.reverse.getD i 0 = l.getD (l.length - 1 - i) 0 := by
  rw [List.getD_eq_getElem?_getD, List.getD_eq_getElem?_getD, List.getElem?_reverse h]
theorem drop_cons' {l : List Int} {i : Nat} (h : i < l.length) : l.drop i = l.getD i 0 :: l.drop (i + 1) := by
  rw [List.drop_eq_getElem_cons h, List.getD_eq_getElem?_getD, List.getElem?_eq_getElem h]; rfl
theorem mends_core (ls : List Int) (os : List Bool) (lo oo : Option Addr) (lc oc : Nat) (w : World) (hL : Lies w lo lc ls) (hl : ls.length ≤ 300) (h1 : os.length ≤ oc) (h2 : oc ≤ maxLen) (hol : os.length ≤ 1000)
    (ho : ∀ i, i < os.length → ∃ ad, oo = some ad ∧ w.cell? (ad.add i) = some (.bool (os.getD i false))) :
    Calls Try.prog 5 #[.slice lo ls.length lc, .slice oo os.length oc] w fun e w' => e = .returned (.bool true) ∧ Below w.heap.size w w' := by
  obtain ⟨i1, hi1, hw0, hw1', hw2'⟩ := info_parts' Try.infoIntM
  have hlc := hL.1
  have hlc2 := hL.2.1
  unfold maxLen at h2 hlc2
  replace ho := Lib.hid ho
  replace hL := Lib.hid hL
  go_enter Try.func5, Try.ntmps5
  go_wp2_with (go_at_call 12; refine (works14_any _).mono ?_; rintro e wa ⟨rfl, hb1⟩)
  go_at_call 13
  refine (dNew_any 1000 1000 (by decide) (Own.nil hb1).nils.nils.nils).mono ?_
  rintro e w1 ⟨ab, rfl, av, hA⟩
  clear hb1
  go_wp2_with fail
  go_at_call 13
  refine (dNew_any 1000 1000 (by decide) hA).mono ?_
  rintro e w2 ⟨bb, rfl, bv, hB⟩
  clear hA
  go_wp2_with fail
  go_at_call 13
  refine (dNew_any 1000 1000 (by decide) hB).mono ?_
  rintro e w3 ⟨cb, rfl, cv, hC⟩
  clear hB
  have hE0 := Lib.hid (show Ends w w3 ab bb cb none none none 0 0 0 [] [] [] [] [] [] from ⟨av, bv, cv, hC.sel [4, 5, 2, 3, 0, 1, 6, 7, 8] (by decide)⟩)
  clear hC
  go_wp2_with fail
  go_loopw [10, 11] (fun kv iv wr => ∃ (i : Nat) (ko : Option Addr) (kc : Nat), i ≤ ls.length ∧ iv = .int .i64 i ∧ kv = .slice ko (ls.reverse.take i).length kc ∧ Hid (Ends w wr ab bb cb none none ko 0 0 kc (ls.take i) (ls.take i) (ls.take i) [] [] (ls.reverse.take i))) (fun _ iv _ => (ls.length - intOf iv).toNat)
  case atStart => exact ⟨0, none, 0, by omega, rfl, rfl, hE0⟩
  case round =>
    clear hE0
    obtain ⟨i, ko, kc, hi, rfl, rfl, hE⟩ := hrel
    have hrl : (ls.reverse.take i).length = i := by simp; omega
    have htl : (ls.take i).length = i := by simp; omega
    rw [hrl]
    by_cases hlt : i < ls.length
    · obtain ⟨ad, rfl, y0⟩ := hL.out.get hlt
      obtain ⟨_, hadq, y1⟩ := hL.out.get (r := ls.length - 1 - i) (by omega)
      cases hadq
      have x0 := hE.out.old y0
      have Z := Lib.hid (fun (w1 : World) (xs ys zs : List Int) (h : Ends w w1 ab bb cb none none ko 0 0 kc xs ys zs [] [] (ls.reverse.take i)) => And.intro (h.old y0) (h.old y1))
      have PA := Lib.hid (fun (w1 : World) (ys zs : List Int) (h : Ends w w1 ab bb cb none none ko 0 0 kc (ls.take i) ys zs [] [] (ls.reverse.take i)) => Ends.a h (E := .returned (.bool true)) (l' := ls.take (i + 1)) fun l h => dPush_as h (ls.getD i 0) (by rw [htl]; omega) (by omega) _ (take_snoc' hlt rfl))
      have PB := Lib.hid (fun (w1 : World) (xs zs : List Int) (h : Ends w w1 ab bb cb none none ko 0 0 kc xs (ls.take i) zs [] [] (ls.reverse.take i)) => Ends.b h (E := .returned (.bool true)) (l' := ls.take (i + 1)) fun l h => dPush_as h (ls.getD i 0) (by rw [htl]; omega) (by omega) _ (take_snoc' hlt rfl))
      have PC := Lib.hid (fun (w1 : World) (xs ys : List Int) (h : Ends w w1 ab bb cb none none ko 0 0 kc xs ys (ls.take i) [] [] (ls.reverse.take i)) => Ends.c h (E := .returned (.bool true)) (l' := ls.take (i + 1)) fun l h => dPush_as h (ls.getD i 0) (by rw [htl]; omega) (by omega) _ (take_snoc' hlt rfl))
      have RK := Lib.hid (fun (w1 : World) (h : Ends w w1 ab bb cb none none ko 0 0 kc (ls.take (i + 1)) (ls.take (i + 1)) (ls.take (i + 1)) [] [] (ls.reverse.take i)) =>
        show Row w1 3 1 (.slice ko i kc) i ((ls.reverse.take i).map (.int .i64)) ∧ ∀ (w2 : World) (ao2 : Option Addr) (c2 : Nat), Row w2 3 1 (.slice ao2 (i + 1) c2) (i + 1) ((ls.reverse.take i).map (.int .i64) ++ [.int .i64 (ls.getD (ls.length - 1 - i) 0)]) → Touch (fun k => Value.ownBlock (.slice ko i kc) = some k) w1 w2 → (∀ k, Value.ownBlock (.slice ao2 (i + 1) c2) = some k → Value.ownBlock (.slice ko i kc) = some k ∨ w1.heap.size ≤ k) → Ends w w2 ab bb cb none none ao2 0 0 c2 (ls.take (i + 1)) (ls.take (i + 1)) (ls.take (i + 1)) [] [] (ls.reverse.take (i + 1)) by
          refine ⟨?_, fun w2 ao2 c2 hr ht hf => ?_⟩
          · have := h.row_ks
            rwa [hrl] at this
          · refine h.add_ks (x := ls.getD (ls.length - 1 - i) 0) ?_ (by rw [hrl]; exact hr) (by rw [hrl]; exact ht) (by rw [hrl]; exact hf)
            rw [← getD_rev hlt]
            exact take_snoc' (by simpa using hlt) rfl)
      have hrl2 : (ls.reverse.take (i + 1)).length = i + 1 := by simp; omega
      obtain ⟨_, _, hv, kb1, kb2, _⟩ := hE.out.row_ks.shape
      simp only [Value.slice.injEq] at hv
      obtain ⟨rfl, _, rfl⟩ := hv
      rw [hrl] at kb1
      clear hrl htl
      replace y0 := Lib.hid y0
      generalize ls.getD (ls.length - 1 - i) 0 = Y at *
      generalize ls.getD i 0 = X at *
      unfold maxLen at kb2
      go_wp2_with fail
      go_at_call 16
      refine (PA.out _ _ _ hE.out).mono ?_
      rintro e w4 ⟨rfl, h4⟩
      obtain ⟨z0, z1⟩ := Z.out _ _ _ _ h4
      go_wp2_with fail
      go_at_call 16
      refine (PB.out _ _ _ h4).mono ?_
      rintro e w5 ⟨rfl, h5⟩
      clear z0 z1 h4
      obtain ⟨z0, z1⟩ := Z.out _ _ _ _ h5
      go_wp2_with fail
      go_at_call 16
      refine (PC.out _ _ _ h5).mono ?_
      rintro e w6 ⟨rfl, h6⟩
      clear z0 z1 h5
      obtain ⟨z0, z1⟩ := Z.out _ _ _ _ h6
      obtain ⟨hr0, hE2⟩ := RK.out _ h6
      replace hE2 := Lib.hid hE2
      go_wp2_with (first | (at_builtin; refine wpList_append_lit' _ rfl (.tmp 67) (.tmp 76) 26 rfl 3 i1 (.int .i64 0) 1 8 Try.underlying26 hi1 hw0 hw1' hw2' rfl (by decide) (.slice ko i kc) i ((ls.reverse.take i).map (.int .i64)) rfl hr0 #[.int .i64 Y] _ 1 _ (by simp) rfl rfl (by simp [Value.oneCell']) (by unfold maxLen; omega) (by omega) ?_; intro ao2 cap2 wz hr3 ht3 hf3; have h7 := hE2.out _ _ _ hr3 ht3 hf3))
      go_roundw
      case rel => exact ⟨i + 1, ao2, cap2, by omega, by go_num, by rw [hrl2], Lib.hid h7⟩
      case measure => simp [intOf]; omega
    · obtain rfl : i = ls.length := by omega
      have hE1 := hE.out
      rw [List.take_length, show ls.reverse.take ls.length = ls.reverse by rw [List.take_of_length_le (by simp)]] at hE1
      replace hE1 := Lib.hid hE1
      clear hE htl
      go_wp2_with fail
      go_loopw [8, 9, 12, 13, 14] (fun pv sv fv lv iv wr => ∃ (i f t : Nat) (po so : Option Addr) (pc sc : Nat), i ≤ ls.length ∧ iv = .int .i64 i ∧ pv = .slice po i pc ∧ sv = .slice so i sc ∧ fv = .int .i64 f ∧ lv = .int .i64 t ∧ f ≤ t ∧ t ≤ ls.length ∧ f + (ls.length - t) = i ∧ Hid (Ends w wr ab bb cb po so ko pc sc kc (ls.take (ls.length - i)) (ls.drop i) ((ls.take t).drop f) (ls.reverse.take i) (ls.take i) ls.reverse)) (fun _ _ _ _ iv _ => (ls.length - intOf iv).toNat)
      case atStart => exact ⟨0, 0, ls.length, none, none, 0, 0, by omega, rfl, rfl, rfl, rfl, rfl, by omega, by omega, by omega, by simpa using hE1⟩
      case round =>
        clear hE1
        obtain ⟨i, f, t, po, so, pc, sc, hi, rfl, rfl, rfl, rfl, rfl, hft, htl, hfi, hE⟩ := hrel
        have hrl : (ls.reverse.take i).length = i := by simp; omega
        have htk : (ls.take i).length = i := by simp; omega
        obtain ⟨_, _, hv, pb1, pb2, _⟩ := hE.out.row_ps.shape
        simp only [Value.slice.injEq] at hv
        obtain ⟨rfl, _, rfl⟩ := hv
        obtain ⟨_, _, hv, sb1, sb2, _⟩ := hE.out.row_ss.shape
        simp only [Value.slice.injEq] at hv
        obtain ⟨rfl, _, rfl⟩ := hv
        rw [hrl] at pb1
        rw [htk] at sb1
        unfold maxLen at pb2 sb2
        by_cases hlt : i < ls.length
        · obtain ⟨ad, rfl, yF⟩ := hL.out.get (r := f) (by omega)
          obtain ⟨_, hadq, yT⟩ := hL.out.get (r := t - 1) (by omega)
          cases hadq
          have eP : ls.take (ls.length - i) = ls.take (ls.length - (i + 1)) ++ [ls.getD (ls.length - 1 - i) 0] := by
            rw [show ls.length - 1 - i = ls.length - (i + 1) by omega, take_snoc' (l2 := ls.take (ls.length - i)) (by omega) (by congr 1; omega)]
          have eC1 : (ls.take t).drop f = (ls.take (t - 1)).drop f ++ [ls.getD (t - 1) 0] := by
            rw [← take_snoc' (l := ls) (i := t - 1) (l2 := ls.take t) (by omega) (by congr 1; omega), List.drop_append_of_le_length (by simp; omega)]
          have eC2 : (ls.take t).drop f = ls.getD f 0 :: (ls.take t).drop (f + 1) := by
            rw [drop_cons' (by simp; omega), List.getD_eq_getElem?_getD, List.getElem?_take_of_lt (by omega), ← List.getD_eq_getElem?_getD]
          have PA := Lib.hid (fun (w1 : World) (ys zs : List Int) (h : Ends w w1 ab bb cb po so ko pc sc kc (ls.take (ls.length - i)) ys zs (ls.reverse.take i) (ls.take i) ls.reverse) => Ends.a h (E := .returned (.tuple #[.int .i64 (ls.getD (ls.length - 1 - i) 0), .bool true])) (l' := ls.take (ls.length - (i + 1))) fun l h => dPop_as h _ _ eP (by simp; omega))
          have PB := Lib.hid (fun (w1 : World) (xs zs : List Int) (h : Ends w w1 ab bb cb po so ko pc sc kc xs (ls.drop i) zs (ls.reverse.take i) (ls.take i) ls.reverse) => Ends.b h (E := .returned (.tuple #[.int .i64 (ls.getD i 0), .bool true])) (l' := ls.drop (i + 1)) fun l h => dSteal_as h _ _ (drop_cons' hlt) (by simp; omega))
          have RP := Lib.hid (fun (w1 : World) (xs ys zs : List Int) (h : Ends w w1 ab bb cb po so ko pc sc kc xs ys zs (ls.reverse.take i) (ls.take i) ls.reverse) =>
            show Row w1 3 1 (.slice po i pc) i ((ls.reverse.take i).map (.int .i64)) ∧ ∀ (w2 : World) (ao2 : Option Addr) (c2 : Nat), Row w2 3 1 (.slice ao2 (i + 1) c2) (i + 1) ((ls.reverse.take i).map (.int .i64) ++ [.int .i64 (ls.getD (ls.length - 1 - i) 0)]) → Touch (fun k => Value.ownBlock (.slice po i pc) = some k) w1 w2 → (∀ k, Value.ownBlock (.slice ao2 (i + 1) c2) = some k → Value.ownBlock (.slice po i pc) = some k ∨ w1.heap.size ≤ k) → Ends w w2 ab bb cb ao2 so ko c2 sc kc xs ys zs (ls.reverse.take (i + 1)) (ls.take i) ls.reverse by
              refine ⟨?_, fun w2 ao2 c2 hr ht hf => ?_⟩
              · have := h.row_ps
                rwa [hrl] at this
              · refine h.add_ps (x := ls.getD (ls.length - 1 - i) 0) ?_ (by rw [hrl]; exact hr) (by rw [hrl]; exact ht) (by rw [hrl]; exact hf)
                rw [← getD_rev hlt]
                exact take_snoc' (by simpa using hlt) rfl)
          have RS := Lib.hid (fun (w1 : World) (po : Option Addr) (pc : Nat) (xs ys zs ps : List Int) (h : Ends w w1 ab bb cb po so ko pc sc kc xs ys zs ps (ls.take i) ls.reverse) =>
            show Row w1 3 1 (.slice so i sc) i ((ls.take i).map (.int .i64)) ∧ ∀ (w2 : World) (ao2 : Option Addr) (c2 : Nat), Row w2 3 1 (.slice ao2 (i + 1) c2) (i + 1) ((ls.take i).map (.int .i64) ++ [.int .i64 (ls.getD i 0)]) → Touch (fun k => Value.ownBlock (.slice so i sc) = some k) w1 w2 → (∀ k, Value.ownBlock (.slice ao2 (i + 1) c2) = some k → Value.ownBlock (.slice so i sc) = some k ∨ w1.heap.size ≤ k) → Ends w w2 ab bb cb po ao2 ko pc c2 kc xs ys zs ps (ls.take (i + 1)) ls.reverse by
              refine ⟨?_, fun w2 ao2 c2 hr ht hf => ?_⟩
              · have := h.row_ss
                rwa [htk] at this
              · exact h.add_ss (x := ls.getD i 0) (take_snoc' hlt rfl) (by rw [htk]; exact hr) (by rw [htk]; exact ht) (by rw [htk]; exact hf))
          have PC1 := Lib.hid (fun (w1 : World) (po so : Option Addr) (pc sc : Nat) (xs ys ps ss : List Int) (h : Ends w w1 ab bb cb po so ko pc sc kc xs ys ((ls.take t).drop f) ps ss ls.reverse) => Ends.c h (E := .returned (.tuple #[.int .i64 (ls.getD (t - 1) 0), .bool true])) (l' := (ls.take (t - 1)).drop f) fun l h => dPop_as h _ _ eC1 (by simp; omega))
          have PC2 := Lib.hid (fun (w1 : World) (po so : Option Addr) (pc sc : Nat) (xs ys ps ss : List Int) (h : Ends w w1 ab bb cb po so ko pc sc kc xs ys ((ls.take t).drop f) ps ss ls.reverse) => Ends.c h (E := .returned (.tuple #[.int .i64 (ls.getD f 0), .bool true])) (l' := (ls.take t).drop (f + 1)) fun l h => dSteal_as h _ _ eC2 (by simp; omega))
          have ZF := Lib.hid (fun (w1 : World) (po so : Option Addr) (pc sc : Nat) (xs ys zs ps ss : List Int) (h : Ends w w1 ab bb cb po so ko pc sc kc xs ys zs ps ss ls.reverse) => And.intro (h.old yF) (h.old yT))
          clear eP eC1 eC2 hrl htk
          replace yF := Lib.hid yF
          replace yT := Lib.hid yT
          generalize hYv : ls.getD (ls.length - 1 - i) 0 = Y at *
          generalize hXv : ls.getD i 0 = X at *
          generalize hFv : ls.getD f 0 = VF at *
          generalize hTv : ls.getD (t - 1) 0 = VT at *
          clear hYv hXv hFv hTv
          go_wp2_with fail
          go_at_call 14
          refine (PA.out _ _ _ hE.out).mono ?_
          rintro e w4 ⟨rfl, h4⟩
          go_wp2_with fail
          go_at_call 15
          refine (PB.out _ _ _ h4).mono ?_
          rintro e w5 ⟨rfl, h5⟩
          clear h4
          obtain ⟨hr0, hE2⟩ := RP.out _ _ _ _ h5
          replace hE2 := Lib.hid hE2
          go_upto_region 20 with (first | (at_builtin; refine wpList_append_lit' _ rfl (.tmp 96) (.tmp 98) 26 rfl 3 i1 (.int .i64 0) 1 8 Try.underlying26 hi1 hw0 hw1' hw2' rfl (by decide) (.slice po i pc) i ((ls.reverse.take i).map (.int .i64)) rfl hr0 #[.int .i64 Y] _ 1 _ (by simp) rfl rfl (by simp [Value.oneCell']) (by unfold maxLen; omega) (by omega) ?_; intro ao2 cap2 wz hr3 ht3 hf3; have h6 := hE2.out _ _ _ hr3 ht3 hf3))
          obtain ⟨hr1, hE3⟩ := RS.out _ _ _ _ _ _ _ h6
          replace hE3 := Lib.hid hE3
          clear hr0 hE2 hr3 ht3 hf3
          go_upto_region 21 with (first | (at_builtin; refine wpList_append_lit' _ rfl (.tmp 100) (.tmp 102) 26 rfl 3 i1 (.int .i64 0) 1 8 Try.underlying26 hi1 hw0 hw1' hw2' rfl (by decide) (.slice so i sc) i ((ls.take i).map (.int .i64)) rfl hr1 #[.int .i64 X] _ 1 _ (by simp) rfl rfl (by simp [Value.oneCell']) (by unfold maxLen; omega) (by omega) ?_; intro ao3 cap3 wz2 hr4 ht4 hf4; have h7 := hE3.out _ _ _ hr4 ht4 hf4))
          clear hr1 hE3 hr4 ht4 hf4 h5 h6
          have PO := Lib.hid (PC1.out _ _ _ _ _ _ _ _ _ h7)
          have ST := Lib.hid (PC2.out _ _ _ _ _ _ _ _ _ h7)
          obtain ⟨B, hB⟩ : ∃ B : Bool, (B = true ∧ i < os.length ∧ os.getD i false = true) ∨ (B = false ∧ (¬ i < os.length ∨ os.getD i false = false)) := by
            by_cases h1 : i < os.length
            · cases h2 : os.getD i false
              · exact ⟨false, .inr ⟨rfl, .inr rfl⟩⟩
              · exact ⟨true, .inl ⟨rfl, h1, rfl⟩⟩
            · exact ⟨false, .inr ⟨rfl, .inl h1⟩⟩
          rcases hB with ⟨rfl, hb1, hb2⟩ | ⟨rfl, hb⟩
          · obtain ⟨bd, rfl, b0⟩ := ho.out i hb1
            rw [hb2] at b0
            have b1 := h7.old b0
            go_wp2_with (first | (go_at_call 14; refine PO.out.mono ?_; rintro e w8 ⟨rfl, h8⟩; obtain ⟨z1, z2⟩ := ZF.out _ _ _ _ _ _ _ _ _ _ h8))
            go_roundw
            case rel => exact ⟨i + 1, f, t - 1, ao2, ao3, cap2, cap3, by omega, by go_num, rfl, rfl, rfl, by go_num, by omega, by omega, by omega, Lib.hid h8⟩
            case measure => simp [intOf]; omega
          · by_cases h1 : i < os.length
            · have hb2 : os.getD i false = false := by rcases hb with h | h; exact absurd h1 h; exact h
              obtain ⟨bd, rfl, b0⟩ := ho.out i h1
              rw [hb2] at b0
              have b1 := h7.old b0
              go_wp2_with (first | (go_at_call 15; refine ST.out.mono ?_; rintro e w8 ⟨rfl, h8⟩; obtain ⟨z1, z2⟩ := ZF.out _ _ _ _ _ _ _ _ _ _ h8))
              go_roundw
              case rel => exact ⟨i + 1, f + 1, t, ao2, ao3, cap2, cap3, by omega, by go_num, rfl, rfl, by go_num, rfl, by omega, by omega, by omega, Lib.hid h8⟩
              case measure => simp [intOf]; omega
            · go_wp2_with (first | (go_at_call 15; refine ST.out.mono ?_; rintro e w8 ⟨rfl, h8⟩; obtain ⟨z1, z2⟩ := ZF.out _ _ _ _ _ _ _ _ _ _ h8))
              go_roundw
              case rel => exact ⟨i + 1, f + 1, t, ao2, ao3, cap2, cap3, by omega, by go_num, rfl, rfl, by go_num, rfl, by omega, by omega, by omega, Lib.hid h8⟩
              case measure => simp [intOf]; omega
        · obtain rfl : i = ls.length := by omega
          obtain rfl : f = t := by omega
          have hE1 := hE.out
          rw [List.take_length, show ls.reverse.take ls.length = ls.reverse by rw [List.take_of_length_le (by simp)], Nat.sub_self, List.take_zero, List.drop_length, show (ls.take f).drop f = [] by rw [List.drop_eq_nil_of_le]; simp; omega] at hE1
          have rp := hE1.row_ps
          have rs := hE1.row_ss
          have rk := hE1.row_ks
          rw [List.length_reverse] at rp rk
          have I1 := ints_any po ko pc kc ls.reverse ls.reverse wr (Lies.of_row rp (by simp)) (Lies.of_row rk (by simp))
          rw [List.length_reverse, beq_self_eq_true] at I1
          have I2 := Lib.hid (fun m => ints_any so lo sc lc ls ls (wr.drewN m) ((Lies.of_row rs rfl).drewN m) ((hL.out.same fun p hp => cell_old hE1.below p hp).drewN m))
          simp only [beq_self_eq_true] at I2
          have LN := Lib.hid (fun (w1 : World) (h : Ends w w1 ab bb cb po so ko pc sc kc [] [] [] ls.reverse ls ls.reverse) =>
            show (Calls Try.prog 17 #[.pointer (some ⟨ab, 0, none⟩)] w1 fun e w' => e = .returned (.int .i64 0) ∧ w1 = w') ∧ (Calls Try.prog 17 #[.pointer (some ⟨bb, 0, none⟩)] w1 fun e w' => e = .returned (.int .i64 0) ∧ w1 = w') ∧ (Calls Try.prog 17 #[.pointer (some ⟨cb, 0, none⟩)] w1 fun e w' => e = .returned (.int .i64 0) ∧ w1 = w') by
              obtain ⟨av, bv, cv, hO⟩ := h
              exact ⟨dLen (⟨av, hO⟩ : DOwn w w1 ab 1000 [] _), dLen (⟨bv, hO.sel [2, 3] (by decide)⟩ : DOwn w w1 bb 1000 [] []), dLen (⟨cv, hO.sel [4, 5] (by decide)⟩ : DOwn w w1 cb 1000 [] [])⟩)
          clear rp rs rk hE
          replace I1 := Lib.hid I1
          replace hE1 := Lib.hid hE1
          go_wp2_with fail
          go_at_call 18
          refine I1.out.mono ?_
          rintro e w4 ⟨rfl, m1, rfl⟩
          go_wp2_with fail
          go_at_call 18
          refine (I2.out m1).mono ?_
          rintro e w5 ⟨rfl, m2, rfl⟩
          rw [World.drewN_drewN]
          have hE5 := hE1.out.drewN (m1 + m2)
          obtain ⟨q1, q2, q3⟩ := LN.out _ hE5
          have hF := hE5.below
          clear hE5
          generalize wr.drewN (m1 + m2) = w6 at *
          replace q1 := Lib.hid q1
          replace q2 := Lib.hid q2
          replace q3 := Lib.hid q3
          go_wp2_with fail
          go_at_call 17
          refine q1.out.mono ?_
          rintro e w7 ⟨rfl, rfl⟩
          go_wp2_with fail
          go_at_call 17
          refine q2.out.mono ?_
          rintro e w7 ⟨rfl, rfl⟩
          go_wp2_with fail
          go_at_call 17
          refine q3.out.mono ?_
          rintro e w7 ⟨rfl, rfl⟩
          go_wp2_with fail
          go_ret
          exact ⟨rfl, hF⟩
theorem walkModelEnds (v0 v1 : Value) (w : World) (h0 : Arg Try.prog w 26 v0) (h1 : Arg Try.prog w 40 v1) :
    Calls Try.prog 5 #[v0, v1] w fun e w' => e = .returned (.bool true) ∧ Below w.heap.size w w' := by
  obtain ⟨lo, lc, ls, rfl, hL, _, _⟩ := h0.lies Try.underlying26 Try.underlying3 (by kernel_rfl)
  obtain ⟨ro, rc, rs, rfl, p1, p2, p4⟩ := h1.bools Try.underlying40 Try.underlying4 (by kernel_rfl)
  by_cases hl : ls.length ≤ 300 ∧ rs.length ≤ 1000
  · exact mends_core ls rs lo ro lc rc w hL hl.1 p1 p2 hl.2 p4
  · have q1 := hL.1
    have q2 := hL.2.1
    unfold maxLen at p2 q2
    clear p4 hL
    by_cases hl1 : ls.length ≤ 300
    · have hl2 : 1000 < rs.length := by omega
      have hl3 : decide ((300 : Int) < (ls.length : Int)) = false := by simp; omega
      go_enter Try.func5, Try.ntmps5
      go_wp2_with (go_at_call 12; refine (works14_any _).mono ?_; rintro e w1 ⟨rfl, hb1⟩)
      go_ret
      exact ⟨rfl, hb1⟩
    · have hl2 : 300 < ls.length := by omega
      go_enter Try.func5, Try.ntmps5
      go_wp2_with (go_at_call 12; refine (works14_any _).mono ?_; rintro e w1 ⟨rfl, hb1⟩)
      go_ret
      exact ⟨rfl, hb1⟩
end Go.Proofs.Ytofnjapgacgdlaa
