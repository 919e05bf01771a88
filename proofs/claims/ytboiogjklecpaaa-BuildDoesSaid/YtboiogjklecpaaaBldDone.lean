/- Package build: a function's instructions, with all targets. -/
import Derived.Test.YtboiogjklecpaaaBldJ
import Derived.Test.YtboiogjklecpaaaBldOps
set_option linter.unusedVariables false
set_option linter.unusedSimpArgs false
namespace Go.Proofs.Ytboiogjklecpaaa
open Go.RowKit
set_option maxRecDepth 100000
set_option maxHeartbeats 4000000
theorem bgoto_some {w0 w : World} {bb : Nat} {mem : Int} {B : List BF} {f : BF} {l : List Ast} (hn : B.length ≤ 1000) (h : BOwn w0 w bb mem (B ++ [f]) l) (nm : ByteArray) (hl : f.code.length ≤ 100000) (hj : f.jumps.length ≤ 100000) :
    Calls Try.prog 43 #[.pointer (some ⟨bb, 0, none⟩), .string nm] w fun e w' => e = .returned (.tuple #[]) ∧ BOwn w0 w' bb mem (B ++ [⟨f.code ++ [(18, 0, 0, 0)], f.labels, f.jumps ++ [(f.code.length, nm)]⟩]) l := by
  have LA := Lib.hid (bleads_some hn h (18, 0, 0, 0) nm hl hj)
  clear h
  go_enter Try.func43, Try.ntmps43
  go_wp2_with (go_at_call 69; refine LA.out.mono ?_; rintro e w2 ⟨rfl, hB⟩; replace hB := Lib.hid hB)
  go_end0
  exact ⟨rfl, hB.out⟩
theorem bzero_some {w0 w : World} {bb : Nat} {mem : Int} {B : List BF} {f : BF} {l : List Ast} (hn : B.length ≤ 1000) (h : BOwn w0 w bb mem (B ++ [f]) l) (reg : Int) (nm : ByteArray) (hl : f.code.length ≤ 100000) (hj : f.jumps.length ≤ 100000) :
    Calls Try.prog 49 #[.pointer (some ⟨bb, 0, none⟩), .int .i64 reg, .string nm] w fun e w' => e = .returned (.tuple #[]) ∧ BOwn w0 w' bb mem (B ++ [⟨f.code ++ [(19, reg, 0, 0)], f.labels, f.jumps ++ [(f.code.length, nm)]⟩]) l := by
  have LA := Lib.hid (bleads_some hn h (19, reg, 0, 0) nm hl hj)
  clear h
  go_enter Try.func49, Try.ntmps49
  go_wp2_with (go_at_call 69; refine LA.out.mono ?_; rintro e w2 ⟨rfl, hB⟩; replace hB := Lib.hid hB)
  go_end0
  exact ⟨rfl, hB.out⟩
theorem cloneI {ao : Option Addr} {cap : Nat} {l : List I4} {w : World} (hL : LiesI w ao cap l) (hl : l.length ≤ 100000) : Calls Try.prog 77 #[.slice ao l.length cap] w fun e w' => ∃ ao' cap', e = .returned (.slice ao' l.length cap') ∧ Row w' 30 4 (.slice ao' l.length cap') l.length (insL l) ∧ (∀ k, Value.ownBlock (.slice ao' l.length cap') = some k → w.heap.size ≤ k) ∧ Below w.heap.size w w' := by
  obtain ⟨i0, hi, hz0, hz1, hz2⟩ := info_parts' Try.infoIns
  have hsrc := hL.src
  have hnil := fun (w : World) (a : Option Addr) (n c n' c' : Nat) => Lib.run_eql_slice_nil (P := Try.prog) w 52 30 a n c n' c' Try.underlying52
  cases ao with
  | none =>
    obtain ⟨h0, h1⟩ := hsrc.2.1 rfl
    have hn : l = [] := List.eq_nil_of_length_eq_zero h0
    subst hn h1
    clear hsrc hL
    go_enter Try.func77, Try.ntmps77
    go_wp2
    go_ret
    exact ⟨none, 0, rfl, Row.nil _ _ _, by simp [Value.ownBlock], by go_grown⟩
  | some ad =>
    have hone := insL_cell l
    clear hL
    go_enter Try.func77, Try.ntmps77
    go_wp2_with (at_builtin; go_must (refine wpList_append_copy _ rfl _ _ 52 rfl 30 i0 (.agg #[.int .i64 0, .int .i64 0, .int .i64 0, .int .i64 0]) 4 32 Try.underlying52 hi hz0 hz1 hz2 rfl (by decide) rfl (some ad) l.length cap (insL l) rfl hsrc hone (by unfold maxLen; omega) (by omega) ?_); intro ao2 cap2 w2 hrow hb2 hf2)
    go_ret
    exact ⟨ao2, cap2, rfl, hrow, hf2, hb2⟩
theorem insL_set1 : ∀ {l : List I4} {a : Nat} {x : I4}, l[a]? = some x → ∀ v : Int, (insL l).set (a * 4 + 1) (.int .i64 v) = insL (l.set a (x.1, v, x.2.2.1, x.2.2.2))
  | [], a, x, h, v => by simp at h
  | y :: l, 0, x, h, v => by simp at h; subst h; rfl
  | y :: l, a + 1, x, h, v => by
    have ih := insL_set1 (l := l) (a := a) (x := x) (by simpa using h) v
    have e : ∀ l, insL (y :: l) = insC y ++ insL l := fun l => by simp [insL, List.flatMap_cons]
    rw [e, show (a + 1) * 4 + 1 = (insC y).length + (a * 4 + 1) by simp [insC]; omega, List.set_append_right _ _ (by omega), List.set_cons_succ, e, ← ih]
    simp
theorem insL_set2 : ∀ {l : List I4} {a : Nat} {x : I4}, l[a]? = some x → ∀ v : Int, (insL l).set (a * 4 + 2) (.int .i64 v) = insL (l.set a (x.1, x.2.1, v, x.2.2.2))
  | [], a, x, h, v => by simp at h
  | y :: l, 0, x, h, v => by simp at h; subst h; rfl
  | y :: l, a + 1, x, h, v => by
    have ih := insL_set2 (l := l) (a := a) (x := x) (by simpa using h) v
    have e : ∀ l, insL (y :: l) = insC y ++ insL l := fun l => by simp [insL, List.flatMap_cons]
    rw [e, show (a + 1) * 4 + 2 = (insC y).length + (a * 4 + 2) by simp [insC]; omega, List.set_append_right _ _ (by omega), List.set_cons_succ, e, ← ih]
    simp
theorem jmpL_get {l : List (Nat × ByteArray)} {i : Nat} {x : Nat × ByteArray} (h : l[i]? = some x) : (jmpL l)[i * 2]? = some (.int .i64 (x.1 : Int)) ∧ (jmpL l)[i * 2 + 1]? = some (.string x.2) := by
  induction l generalizing i with
  | nil => simp at h
  | cons y l ih =>
    have e : jmpL (y :: l) = [.int .i64 (y.1 : Int), .string y.2] ++ jmpL l := by simp [jmpL, List.flatMap_cons]
    rw [e]
    cases i with
    | zero => simp at h; subst h; simp
    | succ i =>
      simp at h
      have := ih h
      rw [show (i + 1) * 2 = i * 2 + 2 by omega]
      simpa using this
theorem patchP_cons (lk : ByteArray → Option Nat) (a : Nat) (nm : ByteArray) (js : List (Nat × ByteArray)) (l : List I4) : patchP lk ((a, nm) :: js) l = match lk nm with
    | none => none
    | some n => patchP lk js (l.set a (patch1 (l.getD a (0, 0, 0, 0)) n)) := rfl
/-- What a label's name is told. -/
theorem look_run {mb : Nat} {ls : List (ByteArray × Nat)} {nm : ByteArray} (hs : nm.size ≤ maxLen) {w : World} (h : (mapA mb ls).hold w) : ∃ c : Int, (Instr.lookup 93 (.map (some mb)) (.string nm) true).run Try.prog w = .ok (.tuple #[.int .i64 c, .bool (lookB ls nm).isSome]) w ∧ ∀ n, lookB ls nm = some n → c = (n : Int) := by
  obtain ⟨D, hown, hD⟩ := h
  have hkey : keyOf Try.prog 9 (.string nm) = some (keyL nm) := Go.WideMaps.keyOf_string_mk Try.underlying9 hs
  obtain ⟨v, ps, hrun, hv⟩ := hown.look_ok (t := 93) (e := 3) (z := .int .i64 0) (zd := .lit (.int .i64 0)) (zp := []) (Maps.string_keyed Try.underlying9) Try.underlying93 (by rfl) (plainElem_int Try.underlying3 (by decide)) hkey
  obtain ⟨c, rfl, hc, _⟩ := plainElem_int_inv Try.underlying3 hv
  obtain ⟨h1, h2⟩ := hD.2 nm
  rw [h1] at hrun
  refine ⟨c, hrun, fun n hn => ?_⟩
  have h3 := h2 n hn
  have hc1 := congrArg Prod.fst hc
  simp only at hc1
  rw [h3] at hc1
  simpa using hc1.symm
theorem bdone {w : World} {x : FM} {f : BF} (hC : (fnC x).hold w) (hR : Row w 30 4 x.cv f.code.length (insL f.code)) (hM : (mapA x.mb f.labels).hold w) (hJ : Row w 108 2 x.jv f.jumps.length (jmpL f.jumps)) (hl : f.code.length ≤ 100000) (hjl : f.jumps.length ≤ 100000) (hlt : ∀ p ∈ f.jumps, p.1 < f.code.length) (hnm : ∀ p ∈ f.jumps, p.2.size ≤ maxLen) :
    Calls Try.prog 70 #[.pointer (some ⟨x.fb, 0, none⟩)] w fun e w' => (doneB f = none ∧ e = .returned (.tuple #[.slice none 0 0, .int .i64 7]) ∧ Below w.heap.size w w') ∨ (∃ (l : List I4) (ao : Option Addr) (c : Nat), doneB f = some l ∧ l.length = f.code.length ∧ e = .returned (.tuple #[.slice ao l.length c, .int .i64 0]) ∧ Own w w' [rowA 30 4 (.slice ao l.length c) l.length (insL l)]) := by
  obtain ⟨ao, cp, hcv, b1, b2, _⟩ := hR.shape
  obtain ⟨aj, cj, hjv, b3, b4, _⟩ := hJ.shape
  unfold maxLen at b2 b4
  obtain ⟨fb, cv, mb, jv⟩ := x
  dsimp only at hcv hjv hC hR hM hJ ⊢
  subst hcv hjv
  have x0 : w.cell? ⟨fb, 0, none⟩ = some (.slice ao f.code.length cp) := cell_at hC 0
  have x1 : w.cell? ⟨fb, 1, none⟩ = some (.map (some mb)) := cell_at hC 1
  have x2 : w.cell? ⟨fb, 2, none⟩ = some (.slice aj f.jumps.length cj) := cell_at hC 2
  have CL := Lib.hid (cloneI (Row.liesI hR) hl)
  have LK := Lib.hid (fun (nm : ByteArray) (hs : nm.size ≤ maxLen) (w' : World) (hb : Below w.heap.size w w') => look_run (nm := nm) hs ((mapA mb f.labels).loc hM fun k hk => hb.block k ((mapA mb f.labels).lt hM k hk)))
  have JC := Lib.hid (fun (i : Nat) (p : Nat × ByteArray) (hp : f.jumps[i]? = some p) => show ∃ g off, aj = some ⟨g, off, none⟩ ∧ w.cell? ⟨g, off + i * 2, none⟩ = some (.int .i64 (p.1 : Int)) ∧ w.cell? ⟨g, off + i * 2 + 1, none⟩ = some (.string p.2) from by
    have hi := (List.getElem?_eq_some_iff.1 hp).1
    obtain ⟨g, off, cap, hv, _, _, hc, _⟩ := hJ.addr (by omega)
    simp only [Value.slice.injEq] at hv
    obtain ⟨rfl, _, rfl⟩ := hv
    exact ⟨g, off, rfl, by rw [hc _ (by omega)]; exact (jmpL_get hp).1, by rw [Nat.add_assoc, hc _ (by omega)]; exact (jmpL_get hp).2⟩)
  replace hlt := Lib.hid hlt
  replace hnm := Lib.hid hnm
  have hw1 := Lib.hid x1
  clear hC hR hM hJ
  go_enter Try.func70, Try.ntmps70
  go_wp2_with (go_at_call 77; refine CL.out.mono ?_; rintro e w1 ⟨la, lc, rfl, hrow, hnew, hb1⟩; have y2 := (cell_old hb1 _ (by rw [x2]; rfl)).trans x2)
  have hO0 : Own w w1 [rowA 30 4 (.slice la f.code.length lc) f.code.length (insL f.code)] := (Own.nil (Below.refl _ w)).push hb1 (rowA 30 4 (.slice la f.code.length lc) f.code.length (insL f.code)) hrow hnew
  obtain ⟨_, _, hv, d1, d2, _⟩ := hrow.shape
  simp only [Value.slice.injEq] at hv
  obtain ⟨rfl, _, rfl⟩ := hv
  unfold maxLen at d2
  clear hrow hnew hb1 x0 x1 x2 y2
  go_loopw [19] (fun i wr => ∃ (r : Nat) (l : List I4), r ≤ f.jumps.length ∧ i = .int .i64 r ∧ l.length = f.code.length ∧ Hid (doneB f = patchP (lookB f.labels) (f.jumps.drop r) l) ∧ Own w wr [rowA 30 4 (.slice la f.code.length lc) f.code.length (insL l)]) (fun i _ => (f.jumps.length - intOf i).toNat)
  case atStart => exact ⟨0, f.code, by omega, rfl, rfl, Lib.hid rfl, hO0⟩
  case round =>
    clear hO0
    obtain ⟨r, l, hr, rfl, hll, hd, hO⟩ := hrel
    by_cases hrl : r < f.jumps.length
    · obtain ⟨⟨A, nm⟩, hp⟩ : ∃ p, f.jumps[r]? = some p := ⟨_, List.getElem?_eq_getElem hrl⟩
      have hmem := List.mem_of_getElem? hp
      have hA := hlt.out _ hmem
      have hns := hnm.out _ hmem
      obtain ⟨gj, oj, rfl, z0, z1⟩ := JC.out _ _ hp
      have hdr := Lib.hid (show doneB f = patchP (lookB f.labels) ((A, nm) :: f.jumps.drop (r + 1)) l by rw [hd.out, List.drop_eq_getElem_cons hrl, (List.getElem?_eq_some_iff.1 hp).2])
      replace hdr := Lib.hid (hdr.out.trans (patchP_cons _ _ _ _ _))
      clear hd hp hmem
      dsimp only at hA hns z0 z1
      replace z0 := hO.old z0
      replace z1 := hO.old z1
      have hB := hO.box #[.int .i64 (A : Int), .string nm] 108
      obtain ⟨c0, hrun0, hc0⟩ := LK.out nm hns (wr.alloc (.cells #[.int .i64 (A : Int), .string nm] 108)) hB.below
      have hx1 : (wr.alloc (.cells #[.int .i64 (A : Int), .string nm] 108)).cell? ⟨fb, 1, none⟩ = some (.map (some mb)) := hB.old hw1.out
      have LKd := Lib.hid (LK.out nm hns)
      clear hrun0 hc0
      go_upto_region 5 with fail
      clear z0 z1 hx1
      simp only [List.cons_append, List.nil_append] at hB
      obtain ⟨xb, hxb⟩ : ∃ xb, wr.heap.size = xb := ⟨_, rfl⟩
      rw [hxb] at hB
      generalize wr.alloc (.cells #[.int .i64 (A : Int), .string nm] 108) = u at *
      obtain ⟨c0, hrun, hc0⟩ := LKd.out u.drew (hB.drewN 1).below
      clear LKd
      obtain ⟨bk, hbk⟩ : ∃ bk, (lookB f.labels nm).isSome = bk := ⟨_, rfl⟩
      rw [hbk] at hrun
      have hS0 : (fun w' : World => w'.cell? ⟨fb, 1, none⟩ = some (.map (some mb)) ∧ w'.cell? ⟨xb, 1, none⟩ = some (.string nm) ∧ (Instr.lookup 93 (.map (some mb)) (.string nm) true).run Try.prog w' = .ok (.tuple #[.int .i64 c0, .bool bk]) w') u.drew := ⟨(hB.drewN 1).old hw1.out, ((hB.drewN 1).cget 1 rfl 1).1, hrun⟩
      clear hrun
      have hB2 : Own w u.drew _ := hB.drewN 1
      clear hB
      refine lin_start (S := (fun w' : World => w'.cell? ⟨fb, 1, none⟩ = some (.map (some mb)) ∧ w'.cell? ⟨xb, 1, none⟩ = some (.string nm) ∧ (Instr.lookup 93 (.map (some mb)) (.string nm) true).run Try.prog w' = .ok (.tuple #[.int .i64 c0, .bool bk]) w')) rfl 12 rfl hS0 ?_
      simp only [numbered, Nat.zero_add, Nat.reduceAdd]
      refine lin_take (v := ?_) (by kernel_rfl) (by kernel_rfl) (fun _ _ _ h => h) (Or.inl ⟨by rfl, ?_⟩) (by assumption) ?_; (rotate_left; (intro wS hSw; (try dsimp only at hSw); go_simp; (try with_reducible rfl)); rotate_left); simp only [Act.put, List.setIfInBounds_toArray, List.set_cons_zero, List.set_cons_succ]
      refine lin_take (v := ?_) (by kernel_rfl) (by kernel_rfl) (fun _ _ _ h => h) (Or.inl ⟨by rfl, ?_⟩) (by assumption) ?_; (rotate_left; (intro wS hSw; (try dsimp only at hSw); go_simp; (try with_reducible rfl)); rotate_left); simp only [Act.put, List.setIfInBounds_toArray, List.set_cons_zero, List.set_cons_succ]
      refine lin_take (v := ?_) (by kernel_rfl) (by kernel_rfl) (fun _ _ _ h => h) (Or.inl ⟨by rfl, ?_⟩) (by assumption) ?_; (rotate_left; (intro wS hSw; (try dsimp only at hSw); go_simp; (try with_reducible rfl)); rotate_left); simp only [Act.put, List.setIfInBounds_toArray, List.set_cons_zero, List.set_cons_succ]
      refine lin_take (v := ?_) (by kernel_rfl) (by kernel_rfl) (fun _ _ _ h => h) (Or.inl ⟨by rfl, ?_⟩) (by assumption) ?_; (rotate_left; (intro wS hSw; (try dsimp only at hSw); go_simp; (try with_reducible rfl)); rotate_left); simp only [Act.put, List.setIfInBounds_toArray, List.set_cons_zero, List.set_cons_succ]
      refine lin_take (v := ?_) (by kernel_rfl) (by kernel_rfl) (fun _ _ _ h => h) (Or.inl ⟨by rfl, ?_⟩) (by assumption) ?_; (rotate_left; (intro wS hSw; (try dsimp only at hSw); go_simp; (try with_reducible rfl)); rotate_left); simp only [Act.put, List.setIfInBounds_toArray, List.set_cons_zero, List.set_cons_succ]
      refine lin_take (v := ?_) (by kernel_rfl) (by kernel_rfl) (fun _ _ _ h => h) (Or.inl ⟨by rfl, ?_⟩) (by assumption) ?_; (rotate_left; (intro wS hSw; (try dsimp only at hSw); go_simp; (try with_reducible rfl)); rotate_left); simp only [Act.put, List.setIfInBounds_toArray, List.set_cons_zero, List.set_cons_succ]
      refine lin_take (v := ?_) (by kernel_rfl) (by kernel_rfl) (fun _ _ _ h => h) (Or.inl ⟨by rfl, ?_⟩) (by assumption) ?_; (rotate_left; (intro wS hSw; (try dsimp only at hSw); go_simp; (try with_reducible rfl)); rotate_left); simp only [Act.put, List.setIfInBounds_toArray, List.set_cons_zero, List.set_cons_succ]
      refine lin_take (v := ?_) (by kernel_rfl) (by kernel_rfl) (fun _ _ _ h => h) (Or.inl ⟨by rfl, ?_⟩) (by assumption) ?_; (rotate_left; (intro wS hSw; (try dsimp only at hSw); go_simp; (try with_reducible rfl)); rotate_left); simp only [Act.put, List.setIfInBounds_toArray, List.set_cons_zero, List.set_cons_succ]
      refine lin_take (v := ?_) (by kernel_rfl) (by kernel_rfl) (fun _ _ _ h => h) (Or.inl ⟨by rfl, ?_⟩) (by assumption) ?_; (rotate_left; (intro wS hSw; (try dsimp only at hSw); go_simp; (try with_reducible rfl)); rotate_left); simp only [Act.put, List.setIfInBounds_toArray, List.set_cons_zero, List.set_cons_succ]
      refine lin_take (v := ?_) (by kernel_rfl) (by kernel_rfl) (fun _ _ _ h => h) (Or.inl ⟨by rfl, ?_⟩) (by assumption) ?_; (rotate_left; (intro wS hSw; (try dsimp only at hSw); go_simp; (try with_reducible rfl)); rotate_left); simp only [Act.put, List.setIfInBounds_toArray, List.set_cons_zero, List.set_cons_succ]
      refine lin_take (v := ?_) (by kernel_rfl) (by kernel_rfl) (fun _ _ _ h => h) (Or.inl ⟨by rfl, ?_⟩) (by assumption) ?_; (rotate_left; (intro wS hSw; (try dsimp only at hSw); go_simp; (try with_reducible rfl)); rotate_left); simp only [Act.put, List.setIfInBounds_toArray, List.set_cons_zero, List.set_cons_succ]
      refine lin_take (v := ?_) (by kernel_rfl) (by kernel_rfl) (fun _ _ _ h => h) (Or.inl ⟨by rfl, ?_⟩) (by assumption) ?_; (rotate_left; (intro wS hSw; (try dsimp only at hSw); go_simp; (try with_reducible rfl)); rotate_left); simp only [Act.put, List.setIfInBounds_toArray, List.set_cons_zero, List.set_cons_succ]
      refine lin_done (by kernel_rfl) ?_
      clear hS0
      generalize u.drew = u0 at *
      have c0' : u0.cell? ⟨xb, 0, none⟩ = some (.int .i64 (A : Int)) := (hB2.cget 1 rfl 0).1
      cases bk with
      | false =>
        have hE := Lib.hid (show doneB f = none by rw [hdr.out]; rw [Option.isSome_eq_false_iff, Option.isNone_iff_eq_none] at hbk; rw [hbk])
        clear hbk hc0
        go_wp2
        go_ret2
        exact .inl ⟨hE.out, rfl, hB2.below⟩
      | true =>
        obtain ⟨n, hn⟩ := Option.isSome_iff_exists.1 hbk
        obtain rfl := hc0 n hn
        have hE := Lib.hid (show doneB f = patchP (lookB f.labels) (f.jumps.drop (r + 1)) (l.set A (patch1 (l.getD A (0, 0, 0, 0)) n)) by rw [hdr.out, hn])
        clear hbk hc0 hn hdr
        obtain ⟨y, hy⟩ : ∃ y, l[A]? = some y := ⟨_, List.getElem?_eq_getElem (by omega)⟩
        have hyD : l.getD A (0, 0, 0, 0) = y := by rw [List.getD_eq_getElem?_getD, hy]; rfl
        rw [hyD] at hE
        obtain ⟨gl, ol, cap, hv, _, _, hcl, hfl⟩ := (hB2.row 0 rfl).addr (by omega)
        simp only [Value.slice.injEq] at hv
        obtain ⟨rfl, _, rfl⟩ := hv
        have e0 := hcl (A * 4) (by omega)
        have q0 := insL_get hy 0 (by omega)
        rw [Nat.add_zero] at q0
        rw [q0] at e0
        simp [insC] at e0
        have f1 := hfl (A * 4 + 1) (by omega)
        have f2 := hfl (A * 4 + 2) (by omega)
        have e1 := hcl (A * 4 + 1) (by omega)
        have e2 := hcl (A * 4 + 2) (by omega)
        rw [insL_get hy 1 (by omega)] at e1
        rw [insL_get hy 2 (by omega)] at e2
        simp [insC] at e1 e2
        rw [← Nat.add_assoc] at e1 e2 f1 f2
        have hAi : (A : Int) < (f.code.length : Int) := by omega
        have hW1 := Lib.hid (hB2.rowset 0 rfl (A * 4 + 1) (.int .i64 (n : Int)) (insL_set1 hy n))
        have hW2 := Lib.hid (hB2.rowset 0 rfl (A * 4 + 2) (.int .i64 (n : Int)) (insL_set2 hy n))
        clear hcl hfl q0 hy hyD
        by_cases e18 : y.1 = 18
        · have hE2 := Lib.hid (hE.out.trans (by rw [show patch1 y n = (y.1, (n : Int), y.2.2.1, y.2.2.2) from if_pos e18]))
          rw [e18] at e0
          clear e18 hE hW2
          go_wp2
          replace hW1 := hW1.out
          rw [← Nat.add_assoc] at hW1
          go_round
          case rel => exact ⟨r + 1, l.set A (y.1, (n : Int), y.2.2.1, y.2.2.2), by omega, by go_num, by rw [List.length_set]; exact hll, hE2, hW1.sel [0] (by decide)⟩
          case measure => simp [intOf]; omega
        · have hE2 := Lib.hid (hE.out.trans (by rw [show patch1 y n = (y.1, y.2.1, (n : Int), y.2.2.2) from if_neg e18]))
          have e18' : (y.1 == 18) = false := by simpa using e18
          clear hE hW1
          go_wp2
          replace hW2 := hW2.out
          rw [← Nat.add_assoc] at hW2
          go_round
          case rel => exact ⟨r + 1, l.set A (y.1, y.2.1, (n : Int), y.2.2.2), by omega, by go_num, by rw [List.length_set]; exact hll, hE2, hW2.sel [0] (by decide)⟩
          case measure => simp [intOf]; omega
    · obtain rfl : r = f.jumps.length := by omega
      have hE := Lib.hid (show doneB f = some l by rw [hd.out, List.drop_length]; rfl)
      go_wp2
      go_ret2
      exact .inr ⟨l, la, lc, hE.out, hll, by rw [hll]; rfl, by rw [hll]; exact hO⟩
end Go.Proofs.Ytboiogjklecpaaa
