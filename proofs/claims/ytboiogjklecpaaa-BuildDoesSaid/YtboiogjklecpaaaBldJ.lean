/- Package build: New, last, Func. Package build: Add. Package build: Label. Package build: Label of a new name. Package build: Func. Package build: where there is no function yet, or no builder. Package build: End of a builder that is none; Goto and IfZero where there is no function. Package build: a jump that is added; Goto, IfZero. -/
import Derived.Test.YtboiogjklecpaaaBldMem
import Derived.Test.YtboiogjklecpaaaLin
import Derived.Test.YtboiogjklecpaaaTail
set_option linter.unusedVariables false
set_option linter.unusedSimpArgs false
namespace Go.Proofs.Ytboiogjklecpaaa
section
open Go.RowKit
set_option maxRecDepth 100000
set_option maxHeartbeats 2000000
theorem bnew (mem : Int) {w0 w : World} {l : List Ast} (h : Own w0 w l) : Calls Try.prog 39 #[.int .i64 mem] w fun e w' => ∃ bb, e = .returned (.pointer (some ⟨bb, 0, none⟩)) ∧ BOwn w0 w' bb mem [] l := by
  have h1 := h.box #[.int .i64 mem, .slice none 0 0] 91
  have h2 : BOwn w0 (w.alloc (.cells #[.int .i64 mem, .slice none 0 0] 91)) w.heap.size mem [] l := by
    have h3 := h1.push (Below.refl _ _) (rowA 92 1 (.slice none 0 0) 0 []) (Row.nil _ _ _) (by simp [rowA, Value.ownBlock])
    refine ⟨.slice none 0 0, [], rfl, h3.pm ?_⟩
    rw [List.append_assoc]
    exact List.perm_append_comm.trans (List.Perm.refl _)
  clear h h1
  replace h2 := Lib.hid h2
  go_enter Try.func39, Try.ntmps39
  go_wp2
  go_ret
  exact ⟨_, rfl, h2.out⟩
theorem blast_nil (w : World) : Calls Try.prog 68 #[.pointer none] w fun e w' => e = .returned (.pointer none) ∧ w = w' := by
  go_enter Try.func68, Try.ntmps68
  go_wp2
  go_ret
  exact ⟨rfl, rfl⟩
theorem blast_none {w0 w : World} {bb : Nat} {mem : Int} {l : List Ast} (h : BOwn w0 w bb mem [] l) : Calls Try.prog 68 #[.pointer (some ⟨bb, 0, none⟩)] w fun e w' => e = .returned (.pointer none) ∧ w = w' := by
  obtain ⟨lv, Ms, hM, hO⟩ := h
  obtain rfl : Ms = [] := List.map_eq_nil_iff.1 hM
  have x1 := (hO.cget 0 rfl 1).1
  obtain ⟨ao, c, rfl, _⟩ := (hO.row 1 rfl).shape
  simp at x1
  clear hO hM
  go_enter Try.func68, Try.ntmps68
  go_wp2
  go_ret
  exact ⟨rfl, rfl⟩
theorem blast_some {w0 w : World} {bb : Nat} {mem : Int} {lv : Value} {Ms : List (FM × BF)} {x : FM} {f : BF} {l : List Ast} (hn : Ms.length ≤ 1000) (h : Own w0 w (bldC bb mem lv :: bldR lv (Ms ++ [(x, f)]) :: l)) : Calls Try.prog 68 #[.pointer (some ⟨bb, 0, none⟩)] w fun e w' => e = .returned (.pointer (some ⟨x.fb, 0, none⟩)) ∧ ∃ n, w' = w.drewN n := by
  have x1 := (h.cget 0 rfl 1).1
  have hr : Row w 92 1 lv (Ms ++ [(x, f)]).length ((Ms ++ [(x, f)]).map fptr) := h.row 1 rfl
  obtain ⟨g, o, c, rfl, q1, q2, q3, q4⟩ := hr.addr (by simp)
  have hc := q3 Ms.length (by simp)
  rw [List.map_append, List.getElem?_append_right (by simp)] at hc
  simp [fptr] at hc
  simp only [List.length_append, List.length_singleton] at x1 q1
  simp at x1
  unfold maxLen at q2
  generalize Ms.length = N at *
  clear hr q3 q4 h
  have k1 : ((N : Int) + 1 == 0) = false := by simp; omega
  have k2 : IntKind.i64.wrap ((N : Int) + 1 - 1) = (N : Int) := (IntWalk.i64_in _ (by omega)).trans (by omega)
  have k3 : (N : Int) < (N : Int) + 1 := by omega
  have k4 : IntKind.i64.wrap (((N + 1 : Nat) : Int) - 1) = (N : Int) := (IntWalk.i64_in _ (by omega)).trans (by omega)
  have k5 : IntKind.i64.wrap (N : Int) = (N : Int) := IntWalk.i64_in _ (by omega)
  have k6 : N < N + 1 := by omega
  have k7 : ¬ (N : Int) + 1 = 0 := by omega
  go_enter Try.func68, Try.ntmps68
  go_wp2_with fail
  go_quiet (fail)
  go_wp2_with fail
  go_ret
  exact ⟨rfl, _, rfl⟩
end
section
open Go.RowKit
set_option maxRecDepth 100000
set_option maxHeartbeats 2000000
theorem BOwn.open_ {w0 w : World} {bb : Nat} {mem : Int} {B : List BF} {f : BF} {l : List Ast} (h : BOwn w0 w bb mem (B ++ [f]) l) : ∃ (lv : Value) (Ms : List (FM × BF)) (x : FM), Ms.map (·.2) = B ∧ Own w0 w (bldC bb mem lv :: bldR lv (Ms ++ [(x, f)]) :: (fnP x f ++ (fnAll Ms ++ l))) := by
  obtain ⟨lv, Ms, hM, hO⟩ := h
  obtain ⟨Ms', a, b, rfl⟩ : ∃ Ms' a b, Ms = Ms' ++ [(a, b)] := by
    have hne : Ms ≠ [] := by intro e; rw [e] at hM; simp at hM
    exact ⟨Ms.dropLast, (Ms.getLast hne).1, (Ms.getLast hne).2, (List.dropLast_concat_getLast hne).symm⟩
  rw [List.map_append] at hM
  obtain ⟨h1, h2⟩ := List.append_inj' hM rfl
  simp at h2
  subst h2
  exact ⟨lv, Ms', a, h1, bld_last hO⟩
theorem badd {w0 w : World} {bb : Nat} {mem : Int} {B : List BF} {f : BF} {l : List Ast} (hn : B.length ≤ 1000) (h : BOwn w0 w bb mem (B ++ [f]) l) (xs : List I4) (ao : Option Addr) (c : Nat) (hx : LiesI w ao c xs) (hl : f.code.length + xs.length ≤ 100000) :
    Calls Try.prog 42 #[.pointer (some ⟨bb, 0, none⟩), .slice ao xs.length c] w fun e w' => e = .returned (.int .i64 ((f.code.length + xs.length : Nat) : Int)) ∧ BOwn w0 w' bb mem (B ++ [{ f with code := f.code ++ xs }]) l := by
  obtain ⟨lv, Ms, x, rfl, hO⟩ := h.open_
  clear h
  obtain ⟨i1, hi1, hz0, hz1, hz2⟩ := info_parts' Try.infoIns
  have LA := Lib.hid (blast_some (by simpa using hn) hO)
  have hE := Lib.hid (fun (n : Nat) (w2 : World) (ao2 : Option Addr) (cap2 : Nat) (hr : Row w2 30 4 (.slice ao2 (f.code.length + xs.length) cap2) (f.code.length + xs.length) (insL f.code ++ insL xs)) (ht : Touch (fun k => x.cv.ownBlock = some k) (w.drewN n) w2) (hf : ∀ k, Value.ownBlock (.slice ao2 (f.code.length + xs.length) cap2) = some k → x.cv.ownBlock = some k ∨ (w.drewN n).heap.size ≤ k) =>
    show (∃ v, w2.cell? ⟨x.fb, 0, none⟩ = some v) ∧ w2.frozen? ⟨x.fb, 0, none⟩ = false ∧ (w2.setCell ⟨x.fb, 0, none⟩ (.slice ao2 (f.code.length + xs.length) cap2)).cell? ⟨x.fb, 0, none⟩ = some (.slice ao2 (f.code.length + xs.length) cap2) ∧ BOwn w0 (w2.setCell ⟨x.fb, 0, none⟩ (.slice ao2 (f.code.length + xs.length) cap2)) bb mem (Ms.map (·.2) ++ [{ f with code := f.code ++ xs }]) l from by
      have h1 := (hO.drewN n).move 3 rfl (Moves.of_append hr ht hf)
      have h2 := h1.cset 2 rfl 0 (.slice ao2 (f.code.length + xs.length) cap2)
      refine ⟨⟨_, (h1.cget 2 rfl 0).1⟩, (h1.cget 2 rfl 0).2, (h2.cget 2 rfl 0).1, ?_⟩
      refine bld_back (lv := lv) (x := x) (f := f) (f' := { f with code := f.code ++ xs }) (x' := { x with cv := .slice ao2 (f.code.length + xs.length) cap2 }) rfl (h2.cast ?_)
      simp [fnP, fnC, insL_app])
  have x0 := fun n => show (w.drewN n).cell? ⟨x.fb, 0, none⟩ = some x.cv from ((hO.drewN n).cget 2 rfl 0).1
  have hrow := fun n => (hO.drewN n).row 3 rfl
  have hsrc := fun n => ((hx.below (Own.drewN.below_drewN0 (Below.refl _ _) n)).src : Src (w.drewN n) ao xs.length c 4 (insL xs))
  have hone := insL_cell xs
  replace hO := Lib.hid hO
  replace hx := Lib.hid hx
  go_enter Try.func42, Try.ntmps42
  go_upto_region 4 with (go_at_call 68; refine LA.out.mono ?_; rintro e w2 ⟨rfl, nq, rfl⟩)
  replace x0 := x0 nq
  replace hrow := hrow nq
  replace hsrc := hsrc nq
  replace hE := Lib.hid (hE.out nq)
  generalize w.drewN nq = u at *
  obtain ⟨q1, q2, q3⟩ := hsrc
  go_wp2_with (first | (at_builtin; refine wpList_append_row _ rfl _ _ 52 rfl 30 i1 (.agg #[.int .i64 0, .int .i64 0, .int .i64 0, .int .i64 0]) 4 32 Try.underlying52 hi1 hz0 hz1 hz2 rfl (by decide) x.cv f.code.length (insL f.code) rfl hrow ao xs.length c (insL xs) rfl q1 q2 q3 hone (by unfold maxLen; omega) (by omega) ?_; intro v2 w3 hr ht hf; obtain ⟨ao2, cap2, rfl, _⟩ := hr.shape; obtain ⟨⟨v, y0⟩, y1, y2, hB⟩ := hE.out _ _ _ hr ht hf; replace hB := Lib.hid hB))
  go_ret
  exact ⟨rfl, hB.out⟩
end
section
open Go.RowKit
set_option maxRecDepth 100000
set_option maxHeartbeats 1000000
theorem blabel_twice {w0 w : World} {bb : Nat} {mem : Int} {B : List BF} {f : BF} {l : List Ast} (hn : B.length ≤ 1000) (h : BOwn w0 w bb mem (B ++ [f]) l) (nm : ByteArray) (hs : nm.size ≤ maxLen) (ht : (lookB f.labels nm).isSome = true) :
    Calls Try.prog 41 #[.pointer (some ⟨bb, 0, none⟩), .string nm] w fun e w' => e = .returned (.int .i64 10) ∧ BOwn w0 w' bb mem (B ++ [f]) l := by
  obtain ⟨lv, Ms, x, rfl, hO⟩ := h.open_
  clear h
  have LA := Lib.hid (blast_some (by simpa using hn) hO)
  have FIN := Lib.hid (fun n => show BOwn w0 (w.drewN n) bb mem (Ms.map (·.2) ++ [f]) l from bld_back (lv := lv) (x := x) (f := f) rfl (hO.drewN n))
  have x1 := fun n => show (w.drewN n).cell? ⟨x.fb, 1, none⟩ = some (.map (some x.mb)) from ((hO.drewN n).cget 2 rfl 1).1
  have hm := fun n => show (mapA x.mb f.labels).hold (w.drewN n) from (hO.drewN n).at 4 rfl
  have hkey : keyOf Try.prog 9 (.string nm) = some (keyL nm) := Go.WideMaps.keyOf_string_mk Try.underlying9 hs
  clear hO
  go_enter Try.func41, Try.ntmps41
  go_upto_region 4 with (go_at_call 68; refine LA.out.mono ?_; rintro e w2 ⟨rfl, nq, rfl⟩)
  replace x1 := x1 nq
  obtain ⟨D, hown, hD⟩ := hm nq
  have hfin := Lib.hid (FIN.out nq)
  obtain ⟨hh, -⟩ := hD.2 nm
  rw [ht] at hh
  clear hm FIN
  generalize w.drewN nq = u at *
  go_wp2_with (at_lookup; refine wpList_lookup_own_ok_int _ rfl _ _ 93 rfl 9 3 .i64 (Maps.string_keyed Try.underlying9) Try.underlying93 Try.underlying3 (by rfl) x.mb _ D rfl hown _ _ rfl hkey ?_; rw [hh]; intro cc hat hwc; clear hat hwc)
  go_ret
  exact ⟨rfl, hfin.out⟩
end
section
open Go.RowKit
set_option maxRecDepth 100000
set_option maxHeartbeats 1000000
theorem Moves.map {w w3 : World} {mb : Nat} {ls ls' : List (ByteArray × Nat)} {D : DataW Unit} {n : Nat} (h : w3.ownsMap Try.prog 9 (plainElem Try.prog 3) mb n D) (hn : n = ls'.length) (hD : LabD D ls') (hg : w.grownBy w3 (some mb)) (hlt : mb < w.heap.size) : Moves (mapA mb ls) (mapA mb ls') w w3 := by
  subst hn
  exact ⟨⟨D, h, hD⟩, ⟨hg.os, hg.tape, hg.output, hg.size, fun k hk hn => hg.block k hk (fun e => hn (Option.some.inj e))⟩, fun k hk => .inl hk⟩
theorem blabel_new {w0 w : World} {bb : Nat} {mem : Int} {B : List BF} {f : BF} {l : List Ast} (hn : B.length ≤ 1000) (h : BOwn w0 w bb mem (B ++ [f]) l) (nm : ByteArray) (hs : nm.size ≤ maxLen) (ht : lookB f.labels nm = none) (hl : f.labels.length ≤ 100000) :
    Calls Try.prog 41 #[.pointer (some ⟨bb, 0, none⟩), .string nm] w fun e w' => e = .returned (.int .i64 0) ∧ BOwn w0 w' bb mem (B ++ [{ f with labels := f.labels ++ [(nm, f.code.length)] }]) l := by
  obtain ⟨lv, Ms, x, rfl, hO⟩ := h.open_
  clear h
  have LA := Lib.hid (blast_some (by simpa using hn) hO)
  have hkey : keyOf Try.prog 9 (.string nm) = some (keyL nm) := Go.WideMaps.keyOf_string_mk Try.underlying9 hs
  obtain ⟨ao, cp, hcv, b1, b2, _⟩ := (hO.row 3 rfl).shape
  have x0 := fun n => show (w.drewN n).cell? ⟨x.fb, 0, none⟩ = some (.slice ao f.code.length cp) from ((hO.drewN n).cget 2 rfl 0).1.trans (congrArg some hcv)
  have x1 := fun n => show (w.drewN n).cell? ⟨x.fb, 1, none⟩ = some (.map (some x.mb)) from ((hO.drewN n).cget 2 rfl 1).1
  have hm := fun n => show (mapA x.mb f.labels).hold (w.drewN n) from (hO.drewN n).at 4 rfl
  have hlt := fun n => show x.mb < (w.drewN n).heap.size from (mapA x.mb f.labels).lt (hm n) x.mb rfl
  have FIN := Lib.hid (fun (n : Nat) (w3 : World) (D : DataW Unit) (h3 : w3.ownsMap Try.prog 9 (plainElem Try.prog 3) x.mb (f.labels.length + 1) D) (hD : LabD D (f.labels ++ [(nm, f.code.length)])) (hg : (w.drewN n).grownBy w3 (some x.mb)) => show BOwn w0 w3 bb mem (Ms.map (·.2) ++ [{ f with labels := f.labels ++ [(nm, f.code.length)] }]) l from
    bld_back (lv := lv) (x := x) (x' := x) (f := f) (f' := { f with labels := f.labels ++ [(nm, f.code.length)] }) rfl ((hO.drewN n).move 4 rfl (Moves.map (ls' := f.labels ++ [(nm, f.code.length)]) h3 (by simp) hD hg (hlt n))))
  have hval : plainElem (H := Unit) Try.prog 3 (.int .i64 (f.code.length : Int)) = some (.lit (.int .i64 (f.code.length : Int)), []) := plainElem_int Try.underlying3 (by unfold maxLen at b2; simp [Lit.wf, IntKind.min, IntKind.max, IntKind.signed, IntKind.bits]; omega)
  have hne : ∀ {w' w3 : World}, w'.grownBy w3 (some x.mb) → x.fb < w'.heap.size → x.fb ≠ x.mb → (∀ j, w3.cell? ⟨x.fb, j, none⟩ = w'.cell? ⟨x.fb, j, none⟩) := fun hg h1 h2 j => World.cell?_of_block (hg.block _ h1 (fun e => h2 (Option.some.inj e)))
  have hap : x.fb ≠ x.mb := fun e => hO.apart 2 4 (by decide) (A := fnC x) (B := mapA x.mb f.labels) rfl rfl x.fb rfl e
  have hfl := fun n => show x.fb < (w.drewN n).heap.size from (fnC x).lt ((hO.drewN n).at 2 rfl) x.fb rfl
  clear hO hcv
  go_enter Try.func41, Try.ntmps41
  go_upto_region 4 with (go_at_call 68; refine LA.out.mono ?_; rintro e w2 ⟨rfl, nq, rfl⟩)
  replace x0 := x0 nq
  replace x1 := x1 nq
  obtain ⟨D, hown, hD⟩ := hm nq
  replace hfl := hfl nq
  have hfin := Lib.hid (show ∀ (w3 : World) (D : DataW Unit), w3.ownsMap Try.prog 9 (plainElem Try.prog 3) x.mb (f.labels.length + 1) D → LabD D (f.labels ++ [(nm, f.code.length)]) → (w.drewN nq).drew.grownBy w3 (some x.mb) → BOwn w0 w3 bb mem (Ms.map (·.2) ++ [{ f with labels := f.labels ++ [(nm, f.code.length)] }]) l from FIN.out (nq + 1))
  obtain ⟨hh, -⟩ := hD.2 nm
  rw [ht] at hh
  have hD2 := Lib.hid (hD.put ht f.code.length)
  have hnl : f.labels.length < maxLen := by unfold maxLen; omega
  clear hm FIN hlt
  generalize w.drewN nq = u at *
  have hS3 := Lib.hid (fun (w3 : World) (hg : u.drew.grownBy w3 (some x.mb)) => show (fun w' : World => w'.cell? ⟨x.fb, 0, none⟩ = some (.slice ao f.code.length cp) ∧ w'.cell? ⟨x.fb, 1, none⟩ = some (.map (some x.mb))) w3 from ⟨(hne (w' := u.drew) hg hfl hap 0).trans x0, (hne (w' := u.drew) hg hfl hap 1).trans x1⟩)
  clear hne
  go_upto_region 7 with (at_lookup; refine wpList_lookup_own_ok_int _ rfl _ _ 93 rfl 9 3 .i64 (Maps.string_keyed Try.underlying9) Try.underlying93 Try.underlying3 (by rfl) x.mb _ D rfl hown _ _ rfl hkey ?_; rw [hh]; intro cc hat hwc; clear hat hwc)
  have hS0 := (show (fun w' : World => w'.cell? ⟨x.fb, 0, none⟩ = some (.slice ao f.code.length cp) ∧ w'.cell? ⟨x.fb, 1, none⟩ = some (.map (some x.mb))) u.drew from ⟨x0, x1⟩)
  refine lin_start (S := (fun w' : World => w'.cell? ⟨x.fb, 0, none⟩ = some (.slice ao f.code.length cp) ∧ w'.cell? ⟨x.fb, 1, none⟩ = some (.map (some x.mb)))) rfl 11 rfl hS0 ?_
  simp only [numbered, Nat.zero_add, Nat.reduceAdd]
  refine lin_take (v := ?_) (by kernel_rfl) (by kernel_rfl) (fun _ _ _ h => h) (Or.inl ⟨by rfl, ?_⟩) (by assumption) ?_; (rotate_left; (intro wS hSw; (try dsimp only at hSw); go_simp; (try with_reducible rfl)); rotate_left); simp only [Act.put, List.setIfInBounds_toArray, List.set_cons_zero, List.set_cons_succ]
  refine lin_take (v := ?_) (by kernel_rfl) (by kernel_rfl) (fun _ _ _ h => h) (Or.inl ⟨by rfl, ?_⟩) (by assumption) ?_; (rotate_left; (intro wS hSw; (try dsimp only at hSw); go_simp; (try with_reducible rfl)); rotate_left); simp only [Act.put, List.setIfInBounds_toArray, List.set_cons_zero, List.set_cons_succ]
  refine lin_take (v := ?_) (by kernel_rfl) (by kernel_rfl) (fun _ _ _ h => h) (Or.inl ⟨by rfl, ?_⟩) (by assumption) ?_; (rotate_left; (intro wS hSw; (try dsimp only at hSw); go_simp; (try with_reducible rfl)); rotate_left); simp only [Act.put, List.setIfInBounds_toArray, List.set_cons_zero, List.set_cons_succ]
  refine lin_take (v := ?_) (by kernel_rfl) (by kernel_rfl) (fun _ _ _ h => h) (Or.inl ⟨by rfl, ?_⟩) (by assumption) ?_; (rotate_left; (intro wS hSw; (try dsimp only at hSw); go_simp; (try with_reducible rfl)); rotate_left); simp only [Act.put, List.setIfInBounds_toArray, List.set_cons_zero, List.set_cons_succ]
  refine lin_take (v := ?_) (by kernel_rfl) (by kernel_rfl) (fun _ _ _ h => h) (Or.inl ⟨by rfl, ?_⟩) (by assumption) ?_; (rotate_left; (intro wS hSw; (try dsimp only at hSw); go_simp; (try with_reducible rfl)); rotate_left); simp only [Act.put, List.setIfInBounds_toArray, List.set_cons_zero, List.set_cons_succ]
  refine lin_take (v := ?_) (by kernel_rfl) (by kernel_rfl) (fun _ _ _ h => h) (Or.inl ⟨by rfl, ?_⟩) (by assumption) ?_; (rotate_left; (intro wS hSw; (try dsimp only at hSw); go_simp; (try with_reducible rfl)); rotate_left); simp only [Act.put, List.setIfInBounds_toArray, List.set_cons_zero, List.set_cons_succ]
  refine lin_take (v := ?_) (by kernel_rfl) (by kernel_rfl) (fun _ _ _ h => h) (Or.inl ⟨by rfl, ?_⟩) (by assumption) ?_; (rotate_left; (intro wS hSw; (try dsimp only at hSw); go_simp; (try with_reducible rfl)); rotate_left); simp only [Act.put, List.setIfInBounds_toArray, List.set_cons_zero, List.set_cons_succ]
  refine lin_take (v := ?_) (by kernel_rfl) (by kernel_rfl) (fun _ _ _ h => h) (Or.inl ⟨by rfl, ?_⟩) (by assumption) ?_; (rotate_left; (intro wS hSw; (try dsimp only at hSw); go_simp; (try with_reducible rfl)); rotate_left); simp only [Act.put, List.setIfInBounds_toArray, List.set_cons_zero, List.set_cons_succ]
  refine lin_take (v := ?_) (by kernel_rfl) (by kernel_rfl) (fun _ _ _ h => h) (Or.inl ⟨by rfl, ?_⟩) (by assumption) ?_; (rotate_left; (intro wS hSw; (try dsimp only at hSw); go_simp; (try with_reducible rfl)); rotate_left); simp only [Act.put, List.setIfInBounds_toArray, List.set_cons_zero, List.set_cons_succ]
  refine lin_take (v := ?_) (by kernel_rfl) (by kernel_rfl) (fun _ _ _ h => h) (Or.inl ⟨by rfl, ?_⟩) (by assumption) ?_; (rotate_left; (intro wS hSw; (try dsimp only at hSw); go_simp; (try with_reducible rfl)); rotate_left); simp only [Act.put, List.setIfInBounds_toArray, List.set_cons_zero, List.set_cons_succ]
  refine lin_law (by kernel_rfl) rfl ?_
  refine wpList_mapUpdate_own _ rfl _ _ _ 93 rfl 9 3 (Maps.string_keyed Try.underlying9) Try.underlying93 (plainElem Try.prog 3) x.mb _ D rfl hown hnl _ _ (keyL nm) rfl rfl hkey (.lit (.int .i64 (f.code.length : Int))) [] hval ?_
  intro w3 hown3 hg3
  refine wpList_nil ⟨rfl, hS3.out _ hg3, fun hHeld => ?_⟩
  try simp only [Act.put, List.setIfInBounds_toArray, List.set_cons_zero, List.set_cons_succ]
  refine lin_done (by kernel_rfl) ?_
  go_wp2_with fail
  go_ret
  exact ⟨rfl, hfin.out _ _ hown3 hD2.out hg3⟩
end
section
open Go.RowKit
set_option maxRecDepth 100000
set_option maxHeartbeats 1000000
theorem Try.infoFnP : (Try.prog.info? 92).map (fun i => (i.zero, i.size, i.bytes)) = some (some (.pointer none), 1, 8) := by kernel_rfl
theorem bfunc {w0 w : World} {bb : Nat} {mem : Int} {B : List BF} {l : List Ast} (hn : B.length ≤ 1000) (h : BOwn w0 w bb mem B l) : Calls Try.prog 40 #[.pointer (some ⟨bb, 0, none⟩)] w fun e w' => e = .returned (.int .i64 (B.length : Int)) ∧ BOwn w0 w' bb mem (B ++ [BF.none_]) l := by
  obtain ⟨lv, Ms, rfl, hO⟩ := h
  obtain ⟨i1, hi1, hz0, hz1, hz2⟩ := info_parts' Try.infoFnP
  have hl : Ms.length ≤ 1000 := by simpa using hn
  clear hn
  have x0 := (hO.cget 0 rfl 1).1
  simp at x0
  have k1 := hO.mapMade
  have k2 := k1.box #[.slice none 0 0, .map (some w.heap.size), .slice none 0 0] 96
  rw [show (w.alloc (.map #[] 0)).heap.size = w.heap.size + 1 from World.size_alloc _ _] at k2
  have hE := Lib.hid (fun (w2 : World) (hw2 : w2 = (w.alloc (.map #[] 0)).alloc (.cells #[.slice none 0 0, .map (some w.heap.size), .slice none 0 0] 96)) (w3 : World) (ao2 : Option Addr) (cap2 : Nat) (hr : Row w3 92 1 (.slice ao2 (Ms.length + 1) cap2) (Ms.length + 1) (Ms.map fptr ++ [.pointer (some ⟨(w.heap.size + 1), 0, none⟩)])) (ht : Touch (fun k => lv.ownBlock = some k) w2 w3) (hf : ∀ k, Value.ownBlock (.slice ao2 (Ms.length + 1) cap2) = some k → lv.ownBlock = some k ∨ w2.heap.size ≤ k) =>
    show (∃ v, w3.cell? ⟨bb, 1, none⟩ = some v) ∧ w3.frozen? ⟨bb, 1, none⟩ = false ∧ (w3.setCell ⟨bb, 1, none⟩ (.slice ao2 (Ms.length + 1) cap2)).cell? ⟨bb, 1, none⟩ = some (.slice ao2 (Ms.length + 1) cap2) ∧ BOwn w0 (w3.setCell ⟨bb, 1, none⟩ (.slice ao2 (Ms.length + 1) cap2)) bb mem (Ms.map (·.2) ++ [BF.none_]) l from by
      subst hw2
      have h1 := k2.move 1 rfl (Moves.of_append hr ht hf)
      have h2 := h1.cset 0 rfl 1 (.slice ao2 (Ms.length + 1) cap2)
      have h3 := (h2.push (Below.refl _ _) (rowA 30 4 (.slice none 0 0) 0 []) (Row.nil _ _ _) (by simp [rowA, Value.ownBlock])).push (Below.refl _ _) (rowA 108 2 (.slice none 0 0) 0 []) (Row.nil _ _ _) (by simp [rowA, Value.ownBlock])
      refine ⟨⟨_, (h1.cget 0 rfl 1).1⟩, (h1.cget 0 rfl 1).2, (h2.cget 0 rfl 1).1, .slice ao2 (Ms.length + 1) cap2, Ms ++ [(⟨(w.heap.size + 1), .slice none 0 0, w.heap.size, .slice none 0 0⟩, BF.none_)], by simp, ?_⟩
      have h4 := h3.pm (l' := bldC bb mem (.slice ao2 (Ms.length + 1) cap2) :: bldR (.slice ao2 (Ms.length + 1) cap2) (Ms ++ [(⟨(w.heap.size + 1), .slice none 0 0, w.heap.size, .slice none 0 0⟩, BF.none_)]) :: (fnAll Ms ++ (l ++ [mapA w.heap.size [], cellsA (w.heap.size + 1) #[.slice none 0 0, .map (some w.heap.size), .slice none 0 0] 96, rowA 30 4 (.slice none 0 0) 0 [], rowA 108 2 (.slice none 0 0) 0 []]))) (List.Perm.of_eq (by simp [bldC, bldR, fptr]))
      refine h4.pm (.cons _ (.cons _ ?_))
      rw [fnAll_snoc, List.append_assoc]
      refine List.Perm.append_left _ (List.perm_append_comm.trans (List.Perm.append_right l ?_))
      exact (List.Perm.swap _ _ _).trans (.cons _ (List.Perm.swap _ _ _)))
  obtain ⟨bo, bc, rfl, b1, b2, _⟩ := (hO.row 1 rfl).shape
  unfold maxLen at b2
  have hrow : Row ((w.alloc (.map #[] 0)).alloc (.cells #[.slice none 0 0, .map (some w.heap.size), .slice none 0 0] 96)) 92 1 (.slice bo Ms.length bc) Ms.length (Ms.map fptr) := k2.row 1 rfl
  have e0 : (Ms.map (fun p => p.2)).length = Ms.length := by simp
  rw [show ((Ms.map (·.2)).length : Int) = (Ms.length : Int) by simp]
  clear e0 hO k1 k2
  have k5 : IntKind.i64.wrap ((Ms.length : Int) + 1 - 1) = (Ms.length : Int) := (IntWalk.i64_in _ (by omega)).trans (by omega)
  have k6 : IntKind.i64.wrap (((Ms.length + 1 : Nat) : Int) - 1) = (Ms.length : Int) := (IntWalk.i64_in _ (by omega)).trans (by omega)
  have MK := show (Instr.makeMap 93 none).run Try.prog w = .ok (.map (some w.heap.size)) (w.alloc (.map #[] 0)) from by first | rfl | (simp [run_makeMap])
  go_enter Try.func40, Try.ntmps40
  go_wp2_with (at_builtin; go_loud ( refine wpList_append_lit' _ rfl _ _ 89 rfl 92 i1 (.pointer none) 1 8 Try.underlying89 hi1 hz0 hz1 hz2 rfl (by decide) (.slice bo Ms.length bc) Ms.length (Ms.map fptr) rfl hrow #[.pointer (some ⟨(w.heap.size + 1), 0, none⟩)] _ 1 _ (by simp) rfl rfl (by simp [Value.oneCell']) (by unfold maxLen; omega) (by omega) ?_; intro ao2 cap2 w3 hr ht hf; obtain ⟨⟨v, y0⟩, y1, y2, hB⟩ := hE.out _ rfl _ _ _ hr ht hf; replace hB := Lib.hid hB))
  go_ret
  exact ⟨rfl, hB.out⟩
end
section
open Go.RowKit
set_option maxRecDepth 100000
set_option maxHeartbeats 1000000
/-- There is none that began last. -/
def NoLast (p : Value) (w : World) : Prop := Calls Try.prog 68 #[p] w fun e w' => e = .returned (.pointer none) ∧ w = w'
theorem bfunc_nil (w : World) : Calls Try.prog 40 #[.pointer none] w fun e w' => e = .returned (.int .i64 (-1)) ∧ w = w' := by
  go_enter Try.func40, Try.ntmps40
  go_wp2
  go_ret
  exact ⟨rfl, rfl⟩
theorem badd_none {p v : Value} {w : World} (h : NoLast p w) : Calls Try.prog 42 #[p, v] w fun e w' => e = .returned (.int .i64 (-1)) ∧ w = w' := by
  have LA := Lib.hid h
  unfold NoLast at LA
  clear h
  go_enter Try.func42, Try.ntmps42
  go_wp2_with (go_at_call 68; refine LA.out.mono ?_; rintro e w2 ⟨rfl, rfl⟩)
  go_ret
  exact ⟨rfl, rfl⟩
theorem blabel_none {p v : Value} {w : World} (h : NoLast p w) : Calls Try.prog 41 #[p, v] w fun e w' => e = .returned (.int .i64 8) ∧ w = w' := by
  have LA := Lib.hid h
  unfold NoLast at LA
  clear h
  go_enter Try.func41, Try.ntmps41
  go_wp2_with (go_at_call 68; refine LA.out.mono ?_; rintro e w2 ⟨rfl, rfl⟩)
  go_ret
  exact ⟨rfl, rfl⟩
end
section
open Go.RowKit
set_option maxRecDepth 100000
set_option maxHeartbeats 1000000
theorem bleads_none {p : Value} {w : World} (x : I4) (nm : ByteArray) (h : NoLast p (w.alloc (.cells #[.int .i64 x.1, .int .i64 x.2.1, .int .i64 x.2.2.1, .int .i64 x.2.2.2] 30))) : Calls Try.prog 69 #[p, .agg #[.int .i64 x.1, .int .i64 x.2.1, .int .i64 x.2.2.1, .int .i64 x.2.2.2], .string nm] w fun e w' => e = .returned (.tuple #[]) ∧ Below w.heap.size w w' := by
  have LA := Lib.hid h
  unfold NoLast at LA
  clear h
  go_enter Try.func69, Try.ntmps69
  go_wp2_with (go_at_call 68; refine LA.out.mono ?_; rintro e w2 ⟨rfl, rfl⟩)
  go_end0
  exact ⟨rfl, by go_grown⟩
end
section
open Go.RowKit
set_option maxRecDepth 100000
set_option maxHeartbeats 4000000
theorem Try.infoJump : (Try.prog.info? 108).map (fun i => (i.zero, i.size, i.bytes)) = some (some (.agg #[.int .i64 0, .string ⟨#[]⟩]), 2, 24) := by kernel_rfl
theorem bleads_some {w0 w : World} {bb : Nat} {mem : Int} {B : List BF} {f : BF} {l : List Ast} (hn : B.length ≤ 1000) (h : BOwn w0 w bb mem (B ++ [f]) l) (y : I4) (nm : ByteArray) (hl : f.code.length ≤ 100000) (hj : f.jumps.length ≤ 100000) :
    Calls Try.prog 69 #[.pointer (some ⟨bb, 0, none⟩), .agg #[.int .i64 y.1, .int .i64 y.2.1, .int .i64 y.2.2.1, .int .i64 y.2.2.2], .string nm] w fun e w' => e = .returned (.tuple #[]) ∧ BOwn w0 w' bb mem (B ++ [⟨f.code ++ [y], f.labels, f.jumps ++ [(f.code.length, nm)]⟩]) l := by
  obtain ⟨lv, Ms, x, rfl, hO⟩ := h.open_
  clear h
  obtain ⟨i1, hi1, hz0, hz1, hz2⟩ := info_parts' Try.infoJump
  obtain ⟨i2, hi2, hw0, hw1, hw2⟩ := info_parts' Try.infoIns
  have hB := hO.box #[.int .i64 y.1, .int .i64 y.2.1, .int .i64 y.2.2.1, .int .i64 y.2.2.2] 30
  have hB' : Own w0 _ (bldC bb mem lv :: bldR lv (Ms ++ [(x, f)]) :: ((fnP x f ++ (fnAll Ms ++ l)) ++ [cellsA w.heap.size #[.int .i64 y.1, .int .i64 y.2.1, .int .i64 y.2.2.1, .int .i64 y.2.2.2] 30])) := hB
  have LA := Lib.hid (blast_some (by simpa using hn) hB')
  clear hB'
  replace hB : Own w0 _ (cellsA w.heap.size #[.int .i64 y.1, .int .i64 y.2.1, .int .i64 y.2.2.1, .int .i64 y.2.2.2] 30 :: bldC bb mem lv :: bldR lv (Ms ++ [(x, f)]) :: (fnP x f ++ (fnAll Ms ++ l))) := hB.pm List.perm_append_comm
  obtain ⟨ao, cp, hcv, b1, b2, _⟩ := (hO.row 3 rfl).shape
  obtain ⟨aj, cj, hjv, b3, b4, _⟩ := (hO.row 5 rfl).shape
  unfold maxLen at b2 b4
  obtain ⟨fb, cv, mb, jv⟩ := x
  dsimp only at hcv hjv
  subst hcv hjv
  obtain ⟨x, hx⟩ : ∃ x : FM, x = ⟨fb, .slice ao f.code.length cp, mb, .slice aj f.jumps.length cj⟩ := ⟨_, rfl⟩
  have ef : fb = x.fb := by rw [hx]
  have em : mb = x.mb := by rw [hx]
  clear hO
  have hB2 := fun n => (hB.drewN n)
  clear hB
  subst ef em
  clear hx
  obtain ⟨xb, hxb⟩ : ∃ xb, w.heap.size = xb := ⟨_, rfl⟩
  go_enter Try.func69, Try.ntmps69
  go_upto_region 3 with (go_at_call 68; refine LA.out.mono ?_; rintro e w2 ⟨rfl, nq, rfl⟩)
  replace hB2 := hB2 nq
  generalize (w.alloc (.cells #[.int .i64 y.1, .int .i64 y.2.1, .int .i64 y.2.2.1, .int .i64 y.2.2.2] 30)).drewN nq = u at *
  rw [hxb] at hB2
  clear LA hxb
  have hO : Own w0 u.drew (cellsA xb #[.int .i64 y.1, .int .i64 y.2.1, .int .i64 y.2.2.1, .int .i64 y.2.2.2] 30 :: bldC bb mem lv :: bldR lv (Ms ++ [(⟨x.fb, .slice ao f.code.length cp, x.mb, .slice aj f.jumps.length cj⟩, f)]) :: cellsA x.fb #[.slice ao f.code.length cp, .map (some x.mb), .slice aj f.jumps.length cj] 96 :: rowA 30 4 (.slice ao f.code.length cp) (f.code.length) (insL f.code) :: mapA x.mb f.labels :: rowA 108 2 (.slice aj f.jumps.length cj) (f.jumps.length) (jmpL f.jumps) :: (fnAll Ms ++ l)) := hB2.drewN 1
  have hS0 : (fun w' : World => w'.cell? ⟨x.fb, 0, none⟩ = some (.slice ao f.code.length cp) ∧ w'.cell? ⟨x.fb, 2, none⟩ = some (.slice aj f.jumps.length cj) ∧ w'.frozen? ⟨x.fb, 2, none⟩ = false) u.drew := ⟨(hO.cget 3 rfl 0).1, (hO.cget 3 rfl 2).1, (hO.cget 3 rfl 2).2⟩
  refine lz_start (S := (fun w' : World => w'.cell? ⟨x.fb, 0, none⟩ = some (.slice ao f.code.length cp) ∧ w'.cell? ⟨x.fb, 2, none⟩ = some (.slice aj f.jumps.length cj) ∧ w'.frozen? ⟨x.fb, 2, none⟩ = false)) rfl 16 17 rfl hS0 ?_
  simp only [numbered, Nat.zero_add, Nat.reduceAdd]
  generalize u.drew = u0 at *
  refine lz_take (v := ?_) (by kernel_rfl) (by kernel_rfl) (by kernel_rfl) (fun _ _ _ h => h) (Or.inl ⟨by rfl, ?_⟩) (by assumption) ?_; (rotate_left; (intro wS hSw; (try dsimp only at hSw); go_simp; (try with_reducible rfl)); rotate_left); simp only [Act.put, List.setIfInBounds_toArray, List.set_cons_zero, List.set_cons_succ]
  refine lz_take (v := ?_) (by kernel_rfl) (by kernel_rfl) (by kernel_rfl) (fun _ _ _ h => h) (Or.inl ⟨by rfl, ?_⟩) (by assumption) ?_; (rotate_left; (intro wS hSw; (try dsimp only at hSw); go_simp; (try with_reducible rfl)); rotate_left); simp only [Act.put, List.setIfInBounds_toArray, List.set_cons_zero, List.set_cons_succ]
  refine lz_take (v := ?_) (by kernel_rfl) (by kernel_rfl) (by kernel_rfl) (fun _ _ _ h => h) (Or.inl ⟨by rfl, ?_⟩) (by assumption) ?_; (rotate_left; (intro wS hSw; (try dsimp only at hSw); go_simp; (try with_reducible rfl)); rotate_left); simp only [Act.put, List.setIfInBounds_toArray, List.set_cons_zero, List.set_cons_succ]
  refine lz_take (v := ?_) (by kernel_rfl) (by kernel_rfl) (by kernel_rfl) (fun _ _ _ h => h) (Or.inl ⟨by rfl, ?_⟩) (by assumption) ?_; (rotate_left; (intro wS hSw; (try dsimp only at hSw); go_simp; (try with_reducible rfl)); rotate_left); simp only [Act.put, List.setIfInBounds_toArray, List.set_cons_zero, List.set_cons_succ]
  refine lz_take (v := ?_) (by kernel_rfl) (by kernel_rfl) (by kernel_rfl) (fun _ _ _ h => h) (Or.inl ⟨by rfl, ?_⟩) (by assumption) ?_; (rotate_left; (intro wS hSw; (try dsimp only at hSw); go_simp; (try with_reducible rfl)); rotate_left); simp only [Act.put, List.setIfInBounds_toArray, List.set_cons_zero, List.set_cons_succ]
  refine lz_take (v := ?_) (by kernel_rfl) (by kernel_rfl) (by kernel_rfl) (fun _ _ _ h => h) (Or.inl ⟨by rfl, ?_⟩) (by assumption) ?_; (rotate_left; (intro wS hSw; (try dsimp only at hSw); go_simp; (try with_reducible rfl)); rotate_left); simp only [Act.put, List.setIfInBounds_toArray, List.set_cons_zero, List.set_cons_succ]
  refine lz_take (v := ?_) (by kernel_rfl) (by kernel_rfl) (by kernel_rfl) (fun _ _ _ h => h) (Or.inl ⟨by rfl, ?_⟩) (by assumption) ?_; (rotate_left; (intro wS hSw; (try dsimp only at hSw); go_simp; (try with_reducible rfl)); rotate_left); simp only [Act.put, List.setIfInBounds_toArray, List.set_cons_zero, List.set_cons_succ]
  refine lz_take (v := ?_) (by kernel_rfl) (by kernel_rfl) (by kernel_rfl) (fun _ _ _ h => h) (Or.inl ⟨by rfl, ?_⟩) (by assumption) ?_; (rotate_left; (intro wS hSw; (try dsimp only at hSw); go_simp; (try with_reducible rfl)); rotate_left); simp only [Act.put, List.setIfInBounds_toArray, List.set_cons_zero, List.set_cons_succ]
  refine lz_take (v := ?_) (by kernel_rfl) (by kernel_rfl) (by kernel_rfl) (fun _ _ _ h => h) (Or.inl ⟨by rfl, ?_⟩) (by assumption) ?_; (rotate_left; (intro wS hSw; (try dsimp only at hSw); go_simp; (try with_reducible rfl)); rotate_left); simp only [Act.put, List.setIfInBounds_toArray, List.set_cons_zero, List.set_cons_succ]
  refine lz_take (v := ?_) (by kernel_rfl) (by kernel_rfl) (by kernel_rfl) (fun _ _ _ h => h) (Or.inl ⟨by rfl, ?_⟩) (by assumption) ?_; (rotate_left; (intro wS hSw; (try dsimp only at hSw); go_simp; (try with_reducible rfl)); rotate_left); simp only [Act.put, List.setIfInBounds_toArray, List.set_cons_zero, List.set_cons_succ]
  refine lz_take (v := ?_) (by kernel_rfl) (by kernel_rfl) (by kernel_rfl) (fun _ _ _ h => h) (Or.inl ⟨by rfl, ?_⟩) (by assumption) ?_; (rotate_left; (intro wS hSw; (try dsimp only at hSw); go_simp; (try with_reducible rfl)); rotate_left); simp only [Act.put, List.setIfInBounds_toArray, List.set_cons_zero, List.set_cons_succ]
  refine lz_take (v := ?_) (by kernel_rfl) (by kernel_rfl) (by kernel_rfl) (fun _ _ _ h => h) (Or.inl ⟨by rfl, ?_⟩) (by assumption) ?_; (rotate_left; (intro wS hSw; (try dsimp only at hSw); go_simp; (try with_reducible rfl)); rotate_left); simp only [Act.put, List.setIfInBounds_toArray, List.set_cons_zero, List.set_cons_succ]
  refine lz_sole (by kernel_rfl) (fun K hK => ?_)
  go_simp
  have hO1 := hO.alloc (.cells #[.int .i64 (f.code.length : Int), .string nm] 108)
  have hL := Row.lit u0 108 2 #[.int .i64 (f.code.length : Int), .string nm] 1 (by unfold maxLen; omega) rfl
  refine hK.out _ _ ?_ (fun hHeld => ?_)
  · exact .inr ⟨(hO1.cget 3 rfl 0).1, (hO1.cget 3 rfl 2).1, (hO1.cget 3 rfl 2).2⟩
  try simp only [Act.put, List.setIfInBounds_toArray, List.set_cons_zero, List.set_cons_succ]
  clear hK hHeld
  refine lz_law (by kernel_rfl) rfl ?_
  refine wpList_append_lit' _ rfl _ _ 94 rfl 108 i1 (.agg #[.int .i64 0, .string ⟨#[]⟩]) 2 24 Try.underlying94 hi1 hz0 hz1 hz2 rfl (by decide) (.slice aj f.jumps.length cj) f.jumps.length (jmpL f.jumps) rfl (hO.row 6 rfl) #[.int .i64 (f.code.length : Int), .string nm] _ 1 _ rfl rfl rfl (by simp [Value.oneCell']) (by unfold maxLen; omega) (by omega) ?_
  intro ao2 cap2 u1 hr ht hf
  have hO2 := hO.move 6 rfl (Moves.of_append hr ht hf)
  clear hO1 hL hr ht hf
  refine wpList_nil ⟨rfl, ⟨(hO2.cget 3 rfl 0).1, (hO2.cget 3 rfl 2).1, (hO2.cget 3 rfl 2).2⟩, fun hHeld => ?_⟩
  try simp only [Act.put, List.setIfInBounds_toArray, List.set_cons_zero, List.set_cons_succ]
  refine lz_take (v := ?_) (by kernel_rfl) (by kernel_rfl) (by kernel_rfl) (fun _ _ _ h => h) (Or.inl ⟨by rfl, ?_⟩) (by assumption) ?_; (rotate_left; (intro wS hSw; (try dsimp only at hSw); go_simp; (try with_reducible rfl)); rotate_left); simp only [Act.put, List.setIfInBounds_toArray, List.set_cons_zero, List.set_cons_succ]
  refine lz_take (v := ?_) (by kernel_rfl) (by kernel_rfl) (by kernel_rfl) (fun _ _ _ h => h) (Or.inl ⟨by rfl, ?_⟩) (by assumption) ?_; (rotate_left; (intro wS hSw; (try dsimp only at hSw); go_simp; (try with_reducible rfl)); rotate_left); simp only [Act.put, List.setIfInBounds_toArray, List.set_cons_zero, List.set_cons_succ]
  have z2 := (hO2.cget 3 rfl 2).1
  have z3 := (hO2.cget 3 rfl 2).2
  refine lz_sole (by kernel_rfl) (fun K hK => ?_)
  go_simp
  have hO3 := hO2.cset 3 rfl 2 (.slice ao2 (f.jumps.length + 1) cap2)
  refine hK.out _ _ (.inl rfl) (fun hHeld => ?_)
  try simp only [Act.put, List.setIfInBounds_toArray, List.set_cons_zero, List.set_cons_succ]
  clear hK hHeld z2 z3
  refine lz_done (by kernel_rfl) ?_
  clear hO hO2 hB2
  replace hO3 : Own w0 _ (cellsA xb #[.int .i64 y.1, .int .i64 y.2.1, .int .i64 y.2.2.1, .int .i64 y.2.2.2] 30 :: bldC bb mem lv :: bldR lv (Ms ++ [(⟨x.fb, .slice ao f.code.length cp, x.mb, .slice aj f.jumps.length cj⟩, f)]) :: cellsA x.fb #[.slice ao f.code.length cp, .map (some x.mb), .slice ao2 (f.jumps.length + 1) cap2] 96 :: rowA 30 4 (.slice ao f.code.length cp) (f.code.length) (insL f.code) :: mapA x.mb f.labels :: rowA 108 2 (.slice ao2 (f.jumps.length + 1) cap2) (f.jumps.length + 1) (jmpL f.jumps ++ [.int .i64 (f.code.length : Int), .string nm]) :: (fnAll Ms ++ l)) := hO3
  generalize u1.setCell ⟨x.fb, 2, none⟩ (.slice ao2 (f.jumps.length + 1) cap2) = v at *
  clear b3 b4
  go_upto_region 4 with fail
  have hO : Own w0 v.drew (cellsA xb #[.int .i64 y.1, .int .i64 y.2.1, .int .i64 y.2.2.1, .int .i64 y.2.2.2] 30 :: bldC bb mem lv :: bldR lv (Ms ++ [(⟨x.fb, .slice ao f.code.length cp, x.mb, .slice aj f.jumps.length cj⟩, f)]) :: cellsA x.fb #[.slice ao f.code.length cp, .map (some x.mb), .slice ao2 (f.jumps.length + 1) cap2] 96 :: rowA 30 4 (.slice ao f.code.length cp) (f.code.length) (insL f.code) :: mapA x.mb f.labels :: rowA 108 2 (.slice ao2 (f.jumps.length + 1) cap2) (f.jumps.length + 1) (jmpL f.jumps ++ [.int .i64 (f.code.length : Int), .string nm]) :: (fnAll Ms ++ l)) := hO3.drewN 1
  have hS0 : (fun w' : World => w'.cell? ⟨x.fb, 0, none⟩ = some (.slice ao f.code.length cp) ∧ w'.frozen? ⟨x.fb, 0, none⟩ = false ∧ w'.cell? ⟨xb, 0, none⟩ = some (.int .i64 y.1) ∧ w'.cell? ⟨xb, 1, none⟩ = some (.int .i64 y.2.1) ∧ w'.cell? ⟨xb, 2, none⟩ = some (.int .i64 y.2.2.1) ∧ w'.cell? ⟨xb, 3, none⟩ = some (.int .i64 y.2.2.2)) v.drew := ⟨(hO.cget 3 rfl 0).1, (hO.cget 3 rfl 0).2, (hO.cget 0 rfl 0).1, (hO.cget 0 rfl 1).1, (hO.cget 0 rfl 2).1, (hO.cget 0 rfl 3).1⟩
  clear hO3
  generalize ao2 = aj2 at *
  generalize cap2 = cj2 at *
  refine lz_start (S := (fun w' : World => w'.cell? ⟨x.fb, 0, none⟩ = some (.slice ao f.code.length cp) ∧ w'.frozen? ⟨x.fb, 0, none⟩ = false ∧ w'.cell? ⟨xb, 0, none⟩ = some (.int .i64 y.1) ∧ w'.cell? ⟨xb, 1, none⟩ = some (.int .i64 y.2.1) ∧ w'.cell? ⟨xb, 2, none⟩ = some (.int .i64 y.2.2.1) ∧ w'.cell? ⟨xb, 3, none⟩ = some (.int .i64 y.2.2.2))) rfl 10 11 rfl hS0 ?_
  simp only [numbered, Nat.zero_add, Nat.reduceAdd]
  generalize v.drew = u0 at *
  refine lz_take (v := ?_) (by kernel_rfl) (by kernel_rfl) (by kernel_rfl) (fun _ _ _ h => h) (Or.inl ⟨by rfl, ?_⟩) (by assumption) ?_; (rotate_left; (intro wS hSw; (try dsimp only at hSw); go_simp; (try with_reducible rfl)); rotate_left); simp only [Act.put, List.setIfInBounds_toArray, List.set_cons_zero, List.set_cons_succ]
  refine lz_take (v := ?_) (by kernel_rfl) (by kernel_rfl) (by kernel_rfl) (fun _ _ _ h => h) (Or.inl ⟨by rfl, ?_⟩) (by assumption) ?_; (rotate_left; (intro wS hSw; (try dsimp only at hSw); go_simp; (try with_reducible rfl)); rotate_left); simp only [Act.put, List.setIfInBounds_toArray, List.set_cons_zero, List.set_cons_succ]
  refine lz_take (v := ?_) (by kernel_rfl) (by kernel_rfl) (by kernel_rfl) (fun _ _ _ h => h) (Or.inl ⟨by rfl, ?_⟩) (by assumption) ?_; (rotate_left; (intro wS hSw; (try dsimp only at hSw); go_simp; (try with_reducible rfl)); rotate_left); simp only [Act.put, List.setIfInBounds_toArray, List.set_cons_zero, List.set_cons_succ]
  refine lz_take (v := ?_) (by kernel_rfl) (by kernel_rfl) (by kernel_rfl) (fun _ _ _ h => h) (Or.inl ⟨by rfl, ?_⟩) (by assumption) ?_; (rotate_left; (intro wS hSw; (try dsimp only at hSw); go_simp; (try with_reducible rfl)); rotate_left); simp only [Act.put, List.setIfInBounds_toArray, List.set_cons_zero, List.set_cons_succ]
  refine lz_take (v := ?_) (by kernel_rfl) (by kernel_rfl) (by kernel_rfl) (fun _ _ _ h => h) (Or.inl ⟨by rfl, ?_⟩) (by assumption) ?_; (rotate_left; (intro wS hSw; (try dsimp only at hSw); go_simp; (try with_reducible rfl)); rotate_left); simp only [Act.put, List.setIfInBounds_toArray, List.set_cons_zero, List.set_cons_succ]
  refine lz_take (v := ?_) (by kernel_rfl) (by kernel_rfl) (by kernel_rfl) (fun _ _ _ h => h) (Or.inl ⟨by rfl, ?_⟩) (by assumption) ?_; (rotate_left; (intro wS hSw; (try dsimp only at hSw); go_simp; (try with_reducible rfl)); rotate_left); simp only [Act.put, List.setIfInBounds_toArray, List.set_cons_zero, List.set_cons_succ]
  refine lz_sole (by kernel_rfl) (fun K hK => ?_)
  go_simp
  have hO1 := hO.alloc (.cells #[.int .i64 y.1, .int .i64 y.2.1, .int .i64 y.2.2.1, .int .i64 y.2.2.2] 30)
  have hL := Row.lit u0 30 4 #[.int .i64 y.1, .int .i64 y.2.1, .int .i64 y.2.2.1, .int .i64 y.2.2.2] 1 (by unfold maxLen; omega) rfl
  refine hK.out _ _ ?_ (fun hHeld => ?_)
  · exact .inr ⟨(hO1.cget 3 rfl 0).1, (hO1.cget 3 rfl 0).2, (hO1.cget 0 rfl 0).1, (hO1.cget 0 rfl 1).1, (hO1.cget 0 rfl 2).1, (hO1.cget 0 rfl 3).1⟩
  try simp only [Act.put, List.setIfInBounds_toArray, List.set_cons_zero, List.set_cons_succ]
  clear hK hHeld
  refine lz_law (by kernel_rfl) rfl ?_
  refine wpList_append_lit' _ rfl _ _ 52 rfl 30 i2 (.agg #[.int .i64 0, .int .i64 0, .int .i64 0, .int .i64 0]) 4 32 Try.underlying52 hi2 hw0 hw1 hw2 rfl (by decide) (.slice ao f.code.length cp) f.code.length (insL f.code) rfl (hO.row 4 rfl) #[.int .i64 y.1, .int .i64 y.2.1, .int .i64 y.2.2.1, .int .i64 y.2.2.2] _ 1 _ rfl rfl rfl (by simp [Value.oneCell']) (by unfold maxLen; omega) (by omega) ?_
  intro ao2 cap2 u1 hr ht hf
  have hO2 := hO.move 4 rfl (Moves.of_append hr ht hf)
  clear hO1 hL hr ht hf
  refine wpList_nil ⟨rfl, ⟨(hO2.cget 3 rfl 0).1, (hO2.cget 3 rfl 0).2, (hO2.cget 0 rfl 0).1, (hO2.cget 0 rfl 1).1, (hO2.cget 0 rfl 2).1, (hO2.cget 0 rfl 3).1⟩, fun hHeld => ?_⟩
  try simp only [Act.put, List.setIfInBounds_toArray, List.set_cons_zero, List.set_cons_succ]
  refine lz_take (v := ?_) (by kernel_rfl) (by kernel_rfl) (by kernel_rfl) (fun _ _ _ h => h) (Or.inl ⟨by rfl, ?_⟩) (by assumption) ?_; (rotate_left; (intro wS hSw; (try dsimp only at hSw); go_simp; (try with_reducible rfl)); rotate_left); simp only [Act.put, List.setIfInBounds_toArray, List.set_cons_zero, List.set_cons_succ]
  refine lz_take (v := ?_) (by kernel_rfl) (by kernel_rfl) (by kernel_rfl) (fun _ _ _ h => h) (Or.inl ⟨by rfl, ?_⟩) (by assumption) ?_; (rotate_left; (intro wS hSw; (try dsimp only at hSw); go_simp; (try with_reducible rfl)); rotate_left); simp only [Act.put, List.setIfInBounds_toArray, List.set_cons_zero, List.set_cons_succ]
  have z2 := (hO2.cget 3 rfl 0).1
  have z3 := (hO2.cget 3 rfl 0).2
  refine lz_sole (by kernel_rfl) (fun K hK => ?_)
  go_simp
  have hO3 := hO2.cset 3 rfl 0 (.slice ao2 (f.code.length + 1) cap2)
  refine hK.out _ _ (.inl rfl) (fun hHeld => ?_)
  try simp only [Act.put, List.setIfInBounds_toArray, List.set_cons_zero, List.set_cons_succ]
  clear hK hHeld z2 z3
  refine lz_done (by kernel_rfl) ?_
  clear hO hO2
  go_wp2_with fail
  go_end0
  refine ⟨rfl, ?_⟩
  have hE : Own w0 _ (bldC bb mem lv :: bldR lv (Ms ++ [(⟨x.fb, .slice ao f.code.length cp, x.mb, .slice aj f.jumps.length cj⟩, f)]) :: (fnP ⟨x.fb, .slice ao2 (f.code.length + 1) cap2, x.mb, .slice aj2 (f.jumps.length + 1) cj2⟩ ⟨f.code ++ [y], f.labels, f.jumps ++ [(f.code.length, nm)]⟩ ++ (fnAll Ms ++ l))) :=
    (hO3.sub (List.sublist_cons_self _ _)).cast (by simp [fnP, fnC, insL_app, insL_one, insC, jmpL_app, jmpL])
  exact bld_back (x := ⟨x.fb, .slice ao f.code.length cp, x.mb, .slice aj f.jumps.length cj⟩) (x' := ⟨x.fb, .slice ao2 (f.code.length + 1) cap2, x.mb, .slice aj2 (f.jumps.length + 1) cj2⟩) rfl hE
end
end Go.Proofs.Ytboiogjklecpaaa
