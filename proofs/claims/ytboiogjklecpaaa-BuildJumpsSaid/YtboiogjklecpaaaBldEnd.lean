/- Package build: End. -/
import Derived.Test.YtboiogjklecpaaaBldDone
import Derived.Test.YtboiogjklecpaaaPgmCheck
set_option linter.unusedVariables false
set_option linter.unusedSimpArgs false
namespace Go.Proofs.Ytboiogjklecpaaa
open Go.RowKit
set_option maxRecDepth 100000
set_option maxHeartbeats 8000000
def EPost (w : World) (R : Int × List (List I4) × Int) (e : Ending) (w' : World) : Prop :=
  ∃ ao c, e = .returned (.tuple #[.agg #[.int .i64 R.1, .slice ao R.2.1.length c], .int .i64 R.2.2]) ∧ LiesF w' ao c R.2.1 ∧ Below w.heap.size w w'
theorem LiesF.none_ (w : World) : LiesF w none 0 [] := ⟨by simp, by simp [maxLen], fun _ => rfl, fun i l h => by simp at h⟩
theorem epost_err {w w' : World} {R : Int × List (List I4) × Int} {E : Int} (h : R = (0, [], E)) (hb : Below w.heap.size w w') : EPost w R (.returned (.tuple #[.agg #[.int .i64 0, .slice none 0 0], .int .i64 E])) w' := by
  subst h
  exact ⟨none, 0, rfl, LiesF.none_ _, hb⟩
theorem allB_cons (f : BF) (fs : List BF) : allB (f :: fs) = match doneB f with
    | none => none
    | some c => (allB fs).map (c :: ·) := rfl
/-- What a function is, wherever it lies, stays while only new memory is made. -/
structure FnAt (w : World) (x : FM) (f : BF) : Prop where
  C : (fnC x).hold w
  R : Row w 30 4 x.cv f.code.length (insL f.code)
  M : (mapA x.mb f.labels).hold w
  J : Row w 108 2 x.jv f.jumps.length (jmpL f.jumps)
theorem FnAt.below {w w' : World} {x : FM} {f : BF} (h : FnAt w x f) (hb : Below w.heap.size w w') : FnAt w' x f :=
  ⟨(fnC x).loc h.C fun k hk => hb.block k ((fnC x).lt h.C k hk), h.R.same fun k hk => hb.block k (h.R.lt hk), (mapA x.mb f.labels).loc h.M fun k hk => hb.block k ((mapA x.mb f.labels).lt h.M k hk), h.J.same fun k hk => hb.block k (h.J.lt hk)⟩
structure FnOk (f : BF) : Prop where
  C : f.code.length ≤ 100000
  J : f.jumps.length ≤ 100000
  lt : ∀ p ∈ f.jumps, p.1 < f.code.length
  nm : ∀ p ∈ f.jumps, p.2.size ≤ maxLen
theorem fns_at {w0 w : World} {bb : Nat} {mem : Int} {lv : Value} {Ms : List (FM × BF)} {l : List Ast} (h : Own w0 w (bldC bb mem lv :: bldR lv Ms :: (fnAll Ms ++ l))) (p : FM × BF) (hp : p ∈ Ms) : FnAt w p.1 p.2 := by
  have hm : ∀ A ∈ fnP p.1 p.2, A.hold w := fun A hA => h.all A (List.mem_cons_of_mem _ (List.mem_cons_of_mem _ (List.mem_append_left _ (List.mem_flatMap.2 ⟨p, hp, hA⟩))))
  exact ⟨hm _ (by simp [fnP]), hm (rowA 30 4 p.1.cv p.2.code.length (insL p.2.code)) (by simp [fnP]), hm _ (by simp [fnP]), hm (rowA 108 2 p.1.jv p.2.jumps.length (jmpL p.2.jumps)) (by simp [fnP])⟩
def endL (rb nb pb : Nat) (mem : Int) (oa : Option Addr) (r oc : Nat) (ps : List Fn) : List Ast :=
  [cellsA rb #[.int .i64 0, .slice none 0 0] 42, cellsA nb #[.int .i64 0, .slice none 0 0] 42, cellsA pb #[.int .i64 mem, .slice oa r oc] 42, rowA 52 1 (.slice oa r oc) r (ps.map hdr), doneA ps]
theorem bend {w0 w : World} {bb : Nat} {mem : Int} {B : List BF} {l : List Ast} (hn : B.length ≤ 1000) (hok : ∀ f ∈ B, FnOk f) (h : BOwn w0 w bb mem B l) :
    Calls Try.prog 44 #[.pointer (some ⟨bb, 0, none⟩)] w (EPost w (endB mem B)) := by
  obtain ⟨i2, hi2, hq0, hq1, hq2⟩ := info_parts' Try.infoInsS
  obtain ⟨lv, Ms, rfl, hB⟩ := h
  rw [List.length_map] at hn
  have FN := Lib.hid (fun (p : FM × BF) (hp : p ∈ Ms) => fns_at hB p hp)
  replace hok := Lib.hid hok
  obtain ⟨av, cv, hlv, b1, b2, _⟩ := (hB.row 1 rfl).shape
  subst hlv
  unfold maxLen at b2
  have x0 := (hB.cget 0 rfl 0).1
  have x1 := (hB.cget 0 rfl 1).1
  simp at x0 x1
  have RW := Lib.hid (fun (i : Nat) (p : FM × BF) (hp : Ms[i]? = some p) => show ∃ g off, av = some ⟨g, off, none⟩ ∧ w.cell? ⟨g, off + i, none⟩ = some (fptr p) from by
    have hi := (List.getElem?_eq_some_iff.1 hp).1
    obtain ⟨g, off, cap, hv, _, _, hc, _⟩ := (hB.row 1 rfl).addr (by omega)
    simp only [Value.slice.injEq] at hv
    obtain ⟨rfl, _, rfl⟩ := hv
    exact ⟨g, off, rfl, by rw [hc _ (by omega), List.getElem?_map, hp]; rfl⟩)
  clear hB
  have hw0 := Lib.hid x0
  have hw1 := Lib.hid x1
  have hO := ((Own.nil (Below.refl _ w)).box #[.int .i64 0, .slice none 0 0] 42).box #[.int .i64 0, .slice none 0 0] 42
  have y0 : ((w.alloc (.cells #[.int .i64 0, .slice none 0 0] 42)).alloc (.cells #[.int .i64 0, .slice none 0 0] 42)).cell? ⟨bb, 0, none⟩ = some (.int .i64 mem) := hO.old x0
  have hO := hO.box #[.int .i64 mem, .slice none 0 0] 42
  have y1 : (((w.alloc (.cells #[.int .i64 0, .slice none 0 0] 42)).alloc (.cells #[.int .i64 0, .slice none 0 0] 42)).alloc (.cells #[.int .i64 mem, .slice none 0 0] 42)).cell? ⟨bb, 1, none⟩ = some (.slice av Ms.length cv) := hO.old x1
  have hO := (hO.push (Below.refl _ _) (rowA 52 1 (.slice none 0 0) 0 (([] : List Fn).map hdr)) (Row.nil _ _ _) (by rintro k ⟨⟩)).noneDone
  simp only [List.append_assoc, List.cons_append, List.nil_append, World.size_alloc] at hO
  go_enter Try.func44, Try.ntmps44
  go_wp2_with fail
  obtain ⟨rb, hrb⟩ : ∃ rb, w.heap.size = rb := ⟨_, rfl⟩
  generalize ((w.alloc (.cells #[.int .i64 0, .slice none 0 0] 42)).alloc (.cells #[.int .i64 0, .slice none 0 0] 42)).alloc (.cells #[.int .i64 mem, .slice none 0 0] 42) = u at *
  simp only [hrb, Nat.add_assoc, Nat.reduceAdd] at hO ⊢
  generalize rb + 1 = nb at *
  generalize rb + 2 = pb at *
  clear hrb x0 x1 y0 y1
  go_loopw [24] (fun i wr => ∃ (r : Nat) (ps : List Fn) (oa : Option Addr) (oc : Nat), r ≤ Ms.length ∧ i = .int .i64 r ∧ ps.length = r ∧ Hid (allB (Ms.map (·.2)) = preE (ps.map (·.2)) (allB ((Ms.drop r).map (·.2)))) ∧ Own w wr (endL rb nb pb mem oa r oc ps)) (fun i _ => (Ms.length - intOf i).toNat)
  case atStart => exact ⟨0, [], none, 0, by omega, rfl, rfl, Lib.hid (by unfold preE; simp), hO⟩
  case round =>
    clear hO
    obtain ⟨r, ps, oa, oc, hr, rfl, hpl, hI, hO⟩ := hrel
    have n0 := (cells2f 1 hO rfl).1
    have n1 := (cells2f 1 hO rfl).2
    obtain ⟨n0, -⟩ := n0
    obtain ⟨n1, -⟩ := n1
    obtain ⟨⟨z0, -⟩, z1, z2⟩ := cells2f 2 hO rfl
    obtain ⟨⟨q0, q1⟩, q2, q3⟩ := cells2f 0 hO rfl
    by_cases hlt : r < Ms.length
    · obtain ⟨⟨x, f⟩, hp⟩ : ∃ p, Ms[r]? = some p := ⟨_, List.getElem?_eq_getElem hlt⟩
      have hmem := List.mem_of_getElem? hp
      have hfa := (FN.out _ hmem).below hO.below
      obtain ⟨k1, k2, k3, k4⟩ := hok.out f (List.mem_map.2 ⟨_, hmem, rfl⟩)
      have DN := Lib.hid (bdone hfa.C hfa.R hfa.M hfa.J k1 k2 k3 k4)
      obtain ⟨g, off, rfl, y0⟩ := RW.out _ _ hp
      replace y0 := hO.old y0
      unfold fptr at y0
      have hdr0 := Lib.hid (show allB (Ms.map (·.2)) = preE (ps.map (·.2)) (allB (f :: (Ms.drop (r + 1)).map (·.2))) by rw [hI.out, List.drop_eq_getElem_cons hlt, (List.getElem?_eq_some_iff.1 hp).2]; rfl)
      clear hmem hfa k1 k2 k3 k4 hp hI
      dsimp only at y0 DN
      cases hdf : doneB f with
      | none =>
        have hR := Lib.hid (show endB mem (Ms.map (·.2)) = (0, [], 7) by unfold endB; rw [hdr0.out, allB_cons, hdf]; rfl)
        clear hdr0
        replace DN := Lib.hid (DN.out.mono (fun e w' (hh : (doneB f = none ∧ e = .returned (.tuple #[.slice none 0 0, .int .i64 7]) ∧ Below wr.heap.size wr w') ∨ (∃ (l : List I4) (ao : Option Addr) (c : Nat), doneB f = some l ∧ l.length = f.code.length ∧ e = .returned (.tuple #[.slice ao l.length c, .int .i64 0]) ∧ Own wr w' [rowA 30 4 (.slice ao l.length c) l.length (insL l)])) => show e = .returned (.tuple #[.slice none 0 0, .int .i64 7]) ∧ Below wr.heap.size wr w' from by
          rcases hh with ⟨_, h1, h2⟩ | ⟨l, ao, c, h1, _⟩
          · exact ⟨h1, h2⟩
          · rw [hdf] at h1; cases h1))
        clear hdf
        go_wp2_with (go_at_call 70; refine DN.out.mono ?_; rintro e w2 ⟨rfl, hb2⟩; replace hO := hO.grow hb2; obtain ⟨⟨n0, -⟩, n1, -⟩ := cells2f 1 hO rfl; obtain ⟨⟨q0, q1⟩, q2, q3⟩ := cells2f 0 hO rfl)
        have hO6 := (hO.cset 0 rfl 0 (.int .i64 0)).cset 0 rfl 1 (.slice none 0 0)
        generalize (w2.setCell ⟨rb, 0, none⟩ (.int .i64 0)).setCell ⟨rb, 1, none⟩ (.slice none 0 0) = wz at *
        obtain ⟨⟨p0, -⟩, p1, -⟩ := cells2f 0 hO6 rfl
        exact bodyPost_ret (v := .tuple #[.agg #[.int .i64 0, .slice none 0 0], .int .i64 7]) (by simp [results, Try.results44, go_sem, p0, p1]) rfl (epost_err hR.out hO6.below)
      | some l' =>
        replace DN := Lib.hid (DN.out.mono (fun e w' (hh : (doneB f = none ∧ e = .returned (.tuple #[.slice none 0 0, .int .i64 7]) ∧ Below wr.heap.size wr w') ∨ (∃ (l : List I4) (ao : Option Addr) (c : Nat), doneB f = some l ∧ l.length = f.code.length ∧ e = .returned (.tuple #[.slice ao l.length c, .int .i64 0]) ∧ Own wr w' [rowA 30 4 (.slice ao l.length c) l.length (insL l)])) => show ∃ (ao : Option Addr) (c : Nat), e = .returned (.tuple #[.slice ao l'.length c, .int .i64 0]) ∧ Own wr w' [rowA 30 4 (.slice ao l'.length c) l'.length (insL l')] from by
          rcases hh with ⟨h1, _⟩ | ⟨l, ao, c, h1, _, h2, h3⟩
          · rw [hdf] at h1; cases h1
          · rw [hdf] at h1; cases h1; exact ⟨ao, c, h2, h3⟩))
        have hI2 := Lib.hid (show allB (Ms.map (·.2)) = preE (ps.map (·.2) ++ [l']) (allB ((Ms.drop (r + 1)).map (·.2))) by rw [hdr0.out, allB_cons, hdf, preE_snoc])
        clear hdr0 hdf
        have HE := Lib.hid (fun (la : Option Addr) (lc : Nat) (w2 w3 : World) (ao2 : Option Addr) (cap2 : Nat) (hO2 : Own w w2 (endL rb nb pb mem oa r oc ps ++ [rowA 30 4 (hdr ((la, lc), l')) l'.length (insL l')])) (hr : Row w3 52 1 (.slice ao2 (r + 1) cap2) (r + 1) (ps.map hdr ++ [.slice la l'.length lc])) (ht : Touch (fun k => Value.ownBlock (.slice oa r oc) = some k) w2 w3) (hf : ∀ k, Value.ownBlock (.slice ao2 (r + 1) cap2) = some k → Value.ownBlock (.slice oa r oc) = some k ∨ w2.heap.size ≤ k) =>
          show (∃ v, w3.cell? ⟨pb, 1, none⟩ = some v) ∧ w3.frozen? ⟨pb, 1, none⟩ = false ∧ Own w (w3.setCell ⟨pb, 1, none⟩ (.slice ao2 (r + 1) cap2)) (endL rb nb pb mem ao2 (r + 1) cap2 (ps ++ [((la, lc), l')])) from by
            have h1 := hO2.move 3 rfl (Moves.of_append hr ht hf)
            have h2 := h1.cset 2 rfl 1 (.slice ao2 (r + 1) cap2)
            have h3 : Own w _ ([cellsA rb #[.int .i64 0, .slice none 0 0] 42, cellsA nb #[.int .i64 0, .slice none 0 0] 42, cellsA pb #[.int .i64 mem, .slice ao2 (r + 1) cap2] 42, rowA 52 1 (.slice ao2 (r + 1) cap2) (r + 1) (ps.map hdr ++ [.slice la l'.length lc])] ++ [doneA ps, rowA 30 4 (hdr ((la, lc), l')) l'.length (insL l')]) := h2
            exact ⟨⟨_, (h1.cget 2 rfl 1).1⟩, (h1.cget 2 rfl 1).2, h3.finish.cast (by simp [endL, hdr])⟩)
        have hrow := Lib.hid (fun (w2 : World) (hb : Below wr.heap.size wr w2) => show Row w2 52 1 (.slice oa r oc) r (ps.map hdr) from (hO.grow hb).row 3 rfl)
        have HP := Lib.hid (fun (la : Option Addr) (lc : Nat) (w2 : World) (h2 : Own wr w2 [rowA 30 4 (.slice la l'.length lc) l'.length (insL l')]) => show Own w w2 (endL rb nb pb mem oa r oc ps ++ [rowA 30 4 (hdr ((la, lc), l')) l'.length (insL l')]) from hO.push h2.below (rowA 30 4 (hdr ((la, lc), l')) l'.length (insL l')) (h2.at 0 rfl) (h2.own _ (by simp [hdr])))
        have ZC := Lib.hid (fun (w2 : World) (hb : Below wr.heap.size wr w2) => show w2.cell? ⟨pb, 1, none⟩ = some (.slice oa r oc) from ((hO.grow hb).cget 2 rfl 1).1)
        clear n0 n1 q0 q1 q2 q3
        go_wp2_with (first | (go_at_call 70; refine DN.out.mono ?_; rintro e w2 ⟨la, lc, rfl, h2⟩; have hb2 := h2.below; have hOw := Lib.hid (HP.out _ _ _ h2); have hz := ZC.out _ hb2; have hrw := hrow.out _ hb2; clear h2 z0 z1 z2) | (at_builtin; refine wpList_append_lit' _ rfl _ _ 40 rfl 52 i2 (.slice none 0 0) 1 24 Try.underlying40 hi2 hq0 hq1 hq2 rfl (by decide) (.slice oa r oc) r (ps.map hdr) rfl hrw #[.slice la l'.length lc] _ 1 _ rfl rfl rfl (by simp [Value.oneCell']) (by unfold maxLen; omega) (by omega) ?_; intro ao2 cap2 w3 hr3 ht3 hf3; obtain ⟨⟨v, y5⟩, y6, hOn⟩ := HE.out _ _ _ _ _ _ hOw.out hr3 ht3 hf3; replace hOn := Lib.hid hOn))
        go_round
        case rel => exact ⟨r + 1, ps ++ [((la, lc), l')], ao2, cap2, by omega, by go_num, by simp [hpl], Lib.hid (by rw [hI2.out]; simp), hOn.out⟩
        case measure => simp [intOf]; omega
    · obtain rfl : r = Ms.length := by omega
      have hE := Lib.hid (show allB (Ms.map (·.2)) = some (ps.map (·.2)) by rw [hI.out, List.drop_length]; simp [preE, allB])
      clear hI
      have hL := liesF_of (hO.row 3 rfl) (hO.at 4 rfl) hpl.symm
      have eL : (ps.map (·.2)).length = Ms.length := by simp [hpl]
      have CK := Lib.hid (pcheck_any mem (ps.map (·.2)) oa oc wr hL)
      rw [eL] at CK
      by_cases hck : checkP mem (ps.map (·.2)) = 0
      · have hR := Lib.hid (show endB mem (Ms.map (·.2)) = (mem, ps.map (·.2), 0) by unfold endB; rw [hE.out]; dsimp only; rw [if_neg (by rw [hck]; simp)])
        rw [hck] at CK
        clear hE hck hL
        go_wp2_with (go_at_call 33; refine CK.out.mono ?_; rintro e w2 ⟨rfl, hb2⟩; replace hO := hO.grow hb2; obtain ⟨⟨z0, -⟩, z1, -⟩ := cells2f 2 hO rfl; obtain ⟨⟨q0, q1⟩, q2, q3⟩ := cells2f 0 hO rfl)
        have hO6 := (hO.cset 0 rfl 0 (.int .i64 mem)).cset 0 rfl 1 (.slice oa Ms.length oc)
        generalize (w2.setCell ⟨rb, 0, none⟩ (.int .i64 mem)).setCell ⟨rb, 1, none⟩ (.slice oa Ms.length oc) = wz at *
        obtain ⟨⟨p0, -⟩, p1, -⟩ := cells2f 0 hO6 rfl
        refine bodyPost_ret (v := .tuple #[.agg #[.int .i64 mem, .slice oa Ms.length oc], .int .i64 0]) (by simp [results, Try.results44, go_sem, p0, p1]) rfl ?_
        rw [hR.out]
        exact ⟨oa, oc, by rw [eL], liesF_of (hO6.row 3 rfl) (hO6.at 4 rfl) hpl.symm, hO6.below⟩
      · have hR := Lib.hid (show endB mem (Ms.map (·.2)) = (0, [], checkP mem (ps.map (·.2))) by unfold endB; rw [hE.out]; dsimp only; rw [if_pos hck])
        generalize checkP mem (ps.map (·.2)) = E at *
        have hck' : (E == 0) = false := by simpa using hck
        clear hE hL
        go_wp2_with (go_at_call 33; refine CK.out.mono ?_; rintro e w2 ⟨rfl, hb2⟩; replace hO := hO.grow hb2; obtain ⟨⟨n0, -⟩, n1, -⟩ := cells2f 1 hO rfl; obtain ⟨⟨q0, q1⟩, q2, q3⟩ := cells2f 0 hO rfl)
        have hO6 := (hO.cset 0 rfl 0 (.int .i64 0)).cset 0 rfl 1 (.slice none 0 0)
        generalize (w2.setCell ⟨rb, 0, none⟩ (.int .i64 0)).setCell ⟨rb, 1, none⟩ (.slice none 0 0) = wz at *
        obtain ⟨⟨p0, -⟩, p1, -⟩ := cells2f 0 hO6 rfl
        exact bodyPost_ret (v := .tuple #[.agg #[.int .i64 0, .slice none 0 0], .int .i64 E]) (by simp [results, Try.results44, go_sem, p0, p1]) rfl (epost_err hR.out hO6.below)
theorem bend_nil (w : World) : Calls Try.prog 44 #[.pointer none] w (EPost w (0, [], 8)) := by
  have hO := ((Own.nil (Below.refl _ w)).box #[.int .i64 0, .slice none 0 0] 42).box #[.int .i64 0, .slice none 0 0] 42
  simp only [List.cons_append, List.nil_append, World.size_alloc] at hO
  go_enter Try.func44, Try.ntmps44
  go_wp2_with fail
  obtain ⟨rb, hrb⟩ : ∃ rb, w.heap.size = rb := ⟨_, rfl⟩
  simp only [hrb] at hO ⊢
  generalize (w.alloc (.cells #[.int .i64 0, .slice none 0 0] 42)).alloc (.cells #[.int .i64 0, .slice none 0 0] 42) = u at *
  generalize rb + 1 = nb at *
  obtain ⟨⟨p0, -⟩, p1, -⟩ := cells2f 0 hO rfl
  exact bodyPost_ret (v := .tuple #[.agg #[.int .i64 0, .slice none 0 0], .int .i64 8]) (by simp [results, Try.results44, go_sem, p0, p1]) rfl (epost_err rfl hO.below)
end Go.Proofs.Ytboiogjklecpaaa
