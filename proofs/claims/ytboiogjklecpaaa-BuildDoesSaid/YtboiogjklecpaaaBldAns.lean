/- Package build: what each step answers, by the document. -/
import Derived.Test.YtboiogjklecpaaaBldPlace
import Derived.Deep.Cut
import Derived.Deep.CutRange
import Derived.Deep.CutBlock
set_option linter.unusedVariables false
set_option linter.unusedSimpArgs false
namespace Go.Proofs.Ytboiogjklecpaaa
open Go.RowKit
set_option maxRecDepth 100000
set_option maxHeartbeats 4000000
theorem Try.infoStrA : (Try.prog.info? 9).map (fun i => (i.zero, i.size, i.bytes)) = some (some (.string ⟨#[]⟩), 1, 16) := by kernel_rfl
theorem Try.infoIntA : (Try.prog.info? 3).map (fun i => (i.zero, i.size, i.bytes)) = some (some (.int .i64 0), 1, 8) := by kernel_rfl
theorem hasN_succ {L : List ByteArray} {k : Nat} {n x : ByteArray} (h : L[k]? = some x) : hasN (L.take (k + 1)) n = (hasN (L.take k) n || decide (x = n)) := by
  unfold hasN
  have hl := (List.getElem?_eq_some_iff.1 h).1
  rw [List.take_succ_eq_append_getElem hl, List.any_append, (List.getElem?_eq_some_iff.1 h).2]
  simp
/-- What stands behind a step: its answer is the next one. -/
structure Nx (os : List BO) (r : Nat) (n : Int) (F C : Nat) (L : List ByteArray) : Prop where
  ans : ansT os (r + 1) = ansT os r ++ [n]
  F : (bld (os.take (r + 1))).length = F
  C : (lastB (bld (os.take (r + 1)))).code.length = C
  L : namesB (bld (os.take (r + 1))) = L
structure At (os : List BO) (r : Nat) (F C : Nat) (L : List ByteArray) : Prop where
  F : (bld (os.take r)).length = F
  C : (lastB (bld (os.take r))).code.length = C
  L : namesB (bld (os.take r)) = L
section
variable {os : List BO} {r F C : Nat} {L : List ByteArray}
theorem nx_new (h : At os r F C L) (hr : r < os.length) (k : (os.getD r dfO).kind = 0) : Nx os r F (F + 1) 0 [] := by
  obtain ⟨a1, a2, a3⟩ := ref_new (bld (os.take r)) k
  have hb := bld_take hr
  refine ⟨by rw [ansT_succ, a1, h.F], by rw [hb, a2, h.F], by rw [hb, a3]; rfl, by rw [hb]; unfold namesB; rw [a3]; rfl⟩
theorem nx_none (h : At os r F C L) (hr : r < os.length) (k : ¬ (os.getD r dfO).kind = 0) (hF : F = 0) : Nx os r (if (os.getD r dfO).kind = 1 then -1 else if (os.getD r dfO).kind = 2 then -4 else 0) F C L := by
  obtain ⟨a1, a2⟩ := ref_none k (h.F.trans hF)
  have hb := (bld_take hr).trans a2
  exact ⟨by rw [ansT_succ, a1], by rw [hb]; exact h.F, by rw [hb]; exact h.C, by rw [hb]; exact h.L⟩
theorem nx_some (h : At os r F C L) (hr : r < os.length) (k : ¬ (os.getD r dfO).kind = 0) (hF : ¬ F = 0) {n : Int} {C' : Nat} {L' : List ByteArray}
    (hn : (if (os.getD r dfO).kind = 1 then (C : Int) + 1 else if (os.getD r dfO).kind = 2 then (if hasN L (os.getD r dfO).name = true then -3 else -2) else 0) = n)
    (hC : ((lastB (bld (os.take r))).step (os.getD r dfO)).code.length = C') (hL : ((lastB (bld (os.take r))).step (os.getD r dfO)).labels.map (·.1) = L') : Nx os r n F C' L' := by
  obtain ⟨a1, a2, a3⟩ := ref_some k (by rw [h.F]; exact hF)
  have hb := bld_take hr
  refine ⟨by rw [ansT_succ, a1, h.C, h.L, hn], by rw [hb, a2, h.F], by rw [hb, a3, hC], by rw [hb]; unfold namesB; rw [a3, hL]⟩
theorem nx_add (h : At os r F C L) (hr : r < os.length) (k : (os.getD r dfO).kind = 1) (hF : ¬ F = 0) : Nx os r ((C : Int) + 1) F (C + 1) L :=
  nx_some h hr (by omega) hF (by rw [if_pos k]) (by rw [step_add k]; simp [h.C]) (by rw [step_add k]; exact h.L)
theorem nx_twice (h : At os r F C L) (hr : r < os.length) (k : (os.getD r dfO).kind = 2) (hF : ¬ F = 0) (ht : hasN L (os.getD r dfO).name = true) : Nx os r (-3) F C L := by
  have e : (lookB (lastB (bld (os.take r))).labels (os.getD r dfO).name).isSome = true := by rw [look_names]; show hasN (namesB (bld (os.take r))) _ = _; rw [h.L]; exact ht
  exact nx_some h hr (by omega) hF (by rw [if_neg (by omega), if_pos k, if_pos ht]) (by rw [step_twice k e]; exact h.C) (by rw [step_twice k e]; exact h.L)
theorem nx_label (h : At os r F C L) (hr : r < os.length) (k : (os.getD r dfO).kind = 2) (hF : ¬ F = 0) (ht : hasN L (os.getD r dfO).name = false) : Nx os r (-2) F C (L ++ [(os.getD r dfO).name]) := by
  have e : lookB (lastB (bld (os.take r))).labels (os.getD r dfO).name = none := by
    have : (lookB (lastB (bld (os.take r))).labels (os.getD r dfO).name).isSome = false := by rw [look_names]; show hasN (namesB (bld (os.take r))) _ = _; rw [h.L]; exact ht
    simpa using this
  exact nx_some h hr (by omega) hF (by rw [if_neg (by omega), if_pos k, if_neg (by rw [ht]; decide)]) (by rw [step_label k e]; exact h.C) (by rw [step_label k e]; simp only [List.map_append]; exact congrArg (· ++ [(os.getD r dfO).name]) h.L)
theorem nx_jump (h : At os r F C L) (hr : r < os.length) (k0 : ¬ (os.getD r dfO).kind = 0) (k1 : ¬ (os.getD r dfO).kind = 1) (k2 : ¬ (os.getD r dfO).kind = 2) (hF : ¬ F = 0) : Nx os r 0 F (C + 1) L := by
  refine nx_some h hr k0 hF (by rw [if_neg k1, if_neg k2]) ?_ ?_
  · unfold BF.step; rw [if_neg k1, if_neg k2]; split <;> simp [h.C]
  · unfold BF.step; rw [if_neg k1, if_neg k2]; split <;> exact h.L
theorem At.small (h : At os r F C L) : F ≤ r ∧ C ≤ r ∧ L.length ≤ r := by
  have h1 := bld_small (os.take r)
  have h2 := last_small (os.take r)
  have h3 : (os.take r).length ≤ r := List.length_take_le _ _
  refine ⟨by rw [← h.F]; exact Nat.le_trans h1.1 h3, by rw [← h.C]; exact Nat.le_trans h2.1 h3, by rw [← h.L]; unfold namesB; rw [List.length_map]; exact Nat.le_trans h2.2.1 h3⟩
end
theorem strL_get {L : List ByteArray} {q : Nat} {x : ByteArray} (h : L[q]? = some x) : (L.map Value.string)[q]? = some (.string x) := by rw [List.getElem?_map, h]; rfl
def aL (os : List BO) (r : Nat) (oa : Option Addr) (oc : Nat) (la : Option Addr) (lc : Nat) (L : List ByteArray) : List Ast :=
  [rowA 3 1 (.slice oa r oc) r ((ansT os r).map (.int .i64)), rowA 9 1 (.slice la L.length lc) L.length (L.map .string)]
def oA (xb : Nat) (K : Int) (o : BO) : Ast := cellsA xb #[.int .i64 K, .int .i64 o.reg, .string o.name, .int .i64 o.x.1, .int .i64 o.x.2.1, .int .i64 o.x.2.2.1, .int .i64 o.x.2.2.2] 68
theorem rans_any (os : List BO) (hlen : os.length ≤ 300) (ao : Option Addr) (c : Nat) (w : World) (h : LiesO w ao c os) : Calls Try.prog 46 #[.slice ao os.length c] w fun e w' => ∃ oa oc, e = .returned (.slice oa os.length oc) ∧ Own w w' [rowA 3 1 (.slice oa os.length oc) os.length ((ansT os os.length).map (.int .i64))] := by
  obtain ⟨i1, hi1, hz0, hz1, hz2⟩ := info_parts' Try.infoStrA
  obtain ⟨i2, hi2, hw0, hw1, hw2⟩ := info_parts' Try.infoIntA
  have hm := h.2.1
  have hm0 := h.1
  unfold maxLen at hm
  replace h := Lib.hid h
  have hO0 : Own w w (aL os 0 none 0 none 0 []) := ((Own.nil (Below.refl _ w)).push (Below.refl _ _) (rowA 3 1 (.slice none 0 0) 0 []) (Row.nil _ _ _) (by rintro k ⟨⟩)).push (Below.refl _ _) (rowA 9 1 (.slice none 0 0) 0 []) (Row.nil _ _ _) (by rintro k ⟨⟩)
  go_enter Try.func46, Try.ntmps46
  go_wp2_with fail
  go_loopw [3, 4, 5, 6, 7] (fun vo vf vc vl i wr => ∃ (r F C : Nat) (L : List ByteArray) (oa la : Option Addr) (oc lc : Nat), r ≤ os.length ∧ i = .int .i64 r ∧ vf = .int .i64 F ∧ vc = .int .i64 C ∧ vo = .slice oa r oc ∧ vl = .slice la L.length lc ∧ Hid (At os r F C L) ∧ Own w wr (aL os r oa oc la lc L)) (fun _ _ _ _ i _ => (os.length - intOf i).toNat)
  case atStart => exact ⟨0, 0, 0, [], none, none, 0, 0, by omega, rfl, rfl, rfl, rfl, rfl, Lib.hid ⟨rfl, rfl, rfl⟩, hO0⟩
  case round =>
    clear hO0
    obtain ⟨r, F, C, L, oa, la, oc, lc, hr, rfl, rfl, rfl, rfl, rfl, hI, hO⟩ := hrel
    by_cases hlt : r < os.length
    · obtain ⟨g, off, rfl, s0, s1, s2, s3, s4, s5, s6⟩ := h.out.get hlt
      obtain ⟨hb1, hb2, hb3⟩ := hI.out.small
      obtain ⟨N1, N2⟩ : Hid (∀ k : (os.getD r dfO).kind = 0, Nx os r F (F + 1) 0 []) ∧ Hid ((¬ (os.getD r dfO).kind = 0) → F = 0 → Nx os r (if (os.getD r dfO).kind = 1 then -1 else if (os.getD r dfO).kind = 2 then -4 else 0) F C L) := ⟨Lib.hid fun k => nx_new hI.out hlt k, Lib.hid fun k hF => nx_none hI.out hlt k hF⟩
      have N3 := Lib.hid (fun (k : (os.getD r dfO).kind = 1) (hF : ¬ F = 0) => nx_add hI.out hlt k hF)
      have N4 := Lib.hid (fun (k : (os.getD r dfO).kind = 2) (hF : ¬ F = 0) (ht : hasN L (os.getD r dfO).name = true) => nx_twice hI.out hlt k hF ht)
      have N5 := Lib.hid (fun (k : (os.getD r dfO).kind = 2) (hF : ¬ F = 0) (ht : hasN L (os.getD r dfO).name = false) => nx_label hI.out hlt k hF ht)
      have N6 := Lib.hid (fun (k0 : ¬ (os.getD r dfO).kind = 0) (k1 : ¬ (os.getD r dfO).kind = 1) (k2 : ¬ (os.getD r dfO).kind = 2) (hF : ¬ F = 0) => nx_jump hI.out hlt k0 k1 k2 hF)
      clear hI
      generalize os.getD r dfO = o at *
      replace s0 := hO.old s0
      replace s1 := hO.old s1
      replace s2 := hO.old s2
      replace s3 := hO.old s3
      replace s4 := hO.old s4
      replace s5 := hO.old s5
      replace s6 := hO.old s6
      obtain ⟨K, hK⟩ : ∃ K : Int, (o.kind : Int) = K := ⟨_, rfl⟩
      rw [hK] at s0
      obtain ⟨xb, hxb⟩ : ∃ xb, wr.heap.size = xb := ⟨_, rfl⟩
      have hB : Own w _ (aL os r oa oc la lc L ++ [oA wr.heap.size K o]) := hO.box _ _
      rw [hxb] at hB
      go_upto_block 2 with fail
      generalize wr.alloc (.cells #[.int .i64 K, .int .i64 o.reg, .string o.name, .int .i64 o.x.1, .int .i64 o.x.2.1, .int .i64 o.x.2.2.1, .int .i64 o.x.2.2.2] 68) = u at *
      clear s0 s1 s2 s3 s4 s5 s6 hO hxb
      go_cut [4, 5, 6, 9, 10] from 11 to 83 (fun vf vc vl vn vk wx => ∃ (n : Int) (F' C' : Nat) (L' : List ByteArray) (la' : Option Addr) (lc' : Nat), vf = .int .i64 F' ∧ vc = .int .i64 C' ∧ vl = .slice la' L'.length lc' ∧ vn = .int .i64 n ∧ Hid (Nx os r n F' C' L') ∧ Own w wx (aL os r oa oc la' lc' L' ++ [oA xb K o]))
      case first =>
        have c0 : u.cell? ⟨xb, 0, none⟩ = some (.int .i64 K) := (hB.cget 2 rfl 0).1
        have c2 : u.cell? ⟨xb, 2, none⟩ = some (.string o.name) := (hB.cget 2 rfl 2).1
        have kF : (F : Int) ≤ 300 := by omega
        generalize hFi : (F : Int) = Fi at kF ⊢
        have kF0 : 0 ≤ Fi := by omega
        by_cases e0 : K = 0
        · subst e0
          have hN := Lib.hid (N1.out (by omega))
          clear N1 N2 N3 N4 N5 N6 hK
          go_wp2_with fail
          go_meet
          exact ⟨Fi, F + 1, 0, [], none, 0, by go_num, by first | rfl | trivial | go_num, by first | rfl | trivial | go_num, by first | rfl | trivial | go_num, Lib.hid (hFi ▸ hN.out), ((hB.sel [0, 2] (by decide)).push (Below.refl _ _) (rowA 9 1 (.slice none 0 0) 0 []) (Row.nil _ _ _) (by rintro k ⟨⟩)).pm (.cons _ (.swap _ _ _))⟩
        by_cases hF : Fi = 0
        · subst hF
          have hN := Lib.hid (N2.out (by omega) (by omega))
          clear N1 N2 N3 N4 N5 N6
          by_cases e1 : K = 1
          · subst e1
            rw [if_pos (show o.kind = 1 by omega)] at hN
            clear hK e0
            go_wp2_with fail
            go_meet
            exact ⟨-1, F, C, L, la, lc, by rw [hFi], by first | rfl | trivial | go_num, by first | rfl | trivial | go_num, by first | rfl | trivial | go_num, hN, hB⟩
          by_cases e2 : K = 2
          · subst e2
            rw [if_neg (show ¬ o.kind = 1 by omega), if_pos (show o.kind = 2 by omega)] at hN
            clear hK e0 e1
            go_wp2_with fail
            go_meet
            exact ⟨-4, F, C, L, la, lc, by rw [hFi], by first | rfl | trivial | go_num, by first | rfl | trivial | go_num, by first | rfl | trivial | go_num, hN, hB⟩
          · rw [if_neg (show ¬ o.kind = 1 by omega), if_neg (show ¬ o.kind = 2 by omega)] at hN
            clear hK
            go_wp2_with fail
            go_meet
            exact ⟨0, F, C, L, la, lc, by rw [hFi], by first | rfl | trivial | go_num, by first | rfl | trivial | go_num, by first | rfl | trivial | go_num, hN, hB⟩
        by_cases e1 : K = 1
        · subst e1
          have hN := Lib.hid (N3.out (by omega) (by omega))
          clear N1 N2 N3 N4 N5 N6 hK e0
          go_wp2_with fail
          go_meet
          exact ⟨(C : Int) + 1, F, C + 1, L, la, lc, by rw [hFi], by go_num, by first | rfl | trivial | go_num, by go_num, hN, hB⟩
        by_cases e2 : K = 2
        · subst e2
          have M4 := Lib.hid (N4.out (by omega) (by omega))
          have M5 := Lib.hid (N5.out (by omega) (by omega))
          clear N1 N2 N3 N4 N5 N6 hK e0 e1
          go_wp2_with fail
          go_loopw [9, 10] (fun vn vk wq => ∃ (q : Nat) (nn : Int), q ≤ L.length ∧ vk = .int .i64 q ∧ vn = .int .i64 nn ∧ Hid (nn = if hasN (L.take q) o.name = true then -3 else -2) ∧ Own w wq (aL os r oa oc la lc L ++ [oA xb 2 o])) (fun _ k _ => (L.length - intOf k).toNat)
          case atStart => exact ⟨0, -2, by omega, rfl, rfl, Lib.hid rfl, hB⟩
          case round =>
            clear hB c0 c2
            obtain ⟨q, nn, hq, rfl, rfl, hnn, hB⟩ := hrel
            by_cases hql : q < L.length
            · obtain ⟨x, hx⟩ : ∃ x, L[q]? = some x := ⟨_, List.getElem?_eq_getElem hql⟩
              have hsc := Lib.hid (hasN_succ (n := o.name) hx)
              have c2 : wr.cell? ⟨xb, 2, none⟩ = some (.string o.name) := (hB.cget 2 rfl 2).1
              obtain ⟨gl, ol, cap, hv, lb1, lb2, hcl, _⟩ := (hB.row 1 rfl).addr (by omega)
              simp only [Value.slice.injEq] at hv
              obtain ⟨rfl, _, rfl⟩ := hv
              unfold maxLen at lb2
              have y0 := (hcl q (by omega)).trans (strL_get hx)
              clear hcl hx
              have hB2 := fun n => hB.drewN n
              clear hB
              by_cases ex : x = o.name
              · have ex2 : (x.toList == o.name.toList) = true := by rw [ex]; simp
                have hR := Lib.hid (show (-3 : Int) = if hasN (L.take (q + 1)) o.name = true then -3 else -2 by rw [hsc.out, ex]; simp)
                clear hsc
                subst ex
                go_wp2_with fail
                go_quiet (fail)
                go_wp2_with fail
                go_round
                case rel => exact ⟨q + 1, -3, by omega, by first | rfl | trivial | go_num, by first | rfl | trivial | go_num, hR, hB2 _⟩
                case measure => simp [intOf]; omega
              · have ex2 := str_ne ex
                have hR := Lib.hid (show nn = if hasN (L.take (q + 1)) o.name = true then -3 else -2 by rw [hsc.out, hnn.out]; simp [ex])
                clear hsc
                go_wp2_with fail
                go_quiet (fail)
                go_wp2_with fail
                go_round
                case rel => exact ⟨q + 1, nn, by omega, by first | rfl | trivial | go_num, by first | rfl | trivial | go_num, hR, hB2 _⟩
                case measure => simp [intOf]; omega
            · obtain rfl : q = L.length := by omega
              have c2 : wr.cell? ⟨xb, 2, none⟩ = some (.string o.name) := (hB.cget 2 rfl 2).1
              rw [List.take_length] at hnn
              cases ht : hasN L o.name with
              | true =>
                rw [ht, if_pos rfl] at hnn
                obtain rfl := hnn.out
                have hN := Lib.hid (M4.out ht)
                clear M4 M5 ht
                go_wp2_with fail
                go_meet
                exact ⟨-3, F, C, L, la, lc, by rw [hFi], by first | rfl | trivial | go_num, by first | rfl | trivial | go_num, by first | rfl | trivial | go_num, hN, hB⟩
              | false =>
                rw [ht, if_neg (by decide)] at hnn
                obtain rfl := hnn.out
                have hN := Lib.hid (M5.out ht)
                clear M4 M5 ht
                have hrw : Row wr _ _ _ _ _ := hB.row 1 rfl
                go_wp2_with (at_builtin; refine wpList_append_lit' _ rfl _ _ 23 rfl 9 i1 (.string ⟨#[]⟩) 1 16 Try.underlying23 hi1 hz0 hz1 hz2 rfl (by decide) (.slice la L.length lc) L.length (L.map .string) rfl hrw #[.string o.name] _ 1 _ rfl rfl rfl (by simp [Value.oneCell']) (by unfold maxLen; omega) (by omega) ?_; intro la2 lc2 w3 hr3 ht3 hf3; have hO3 := hB.move 1 rfl (Moves.of_append hr3 ht3 hf3); clear hr3 ht3 hf3)
                go_meet
                exact ⟨-2, F, C, L ++ [o.name], la2, lc2, by rw [hFi], by first | rfl | trivial | go_num, by simp, by first | rfl | trivial | go_num, hN, hO3.cast (by simp [aL])⟩
        · have hN := Lib.hid (N6.out (by omega) (by omega) (by omega) (by omega))
          have hF2 : 0 < Fi := by omega
          clear N1 N2 N3 N4 N5 N6 hK
          go_wp2_with fail
          go_meet
          exact ⟨0, F, C + 1, L, la, lc, by rw [hFi], by go_num, by first | rfl | trivial | go_num, by first | rfl | trivial | go_num, hN, hB⟩
      case rest =>
        obtain ⟨n, F', C', L', la', lc', rfl, rfl, rfl, rfl, hN, hO⟩ := hcut
        have hrw : Row wc _ _ _ _ _ := hO.row 0 rfl
        go_wp2_with (at_builtin; refine wpList_append_lit' _ rfl _ _ 64 rfl 3 i2 (.int .i64 0) 1 8 Try.underlying64 hi2 hw0 hw1 hw2 rfl (by decide) (.slice oa r oc) r ((ansT os r).map (.int .i64)) rfl hrw #[.int .i64 n] _ 1 _ rfl rfl rfl (by simp [Value.oneCell']) (by unfold maxLen; omega) (by omega) ?_; intro oa2 oc2 w3 hr3 ht3 hf3; have hO3 := hO.move 0 rfl (Moves.of_append hr3 ht3 hf3); clear hr3 ht3 hf3)
        go_roundw
        case rel =>
          exact ⟨r + 1, F', C', L', oa2, la', oc2, lc', by omega, by go_num, rfl, rfl, rfl, rfl, Lib.hid ⟨hN.out.F, hN.out.C, hN.out.L⟩, (hO3.sel [0, 1] (by decide)).cast (by simp [aL, hN.out.ans])⟩
        case measure => simp [intOf]; omega
    · obtain rfl : r = os.length := by omega
      go_wp2
      go_ret
      exact ⟨oa, oc, rfl, Own.pop (l' := [_]) (l := [_]) hO⟩
end Go.Proofs.Ytboiogjklecpaaa
