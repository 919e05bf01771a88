/- Package build: the document's End. -/
import Derived.Test.YtboiogjklecpaaaBldEnd
import Derived.Test.YtboiogjklecpaaaBldPlace
import Derived.Test.YtboiogjklecpaaaPgmRCheck
import Derived.Deep.Cut
import Derived.Deep.CutRange
import Derived.Deep.CutBlock
set_option linter.unusedVariables false
set_option linter.unusedSimpArgs false
namespace Go.Proofs.Ytboiogjklecpaaa
open Go.RowKit
set_option maxRecDepth 100000
set_option maxHeartbeats 8000000
theorem preC_all (C : List I4) (lk : ByteArray → Option Nat) : preC C lk [] = some C := rfl
theorem refE_at {os : List BO} {r : Nat} (h : r < os.length) (hk : ¬ (os.getD r dfO).kind = 0) : refE (os.drop r) = refE (os.drop (r + 1)) := by
  rw [drop_at h dfO, refE_cons, if_neg hk]
theorem refE_new {os : List BO} {r : Nat} (h : r < os.length) (hk : (os.getD r dfO).kind = 0) : refE (os.drop r) = (match refC (placeB 0 (ownO (os.drop (r + 1)))) (ownO (os.drop (r + 1))) with
    | none => none
    | some c => (refE (os.drop (r + 1))).map (c :: ·)) := by
  rw [drop_at h dfO, refE_cons, if_pos hk]
  rfl
def insX (xb : Nat) (x : I4) : Ast := cellsA xb #[.int .i64 x.1, .int .i64 x.2.1, .int .i64 x.2.2.1, .int .i64 x.2.2.2] 30
def codeA (ca : Option Addr) (cc : Nat) (C : List I4) : Ast := rowA 30 4 (.slice ca C.length cc) C.length (insL C)
theorem rend (mem : Int) (os : List BO) (hlen : os.length ≤ 300) (hkd : ∀ o ∈ os, o.kind ≤ 4) (ao : Option Addr) (c : Nat) (w : World) (h : LiesO w ao c os) : Calls Try.prog 48 #[.int .i64 mem, .slice ao os.length c] w (EPost w (refEnd mem os)) := by
  obtain ⟨i1, hi1, hw0, hw1, hw2⟩ := info_parts' Try.infoIns
  obtain ⟨i2, hi2, hq0, hq1, hq2⟩ := info_parts' Try.infoInsS
  have hm := h.2.1
  have hm0 := h.1
  unfold maxLen at hm
  have hS7 := Lib.hid (fun (i : Nat) (hi : i < os.length) => h.get hi)
  have hCut := Lib.hid (fun (g off : Nat) (hao : ao = some ⟨g, off, none⟩) (a b : Nat) (hab : a ≤ b) (hb : b ≤ os.length) => show LiesO w (some ⟨g, off + a * 7, none⟩) (c - a) ((os.take b).drop a) from LiesO.cut (hao ▸ h) hab hb)
  clear h
  replace hkd := Lib.hid hkd
  have hO := (((Own.nil (Below.refl _ w)).box #[.int .i64 0, .slice none 0 0] 42).box #[.int .i64 0, .slice none 0 0] 42).box #[.int .i64 mem, .slice none 0 0] 42
  have hO := (hO.push (Below.refl _ _) (rowA 52 1 (.slice none 0 0) 0 (([] : List Fn).map hdr)) (Row.nil _ _ _) (by rintro k ⟨⟩)).noneDone
  simp only [List.append_assoc, List.cons_append, List.nil_append, World.size_alloc] at hO
  go_enter Try.func48, Try.ntmps48
  go_wp2_with fail
  obtain ⟨rb, hrb⟩ : ∃ rb, w.heap.size = rb := ⟨_, rfl⟩
  generalize ((w.alloc (.cells #[.int .i64 0, .slice none 0 0] 42)).alloc (.cells #[.int .i64 0, .slice none 0 0] 42)).alloc (.cells #[.int .i64 mem, .slice none 0 0] 42) = u at *
  simp only [hrb, Nat.add_assoc, Nat.reduceAdd] at hO ⊢
  generalize rb + 1 = nb at *
  generalize rb + 2 = pb at *
  clear hrb
  go_loopw [8] (fun i wr => ∃ (r N : Nat) (ps : List Fn) (oa : Option Addr) (oc : Nat), r ≤ os.length ∧ i = .int .i64 r ∧ ps.length = N ∧ N ≤ r ∧ Hid (refE os = preE (ps.map (·.2)) (refE (os.drop r))) ∧ Own w wr (endL rb nb pb mem oa N oc ps)) (fun i _ => (os.length - intOf i).toNat)
  case atStart => exact ⟨0, 0, [], none, 0, by omega, rfl, rfl, by omega, Lib.hid (by unfold preE; simp), hO⟩
  case round =>
    clear hO
    obtain ⟨r, N, ps, oa, oc, hr, rfl, hpl, hN, hI, hO⟩ := hrel
    by_cases hlt : r < os.length
    · obtain ⟨g, off, hao, s0, -⟩ := hS7.out r hlt
      by_cases hk : (os.getD r dfO).kind = 0
      · have hI2 := Lib.hid (hI.out.trans (congrArg _ (refE_new hlt hk)))
        replace s0 := hO.old s0
        rw [hk] at s0
        simp at s0
        clear hI hk
        subst hao
        go_upto_block 2 with fail
        clear s0
        generalize wr = wo at *
        go_cut [9] from 19 to 110 (fun vk wx => ∃ k : Nat, vk = .int .i64 k ∧ r + 1 ≤ k ∧ k ≤ os.length ∧ Hid ((os.take k).drop (r + 1) = ownO (os.drop (r + 1))) ∧ wx = wo)
        case first =>
          have hO' := Lib.hid hO
          clear hO
          go_wp2_with fail
          go_loopw [9] (fun vk wr => ∃ k : Nat, vk = .int .i64 k ∧ r + 1 ≤ k ∧ k ≤ os.length ∧ Hid (∀ m, r + 1 ≤ m → m < k → (os.getD m dfO).kind ≠ 0) ∧ wr = wo) (fun k _ => (os.length - intOf k).toNat)
          case atStart => exact ⟨r + 1, by first | rfl | trivial | go_num, by omega, by omega, Lib.hid (fun m h1 h2 => by omega), by first | rfl | trivial | go_num⟩
          case round =>
            obtain ⟨k, rfl, hk1, hk2, hz, rfl⟩ := hrel
            by_cases hkl : k < os.length
            · obtain ⟨g', off', hao, s0, -⟩ := hS7.out k hkl
              cases hao
              replace s0 := hO'.out.old s0
              by_cases hk0 : (os.getD k dfO).kind = 0
              · have hc := Lib.hid (ownO_cut os hk1 hk2 hz.out (.inr hk0))
                rw [hk0] at s0
                simp at s0
                clear hk0 hz
                go_wp2_with fail
                go_meet
                exact ⟨k, rfl, hk1, hk2, hc, rfl⟩
              · have hz2 := Lib.hid (show ∀ m, r + 1 ≤ m → m < k + 1 → (os.getD m dfO).kind ≠ 0 from fun m h1 h2 => by
                  by_cases e : m = k
                  · subst e; exact hk0
                  · exact hz.out m h1 (by omega))
                have hk3 : ¬ ((os.getD k dfO).kind : Int) = 0 := by omega
                clear hk0 hz
                generalize ((os.getD k dfO).kind : Int) = K at *
                go_wp2_with fail
                go_round
                case rel => exact ⟨k + 1, by first | rfl | trivial | go_num, by omega, by omega, hz2, by first | rfl | trivial | go_num⟩
                case measure => simp [intOf]; omega
            · obtain rfl : k = os.length := by omega
              have hc := Lib.hid (ownO_cut os hk1 hk2 hz.out (.inl rfl))
              go_wp2_with fail
              go_meet
              exact ⟨os.length, rfl, hk1, hk2, hc, rfl⟩
        case rest =>
          obtain ⟨k, rfl, hk1, hk2, hown, rfl⟩ := hcut
          obtain ⟨L, hL⟩ : ∃ L, (os.take k).drop (r + 1) = L := ⟨_, rfl⟩
          have hLO := hCut.out g off rfl (r + 1) k hk1 hk2
          have hll : k - (r + 1) = L.length := by rw [← hL, List.length_drop, List.length_take]; omega
          rw [hL] at hLO hown
          have hnz := Lib.hid (show ∀ o ∈ L, o.kind ≠ 0 ∧ o.kind ≤ 4 from fun o ho => ⟨own_nz _ o (hown.out ▸ ho), hkd.out o (by rw [← hL] at ho; exact List.mem_of_mem_take (List.mem_of_mem_drop ho))⟩)
          rw [← hown.out] at hI2
          clear hL hown
          have hLL : L.length ≤ 300 := by omega
          replace hLO := Lib.hid hLO
          have kk1 : (r : Int) + 1 ≤ (k : Int) := by omega
          have kk2 : (k : Int) ≤ (os.length : Int) := by omega
          have kk3 : (k : Int) ≤ (c : Int) := by omega
          have kk4 : (os.length : Int) ≤ (c : Int) := by omega
          have kk5 : IntKind.i64.wrap ((r : Int) + 1) = (r : Int) + 1 := IntWalk.i64_in _ (by omega)
          have kk6 : 0 ≤ (r : Int) + 1 := by omega
          obtain ⟨lk, hlk⟩ : ∃ lk, placeB 0 L = lk := ⟨_, rfl⟩
          go_upto_region 10 with fail
          go_cut [10] from 19 to 110 (fun v wx => ∃ (la : Option Addr) (lc : Nat), v = .slice la L.length lc ∧ Hid (LiesO w la lc L) ∧ wx = wc)
          case first =>
            by_cases hc0 : c - (r + 1) = 0
            · have hL0 : L.length = 0 := by omega
              have hz := Lib.hid (show LiesO w (some ⟨g, off, none⟩) 0 L from ⟨by omega, by simp [maxLen], by simp, fun i x hx => by rw [List.eq_nil_of_length_eq_zero hL0] at hx; simp at hx⟩)
              clear hLO
              go_wp2_with fail
              go_meet
              exact ⟨some ⟨g, off, none⟩, 0, by first | rfl | trivial | go_num, hz, by first | rfl | trivial | go_num⟩
            · go_wp2_with fail
              go_meet
              exact ⟨_, _, rfl, hLO, by first | rfl | trivial | go_num⟩
          case rest =>
          obtain ⟨la, lc, rfl, hLO, rfl⟩ := hcut
          have hl0 := hLO.out.1
          have hl1 := hLO.out.2.1
          unfold maxLen at hl1
          go_wp2_with fail
          have PC := Lib.hid (fun (nm : ByteArray) (w' : World) (hb : Below w.heap.size w w') => rplace_any L la lc nm w' (hLO.out.below hb))
          rw [hlk] at PC hI2
          have hO5 := hO.push (Below.refl _ _) (codeA none 0 []) (Row.nil _ _ _) (by rintro k ⟨⟩)
          clear kk1 kk2 kk3 kk4 kk5 kk6 hO hS7 hCut hkd hk1 hk2 hll hlk hm hm0
          go_loopw [11, 12] (fun vc vj wr => ∃ (q : Nat) (C : List I4) (ca : Option Addr) (cc : Nat), q ≤ L.length ∧ vj = .int .i64 q ∧ vc = .slice ca C.length cc ∧ Hid (refC lk L = preC C lk (L.drop q)) ∧ C.length ≤ q ∧ Own w wr (endL rb nb pb mem oa N oc ps ++ [codeA ca cc C])) (fun _ j _ => (L.length - intOf j).toNat)
          case atStart => exact ⟨0, [], none, 0, by omega, by first | rfl | trivial | go_num, by first | rfl | trivial | go_num, Lib.hid (by rw [List.drop_zero]; rfl), by simp, hO5⟩
          case round =>
          clear hO5
          obtain ⟨q, C, ca, cc, hq, rfl, rfl, hC, hCq, hO⟩ := hrel
          by_cases hql : q < L.length
          · replace hC := Lib.hid (hC.out.trans ((congrArg (preC C lk) (drop_at hql dfO)).trans (preC_cons _ _ _ _)))
            obtain ⟨g2, of2, rfl, t0, t1, t2, t3, t4, t5, t6⟩ := hLO.out.get hql
            have hk5 := hnz.out (L.getD q dfO) (List.mem_of_getElem? (getq hql dfO))
            generalize L.getD q dfO = o2 at *
            replace t0 := Lib.hid t0
            have s1 := hO.old t1
            have s2 := hO.old t2
            have s3 := hO.old t3
            have s4 := hO.old t4
            have s5 := hO.old t5
            have s6 := hO.old t6
            replace t1 := Lib.hid t1
            replace t2 := Lib.hid t2
            clear t3 t4 t5 t6
            obtain ⟨K, hK⟩ : ∃ K : Int, (o2.kind : Int) = K := ⟨_, rfl⟩
            rw [hK] at t0
            have s0 := hO.old t0.out
            have hql2 : (q : Int) < (L.length : Int) := by omega
            replace PC := Lib.hid (PC.out o2.name)
            go_upto_region 16 with fail
            have hB : Own w _ (endL rb nb pb mem oa N oc ps ++ [codeA ca cc C] ++ [insX wr.heap.size o2.x]) := hO.box _ _
            obtain ⟨xb, hxb⟩ : ∃ xb, wr.heap.size = xb := ⟨_, rfl⟩
            rw [hxb] at hB ⊢
            clear s0 s1 s2 s3 s4 s5 s6 hO
            generalize wr.alloc (.cells #[.int .i64 o2.x.1, .int .i64 o2.x.2.1, .int .i64 o2.x.2.2.1, .int .i64 o2.x.2.2.2] 30) = u2 at *
            have s0 := hB.old t0.out
            have s1 := hB.old t1.out
            have s2 := hB.old t2.out
            clear hxb
            have PC := Lib.hid (fun (w' : World) (hb : Below w.heap.size w w') => PC.out w' hb)
            rcases (show o2.kind = 1 ∨ o2.kind = 2 ∨ o2.kind = 3 ∨ o2.kind = 4 by omega) with hk | hk | hk | hk
            · obtain rfl : K = 1 := by omega
              have hC2 := Lib.hid (show refC lk L = preC (C ++ [o2.x]) lk (L.drop (q + 1)) by rw [hC.out]; unfold refOne; rw [if_pos hk])
              obtain ⟨⟨b0, f0⟩, ⟨b1, f1⟩, ⟨b2, f2⟩, b3, f3⟩ := cells4f 6 hB rfl
              have hrw : Row u2 _ _ _ _ _ := hB.row 5 rfl
              clear hC hk hK hk5
              go_wp2_with (first | (go_at_call 71; refine (PC.out _ hB.below).mono ?_; rintro e w2 ⟨rfl, rfl⟩) | (at_builtin; refine wpList_append_lit' _ rfl _ _ 52 rfl 30 i1 (.agg #[.int .i64 0, .int .i64 0, .int .i64 0, .int .i64 0]) 4 32 Try.underlying52 hi1 hw0 hw1 hw2 rfl (by decide) (.slice ca C.length cc) C.length (insL C) rfl hrw #[.int .i64 o2.x.1, .int .i64 o2.x.2.1, .int .i64 o2.x.2.2.1, .int .i64 o2.x.2.2.2] _ 1 _ rfl rfl rfl (by simp [Value.oneCell']) (by unfold maxLen; omega) (by omega) ?_; intro ca2 cc2 w3 hr3 ht3 hf3; have hO3 := hB.move 5 rfl (Moves.of_append hr3 ht3 hf3); clear hr3 ht3 hf3))
              go_round
              case rel => exact ⟨q + 1, C ++ [o2.x], ca2, cc2, by omega, by first | rfl | trivial | go_num, by simp, hC2, by simp; omega, (hO3.sel [0, 1, 2, 3, 4, 5] (by decide)).cast (by simp [endL, codeA, insL_app, insL_one, insC])⟩
              case measure => simp [intOf]; omega
            · obtain rfl : K = 2 := by omega
              have hC2 := Lib.hid (show refC lk L = preC C lk (L.drop (q + 1)) by rw [hC.out]; unfold refOne; rw [if_neg (by omega), if_pos hk]; dsimp only; rw [List.append_nil])
              clear hC hk hK hk5
              go_wp2_with (go_at_call 71; refine (PC.out _ hB.below).mono ?_; rintro e w2 ⟨rfl, rfl⟩)
              go_round
              case rel => exact ⟨q + 1, C, ca, cc, by omega, by first | rfl | trivial | go_num, by first | rfl | trivial | go_num, hC2, by omega, hB.pop⟩
              case measure => simp [intOf]; omega
            · obtain rfl : K = 3 := by omega
              have hR3 : refOne lk o2 = (lk o2.name).map (fun (n : Nat) => [((18 : Int), (n : Int), (0 : Int), (0 : Int))]) := by unfold refOne; rw [if_neg (by omega), if_neg (by omega), if_pos hk]
              replace hR3 := Lib.hid hR3
              clear hk hK hk5
              skip
              cases hln : lk o2.name with
              | none =>
                have hR := Lib.hid (show refEnd mem os = (0, [], 7) by unfold refEnd; rw [hI2.out, hC.out, hR3.out, hln]; rfl)
                have hpv : plc (lk o2.name) = -1 := by rw [hln]; rfl
                rw [hpv] at PC
                clear hpv hln hC
                obtain ⟨⟨n0, -⟩, n1, -⟩ := cells2f 1 hB rfl
                obtain ⟨⟨q0, q1⟩, q2, q3⟩ := cells2f 0 hB rfl
                obtain ⟨⟨b0, f0⟩, ⟨b1, f1⟩, ⟨b2, f2⟩, b3, f3⟩ := cells4f 6 hB rfl
                clear q0 q1 q2 q3 n0 n1
                go_upto_region 23 with (go_at_call 71; refine (PC.out _ hB.below).mono ?_; rintro e w2 ⟨rfl, rfl⟩)
                have hB := (((hB.cset 6 rfl 0 (.int .i64 18)).cset 6 rfl 1 (.int .i64 (-1))).cset 6 rfl 2 (.int .i64 0)).cset 6 rfl 3 (.int .i64 0)
                generalize (((u2.setCell ⟨xb, 0, none⟩ (.int .i64 18)).setCell ⟨xb, 1, none⟩ (.int .i64 (-1))).setCell ⟨xb, 2, none⟩ (.int .i64 0)).setCell ⟨xb, 3, none⟩ (.int .i64 0) = u3 at *
                obtain ⟨⟨n0, -⟩, n1, -⟩ := cells2f 1 hB rfl
                obtain ⟨⟨q0, q1⟩, q2, q3⟩ := cells2f 0 hB rfl
                have s0 : u3.cell? ⟨g2, of2 + q * 7, none⟩ = some (.int .i64 3) := hB.old t0.out
                clear b0 b1 b2 b3 f0 f1 f2 f3
                go_wp2_with fail
                have hO6 := (hB.cset 0 rfl 0 (.int .i64 0)).cset 0 rfl 1 (.slice none 0 0)
                generalize (u3.setCell ⟨rb, 0, none⟩ (.int .i64 0)).setCell ⟨rb, 1, none⟩ (.slice none 0 0) = wz at *
                obtain ⟨⟨p0, -⟩, p1, -⟩ := cells2f 0 hO6 rfl
                exact bodyPost_ret (v := .tuple #[.agg #[.int .i64 0, .slice none 0 0], .int .i64 7]) (by simp [results, Try.results48, go_sem, p0, p1]) rfl (epost_err hR.out hO6.below)
              | some n =>
                have hC2 := Lib.hid (show refC lk L = preC (C ++ [(18, (n : Int), 0, 0)]) lk (L.drop (q + 1)) by rw [hC.out, hR3.out, hln]; rfl)
                have hpv : plc (lk o2.name) = (n : Int) := by rw [hln]; rfl
                rw [hpv] at PC
                clear hpv hln hC
                have hn0 : ¬ ((n : Int) < 0) := by omega
                obtain ⟨⟨b0, f0⟩, ⟨b1, f1⟩, ⟨b2, f2⟩, b3, f3⟩ := cells4f 6 hB rfl
                go_upto_region 23 with (go_at_call 71; refine (PC.out _ hB.below).mono ?_; rintro e w2 ⟨rfl, rfl⟩)
                have hB := (((hB.cset 6 rfl 0 (.int .i64 18)).cset 6 rfl 1 (.int .i64 (n : Int))).cset 6 rfl 2 (.int .i64 0)).cset 6 rfl 3 (.int .i64 0)
                generalize (((u2.setCell ⟨xb, 0, none⟩ (.int .i64 18)).setCell ⟨xb, 1, none⟩ (.int .i64 (n : Int))).setCell ⟨xb, 2, none⟩ (.int .i64 0)).setCell ⟨xb, 3, none⟩ (.int .i64 0) = u3 at *
                clear b0 b1 b2 b3 f0 f1 f2 f3
                obtain ⟨⟨b0, f0⟩, ⟨b1, f1⟩, ⟨b2, f2⟩, b3, f3⟩ := cells4f 6 hB rfl
                have s0 : u3.cell? ⟨g2, of2 + q * 7, none⟩ = some (.int .i64 3) := hB.old t0.out
                have hrw : Row u3 _ _ _ _ _ := hB.row 5 rfl
                go_wp2_with (at_builtin; refine wpList_append_lit' _ rfl _ _ 52 rfl 30 i1 (.agg #[.int .i64 0, .int .i64 0, .int .i64 0, .int .i64 0]) 4 32 Try.underlying52 hi1 hw0 hw1 hw2 rfl (by decide) (.slice ca C.length cc) C.length (insL C) rfl hrw #[.int .i64 18, .int .i64 (n : Int), .int .i64 0, .int .i64 0] _ 1 _ rfl rfl rfl (by simp [Value.oneCell']) (by unfold maxLen; omega) (by omega) ?_; intro ca2 cc2 w3 hr3 ht3 hf3; have hO3 := hB.move 5 rfl (Moves.of_append hr3 ht3 hf3); clear hr3 ht3 hf3)
                go_round
                case rel => exact ⟨q + 1, C ++ [(18, (n : Int), 0, 0)], ca2, cc2, by omega, by first | rfl | trivial | go_num, by simp, hC2, by simp; omega, (hO3.sel [0, 1, 2, 3, 4, 5] (by decide)).cast (by simp [endL, codeA, insL_app, insL_one, insC])⟩
                case measure => simp [intOf]; omega
            · obtain rfl : K = 4 := by omega
              have hR3 : refOne lk o2 = (lk o2.name).map (fun (n : Nat) => [((19 : Int), o2.reg, (n : Int), (0 : Int))]) := by unfold refOne; rw [if_neg (by omega), if_neg (by omega), if_neg (by omega)]
              replace hR3 := Lib.hid hR3
              clear hk hK hk5
              skip
              cases hln : lk o2.name with
              | none =>
                have hR := Lib.hid (show refEnd mem os = (0, [], 7) by unfold refEnd; rw [hI2.out, hC.out, hR3.out, hln]; rfl)
                have hpv : plc (lk o2.name) = -1 := by rw [hln]; rfl
                rw [hpv] at PC
                clear hpv hln hC
                obtain ⟨⟨n0, -⟩, n1, -⟩ := cells2f 1 hB rfl
                obtain ⟨⟨q0, q1⟩, q2, q3⟩ := cells2f 0 hB rfl
                obtain ⟨⟨b0, f0⟩, ⟨b1, f1⟩, ⟨b2, f2⟩, b3, f3⟩ := cells4f 6 hB rfl
                clear q0 q1 q2 q3 n0 n1
                go_upto_region 23 with (go_at_call 71; refine (PC.out _ hB.below).mono ?_; rintro e w2 ⟨rfl, rfl⟩)
                have hB := (((hB.cset 6 rfl 0 (.int .i64 19)).cset 6 rfl 1 (.int .i64 o2.reg)).cset 6 rfl 2 (.int .i64 (-1))).cset 6 rfl 3 (.int .i64 0)
                generalize (((u2.setCell ⟨xb, 0, none⟩ (.int .i64 19)).setCell ⟨xb, 1, none⟩ (.int .i64 o2.reg)).setCell ⟨xb, 2, none⟩ (.int .i64 (-1))).setCell ⟨xb, 3, none⟩ (.int .i64 0) = u3 at *
                obtain ⟨⟨n0, -⟩, n1, -⟩ := cells2f 1 hB rfl
                obtain ⟨⟨q0, q1⟩, q2, q3⟩ := cells2f 0 hB rfl
                have s0 : u3.cell? ⟨g2, of2 + q * 7, none⟩ = some (.int .i64 4) := hB.old t0.out
                clear b0 b1 b2 b3 f0 f1 f2 f3
                go_wp2_with fail
                have hO6 := (hB.cset 0 rfl 0 (.int .i64 0)).cset 0 rfl 1 (.slice none 0 0)
                generalize (u3.setCell ⟨rb, 0, none⟩ (.int .i64 0)).setCell ⟨rb, 1, none⟩ (.slice none 0 0) = wz at *
                obtain ⟨⟨p0, -⟩, p1, -⟩ := cells2f 0 hO6 rfl
                exact bodyPost_ret (v := .tuple #[.agg #[.int .i64 0, .slice none 0 0], .int .i64 7]) (by simp [results, Try.results48, go_sem, p0, p1]) rfl (epost_err hR.out hO6.below)
              | some n =>
                have hC2 := Lib.hid (show refC lk L = preC (C ++ [(19, o2.reg, (n : Int), 0)]) lk (L.drop (q + 1)) by rw [hC.out, hR3.out, hln]; rfl)
                have hpv : plc (lk o2.name) = (n : Int) := by rw [hln]; rfl
                rw [hpv] at PC
                clear hpv hln hC
                have hn0 : ¬ ((n : Int) < 0) := by omega
                obtain ⟨⟨b0, f0⟩, ⟨b1, f1⟩, ⟨b2, f2⟩, b3, f3⟩ := cells4f 6 hB rfl
                go_upto_region 23 with (go_at_call 71; refine (PC.out _ hB.below).mono ?_; rintro e w2 ⟨rfl, rfl⟩)
                have hB := (((hB.cset 6 rfl 0 (.int .i64 19)).cset 6 rfl 1 (.int .i64 o2.reg)).cset 6 rfl 2 (.int .i64 (n : Int))).cset 6 rfl 3 (.int .i64 0)
                generalize (((u2.setCell ⟨xb, 0, none⟩ (.int .i64 19)).setCell ⟨xb, 1, none⟩ (.int .i64 o2.reg)).setCell ⟨xb, 2, none⟩ (.int .i64 (n : Int))).setCell ⟨xb, 3, none⟩ (.int .i64 0) = u3 at *
                clear b0 b1 b2 b3 f0 f1 f2 f3
                obtain ⟨⟨b0, f0⟩, ⟨b1, f1⟩, ⟨b2, f2⟩, b3, f3⟩ := cells4f 6 hB rfl
                have s0 : u3.cell? ⟨g2, of2 + q * 7, none⟩ = some (.int .i64 4) := hB.old t0.out
                have hrw : Row u3 _ _ _ _ _ := hB.row 5 rfl
                go_wp2_with (at_builtin; refine wpList_append_lit' _ rfl _ _ 52 rfl 30 i1 (.agg #[.int .i64 0, .int .i64 0, .int .i64 0, .int .i64 0]) 4 32 Try.underlying52 hi1 hw0 hw1 hw2 rfl (by decide) (.slice ca C.length cc) C.length (insL C) rfl hrw #[.int .i64 19, .int .i64 o2.reg, .int .i64 (n : Int), .int .i64 0] _ 1 _ rfl rfl rfl (by simp [Value.oneCell']) (by unfold maxLen; omega) (by omega) ?_; intro ca2 cc2 w3 hr3 ht3 hf3; have hO3 := hB.move 5 rfl (Moves.of_append hr3 ht3 hf3); clear hr3 ht3 hf3)
                go_round
                case rel => exact ⟨q + 1, C ++ [(19, o2.reg, (n : Int), 0)], ca2, cc2, by omega, by first | rfl | trivial | go_num, by simp, hC2, by simp; omega, (hO3.sel [0, 1, 2, 3, 4, 5] (by decide)).cast (by simp [endL, codeA, insL_app, insL_one, insC])⟩
                case measure => simp [intOf]; omega
          · obtain rfl : q = L.length := by omega
            have hI3 := Lib.hid (show refE os = preE (ps.map (·.2) ++ [C]) (refE (os.drop (r + 1))) by rw [hI2.out, hC.out, List.drop_length, preC_all, preE_snoc])
            obtain ⟨⟨z0, -⟩, z1, z2⟩ := cells2f 2 hO rfl
            have hrw : Row wr _ _ _ _ _ := hO.row 3 rfl
            have HE := Lib.hid (fun (w3 : World) (ao2 : Option Addr) (cap2 : Nat) (hr : Row w3 52 1 (.slice ao2 (N + 1) cap2) (N + 1) (ps.map hdr ++ [.slice ca C.length cc])) (ht : Touch (fun k => Value.ownBlock (.slice oa N oc) = some k) wr w3) (hf : ∀ k, Value.ownBlock (.slice ao2 (N + 1) cap2) = some k → Value.ownBlock (.slice oa N oc) = some k ∨ wr.heap.size ≤ k) =>
              show (∃ v, w3.cell? ⟨pb, 1, none⟩ = some v) ∧ w3.frozen? ⟨pb, 1, none⟩ = false ∧ Own w (w3.setCell ⟨pb, 1, none⟩ (.slice ao2 (N + 1) cap2)) (endL rb nb pb mem ao2 (N + 1) cap2 (ps ++ [((ca, cc), C)])) from by
                have h1 := hO.move 3 rfl (Moves.of_append hr ht hf)
                have h2 := h1.cset 2 rfl 1 (.slice ao2 (N + 1) cap2)
                have h3 : Own w _ ([cellsA rb #[.int .i64 0, .slice none 0 0] 42, cellsA nb #[.int .i64 0, .slice none 0 0] 42, cellsA pb #[.int .i64 mem, .slice ao2 (N + 1) cap2] 42, rowA 52 1 (.slice ao2 (N + 1) cap2) (N + 1) (ps.map hdr ++ [.slice ca C.length cc])] ++ [doneA ps, rowA 30 4 (hdr ((ca, cc), C)) C.length (insL C)]) := h2
                exact ⟨⟨_, (h1.cget 2 rfl 1).1⟩, (h1.cget 2 rfl 1).2, h3.finish.cast (by simp [endL, hdr])⟩)
            clear hC hI2
            go_wp2_with (at_builtin; refine wpList_append_lit' _ rfl _ _ 40 rfl 52 i2 (.slice none 0 0) 1 24 Try.underlying40 hi2 hq0 hq1 hq2 rfl (by decide) (.slice oa N oc) N (ps.map hdr) rfl hrw #[.slice ca C.length cc] _ 1 _ rfl rfl rfl (by simp [Value.oneCell']) (by unfold maxLen; omega) (by omega) ?_; intro ao2 cap2 w3 hr3 ht3 hf3; obtain ⟨⟨v, y5⟩, y6, hOn⟩ := HE.out _ _ _ hr3 ht3 hf3; replace hOn := Lib.hid hOn)
            go_round
            case rel => exact ⟨r + 1, N + 1, ps ++ [((ca, cc), C)], ao2, cap2, by omega, by first | rfl | trivial | go_num, by simp [hpl], by omega, Lib.hid (by rw [hI3.out]; simp), hOn.out⟩
            case measure => simp [intOf]; omega
      · have hI2 := Lib.hid (hI.out.trans (congrArg _ (refE_at hlt hk)))
        replace s0 := hO.old s0
        have hk3 : ¬ ((os.getD r dfO).kind : Int) = 0 := by omega
        generalize ((os.getD r dfO).kind : Int) = K at *
        subst hao
        clear hI
        go_wp2_with fail
        go_round
        case rel => exact ⟨r + 1, N, ps, oa, oc, by omega, by go_num, hpl, by omega, hI2, hO⟩
        case measure => simp [intOf]; omega
    · obtain rfl : r = os.length := by omega
      have hE := Lib.hid (show refE os = some (ps.map (·.2)) by rw [hI.out, List.drop_length]; simp [preE, refE])
      clear hI
      obtain ⟨⟨n0, -⟩, n1, -⟩ := cells2f 1 hO rfl
      obtain ⟨⟨z0, -⟩, z1, z2⟩ := cells2f 2 hO rfl
      obtain ⟨⟨q0, q1⟩, q2, q3⟩ := cells2f 0 hO rfl
      have hL := liesF_of (hO.row 3 rfl) (hO.at 4 rfl) hpl.symm
      have eL : (ps.map (·.2)).length = N := by simp [hpl]
      have CK := Lib.hid (prcheck_any mem (ps.map (·.2)) oa oc wr hL)
      rw [eL] at CK
      by_cases hck : checkP mem (ps.map (·.2)) = 0
      · have hR := Lib.hid (show refEnd mem os = (mem, ps.map (·.2), 0) by unfold refEnd; rw [hE.out]; dsimp only; rw [if_neg (by rw [hck]; simp)])
        rw [hck] at CK
        clear hE hck hL
        go_wp2_with (go_at_call 37; refine CK.out.mono ?_; rintro e w2 ⟨rfl, hb2⟩; replace hO := hO.grow hb2; obtain ⟨⟨z0, -⟩, z1, -⟩ := cells2f 2 hO rfl; obtain ⟨⟨q0, q1⟩, q2, q3⟩ := cells2f 0 hO rfl)
        have hO6 := (hO.cset 0 rfl 0 (.int .i64 mem)).cset 0 rfl 1 (.slice oa N oc)
        generalize (w2.setCell ⟨rb, 0, none⟩ (.int .i64 mem)).setCell ⟨rb, 1, none⟩ (.slice oa N oc) = wz at *
        obtain ⟨⟨p0, -⟩, p1, -⟩ := cells2f 0 hO6 rfl
        refine bodyPost_ret (v := .tuple #[.agg #[.int .i64 mem, .slice oa N oc], .int .i64 0]) (by simp [results, Try.results48, go_sem, p0, p1]) rfl ?_
        rw [hR.out]
        exact ⟨oa, oc, by rw [eL], liesF_of (hO6.row 3 rfl) (hO6.at 4 rfl) hpl.symm, hO6.below⟩
      · have hR := Lib.hid (show refEnd mem os = (0, [], checkP mem (ps.map (·.2))) by unfold refEnd; rw [hE.out]; dsimp only; rw [if_pos hck])
        generalize checkP mem (ps.map (·.2)) = E at *
        have hck' : (E == 0) = false := by simpa using hck
        clear hE hL
        go_wp2_with (go_at_call 37; refine CK.out.mono ?_; rintro e w2 ⟨rfl, hb2⟩; replace hO := hO.grow hb2; obtain ⟨⟨n0, -⟩, n1, -⟩ := cells2f 1 hO rfl; obtain ⟨⟨q0, q1⟩, q2, q3⟩ := cells2f 0 hO rfl)
        have hO6 := (hO.cset 0 rfl 0 (.int .i64 0)).cset 0 rfl 1 (.slice none 0 0)
        generalize (w2.setCell ⟨rb, 0, none⟩ (.int .i64 0)).setCell ⟨rb, 1, none⟩ (.slice none 0 0) = wz at *
        obtain ⟨⟨p0, -⟩, p1, -⟩ := cells2f 0 hO6 rfl
        exact bodyPost_ret (v := .tuple #[.agg #[.int .i64 0, .slice none 0 0], .int .i64 E]) (by simp [results, Try.results48, go_sem, p0, p1]) rfl (epost_err hR.out hO6.below)
end Go.Proofs.Ytboiogjklecpaaa
