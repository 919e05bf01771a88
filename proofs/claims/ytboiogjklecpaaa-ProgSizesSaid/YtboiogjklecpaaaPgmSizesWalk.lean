/- The walk through the law ProgSizes. -/
import Derived.Test.YtboiogjklecpaaaPgmWorks2
import Derived.Test.YtboiogjklecpaaaPgmOwn2
import Derived.Test.YtboiogjklecpaaaPgmTwice
set_option linter.unusedVariables false
set_option linter.unusedSimpArgs false
namespace Go.Proofs.Ytboiogjklecpaaa
open Go.RowKit
set_option maxRecDepth 100000
set_option maxHeartbeats 8000000
theorem Own.join {w0 w w' : World} {l l2 : List Ast} (h : Own w0 w l) (h2 : Own w w' l2) : Own w0 w' (l2 ++ l) := by
  have hg := h.grow h2.below
  have hz := h.below.size
  refine ⟨hg.below, fun A hA => ?_, fun A hA k hk => ?_, ?_⟩
  · rcases List.mem_append.1 hA with hA | hA
    · exact h2.all A hA
    · exact hg.all A hA
  · rcases List.mem_append.1 hA with hA | hA
    · have := h2.own A hA k hk; omega
    · exact h.own A hA k hk
  · refine List.pairwise_append.2 ⟨h2.sep, h.sep, fun A hA B hB k hk hk' => ?_⟩
    have h3 := h2.own A hA k hk
    have h4 := B.lt (h.all B hB) k hk'
    omega
theorem psizes_core (mem : Int) (fs : List (List I4)) (ao : Option Addr) (cap : Nat) (w : World) (h : LiesF w ao cap fs) :
    Calls Try.prog 11 #[.agg #[.int .i64 mem, .slice ao fs.length cap]] w fun e w' => e = .returned (.bool true) ∧ Below w.heap.size w w' := by
  obtain ⟨i2, hi2, hq0, hq1', hq2'⟩ := info_parts' Try.infoInsS
  have hfd : ∀ (ad : Option Addr) (n c : Nat) (w : World), (Instr.field 42 (.agg #[.int .i64 mem, .slice ad n c]) 1).run Try.prog w = .ok (.slice ad n c) w := fun _ _ _ _ => by kernel_rfl
  have hO := (Own.nil (Below.refl _ w)).box #[.int .i64 mem, .slice ao fs.length cap] 42
  go_enter Try.func11, Try.ntmps11
  go_wp2_with fail
  go_at_call 27
  refine (works04_any _).mono ?_
  rintro e w1 ⟨rfl, hb1⟩
  have hO1 := hO.grow hb1
  generalize w.alloc (.cells #[.int .i64 mem, .slice ao fs.length cap] 42) = u at *
  generalize hpb : w.heap.size = pb at hO1 ⊢
  clear hpb hO hb1
  obtain ⟨y0, y1⟩ := And.intro (cells2f 0 hO1 rfl).1.1 (cells2f 0 hO1 rfl).2.1
  go_wp2_with fail
  go_at_call 28
  refine (great_any mem fs ao cap w1 (h.below hO1.below)).mono ?_
  rintro e w2 ⟨b, rfl, hS, hb2⟩
  have hO2 := hO1.grow hb2
  clear hO1 hb2 y0 y1
  obtain ⟨y0, y1⟩ := And.intro (cells2f 0 hO2 rfl).1.1 (cells2f 0 hO2 rfl).2.1
  cases b with
  | true =>
    go_wp2
    go_ret
    exact ⟨rfl, hO2.below⟩
  | false =>
    have hSm := Lib.hid (hS.out rfl)
    clear hS
    have PP := fun oa oc w h => pput_any mem fs oa oc w h
    by_cases hE : checkP mem fs = 0
    rotate_left
    · have hne : (checkP mem fs != 0) = true := by simpa using hE
      have hSp : putS mem fs = [] := by unfold putS; rw [if_neg hE]
      rw [hSp] at PP
      generalize checkP mem fs = E at *
      replace PP := Lib.hid PP
      go_wp2_with fail
      go_at_call 30
      refine (own_any' mem fs ao cap w w2 h hSm.out hO2.below).mono ?_
      rintro e w3 ⟨oa, oc, rfl, hL3, hb3⟩
      have hO3 := hO2.grow hb3
      clear hO2 hb3 y0 y1
      go_wp2_with fail
      go_at_call 29
      refine (PP.out _ _ _ hL3).mono ?_
      rintro e w4 ⟨rfl, hb4⟩
      have hO4 := hO3.grow hb4
      go_wp2
      go_ret
      exact ⟨by first | rfl | simp, hO4.below⟩
    · have hSp : putS mem fs = putP mem fs := by unfold putS; rw [if_pos hE]
      obtain ⟨_, _, _, h16⟩ := sizes_ok (check_parts hE).1
      have h16' : fs.length ≤ 16 := by omega
      have hSl : (putP mem fs).length = 6 + lenP fs := putP_lenP
      have hlp : lenP fs ≤ 1202 * fs.length := lenP_small fs hSm.out.2
      have hct := check_twice hE
      have hpt : checkP mem (fs ++ fs) = 0 → (putS mem (fs ++ fs)).length = 6 + (lenP fs + lenP fs) := fun h0 => by
        unfold putS; rw [if_pos h0]; exact put_twice
      have P2 := fun oa oc w h => pput_any mem (fs ++ fs) oa oc w h
      rw [List.length_append] at P2
      rw [hE, hSp] at PP
      generalize putP mem fs = S at *
      generalize putS mem (fs ++ fs) = S2 at *
      generalize checkP mem (fs ++ fs) = E2 at *
      have OW := fun w h => own_any mem fs ao cap w h hSm.out.1 hSm.out.2
      replace PP := Lib.hid PP
      replace P2 := Lib.hid P2
      replace OW := Lib.hid OW
      replace hct := Lib.hid hct
      replace hpt := Lib.hid hpt
      have hlm : lenP fs ≤ 20000 := by omega
      have hlp0 : ∀ r, lenP (fs.take r) ≤ lenP fs := fun r => by
        have := lenP_app (fs.take r) (fs.drop r)
        rw [List.take_append_drop] at this
        omega
      replace hlp0 := Lib.hid hlp0
      clear hE hSp hlp h16
      have hc := h.1
      have hc2 := h.2.1
      unfold maxLen at hc2
      go_wp2_with fail
      go_at_call 30
      refine (own_any' mem fs ao cap w w2 h hSm.out hO2.below).mono ?_
      rintro e w3 ⟨oa, oc, rfl, hL3, hb3⟩
      have hO3 := hO2.grow hb3
      clear hO2 hb3 y0 y1
      go_wp2_with fail
      go_at_call 29
      refine (PP.out _ _ _ hL3).mono ?_
      rintro e w4 ⟨rfl, hb4⟩
      have hO4 := hO3.grow hb4
      clear hO3 hb4 hL3
      go_wp2_with fail
      go_loopw [5, 6] (fun v i wr => ∃ r : Nat, r ≤ fs.length ∧ v = .int .i64 (6 + lenP (fs.take r) : Nat) ∧ i = .int .i64 r ∧ Own w wr [cellsA pb #[.int .i64 mem, .slice ao fs.length cap] 42]) (fun _ i _ => (fs.length - intOf i).toNat)
      case atStart => exact ⟨0, by omega, rfl, rfl, hO4⟩
      case round =>
        clear hO4
        obtain ⟨r, hr, rfl, rfl, hO⟩ := hrel
        obtain ⟨y0, y1⟩ := And.intro (cells2f 0 hO rfl).1.1 (cells2f 0 hO rfl).2.1
        by_cases hlt : r < fs.length
        · obtain ⟨g, off, bo, d, rfl, hx, hL⟩ := (h.below hO.below).get hlt
          have hnx := fun l hl => lenP_next hlt (l := l) hl
          have hnx2 := hlp0.out (r + 1)
          obtain ⟨l, hl⟩ : ∃ l, fs.getD r [] = l := ⟨_, rfl⟩
          rw [hl] at hx hL
          replace hnx := hnx l hl
          rw [hnx] at hnx2
          clear hl hL
          generalize lenP (fs.take r) = q at *
          have e1 : IntKind.i64.wrap (((6 + q : Nat) : Int) + 2) = ((6 + q : Nat) : Int) + 2 := IntWalk.i64_in _ (by omega)
          have e2 : IntKind.i64.wrap (4 * (l.length : Int)) = 4 * (l.length : Int) := IntWalk.i64_in _ (by omega)
          have e3 : IntKind.i64.wrap (((6 + q : Nat) : Int) + 2 + 4 * (l.length : Int)) = ((6 + q : Nat) : Int) + 2 + 4 * (l.length : Int) := IntWalk.i64_in _ (by omega)
          go_wp2_with fail
          go_round
          case rel => exact ⟨r + 1, by omega, by rw [hnx]; go_num, by go_num, hO⟩
          case measure => simp [intOf]; omega
        · obtain rfl : r = fs.length := by omega
          rw [List.take_length]
          go_wp2_with fail
          go_at_call 30
          refine (OW.out _ (h.below hO.below)).mono ?_
          rintro e w5 ⟨oa, oc, ps, rfl, hps, hN⟩
          have hO5 := ((hO.join hN).box #[.int .i64 mem, .slice oa fs.length oc] 42).sel [2, 3, 0, 1] (by decide)
          clear hO hN y0 y1
          go_upto_region 14 with fail
          replace hO5 : Own w (w5.alloc (.cells #[.int .i64 mem, .slice oa fs.length oc] 42)) [cellsA pb #[.int .i64 mem, .slice ao fs.length cap] 42, cellsA w5.heap.size #[.int .i64 mem, .slice oa fs.length oc] 42, rowA 52 1 (.slice oa fs.length oc) fs.length (ps.map hdr), doneA ps] := hO5
          generalize w5.alloc (.cells #[.int .i64 mem, .slice oa fs.length oc] 42) = w6 at *
          generalize w5.heap.size = qb at *
          go_wp2_with fail
          have hB : Own w w6.drew [cellsA pb #[.int .i64 mem, .slice ao fs.length cap] 42, cellsA qb #[.int .i64 mem, .slice oa fs.length oc] 42, rowA 52 1 (.slice oa fs.length oc) fs.length (ps.map hdr), doneA ps] := hO5.drewN 1
          have hS0 : (fun w' : World => w'.cell? ⟨pb, 0, none⟩ = some (.int .i64 mem) ∧ w'.cell? ⟨pb, 1, none⟩ = some (.slice ao fs.length cap) ∧ w'.cell? ⟨qb, 1, none⟩ = some (.slice oa fs.length oc) ∧ w'.frozen? ⟨qb, 1, none⟩ = false) w6.drew := ⟨(cells2f 0 hB rfl).1.1, (cells2f 0 hB rfl).2.1, (cells2f 1 hB rfl).2.1, (cells2f 1 hB rfl).2.2⟩
          clear hO5
          refine lz_start (S := (fun w' : World => w'.cell? ⟨pb, 0, none⟩ = some (.int .i64 mem) ∧ w'.cell? ⟨pb, 1, none⟩ = some (.slice ao fs.length cap) ∧ w'.cell? ⟨qb, 1, none⟩ = some (.slice oa fs.length oc) ∧ w'.frozen? ⟨qb, 1, none⟩ = false)) rfl 7 8 rfl hS0 ?_
          simp only [numbered, Nat.zero_add, Nat.reduceAdd]
          refine lz_take (v := ?_) (by kernel_rfl) (by kernel_rfl) (by kernel_rfl) (fun _ _ _ h => h) (Or.inl ⟨by rfl, ?_⟩) (by assumption) ?_; (rotate_left; (intro wS hSw; (try dsimp only at hSw); go_simp; (try with_reducible rfl)); rotate_left); simp only [Act.put, List.setIfInBounds_toArray, List.set_cons_zero, List.set_cons_succ]
          refine lz_take (v := ?_) (by kernel_rfl) (by kernel_rfl) (by kernel_rfl) (fun _ _ _ h => h) (Or.inl ⟨by rfl, ?_⟩) (by assumption) ?_; (rotate_left; (intro wS hSw; (try dsimp only at hSw); go_simp; (try with_reducible rfl)); rotate_left); simp only [Act.put, List.setIfInBounds_toArray, List.set_cons_zero, List.set_cons_succ]
          refine lz_take (v := ?_) (by kernel_rfl) (by kernel_rfl) (by kernel_rfl) (fun _ _ _ h => h) (Or.inl ⟨by rfl, ?_⟩) (by assumption) ?_; (rotate_left; (intro wS hSw; (try dsimp only at hSw); go_simp; (try with_reducible rfl)); rotate_left); simp only [Act.put, List.setIfInBounds_toArray, List.set_cons_zero, List.set_cons_succ]
          refine lz_sole (by kernel_rfl) (fun K hK => ?_)
          go_simp
          refine (OW.out _ (h.below hB.below)).mono ?_
          rintro e w9 ⟨oa2, oc2, ps2, rfl, hps2, hN2⟩
          have hB1 := (hB.join hN2).sel [2, 3, 4, 5, 0, 1] (by decide)
          replace hB1 : Own w w9 [cellsA pb #[.int .i64 mem, .slice ao fs.length cap] 42, cellsA qb #[.int .i64 mem, .slice oa fs.length oc] 42, rowA 52 1 (.slice oa fs.length oc) fs.length (ps.map hdr), doneA ps, rowA 52 1 (.slice oa2 fs.length oc2) fs.length (ps2.map hdr), doneA ps2] := hB1
          refine hK.out _ _ ?_ (fun hHeld => ?_)
          · exact .inr ⟨(cells2f 0 hB1 rfl).1.1, (cells2f 0 hB1 rfl).2.1, (cells2f 1 hB1 rfl).2.1, (cells2f 1 hB1 rfl).2.2⟩
          try simp only [Act.put, List.setIfInBounds_toArray, List.set_cons_zero, List.set_cons_succ]
          clear hK hB hN2
          have hHeld2 := (show (fun w' : World => w'.cell? ⟨pb, 0, none⟩ = some (.int .i64 mem) ∧ w'.cell? ⟨pb, 1, none⟩ = some (.slice ao fs.length cap) ∧ w'.cell? ⟨qb, 1, none⟩ = some (.slice oa fs.length oc) ∧ w'.frozen? ⟨qb, 1, none⟩ = false) w9 from ⟨(cells2f 0 hB1 rfl).1.1, (cells2f 0 hB1 rfl).2.1, (cells2f 1 hB1 rfl).2.1, (cells2f 1 hB1 rfl).2.2⟩)
          refine lz_take (v := ?_) (by kernel_rfl) (by kernel_rfl) (by kernel_rfl) (fun _ _ _ h => h) (Or.inl ⟨by rfl, ?_⟩) (by assumption) ?_; (rotate_left; (intro wS hSw; (try dsimp only at hSw); go_simp; (try with_reducible rfl)); rotate_left); simp only [Act.put, List.setIfInBounds_toArray, List.set_cons_zero, List.set_cons_succ]
          refine lz_law (by kernel_rfl) rfl ?_
          have s2 := (hB1.row 4 rfl).src'
          refine wpList_append_row _ rfl (.tmp 44) (.tmp 47) 40 rfl 52 i2 (.slice none 0 0) 1 24 Try.underlying40 hi2 hq0 hq1' hq2' rfl (by decide) (.slice oa fs.length oc) fs.length (ps.map hdr) rfl (hB1.row 2 rfl) _ fs.length oc2 (ps2.map hdr) rfl s2.1 s2.2.1 s2.2.2 (by intro u hu; obtain ⟨p, _, rfl⟩ := List.mem_map.1 hu; rfl) (by unfold maxLen; omega) (by omega) ?_
          intro v3 u4 hr3 ht3 hf3; obtain ⟨oa3, oc3, rfl, p3, p4, _⟩ := hr3.shape
          have hB2 := hB1.move 2 rfl (Moves.of_append hr3 ht3 hf3)
          clear hB1 s2 hr3 ht3 hf3
          refine wpList_nil ⟨rfl, ⟨(cells2f 0 hB2 rfl).1.1, (cells2f 0 hB2 rfl).2.1, (cells2f 1 hB2 rfl).2.1, (cells2f 1 hB2 rfl).2.2⟩, fun hHeld => ?_⟩
          try simp only [Act.put, List.setIfInBounds_toArray, List.set_cons_zero, List.set_cons_succ]
          refine lz_take (v := ?_) (by kernel_rfl) (by kernel_rfl) (by kernel_rfl) (fun _ _ _ h => h) (Or.inl ⟨by rfl, ?_⟩) (by assumption) ?_; (rotate_left; (intro wS hSw; (try dsimp only at hSw); go_simp; (try with_reducible rfl)); rotate_left); simp only [Act.put, List.setIfInBounds_toArray, List.set_cons_zero, List.set_cons_succ]
          have z2 : u4.cell? ⟨qb, 1, none⟩ = some (.slice oa fs.length oc) := (cells2f 1 hB2 rfl).2.1
          have z3 : u4.frozen? ⟨qb, 1, none⟩ = false := (cells2f 1 hB2 rfl).2.2
          have z2' : u4.drew.cell? ⟨qb, 1, none⟩ = some (.slice oa fs.length oc) := z2
          have z3' : u4.drew.frozen? ⟨qb, 1, none⟩ = false := z3
          refine lz_sole (by kernel_rfl) (fun K hK => ?_)
          go_simp
          have hB3 := hB2.cset 1 rfl 1 (.slice oa3 (fs.length + fs.length) oc3)
          refine hK.out _ _ (.inl rfl) (fun hHeld => ?_)
          try simp only [Act.put, List.setIfInBounds_toArray, List.set_cons_zero, List.set_cons_succ]
          clear hK
          refine lz_done (by kernel_rfl) ?_
          clear hHeld z2 z3 z2' z3' hB2
          have n1 : ps.length = fs.length := by rw [← hps.out, List.length_map]
          have n2 : ps2.length = fs.length := by rw [← hps2.out, List.length_map]
          have hL9 := liesF_of (ps := ps ++ ps2) (by have := hB3.row 2 rfl; rwa [← List.map_append] at this) (fun p hp => by
            rcases List.mem_append.1 hp with hp | hp
            · exact hB3.at 3 rfl p hp
            · exact hB3.at 5 rfl p hp) (by rw [List.length_append, n1, n2])
          rw [List.map_append, hps.out, hps2.out] at hL9
          have hB4 := hB3.sel [0, 1] (by decide)
          replace hB4 : Own w (u4.setCell ⟨qb, 1, none⟩ (.slice oa3 (fs.length + fs.length) oc3)) [cellsA pb #[.int .i64 mem, .slice ao fs.length cap] 42, cellsA qb #[.int .i64 mem, .slice oa3 (fs.length + fs.length) oc3] 42] := hB4
          clear hB3 n1 n2 hps hps2
          generalize u4.setCell ⟨qb, 1, none⟩ (.slice oa3 (fs.length + fs.length) oc3) = wz at *
          obtain ⟨z0, z1⟩ := And.intro (cells2f 1 hB4 rfl).1.1 (cells2f 1 hB4 rfl).2.1
          go_wp2_with fail
          go_at_call 29
          refine (P2.out _ _ _ hL9).mono ?_
          rintro e w10 ⟨rfl, hb10⟩
          have hB5 := hB4.grow hb10
          clear hB4 hb10 z0 z1 hL9 P2 OW PP
          obtain ⟨z0, z1⟩ := And.intro (cells2f 1 hB5 rfl).1.1 (cells2f 1 hB5 rfl).2.1
          by_cases h16 : 16 < fs.length + fs.length
          · obtain rfl : E2 = 9 := by rw [hct.out, if_pos h16]
            have h16i : 16 < (fs.length : Int) + (fs.length : Int) := by omega
            clear hct hpt
            have hSl2 : (S.length : Int) = 6 + (lenP fs : Int) := by omega
            clear hSl
            go_wp2
            go_ret
            exact ⟨by first | rfl | simp, hB5.below⟩
          · have hE2 : E2 = 0 := by rw [hct.out, if_neg h16]
            subst hE2
            have hS2 := hpt.out rfl
            have h16i : ¬ 16 < (fs.length : Int) + (fs.length : Int) := by omega
            clear hct hpt
            have hSl2 : (S.length : Int) = 6 + (lenP fs : Int) := by omega
            clear hSl
            generalize lenP fs = q at *
            have e1 : IntKind.i64.wrap (2 * (6 + (q : Int))) = 2 * (6 + (q : Int)) := IntWalk.i64_in _ (by omega)
            have e2 : IntKind.i64.wrap (2 * (6 + (q : Int)) - 6) = 2 * (6 + (q : Int)) - 6 := IntWalk.i64_in _ (by omega)
            have e3 : ((S2.length : Int) == 2 * (6 + (q : Int)) - 6) = true := by rw [beq_iff_eq]; omega
            clear hS2
            go_wp2
            go_ret
            exact ⟨by first | rfl | simp, hB5.below⟩
theorem walkProgSizes (v0 : Value) (w : World) (h0 : Arg Try.prog w 42 v0) :
    Calls Try.prog 11 #[v0] w fun e w' => e = .returned (.bool true) ∧ Below w.heap.size w w' := by
  obtain ⟨mem, fs, ao, cap, rfl, h⟩ := h0.prog
  exact psizes_core mem fs ao cap w h
end Go.Proofs.Ytboiogjklecpaaa
