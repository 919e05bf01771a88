/- forebaylaw04.Own: a program in memory of its own. -/
import Derived.Test.YtboiogjklecpaaaPgmRows
import Derived.Test.YtboiogjklecpaaaPgmCheck
import Derived.Test.YtboiogjklecpaaaTail
set_option linter.unusedVariables false
set_option linter.unusedSimpArgs false
namespace Go.Proofs.Ytboiogjklecpaaa
open Go.RowKit
set_option maxRecDepth 100000
set_option maxHeartbeats 8000000
theorem take_getD {fs : List (List I4)} {r : Nat} {l : List I4} (h : r < fs.length) (hx : fs.getD r [] = l) : fs.take (r + 1) = fs.take r ++ [l] := by
  rw [List.take_succ_eq_append_getElem h]
  rw [List.getD_eq_getElem?_getD, List.getElem?_eq_getElem h] at hx
  simp only [Option.getD_some] at hx
  rw [hx]
theorem own_any (mem : Int) (fs : List (List I4)) (ao : Option Addr) (cap : Nat) (w : World) (h : LiesF w ao cap fs) (hf1 : fs.length ≤ 40) (hf2 : ∀ l ∈ fs, l.length ≤ 300) :
    Calls Try.prog 30 #[.agg #[.int .i64 mem, .slice ao fs.length cap]] w fun e w' => ∃ oa oc ps, e = .returned (.agg #[.int .i64 mem, .slice oa fs.length oc]) ∧ Hid (ps.map (·.2) = fs) ∧ Own w w' [rowA 52 1 (.slice oa fs.length oc) fs.length (ps.map hdr), doneA ps] := by
  obtain ⟨i1, hi1, hw0, hw1', hw2'⟩ := info_parts' Try.infoIns
  obtain ⟨i2, hi2, hq0, hq1', hq2'⟩ := info_parts' Try.infoInsS
  have hc := h.1
  have hc2 := h.2.1
  unfold maxLen at hc2
  replace hf2 := Lib.hid hf2
  have hO := (((Own.nil (Below.refl _ w)).box #[.int .i64 mem, .slice ao fs.length cap] 42).box #[.int .i64 0, .slice none 0 0] 42).box #[.int .i64 mem, .slice none 0 0] 42
  have hO := (hO.push (Below.refl _ _) (rowA 52 1 (.slice none 0 0) 0 (([] : List Fn).map hdr)) (Row.nil _ _ _) (by rintro k ⟨⟩)).noneDone
  simp only [List.append_assoc, List.cons_append, List.nil_append, World.size_alloc] at hO
  go_enter Try.func30, Try.ntmps30
  go_wp2_with fail
  obtain ⟨pb, hpb⟩ : ∃ pb, w.heap.size = pb := ⟨_, rfl⟩
  generalize ((w.alloc (.cells #[.int .i64 mem, .slice ao fs.length cap] 42)).alloc (.cells #[.int .i64 0, .slice none 0 0] 42)).alloc (.cells #[.int .i64 mem, .slice none 0 0] 42) = u at *
  simp only [hpb, Nat.add_assoc, Nat.reduceAdd] at hO ⊢
  generalize pb + 1 = rb at *
  generalize pb + 2 = qb at *
  go_loopw [4] (fun i wr => ∃ (r : Nat) (ps : List Fn) (oa : Option Addr) (oc : Nat), r ≤ fs.length ∧ i = .int .i64 r ∧ Hid (ps.map (·.2) = fs.take r) ∧ Own w wr [cellsA pb #[.int .i64 mem, .slice ao fs.length cap] 42, cellsA rb #[.int .i64 0, .slice none 0 0] 42, cellsA qb #[.int .i64 mem, .slice oa r oc] 42, rowA 52 1 (.slice oa r oc) r ((ps).map hdr), doneA (ps)]) (fun i _ => (fs.length - intOf i).toNat)
  case atStart => exact ⟨0, [], none, 0, by omega, rfl, Lib.hid rfl, hO⟩
  case round =>
    clear hO
    obtain ⟨r, ps, oa, oc, hr, rfl, hps, hO⟩ := hrel
    have y1 := (cells2f 0 hO rfl).2.1
    have z0 := (cells2f 2 hO rfl).1.1
    have z1 := (cells2f 2 hO rfl).2.1
    by_cases hlt : r < fs.length
    · obtain ⟨g, off, bo, d, rfl, hx, hL⟩ := h.get hlt
      obtain ⟨l, hl⟩ : ∃ l, fs.getD r [] = l := ⟨_, rfl⟩
      rw [hl] at hx hL
      have htk := Lib.hid (take_getD hlt hl)
      have hl3 := hf2.out l (by rw [← hl, List.getD_eq_getElem?_getD, List.getElem?_eq_getElem hlt]; exact List.getElem_mem _)
      clear hl
      have ld1 := hL.1
      have ld2 := hL.2.1
      unfold maxLen at ld2
      have hsrc := Lib.hid hL.src
      have hxw := Lib.hid hx
      replace hx := hO.old hx
      clear hL
      go_wp2_with fail
      generalize hw2 : wr = w2 at *
      clear hw2
      have hB : Own w w2.drew [cellsA pb #[.int .i64 mem, .slice (some ⟨g, off, none⟩) fs.length cap] 42, cellsA rb #[.int .i64 0, .slice none 0 0] 42, cellsA qb #[.int .i64 mem, .slice oa r oc] 42, rowA 52 1 (.slice oa r oc) r ((ps).map hdr), doneA (ps)] := hO.drewN 1
      have hS0 : (fun w' : World => w'.cell? ⟨pb, 1, none⟩ = some (.slice (some ⟨g, off, none⟩) fs.length cap) ∧ w'.cell? ⟨qb, 1, none⟩ = some (.slice oa r oc) ∧ w'.frozen? ⟨qb, 1, none⟩ = false ∧ w'.cell? ⟨g, off + r, none⟩ = some (.slice bo l.length d)) w2.drew := ⟨(cells2f 0 hB rfl).2.1, (cells2f 2 hB rfl).2.1, (cells2f 2 hB rfl).2.2, hB.old hxw.out⟩
      clear y1 z0 z1 hx hO
      refine lz_start (S := (fun w' : World => w'.cell? ⟨pb, 1, none⟩ = some (.slice (some ⟨g, off, none⟩) fs.length cap) ∧ w'.cell? ⟨qb, 1, none⟩ = some (.slice oa r oc) ∧ w'.frozen? ⟨qb, 1, none⟩ = false ∧ w'.cell? ⟨g, off + r, none⟩ = some (.slice bo l.length d))) rfl 12 13 rfl hS0 ?_
      simp only [numbered, Nat.zero_add, Nat.reduceAdd]
      generalize w2.drew = u0 at *
      refine lz_take (v := ?_) (by kernel_rfl) (by kernel_rfl) (by kernel_rfl) (fun _ _ _ h => h) (Or.inl ⟨by rfl, ?_⟩) (by assumption) ?_; (rotate_left; (intro wS hSw; (try dsimp only at hSw); go_simp; (try with_reducible rfl)); rotate_left); simp only [Act.put, List.setIfInBounds_toArray, List.set_cons_zero, List.set_cons_succ]
      refine lz_take (v := ?_) (by kernel_rfl) (by kernel_rfl) (by kernel_rfl) (fun _ _ _ h => h) (Or.inl ⟨by rfl, ?_⟩) (by assumption) ?_; (rotate_left; (intro wS hSw; (try dsimp only at hSw); go_simp; (try with_reducible rfl)); rotate_left); simp only [Act.put, List.setIfInBounds_toArray, List.set_cons_zero, List.set_cons_succ]
      refine lz_rot ?_; simp only [List.cons_append, List.nil_append]
      refine lz_take (v := ?_) (by kernel_rfl) (by kernel_rfl) (by kernel_rfl) (fun _ _ _ h => h) (Or.inl ⟨by rfl, ?_⟩) (by assumption) ?_; (rotate_left; (intro wS hSw; (try dsimp only at hSw); go_simp; (try with_reducible rfl)); rotate_left); simp only [Act.put, List.setIfInBounds_toArray, List.set_cons_zero, List.set_cons_succ]
      refine lz_take (v := ?_) (by kernel_rfl) (by kernel_rfl) (by kernel_rfl) (fun _ _ _ h => h) (Or.inl ⟨by rfl, ?_⟩) (by assumption) ?_; (rotate_left; (intro wS hSw; (try dsimp only at hSw); go_simp; (try with_reducible rfl)); rotate_left); simp only [Act.put, List.setIfInBounds_toArray, List.set_cons_zero, List.set_cons_succ]
      refine lz_take (v := ?_) (by kernel_rfl) (by kernel_rfl) (by kernel_rfl) (fun _ _ _ h => h) (Or.inl ⟨by rfl, ?_⟩) (by assumption) ?_; (rotate_left; (intro wS hSw; (try dsimp only at hSw); go_simp; (try with_reducible rfl)); rotate_left); simp only [Act.put, List.setIfInBounds_toArray, List.set_cons_zero, List.set_cons_succ]
      refine lz_take (v := ?_) (by kernel_rfl) (by kernel_rfl) (by kernel_rfl) (fun _ _ _ h => h) (Or.inl ⟨by rfl, ?_⟩) (by assumption) ?_; (rotate_left; (intro wS hSw; (try dsimp only at hSw); go_simp; (try with_reducible rfl)); rotate_left); simp only [Act.put, List.setIfInBounds_toArray, List.set_cons_zero, List.set_cons_succ]
      refine lz_take (v := ?_) (by kernel_rfl) (by kernel_rfl) (by kernel_rfl) (fun _ _ _ h => h) (Or.inl ⟨by rfl, ?_⟩) (by assumption) ?_; (rotate_left; (intro wS hSw; (try dsimp only at hSw); go_simp; (try with_reducible rfl)); rotate_left); simp only [Act.put, List.setIfInBounds_toArray, List.set_cons_zero, List.set_cons_succ]
      refine lz_rot ?_; simp only [List.cons_append, List.nil_append]
      refine lz_rot ?_; simp only [List.cons_append, List.nil_append]
      refine lz_rot ?_; simp only [List.cons_append, List.nil_append]
      refine lz_rot ?_; simp only [List.cons_append, List.nil_append]
      refine lz_rot ?_; simp only [List.cons_append, List.nil_append]
      refine lz_sole (by kernel_rfl) (fun K hK => ?_)
      go_simp
      have hO1 := hB.base 30 4
      refine hK.out _ _ ?_ (fun hHeld => ?_)
      · exact .inr ⟨(cells2f 0 hO1 rfl).2.1, (cells2f 2 hO1 rfl).2.1, (cells2f 2 hO1 rfl).2.2, hO1.old hxw.out⟩
      try simp only [Act.put, List.setIfInBounds_toArray, List.set_cons_zero, List.set_cons_succ]
      clear hK hB hHeld
      generalize u0.alloc (.cells #[] 30) = u1 at *
      generalize u0.heap.size = bb at *
      have hHeld := (show (fun w' : World => w'.cell? ⟨pb, 1, none⟩ = some (.slice (some ⟨g, off, none⟩) fs.length cap) ∧ w'.cell? ⟨qb, 1, none⟩ = some (.slice oa r oc) ∧ w'.frozen? ⟨qb, 1, none⟩ = false ∧ w'.cell? ⟨g, off + r, none⟩ = some (.slice bo l.length d)) u1 from ⟨(cells2f 0 hO1 rfl).2.1, (cells2f 2 hO1 rfl).2.1, (cells2f 2 hO1 rfl).2.2, hO1.old hxw.out⟩)
      refine lz_law (by kernel_rfl) rfl ?_
      refine wpList_append_row _ rfl (.tmp 17) (.tmp 22) 52 rfl 30 i1 (.agg #[.int .i64 0, .int .i64 0, .int .i64 0, .int .i64 0]) 4 32 Try.underlying52 hi1 hw0 hw1' hw2' rfl (by decide) (.slice (some ⟨bb, 0, none⟩) 0 0) 0 [] rfl (hO1.row 5 rfl) bo l.length d (insL l) rfl hsrc.out.1 hsrc.out.2.1 (fun ad had j u hu => hO1.old (hsrc.out.2.2 ad had j u hu)) (insL_cell l) (by unfold maxLen; omega) (by omega) ?_
      intro v2 u2 hr2 ht2 hf2; simp only [Nat.zero_add, List.nil_append] at hr2; obtain ⟨ao2, c2, rfl, p1, p2, _⟩ := hr2.shape
      have hO2 := hO1.move 5 rfl (Moves.of_append hr2 ht2 hf2)
      clear hO1 hr2 ht2 hf2 hHeld
      refine wpList_nil ⟨rfl, ⟨(cells2f 0 hO2 rfl).2.1, (cells2f 2 hO2 rfl).2.1, (cells2f 2 hO2 rfl).2.2, hO2.old hxw.out⟩, fun hHeld => ?_⟩
      try simp only [Act.put, List.setIfInBounds_toArray, List.set_cons_zero, List.set_cons_succ]
      refine lz_sole (by kernel_rfl) (fun K hK => ?_)
      go_simp
      have hO3 := hO2.lit1 52 (.slice ao2 l.length c2)
      refine hK.out _ _ ?_ (fun hHeld => ?_)
      · exact .inr ⟨(cells2f 0 hO3 rfl).2.1, (cells2f 2 hO3 rfl).2.1, (cells2f 2 hO3 rfl).2.2, hO3.old hxw.out⟩
      try simp only [Act.put, List.setIfInBounds_toArray, List.set_cons_zero, List.set_cons_succ]
      clear hK hO2 hHeld
      generalize u2.alloc (.cells #[.slice ao2 l.length c2] 52) = u3 at *
      generalize u2.heap.size = lb at *
      have hHeld := (show (fun w' : World => w'.cell? ⟨pb, 1, none⟩ = some (.slice (some ⟨g, off, none⟩) fs.length cap) ∧ w'.cell? ⟨qb, 1, none⟩ = some (.slice oa r oc) ∧ w'.frozen? ⟨qb, 1, none⟩ = false ∧ w'.cell? ⟨g, off + r, none⟩ = some (.slice bo l.length d)) u3 from ⟨(cells2f 0 hO3 rfl).2.1, (cells2f 2 hO3 rfl).2.1, (cells2f 2 hO3 rfl).2.2, hO3.old hxw.out⟩)
      refine lz_law (by kernel_rfl) rfl ?_
      have s2 := (hO3.row 6 rfl).src'
      refine wpList_append_row _ rfl (.tmp 16) (.tmp 24) 40 rfl 52 i2 (.slice none 0 0) 1 24 Try.underlying40 hi2 hq0 hq1' hq2' rfl (by decide) (.slice oa r oc) r (ps.map hdr) rfl (hO3.row 3 rfl) _ 1 1 [.slice ao2 l.length c2] rfl s2.1 s2.2.1 s2.2.2 (by simp [Value.oneCell']) (by unfold maxLen; omega) (by omega) ?_
      intro v3 u4 hr3 ht3 hf3; obtain ⟨oa2, oc2, rfl, p3, p4, _⟩ := hr3.shape
      have hO4 := hO3.move 3 rfl (Moves.of_append hr3 ht3 hf3)
      clear hO3 s2 hr3 ht3 hf3 hHeld
      refine wpList_nil ⟨rfl, ⟨(cells2f 0 hO4 rfl).2.1, (cells2f 2 hO4 rfl).2.1, (cells2f 2 hO4 rfl).2.2, hO4.old hxw.out⟩, fun hHeld => ?_⟩
      try simp only [Act.put, List.setIfInBounds_toArray, List.set_cons_zero, List.set_cons_succ]
      refine lz_take (v := ?_) (by kernel_rfl) (by kernel_rfl) (by kernel_rfl) (fun _ _ _ h => h) (Or.inl ⟨by rfl, ?_⟩) (by assumption) ?_; (rotate_left; (intro wS hSw; (try dsimp only at hSw); go_simp; (try with_reducible rfl)); rotate_left); simp only [Act.put, List.setIfInBounds_toArray, List.set_cons_zero, List.set_cons_succ]
      have z2 := (cells2f 2 hO4 rfl).2.1
      have z3 := (cells2f 2 hO4 rfl).2.2
      have z2' : u4.drew.cell? ⟨qb, 1, none⟩ = some (.slice oa r oc) := z2
      have z3' : u4.drew.frozen? ⟨qb, 1, none⟩ = false := z3
      refine lz_sole (by kernel_rfl) (fun K hK => ?_)
      go_simp
      have hO5 := hO4.cset 2 rfl 1 (.slice oa2 (r + 1) oc2)
      refine hK.out _ _ (.inl rfl) (fun hHeld => ?_)
      try simp only [Act.put, List.setIfInBounds_toArray, List.set_cons_zero, List.set_cons_succ]
      clear hK hHeld
      refine lz_done (by kernel_rfl) ?_
      go_wp2_with fail
      go_round
      case rel => exact ⟨r + 1, ps ++ [((ao2, c2), l)], oa2, oc2, by omega, by go_num, Lib.hid (by rw [htk.out, List.map_append, hps.out]; rfl), by
        have h6 := hO5.sel [0, 1, 2, 3, 4, 5] (by decide)
        have h7 : Own w _ ([cellsA pb #[.int .i64 mem, .slice (some ⟨g, off, none⟩) fs.length cap] 42, cellsA rb #[.int .i64 0, .slice none 0 0] 42, cellsA qb #[.int .i64 mem, .slice oa2 (r + 1) oc2] 42, rowA 52 1 (.slice oa2 (r + 1) oc2) (r + 1) (ps.map hdr ++ [hdr ((ao2, c2), l)])] ++ [doneA ps, rowA 30 4 (hdr ((ao2, c2), l)) l.length (insL l)]) := h6
        have h8 := h7.finish (p := ((ao2, c2), l))
        rw [show ps.map hdr ++ [hdr ((ao2, c2), l)] = (ps ++ [((ao2, c2), l)]).map hdr by simp] at h8
        exact h8⟩
      case measure => simp [intOf]; omega
    · obtain rfl : r = fs.length := by omega
      have q0 := (cells2f 1 hO rfl).1
      have q1 := (cells2f 1 hO rfl).2
      obtain ⟨q0a, q0b⟩ := q0
      obtain ⟨q1a, q1b⟩ := q1
      have hO6 := (hO.cset 1 rfl 0 (.int .i64 mem)).cset 1 rfl 1 (.slice oa fs.length oc)
      go_wp2
      have hO7 := hO6.sel [1, 3, 4] (by decide)
      have hps' : Hid (ps.map (·.2) = fs) := Lib.hid (by rw [hps.out, List.take_length])
      generalize (wr.setCell ⟨rb, 0, none⟩ (.int .i64 mem)).setCell ⟨rb, 1, none⟩ (.slice oa fs.length oc) = wz at *
      have hO8 : Own w wz [cellsA rb #[.int .i64 mem, .slice oa fs.length oc] 42, rowA 52 1 (.slice oa fs.length oc) fs.length (ps.map hdr), doneA ps] := hO7
      have p0 := (cells2f 0 hO8 rfl).1.1
      have p1 := (cells2f 0 hO8 rfl).2.1
      exact bodyPost_ret (v := .agg #[.int .i64 mem, .slice oa fs.length oc]) (by simp [results, Try.results30, go_sem, p0, p1]) rfl ⟨oa, oc, ps, rfl, hps', hO8.sel [1, 2] (by decide)⟩
end Go.Proofs.Ytboiogjklecpaaa
