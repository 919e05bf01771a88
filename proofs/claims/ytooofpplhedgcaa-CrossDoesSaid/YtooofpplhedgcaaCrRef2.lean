/- CrossDoes: the document's side: forebayref19.do. -/
import Derived.Test.YtooofpplhedgcaaCrRef
set_option linter.unusedVariables false
set_option linter.unusedSimpArgs false
namespace Go.Proofs.Ytooofpplhedgcaa
open Go.RowKit
set_option maxRecDepth 100000
set_option maxHeartbeats 2000000
theorem Own.pm {w0 w : World} {l l' : List Ast} (h : Own w0 w l) (hp : l.Perm l') : Own w0 w l' :=
  ⟨h.below, fun A hA => h.all A (hp.mem_iff.2 hA), fun A hA => h.own A (hp.mem_iff.2 hA), hp.pairwise h.sep (fun hab k hk hk' => hab k hk' hk)⟩
theorem alloc_szC (w : World) (cs : Array Value) (t : TypeId) : (w.alloc (.cells cs t)).heap.size = w.heap.size + 1 := World.size_alloc _ _
theorem rdo {w0 w : World} {mo : Option Addr} {mc : Nat} {m : List Int} {l : List Ast} (hm61 : m.length = 61) (hO : Own w0 w (mRow (.slice mo m.length mc) m :: l)) (pk g0 : Bool) (se i0 n0 a0 s0 f0 kd it n : Int) (k : Nat) (hk : kindK kd k) (hit : -1099511627800 ≤ it ∧ it ≤ 1099511627800) (ans now : Int) (hx : dof kd (m.getD (ixC it k) 0) (tokV se it n) n = (ans, now)) (m' : List Int) (hm : m.set (ixC it k) now = m') :
    Calls Try.prog 71 #[.agg #[.int .i64 1, .int .i64 3, .int .i64 3, .int .i64 3], .agg #[.bool pk, .int .i64 2, .int .i64 se, .int .i64 i0, .int .i64 n0, .int .i64 a0, .int .i64 s0, .int .i64 f0, .bool g0], .slice mo m.length mc, .agg #[.int .i64 kd, .int .i64 it, .int .i64 n]] w fun e w' => ∃ ao' c', e = .returned (.tuple #[.int .i64 ans, .slice ao' m'.length c']) ∧ Own w0 w' (mRow (.slice ao' m'.length c') m' :: l) := by
  obtain ⟨i1, hi1, hw0, hw1', hw2'⟩ := info_parts' Try.infoIntC
  have hk2 : k ≤ 2 := by rcases hk with ⟨_, rfl⟩ | ⟨_, rfl⟩ | ⟨_, rfl⟩ | ⟨_, rfl⟩ | ⟨_, rfl⟩ | ⟨_, rfl⟩ | ⟨_, rfl⟩ <;> omega
  have hixl := ixC_lt it (k := k) (by omega)
  have WD := Lib.hid (fun w1 => rcword kd it n k hk hit w1)
  generalize ixC it k = ix at *
  have hlen' : m'.length = m.length := by rw [← hm]; simp
  obtain ⟨X, hX⟩ : ∃ X, m.getD ix 0 = X := ⟨_, rfl⟩
  rw [hX] at hx
  have h1 := ((hO.box #[.int .i64 1, .int .i64 3, .int .i64 3, .int .i64 3] 66).box #[.bool pk, .int .i64 2, .int .i64 se, .int .i64 i0, .int .i64 n0, .int .i64 a0, .int .i64 s0, .int .i64 f0, .bool g0] 75).box #[.int .i64 kd, .int .i64 it, .int .i64 n] 79
  rw [alloc_szC, alloc_szC, alloc_szC] at h1
  replace h1 := h1.pm (show (_ : List Ast).Perm (cellsA w.heap.size #[.int .i64 1, .int .i64 3, .int .i64 3, .int .i64 3] 66 :: cellsA (w.heap.size + 1) #[.bool pk, .int .i64 2, .int .i64 se, .int .i64 i0, .int .i64 n0, .int .i64 a0, .int .i64 s0, .int .i64 f0, .bool g0] 75 :: cellsA (w.heap.size + 1 + 1) #[.int .i64 kd, .int .i64 it, .int .i64 n] 79 :: mRow (.slice mo m.length mc) m :: l) from by
    simp only [List.cons_append, List.append_assoc, List.nil_append]
    exact (List.perm_append_comm (l₁ := mRow (.slice mo m.length mc) m :: l) (l₂ := [_, _, _])))
  clear hO
  go_enter Try.func71, Try.ntmps71
  go_upto_region 1 with fail
  generalize ((w.alloc (.cells #[.int .i64 1, .int .i64 3, .int .i64 3, .int .i64 3] 66)).alloc (.cells #[.bool pk, .int .i64 2, .int .i64 se, .int .i64 i0, .int .i64 n0, .int .i64 a0, .int .i64 s0, .int .i64 f0, .bool g0] 75)).alloc (.cells #[.int .i64 kd, .int .i64 it, .int .i64 n] 79) = u at *
  generalize w.heap.size + 1 + 1 = ob at *
  generalize w.heap.size + 1 = wb at *
  generalize w.heap.size = pb at *
  obtain ⟨_, _, hv, b1, b2, _⟩ := (h1.row 3 rfl).shape
  simp only [Value.slice.injEq] at hv
  obtain ⟨rfl, _, rfl⟩ := hv
  unfold maxLen at b2
  have hsrc := (h1.row 3 rfl).src'
  have hone := one_cellsC m
  have hE := Lib.hid (fun (w2 : World) (ao2 : Option Addr) (cap2 : Nat) (hrow : Row w2 3 1 (.slice ao2 m.length cap2) m.length (m.map (.int .i64))) (hb : Below u.heap.size u w2) (hf : ∀ k, Value.ownBlock (.slice ao2 m.length cap2) = some k → u.heap.size ≤ k) =>
    show ∃ g off, ao2 = some ⟨g, off, none⟩ ∧ m.length ≤ cap2 ∧ cap2 ≤ maxLen ∧ Own w0 w2 (rowA 3 1 (.slice (some ⟨g, off, none⟩) m.length cap2) m.length (m.map (.int .i64)) :: (cellsA pb #[.int .i64 1, .int .i64 3, .int .i64 3, .int .i64 3] 66 :: cellsA wb #[.bool pk, .int .i64 2, .int .i64 se, .int .i64 i0, .int .i64 n0, .int .i64 a0, .int .i64 s0, .int .i64 f0, .bool g0] 75 :: cellsA ob #[.int .i64 kd, .int .i64 it, .int .i64 n] 79 :: mRow (.slice mo m.length mc) m :: l)) from by
      obtain ⟨g, off, cap3, hv3, q1, q2, q3, q4⟩ := hrow.addr (show 0 < m.length by omega)
      simp only [Value.slice.injEq] at hv3
      obtain ⟨rfl, _, rfl⟩ := hv3
      exact ⟨g, off, rfl, q1, q2, (h1.push hb (rowA 3 1 (.slice (some ⟨g, off, none⟩) m.length cap2) m.length (m.map (.int .i64))) hrow hf).pm (List.perm_append_comm (l₂ := [_]))⟩)
  have x0 := (h1.cget 1 rfl 1).1
  have x1 := (h1.cget 0 rfl 0).1
  have x2 := (h1.cget 0 rfl 1).1
  have x3 := (h1.cget 0 rfl 2).1
  have x4 := (h1.cget 0 rfl 3).1
  simp at x0 x1 x2 x3 x4
  clear h1
  go_upto_region 2 with (at_builtin; refine wpList_append_copy' _ rfl _ _ 67 rfl 3 i1 (.int .i64 0) 1 8 Try.underlying67 hi1 hw0 hw1' hw2' rfl (by decide) _ (by simp) rfl mo m.length mc (m.map (Value.int .i64)) rfl hsrc hone (by unfold maxLen; omega) (by omega) ?_; intro ao2 cap2 w2 hrow hb2 hf2; obtain ⟨g, off, rfl, q1, q2, hO2⟩ := hE.out _ _ _ hrow hb2 hf2; unfold maxLen at q2; clear hrow hf2 hb2 x0 x1 x2 x3 x4)
  clear hE hsrc hone
  have KS := Lib.hid (fun (w' : World) (h : Own w0 w' (rowA 3 1 (.slice (some ⟨g, off, none⟩) m.length cap2) m.length (m.map (.int .i64)) :: (cellsA pb #[.int .i64 1, .int .i64 3, .int .i64 3, .int .i64 3] 66 :: cellsA wb #[.bool pk, .int .i64 2, .int .i64 se, .int .i64 i0, .int .i64 n0, .int .i64 a0, .int .i64 s0, .int .i64 f0, .bool g0] 75 :: cellsA ob #[.int .i64 kd, .int .i64 it, .int .i64 n] 79 :: mRow (.slice mo m.length mc) m :: l))) => show (fun w' : World => w'.cell? ⟨g, off + ix, none⟩ = some (.int .i64 X) ∧ w'.cell? ⟨wb, 2, none⟩ = some (.int .i64 se) ∧ w'.cell? ⟨ob, 0, none⟩ = some (.int .i64 kd) ∧ w'.cell? ⟨ob, 1, none⟩ = some (.int .i64 it) ∧ w'.cell? ⟨ob, 2, none⟩ = some (.int .i64 n)) w' from ⟨h.row_at 0 rfl (by rw [getD_map (by omega), hX]), (h.cget 2 rfl 2).1, (h.cget 3 rfl 0).1, (h.cget 3 rfl 1).1, (h.cget 3 rfl 2).1⟩)
  have y0 := (hO2.cget 1 rfl 0).1
  have y1 := (hO2.cget 1 rfl 1).1
  have y2 := (hO2.cget 1 rfl 2).1
  have y3 := (hO2.cget 1 rfl 3).1
  have y4 := (hO2.cget 2 rfl 1).1
  have y5 := (hO2.cget 3 rfl 0).1
  have y6 := (hO2.cget 3 rfl 1).1
  have y7 := (hO2.cget 3 rfl 2).1
  simp at y0 y1 y2 y3 y4 y5 y6 y7
  go_upto_region 3 with (go_at_call 40; refine (WD.out _).mono ?_; rintro e w3 ⟨rfl, hb3⟩)
  have hO3 := hO2.grow hb3
  clear hb3 hO2 y0 y1 y2 y3 y4 y5 y6 y7
  have hO4 := hO3.drewN 1
  have hS3 := KS.out _ hO4
  have k2 : ix < m.length := by omega
  have k3 : (ix : Int) < (m.length : Int) := by omega
  have k4 : (0 : Int) ≤ (ix : Int) := by omega
  have k6 : (ix : Int) < 61 := by omega
  have k5 : IntKind.i64.wrap (ix : Int) = (ix : Int) := IntWalk.i64_in _ (by omega)
  refine lin_start (S := (fun w' : World => w'.cell? ⟨g, off + ix, none⟩ = some (.int .i64 X) ∧ w'.cell? ⟨wb, 2, none⟩ = some (.int .i64 se) ∧ w'.cell? ⟨ob, 0, none⟩ = some (.int .i64 kd) ∧ w'.cell? ⟨ob, 1, none⟩ = some (.int .i64 it) ∧ w'.cell? ⟨ob, 2, none⟩ = some (.int .i64 n))) rfl 13 rfl hS3 ?_
  simp only [numbered, Nat.zero_add, Nat.reduceAdd]
  refine lin_take (v := ?_) (by kernel_rfl) (by kernel_rfl) (fun _ _ _ h => h) (Or.inl ⟨by rfl, ?_⟩) (by assumption) ?_; (rotate_left; (intro wS hSw; (try dsimp only at hSw); (try go_simp); (try with_reducible rfl)); rotate_left); simp only [Act.put, List.setIfInBounds_toArray, List.set_cons_zero, List.set_cons_succ]
  refine lin_take (v := ?_) (by kernel_rfl) (by kernel_rfl) (fun _ _ _ h => h) (Or.inl ⟨by rfl, ?_⟩) (by assumption) ?_; (rotate_left; (intro wS hSw; (try dsimp only at hSw); (try go_simp); (try with_reducible rfl)); rotate_left); simp only [Act.put, List.setIfInBounds_toArray, List.set_cons_zero, List.set_cons_succ]
  refine lin_take (v := ?_) (by kernel_rfl) (by kernel_rfl) (fun _ _ _ h => h) (Or.inl ⟨by rfl, ?_⟩) (by assumption) ?_; (rotate_left; (intro wS hSw; (try dsimp only at hSw); (try go_simp); (try with_reducible rfl)); rotate_left); simp only [Act.put, List.setIfInBounds_toArray, List.set_cons_zero, List.set_cons_succ]
  refine lin_take (v := ?_) (by kernel_rfl) (by kernel_rfl) (fun _ _ _ h => h) (Or.inl ⟨by rfl, ?_⟩) (by assumption) ?_; (rotate_left; (intro wS hSw; (try dsimp only at hSw); (try go_simp); (try with_reducible rfl)); rotate_left); simp only [Act.put, List.setIfInBounds_toArray, List.set_cons_zero, List.set_cons_succ]
  refine lin_take (v := ?_) (by kernel_rfl) (by kernel_rfl) (fun _ _ _ h => h) (Or.inl ⟨by rfl, ?_⟩) (by assumption) ?_; (rotate_left; (intro wS hSw; (try dsimp only at hSw); (try go_simp); (try with_reducible rfl)); rotate_left); simp only [Act.put, List.setIfInBounds_toArray, List.set_cons_zero, List.set_cons_succ]
  refine lin_take (v := ?_) (by kernel_rfl) (by kernel_rfl) (fun _ _ _ h => h) (Or.inl ⟨by rfl, ?_⟩) (by assumption) ?_; (rotate_left; (intro wS hSw; (try dsimp only at hSw); (try go_simp); (try with_reducible rfl)); rotate_left); simp only [Act.put, List.setIfInBounds_toArray, List.set_cons_zero, List.set_cons_succ]
  refine lin_take (v := ?_) (by kernel_rfl) (by kernel_rfl) (fun _ _ _ h => h) (Or.inl ⟨by rfl, ?_⟩) (by assumption) ?_; (rotate_left; (intro wS hSw; (try dsimp only at hSw); (try go_simp); (try with_reducible rfl)); rotate_left); simp only [Act.put, List.setIfInBounds_toArray, List.set_cons_zero, List.set_cons_succ]
  refine lin_sole (by kernel_rfl) (fun K' hK' => ?_)
  go_simp
  refine (rcDo kd it n se X k hk _).mono ?_
  rintro e w5 ⟨rfl, hb5⟩
  have hO5 := hO4.grow hb5
  clear hb5
  have hS5 := KS.out _ hO5
  refine hK'.out _ _ hS5 (fun hHeld => ?_)
  try simp only [Act.put, List.setIfInBounds_toArray, List.set_cons_zero, List.set_cons_succ]
  clear hK'
  refine lin_take (v := ?_) (by kernel_rfl) (by kernel_rfl) (fun _ _ _ h => h) (Or.inl ⟨by rfl, ?_⟩) (by assumption) ?_; (rotate_left; (intro wS hSw; (try dsimp only at hSw); (try go_simp); (try with_reducible rfl)); rotate_left); simp only [Act.put, List.setIfInBounds_toArray, List.set_cons_zero, List.set_cons_succ]
  refine lin_take (v := ?_) (by kernel_rfl) (by kernel_rfl) (fun _ _ _ h => h) (Or.inl ⟨by rfl, ?_⟩) (by assumption) ?_; (rotate_left; (intro wS hSw; (try dsimp only at hSw); (try go_simp); (try with_reducible rfl)); rotate_left); simp only [Act.put, List.setIfInBounds_toArray, List.set_cons_zero, List.set_cons_succ]
  refine lin_take (v := ?_) (by kernel_rfl) (by kernel_rfl) (fun _ _ _ h => h) (Or.inl ⟨by rfl, ?_⟩) (by assumption) ?_; (rotate_left; (intro wS hSw; (try dsimp only at hSw); (try go_simp); (try with_reducible rfl)); rotate_left); simp only [Act.put, List.setIfInBounds_toArray, List.set_cons_zero, List.set_cons_succ]
  refine lin_take (v := ?_) (by kernel_rfl) (by kernel_rfl) (fun _ _ _ h => h) (Or.inl ⟨by rfl, ?_⟩) (by assumption) ?_; (rotate_left; (intro wS hSw; (try dsimp only at hSw); (try go_simp); (try with_reducible rfl)); rotate_left); simp only [Act.put, List.setIfInBounds_toArray, List.set_cons_zero, List.set_cons_succ]
  refine lin_take (v := ?_) (by kernel_rfl) (by kernel_rfl) (fun _ _ _ h => h) (Or.inl ⟨by rfl, ?_⟩) (by assumption) ?_; (rotate_left; (intro wS hSw; (try dsimp only at hSw); (try go_simp); (try with_reducible rfl)); rotate_left); simp only [Act.put, List.setIfInBounds_toArray, List.set_cons_zero, List.set_cons_succ]
  refine lin_done (by kernel_rfl) ?_
  rw [hx]
  clear hHeld hS3 hO3 hO4
  have hrow := hO5.row 0 rfl
  obtain ⟨_, _, hv3, _, _, _⟩ := hrow.shape
  have hfr := hrow.free (j := ix) (by omega)
  rw [Addr.add_lit] at hfr
  have hce : w5.cell? ⟨g, off + ix, none⟩ = some (.int .i64 X) := hS5.1
  have hS := hO5.rowset 0 rfl ix (.int .i64 now) (xs' := m'.map (.int .i64)) (by rw [map_set_i, hm])
  have hF : Own w0 (w5.setCell ⟨g, off + ix, none⟩ (.int .i64 now)) (mRow (.slice (some ⟨g, off, none⟩) m'.length cap2) m' :: l) := (hS.sub (l' := rowA 3 1 (.slice (some ⟨g, off, none⟩) m.length cap2) m.length (m'.map (.int .i64)) :: l) (.cons_cons _ (.cons _ (.cons _ (.cons _ (.cons _ (List.Sublist.refl _))))))).cast (by unfold mRow; rw [hlen'])
  replace hF := Lib.hid hF
  clear hrow hv3 hS hO5 hS5
  go_wp2_with fail
  go_ret2
  exact ⟨_, cap2, by rw [hlen', hm61]; rfl, hF.out⟩
end Go.Proofs.Ytooofpplhedgcaa
