/- The document's instruction that bytes are: more forms. -/
import Derived.Test.YtboiogjklecpaaaInsRGet
set_option linter.unusedVariables false
set_option linter.unusedSimpArgs false
namespace Go.Proofs.Ytboiogjklecpaaa
open Go.RowKit
set_option maxRecDepth 100000
set_option maxHeartbeats 8000000
theorem rget_r (b0 b1 b2 b3 : UInt8) (hF : formL (ofB [b0]) = [114]) (hop : ofB [b0] ≤ 25) (w : World) : Calls Try.prog 25 #[.string ⟨([b0, b1, b2, b3] : List UInt8).toArray⟩] w fun e w' => e = .returned (.tuple #[insV (getI [b0, b1, b2, b3]).1, .int .i64 (getI [b0, b1, b2, b3]).2]) ∧ Below w.heap.size w w' := by
  have h2 := ((Own.nil (Below.refl _ w)).box #[.int .i64 0, .int .i64 0, .int .i64 0, .int .i64 0] 30).box #[.int .i64 0, .int .i64 0, .int .i64 0, .int .i64 0] 30
  rw [World.size_alloc] at h2
  have FM := Lib.hid (fun (w1 : World) (L : List Ast) (h : Own w w1 L) => Own.lift (rform_any (ofB [b0]) w1) h (.string ⟨([114] : List UInt8).toArray⟩) (by rw [hF]))
  have hF0 := Lib.hid hF
  clear hF
  have hOP : ofB [b0] = (b0.toNat : Int) := ofB_one b0
  rw [hOP] at hop FM hF0
  have hb0 := b0.toNat_lt
  replace hOP := Lib.hid hOP
  have hwr : IntKind.i64.wrap ((b0.toNat : Nat) : Int) = (b0.toNat : Int) := IntWalk.i64_in _ (by omega)
  have ex0 : (⟨#[b0, b1, b2, b3]⟩ : ByteArray).extract 1 2 = ⟨#[b1]⟩ := rfl
  have hi0 : (⟨#[b0, b1, b2, b3]⟩ : ByteArray)[0]'(by simp [ByteArray.size]) = b0 := rfl
  have hi1 : (⟨#[b0, b1, b2, b3]⟩ : ByteArray)[1]'(by simp [ByteArray.size]) = b1 := rfl
  have hi2 : (⟨#[b0, b1, b2, b3]⟩ : ByteArray)[2]'(by simp [ByteArray.size]) = b2 := rfl
  have hi3 : (⟨#[b0, b1, b2, b3]⟩ : ByteArray)[3]'(by simp [ByteArray.size]) = b3 := rfl
  go_enter Try.func25, Try.ntmps25
  go_upto_region 10 with (go_at_call 19; refine (FM.out _ _ h2).mono ?_; rintro e v0 ⟨rfl, h3⟩)
  have g0 := h3.box #[.int .i64 0, .int .i64 0, .int .i64 0] 74
  clear h2 h3 FM
  obtain ⟨nb, hnb⟩ : ∃ nb, w.heap.size + 1 = nb := ⟨_, rfl⟩
  rw [hnb] at g0 ⊢
  generalize hrb : w.heap.size = rb at g0 ⊢
  clear hnb
  generalize v0.alloc (.cells #[.int .i64 0, .int .i64 0, .int .i64 0] 74) = x0 at *
  generalize v0.heap.size = B at *
  replace g0 : Own w x0 [cellsA rb #[.int .i64 0, .int .i64 0, .int .i64 0, .int .i64 0] 30, cellsA nb #[.int .i64 0, .int .i64 0, .int .i64 0, .int .i64 0] 30, cellsA B #[.int .i64 0, .int .i64 0, .int .i64 0] 74] := g0
  go_wp2_with fail
  refine wp_loop_rounds 2 ?_
  obtain ⟨VA, hVA⟩ : ∃ x, ofB [b1] = x := ⟨_, rfl⟩
  have hVA' := Lib.hid hVA
  have bd0 := ofB_bd [b1]
  rw [hVA] at bd0
  simp at bd0
  rw [rounds_succ]
  obtain ⟨d0, k0⟩ := g0.cget 2 rfl 0
  simp at d0
  go_wp2_with (go_at_call 60; refine (of_as [b1] _ (by simp) VA hVA).mono ?_; rintro e w1 ⟨rfl, rfl⟩)
  have g1 : Own w (x0.setCell ⟨B, 0, none⟩ (.int .i64 VA)) [cellsA rb #[.int .i64 0, .int .i64 0, .int .i64 0, .int .i64 0] 30, cellsA nb #[.int .i64 0, .int .i64 0, .int .i64 0, .int .i64 0] 30, cellsA B #[.int .i64 VA, .int .i64 0, .int .i64 0] 74] := g0.cset 2 rfl 0 (.int .i64 VA)
  clear g0 d0 k0 hVA
  generalize x0.setCell ⟨B, 0, none⟩ (.int .i64 VA) = x1 at *
  clear bd0
  have hg : getI [b0, b1, b2, b3] = if checkI b0.toNat VA 0 0 ≠ 0 then ((0, 0, 0, 0), checkI b0.toNat VA 0 0) else if ([b2, b3] : List UInt8).all (· == 0) = true then (((b0.toNat : Int), VA, 0, 0), 0) else ((0, 0, 0, 0), 4) := by
    unfold getI
    rw [show ([b0, b1, b2, b3] : List UInt8).take 1 = [b0] from rfl, hOP.out]
    dsimp only
    rw [hF0.out]
    simp [readF, wideL, hVA'.out]
  obtain ⟨E, hE⟩ : ∃ x, checkI b0.toNat VA 0 0 = x := ⟨_, rfl⟩
  rw [hE] at hg
  replace hg := Lib.hid hg
  rw [rounds_succ]
  go_upto_region 21 with fail
  obtain ⟨e0, _⟩ := g1.cget 2 rfl 0
  obtain ⟨e1, _⟩ := g1.cget 2 rfl 1
  obtain ⟨e2, _⟩ := g1.cget 2 rfl 2
  simp at e0 e1 e2
  refine lin_start (S := (fun w' : World => w'.cell? ⟨B, 0, none⟩ = some (.int .i64 VA) ∧ w'.cell? ⟨B, 1, none⟩ = some (.int .i64 0) ∧ w'.cell? ⟨B, 2, none⟩ = some (.int .i64 0))) rfl 12 rfl (show (fun w' : World => w'.cell? ⟨B, 0, none⟩ = some (.int .i64 VA) ∧ w'.cell? ⟨B, 1, none⟩ = some (.int .i64 0) ∧ w'.cell? ⟨B, 2, none⟩ = some (.int .i64 0)) _ from ⟨((g1.drewN 1).cget 2 rfl 0).1, ((g1.drewN 1).cget 2 rfl 1).1, ((g1.drewN 1).cget 2 rfl 2).1⟩) ?_
  simp only [numbered, Nat.zero_add, Nat.reduceAdd]
  have gd : Own w x1.drew _ := g1.drewN 1
  generalize x1.drew = ud at *
  have hHeld := (show (fun w' : World => w'.cell? ⟨B, 0, none⟩ = some (.int .i64 VA) ∧ w'.cell? ⟨B, 1, none⟩ = some (.int .i64 0) ∧ w'.cell? ⟨B, 2, none⟩ = some (.int .i64 0)) _ from ⟨(gd.cget 2 rfl 0).1, (gd.cget 2 rfl 1).1, (gd.cget 2 rfl 2).1⟩)
  refine lin_take (v := ?_) (by kernel_rfl) (by kernel_rfl) (fun _ _ _ h => h) (Or.inl ⟨by rfl, ?_⟩) (by assumption) ?_; (rotate_left; (intro wS hSw; (try dsimp only at hSw); go_simp; (try with_reducible rfl)); rotate_left); simp only [Act.put, List.setIfInBounds_toArray, List.set_cons_zero, List.set_cons_succ]
  refine lin_take (v := ?_) (by kernel_rfl) (by kernel_rfl) (fun _ _ _ h => h) (Or.inl ⟨by rfl, ?_⟩) (by assumption) ?_; (rotate_left; (intro wS hSw; (try dsimp only at hSw); go_simp; (try with_reducible rfl)); rotate_left); simp only [Act.put, List.setIfInBounds_toArray, List.set_cons_zero, List.set_cons_succ]
  refine lin_take (v := ?_) (by kernel_rfl) (by kernel_rfl) (fun _ _ _ h => h) (Or.inl ⟨by rfl, ?_⟩) (by assumption) ?_; (rotate_left; (intro wS hSw; (try dsimp only at hSw); go_simp; (try with_reducible rfl)); rotate_left); simp only [Act.put, List.setIfInBounds_toArray, List.set_cons_zero, List.set_cons_succ]
  refine lin_take (v := ?_) (by kernel_rfl) (by kernel_rfl) (fun _ _ _ h => h) (Or.inl ⟨by rfl, ?_⟩) (by assumption) ?_; (rotate_left; (intro wS hSw; (try dsimp only at hSw); go_simp; (try with_reducible rfl)); rotate_left); simp only [Act.put, List.setIfInBounds_toArray, List.set_cons_zero, List.set_cons_succ]
  refine lin_take (v := ?_) (by kernel_rfl) (by kernel_rfl) (fun _ _ _ h => h) (Or.inl ⟨by rfl, ?_⟩) (by assumption) ?_; (rotate_left; (intro wS hSw; (try dsimp only at hSw); go_simp; (try with_reducible rfl)); rotate_left); simp only [Act.put, List.setIfInBounds_toArray, List.set_cons_zero, List.set_cons_succ]
  refine lin_take (v := ?_) (by kernel_rfl) (by kernel_rfl) (fun _ _ _ h => h) (Or.inl ⟨by rfl, ?_⟩) (by assumption) ?_; (rotate_left; (intro wS hSw; (try dsimp only at hSw); go_simp; (try with_reducible rfl)); rotate_left); simp only [Act.put, List.setIfInBounds_toArray, List.set_cons_zero, List.set_cons_succ]
  refine lin_take (v := ?_) (by kernel_rfl) (by kernel_rfl) (fun _ _ _ h => h) (Or.inl ⟨by rfl, ?_⟩) (by assumption) ?_; (rotate_left; (intro wS hSw; (try dsimp only at hSw); go_simp; (try with_reducible rfl)); rotate_left); simp only [Act.put, List.setIfInBounds_toArray, List.set_cons_zero, List.set_cons_succ]
  refine lin_take (v := ?_) (by kernel_rfl) (by kernel_rfl) (fun _ _ _ h => h) (Or.inl ⟨by rfl, ?_⟩) (by assumption) ?_; (rotate_left; (intro wS hSw; (try dsimp only at hSw); go_simp; (try with_reducible rfl)); rotate_left); simp only [Act.put, List.setIfInBounds_toArray, List.set_cons_zero, List.set_cons_succ]
  refine lin_take (v := ?_) (by kernel_rfl) (by kernel_rfl) (fun _ _ _ h => h) (Or.inl ⟨by rfl, ?_⟩) (by assumption) ?_; (rotate_left; (intro wS hSw; (try dsimp only at hSw); go_simp; (try with_reducible rfl)); rotate_left); simp only [Act.put, List.setIfInBounds_toArray, List.set_cons_zero, List.set_cons_succ]
  refine lin_take (v := ?_) (by kernel_rfl) (by kernel_rfl) (fun _ _ _ h => h) (Or.inl ⟨by rfl, ?_⟩) (by assumption) ?_; (rotate_left; (intro wS hSw; (try dsimp only at hSw); go_simp; (try with_reducible rfl)); rotate_left); simp only [Act.put, List.setIfInBounds_toArray, List.set_cons_zero, List.set_cons_succ]
  refine lin_sole (by kernel_rfl) (fun K hK => ?_)
  go_simp
  have r1 := gd.box #[.int .i64 0, .int .i64 0, .int .i64 0, .int .i64 0] 30
  refine hK.out _ _ (show (fun w' : World => w'.cell? ⟨B, 0, none⟩ = some (.int .i64 VA) ∧ w'.cell? ⟨B, 1, none⟩ = some (.int .i64 0) ∧ w'.cell? ⟨B, 2, none⟩ = some (.int .i64 0)) _ from ⟨(r1.cget 2 rfl 0).1, (r1.cget 2 rfl 1).1, (r1.cget 2 rfl 2).1⟩) (fun hHeld => ?_)
  try simp only [Act.put, List.setIfInBounds_toArray, List.set_cons_zero, List.set_cons_succ]
  clear hK gd; generalize ud.alloc (.cells #[.int .i64 0, .int .i64 0, .int .i64 0, .int .i64 0] 30) = ua at *; generalize ud.heap.size = tb at *
  obtain ⟨⟨t0, u0⟩, ⟨t1, u1⟩, ⟨t2, u2⟩, ⟨t3, u3⟩⟩ := cells4f 3 r1 rfl
  have r2 : Own w ((((ua.setCell ⟨tb, 0, none⟩ (.int .i64 b0.toNat)).setCell ⟨tb, 1, none⟩ (.int .i64 VA)).setCell ⟨tb, 2, none⟩ (.int .i64 0)).setCell ⟨tb, 3, none⟩ (.int .i64 0)) [cellsA rb #[.int .i64 0, .int .i64 0, .int .i64 0, .int .i64 0] 30, cellsA nb #[.int .i64 0, .int .i64 0, .int .i64 0, .int .i64 0] 30, cellsA B #[.int .i64 VA, .int .i64 0, .int .i64 0] 74, cellsA tb #[.int .i64 b0.toNat, .int .i64 VA, .int .i64 0, .int .i64 0] 30] := ((((r1.cset 3 rfl 0 (.int .i64 b0.toNat)).cset 3 rfl 1 (.int .i64 VA)).cset 3 rfl 2 (.int .i64 0)).cset 3 rfl 3 (.int .i64 0))
  refine lin_sole (by kernel_rfl) (fun K hK => ?_)
  go_simp
  refine hK.out _ _ (show (fun w' : World => w'.cell? ⟨B, 0, none⟩ = some (.int .i64 VA) ∧ w'.cell? ⟨B, 1, none⟩ = some (.int .i64 0) ∧ w'.cell? ⟨B, 2, none⟩ = some (.int .i64 0)) _ from ⟨(r2.cget 2 rfl 0).1, (r2.cget 2 rfl 1).1, (r2.cget 2 rfl 2).1⟩) (fun hHeld => ?_)
  try simp only [Act.put, List.setIfInBounds_toArray, List.set_cons_zero, List.set_cons_succ]
  clear hK t0 t1 t2 t3 u0 u1 u2 u3 r1; generalize (((ua.setCell ⟨tb, 0, none⟩ (.int .i64 b0.toNat)).setCell ⟨tb, 1, none⟩ (.int .i64 VA)).setCell ⟨tb, 2, none⟩ (.int .i64 0)).setCell ⟨tb, 3, none⟩ (.int .i64 0) = ub at *
  refine lin_done (by kernel_rfl) ?_
  have C := Lib.hid (Own.lift (rcheck_any b0.toNat VA 0 0 _) r2 _ rfl)
  rw [hE] at C
  obtain ⟨⟨t0, _⟩, ⟨t1, _⟩, ⟨t2, _⟩, ⟨t3, _⟩⟩ := cells4f 3 r2 rfl
  by_cases hEz : E = 0
  · subst hEz
    rw [if_neg (by simp)] at hg
    go_wp2_with (first | (go_at_call 26; refine C.out.mono ?_; rintro e u0 ⟨rfl, m0⟩))
    clear C r2 g1 e0 e1 e2 t0 t1 t2 t3 hE hHeld
    refine wp_loop_rounds 3 ?_
    by_cases z0 : b2 = 0
    · subst z0
      rw [rounds_succ]
      go_wp2_with fail
      by_cases z1 : b3 = 0
      · subst z1
        rw [rounds_succ]
        go_wp2_with fail
        rw [rounds_succ]
        obtain ⟨⟨a0, _⟩, ⟨a1, _⟩, ⟨a2, _⟩, ⟨a3, _⟩⟩ := cells4f 3 m0 rfl; obtain ⟨⟨c0, k0⟩, ⟨c1, k1⟩, ⟨c2, k2⟩, ⟨c3, k3⟩⟩ := cells4f 0 m0 rfl
        go_wp2_with fail
        have hfin := ((((m0.cset 0 rfl 0 (.int .i64 b0.toNat)).cset 0 rfl 1 (.int .i64 VA)).cset 0 rfl 2 (.int .i64 0)).cset 0 rfl 3 (.int .i64 0))
        clear a0 a1 a2 a3 c0 c1 c2 c3 k0 k1 k2 k3 m0
        generalize (((u0.setCell ⟨rb, 0, none⟩ (.int .i64 b0.toNat)).setCell ⟨rb, 1, none⟩ (.int .i64 VA)).setCell ⟨rb, 2, none⟩ (.int .i64 0)).setCell ⟨rb, 3, none⟩ (.int .i64 0) = uf at *
        obtain ⟨⟨f0, _⟩, ⟨f1, _⟩, ⟨f2, _⟩, ⟨f3, _⟩⟩ := cells4f 0 hfin rfl
        exact bodyPost_ret (v := .tuple #[insV (b0.toNat, VA, 0, 0), .int .i64 0]) (by simp [results, insV, Try.results25, go_sem, f0, f1, f2, f3]) rfl ⟨by rw [hg.out] <;> simp, hfin.below⟩
      · have hz1 := Lib.hid (beq_eq_false_iff_ne.2 z1)
        have hn1 : ((b3.toNat : Int) != 0) = true := by
          have := mt (fun h : b3.toNat = 0 => UInt8.toNat_inj.1 (by simpa using h)) z1
          simpa using this
        rw [rounds_succ]
        obtain ⟨⟨a0, _⟩, ⟨a1, _⟩, ⟨a2, _⟩, ⟨a3, _⟩⟩ := cells4f 1 m0 rfl; obtain ⟨⟨c0, k0⟩, ⟨c1, k1⟩, ⟨c2, k2⟩, ⟨c3, k3⟩⟩ := cells4f 0 m0 rfl
        go_wp2_with fail
        have hfin := ((((m0.cset 0 rfl 0 (.int .i64 0)).cset 0 rfl 1 (.int .i64 0)).cset 0 rfl 2 (.int .i64 0)).cset 0 rfl 3 (.int .i64 0))
        clear a0 a1 a2 a3 c0 c1 c2 c3 k0 k1 k2 k3 m0
        generalize (((u0.setCell ⟨rb, 0, none⟩ (.int .i64 0)).setCell ⟨rb, 1, none⟩ (.int .i64 0)).setCell ⟨rb, 2, none⟩ (.int .i64 0)).setCell ⟨rb, 3, none⟩ (.int .i64 0) = uf at *
        obtain ⟨⟨f0, _⟩, ⟨f1, _⟩, ⟨f2, _⟩, ⟨f3, _⟩⟩ := cells4f 0 hfin rfl
        exact bodyPost_ret (v := .tuple #[insV (0, 0, 0, 0), .int .i64 4]) (by simp [results, insV, Try.results25, go_sem, f0, f1, f2, f3]) rfl ⟨by rw [hg.out]; simp [hz1.out], hfin.below⟩
    · have hz0 := Lib.hid (beq_eq_false_iff_ne.2 z0)
      have hn0 : ((b2.toNat : Int) != 0) = true := by
        have := mt (fun h : b2.toNat = 0 => UInt8.toNat_inj.1 (by simpa using h)) z0
        simpa using this
      rw [rounds_succ]
      obtain ⟨⟨a0, _⟩, ⟨a1, _⟩, ⟨a2, _⟩, ⟨a3, _⟩⟩ := cells4f 1 m0 rfl; obtain ⟨⟨c0, k0⟩, ⟨c1, k1⟩, ⟨c2, k2⟩, ⟨c3, k3⟩⟩ := cells4f 0 m0 rfl
      go_wp2_with fail
      have hfin := ((((m0.cset 0 rfl 0 (.int .i64 0)).cset 0 rfl 1 (.int .i64 0)).cset 0 rfl 2 (.int .i64 0)).cset 0 rfl 3 (.int .i64 0))
      clear a0 a1 a2 a3 c0 c1 c2 c3 k0 k1 k2 k3 m0
      generalize (((u0.setCell ⟨rb, 0, none⟩ (.int .i64 0)).setCell ⟨rb, 1, none⟩ (.int .i64 0)).setCell ⟨rb, 2, none⟩ (.int .i64 0)).setCell ⟨rb, 3, none⟩ (.int .i64 0) = uf at *
      obtain ⟨⟨f0, _⟩, ⟨f1, _⟩, ⟨f2, _⟩, ⟨f3, _⟩⟩ := cells4f 0 hfin rfl
      exact bodyPost_ret (v := .tuple #[insV (0, 0, 0, 0), .int .i64 4]) (by simp [results, insV, Try.results25, go_sem, f0, f1, f2, f3]) rfl ⟨by rw [hg.out]; simp [hz0.out], hfin.below⟩
  · rw [if_pos hEz] at hg
    have hne : (E != 0) = true := by simpa using hEz
    go_wp2_with (first | (go_at_call 26; refine C.out.mono ?_; rintro e u0 ⟨rfl, m0⟩; obtain ⟨⟨a0, _⟩, ⟨a1, _⟩, ⟨a2, _⟩, ⟨a3, _⟩⟩ := cells4f 1 m0 rfl; obtain ⟨⟨c0, k0⟩, ⟨c1, k1⟩, ⟨c2, k2⟩, ⟨c3, k3⟩⟩ := cells4f 0 m0 rfl))
    clear C r2 g1 e0 e1 e2 t0 t1 t2 t3 hE hHeld
    have hfin := ((((m0.cset 0 rfl 0 (.int .i64 0)).cset 0 rfl 1 (.int .i64 0)).cset 0 rfl 2 (.int .i64 0)).cset 0 rfl 3 (.int .i64 0))
    clear a0 a1 a2 a3 c0 c1 c2 c3 k0 k1 k2 k3 m0
    generalize (((u0.setCell ⟨rb, 0, none⟩ (.int .i64 0)).setCell ⟨rb, 1, none⟩ (.int .i64 0)).setCell ⟨rb, 2, none⟩ (.int .i64 0)).setCell ⟨rb, 3, none⟩ (.int .i64 0) = uf at *
    obtain ⟨⟨f0, _⟩, ⟨f1, _⟩, ⟨f2, _⟩, ⟨f3, _⟩⟩ := cells4f 0 hfin rfl
    exact bodyPost_ret (v := .tuple #[insV (0, 0, 0, 0), .int .i64 E]) (by simp [results, insV, Try.results25, go_sem, f0, f1, f2, f3]) rfl ⟨by rw [hg.out] <;> simp, hfin.below⟩
end Go.Proofs.Ytboiogjklecpaaa
