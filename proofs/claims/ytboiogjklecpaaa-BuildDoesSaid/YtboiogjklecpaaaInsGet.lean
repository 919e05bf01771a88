/- Package ins: the instruction that bytes are. -/
import Derived.Test.YtboiogjklecpaaaInsPut
set_option linter.unusedVariables false
set_option linter.unusedSimpArgs false
namespace Go.Proofs.Ytboiogjklecpaaa
open Go.RowKit
set_option maxRecDepth 100000
set_option maxHeartbeats 8000000
/-- An instruction as a value. -/
def insV (x : Int × Int × Int × Int) : Value := .agg #[.int .i64 x.1, .int .i64 x.2.1, .int .i64 x.2.2.1, .int .i64 x.2.2.2]
theorem own_cut {w0 w : World} {L : List Ast} (h : Own w0 w L) (l : List UInt8) : Calls Try.prog 55 #[.string ⟨l.toArray⟩] w fun e w' => ∃ cb, e = .returned (.pointer (some ⟨cb, 0, none⟩)) ∧ Own w0 w' (L ++ [cellsA cb #[.string ⟨l.toArray⟩, .bool false] 104]) := by
  refine (new_any l w).mono ?_
  rintro e w' ⟨rfl, hc, ht, hz⟩
  exact ⟨_, rfl, h.push ⟨ht.os, ht.tape, ht.output, ht.size, fun k hk => ht.block k hk (fun h => h)⟩ (cellsA w.heap.size #[.string ⟨l.toArray⟩, .bool false] 104) hc (fun k hk => by cases hk; exact Nat.le_refl _)⟩
theorem own_num {w0 w : World} {L : List Ast} (h : Own w0 w L) (i : Nat) {cb : Nat} {l : List UInt8} (hi : L[i]? = some (cellsA cb #[.string ⟨l.toArray⟩, .bool false] 104)) (k : Int) (j : Nat) (hj : hs k = j) (hl : j ≤ l.length) (hm : l.length ≤ 100000) (x : Int) (hx : ofB (l.take j) = x) (l' : List UInt8) (hl' : l.drop j = l') : Calls Try.prog 56 #[.pointer (some ⟨cb, 0, none⟩), .int .i64 k] w fun e w' => e = .returned (.int .i64 x) ∧ Own w0 w' (L.set i (cellsA cb #[.string ⟨l'.toArray⟩, .bool false] 104)) := by
  have hc : CutIs w cb l false := h.at i hi
  have := num_any cb l false k w hc (by omega)
  rw [hj, numOf_fits l j (by omega)] at this
  refine this.mono ?_
  rintro e w' ⟨rfl, hc', ht, hz⟩
  subst hx hl'
  exact ⟨rfl, h.move i hi ⟨hc', ht, fun k hk => .inl hk⟩⟩
theorem own_left {w0 w : World} {L : List Ast} (h : Own w0 w L) (i : Nat) {cb : Nat} {l : List UInt8} (hi : L[i]? = some (cellsA cb #[.string ⟨l.toArray⟩, .bool false] 104)) (n : Nat) (hn : l.length = n) : Calls Try.prog 58 #[.pointer (some ⟨cb, 0, none⟩)] w fun e w' => e = .returned (.int .i64 n) ∧ w = w' := by
  subst hn
  exact left_any cb l false w (h.at i hi)
theorem sgn_call (n k : Int) (j : Nat) (hj : hs k = j) (x : Int) (hx : sgn n j = x) (w : World) : Calls Try.prog 57 #[.int .i64 n, .int .i64 k] w fun e w' => e = .returned (.int .i64 x) ∧ w = w' := by
  subst hj hx
  exact signed_any n k w
theorem get_short (l : List UInt8) (h : l.length < 4) (w : World) : Calls Try.prog 23 #[.string ⟨l.toArray⟩] w fun e w' => e = .returned (.tuple #[insV (0, 0, 0, 0), .int .i64 1]) ∧ Below w.heap.size w w' := by
  go_enter Try.func23, Try.ntmps23
  go_wp2
  exact bodyPost_ret (v := .tuple #[insV (0, 0, 0, 0), .int .i64 1]) (by simp [results, insV, Try.results23, go_sem]) rfl ⟨rfl, by go_grown⟩
theorem get_more (l : List UInt8) (h : 4 < l.length) (w : World) : Calls Try.prog 23 #[.string ⟨l.toArray⟩] w fun e w' => e = .returned (.tuple #[insV (0, 0, 0, 0), .int .i64 2]) ∧ Below w.heap.size w w' := by
  go_enter Try.func23, Try.ntmps23
  go_wp2
  exact bodyPost_ret (v := .tuple #[insV (0, 0, 0, 0), .int .i64 2]) (by simp [results, insV, Try.results23, go_sem]) rfl ⟨rfl, by go_grown⟩
theorem cells4f {w0 w : World} {l : List Ast} {b : Nat} {v0 v1 v2 v3 : Value} {t : TypeId} (i : Nat) (h : Own w0 w l) (hi : l[i]? = some (cellsA b #[v0, v1, v2, v3] t)) : (w.cell? ⟨b, 0, none⟩ = some v0 ∧ w.frozen? ⟨b, 0, none⟩ = false) ∧ (w.cell? ⟨b, 1, none⟩ = some v1 ∧ w.frozen? ⟨b, 1, none⟩ = false) ∧ (w.cell? ⟨b, 2, none⟩ = some v2 ∧ w.frozen? ⟨b, 2, none⟩ = false) ∧ (w.cell? ⟨b, 3, none⟩ = some v3 ∧ w.frozen? ⟨b, 3, none⟩ = false) :=
  ⟨h.cget i hi 0, h.cget i hi 1, h.cget i hi 2, h.cget i hi 3⟩
theorem ofB_zero {b : UInt8} (h : ofB [b] = 0) : b = 0 := by
  rw [ofB_one] at h
  exact UInt8.toNat_inj.1 (by simpa using (show b.toNat = 0 by omega))
theorem ofB_nz {b : UInt8} {x : Int} (h : ofB [b] = x) (hx : x ≠ 0) : (b == 0) = false := by
  rw [beq_eq_false_iff_ne]
  rintro rfl
  exact hx (by rw [← h]; rfl)
theorem get_rrr (b0 b1 b2 b3 : UInt8) (hF : formL (ofB [b0]) = [114, 114, 114]) (w : World) : Calls Try.prog 23 #[.string ⟨([b0, b1, b2, b3] : List UInt8).toArray⟩] w fun e w' => e = .returned (.tuple #[insV (getI [b0, b1, b2, b3]).1, .int .i64 (getI [b0, b1, b2, b3]).2]) ∧ Below w.heap.size w w' := by
  have h2 := ((Own.nil (Below.refl _ w)).box #[.int .i64 0, .int .i64 0, .int .i64 0, .int .i64 0] 30).box #[.int .i64 0, .int .i64 0, .int .i64 0, .int .i64 0] 30
  rw [World.size_alloc] at h2
  have FM := fun w1 => form_any (ofB [b0]) w1
  rw [hF] at FM
  replace FM := Lib.hid FM
  replace hF := Lib.hid hF
  obtain ⟨OP, hOP⟩ : ∃ x, ofB [b0] = x := ⟨_, rfl⟩
  have hOP' := hOP
  rw [hOP] at FM hF
  replace hOP' := Lib.hid hOP'
  go_enter Try.func23, Try.ntmps23
  go_wp2_with fail
  go_at_call 55
  refine (own_cut h2 [b0, b1, b2, b3]).mono ?_
  rintro e v0 ⟨cb, rfl, h3⟩
  clear h2
  obtain ⟨nb, hnb⟩ : ∃ nb, w.heap.size + 1 = nb := ⟨_, rfl⟩
  rw [hnb] at h3 ⊢
  generalize hrb : w.heap.size = rb at h3 ⊢
  clear hnb
  go_wp2_with fail
  go_at_call 56
  refine (own_num h3 2 rfl 1 1 (by decide) (by simp) (by simp) OP hOP [b1, b2, b3] rfl).mono ?_
  rintro e v1 ⟨rfl, h4⟩
  clear h3 hOP
  go_wp2_with fail
  go_at_call 18
  refine (FM.out _).mono ?_
  rintro e v2 ⟨rfl, rfl⟩
  clear FM
  go_wp2_with fail
  have h5 := h4.box #[.int .i64 0, .int .i64 0, .int .i64 0] 74
  clear h4
  generalize v1.alloc (.cells #[.int .i64 0, .int .i64 0, .int .i64 0] 74) = x0 at *
  generalize v1.heap.size = B at *
  have g0 : Own w x0 [cellsA rb #[.int .i64 0, .int .i64 0, .int .i64 0, .int .i64 0] 30, cellsA nb #[.int .i64 0, .int .i64 0, .int .i64 0, .int .i64 0] 30, cellsA cb #[.string ⟨([b1, b2, b3] : List UInt8).toArray⟩, .bool false] 104, cellsA B #[.int .i64 0, .int .i64 0, .int .i64 0] 74] := h5
  clear h5
  refine wp_loop_rounds 4 ?_
  obtain ⟨VA, hVA⟩ : ∃ x, ofB [b1] = x := ⟨_, rfl⟩
  have hVA' := Lib.hid hVA
  rw [rounds_succ]
  go_wp2_with (first | (go_at_call 53; refine (wide_r _).mono ?_; rintro e w1 ⟨rfl, rfl⟩) | (go_at_call 56; refine (own_num g0 2 rfl 1 1 (by decide) (by simp) (by simp) VA hVA [b2, b3] rfl).mono ?_; rintro e y0 ⟨rfl, p0⟩; obtain ⟨d0, k0⟩ := p0.cget 3 rfl 0; simp at d0))
  have g1 : Own w (y0.setCell ⟨B, 0, none⟩ (.int .i64 VA)) [cellsA rb #[.int .i64 0, .int .i64 0, .int .i64 0, .int .i64 0] 30, cellsA nb #[.int .i64 0, .int .i64 0, .int .i64 0, .int .i64 0] 30, cellsA cb #[.string ⟨([b2, b3] : List UInt8).toArray⟩, .bool false] 104, cellsA B #[.int .i64 VA, .int .i64 0, .int .i64 0] 74] := p0.cset 3 rfl 0 (.int .i64 VA)
  clear g0 p0 d0 k0 hVA
  generalize y0.setCell ⟨B, 0, none⟩ (.int .i64 VA) = x1 at *
  obtain ⟨VB, hVB⟩ : ∃ x, ofB [b2] = x := ⟨_, rfl⟩
  have hVB' := Lib.hid hVB
  rw [rounds_succ]
  go_wp2_with (first | (go_at_call 53; refine (wide_r _).mono ?_; rintro e w1 ⟨rfl, rfl⟩) | (go_at_call 56; refine (own_num g1 2 rfl 1 1 (by decide) (by simp) (by simp) VB hVB [b3] rfl).mono ?_; rintro e y1 ⟨rfl, p1⟩; obtain ⟨d1, k1⟩ := p1.cget 3 rfl 1; simp at d1))
  have g2 : Own w (y1.setCell ⟨B, 1, none⟩ (.int .i64 VB)) [cellsA rb #[.int .i64 0, .int .i64 0, .int .i64 0, .int .i64 0] 30, cellsA nb #[.int .i64 0, .int .i64 0, .int .i64 0, .int .i64 0] 30, cellsA cb #[.string ⟨([b3] : List UInt8).toArray⟩, .bool false] 104, cellsA B #[.int .i64 VA, .int .i64 VB, .int .i64 0] 74] := p1.cset 3 rfl 1 (.int .i64 VB)
  clear g1 p1 d1 k1 hVB
  generalize y1.setCell ⟨B, 1, none⟩ (.int .i64 VB) = x2 at *
  obtain ⟨VC, hVC⟩ : ∃ x, ofB [b3] = x := ⟨_, rfl⟩
  have hVC' := Lib.hid hVC
  rw [rounds_succ]
  go_wp2_with (first | (go_at_call 53; refine (wide_r _).mono ?_; rintro e w1 ⟨rfl, rfl⟩) | (go_at_call 56; refine (own_num g2 2 rfl 1 1 (by decide) (by simp) (by simp) VC hVC [] rfl).mono ?_; rintro e y2 ⟨rfl, p2⟩; obtain ⟨d2, k2⟩ := p2.cget 3 rfl 2; simp at d2))
  have g3 : Own w (y2.setCell ⟨B, 2, none⟩ (.int .i64 VC)) [cellsA rb #[.int .i64 0, .int .i64 0, .int .i64 0, .int .i64 0] 30, cellsA nb #[.int .i64 0, .int .i64 0, .int .i64 0, .int .i64 0] 30, cellsA cb #[.string ⟨([] : List UInt8).toArray⟩, .bool false] 104, cellsA B #[.int .i64 VA, .int .i64 VB, .int .i64 VC] 74] := p2.cset 3 rfl 2 (.int .i64 VC)
  clear g2 p2 d2 k2 hVC
  generalize y2.setCell ⟨B, 2, none⟩ (.int .i64 VC) = x3 at *
  have hg : getI [b0, b1, b2, b3] = if checkI OP VA VB VC ≠ 0 then ((0, 0, 0, 0), checkI OP VA VB VC) else if ([] : List UInt8).all (· == 0) = true then ((OP, VA, VB, VC), 0) else ((0, 0, 0, 0), 4) := by
    unfold getI
    rw [show ([b0, b1, b2, b3] : List UInt8).take 1 = [b0] from rfl, hOP'.out]
    dsimp only
    rw [hF.out]
    simp [readF, wideL, hVA'.out, hVB'.out, hVC'.out]
  obtain ⟨E, hE⟩ : ∃ x, checkI OP VA VB VC = x := ⟨_, rfl⟩
  rw [hE] at hg
  replace hg := Lib.hid hg
  rw [rounds_succ]
  go_upto_region 17 with fail
  obtain ⟨e0, _⟩ := g3.cget 3 rfl 0
  obtain ⟨e1, _⟩ := g3.cget 3 rfl 1
  obtain ⟨e2, _⟩ := g3.cget 3 rfl 2
  simp at e0 e1 e2
  go_upto_region 18 with fail
  have r0 : Own w (x3.alloc (.cells #[.int .i64 OP, .int .i64 VA, .int .i64 VB, .int .i64 VC] 30)) [cellsA rb #[.int .i64 0, .int .i64 0, .int .i64 0, .int .i64 0] 30, cellsA nb #[.int .i64 0, .int .i64 0, .int .i64 0, .int .i64 0] 30, cellsA cb #[.string ⟨([] : List UInt8).toArray⟩, .bool false] 104, cellsA B #[.int .i64 VA, .int .i64 VB, .int .i64 VC] 74, cellsA x3.heap.size #[.int .i64 OP, .int .i64 VA, .int .i64 VB, .int .i64 VC] 30] := g3.box #[.int .i64 OP, .int .i64 VA, .int .i64 VB, .int .i64 VC] 30
  have C := Lib.hid (Own.lift (check_any OP VA VB VC _) r0 _ rfl)
  rw [hE] at C
  generalize x3.alloc (.cells #[.int .i64 OP, .int .i64 VA, .int .i64 VB, .int .i64 VC] 30) = xa at *
  generalize x3.heap.size = tb at *
  obtain ⟨⟨t0, _⟩, ⟨t1, _⟩, ⟨t2, _⟩, ⟨t3, _⟩⟩ := cells4f 4 r0 rfl
  by_cases hEz : E = 0
  · subst hEz
    rw [if_neg (by simp)] at hg
    go_wp2_with (first | (go_at_call 24; refine C.out.mono ?_; rintro e u0 ⟨rfl, m0⟩))
    clear C r0 g3 e0 e1 e2 t0 t1 t2 t3 hE
    refine wp_loop_rounds 1 ?_
    rw [rounds_succ]
    obtain ⟨⟨a0, _⟩, ⟨a1, _⟩, ⟨a2, _⟩, ⟨a3, _⟩⟩ := cells4f 4 m0 rfl
    obtain ⟨⟨c0, k0⟩, ⟨c1, k1⟩, ⟨c2, k2⟩, ⟨c3, k3⟩⟩ := cells4f 0 m0 rfl
    go_wp2_with (first | (go_at_call 58; refine (own_left m0 2 rfl 0 rfl).mono ?_; rintro e w1 ⟨rfl, rfl⟩))
    have hfin := ((((m0.cset 0 rfl 0 (.int .i64 OP)).cset 0 rfl 1 (.int .i64 VA)).cset 0 rfl 2 (.int .i64 VB)).cset 0 rfl 3 (.int .i64 VC))
    clear a0 a1 a2 a3 c0 c1 c2 c3 k0 k1 k2 k3 m0
    generalize (((u0.setCell ⟨rb, 0, none⟩ (.int .i64 OP)).setCell ⟨rb, 1, none⟩ (.int .i64 VA)).setCell ⟨rb, 2, none⟩ (.int .i64 VB)).setCell ⟨rb, 3, none⟩ (.int .i64 VC) = uf at *
    obtain ⟨⟨f0, _⟩, ⟨f1, _⟩, ⟨f2, _⟩, ⟨f3, _⟩⟩ := cells4f 0 hfin rfl
    exact bodyPost_ret (v := .tuple #[insV (OP, VA, VB, VC), .int .i64 0]) (by simp [results, insV, Try.results23, go_sem, f0, f1, f2, f3]) rfl ⟨by rw [hg.out] <;> simp, hfin.below⟩
  · rw [if_pos hEz] at hg
    have hne : (E != 0) = true := by simpa using hEz
    go_wp2_with (first | (go_at_call 24; refine C.out.mono ?_; rintro e u0 ⟨rfl, m0⟩; obtain ⟨⟨a0, _⟩, ⟨a1, _⟩, ⟨a2, _⟩, ⟨a3, _⟩⟩ := cells4f 1 m0 rfl; obtain ⟨⟨c0, k0⟩, ⟨c1, k1⟩, ⟨c2, k2⟩, ⟨c3, k3⟩⟩ := cells4f 0 m0 rfl))
    clear C r0 g3 e0 e1 e2 t0 t1 t2 t3 hE
    have hfin := ((((m0.cset 0 rfl 0 (.int .i64 0)).cset 0 rfl 1 (.int .i64 0)).cset 0 rfl 2 (.int .i64 0)).cset 0 rfl 3 (.int .i64 0))
    clear a0 a1 a2 a3 c0 c1 c2 c3 k0 k1 k2 k3 m0
    generalize (((u0.setCell ⟨rb, 0, none⟩ (.int .i64 0)).setCell ⟨rb, 1, none⟩ (.int .i64 0)).setCell ⟨rb, 2, none⟩ (.int .i64 0)).setCell ⟨rb, 3, none⟩ (.int .i64 0) = uf at *
    obtain ⟨⟨f0, _⟩, ⟨f1, _⟩, ⟨f2, _⟩, ⟨f3, _⟩⟩ := cells4f 0 hfin rfl
    exact bodyPost_ret (v := .tuple #[insV (0, 0, 0, 0), .int .i64 E]) (by simp [results, insV, Try.results23, go_sem, f0, f1, f2, f3]) rfl ⟨by rw [hg.out] <;> simp, hfin.below⟩
theorem get_rr (b0 b1 b2 b3 : UInt8) (hF : formL (ofB [b0]) = [114, 114]) (w : World) : Calls Try.prog 23 #[.string ⟨([b0, b1, b2, b3] : List UInt8).toArray⟩] w fun e w' => e = .returned (.tuple #[insV (getI [b0, b1, b2, b3]).1, .int .i64 (getI [b0, b1, b2, b3]).2]) ∧ Below w.heap.size w w' := by
  have h2 := ((Own.nil (Below.refl _ w)).box #[.int .i64 0, .int .i64 0, .int .i64 0, .int .i64 0] 30).box #[.int .i64 0, .int .i64 0, .int .i64 0, .int .i64 0] 30
  rw [World.size_alloc] at h2
  have FM := fun w1 => form_any (ofB [b0]) w1
  rw [hF] at FM
  replace FM := Lib.hid FM
  replace hF := Lib.hid hF
  obtain ⟨OP, hOP⟩ : ∃ x, ofB [b0] = x := ⟨_, rfl⟩
  have hOP' := hOP
  rw [hOP] at FM hF
  replace hOP' := Lib.hid hOP'
  go_enter Try.func23, Try.ntmps23
  go_wp2_with fail
  go_at_call 55
  refine (own_cut h2 [b0, b1, b2, b3]).mono ?_
  rintro e v0 ⟨cb, rfl, h3⟩
  clear h2
  obtain ⟨nb, hnb⟩ : ∃ nb, w.heap.size + 1 = nb := ⟨_, rfl⟩
  rw [hnb] at h3 ⊢
  generalize hrb : w.heap.size = rb at h3 ⊢
  clear hnb
  go_wp2_with fail
  go_at_call 56
  refine (own_num h3 2 rfl 1 1 (by decide) (by simp) (by simp) OP hOP [b1, b2, b3] rfl).mono ?_
  rintro e v1 ⟨rfl, h4⟩
  clear h3 hOP
  go_wp2_with fail
  go_at_call 18
  refine (FM.out _).mono ?_
  rintro e v2 ⟨rfl, rfl⟩
  clear FM
  go_wp2_with fail
  have h5 := h4.box #[.int .i64 0, .int .i64 0, .int .i64 0] 74
  clear h4
  generalize v1.alloc (.cells #[.int .i64 0, .int .i64 0, .int .i64 0] 74) = x0 at *
  generalize v1.heap.size = B at *
  have g0 : Own w x0 [cellsA rb #[.int .i64 0, .int .i64 0, .int .i64 0, .int .i64 0] 30, cellsA nb #[.int .i64 0, .int .i64 0, .int .i64 0, .int .i64 0] 30, cellsA cb #[.string ⟨([b1, b2, b3] : List UInt8).toArray⟩, .bool false] 104, cellsA B #[.int .i64 0, .int .i64 0, .int .i64 0] 74] := h5
  clear h5
  refine wp_loop_rounds 3 ?_
  obtain ⟨VA, hVA⟩ : ∃ x, ofB [b1] = x := ⟨_, rfl⟩
  have hVA' := Lib.hid hVA
  rw [rounds_succ]
  go_wp2_with (first | (go_at_call 53; refine (wide_r _).mono ?_; rintro e w1 ⟨rfl, rfl⟩) | (go_at_call 56; refine (own_num g0 2 rfl 1 1 (by decide) (by simp) (by simp) VA hVA [b2, b3] rfl).mono ?_; rintro e y0 ⟨rfl, p0⟩; obtain ⟨d0, k0⟩ := p0.cget 3 rfl 0; simp at d0))
  have g1 : Own w (y0.setCell ⟨B, 0, none⟩ (.int .i64 VA)) [cellsA rb #[.int .i64 0, .int .i64 0, .int .i64 0, .int .i64 0] 30, cellsA nb #[.int .i64 0, .int .i64 0, .int .i64 0, .int .i64 0] 30, cellsA cb #[.string ⟨([b2, b3] : List UInt8).toArray⟩, .bool false] 104, cellsA B #[.int .i64 VA, .int .i64 0, .int .i64 0] 74] := p0.cset 3 rfl 0 (.int .i64 VA)
  clear g0 p0 d0 k0 hVA
  generalize y0.setCell ⟨B, 0, none⟩ (.int .i64 VA) = x1 at *
  obtain ⟨VB, hVB⟩ : ∃ x, ofB [b2] = x := ⟨_, rfl⟩
  have hVB' := Lib.hid hVB
  rw [rounds_succ]
  go_wp2_with (first | (go_at_call 53; refine (wide_r _).mono ?_; rintro e w1 ⟨rfl, rfl⟩) | (go_at_call 56; refine (own_num g1 2 rfl 1 1 (by decide) (by simp) (by simp) VB hVB [b3] rfl).mono ?_; rintro e y1 ⟨rfl, p1⟩; obtain ⟨d1, k1⟩ := p1.cget 3 rfl 1; simp at d1))
  have g2 : Own w (y1.setCell ⟨B, 1, none⟩ (.int .i64 VB)) [cellsA rb #[.int .i64 0, .int .i64 0, .int .i64 0, .int .i64 0] 30, cellsA nb #[.int .i64 0, .int .i64 0, .int .i64 0, .int .i64 0] 30, cellsA cb #[.string ⟨([b3] : List UInt8).toArray⟩, .bool false] 104, cellsA B #[.int .i64 VA, .int .i64 VB, .int .i64 0] 74] := p1.cset 3 rfl 1 (.int .i64 VB)
  clear g1 p1 d1 k1 hVB
  generalize y1.setCell ⟨B, 1, none⟩ (.int .i64 VB) = x2 at *
  have hg : getI [b0, b1, b2, b3] = if checkI OP VA VB 0 ≠ 0 then ((0, 0, 0, 0), checkI OP VA VB 0) else if ([b3] : List UInt8).all (· == 0) = true then ((OP, VA, VB, 0), 0) else ((0, 0, 0, 0), 4) := by
    unfold getI
    rw [show ([b0, b1, b2, b3] : List UInt8).take 1 = [b0] from rfl, hOP'.out]
    dsimp only
    rw [hF.out]
    simp [readF, wideL, hVA'.out, hVB'.out]
  obtain ⟨E, hE⟩ : ∃ x, checkI OP VA VB 0 = x := ⟨_, rfl⟩
  rw [hE] at hg
  replace hg := Lib.hid hg
  rw [rounds_succ]
  go_upto_region 17 with fail
  obtain ⟨e0, _⟩ := g2.cget 3 rfl 0
  obtain ⟨e1, _⟩ := g2.cget 3 rfl 1
  obtain ⟨e2, _⟩ := g2.cget 3 rfl 2
  simp at e0 e1 e2
  go_upto_region 18 with fail
  have r0 : Own w (x2.alloc (.cells #[.int .i64 OP, .int .i64 VA, .int .i64 VB, .int .i64 0] 30)) [cellsA rb #[.int .i64 0, .int .i64 0, .int .i64 0, .int .i64 0] 30, cellsA nb #[.int .i64 0, .int .i64 0, .int .i64 0, .int .i64 0] 30, cellsA cb #[.string ⟨([b3] : List UInt8).toArray⟩, .bool false] 104, cellsA B #[.int .i64 VA, .int .i64 VB, .int .i64 0] 74, cellsA x2.heap.size #[.int .i64 OP, .int .i64 VA, .int .i64 VB, .int .i64 0] 30] := g2.box #[.int .i64 OP, .int .i64 VA, .int .i64 VB, .int .i64 0] 30
  have C := Lib.hid (Own.lift (check_any OP VA VB 0 _) r0 _ rfl)
  rw [hE] at C
  generalize x2.alloc (.cells #[.int .i64 OP, .int .i64 VA, .int .i64 VB, .int .i64 0] 30) = xa at *
  generalize x2.heap.size = tb at *
  obtain ⟨⟨t0, _⟩, ⟨t1, _⟩, ⟨t2, _⟩, ⟨t3, _⟩⟩ := cells4f 4 r0 rfl
  by_cases hEz : E = 0
  · subst hEz
    rw [if_neg (by simp)] at hg
    go_wp2_with (first | (go_at_call 24; refine C.out.mono ?_; rintro e u0 ⟨rfl, m0⟩))
    clear C r0 g2 e0 e1 e2 t0 t1 t2 t3 hE
    refine wp_loop_rounds 2 ?_
    rw [rounds_succ]
    obtain ⟨Z0, hZ0⟩ : ∃ x, ofB [b3] = x := ⟨_, rfl⟩
    by_cases z0 : Z0 = 0
    · subst z0
      have y0 := Lib.hid (ofB_zero hZ0)
      go_wp2_with (first | (go_at_call 58; refine (own_left m0 2 rfl 1 rfl).mono ?_; rintro e w1 ⟨rfl, rfl⟩) | (go_at_call 56; refine (own_num m0 2 rfl 1 1 (by decide) (by simp) (by simp) 0 hZ0 [] rfl).mono ?_; rintro e u1 ⟨rfl, m1⟩))
      rw [rounds_succ]
      obtain ⟨⟨a0, _⟩, ⟨a1, _⟩, ⟨a2, _⟩, ⟨a3, _⟩⟩ := cells4f 4 m1 rfl
      obtain ⟨⟨c0, k0⟩, ⟨c1, k1⟩, ⟨c2, k2⟩, ⟨c3, k3⟩⟩ := cells4f 0 m1 rfl
      go_wp2_with (first | (go_at_call 58; refine (own_left m1 2 rfl 0 rfl).mono ?_; rintro e w1 ⟨rfl, rfl⟩))
      have hfin := ((((m1.cset 0 rfl 0 (.int .i64 OP)).cset 0 rfl 1 (.int .i64 VA)).cset 0 rfl 2 (.int .i64 VB)).cset 0 rfl 3 (.int .i64 0))
      clear a0 a1 a2 a3 c0 c1 c2 c3 k0 k1 k2 k3 m1
      generalize (((u1.setCell ⟨rb, 0, none⟩ (.int .i64 OP)).setCell ⟨rb, 1, none⟩ (.int .i64 VA)).setCell ⟨rb, 2, none⟩ (.int .i64 VB)).setCell ⟨rb, 3, none⟩ (.int .i64 0) = uf at *
      obtain ⟨⟨f0, _⟩, ⟨f1, _⟩, ⟨f2, _⟩, ⟨f3, _⟩⟩ := cells4f 0 hfin rfl
      exact bodyPost_ret (v := .tuple #[insV (OP, VA, VB, 0), .int .i64 0]) (by simp [results, insV, Try.results23, go_sem, f0, f1, f2, f3]) rfl ⟨by rw [hg.out]; simp [y0.out], hfin.below⟩
    · have y0 := Lib.hid (ofB_nz hZ0 z0)
      have hn0 : (Z0 != 0) = true := by simpa using z0
      go_wp2_with (first | (go_at_call 58; refine (own_left m0 2 rfl 1 rfl).mono ?_; rintro e w1 ⟨rfl, rfl⟩) | (go_at_call 56; refine (own_num m0 2 rfl 1 1 (by decide) (by simp) (by simp) Z0 hZ0 [] rfl).mono ?_; rintro e u1 ⟨rfl, m1⟩; obtain ⟨⟨a0, _⟩, ⟨a1, _⟩, ⟨a2, _⟩, ⟨a3, _⟩⟩ := cells4f 1 m1 rfl; obtain ⟨⟨c0, k0⟩, ⟨c1, k1⟩, ⟨c2, k2⟩, ⟨c3, k3⟩⟩ := cells4f 0 m1 rfl))
      have hfin := ((((m1.cset 0 rfl 0 (.int .i64 0)).cset 0 rfl 1 (.int .i64 0)).cset 0 rfl 2 (.int .i64 0)).cset 0 rfl 3 (.int .i64 0))
      clear a0 a1 a2 a3 c0 c1 c2 c3 k0 k1 k2 k3 m1
      generalize (((u1.setCell ⟨rb, 0, none⟩ (.int .i64 0)).setCell ⟨rb, 1, none⟩ (.int .i64 0)).setCell ⟨rb, 2, none⟩ (.int .i64 0)).setCell ⟨rb, 3, none⟩ (.int .i64 0) = uf at *
      obtain ⟨⟨f0, _⟩, ⟨f1, _⟩, ⟨f2, _⟩, ⟨f3, _⟩⟩ := cells4f 0 hfin rfl
      exact bodyPost_ret (v := .tuple #[insV (0, 0, 0, 0), .int .i64 4]) (by simp [results, insV, Try.results23, go_sem, f0, f1, f2, f3]) rfl ⟨by rw [hg.out]; simp [y0.out], hfin.below⟩
  · rw [if_pos hEz] at hg
    have hne : (E != 0) = true := by simpa using hEz
    go_wp2_with (first | (go_at_call 24; refine C.out.mono ?_; rintro e u0 ⟨rfl, m0⟩; obtain ⟨⟨a0, _⟩, ⟨a1, _⟩, ⟨a2, _⟩, ⟨a3, _⟩⟩ := cells4f 1 m0 rfl; obtain ⟨⟨c0, k0⟩, ⟨c1, k1⟩, ⟨c2, k2⟩, ⟨c3, k3⟩⟩ := cells4f 0 m0 rfl))
    clear C r0 g2 e0 e1 e2 t0 t1 t2 t3 hE
    have hfin := ((((m0.cset 0 rfl 0 (.int .i64 0)).cset 0 rfl 1 (.int .i64 0)).cset 0 rfl 2 (.int .i64 0)).cset 0 rfl 3 (.int .i64 0))
    clear a0 a1 a2 a3 c0 c1 c2 c3 k0 k1 k2 k3 m0
    generalize (((u0.setCell ⟨rb, 0, none⟩ (.int .i64 0)).setCell ⟨rb, 1, none⟩ (.int .i64 0)).setCell ⟨rb, 2, none⟩ (.int .i64 0)).setCell ⟨rb, 3, none⟩ (.int .i64 0) = uf at *
    obtain ⟨⟨f0, _⟩, ⟨f1, _⟩, ⟨f2, _⟩, ⟨f3, _⟩⟩ := cells4f 0 hfin rfl
    exact bodyPost_ret (v := .tuple #[insV (0, 0, 0, 0), .int .i64 E]) (by simp [results, insV, Try.results23, go_sem, f0, f1, f2, f3]) rfl ⟨by rw [hg.out] <;> simp, hfin.below⟩
theorem get_r (b0 b1 b2 b3 : UInt8) (hF : formL (ofB [b0]) = [114]) (w : World) : Calls Try.prog 23 #[.string ⟨([b0, b1, b2, b3] : List UInt8).toArray⟩] w fun e w' => e = .returned (.tuple #[insV (getI [b0, b1, b2, b3]).1, .int .i64 (getI [b0, b1, b2, b3]).2]) ∧ Below w.heap.size w w' := by
  have h2 := ((Own.nil (Below.refl _ w)).box #[.int .i64 0, .int .i64 0, .int .i64 0, .int .i64 0] 30).box #[.int .i64 0, .int .i64 0, .int .i64 0, .int .i64 0] 30
  rw [World.size_alloc] at h2
  have FM := fun w1 => form_any (ofB [b0]) w1
  rw [hF] at FM
  replace FM := Lib.hid FM
  replace hF := Lib.hid hF
  obtain ⟨OP, hOP⟩ : ∃ x, ofB [b0] = x := ⟨_, rfl⟩
  have hOP' := hOP
  rw [hOP] at FM hF
  replace hOP' := Lib.hid hOP'
  go_enter Try.func23, Try.ntmps23
  go_wp2_with fail
  go_at_call 55
  refine (own_cut h2 [b0, b1, b2, b3]).mono ?_
  rintro e v0 ⟨cb, rfl, h3⟩
  clear h2
  obtain ⟨nb, hnb⟩ : ∃ nb, w.heap.size + 1 = nb := ⟨_, rfl⟩
  rw [hnb] at h3 ⊢
  generalize hrb : w.heap.size = rb at h3 ⊢
  clear hnb
  go_wp2_with fail
  go_at_call 56
  refine (own_num h3 2 rfl 1 1 (by decide) (by simp) (by simp) OP hOP [b1, b2, b3] rfl).mono ?_
  rintro e v1 ⟨rfl, h4⟩
  clear h3 hOP
  go_wp2_with fail
  go_at_call 18
  refine (FM.out _).mono ?_
  rintro e v2 ⟨rfl, rfl⟩
  clear FM
  go_wp2_with fail
  have h5 := h4.box #[.int .i64 0, .int .i64 0, .int .i64 0] 74
  clear h4
  generalize v1.alloc (.cells #[.int .i64 0, .int .i64 0, .int .i64 0] 74) = x0 at *
  generalize v1.heap.size = B at *
  have g0 : Own w x0 [cellsA rb #[.int .i64 0, .int .i64 0, .int .i64 0, .int .i64 0] 30, cellsA nb #[.int .i64 0, .int .i64 0, .int .i64 0, .int .i64 0] 30, cellsA cb #[.string ⟨([b1, b2, b3] : List UInt8).toArray⟩, .bool false] 104, cellsA B #[.int .i64 0, .int .i64 0, .int .i64 0] 74] := h5
  clear h5
  refine wp_loop_rounds 2 ?_
  obtain ⟨VA, hVA⟩ : ∃ x, ofB [b1] = x := ⟨_, rfl⟩
  have hVA' := Lib.hid hVA
  rw [rounds_succ]
  go_wp2_with (first | (go_at_call 53; refine (wide_r _).mono ?_; rintro e w1 ⟨rfl, rfl⟩) | (go_at_call 56; refine (own_num g0 2 rfl 1 1 (by decide) (by simp) (by simp) VA hVA [b2, b3] rfl).mono ?_; rintro e y0 ⟨rfl, p0⟩; obtain ⟨d0, k0⟩ := p0.cget 3 rfl 0; simp at d0))
  have g1 : Own w (y0.setCell ⟨B, 0, none⟩ (.int .i64 VA)) [cellsA rb #[.int .i64 0, .int .i64 0, .int .i64 0, .int .i64 0] 30, cellsA nb #[.int .i64 0, .int .i64 0, .int .i64 0, .int .i64 0] 30, cellsA cb #[.string ⟨([b2, b3] : List UInt8).toArray⟩, .bool false] 104, cellsA B #[.int .i64 VA, .int .i64 0, .int .i64 0] 74] := p0.cset 3 rfl 0 (.int .i64 VA)
  clear g0 p0 d0 k0 hVA
  generalize y0.setCell ⟨B, 0, none⟩ (.int .i64 VA) = x1 at *
  have hg : getI [b0, b1, b2, b3] = if checkI OP VA 0 0 ≠ 0 then ((0, 0, 0, 0), checkI OP VA 0 0) else if ([b2, b3] : List UInt8).all (· == 0) = true then ((OP, VA, 0, 0), 0) else ((0, 0, 0, 0), 4) := by
    unfold getI
    rw [show ([b0, b1, b2, b3] : List UInt8).take 1 = [b0] from rfl, hOP'.out]
    dsimp only
    rw [hF.out]
    simp [readF, wideL, hVA'.out]
  obtain ⟨E, hE⟩ : ∃ x, checkI OP VA 0 0 = x := ⟨_, rfl⟩
  rw [hE] at hg
  replace hg := Lib.hid hg
  rw [rounds_succ]
  go_upto_region 17 with fail
  obtain ⟨e0, _⟩ := g1.cget 3 rfl 0
  obtain ⟨e1, _⟩ := g1.cget 3 rfl 1
  obtain ⟨e2, _⟩ := g1.cget 3 rfl 2
  simp at e0 e1 e2
  go_upto_region 18 with fail
  have r0 : Own w (x1.alloc (.cells #[.int .i64 OP, .int .i64 VA, .int .i64 0, .int .i64 0] 30)) [cellsA rb #[.int .i64 0, .int .i64 0, .int .i64 0, .int .i64 0] 30, cellsA nb #[.int .i64 0, .int .i64 0, .int .i64 0, .int .i64 0] 30, cellsA cb #[.string ⟨([b2, b3] : List UInt8).toArray⟩, .bool false] 104, cellsA B #[.int .i64 VA, .int .i64 0, .int .i64 0] 74, cellsA x1.heap.size #[.int .i64 OP, .int .i64 VA, .int .i64 0, .int .i64 0] 30] := g1.box #[.int .i64 OP, .int .i64 VA, .int .i64 0, .int .i64 0] 30
  have C := Lib.hid (Own.lift (check_any OP VA 0 0 _) r0 _ rfl)
  rw [hE] at C
  generalize x1.alloc (.cells #[.int .i64 OP, .int .i64 VA, .int .i64 0, .int .i64 0] 30) = xa at *
  generalize x1.heap.size = tb at *
  obtain ⟨⟨t0, _⟩, ⟨t1, _⟩, ⟨t2, _⟩, ⟨t3, _⟩⟩ := cells4f 4 r0 rfl
  by_cases hEz : E = 0
  · subst hEz
    rw [if_neg (by simp)] at hg
    go_wp2_with (first | (go_at_call 24; refine C.out.mono ?_; rintro e u0 ⟨rfl, m0⟩))
    clear C r0 g1 e0 e1 e2 t0 t1 t2 t3 hE
    refine wp_loop_rounds 3 ?_
    rw [rounds_succ]
    obtain ⟨Z0, hZ0⟩ : ∃ x, ofB [b2] = x := ⟨_, rfl⟩
    by_cases z0 : Z0 = 0
    · subst z0
      have y0 := Lib.hid (ofB_zero hZ0)
      go_wp2_with (first | (go_at_call 58; refine (own_left m0 2 rfl 2 rfl).mono ?_; rintro e w1 ⟨rfl, rfl⟩) | (go_at_call 56; refine (own_num m0 2 rfl 1 1 (by decide) (by simp) (by simp) 0 hZ0 [b3] rfl).mono ?_; rintro e u1 ⟨rfl, m1⟩))
      rw [rounds_succ]
      obtain ⟨Z1, hZ1⟩ : ∃ x, ofB [b3] = x := ⟨_, rfl⟩
      by_cases z1 : Z1 = 0
      · subst z1
        have y1 := Lib.hid (ofB_zero hZ1)
        go_wp2_with (first | (go_at_call 58; refine (own_left m1 2 rfl 1 rfl).mono ?_; rintro e w1 ⟨rfl, rfl⟩) | (go_at_call 56; refine (own_num m1 2 rfl 1 1 (by decide) (by simp) (by simp) 0 hZ1 [] rfl).mono ?_; rintro e u2 ⟨rfl, m2⟩))
        rw [rounds_succ]
        obtain ⟨⟨a0, _⟩, ⟨a1, _⟩, ⟨a2, _⟩, ⟨a3, _⟩⟩ := cells4f 4 m2 rfl
        obtain ⟨⟨c0, k0⟩, ⟨c1, k1⟩, ⟨c2, k2⟩, ⟨c3, k3⟩⟩ := cells4f 0 m2 rfl
        go_wp2_with (first | (go_at_call 58; refine (own_left m2 2 rfl 0 rfl).mono ?_; rintro e w1 ⟨rfl, rfl⟩))
        have hfin := ((((m2.cset 0 rfl 0 (.int .i64 OP)).cset 0 rfl 1 (.int .i64 VA)).cset 0 rfl 2 (.int .i64 0)).cset 0 rfl 3 (.int .i64 0))
        clear a0 a1 a2 a3 c0 c1 c2 c3 k0 k1 k2 k3 m2
        generalize (((u2.setCell ⟨rb, 0, none⟩ (.int .i64 OP)).setCell ⟨rb, 1, none⟩ (.int .i64 VA)).setCell ⟨rb, 2, none⟩ (.int .i64 0)).setCell ⟨rb, 3, none⟩ (.int .i64 0) = uf at *
        obtain ⟨⟨f0, _⟩, ⟨f1, _⟩, ⟨f2, _⟩, ⟨f3, _⟩⟩ := cells4f 0 hfin rfl
        exact bodyPost_ret (v := .tuple #[insV (OP, VA, 0, 0), .int .i64 0]) (by simp [results, insV, Try.results23, go_sem, f0, f1, f2, f3]) rfl ⟨by rw [hg.out]; simp [y0.out, y1.out], hfin.below⟩
      · have y1 := Lib.hid (ofB_nz hZ1 z1)
        have hn1 : (Z1 != 0) = true := by simpa using z1
        go_wp2_with (first | (go_at_call 58; refine (own_left m1 2 rfl 1 rfl).mono ?_; rintro e w1 ⟨rfl, rfl⟩) | (go_at_call 56; refine (own_num m1 2 rfl 1 1 (by decide) (by simp) (by simp) Z1 hZ1 [] rfl).mono ?_; rintro e u2 ⟨rfl, m2⟩; obtain ⟨⟨a0, _⟩, ⟨a1, _⟩, ⟨a2, _⟩, ⟨a3, _⟩⟩ := cells4f 1 m2 rfl; obtain ⟨⟨c0, k0⟩, ⟨c1, k1⟩, ⟨c2, k2⟩, ⟨c3, k3⟩⟩ := cells4f 0 m2 rfl))
        have hfin := ((((m2.cset 0 rfl 0 (.int .i64 0)).cset 0 rfl 1 (.int .i64 0)).cset 0 rfl 2 (.int .i64 0)).cset 0 rfl 3 (.int .i64 0))
        clear a0 a1 a2 a3 c0 c1 c2 c3 k0 k1 k2 k3 m2
        generalize (((u2.setCell ⟨rb, 0, none⟩ (.int .i64 0)).setCell ⟨rb, 1, none⟩ (.int .i64 0)).setCell ⟨rb, 2, none⟩ (.int .i64 0)).setCell ⟨rb, 3, none⟩ (.int .i64 0) = uf at *
        obtain ⟨⟨f0, _⟩, ⟨f1, _⟩, ⟨f2, _⟩, ⟨f3, _⟩⟩ := cells4f 0 hfin rfl
        exact bodyPost_ret (v := .tuple #[insV (0, 0, 0, 0), .int .i64 4]) (by simp [results, insV, Try.results23, go_sem, f0, f1, f2, f3]) rfl ⟨by rw [hg.out]; simp [y0.out, y1.out], hfin.below⟩
    · have y0 := Lib.hid (ofB_nz hZ0 z0)
      have hn0 : (Z0 != 0) = true := by simpa using z0
      go_wp2_with (first | (go_at_call 58; refine (own_left m0 2 rfl 2 rfl).mono ?_; rintro e w1 ⟨rfl, rfl⟩) | (go_at_call 56; refine (own_num m0 2 rfl 1 1 (by decide) (by simp) (by simp) Z0 hZ0 [b3] rfl).mono ?_; rintro e u1 ⟨rfl, m1⟩; obtain ⟨⟨a0, _⟩, ⟨a1, _⟩, ⟨a2, _⟩, ⟨a3, _⟩⟩ := cells4f 1 m1 rfl; obtain ⟨⟨c0, k0⟩, ⟨c1, k1⟩, ⟨c2, k2⟩, ⟨c3, k3⟩⟩ := cells4f 0 m1 rfl))
      have hfin := ((((m1.cset 0 rfl 0 (.int .i64 0)).cset 0 rfl 1 (.int .i64 0)).cset 0 rfl 2 (.int .i64 0)).cset 0 rfl 3 (.int .i64 0))
      clear a0 a1 a2 a3 c0 c1 c2 c3 k0 k1 k2 k3 m1
      generalize (((u1.setCell ⟨rb, 0, none⟩ (.int .i64 0)).setCell ⟨rb, 1, none⟩ (.int .i64 0)).setCell ⟨rb, 2, none⟩ (.int .i64 0)).setCell ⟨rb, 3, none⟩ (.int .i64 0) = uf at *
      obtain ⟨⟨f0, _⟩, ⟨f1, _⟩, ⟨f2, _⟩, ⟨f3, _⟩⟩ := cells4f 0 hfin rfl
      exact bodyPost_ret (v := .tuple #[insV (0, 0, 0, 0), .int .i64 4]) (by simp [results, insV, Try.results23, go_sem, f0, f1, f2, f3]) rfl ⟨by rw [hg.out]; simp [y0.out], hfin.below⟩
  · rw [if_pos hEz] at hg
    have hne : (E != 0) = true := by simpa using hEz
    go_wp2_with (first | (go_at_call 24; refine C.out.mono ?_; rintro e u0 ⟨rfl, m0⟩; obtain ⟨⟨a0, _⟩, ⟨a1, _⟩, ⟨a2, _⟩, ⟨a3, _⟩⟩ := cells4f 1 m0 rfl; obtain ⟨⟨c0, k0⟩, ⟨c1, k1⟩, ⟨c2, k2⟩, ⟨c3, k3⟩⟩ := cells4f 0 m0 rfl))
    clear C r0 g1 e0 e1 e2 t0 t1 t2 t3 hE
    have hfin := ((((m0.cset 0 rfl 0 (.int .i64 0)).cset 0 rfl 1 (.int .i64 0)).cset 0 rfl 2 (.int .i64 0)).cset 0 rfl 3 (.int .i64 0))
    clear a0 a1 a2 a3 c0 c1 c2 c3 k0 k1 k2 k3 m0
    generalize (((u0.setCell ⟨rb, 0, none⟩ (.int .i64 0)).setCell ⟨rb, 1, none⟩ (.int .i64 0)).setCell ⟨rb, 2, none⟩ (.int .i64 0)).setCell ⟨rb, 3, none⟩ (.int .i64 0) = uf at *
    obtain ⟨⟨f0, _⟩, ⟨f1, _⟩, ⟨f2, _⟩, ⟨f3, _⟩⟩ := cells4f 0 hfin rfl
    exact bodyPost_ret (v := .tuple #[insV (0, 0, 0, 0), .int .i64 E]) (by simp [results, insV, Try.results23, go_sem, f0, f1, f2, f3]) rfl ⟨by rw [hg.out] <;> simp, hfin.below⟩
end Go.Proofs.Ytboiogjklecpaaa
