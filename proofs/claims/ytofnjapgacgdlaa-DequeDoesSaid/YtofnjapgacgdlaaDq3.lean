/- Package deque: its lock. -/
import Derived.Test.YtofnjapgacgdlaaDq2
set_option linter.unusedVariables false
set_option linter.unusedSimpArgs false
namespace Go.Proofs.Ytofnjapgacgdlaa
open Go.RowKit
set_option maxRecDepth 100000
set_option maxHeartbeats 8000000
theorem more_no {bx : List (Nat × Value × TypeId)} {wb q1 q2 : Nat} {v1 v2 : Value} {t1 t2 : TypeId} (hno : ∀ p ∈ bx, p.1 ≠ wb) (n1 : q1 ≠ wb) (n2 : q2 ≠ wb) : ∀ p ∈ bx ++ [(q1, v1, t1), (q2, v2, t2)], p.1 ≠ wb := by
  intro p hp
  rcases List.mem_append.1 hp with hp | hp
  · exact hno p hp
  · simp at hp
    rcases hp with rfl | rfl
    · exact n1
    · exact n2
theorem one_no {bx : List (Nat × Value × TypeId)} {wb q1 : Nat} {v1 : Value} {t1 : TypeId} (hno : ∀ p ∈ bx, p.1 ≠ wb) (n1 : q1 ≠ wb) : ∀ p ∈ bx ++ [(q1, v1, t1)], p.1 ≠ wb := by
  intro p hp
  rcases List.mem_append.1 hp with hp | hp
  · exact hno p hp
  · simp at hp; subst hp; exact n1
theorem Own.d0 {w0 w : World} {A : Ast} {W D k t x h a n : Int} {nv : Value} {got full : Bool} {wb : Nat} {bx : List (Nat × Value × TypeId)} {l : List Ast} (hO : Own w0 w (A :: walkA wb (wcs W D k t x h a n nv got full) bx :: l)) : w.drew.cell? ⟨wb, 0, none⟩ = some (.int .i64 W) ∧ w.drew.frozen? ⟨wb, 0, none⟩ = false := hO.w0
theorem Own.d1 {w0 w : World} {A : Ast} {W D k t x h a n : Int} {nv : Value} {got full : Bool} {wb : Nat} {bx : List (Nat × Value × TypeId)} {l : List Ast} (hO : Own w0 w (A :: walkA wb (wcs W D k t x h a n nv got full) bx :: l)) : w.drew.cell? ⟨wb, 1, none⟩ = some (.int .i64 1) ∧ w.drew.frozen? ⟨wb, 1, none⟩ = false := hO.w1
theorem Own.d2 {w0 w : World} {A : Ast} {W D k t x h a n : Int} {nv : Value} {got full : Bool} {wb : Nat} {bx : List (Nat × Value × TypeId)} {l : List Ast} (hO : Own w0 w (A :: walkA wb (wcs W D k t x h a n nv got full) bx :: l)) : w.drew.cell? ⟨wb, 2, none⟩ = some (.int .i64 1) ∧ w.drew.frozen? ⟨wb, 2, none⟩ = false := hO.w2
theorem Own.d3 {w0 w : World} {A : Ast} {W D k t x h a n : Int} {nv : Value} {got full : Bool} {wb : Nat} {bx : List (Nat × Value × TypeId)} {l : List Ast} (hO : Own w0 w (A :: walkA wb (wcs W D k t x h a n nv got full) bx :: l)) : w.drew.cell? ⟨wb, 3, none⟩ = some (.int .i64 D) ∧ w.drew.frozen? ⟨wb, 3, none⟩ = false := hO.w3
theorem Own.d4 {w0 w : World} {A : Ast} {W D k t x h a n : Int} {nv : Value} {got full : Bool} {wb : Nat} {bx : List (Nat × Value × TypeId)} {l : List Ast} (hO : Own w0 w (A :: walkA wb (wcs W D k t x h a n nv got full) bx :: l)) : w.drew.cell? ⟨wb, 4, none⟩ = some (.int .i64 k) ∧ w.drew.frozen? ⟨wb, 4, none⟩ = false := hO.w4
theorem Own.d5 {w0 w : World} {A : Ast} {W D k t x h a n : Int} {nv : Value} {got full : Bool} {wb : Nat} {bx : List (Nat × Value × TypeId)} {l : List Ast} (hO : Own w0 w (A :: walkA wb (wcs W D k t x h a n nv got full) bx :: l)) : w.drew.cell? ⟨wb, 5, none⟩ = some (.int .i64 t) ∧ w.drew.frozen? ⟨wb, 5, none⟩ = false := hO.w5
theorem Own.d6 {w0 w : World} {A : Ast} {W D k t x h a n : Int} {nv : Value} {got full : Bool} {wb : Nat} {bx : List (Nat × Value × TypeId)} {l : List Ast} (hO : Own w0 w (A :: walkA wb (wcs W D k t x h a n nv got full) bx :: l)) : w.drew.cell? ⟨wb, 6, none⟩ = some (.int .i64 x) ∧ w.drew.frozen? ⟨wb, 6, none⟩ = false := hO.w6
theorem Own.d7 {w0 w : World} {A : Ast} {W D k t x h a n : Int} {nv : Value} {got full : Bool} {wb : Nat} {bx : List (Nat × Value × TypeId)} {l : List Ast} (hO : Own w0 w (A :: walkA wb (wcs W D k t x h a n nv got full) bx :: l)) : w.drew.cell? ⟨wb, 7, none⟩ = some (.int .i64 h) ∧ w.drew.frozen? ⟨wb, 7, none⟩ = false := hO.w7
theorem Own.d8 {w0 w : World} {A : Ast} {W D k t x h a n : Int} {nv : Value} {got full : Bool} {wb : Nat} {bx : List (Nat × Value × TypeId)} {l : List Ast} (hO : Own w0 w (A :: walkA wb (wcs W D k t x h a n nv got full) bx :: l)) : w.drew.cell? ⟨wb, 8, none⟩ = some (.int .i64 a) ∧ w.drew.frozen? ⟨wb, 8, none⟩ = false := hO.w8
theorem Own.d9 {w0 w : World} {A : Ast} {W D k t x h a n : Int} {nv : Value} {got full : Bool} {wb : Nat} {bx : List (Nat × Value × TypeId)} {l : List Ast} (hO : Own w0 w (A :: walkA wb (wcs W D k t x h a n nv got full) bx :: l)) : w.drew.cell? ⟨wb, 9, none⟩ = some (.int .i64 n) ∧ w.drew.frozen? ⟨wb, 9, none⟩ = false := hO.w9
theorem Own.d10 {w0 w : World} {A : Ast} {W D k t x h a n : Int} {nv : Value} {got full : Bool} {wb : Nat} {bx : List (Nat × Value × TypeId)} {l : List Ast} (hO : Own w0 w (A :: walkA wb (wcs W D k t x h a n nv got full) bx :: l)) : w.drew.cell? ⟨wb, 10, none⟩ = some nv ∧ w.drew.frozen? ⟨wb, 10, none⟩ = false := hO.w10
theorem Own.d11 {w0 w : World} {A : Ast} {W D k t x h a n : Int} {nv : Value} {got full : Bool} {wb : Nat} {bx : List (Nat × Value × TypeId)} {l : List Ast} (hO : Own w0 w (A :: walkA wb (wcs W D k t x h a n nv got full) bx :: l)) : w.drew.cell? ⟨wb, 11, none⟩ = some (.bool got) ∧ w.drew.frozen? ⟨wb, 11, none⟩ = false := hO.w11
theorem Own.d12 {w0 w : World} {A : Ast} {W D k t x h a n : Int} {nv : Value} {got full : Bool} {wb : Nat} {bx : List (Nat × Value × TypeId)} {l : List Ast} (hO : Own w0 w (A :: walkA wb (wcs W D k t x h a n nv got full) bx :: l)) : w.drew.cell? ⟨wb, 12, none⟩ = some (.bool full) ∧ w.drew.frozen? ⟨wb, 12, none⟩ = false := hO.w12
theorem mRestores {W D k : Int} {B : Nat} {ms : List Int} (c : Cf W D k B ms.length) {w0 w : World} {g b wb : Nat} {t x h a n : Int} {nv : Value} {got full : Bool} {bx : List (Nat × Value × TypeId)} {l : List Ast} (hO : Own w0 w (storeA g b ms :: walkA wb (wcs W D k t x h a n nv got full) bx :: l)) (hno : ∀ p ∈ bx, p.1 ≠ wb) :
    Calls Try.prog 74 #[.pointer (some ⟨wb, 0, none⟩), .pointer (some ⟨g, 0, none⟩)] w fun e w' => e = .returned (.tuple #[]) ∧ ∃ q1 q2, Own w0 w' (storeA g b (ms.set (B + 1) t) :: walkA wb (wcs W D k t x h a n (.func (.func 61) #[] #[.pointer (some ⟨q1, 0, none⟩), .pointer (some ⟨q2, 0, none⟩)]) got full) (bx ++ [(q1, .pointer (some ⟨wb, 0, none⟩), 46), (q2, .func (.func 81) #[.pointer (some ⟨wb, 0, none⟩)] #[], 82)]) :: l) ∧ q1 ≠ wb ∧ q2 ≠ wb := by
  have hmf : ∀ (fn : Fn) (first cap : Array Value) (w : World), (Instr.makeFunc fn first cap).run Try.prog w = .ok (.func fn first cap) w := fun _ _ _ _ => rfl
  have PT := Lib.hid (dput c hO 1 (B + 1) (by omega) (by omega) t _ rfl)
  have AS := Lib.hid (fun (w' : World) (ms' : List Int) (h' : Own w0 w' (storeA g b ms' :: walkA wb (wcs W D k t x h a n nv got full) bx :: l)) => dasks (fn := .func 81) (fa := #[.pointer (some ⟨wb, 0, none⟩)]) (fb := #[]) h' hno)
  have NX := Lib.hid (fun (w' : World) (ms' : List Int) (q1 q2 : Nat) (n1 : q1 ≠ wb) (n2 : q2 ≠ wb) (h' : Own w0 w' (storeA g b ms' :: walkA wb (wcs W D k t x h a n nv got full) (bx ++ [(q1, .pointer (some ⟨wb, 0, none⟩), 46), (q2, .func (.func 81) #[.pointer (some ⟨wb, 0, none⟩)] #[], 82)]) :: l)) => show Own w0 (w'.setCell ⟨wb, 10, none⟩ (.func (.func 61) #[] #[.pointer (some ⟨q1, 0, none⟩), .pointer (some ⟨q2, 0, none⟩)])) (storeA g b ms' :: walkA wb (wcs W D k t x h a n (.func (.func 61) #[] #[.pointer (some ⟨q1, 0, none⟩), .pointer (some ⟨q2, 0, none⟩)]) got full) (bx ++ [(q1, .pointer (some ⟨wb, 0, none⟩), 46), (q2, .func (.func 81) #[.pointer (some ⟨wb, 0, none⟩)] #[], 82)]) :: l) from h'.s10 (more_no hno n1 n2) _)
  have y5 := hO.w5.1
  clear hO hno
  go_enter Try.func74, Try.ntmps74
  go_wp2_with (first | (go_at_call 59; refine PT.out.mono ?_; rintro e w1 ⟨rfl, h1⟩) | (go_at_call 49; refine (AS.out _ _ h1).mono ?_; rintro e w2 ⟨q1, q2, rfl, h2, n1, n2⟩; have z10 := h2.w10.1; have zf10 := h2.w10.2))
  (first | go_end0 | ((try simp only [Exit.inBlock, Exit.then]); refine bodyPost_ret (results_none rfl _ _ _) rfl ?_))
  exact ⟨rfl, q1, q2, NX.out _ _ q1 q2 n1 n2 h2, n1, n2⟩
theorem mAsk {W D k : Int} {B : Nat} {ms : List Int} (c : Cf W D k B ms.length) {w0 w : World} {g b wb : Nat} {t x h a n : Int} {nv : Value} {got full : Bool} {bx : List (Nat × Value × TypeId)} {l : List Ast} {q1 q2 : Nat} (hO : Own w0 w (storeA g b ms :: walkA wb (wcs W D k t x h a n nv got full) bx :: l)) (hno : ∀ p ∈ bx, p.1 ≠ wb) (hq1 : (q1, .pointer (some ⟨wb, 0, none⟩), 46) ∈ bx) :
    Calls Try.prog 61 #[.pointer (some ⟨g, 0, none⟩), .pointer (some ⟨q1, 0, none⟩), .pointer (some ⟨q2, 0, none⟩)] w fun e w' => e = .returned (.tuple #[]) ∧ Own w0 w' (storeA g b (ms.set (B + 2) (wrap64 (ms.getD (B + 2) 0 + 1))) :: walkA wb (wcs W D k t x h ((B + 2 : Nat) : Int) (ms.getD (B + 2) 0) (.func (.func 63) #[] #[.pointer (some ⟨q1, 0, none⟩), .pointer (some ⟨q2, 0, none⟩)]) got full) bx :: l) := by
  have hmf : ∀ (fn : Fn) (first cap : Array Value) (w : World), (Instr.makeFunc fn first cap).run Try.prog w = .ok (.func fn first cap) w := fun _ _ _ _ => rfl
  have cb := c.bd
  obtain ⟨Y, hY⟩ : ∃ Y, ms.getD (B + 2) 0 = Y := ⟨_, rfl⟩
  rw [hY]
  have BC := Lib.hid (fun w => c.base ▸ base_ok c.ok k w)
  have AC := Lib.hid (fun (w' : World) (h' : Own w0 w' (storeA g b ms :: walkA wb (wcs W D k t x h a n nv got full) bx :: l)) => own_ask h' 0 rfl (k := B + 2) (by omega) Y hY _ rfl)
  have KS := Lib.hid (fun (w' : World) (ms' : List Int) (h' : Own w0 w' (storeA g b ms' :: walkA wb (wcs W D k t x h a n nv got full) bx :: l)) => show (fun w' : World => w'.cell? ⟨wb, 0, none⟩ = some (.int .i64 W) ∧ w'.cell? ⟨wb, 1, none⟩ = some (.int .i64 1) ∧ w'.cell? ⟨wb, 2, none⟩ = some (.int .i64 1) ∧ w'.cell? ⟨wb, 3, none⟩ = some (.int .i64 D) ∧ w'.cell? ⟨wb, 4, none⟩ = some (.int .i64 k) ∧ w'.cell? ⟨q1, 0, none⟩ = some (.pointer (some ⟨wb, 0, none⟩))) w' from ⟨(h'.wget 1 rfl 0).1, (h'.wget 1 rfl 1).1, (h'.wget 1 rfl 2).1, (h'.wget 1 rfl 3).1, (h'.wget 1 rfl 4).1, h'.bget 1 rfl hq1⟩)
  have NX := Lib.hid (fun (w' : World) (ms' : List Int) (h' : Own w0 w' (storeA g b ms' :: walkA wb (wcs W D k t x h a n nv got full) bx :: l)) => show Own w0 ((w'.setCell ⟨wb, 8, none⟩ (.int .i64 ((B : Int) + 2))).setCell ⟨wb, 9, none⟩ (.int .i64 Y)) (storeA g b ms' :: walkA wb (wcs W D k t x h ((B + 2 : Nat) : Int) Y nv got full) bx :: l) from (h'.s8 hno ((B + 2 : Nat) : Int)).s9 hno Y)
  have NY := Lib.hid (fun (w' : World) (ms' : List Int) (h' : Own w0 w' (storeA g b ms' :: walkA wb (wcs W D k t x h ((B + 2 : Nat) : Int) Y nv got full) bx :: l)) => And.intro (h'.bget 1 rfl hq1) (h'.s10 hno (.func (.func 63) #[] #[.pointer (some ⟨q1, 0, none⟩), .pointer (some ⟨q2, 0, none⟩)])))
  have e1 : IntKind.i64.wrap ((B : Int) + 2) = ((B + 2 : Nat) : Int) := (IntWalk.i64_in _ (by omega)).trans (by omega)
  have hOa := hO.drewN 1
  clear hO hno hY
  go_enter Try.func61, Try.ntmps61
  go_wp2_with fail
  have hS0 := KS.out _ _ hOa
  refine lz_start (S := (fun w' : World => w'.cell? ⟨wb, 0, none⟩ = some (.int .i64 W) ∧ w'.cell? ⟨wb, 1, none⟩ = some (.int .i64 1) ∧ w'.cell? ⟨wb, 2, none⟩ = some (.int .i64 1) ∧ w'.cell? ⟨wb, 3, none⟩ = some (.int .i64 D) ∧ w'.cell? ⟨wb, 4, none⟩ = some (.int .i64 k) ∧ w'.cell? ⟨q1, 0, none⟩ = some (.pointer (some ⟨wb, 0, none⟩)))) rfl 15 16 rfl hS0 ?_
  simp only [numbered, Nat.zero_add, Nat.reduceAdd]
  refine lz_take (v := ?_) (by kernel_rfl) (by kernel_rfl) (by kernel_rfl) (fun _ _ _ h => h) (Or.inl ⟨by rfl, ?_⟩) (by assumption) ?_; (rotate_left; (intro wS hSw; (try dsimp only at hSw); go_simp; (try with_reducible rfl)); rotate_left); simp only [Act.put, List.setIfInBounds_toArray, List.set_cons_zero, List.set_cons_succ]
  refine lz_take (v := ?_) (by kernel_rfl) (by kernel_rfl) (by kernel_rfl) (fun _ _ _ h => h) (Or.inl ⟨by rfl, ?_⟩) (by assumption) ?_; (rotate_left; (intro wS hSw; (try dsimp only at hSw); go_simp; (try with_reducible rfl)); rotate_left); simp only [Act.put, List.setIfInBounds_toArray, List.set_cons_zero, List.set_cons_succ]
  refine lz_take (v := ?_) (by kernel_rfl) (by kernel_rfl) (by kernel_rfl) (fun _ _ _ h => h) (Or.inl ⟨by rfl, ?_⟩) (by assumption) ?_; (rotate_left; (intro wS hSw; (try dsimp only at hSw); go_simp; (try with_reducible rfl)); rotate_left); simp only [Act.put, List.setIfInBounds_toArray, List.set_cons_zero, List.set_cons_succ]
  refine lz_take (v := ?_) (by kernel_rfl) (by kernel_rfl) (by kernel_rfl) (fun _ _ _ h => h) (Or.inl ⟨by rfl, ?_⟩) (by assumption) ?_; (rotate_left; (intro wS hSw; (try dsimp only at hSw); go_simp; (try with_reducible rfl)); rotate_left); simp only [Act.put, List.setIfInBounds_toArray, List.set_cons_zero, List.set_cons_succ]
  refine lz_take (v := ?_) (by kernel_rfl) (by kernel_rfl) (by kernel_rfl) (fun _ _ _ h => h) (Or.inl ⟨by rfl, ?_⟩) (by assumption) ?_; (rotate_left; (intro wS hSw; (try dsimp only at hSw); go_simp; (try with_reducible rfl)); rotate_left); simp only [Act.put, List.setIfInBounds_toArray, List.set_cons_zero, List.set_cons_succ]
  refine lz_take (v := ?_) (by kernel_rfl) (by kernel_rfl) (by kernel_rfl) (fun _ _ _ h => h) (Or.inl ⟨by rfl, ?_⟩) (by assumption) ?_; (rotate_left; (intro wS hSw; (try dsimp only at hSw); go_simp; (try with_reducible rfl)); rotate_left); simp only [Act.put, List.setIfInBounds_toArray, List.set_cons_zero, List.set_cons_succ]
  refine lz_take (v := ?_) (by kernel_rfl) (by kernel_rfl) (by kernel_rfl) (fun _ _ _ h => h) (Or.inl ⟨by rfl, ?_⟩) (by assumption) ?_; (rotate_left; (intro wS hSw; (try dsimp only at hSw); go_simp; (try with_reducible rfl)); rotate_left); simp only [Act.put, List.setIfInBounds_toArray, List.set_cons_zero, List.set_cons_succ]
  refine lz_take (v := ?_) (by kernel_rfl) (by kernel_rfl) (by kernel_rfl) (fun _ _ _ h => h) (Or.inl ⟨by rfl, ?_⟩) (by assumption) ?_; (rotate_left; (intro wS hSw; (try dsimp only at hSw); go_simp; (try with_reducible rfl)); rotate_left); simp only [Act.put, List.setIfInBounds_toArray, List.set_cons_zero, List.set_cons_succ]
  refine lz_take (v := ?_) (by kernel_rfl) (by kernel_rfl) (by kernel_rfl) (fun _ _ _ h => h) (Or.inl ⟨by rfl, ?_⟩) (by assumption) ?_; (rotate_left; (intro wS hSw; (try dsimp only at hSw); go_simp; (try with_reducible rfl)); rotate_left); simp only [Act.put, List.setIfInBounds_toArray, List.set_cons_zero, List.set_cons_succ]
  refine lz_take (v := ?_) (by kernel_rfl) (by kernel_rfl) (by kernel_rfl) (fun _ _ _ h => h) (Or.inl ⟨by rfl, ?_⟩) (by assumption) ?_; (rotate_left; (intro wS hSw; (try dsimp only at hSw); go_simp; (try with_reducible rfl)); rotate_left); simp only [Act.put, List.setIfInBounds_toArray, List.set_cons_zero, List.set_cons_succ]
  refine lz_sole (by kernel_rfl) (fun K hK => ?_)
  go_simp
  refine (BC.out _).mono ?_
  rintro e w5 ⟨rfl, hb5⟩
  have hOb := hOa.grow hb5
  refine hK.out _ _ (.inr (KS.out _ _ hOb)) (fun hHeld => ?_)
  try simp only [Act.put, List.setIfInBounds_toArray, List.set_cons_zero, List.set_cons_succ]
  clear hK
  have hHeld2 := (KS.out _ _ hOb)
  refine lz_take (v := ?_) (by kernel_rfl) (by kernel_rfl) (by kernel_rfl) (fun _ _ _ h => h) (Or.inl ⟨by rfl, ?_⟩) (by assumption) ?_; (rotate_left; (intro wS hSw; (try dsimp only at hSw); go_simp; (try with_reducible rfl)); rotate_left); simp only [Act.put, List.setIfInBounds_toArray, List.set_cons_zero, List.set_cons_succ]
  refine lz_sole (by kernel_rfl) (fun K hK => ?_)
  go_simp
  refine (AC.out _ hOb).mono ?_
  rintro e w6 ⟨rfl, hOc⟩
  refine hK.out _ _ (.inr (KS.out _ _ hOc)) (fun hHeld => ?_)
  try simp only [Act.put, List.setIfInBounds_toArray, List.set_cons_zero, List.set_cons_succ]
  clear hK
  have hHeld2 := (KS.out _ _ hOc)
  refine lz_take (v := ?_) (by kernel_rfl) (by kernel_rfl) (by kernel_rfl) (fun _ _ _ h => h) (Or.inl ⟨by rfl, ?_⟩) (by assumption) ?_; (rotate_left; (intro wS hSw; (try dsimp only at hSw); go_simp; (try with_reducible rfl)); rotate_left); simp only [Act.put, List.setIfInBounds_toArray, List.set_cons_zero, List.set_cons_succ]
  refine lz_take (v := ?_) (by kernel_rfl) (by kernel_rfl) (by kernel_rfl) (fun _ _ _ h => h) (Or.inl ⟨by rfl, ?_⟩) (by assumption) ?_; (rotate_left; (intro wS hSw; (try dsimp only at hSw); go_simp; (try with_reducible rfl)); rotate_left); simp only [Act.put, List.setIfInBounds_toArray, List.set_cons_zero, List.set_cons_succ]
  have z8 := hOc.w8.1
  have zf8 := hOc.w8.2
  have zd8 := hOc.d8.1
  have zdf8 := hOc.d8.2
  have z9 := hOc.w9.1
  have zf9 := hOc.w9.2
  have zd9 := hOc.d9.1
  have zdf9 := hOc.d9.2
  refine lz_sole (by kernel_rfl) (fun K hK => ?_)
  go_simp
  refine hK.out _ _ (.inl rfl) (fun hHeld => ?_)
  try simp only [Act.put, List.setIfInBounds_toArray, List.set_cons_zero, List.set_cons_succ]
  clear hK
  refine lz_done (by kernel_rfl) ?_
  have hOd := NX.out _ _ hOc
  clear hOc hOb hOa z8 zf8 zd8 zdf8 z9 zf9 zd9 zdf9
  generalize (w6.setCell ⟨wb, 8, none⟩ (.int .i64 ((B : Int) + 2))).setCell ⟨wb, 9, none⟩ (.int .i64 Y) = u at *
  obtain ⟨y1, NZ⟩ := NY.out _ _ hOd
  replace NZ := Lib.hid NZ
  have z10 := hOd.w10.1; have zf10 := hOd.w10.2
  clear hOd
  go_wp2_with fail
  (first | go_end0 | ((try simp only [Exit.inBlock, Exit.then]); refine bodyPost_ret (results_none rfl _ _ _) rfl ?_))
  exact ⟨rfl, NZ.out⟩
theorem mMineY {W D k : Int} {B : Nat} {ms : List Int} (c : Cf W D k B ms.length) {w0 w : World} {g b wb : Nat} {t x h a n : Int} {nv : Value} {got full : Bool} {bx : List (Nat × Value × TypeId)} {l : List Ast} {q1 q2 : Nat} {fn : Fn} {fa fb : Array Value} (hO : Own w0 w (storeA g b ms :: walkA wb (wcs W D k t x h ((B + 2 : Nat) : Int) n nv got full) bx :: l)) (hno : ∀ p ∈ bx, p.1 ≠ wb) (hq1 : (q1, .pointer (some ⟨wb, 0, none⟩), 46) ∈ bx) (hq2 : (q2, .func fn fa fb, 82) ∈ bx) (hc : ms.getD (B + 3) 0 = n) :
    Calls Try.prog 63 #[.pointer (some ⟨g, 0, none⟩), .pointer (some ⟨q1, 0, none⟩), .pointer (some ⟨q2, 0, none⟩)] w fun e w' => e = .returned (.tuple #[]) ∧ Own w0 w' (storeA g b ms :: walkA wb (wcs W D k t x h ((B + 2 : Nat) : Int) n (.func fn fa fb) got full) bx :: l) := by
  have hmf : ∀ (fn : Fn) (first cap : Array Value) (w : World), (Instr.makeFunc fn first cap).run Try.prog w = .ok (.func fn first cap) w := fun _ _ _ _ => rfl
  have cb := c.bd
  obtain ⟨Y, hY⟩ : ∃ Y, ms.getD (B + 3) 0 = Y := ⟨_, rfl⟩
  rw [hY] at hc
  have MC := Lib.hid (own_mine hO 0 rfl (k := B + 2) (by omega) (by omega) n Y hY true (by simpa using hc))
  have y0 : w.cell? ⟨q1, 0, none⟩ = some (.pointer (some ⟨wb, 0, none⟩)) := hO.bget 1 rfl hq1
  have x0 : w.cell? ⟨q2, 0, none⟩ = some (.func fn fa fb) := hO.bget 1 rfl hq2
  have y8 := hO.w8.1
  have y9 := hO.w9.1
  have hN := Lib.hid (fun (w' : World) (h' : Own w0 w' (storeA g b ms :: walkA wb (wcs W D k t x h ((B + 2 : Nat) : Int) n nv got full) bx :: l)) => show w'.cell? ⟨q1, 0, none⟩ = some (.pointer (some ⟨wb, 0, none⟩)) ∧ w'.cell? ⟨q2, 0, none⟩ = some (.func fn fa fb) ∧ w'.cell? ⟨wb, 10, none⟩ = some nv ∧ w'.frozen? ⟨wb, 10, none⟩ = false from ⟨h'.bget 1 rfl hq1, h'.bget 1 rfl hq2, h'.w10⟩)
  have hE := Lib.hid (fun (w' : World) (h' : Own w0 w' (storeA g b ms :: walkA wb (wcs W D k t x h ((B + 2 : Nat) : Int) n nv got full) bx :: l)) => h'.s10 hno (.func fn fa fb))
  clear hO hno hc hY hq1 hq2
  go_enter Try.func63, Try.ntmps63
  go_wp2_with (go_at_call 64; refine MC.out.mono ?_; rintro e w1 ⟨rfl, h1⟩; obtain ⟨g1, g2, g3, g4⟩ := hN.out _ h1)
  (first | go_end0 | ((try simp only [Exit.inBlock, Exit.then]); refine bodyPost_ret (results_none rfl _ _ _) rfl ?_))
  exact ⟨rfl, hE.out _ h1⟩
theorem mMineN {W D k : Int} {B : Nat} {ms : List Int} (c : Cf W D k B ms.length) {w0 w : World} {g b wb : Nat} {t x h a n : Int} {nv : Value} {got full : Bool} {bx : List (Nat × Value × TypeId)} {l : List Ast} {q1 q2 : Nat} {fn : Fn} {fa fb : Array Value} (hO : Own w0 w (storeA g b ms :: walkA wb (wcs W D k t x h ((B + 2 : Nat) : Int) n nv got full) bx :: l)) (hno : ∀ p ∈ bx, p.1 ≠ wb) (hq1 : (q1, .pointer (some ⟨wb, 0, none⟩), 46) ∈ bx) (hq2 : (q2, .func fn fa fb, 82) ∈ bx) (hc : ¬ ms.getD (B + 3) 0 = n) :
    Calls Try.prog 63 #[.pointer (some ⟨g, 0, none⟩), .pointer (some ⟨q1, 0, none⟩), .pointer (some ⟨q2, 0, none⟩)] w fun e w' => e = .returned (.tuple #[]) ∧ Own w0 w' (storeA g b ms :: walkA wb (wcs W D k t x h ((B + 2 : Nat) : Int) n nv got full) bx :: l) := by
  have hmf : ∀ (fn : Fn) (first cap : Array Value) (w : World), (Instr.makeFunc fn first cap).run Try.prog w = .ok (.func fn first cap) w := fun _ _ _ _ => rfl
  have cb := c.bd
  obtain ⟨Y, hY⟩ : ∃ Y, ms.getD (B + 3) 0 = Y := ⟨_, rfl⟩
  rw [hY] at hc
  have MC := Lib.hid (own_mine hO 0 rfl (k := B + 2) (by omega) (by omega) n Y hY false (by simpa using hc))
  have y0 : w.cell? ⟨q1, 0, none⟩ = some (.pointer (some ⟨wb, 0, none⟩)) := hO.bget 1 rfl hq1
  have x0 : w.cell? ⟨q2, 0, none⟩ = some (.func fn fa fb) := hO.bget 1 rfl hq2
  have y8 := hO.w8.1
  have y9 := hO.w9.1
  have hN := Lib.hid (fun (w' : World) (h' : Own w0 w' (storeA g b ms :: walkA wb (wcs W D k t x h ((B + 2 : Nat) : Int) n nv got full) bx :: l)) => show w'.cell? ⟨q1, 0, none⟩ = some (.pointer (some ⟨wb, 0, none⟩)) ∧ w'.cell? ⟨q2, 0, none⟩ = some (.func fn fa fb) ∧ w'.cell? ⟨wb, 10, none⟩ = some nv ∧ w'.frozen? ⟨wb, 10, none⟩ = false from ⟨h'.bget 1 rfl hq1, h'.bget 1 rfl hq2, h'.w10⟩)
  have hE := Lib.hid (fun (w' : World) (h' : Own w0 w' (storeA g b ms :: walkA wb (wcs W D k t x h ((B + 2 : Nat) : Int) n nv got full) bx :: l)) => h'.s10 hno (.func fn fa fb))
  clear hO hno hc hY hq1 hq2
  go_enter Try.func63, Try.ntmps63
  go_wp2_with (go_at_call 64; refine MC.out.mono ?_; rintro e w1 ⟨rfl, h1⟩; obtain ⟨g1, g2, g3, g4⟩ := hN.out _ h1)
  (first | go_end0 | ((try simp only [Exit.inBlock, Exit.then]); refine bodyPost_ret (results_none rfl _ _ _) rfl ?_))
  exact ⟨rfl, h1⟩
theorem mLeave {W D k : Int} {B : Nat} {ms : List Int} (c : Cf W D k B ms.length) {w0 w : World} {g b wb : Nat} {t x h a n : Int} {nv : Value} {got full : Bool} {bx : List (Nat × Value × TypeId)} {l : List Ast} {q1 q2 : Nat} {fn : Fn} {fa fb : Array Value} (hO : Own w0 w (storeA g b ms :: walkA wb (wcs W D k t x h ((B + 2 : Nat) : Int) n nv got full) bx :: l)) (hno : ∀ p ∈ bx, p.1 ≠ wb) (hq1 : (q1, .pointer (some ⟨wb, 0, none⟩), 46) ∈ bx) (hq2 : (q2, .func fn fa fb, 82) ∈ bx) :
    Calls Try.prog 87 #[.pointer (some ⟨g, 0, none⟩), .pointer (some ⟨q1, 0, none⟩), .pointer (some ⟨q2, 0, none⟩)] w fun e w' => e = .returned (.tuple #[]) ∧ Own w0 w' (storeA g b (ms.set (B + 3) (wrap64 (n + 1))) :: walkA wb (wcs W D k t x h ((B + 2 : Nat) : Int) n (.func fn fa fb) got full) bx :: l) := by
  have hmf : ∀ (fn : Fn) (first cap : Array Value) (w : World), (Instr.makeFunc fn first cap).run Try.prog w = .ok (.func fn first cap) w := fun _ _ _ _ => rfl
  have cb := c.bd
  have MC := Lib.hid (own_done hO 0 rfl (k := B + 2) (by omega) (by omega) n _ rfl)
  have y0 : w.cell? ⟨q1, 0, none⟩ = some (.pointer (some ⟨wb, 0, none⟩)) := hO.bget 1 rfl hq1
  have x0 : w.cell? ⟨q2, 0, none⟩ = some (.func fn fa fb) := hO.bget 1 rfl hq2
  have y8 := hO.w8.1
  have y9 := hO.w9.1
  have hN := Lib.hid (fun (w' : World) (ms' : List Int) (h' : Own w0 w' (storeA g b ms' :: walkA wb (wcs W D k t x h ((B + 2 : Nat) : Int) n nv got full) bx :: l)) => show w'.cell? ⟨q1, 0, none⟩ = some (.pointer (some ⟨wb, 0, none⟩)) ∧ w'.cell? ⟨q2, 0, none⟩ = some (.func fn fa fb) ∧ w'.cell? ⟨wb, 10, none⟩ = some nv ∧ w'.frozen? ⟨wb, 10, none⟩ = false from ⟨h'.bget 1 rfl hq1, h'.bget 1 rfl hq2, h'.w10⟩)
  have hE := Lib.hid (fun (w' : World) (ms' : List Int) (h' : Own w0 w' (storeA g b ms' :: walkA wb (wcs W D k t x h ((B + 2 : Nat) : Int) n nv got full) bx :: l)) => h'.s10 hno (.func fn fa fb))
  clear hO hno hq1 hq2
  go_enter Try.func87, Try.ntmps87
  go_wp2_with (go_at_call 88; refine MC.out.mono ?_; rintro e w1 ⟨rfl, h1⟩; obtain ⟨g1, g2, g3, g4⟩ := hN.out _ _ h1)
  (first | go_end0 | ((try simp only [Exit.inBlock, Exit.then]); refine bodyPost_ret (results_none rfl _ _ _) rfl ?_))
  exact ⟨rfl, hE.out _ _ h1⟩
theorem mLeave0 {W D k : Int} {B : Nat} {ms : List Int} (c : Cf W D k B ms.length) {w0 w : World} {g b wb : Nat} {t x h a n : Int} {nv : Value} {got full : Bool} {bx : List (Nat × Value × TypeId)} {l : List Ast} {q1 q2 : Nat} (hO : Own w0 w (storeA g b ms :: walkA wb (wcs W D k t x h ((B + 2 : Nat) : Int) n nv got full) bx :: l)) (hno : ∀ p ∈ bx, p.1 ≠ wb) (hq1 : (q1, .pointer (some ⟨wb, 0, none⟩), 46) ∈ bx) (hq2 : (q2, .nilFunc, 82) ∈ bx) :
    Calls Try.prog 87 #[.pointer (some ⟨g, 0, none⟩), .pointer (some ⟨q1, 0, none⟩), .pointer (some ⟨q2, 0, none⟩)] w fun e w' => e = .returned (.tuple #[]) ∧ Own w0 w' (storeA g b (ms.set (B + 3) (wrap64 (n + 1))) :: walkA wb (wcs W D k t x h ((B + 2 : Nat) : Int) n .nilFunc got full) bx :: l) := by
  have hmf : ∀ (fn : Fn) (first cap : Array Value) (w : World), (Instr.makeFunc fn first cap).run Try.prog w = .ok (.func fn first cap) w := fun _ _ _ _ => rfl
  have cb := c.bd
  have MC := Lib.hid (own_done hO 0 rfl (k := B + 2) (by omega) (by omega) n _ rfl)
  have y0 : w.cell? ⟨q1, 0, none⟩ = some (.pointer (some ⟨wb, 0, none⟩)) := hO.bget 1 rfl hq1
  have x0 : w.cell? ⟨q2, 0, none⟩ = some (.nilFunc) := hO.bget 1 rfl hq2
  have y8 := hO.w8.1
  have y9 := hO.w9.1
  have hN := Lib.hid (fun (w' : World) (ms' : List Int) (h' : Own w0 w' (storeA g b ms' :: walkA wb (wcs W D k t x h ((B + 2 : Nat) : Int) n nv got full) bx :: l)) => show w'.cell? ⟨q1, 0, none⟩ = some (.pointer (some ⟨wb, 0, none⟩)) ∧ w'.cell? ⟨q2, 0, none⟩ = some (.nilFunc) ∧ w'.cell? ⟨wb, 10, none⟩ = some nv ∧ w'.frozen? ⟨wb, 10, none⟩ = false from ⟨h'.bget 1 rfl hq1, h'.bget 1 rfl hq2, h'.w10⟩)
  have hE := Lib.hid (fun (w' : World) (ms' : List Int) (h' : Own w0 w' (storeA g b ms' :: walkA wb (wcs W D k t x h ((B + 2 : Nat) : Int) n nv got full) bx :: l)) => h'.s10 hno (.nilFunc))
  clear hO hno hq1 hq2
  go_enter Try.func87, Try.ntmps87
  go_wp2_with (go_at_call 88; refine MC.out.mono ?_; rintro e w1 ⟨rfl, h1⟩; obtain ⟨g1, g2, g3, g4⟩ := hN.out _ _ h1)
  (first | go_end0 | ((try simp only [Exit.inBlock, Exit.then]); refine bodyPost_ret (results_none rfl _ _ _) rfl ?_))
  exact ⟨rfl, hE.out _ _ h1⟩
end Go.Proofs.Ytofnjapgacgdlaa
