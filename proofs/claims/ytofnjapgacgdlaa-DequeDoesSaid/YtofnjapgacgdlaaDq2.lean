/- Package deque: what the steps of a push and of a pop do. -/
import Derived.Test.YtofnjapgacgdlaaDq
set_option linter.unusedVariables false
set_option linter.unusedSimpArgs false
namespace Go.Proofs.Ytofnjapgacgdlaa
open Go.RowKit
set_option maxRecDepth 100000
set_option maxHeartbeats 8000000
theorem mLess {W D k : Int} {B : Nat} {ms : List Int} (c : Cf W D k B ms.length) {w0 w : World} {g b wb : Nat} {t x h a n : Int} {nv : Value} {got full : Bool} {bx : List (Nat × Value × TypeId)} {l : List Ast} (hO : Own w0 w (storeA g b ms :: walkA wb (wcs W D k t x h a n nv got full) bx :: l)) (hno : ∀ p ∈ bx, p.1 ≠ wb) (T : Int) (hT : wrap64 (t - 1) = T) :
    Calls Try.prog 48 #[.pointer (some ⟨wb, 0, none⟩), .pointer (some ⟨g, 0, none⟩)] w fun e w' => e = .returned (.tuple #[]) ∧ Own w0 w' (storeA g b (ms.set (B + 1) T) :: walkA wb (wcs W D k t x h a n (.func (.func 60) #[.pointer (some ⟨wb, 0, none⟩)] #[]) got full) bx :: l) := by
  have hmf : ∀ (fn : Fn) (first cap : Array Value) (w : World), (Instr.makeFunc fn first cap).run Try.prog w = .ok (.func fn first cap) w := fun _ _ _ _ => rfl
  have PT := Lib.hid (dput c hO 1 (B + 1) (by omega) (by omega) T _ rfl)
  have NX := Lib.hid (fun (w' : World) (ms' : List Int) (h' : Own w0 w' (storeA g b ms' :: walkA wb (wcs W D k t x h a n nv got full) bx :: l)) => h'.s10 hno (.func (.func 60) #[.pointer (some ⟨wb, 0, none⟩)] #[]))
  have y5 := hO.w5.1
  clear hO hno
  go_enter Try.func48, Try.ntmps48
  go_wp2_with (go_at_call 59; refine PT.out.mono ?_; rintro e w1 ⟨rfl, h1⟩; have z10 := h1.w10.1; have zf10 := h1.w10.2)
  (first | go_end0 | ((try simp only [Exit.inBlock, Exit.then]); refine bodyPost_ret (results_none rfl _ _ _) rfl ?_))
  exact ⟨rfl, NX.out _ _ h1⟩
theorem mLessAgain {W D k : Int} {B : Nat} {ms : List Int} (c : Cf W D k B ms.length) {w0 w : World} {g b wb : Nat} {t x h a n : Int} {nv : Value} {got full : Bool} {bx : List (Nat × Value × TypeId)} {l : List Ast} (hO : Own w0 w (storeA g b ms :: walkA wb (wcs W D k t x h a n nv got full) bx :: l)) (hno : ∀ p ∈ bx, p.1 ≠ wb) (T : Int) (hT : wrap64 (t - 1) = T) :
    Calls Try.prog 81 #[.pointer (some ⟨wb, 0, none⟩), .pointer (some ⟨g, 0, none⟩)] w fun e w' => e = .returned (.tuple #[]) ∧ Own w0 w' (storeA g b (ms.set (B + 1) T) :: walkA wb (wcs W D k t x h a n (.func (.func 86) #[.pointer (some ⟨wb, 0, none⟩)] #[]) got full) bx :: l) := by
  have hmf : ∀ (fn : Fn) (first cap : Array Value) (w : World), (Instr.makeFunc fn first cap).run Try.prog w = .ok (.func fn first cap) w := fun _ _ _ _ => rfl
  have PT := Lib.hid (dput c hO 1 (B + 1) (by omega) (by omega) T _ rfl)
  have NX := Lib.hid (fun (w' : World) (ms' : List Int) (h' : Own w0 w' (storeA g b ms' :: walkA wb (wcs W D k t x h a n nv got full) bx :: l)) => h'.s10 hno (.func (.func 86) #[.pointer (some ⟨wb, 0, none⟩)] #[]))
  have y5 := hO.w5.1
  clear hO hno
  go_enter Try.func81, Try.ntmps81
  go_wp2_with (go_at_call 59; refine PT.out.mono ?_; rintro e w1 ⟨rfl, h1⟩; have z10 := h1.w10.1; have zf10 := h1.w10.2)
  (first | go_end0 | ((try simp only [Exit.inBlock, Exit.then]); refine bodyPost_ret (results_none rfl _ _ _) rfl ?_))
  exact ⟨rfl, NX.out _ _ h1⟩
theorem mClaims {W D k : Int} {B : Nat} {ms : List Int} (c : Cf W D k B ms.length) {w0 w : World} {g b wb : Nat} {t x h a n : Int} {nv : Value} {got full : Bool} {bx : List (Nat × Value × TypeId)} {l : List Ast} (hO : Own w0 w (storeA g b ms :: walkA wb (wcs W D k t x h a n nv got full) bx :: l)) (hno : ∀ p ∈ bx, p.1 ≠ wb) (H : Int) (hH : wrap64 (h + 1) = H) :
    Calls Try.prog 66 #[.pointer (some ⟨wb, 0, none⟩), .pointer (some ⟨g, 0, none⟩)] w fun e w' => e = .returned (.tuple #[]) ∧ Own w0 w' (storeA g b (ms.set B H) :: walkA wb (wcs W D k t x h a n (.func (.func 77) #[.pointer (some ⟨wb, 0, none⟩)] #[]) got full) bx :: l) := by
  have hmf : ∀ (fn : Fn) (first cap : Array Value) (w : World), (Instr.makeFunc fn first cap).run Try.prog w = .ok (.func fn first cap) w := fun _ _ _ _ => rfl
  have PT := Lib.hid (dput c hO 0 (B) (by omega) (by omega) H _ rfl)
  have NX := Lib.hid (fun (w' : World) (ms' : List Int) (h' : Own w0 w' (storeA g b ms' :: walkA wb (wcs W D k t x h a n nv got full) bx :: l)) => h'.s10 hno (.func (.func 77) #[.pointer (some ⟨wb, 0, none⟩)] #[]))
  have y7 := hO.w7.1
  clear hO hno
  go_enter Try.func66, Try.ntmps66
  go_wp2_with (go_at_call 59; refine PT.out.mono ?_; rintro e w1 ⟨rfl, h1⟩; have z10 := h1.w10.1; have zf10 := h1.w10.2)
  (first | go_end0 | ((try simp only [Exit.inBlock, Exit.then]); refine bodyPost_ret (results_none rfl _ _ _) rfl ?_))
  exact ⟨rfl, NX.out _ _ h1⟩
theorem mLay {W D k : Int} {B : Nat} {ms : List Int} (c : Cf W D k B ms.length) {w0 w : World} {g b wb : Nat} {t x h a n : Int} {nv : Value} {got full : Bool} {bx : List (Nat × Value × TypeId)} {l : List Ast} (hO : Own w0 w (storeA g b ms :: walkA wb (wcs W D k t x h a n nv got full) bx :: l)) (hno : ∀ p ∈ bx, p.1 ≠ wb) :
    Calls Try.prog 68 #[.pointer (some ⟨wb, 0, none⟩), .pointer (some ⟨g, 0, none⟩)] w fun e w' => e = .returned (.tuple #[]) ∧ Own w0 w' (storeA g b (ms.set (slotN B D t) x) :: walkA wb (wcs W D k t x h a n (.func (.func 79) #[.pointer (some ⟨wb, 0, none⟩)] #[]) got full) bx :: l) := by
  have hmf : ∀ (fn : Fn) (first cap : Array Value) (w : World), (Instr.makeFunc fn first cap).run Try.prog w = .ok (.func fn first cap) w := fun _ _ _ _ => rfl
  have SC := Lib.hid (fun w => (c.slot t).1 ▸ slot_ok c.ok k t w)
  have ST := Lib.hid (fun (w' : World) (hO : Own w0 w' (storeA g b ms :: walkA wb (wcs W D k t x h a n nv got full) bx :: l)) => own_store hO 0 rfl (k := slotN B D t) (c.slot t).2 x _ rfl)
  have KS := Lib.hid (fun (w' : World) (ms' : List Int) (h' : Own w0 w' (storeA g b ms' :: walkA wb (wcs W D k t x h a n nv got full) bx :: l)) => show (fun w' : World => w'.cell? ⟨wb, 0, none⟩ = some (.int .i64 W) ∧ w'.cell? ⟨wb, 1, none⟩ = some (.int .i64 1) ∧ w'.cell? ⟨wb, 2, none⟩ = some (.int .i64 1) ∧ w'.cell? ⟨wb, 3, none⟩ = some (.int .i64 D) ∧ w'.cell? ⟨wb, 4, none⟩ = some (.int .i64 k) ∧ w'.cell? ⟨wb, 5, none⟩ = some (.int .i64 t) ∧ w'.cell? ⟨wb, 6, none⟩ = some (.int .i64 x)) w' from ⟨(h'.wget 1 rfl 0).1, (h'.wget 1 rfl 1).1, (h'.wget 1 rfl 2).1, (h'.wget 1 rfl 3).1, (h'.wget 1 rfl 4).1, (h'.wget 1 rfl 5).1, (h'.wget 1 rfl 6).1⟩)
  have NX := Lib.hid (fun (w' : World) (ms' : List Int) (h' : Own w0 w' (storeA g b ms' :: walkA wb (wcs W D k t x h a n nv got full) bx :: l)) => h'.s10 hno (.func (.func 79) #[.pointer (some ⟨wb, 0, none⟩)] #[]))
  have hOa := hO.drewN 1
  clear hO hno
  go_enter Try.func68, Try.ntmps68
  go_wp2_with fail
  have hS0 := KS.out _ _ hOa
  refine lz_start (S := (fun w' : World => w'.cell? ⟨wb, 0, none⟩ = some (.int .i64 W) ∧ w'.cell? ⟨wb, 1, none⟩ = some (.int .i64 1) ∧ w'.cell? ⟨wb, 2, none⟩ = some (.int .i64 1) ∧ w'.cell? ⟨wb, 3, none⟩ = some (.int .i64 D) ∧ w'.cell? ⟨wb, 4, none⟩ = some (.int .i64 k) ∧ w'.cell? ⟨wb, 5, none⟩ = some (.int .i64 t) ∧ w'.cell? ⟨wb, 6, none⟩ = some (.int .i64 x))) rfl 18 19 rfl hS0 ?_
  simp only [numbered, Nat.zero_add, Nat.reduceAdd]
  refine lz_take (v := ?_) (by kernel_rfl) (by kernel_rfl) (by kernel_rfl) (fun _ _ _ h => h) (Or.inl ⟨by rfl, ?_⟩) (by assumption) ?_; (rotate_left; (intro wS hSw; (try dsimp only at hSw); go_simp; (try with_reducible rfl)); rotate_left); simp only [Act.put, List.setIfInBounds_toArray, List.set_cons_zero, List.set_cons_succ]
  refine lz_take (v := ?_) (by kernel_rfl) (by kernel_rfl) (by kernel_rfl) (fun _ _ _ h => h) (Or.inl ⟨by rfl, ?_⟩) (by assumption) ?_; (rotate_left; (intro wS hSw; (try dsimp only at hSw); go_simp; (try with_reducible rfl)); rotate_left); simp only [Act.put, List.setIfInBounds_toArray, List.set_cons_zero, List.set_cons_succ]
  refine lz_take (v := ?_) (by kernel_rfl) (by kernel_rfl) (by kernel_rfl) (fun _ _ _ h => h) (Or.inl ⟨by rfl, ?_⟩) (by assumption) ?_; (rotate_left; (intro wS hSw; (try dsimp only at hSw); go_simp; (try with_reducible rfl)); rotate_left); simp only [Act.put, List.setIfInBounds_toArray, List.set_cons_zero, List.set_cons_succ]
  refine lz_take (v := ?_) (by kernel_rfl) (by kernel_rfl) (by kernel_rfl) (fun _ _ _ h => h) (Or.inl ⟨by rfl, ?_⟩) (by assumption) ?_; (rotate_left; (intro wS hSw; (try dsimp only at hSw); go_simp; (try with_reducible rfl)); rotate_left); simp only [Act.put, List.setIfInBounds_toArray, List.set_cons_zero, List.set_cons_succ]
  refine lz_take (v := ?_) (by kernel_rfl) (by kernel_rfl) (by kernel_rfl) (fun _ _ _ h => h) (Or.inl ⟨by rfl, ?_⟩) (by assumption) ?_; (rotate_left; (intro wS hSw; (try dsimp only at hSw); go_simp; (try with_reducible rfl)); rotate_left); simp only [Act.put, List.setIfInBounds_toArray, List.set_cons_zero, List.set_cons_succ]
  refine lz_take (v := ?_) (by kernel_rfl) (by kernel_rfl) (by kernel_rfl) (fun _ _ _ h => h) (Or.inl ⟨by rfl, ?_⟩) (by assumption) ?_; (rotate_left; (intro wS hSw; (try dsimp only at hSw); go_simp; (try with_reducible rfl)); rotate_left); simp only [Act.put, List.setIfInBounds_toArray, List.set_cons_zero, List.set_cons_succ]
  refine lz_take (v := ?_) (by kernel_rfl) (by kernel_rfl) (by kernel_rfl) (fun _ _ _ h => h) (Or.inl ⟨by rfl, ?_⟩) (by assumption) ?_; (rotate_left; (intro wS hSw; (try dsimp only at hSw); go_simp; (try with_reducible rfl)); rotate_left); simp only [Act.put, List.setIfInBounds_toArray, List.set_cons_zero, List.set_cons_succ]
  refine lz_take (v := ?_) (by kernel_rfl) (by kernel_rfl) (by kernel_rfl) (fun _ _ _ h => h) (Or.inl ⟨by rfl, ?_⟩) (by assumption) ?_; (rotate_left; (intro wS hSw; (try dsimp only at hSw); go_simp; (try with_reducible rfl)); rotate_left); simp only [Act.put, List.setIfInBounds_toArray, List.set_cons_zero, List.set_cons_succ]
  refine lz_take (v := ?_) (by kernel_rfl) (by kernel_rfl) (by kernel_rfl) (fun _ _ _ h => h) (Or.inl ⟨by rfl, ?_⟩) (by assumption) ?_; (rotate_left; (intro wS hSw; (try dsimp only at hSw); go_simp; (try with_reducible rfl)); rotate_left); simp only [Act.put, List.setIfInBounds_toArray, List.set_cons_zero, List.set_cons_succ]
  refine lz_take (v := ?_) (by kernel_rfl) (by kernel_rfl) (by kernel_rfl) (fun _ _ _ h => h) (Or.inl ⟨by rfl, ?_⟩) (by assumption) ?_; (rotate_left; (intro wS hSw; (try dsimp only at hSw); go_simp; (try with_reducible rfl)); rotate_left); simp only [Act.put, List.setIfInBounds_toArray, List.set_cons_zero, List.set_cons_succ]
  refine lz_take (v := ?_) (by kernel_rfl) (by kernel_rfl) (by kernel_rfl) (fun _ _ _ h => h) (Or.inl ⟨by rfl, ?_⟩) (by assumption) ?_; (rotate_left; (intro wS hSw; (try dsimp only at hSw); go_simp; (try with_reducible rfl)); rotate_left); simp only [Act.put, List.setIfInBounds_toArray, List.set_cons_zero, List.set_cons_succ]
  refine lz_take (v := ?_) (by kernel_rfl) (by kernel_rfl) (by kernel_rfl) (fun _ _ _ h => h) (Or.inl ⟨by rfl, ?_⟩) (by assumption) ?_; (rotate_left; (intro wS hSw; (try dsimp only at hSw); go_simp; (try with_reducible rfl)); rotate_left); simp only [Act.put, List.setIfInBounds_toArray, List.set_cons_zero, List.set_cons_succ]
  refine lz_take (v := ?_) (by kernel_rfl) (by kernel_rfl) (by kernel_rfl) (fun _ _ _ h => h) (Or.inl ⟨by rfl, ?_⟩) (by assumption) ?_; (rotate_left; (intro wS hSw; (try dsimp only at hSw); go_simp; (try with_reducible rfl)); rotate_left); simp only [Act.put, List.setIfInBounds_toArray, List.set_cons_zero, List.set_cons_succ]
  refine lz_rot ?_; simp only [List.cons_append, List.nil_append]
  refine lz_take (v := ?_) (by kernel_rfl) (by kernel_rfl) (by kernel_rfl) (fun _ _ _ h => h) (Or.inl ⟨by rfl, ?_⟩) (by assumption) ?_; (rotate_left; (intro wS hSw; (try dsimp only at hSw); go_simp; (try with_reducible rfl)); rotate_left); simp only [Act.put, List.setIfInBounds_toArray, List.set_cons_zero, List.set_cons_succ]
  refine lz_take (v := ?_) (by kernel_rfl) (by kernel_rfl) (by kernel_rfl) (fun _ _ _ h => h) (Or.inl ⟨by rfl, ?_⟩) (by assumption) ?_; (rotate_left; (intro wS hSw; (try dsimp only at hSw); go_simp; (try with_reducible rfl)); rotate_left); simp only [Act.put, List.setIfInBounds_toArray, List.set_cons_zero, List.set_cons_succ]
  refine lz_take (v := ?_) (by kernel_rfl) (by kernel_rfl) (by kernel_rfl) (fun _ _ _ h => h) (Or.inl ⟨by rfl, ?_⟩) (by assumption) ?_; (rotate_left; (intro wS hSw; (try dsimp only at hSw); go_simp; (try with_reducible rfl)); rotate_left); simp only [Act.put, List.setIfInBounds_toArray, List.set_cons_zero, List.set_cons_succ]
  refine lz_take (v := ?_) (by kernel_rfl) (by kernel_rfl) (by kernel_rfl) (fun _ _ _ h => h) (Or.inl ⟨by rfl, ?_⟩) (by assumption) ?_; (rotate_left; (intro wS hSw; (try dsimp only at hSw); go_simp; (try with_reducible rfl)); rotate_left); simp only [Act.put, List.setIfInBounds_toArray, List.set_cons_zero, List.set_cons_succ]
  refine lz_rot ?_; simp only [List.cons_append, List.nil_append]
  refine lz_sole (by kernel_rfl) (fun K hK => ?_)
  go_simp
  refine (SC.out _).mono ?_
  rintro e w5 ⟨rfl, hb5⟩
  have hOb := hOa.grow hb5
  refine hK.out _ _ (.inr (KS.out _ _ hOb)) (fun hHeld => ?_)
  try simp only [Act.put, List.setIfInBounds_toArray, List.set_cons_zero, List.set_cons_succ]
  clear hK
  have hHeld2 := (KS.out _ _ hOb)
  refine lz_sole (by kernel_rfl) (fun K hK => ?_)
  go_simp
  refine (ST.out _ hOb).mono ?_
  rintro e w6 ⟨rfl, hOc⟩
  refine hK.out _ _ (.inl rfl) (fun hHeld => ?_)
  try simp only [Act.put, List.setIfInBounds_toArray, List.set_cons_zero, List.set_cons_succ]
  clear hK
  refine lz_done (by kernel_rfl) ?_
  have z10 := hOc.w10.1; have zf10 := hOc.w10.2
  go_wp2_with fail
  (first | go_end0 | ((try simp only [Exit.inBlock, Exit.then]); refine bodyPost_ret (results_none rfl _ _ _) rfl ?_))
  exact ⟨rfl, NX.out _ _ hOc⟩
theorem mRoomY {W D k : Int} {B : Nat} {ms : List Int} (c : Cf W D k B ms.length) {w0 w : World} {g b wb : Nat} {t x h a n : Int} {nv : Value} {got full : Bool} {bx : List (Nat × Value × TypeId)} {l : List Ast} (hO : Own w0 w (storeA g b ms :: walkA wb (wcs W D k t x h a n nv got full) bx :: l)) (hno : ∀ p ∈ bx, p.1 ≠ wb) (y V : Int) (hy : ms.getD B 0 = y) (hV : wrap64 (t - y) = V) (hc : D - 1 ≤ V) :
    Calls Try.prog 51 #[.pointer (some ⟨wb, 0, none⟩), .pointer (some ⟨g, 0, none⟩)] w fun e w' => e = .returned (.tuple #[]) ∧ Own w0 w' (storeA g b ms :: walkA wb (wcs W D k t x h a n .nilFunc got true) bx :: l) := by
  have hmf : ∀ (fn : Fn) (first cap : Array Value) (w : World), (Instr.makeFunc fn first cap).run Try.prog w = .ok (.func fn first cap) w := fun _ _ _ _ => rfl
  have cb := c.bd
  have LD := Lib.hid (fun (w' : World) (h' : Own w0 w' (storeA g b ms :: walkA wb (wcs W D k t x h a n nv got full) bx :: l)) => dload c h' 0 B (by omega) (by omega) y hy)
  have KS := Lib.hid (fun (w' : World) (ms' : List Int) (h' : Own w0 w' (storeA g b ms' :: walkA wb (wcs W D k t x h a n nv got full) bx :: l)) => show (fun w' : World => w'.cell? ⟨wb, 3, none⟩ = some (.int .i64 D) ∧ w'.cell? ⟨wb, 5, none⟩ = some (.int .i64 t)) w' from ⟨(h'.wget 1 rfl 3).1, (h'.wget 1 rfl 5).1⟩)
  have e1 : IntKind.i64.wrap (t - y) = V := (IntWalk.i64_left _).trans hV
  have e2 : IntKind.i64.wrap (D - 1) = D - 1 := IntWalk.i64_in _ (by omega)
  have e3 : decide (D - 1 ≤ V) = true := by simpa using hc
  have hOa := hO.drewN 1
  clear hO hy hV
  go_enter Try.func51, Try.ntmps51
  go_wp2_with fail
  have hS0 := KS.out _ _ hOa
  refine lin_start (S := (fun w' : World => w'.cell? ⟨wb, 3, none⟩ = some (.int .i64 D) ∧ w'.cell? ⟨wb, 5, none⟩ = some (.int .i64 t))) rfl 15 rfl hS0 ?_
  simp only [numbered, Nat.zero_add, Nat.reduceAdd]
  refine lin_take (v := ?_) (by kernel_rfl) (by kernel_rfl) (fun _ _ _ h => h) (Or.inl ⟨by rfl, ?_⟩) (by assumption) ?_; (rotate_left; (intro wS hSw; (try dsimp only at hSw); go_simp; (try with_reducible rfl)); rotate_left); simp only [Act.put, List.setIfInBounds_toArray, List.set_cons_zero, List.set_cons_succ]
  refine lin_take (v := ?_) (by kernel_rfl) (by kernel_rfl) (fun _ _ _ h => h) (Or.inl ⟨by rfl, ?_⟩) (by assumption) ?_; (rotate_left; (intro wS hSw; (try dsimp only at hSw); go_simp; (try with_reducible rfl)); rotate_left); simp only [Act.put, List.setIfInBounds_toArray, List.set_cons_zero, List.set_cons_succ]
  refine lin_take (v := ?_) (by kernel_rfl) (by kernel_rfl) (fun _ _ _ h => h) (Or.inl ⟨by rfl, ?_⟩) (by assumption) ?_; (rotate_left; (intro wS hSw; (try dsimp only at hSw); go_simp; (try with_reducible rfl)); rotate_left); simp only [Act.put, List.setIfInBounds_toArray, List.set_cons_zero, List.set_cons_succ]
  refine lin_take (v := ?_) (by kernel_rfl) (by kernel_rfl) (fun _ _ _ h => h) (Or.inl ⟨by rfl, ?_⟩) (by assumption) ?_; (rotate_left; (intro wS hSw; (try dsimp only at hSw); go_simp; (try with_reducible rfl)); rotate_left); simp only [Act.put, List.setIfInBounds_toArray, List.set_cons_zero, List.set_cons_succ]
  refine lin_take (v := ?_) (by kernel_rfl) (by kernel_rfl) (fun _ _ _ h => h) (Or.inl ⟨by rfl, ?_⟩) (by assumption) ?_; (rotate_left; (intro wS hSw; (try dsimp only at hSw); go_simp; (try with_reducible rfl)); rotate_left); simp only [Act.put, List.setIfInBounds_toArray, List.set_cons_zero, List.set_cons_succ]
  refine lin_take (v := ?_) (by kernel_rfl) (by kernel_rfl) (fun _ _ _ h => h) (Or.inl ⟨by rfl, ?_⟩) (by assumption) ?_; (rotate_left; (intro wS hSw; (try dsimp only at hSw); go_simp; (try with_reducible rfl)); rotate_left); simp only [Act.put, List.setIfInBounds_toArray, List.set_cons_zero, List.set_cons_succ]
  refine lin_rot ?_; simp only [List.cons_append, List.nil_append]
  refine lin_rot ?_; simp only [List.cons_append, List.nil_append]
  refine lin_take (v := ?_) (by kernel_rfl) (by kernel_rfl) (fun _ _ _ h => h) (Or.inl ⟨by rfl, ?_⟩) (by assumption) ?_; (rotate_left; (intro wS hSw; (try dsimp only at hSw); go_simp; (try with_reducible rfl)); rotate_left); simp only [Act.put, List.setIfInBounds_toArray, List.set_cons_zero, List.set_cons_succ]
  refine lin_take (v := ?_) (by kernel_rfl) (by kernel_rfl) (fun _ _ _ h => h) (Or.inl ⟨by rfl, ?_⟩) (by assumption) ?_; (rotate_left; (intro wS hSw; (try dsimp only at hSw); go_simp; (try with_reducible rfl)); rotate_left); simp only [Act.put, List.setIfInBounds_toArray, List.set_cons_zero, List.set_cons_succ]
  refine lin_take (v := ?_) (by kernel_rfl) (by kernel_rfl) (fun _ _ _ h => h) (Or.inl ⟨by rfl, ?_⟩) (by assumption) ?_; (rotate_left; (intro wS hSw; (try dsimp only at hSw); go_simp; (try with_reducible rfl)); rotate_left); simp only [Act.put, List.setIfInBounds_toArray, List.set_cons_zero, List.set_cons_succ]
  refine lin_take (v := ?_) (by kernel_rfl) (by kernel_rfl) (fun _ _ _ h => h) (Or.inl ⟨by rfl, ?_⟩) (by assumption) ?_; (rotate_left; (intro wS hSw; (try dsimp only at hSw); go_simp; (try with_reducible rfl)); rotate_left); simp only [Act.put, List.setIfInBounds_toArray, List.set_cons_zero, List.set_cons_succ]
  refine lin_take (v := ?_) (by kernel_rfl) (by kernel_rfl) (fun _ _ _ h => h) (Or.inl ⟨by rfl, ?_⟩) (by assumption) ?_; (rotate_left; (intro wS hSw; (try dsimp only at hSw); go_simp; (try with_reducible rfl)); rotate_left); simp only [Act.put, List.setIfInBounds_toArray, List.set_cons_zero, List.set_cons_succ]
  refine lin_take (v := ?_) (by kernel_rfl) (by kernel_rfl) (fun _ _ _ h => h) (Or.inl ⟨by rfl, ?_⟩) (by assumption) ?_; (rotate_left; (intro wS hSw; (try dsimp only at hSw); go_simp; (try with_reducible rfl)); rotate_left); simp only [Act.put, List.setIfInBounds_toArray, List.set_cons_zero, List.set_cons_succ]
  refine lin_rot ?_; simp only [List.cons_append, List.nil_append]
  refine lin_sole (by kernel_rfl) (fun K hK => ?_)
  go_simp
  refine (LD.out _ hOa).mono ?_
  rintro e w5 ⟨rfl, hOb⟩
  refine hK.out _ _ (KS.out _ _ hOb) (fun hHeld => ?_)
  try simp only [Act.put, List.setIfInBounds_toArray, List.set_cons_zero, List.set_cons_succ]
  clear hK
  refine lin_take (v := ?_) (by kernel_rfl) (by kernel_rfl) (fun _ _ _ h => h) (Or.inl ⟨by rfl, ?_⟩) (by assumption) ?_; (rotate_left; (intro wS hSw; (try dsimp only at hSw); go_simp; (try with_reducible rfl)); rotate_left); simp only [Act.put, List.setIfInBounds_toArray, List.set_cons_zero, List.set_cons_succ]
  refine lin_take (v := ?_) (by kernel_rfl) (by kernel_rfl) (fun _ _ _ h => h) (Or.inl ⟨by rfl, ?_⟩) (by assumption) ?_; (rotate_left; (intro wS hSw; (try dsimp only at hSw); go_simp; (try with_reducible rfl)); rotate_left); simp only [Act.put, List.setIfInBounds_toArray, List.set_cons_zero, List.set_cons_succ]
  refine lin_done (by kernel_rfl) ?_
  have z12 := hOb.w12.1
  have zf12 := hOb.w12.2
  have hE := Lib.hid (fun (w' : World) (h' : Own w0 w' (storeA g b ms :: walkA wb (wcs W D k t x h a n nv got true) bx :: l)) => dend h' hno)
  have hM := Lib.hid (hOb.s12 hno true)
  clear hno
  go_wp2_with (go_at_call 67; refine (hE.out _ hM.out).mono ?_; rintro e w8 ⟨rfl, h8⟩)
  (first | go_end0 | ((try simp only [Exit.inBlock, Exit.then]); refine bodyPost_ret (results_none rfl _ _ _) rfl ?_))
  exact ⟨rfl, h8⟩
theorem mRoomN {W D k : Int} {B : Nat} {ms : List Int} (c : Cf W D k B ms.length) {w0 w : World} {g b wb : Nat} {t x h a n : Int} {nv : Value} {got full : Bool} {bx : List (Nat × Value × TypeId)} {l : List Ast} (hO : Own w0 w (storeA g b ms :: walkA wb (wcs W D k t x h a n nv got full) bx :: l)) (hno : ∀ p ∈ bx, p.1 ≠ wb) (y V : Int) (hy : ms.getD B 0 = y) (hV : wrap64 (t - y) = V) (hc : ¬ D - 1 ≤ V) :
    Calls Try.prog 51 #[.pointer (some ⟨wb, 0, none⟩), .pointer (some ⟨g, 0, none⟩)] w fun e w' => e = .returned (.tuple #[]) ∧ Own w0 w' (storeA g b ms :: walkA wb (wcs W D k t x h a n (.func (.func 68) #[.pointer (some ⟨wb, 0, none⟩)] #[]) got full) bx :: l) := by
  have hmf : ∀ (fn : Fn) (first cap : Array Value) (w : World), (Instr.makeFunc fn first cap).run Try.prog w = .ok (.func fn first cap) w := fun _ _ _ _ => rfl
  have cb := c.bd
  have LD := Lib.hid (fun (w' : World) (h' : Own w0 w' (storeA g b ms :: walkA wb (wcs W D k t x h a n nv got full) bx :: l)) => dload c h' 0 B (by omega) (by omega) y hy)
  have KS := Lib.hid (fun (w' : World) (ms' : List Int) (h' : Own w0 w' (storeA g b ms' :: walkA wb (wcs W D k t x h a n nv got full) bx :: l)) => show (fun w' : World => w'.cell? ⟨wb, 3, none⟩ = some (.int .i64 D) ∧ w'.cell? ⟨wb, 5, none⟩ = some (.int .i64 t)) w' from ⟨(h'.wget 1 rfl 3).1, (h'.wget 1 rfl 5).1⟩)
  have e1 : IntKind.i64.wrap (t - y) = V := (IntWalk.i64_left _).trans hV
  have e2 : IntKind.i64.wrap (D - 1) = D - 1 := IntWalk.i64_in _ (by omega)
  have e3 : decide (D - 1 ≤ V) = false := by simpa using hc
  have hOa := hO.drewN 1
  clear hO hy hV
  go_enter Try.func51, Try.ntmps51
  go_wp2_with fail
  have hS0 := KS.out _ _ hOa
  refine lin_start (S := (fun w' : World => w'.cell? ⟨wb, 3, none⟩ = some (.int .i64 D) ∧ w'.cell? ⟨wb, 5, none⟩ = some (.int .i64 t))) rfl 15 rfl hS0 ?_
  simp only [numbered, Nat.zero_add, Nat.reduceAdd]
  refine lin_take (v := ?_) (by kernel_rfl) (by kernel_rfl) (fun _ _ _ h => h) (Or.inl ⟨by rfl, ?_⟩) (by assumption) ?_; (rotate_left; (intro wS hSw; (try dsimp only at hSw); go_simp; (try with_reducible rfl)); rotate_left); simp only [Act.put, List.setIfInBounds_toArray, List.set_cons_zero, List.set_cons_succ]
  refine lin_take (v := ?_) (by kernel_rfl) (by kernel_rfl) (fun _ _ _ h => h) (Or.inl ⟨by rfl, ?_⟩) (by assumption) ?_; (rotate_left; (intro wS hSw; (try dsimp only at hSw); go_simp; (try with_reducible rfl)); rotate_left); simp only [Act.put, List.setIfInBounds_toArray, List.set_cons_zero, List.set_cons_succ]
  refine lin_take (v := ?_) (by kernel_rfl) (by kernel_rfl) (fun _ _ _ h => h) (Or.inl ⟨by rfl, ?_⟩) (by assumption) ?_; (rotate_left; (intro wS hSw; (try dsimp only at hSw); go_simp; (try with_reducible rfl)); rotate_left); simp only [Act.put, List.setIfInBounds_toArray, List.set_cons_zero, List.set_cons_succ]
  refine lin_take (v := ?_) (by kernel_rfl) (by kernel_rfl) (fun _ _ _ h => h) (Or.inl ⟨by rfl, ?_⟩) (by assumption) ?_; (rotate_left; (intro wS hSw; (try dsimp only at hSw); go_simp; (try with_reducible rfl)); rotate_left); simp only [Act.put, List.setIfInBounds_toArray, List.set_cons_zero, List.set_cons_succ]
  refine lin_take (v := ?_) (by kernel_rfl) (by kernel_rfl) (fun _ _ _ h => h) (Or.inl ⟨by rfl, ?_⟩) (by assumption) ?_; (rotate_left; (intro wS hSw; (try dsimp only at hSw); go_simp; (try with_reducible rfl)); rotate_left); simp only [Act.put, List.setIfInBounds_toArray, List.set_cons_zero, List.set_cons_succ]
  refine lin_take (v := ?_) (by kernel_rfl) (by kernel_rfl) (fun _ _ _ h => h) (Or.inl ⟨by rfl, ?_⟩) (by assumption) ?_; (rotate_left; (intro wS hSw; (try dsimp only at hSw); go_simp; (try with_reducible rfl)); rotate_left); simp only [Act.put, List.setIfInBounds_toArray, List.set_cons_zero, List.set_cons_succ]
  refine lin_rot ?_; simp only [List.cons_append, List.nil_append]
  refine lin_rot ?_; simp only [List.cons_append, List.nil_append]
  refine lin_take (v := ?_) (by kernel_rfl) (by kernel_rfl) (fun _ _ _ h => h) (Or.inl ⟨by rfl, ?_⟩) (by assumption) ?_; (rotate_left; (intro wS hSw; (try dsimp only at hSw); go_simp; (try with_reducible rfl)); rotate_left); simp only [Act.put, List.setIfInBounds_toArray, List.set_cons_zero, List.set_cons_succ]
  refine lin_take (v := ?_) (by kernel_rfl) (by kernel_rfl) (fun _ _ _ h => h) (Or.inl ⟨by rfl, ?_⟩) (by assumption) ?_; (rotate_left; (intro wS hSw; (try dsimp only at hSw); go_simp; (try with_reducible rfl)); rotate_left); simp only [Act.put, List.setIfInBounds_toArray, List.set_cons_zero, List.set_cons_succ]
  refine lin_take (v := ?_) (by kernel_rfl) (by kernel_rfl) (fun _ _ _ h => h) (Or.inl ⟨by rfl, ?_⟩) (by assumption) ?_; (rotate_left; (intro wS hSw; (try dsimp only at hSw); go_simp; (try with_reducible rfl)); rotate_left); simp only [Act.put, List.setIfInBounds_toArray, List.set_cons_zero, List.set_cons_succ]
  refine lin_take (v := ?_) (by kernel_rfl) (by kernel_rfl) (fun _ _ _ h => h) (Or.inl ⟨by rfl, ?_⟩) (by assumption) ?_; (rotate_left; (intro wS hSw; (try dsimp only at hSw); go_simp; (try with_reducible rfl)); rotate_left); simp only [Act.put, List.setIfInBounds_toArray, List.set_cons_zero, List.set_cons_succ]
  refine lin_take (v := ?_) (by kernel_rfl) (by kernel_rfl) (fun _ _ _ h => h) (Or.inl ⟨by rfl, ?_⟩) (by assumption) ?_; (rotate_left; (intro wS hSw; (try dsimp only at hSw); go_simp; (try with_reducible rfl)); rotate_left); simp only [Act.put, List.setIfInBounds_toArray, List.set_cons_zero, List.set_cons_succ]
  refine lin_take (v := ?_) (by kernel_rfl) (by kernel_rfl) (fun _ _ _ h => h) (Or.inl ⟨by rfl, ?_⟩) (by assumption) ?_; (rotate_left; (intro wS hSw; (try dsimp only at hSw); go_simp; (try with_reducible rfl)); rotate_left); simp only [Act.put, List.setIfInBounds_toArray, List.set_cons_zero, List.set_cons_succ]
  refine lin_rot ?_; simp only [List.cons_append, List.nil_append]
  refine lin_sole (by kernel_rfl) (fun K hK => ?_)
  go_simp
  refine (LD.out _ hOa).mono ?_
  rintro e w5 ⟨rfl, hOb⟩
  refine hK.out _ _ (KS.out _ _ hOb) (fun hHeld => ?_)
  try simp only [Act.put, List.setIfInBounds_toArray, List.set_cons_zero, List.set_cons_succ]
  clear hK
  refine lin_take (v := ?_) (by kernel_rfl) (by kernel_rfl) (fun _ _ _ h => h) (Or.inl ⟨by rfl, ?_⟩) (by assumption) ?_; (rotate_left; (intro wS hSw; (try dsimp only at hSw); go_simp; (try with_reducible rfl)); rotate_left); simp only [Act.put, List.setIfInBounds_toArray, List.set_cons_zero, List.set_cons_succ]
  refine lin_take (v := ?_) (by kernel_rfl) (by kernel_rfl) (fun _ _ _ h => h) (Or.inl ⟨by rfl, ?_⟩) (by assumption) ?_; (rotate_left; (intro wS hSw; (try dsimp only at hSw); go_simp; (try with_reducible rfl)); rotate_left); simp only [Act.put, List.setIfInBounds_toArray, List.set_cons_zero, List.set_cons_succ]
  refine lin_done (by kernel_rfl) ?_
  have z10 := hOb.w10.1; have zf10 := hOb.w10.2
  have NX := Lib.hid (hOb.s10 hno (.func (.func 68) #[.pointer (some ⟨wb, 0, none⟩)] #[]))
  clear hno
  go_wp2_with fail
  (first | go_end0 | ((try simp only [Exit.inBlock, Exit.then]); refine bodyPost_ret (results_none rfl _ _ _) rfl ?_))
  exact ⟨rfl, NX.out⟩
theorem mLooksY {W D k : Int} {B : Nat} {ms : List Int} (c : Cf W D k B ms.length) {w0 w : World} {g b wb : Nat} {t x h a n : Int} {nv : Value} {got full : Bool} {bx : List (Nat × Value × TypeId)} {l : List Ast} (hO : Own w0 w (storeA g b ms :: walkA wb (wcs W D k t x h a n nv got full) bx :: l)) (hno : ∀ p ∈ bx, p.1 ≠ wb) (T : Int) (hT : wrap64 (t - 1) = T) (y : Int) (hy : ms.getD B 0 = y) (hc : y ≤ T) :
    Calls Try.prog 60 #[.pointer (some ⟨wb, 0, none⟩), .pointer (some ⟨g, 0, none⟩)] w fun e w' => e = .returned (.tuple #[]) ∧ Own w0 w' (storeA g b ms :: walkA wb (wcs W D k t x h a n (.func (.func 73) #[.pointer (some ⟨wb, 0, none⟩)] #[]) got full) bx :: l) := by
  have hmf : ∀ (fn : Fn) (first cap : Array Value) (w : World), (Instr.makeFunc fn first cap).run Try.prog w = .ok (.func fn first cap) w := fun _ _ _ _ => rfl
  have cb := c.bd
  have LD := Lib.hid (fun (w' : World) (h' : Own w0 w' (storeA g b ms :: walkA wb (wcs W D k t x h a n nv got full) bx :: l)) => dload c h' 0 B (by omega) (by omega) y hy)
  have KS := Lib.hid (fun (w' : World) (ms' : List Int) (h' : Own w0 w' (storeA g b ms' :: walkA wb (wcs W D k t x h a n nv got full) bx :: l)) => show (fun w' : World => w'.cell? ⟨wb, 5, none⟩ = some (.int .i64 t)) w' from (h'.wget 1 rfl 5).1)
  have e1 : IntKind.i64.wrap (t - 1) = T := (IntWalk.i64_left _).trans hT
  have e3 : decide (y ≤ T) = true := by simpa using hc
  have hOa := hO.drewN 1
  clear hO hy hT
  go_enter Try.func60, Try.ntmps60
  go_wp2_with fail
  have hS0 := KS.out _ _ hOa
  refine lin_start (S := (fun w' : World => w'.cell? ⟨wb, 5, none⟩ = some (.int .i64 t))) rfl 9 rfl hS0 ?_
  simp only [numbered, Nat.zero_add, Nat.reduceAdd]
  refine lin_take (v := ?_) (by kernel_rfl) (by kernel_rfl) (fun _ _ _ h => h) (Or.inl ⟨by rfl, ?_⟩) (by assumption) ?_; (rotate_left; (intro wS hSw; (try dsimp only at hSw); go_simp; (try with_reducible rfl)); rotate_left); simp only [Act.put, List.setIfInBounds_toArray, List.set_cons_zero, List.set_cons_succ]
  refine lin_take (v := ?_) (by kernel_rfl) (by kernel_rfl) (fun _ _ _ h => h) (Or.inl ⟨by rfl, ?_⟩) (by assumption) ?_; (rotate_left; (intro wS hSw; (try dsimp only at hSw); go_simp; (try with_reducible rfl)); rotate_left); simp only [Act.put, List.setIfInBounds_toArray, List.set_cons_zero, List.set_cons_succ]
  refine lin_rot ?_; simp only [List.cons_append, List.nil_append]
  refine lin_take (v := ?_) (by kernel_rfl) (by kernel_rfl) (fun _ _ _ h => h) (Or.inl ⟨by rfl, ?_⟩) (by assumption) ?_; (rotate_left; (intro wS hSw; (try dsimp only at hSw); go_simp; (try with_reducible rfl)); rotate_left); simp only [Act.put, List.setIfInBounds_toArray, List.set_cons_zero, List.set_cons_succ]
  refine lin_take (v := ?_) (by kernel_rfl) (by kernel_rfl) (fun _ _ _ h => h) (Or.inl ⟨by rfl, ?_⟩) (by assumption) ?_; (rotate_left; (intro wS hSw; (try dsimp only at hSw); go_simp; (try with_reducible rfl)); rotate_left); simp only [Act.put, List.setIfInBounds_toArray, List.set_cons_zero, List.set_cons_succ]
  refine lin_take (v := ?_) (by kernel_rfl) (by kernel_rfl) (fun _ _ _ h => h) (Or.inl ⟨by rfl, ?_⟩) (by assumption) ?_; (rotate_left; (intro wS hSw; (try dsimp only at hSw); go_simp; (try with_reducible rfl)); rotate_left); simp only [Act.put, List.setIfInBounds_toArray, List.set_cons_zero, List.set_cons_succ]
  refine lin_take (v := ?_) (by kernel_rfl) (by kernel_rfl) (fun _ _ _ h => h) (Or.inl ⟨by rfl, ?_⟩) (by assumption) ?_; (rotate_left; (intro wS hSw; (try dsimp only at hSw); go_simp; (try with_reducible rfl)); rotate_left); simp only [Act.put, List.setIfInBounds_toArray, List.set_cons_zero, List.set_cons_succ]
  refine lin_take (v := ?_) (by kernel_rfl) (by kernel_rfl) (fun _ _ _ h => h) (Or.inl ⟨by rfl, ?_⟩) (by assumption) ?_; (rotate_left; (intro wS hSw; (try dsimp only at hSw); go_simp; (try with_reducible rfl)); rotate_left); simp only [Act.put, List.setIfInBounds_toArray, List.set_cons_zero, List.set_cons_succ]
  refine lin_rot ?_; simp only [List.cons_append, List.nil_append]
  refine lin_sole (by kernel_rfl) (fun K hK => ?_)
  go_simp
  refine (LD.out _ hOa).mono ?_
  rintro e w5 ⟨rfl, hOb⟩
  refine hK.out _ _ (KS.out _ _ hOb) (fun hHeld => ?_)
  try simp only [Act.put, List.setIfInBounds_toArray, List.set_cons_zero, List.set_cons_succ]
  clear hK
  refine lin_take (v := ?_) (by kernel_rfl) (by kernel_rfl) (fun _ _ _ h => h) (Or.inl ⟨by rfl, ?_⟩) (by assumption) ?_; (rotate_left; (intro wS hSw; (try dsimp only at hSw); go_simp; (try with_reducible rfl)); rotate_left); simp only [Act.put, List.setIfInBounds_toArray, List.set_cons_zero, List.set_cons_succ]
  refine lin_done (by kernel_rfl) ?_
  have z10 := hOb.w10.1; have zf10 := hOb.w10.2
  have NX := Lib.hid (hOb.s10 hno (.func (.func 73) #[.pointer (some ⟨wb, 0, none⟩)] #[]))
  clear hno
  go_wp2_with fail
  (first | go_end0 | ((try simp only [Exit.inBlock, Exit.then]); refine bodyPost_ret (results_none rfl _ _ _) rfl ?_))
  exact ⟨rfl, NX.out⟩
theorem mLooksN {W D k : Int} {B : Nat} {ms : List Int} (c : Cf W D k B ms.length) {w0 w : World} {g b wb : Nat} {t x h a n : Int} {nv : Value} {got full : Bool} {bx : List (Nat × Value × TypeId)} {l : List Ast} (hO : Own w0 w (storeA g b ms :: walkA wb (wcs W D k t x h a n nv got full) bx :: l)) (hno : ∀ p ∈ bx, p.1 ≠ wb) (T : Int) (hT : wrap64 (t - 1) = T) (y : Int) (hy : ms.getD B 0 = y) (hc : ¬ y ≤ T) :
    Calls Try.prog 60 #[.pointer (some ⟨wb, 0, none⟩), .pointer (some ⟨g, 0, none⟩)] w fun e w' => e = .returned (.tuple #[]) ∧ Own w0 w' (storeA g b ms :: walkA wb (wcs W D k t x h a n (.func (.func 74) #[.pointer (some ⟨wb, 0, none⟩)] #[]) got full) bx :: l) := by
  have hmf : ∀ (fn : Fn) (first cap : Array Value) (w : World), (Instr.makeFunc fn first cap).run Try.prog w = .ok (.func fn first cap) w := fun _ _ _ _ => rfl
  have cb := c.bd
  have LD := Lib.hid (fun (w' : World) (h' : Own w0 w' (storeA g b ms :: walkA wb (wcs W D k t x h a n nv got full) bx :: l)) => dload c h' 0 B (by omega) (by omega) y hy)
  have KS := Lib.hid (fun (w' : World) (ms' : List Int) (h' : Own w0 w' (storeA g b ms' :: walkA wb (wcs W D k t x h a n nv got full) bx :: l)) => show (fun w' : World => w'.cell? ⟨wb, 5, none⟩ = some (.int .i64 t)) w' from (h'.wget 1 rfl 5).1)
  have e1 : IntKind.i64.wrap (t - 1) = T := (IntWalk.i64_left _).trans hT
  have e3 : decide (y ≤ T) = false := by simpa using hc
  have hOa := hO.drewN 1
  clear hO hy hT
  go_enter Try.func60, Try.ntmps60
  go_wp2_with fail
  have hS0 := KS.out _ _ hOa
  refine lin_start (S := (fun w' : World => w'.cell? ⟨wb, 5, none⟩ = some (.int .i64 t))) rfl 9 rfl hS0 ?_
  simp only [numbered, Nat.zero_add, Nat.reduceAdd]
  refine lin_take (v := ?_) (by kernel_rfl) (by kernel_rfl) (fun _ _ _ h => h) (Or.inl ⟨by rfl, ?_⟩) (by assumption) ?_; (rotate_left; (intro wS hSw; (try dsimp only at hSw); go_simp; (try with_reducible rfl)); rotate_left); simp only [Act.put, List.setIfInBounds_toArray, List.set_cons_zero, List.set_cons_succ]
  refine lin_take (v := ?_) (by kernel_rfl) (by kernel_rfl) (fun _ _ _ h => h) (Or.inl ⟨by rfl, ?_⟩) (by assumption) ?_; (rotate_left; (intro wS hSw; (try dsimp only at hSw); go_simp; (try with_reducible rfl)); rotate_left); simp only [Act.put, List.setIfInBounds_toArray, List.set_cons_zero, List.set_cons_succ]
  refine lin_rot ?_; simp only [List.cons_append, List.nil_append]
  refine lin_take (v := ?_) (by kernel_rfl) (by kernel_rfl) (fun _ _ _ h => h) (Or.inl ⟨by rfl, ?_⟩) (by assumption) ?_; (rotate_left; (intro wS hSw; (try dsimp only at hSw); go_simp; (try with_reducible rfl)); rotate_left); simp only [Act.put, List.setIfInBounds_toArray, List.set_cons_zero, List.set_cons_succ]
  refine lin_take (v := ?_) (by kernel_rfl) (by kernel_rfl) (fun _ _ _ h => h) (Or.inl ⟨by rfl, ?_⟩) (by assumption) ?_; (rotate_left; (intro wS hSw; (try dsimp only at hSw); go_simp; (try with_reducible rfl)); rotate_left); simp only [Act.put, List.setIfInBounds_toArray, List.set_cons_zero, List.set_cons_succ]
  refine lin_take (v := ?_) (by kernel_rfl) (by kernel_rfl) (fun _ _ _ h => h) (Or.inl ⟨by rfl, ?_⟩) (by assumption) ?_; (rotate_left; (intro wS hSw; (try dsimp only at hSw); go_simp; (try with_reducible rfl)); rotate_left); simp only [Act.put, List.setIfInBounds_toArray, List.set_cons_zero, List.set_cons_succ]
  refine lin_take (v := ?_) (by kernel_rfl) (by kernel_rfl) (fun _ _ _ h => h) (Or.inl ⟨by rfl, ?_⟩) (by assumption) ?_; (rotate_left; (intro wS hSw; (try dsimp only at hSw); go_simp; (try with_reducible rfl)); rotate_left); simp only [Act.put, List.setIfInBounds_toArray, List.set_cons_zero, List.set_cons_succ]
  refine lin_take (v := ?_) (by kernel_rfl) (by kernel_rfl) (fun _ _ _ h => h) (Or.inl ⟨by rfl, ?_⟩) (by assumption) ?_; (rotate_left; (intro wS hSw; (try dsimp only at hSw); go_simp; (try with_reducible rfl)); rotate_left); simp only [Act.put, List.setIfInBounds_toArray, List.set_cons_zero, List.set_cons_succ]
  refine lin_rot ?_; simp only [List.cons_append, List.nil_append]
  refine lin_sole (by kernel_rfl) (fun K hK => ?_)
  go_simp
  refine (LD.out _ hOa).mono ?_
  rintro e w5 ⟨rfl, hOb⟩
  refine hK.out _ _ (KS.out _ _ hOb) (fun hHeld => ?_)
  try simp only [Act.put, List.setIfInBounds_toArray, List.set_cons_zero, List.set_cons_succ]
  clear hK
  refine lin_take (v := ?_) (by kernel_rfl) (by kernel_rfl) (fun _ _ _ h => h) (Or.inl ⟨by rfl, ?_⟩) (by assumption) ?_; (rotate_left; (intro wS hSw; (try dsimp only at hSw); go_simp; (try with_reducible rfl)); rotate_left); simp only [Act.put, List.setIfInBounds_toArray, List.set_cons_zero, List.set_cons_succ]
  refine lin_done (by kernel_rfl) ?_
  have z10 := hOb.w10.1; have zf10 := hOb.w10.2
  have NX := Lib.hid (hOb.s10 hno (.func (.func 74) #[.pointer (some ⟨wb, 0, none⟩)] #[]))
  clear hno
  go_wp2_with fail
  (first | go_end0 | ((try simp only [Exit.inBlock, Exit.then]); refine bodyPost_ret (results_none rfl _ _ _) rfl ?_))
  exact ⟨rfl, NX.out⟩
theorem mGrow {W D k : Int} {B : Nat} {ms : List Int} (c : Cf W D k B ms.length) {w0 w : World} {g b wb : Nat} {t x h a n : Int} {nv : Value} {got full : Bool} {bx : List (Nat × Value × TypeId)} {l : List Ast} (hO : Own w0 w (storeA g b ms :: walkA wb (wcs W D k t x h a n nv got full) bx :: l)) (hno : ∀ p ∈ bx, p.1 ≠ wb) (T : Int) (hT : wrap64 (t + 1) = T) :
    Calls Try.prog 79 #[.pointer (some ⟨wb, 0, none⟩), .pointer (some ⟨g, 0, none⟩)] w fun e w' => e = .returned (.tuple #[]) ∧ Own w0 w' (storeA g b (ms.set (B + 1) T) :: walkA wb (wcs W D k T x h a n .nilFunc got full) bx :: l) := by
  have hmf : ∀ (fn : Fn) (first cap : Array Value) (w : World), (Instr.makeFunc fn first cap).run Try.prog w = .ok (.func fn first cap) w := fun _ _ _ _ => rfl
  have y5 := hO.w5.1
  have yf5 := hO.w5.2
  have h1 := Lib.hid (hO.s5 hno T)
  have PT := Lib.hid (fun (w' : World) (h' : Own w0 w' (storeA g b ms :: walkA wb (wcs W D k T x h a n nv got full) bx :: l)) => dput c h' 1 (B + 1) (by omega) (by omega) T _ rfl)
  have EN := Lib.hid (fun (w' : World) (ms' : List Int) (h' : Own w0 w' (storeA g b ms' :: walkA wb (wcs W D k T x h a n nv got full) bx :: l)) => dend h' hno)
  clear hO hno
  go_enter Try.func79, Try.ntmps79
  go_wp2_with (first | (go_at_call 59; refine (PT.out _ h1.out).mono ?_; rintro e w1 ⟨rfl, h2⟩) | (go_at_call 67; refine (EN.out _ _ h2).mono ?_; rintro e w2 ⟨rfl, h3⟩))
  (first | go_end0 | ((try simp only [Exit.inBlock, Exit.then]); refine bodyPost_ret (results_none rfl _ _ _) rfl ?_))
  exact ⟨rfl, h3⟩
end Go.Proofs.Ytofnjapgacgdlaa
