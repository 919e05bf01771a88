/- Package deque: takes, first, carries, finds, looksAgain. -/
import Derived.Test.YtofnjapgacgdlaaDq3
set_option linter.unusedVariables false
set_option linter.unusedSimpArgs false
namespace Go.Proofs.Ytofnjapgacgdlaa
open Go.RowKit
set_option maxRecDepth 100000
set_option maxHeartbeats 8000000
theorem mTakes {W D k : Int} {B : Nat} {ms : List Int} (c : Cf W D k B ms.length) {w0 w : World} {g b wb : Nat} {t x h a n : Int} {nv : Value} {got full : Bool} {bx : List (Nat × Value × TypeId)} {l : List Ast} (hO : Own w0 w (storeA g b ms :: walkA wb (wcs W D k t x h a n nv got full) bx :: l)) (hno : ∀ p ∈ bx, p.1 ≠ wb) (T : Int) (hT : wrap64 (t - 1) = T) (X : Int) (hX : ms.getD (slotN B D T) 0 = X) :
    Calls Try.prog 73 #[.pointer (some ⟨wb, 0, none⟩), .pointer (some ⟨g, 0, none⟩)] w fun e w' => e = .returned (.tuple #[]) ∧ Own w0 w' (storeA g b ms :: walkA wb (wcs W D k T X h a n .nilFunc true full) bx :: l) := by
  have hmf : ∀ (fn : Fn) (first cap : Array Value) (w : World), (Instr.makeFunc fn first cap).run Try.prog w = .ok (.func fn first cap) w := fun _ _ _ _ => rfl
  have SC := Lib.hid (fun w => (c.slot T).1 ▸ slot_ok c.ok k T w)
  have LD := Lib.hid (fun (w' : World) (h' : Own w0 w' (storeA g b ms :: walkA wb (wcs W D k T x h a n nv got full) bx :: l)) => own_load h' 0 rfl (k := slotN B D T) (c.slot T).2 X hX)
  have KS := Lib.hid (fun (w' : World) (ms' : List Int) (h' : Own w0 w' (storeA g b ms' :: walkA wb (wcs W D k T x h a n nv got full) bx :: l)) => show (fun w' : World => w'.cell? ⟨wb, 0, none⟩ = some (.int .i64 W) ∧ w'.cell? ⟨wb, 1, none⟩ = some (.int .i64 1) ∧ w'.cell? ⟨wb, 2, none⟩ = some (.int .i64 1) ∧ w'.cell? ⟨wb, 3, none⟩ = some (.int .i64 D) ∧ w'.cell? ⟨wb, 4, none⟩ = some (.int .i64 k) ∧ w'.cell? ⟨wb, 5, none⟩ = some (.int .i64 T)) w' from ⟨(h'.wget 1 rfl 0).1, (h'.wget 1 rfl 1).1, (h'.wget 1 rfl 2).1, (h'.wget 1 rfl 3).1, (h'.wget 1 rfl 4).1, (h'.wget 1 rfl 5).1⟩)
  have KX := Lib.hid (fun (w' : World) (ms' : List Int) (h' : Own w0 w' (storeA g b ms' :: walkA wb (wcs W D k T X h a n nv got full) bx :: l)) => show (fun w' : World => w'.cell? ⟨wb, 0, none⟩ = some (.int .i64 W) ∧ w'.cell? ⟨wb, 1, none⟩ = some (.int .i64 1) ∧ w'.cell? ⟨wb, 2, none⟩ = some (.int .i64 1) ∧ w'.cell? ⟨wb, 3, none⟩ = some (.int .i64 D) ∧ w'.cell? ⟨wb, 4, none⟩ = some (.int .i64 k) ∧ w'.cell? ⟨wb, 5, none⟩ = some (.int .i64 T)) w' from ⟨(h'.wget 1 rfl 0).1, (h'.wget 1 rfl 1).1, (h'.wget 1 rfl 2).1, (h'.wget 1 rfl 3).1, (h'.wget 1 rfl 4).1, (h'.wget 1 rfl 5).1⟩)
  have NX := Lib.hid (fun (w' : World) (h' : Own w0 w' (storeA g b ms :: walkA wb (wcs W D k T x h a n nv got full) bx :: l)) => h'.s6 hno X)
  have NY := Lib.hid (fun (w' : World) (h' : Own w0 w' (storeA g b ms :: walkA wb (wcs W D k T X h a n nv got full) bx :: l)) => show Own w0 (w'.setCell ⟨wb, 7 + 4, none⟩ (.bool true)) (storeA g b ms :: walkA wb (wcs W D k T X h a n nv true full) bx :: l) from h'.s11 hno true)
  have EN := Lib.hid (fun (w' : World) (h' : Own w0 w' (storeA g b ms :: walkA wb (wcs W D k T X h a n nv true full) bx :: l)) => dend h' hno)
  have y5 := hO.w5.1
  have yf5 := hO.w5.2
  have h1 := hO.s5 hno T
  clear hO hno
  go_enter Try.func73, Try.ntmps73
  go_wp2_with fail
  generalize w.setCell ⟨wb, 5, none⟩ (.int .i64 T) = u at *
  have hOa := h1.drewN 1
  clear h1 y5 yf5
  have hS0 := KS.out _ _ hOa
  refine lin_start (S := (fun w' : World => w'.cell? ⟨wb, 0, none⟩ = some (.int .i64 W) ∧ w'.cell? ⟨wb, 1, none⟩ = some (.int .i64 1) ∧ w'.cell? ⟨wb, 2, none⟩ = some (.int .i64 1) ∧ w'.cell? ⟨wb, 3, none⟩ = some (.int .i64 D) ∧ w'.cell? ⟨wb, 4, none⟩ = some (.int .i64 k) ∧ w'.cell? ⟨wb, 5, none⟩ = some (.int .i64 T))) rfl 22 rfl hS0 ?_
  simp only [numbered, Nat.zero_add, Nat.reduceAdd]
  refine lin_take (v := ?_) (by kernel_rfl) (by kernel_rfl) (fun _ _ _ h => h) (Or.inl ⟨by rfl, ?_⟩) (by assumption) ?_; (rotate_left; (intro wS hSw; (try dsimp only at hSw); go_simp; (try with_reducible rfl)); rotate_left); simp only [Act.put, List.setIfInBounds_toArray, List.set_cons_zero, List.set_cons_succ]
  refine lin_take (v := ?_) (by kernel_rfl) (by kernel_rfl) (fun _ _ _ h => h) (Or.inl ⟨by rfl, ?_⟩) (by assumption) ?_; (rotate_left; (intro wS hSw; (try dsimp only at hSw); go_simp; (try with_reducible rfl)); rotate_left); simp only [Act.put, List.setIfInBounds_toArray, List.set_cons_zero, List.set_cons_succ]
  refine lin_take (v := ?_) (by kernel_rfl) (by kernel_rfl) (fun _ _ _ h => h) (Or.inl ⟨by rfl, ?_⟩) (by assumption) ?_; (rotate_left; (intro wS hSw; (try dsimp only at hSw); go_simp; (try with_reducible rfl)); rotate_left); simp only [Act.put, List.setIfInBounds_toArray, List.set_cons_zero, List.set_cons_succ]
  refine lin_take (v := ?_) (by kernel_rfl) (by kernel_rfl) (fun _ _ _ h => h) (Or.inl ⟨by rfl, ?_⟩) (by assumption) ?_; (rotate_left; (intro wS hSw; (try dsimp only at hSw); go_simp; (try with_reducible rfl)); rotate_left); simp only [Act.put, List.setIfInBounds_toArray, List.set_cons_zero, List.set_cons_succ]
  refine lin_take (v := ?_) (by kernel_rfl) (by kernel_rfl) (fun _ _ _ h => h) (Or.inl ⟨by rfl, ?_⟩) (by assumption) ?_; (rotate_left; (intro wS hSw; (try dsimp only at hSw); go_simp; (try with_reducible rfl)); rotate_left); simp only [Act.put, List.setIfInBounds_toArray, List.set_cons_zero, List.set_cons_succ]
  refine lin_take (v := ?_) (by kernel_rfl) (by kernel_rfl) (fun _ _ _ h => h) (Or.inl ⟨by rfl, ?_⟩) (by assumption) ?_; (rotate_left; (intro wS hSw; (try dsimp only at hSw); go_simp; (try with_reducible rfl)); rotate_left); simp only [Act.put, List.setIfInBounds_toArray, List.set_cons_zero, List.set_cons_succ]
  refine lin_take (v := ?_) (by kernel_rfl) (by kernel_rfl) (fun _ _ _ h => h) (Or.inl ⟨by rfl, ?_⟩) (by assumption) ?_; (rotate_left; (intro wS hSw; (try dsimp only at hSw); go_simp; (try with_reducible rfl)); rotate_left); simp only [Act.put, List.setIfInBounds_toArray, List.set_cons_zero, List.set_cons_succ]
  refine lin_take (v := ?_) (by kernel_rfl) (by kernel_rfl) (fun _ _ _ h => h) (Or.inl ⟨by rfl, ?_⟩) (by assumption) ?_; (rotate_left; (intro wS hSw; (try dsimp only at hSw); go_simp; (try with_reducible rfl)); rotate_left); simp only [Act.put, List.setIfInBounds_toArray, List.set_cons_zero, List.set_cons_succ]
  refine lin_take (v := ?_) (by kernel_rfl) (by kernel_rfl) (fun _ _ _ h => h) (Or.inl ⟨by rfl, ?_⟩) (by assumption) ?_; (rotate_left; (intro wS hSw; (try dsimp only at hSw); go_simp; (try with_reducible rfl)); rotate_left); simp only [Act.put, List.setIfInBounds_toArray, List.set_cons_zero, List.set_cons_succ]
  refine lin_take (v := ?_) (by kernel_rfl) (by kernel_rfl) (fun _ _ _ h => h) (Or.inl ⟨by rfl, ?_⟩) (by assumption) ?_; (rotate_left; (intro wS hSw; (try dsimp only at hSw); go_simp; (try with_reducible rfl)); rotate_left); simp only [Act.put, List.setIfInBounds_toArray, List.set_cons_zero, List.set_cons_succ]
  refine lin_take (v := ?_) (by kernel_rfl) (by kernel_rfl) (fun _ _ _ h => h) (Or.inl ⟨by rfl, ?_⟩) (by assumption) ?_; (rotate_left; (intro wS hSw; (try dsimp only at hSw); go_simp; (try with_reducible rfl)); rotate_left); simp only [Act.put, List.setIfInBounds_toArray, List.set_cons_zero, List.set_cons_succ]
  refine lin_take (v := ?_) (by kernel_rfl) (by kernel_rfl) (fun _ _ _ h => h) (Or.inl ⟨by rfl, ?_⟩) (by assumption) ?_; (rotate_left; (intro wS hSw; (try dsimp only at hSw); go_simp; (try with_reducible rfl)); rotate_left); simp only [Act.put, List.setIfInBounds_toArray, List.set_cons_zero, List.set_cons_succ]
  refine lin_take (v := ?_) (by kernel_rfl) (by kernel_rfl) (fun _ _ _ h => h) (Or.inl ⟨by rfl, ?_⟩) (by assumption) ?_; (rotate_left; (intro wS hSw; (try dsimp only at hSw); go_simp; (try with_reducible rfl)); rotate_left); simp only [Act.put, List.setIfInBounds_toArray, List.set_cons_zero, List.set_cons_succ]
  refine lin_take (v := ?_) (by kernel_rfl) (by kernel_rfl) (fun _ _ _ h => h) (Or.inl ⟨by rfl, ?_⟩) (by assumption) ?_; (rotate_left; (intro wS hSw; (try dsimp only at hSw); go_simp; (try with_reducible rfl)); rotate_left); simp only [Act.put, List.setIfInBounds_toArray, List.set_cons_zero, List.set_cons_succ]
  refine lin_sole (by kernel_rfl) (fun K hK => ?_)
  go_simp
  refine (SC.out _).mono ?_
  rintro e w5 ⟨rfl, hb5⟩
  have hOb := hOa.grow hb5
  refine hK.out _ _ (KS.out _ _ hOb) (fun hHeld => ?_)
  try simp only [Act.put, List.setIfInBounds_toArray, List.set_cons_zero, List.set_cons_succ]
  clear hK
  refine lin_sole (by kernel_rfl) (fun K hK => ?_)
  go_simp
  refine (LD.out _ hOb).mono ?_
  rintro e w6 ⟨rfl, rfl⟩
  refine hK.out _ _ (KS.out _ _ hOb) (fun hHeld => ?_)
  try simp only [Act.put, List.setIfInBounds_toArray, List.set_cons_zero, List.set_cons_succ]
  clear hK
  refine lin_take (v := ?_) (by kernel_rfl) (by kernel_rfl) (fun _ _ _ h => h) (Or.inl ⟨by rfl, ?_⟩) (by assumption) ?_; (rotate_left; (intro wS hSw; (try dsimp only at hSw); go_simp; (try with_reducible rfl)); rotate_left); simp only [Act.put, List.setIfInBounds_toArray, List.set_cons_zero, List.set_cons_succ]
  refine lin_take (v := ?_) (by kernel_rfl) (by kernel_rfl) (fun _ _ _ h => h) (Or.inl ⟨by rfl, ?_⟩) (by assumption) ?_; (rotate_left; (intro wS hSw; (try dsimp only at hSw); go_simp; (try with_reducible rfl)); rotate_left); simp only [Act.put, List.setIfInBounds_toArray, List.set_cons_zero, List.set_cons_succ]
  refine lin_take (v := ?_) (by kernel_rfl) (by kernel_rfl) (fun _ _ _ h => h) (Or.inl ⟨by rfl, ?_⟩) (by assumption) ?_; (rotate_left; (intro wS hSw; (try dsimp only at hSw); go_simp; (try with_reducible rfl)); rotate_left); simp only [Act.put, List.setIfInBounds_toArray, List.set_cons_zero, List.set_cons_succ]
  refine lin_take (v := ?_) (by kernel_rfl) (by kernel_rfl) (fun _ _ _ h => h) (Or.inl ⟨by rfl, ?_⟩) (by assumption) ?_; (rotate_left; (intro wS hSw; (try dsimp only at hSw); go_simp; (try with_reducible rfl)); rotate_left); simp only [Act.put, List.setIfInBounds_toArray, List.set_cons_zero, List.set_cons_succ]
  refine lin_take (v := ?_) (by kernel_rfl) (by kernel_rfl) (fun _ _ _ h => h) (Or.inl ⟨by rfl, ?_⟩) (by assumption) ?_; (rotate_left; (intro wS hSw; (try dsimp only at hSw); go_simp; (try with_reducible rfl)); rotate_left); simp only [Act.put, List.setIfInBounds_toArray, List.set_cons_zero, List.set_cons_succ]
  have z6 := hOb.w6.1
  have zf6 := hOb.w6.2
  have zd6 := hOb.d6.1
  have zdf6 := hOb.d6.2
  have hOc := NX.out _ hOb
  refine lin_sole (by kernel_rfl) (fun K hK => ?_)
  go_simp
  refine hK.out _ _ (KX.out _ _ hOc) (fun hHeld => ?_)
  try simp only [Act.put, List.setIfInBounds_toArray, List.set_cons_zero, List.set_cons_succ]
  clear hK
  refine lin_done (by kernel_rfl) ?_
  clear hOb hOa z6 zf6 zd6 zdf6
  generalize w5.setCell ⟨wb, 6, none⟩ (.int .i64 X) = v at *
  have z11 := hOc.w11.1; have zf11 := hOc.w11.2
  have hOd := Lib.hid (NY.out _ hOc)
  clear hOc
  go_wp2_with (go_at_call 67; refine (EN.out _ hOd.out).mono ?_; rintro e w8 ⟨rfl, h8⟩)
  (first | go_end0 | ((try simp only [Exit.inBlock, Exit.then]); refine bodyPost_ret (results_none rfl _ _ _) rfl ?_))
  exact ⟨rfl, h8⟩
theorem mFirst {W D k : Int} {B : Nat} {ms : List Int} (c : Cf W D k B ms.length) {w0 w : World} {g b wb : Nat} {t x h a n : Int} {nv : Value} {got full : Bool} {bx : List (Nat × Value × TypeId)} {l : List Ast} (hO : Own w0 w (storeA g b ms :: walkA wb (wcs W D k t x h a n nv got full) bx :: l)) (hno : ∀ p ∈ bx, p.1 ≠ wb) (y : Int) (hy : ms.getD B 0 = y) :
    Calls Try.prog 50 #[.pointer (some ⟨wb, 0, none⟩), .pointer (some ⟨g, 0, none⟩)] w fun e w' => e = .returned (.tuple #[]) ∧ Own w0 w' (storeA g b ms :: walkA wb (wcs W D k t x y a n (.func (.func 66) #[.pointer (some ⟨wb, 0, none⟩)] #[]) got full) bx :: l) := by
  have hmf : ∀ (fn : Fn) (first cap : Array Value) (w : World), (Instr.makeFunc fn first cap).run Try.prog w = .ok (.func fn first cap) w := fun _ _ _ _ => rfl
  have cb := c.bd
  have LD := Lib.hid (dload c hO 0 B (by omega) (by omega) y hy)
  have NX := Lib.hid (fun (w' : World) (h' : Own w0 w' (storeA g b ms :: walkA wb (wcs W D k t x h a n nv got full) bx :: l)) => (h'.s7 hno y).s10 hno (.func (.func 66) #[.pointer (some ⟨wb, 0, none⟩)] #[]))
  clear hO hno
  go_enter Try.func50, Try.ntmps50
  go_wp2_with (go_at_call 65; refine LD.out.mono ?_; rintro e w1 ⟨rfl, h1⟩; have z7 := h1.w7.1; have z10 := h1.w10.1; have zf7 := h1.w7.2; have zf10 := h1.w10.2)
  (first | go_end0 | ((try simp only [Exit.inBlock, Exit.then]); refine bodyPost_ret (results_none rfl _ _ _) rfl ?_))
  exact ⟨rfl, NX.out _ h1⟩
theorem mCarries {W D k : Int} {B : Nat} {ms : List Int} (c : Cf W D k B ms.length) {w0 w : World} {g b wb : Nat} {t x h a n : Int} {nv : Value} {got full : Bool} {bx : List (Nat × Value × TypeId)} {l : List Ast} (hO : Own w0 w (storeA g b ms :: walkA wb (wcs W D k t x h a n nv got full) bx :: l)) (hno : ∀ p ∈ bx, p.1 ≠ wb) (X : Int) (hX : ms.getD (slotN B D h) 0 = X) :
    Calls Try.prog 82 #[.pointer (some ⟨wb, 0, none⟩), .pointer (some ⟨g, 0, none⟩)] w fun e w' => e = .returned (.tuple #[]) ∧ ∃ q1 q2, Own w0 w' (storeA g b ms :: walkA wb (wcs W D k t X h a n (.func (.func 87) #[] #[.pointer (some ⟨q1, 0, none⟩), .pointer (some ⟨q2, 0, none⟩)]) true full) (bx ++ [(q1, .pointer (some ⟨wb, 0, none⟩), 46), (q2, .nilFunc, 82)]) :: l) ∧ q1 ≠ wb ∧ q2 ≠ wb := by
  have hmf : ∀ (fn : Fn) (first cap : Array Value) (w : World), (Instr.makeFunc fn first cap).run Try.prog w = .ok (.func fn first cap) w := fun _ _ _ _ => rfl
  have SC := Lib.hid (fun w => (c.slot h).1 ▸ slot_ok c.ok k h w)
  have LD := Lib.hid (fun (w' : World) (h' : Own w0 w' (storeA g b ms :: walkA wb (wcs W D k t x h a n nv got full) bx :: l)) => own_load h' 0 rfl (k := slotN B D h) (c.slot h).2 X hX)
  have KS := Lib.hid (fun (w' : World) (ms' : List Int) (h' : Own w0 w' (storeA g b ms' :: walkA wb (wcs W D k t x h a n nv got full) bx :: l)) => show (fun w' : World => w'.cell? ⟨wb, 0, none⟩ = some (.int .i64 W) ∧ w'.cell? ⟨wb, 1, none⟩ = some (.int .i64 1) ∧ w'.cell? ⟨wb, 2, none⟩ = some (.int .i64 1) ∧ w'.cell? ⟨wb, 3, none⟩ = some (.int .i64 D) ∧ w'.cell? ⟨wb, 4, none⟩ = some (.int .i64 k) ∧ w'.cell? ⟨wb, 7, none⟩ = some (.int .i64 h)) w' from ⟨(h'.wget 1 rfl 0).1, (h'.wget 1 rfl 1).1, (h'.wget 1 rfl 2).1, (h'.wget 1 rfl 3).1, (h'.wget 1 rfl 4).1, (h'.wget 1 rfl 7).1⟩)
  have KX := Lib.hid (fun (w' : World) (ms' : List Int) (h' : Own w0 w' (storeA g b ms' :: walkA wb (wcs W D k t X h a n nv got full) bx :: l)) => show (fun w' : World => w'.cell? ⟨wb, 0, none⟩ = some (.int .i64 W) ∧ w'.cell? ⟨wb, 1, none⟩ = some (.int .i64 1) ∧ w'.cell? ⟨wb, 2, none⟩ = some (.int .i64 1) ∧ w'.cell? ⟨wb, 3, none⟩ = some (.int .i64 D) ∧ w'.cell? ⟨wb, 4, none⟩ = some (.int .i64 k) ∧ w'.cell? ⟨wb, 7, none⟩ = some (.int .i64 h)) w' from ⟨(h'.wget 1 rfl 0).1, (h'.wget 1 rfl 1).1, (h'.wget 1 rfl 2).1, (h'.wget 1 rfl 3).1, (h'.wget 1 rfl 4).1, (h'.wget 1 rfl 7).1⟩)
  have NX := Lib.hid (fun (w' : World) (h' : Own w0 w' (storeA g b ms :: walkA wb (wcs W D k t x h a n nv got full) bx :: l)) => h'.s6 hno X)
  have NY := Lib.hid (fun (w' : World) (h' : Own w0 w' (storeA g b ms :: walkA wb (wcs W D k t X h a n nv got full) bx :: l)) => show Own w0 (w'.setCell ⟨wb, 11, none⟩ (.bool true)) (storeA g b ms :: walkA wb (wcs W D k t X h a n nv true full) bx :: l) from h'.s11 hno true)
  have LV := Lib.hid (fun (w' : World) (h' : Own w0 w' (storeA g b ms :: walkA wb (wcs W D k t X h a n nv true full) bx :: l)) => dleaves0 h' hno)
  have NZ := Lib.hid (fun (w' : World) (q1 q2 : Nat) (n1 : q1 ≠ wb) (n2 : q2 ≠ wb) (h' : Own w0 w' (storeA g b ms :: walkA wb (wcs W D k t X h a n nv true full) (bx ++ [(q1, .pointer (some ⟨wb, 0, none⟩), 46), (q2, .nilFunc, 82)]) :: l)) => show Own w0 (w'.setCell ⟨wb, 10, none⟩ (.func (.func 87) #[] #[.pointer (some ⟨q1, 0, none⟩), .pointer (some ⟨q2, 0, none⟩)])) (storeA g b ms :: walkA wb (wcs W D k t X h a n (.func (.func 87) #[] #[.pointer (some ⟨q1, 0, none⟩), .pointer (some ⟨q2, 0, none⟩)]) true full) (bx ++ [(q1, .pointer (some ⟨wb, 0, none⟩), 46), (q2, .nilFunc, 82)]) :: l) from h'.s10 (more_no hno n1 n2) _)
  have hOa := hO.drewN 1
  clear hO hno
  go_enter Try.func82, Try.ntmps82
  go_wp2_with fail
  have hS0 := KS.out _ _ hOa
  refine lin_start (S := (fun w' : World => w'.cell? ⟨wb, 0, none⟩ = some (.int .i64 W) ∧ w'.cell? ⟨wb, 1, none⟩ = some (.int .i64 1) ∧ w'.cell? ⟨wb, 2, none⟩ = some (.int .i64 1) ∧ w'.cell? ⟨wb, 3, none⟩ = some (.int .i64 D) ∧ w'.cell? ⟨wb, 4, none⟩ = some (.int .i64 k) ∧ w'.cell? ⟨wb, 7, none⟩ = some (.int .i64 h))) rfl 22 rfl hS0 ?_
  simp only [numbered, Nat.zero_add, Nat.reduceAdd]
  refine lin_take (v := ?_) (by kernel_rfl) (by kernel_rfl) (fun _ _ _ h => h) (Or.inl ⟨by rfl, ?_⟩) (by assumption) ?_; (rotate_left; (intro wS hSw; (try dsimp only at hSw); go_simp; (try with_reducible rfl)); rotate_left); simp only [Act.put, List.setIfInBounds_toArray, List.set_cons_zero, List.set_cons_succ]
  refine lin_take (v := ?_) (by kernel_rfl) (by kernel_rfl) (fun _ _ _ h => h) (Or.inl ⟨by rfl, ?_⟩) (by assumption) ?_; (rotate_left; (intro wS hSw; (try dsimp only at hSw); go_simp; (try with_reducible rfl)); rotate_left); simp only [Act.put, List.setIfInBounds_toArray, List.set_cons_zero, List.set_cons_succ]
  refine lin_take (v := ?_) (by kernel_rfl) (by kernel_rfl) (fun _ _ _ h => h) (Or.inl ⟨by rfl, ?_⟩) (by assumption) ?_; (rotate_left; (intro wS hSw; (try dsimp only at hSw); go_simp; (try with_reducible rfl)); rotate_left); simp only [Act.put, List.setIfInBounds_toArray, List.set_cons_zero, List.set_cons_succ]
  refine lin_take (v := ?_) (by kernel_rfl) (by kernel_rfl) (fun _ _ _ h => h) (Or.inl ⟨by rfl, ?_⟩) (by assumption) ?_; (rotate_left; (intro wS hSw; (try dsimp only at hSw); go_simp; (try with_reducible rfl)); rotate_left); simp only [Act.put, List.setIfInBounds_toArray, List.set_cons_zero, List.set_cons_succ]
  refine lin_take (v := ?_) (by kernel_rfl) (by kernel_rfl) (fun _ _ _ h => h) (Or.inl ⟨by rfl, ?_⟩) (by assumption) ?_; (rotate_left; (intro wS hSw; (try dsimp only at hSw); go_simp; (try with_reducible rfl)); rotate_left); simp only [Act.put, List.setIfInBounds_toArray, List.set_cons_zero, List.set_cons_succ]
  refine lin_take (v := ?_) (by kernel_rfl) (by kernel_rfl) (fun _ _ _ h => h) (Or.inl ⟨by rfl, ?_⟩) (by assumption) ?_; (rotate_left; (intro wS hSw; (try dsimp only at hSw); go_simp; (try with_reducible rfl)); rotate_left); simp only [Act.put, List.setIfInBounds_toArray, List.set_cons_zero, List.set_cons_succ]
  refine lin_take (v := ?_) (by kernel_rfl) (by kernel_rfl) (fun _ _ _ h => h) (Or.inl ⟨by rfl, ?_⟩) (by assumption) ?_; (rotate_left; (intro wS hSw; (try dsimp only at hSw); go_simp; (try with_reducible rfl)); rotate_left); simp only [Act.put, List.setIfInBounds_toArray, List.set_cons_zero, List.set_cons_succ]
  refine lin_take (v := ?_) (by kernel_rfl) (by kernel_rfl) (fun _ _ _ h => h) (Or.inl ⟨by rfl, ?_⟩) (by assumption) ?_; (rotate_left; (intro wS hSw; (try dsimp only at hSw); go_simp; (try with_reducible rfl)); rotate_left); simp only [Act.put, List.setIfInBounds_toArray, List.set_cons_zero, List.set_cons_succ]
  refine lin_take (v := ?_) (by kernel_rfl) (by kernel_rfl) (fun _ _ _ h => h) (Or.inl ⟨by rfl, ?_⟩) (by assumption) ?_; (rotate_left; (intro wS hSw; (try dsimp only at hSw); go_simp; (try with_reducible rfl)); rotate_left); simp only [Act.put, List.setIfInBounds_toArray, List.set_cons_zero, List.set_cons_succ]
  refine lin_take (v := ?_) (by kernel_rfl) (by kernel_rfl) (fun _ _ _ h => h) (Or.inl ⟨by rfl, ?_⟩) (by assumption) ?_; (rotate_left; (intro wS hSw; (try dsimp only at hSw); go_simp; (try with_reducible rfl)); rotate_left); simp only [Act.put, List.setIfInBounds_toArray, List.set_cons_zero, List.set_cons_succ]
  refine lin_take (v := ?_) (by kernel_rfl) (by kernel_rfl) (fun _ _ _ h => h) (Or.inl ⟨by rfl, ?_⟩) (by assumption) ?_; (rotate_left; (intro wS hSw; (try dsimp only at hSw); go_simp; (try with_reducible rfl)); rotate_left); simp only [Act.put, List.setIfInBounds_toArray, List.set_cons_zero, List.set_cons_succ]
  refine lin_take (v := ?_) (by kernel_rfl) (by kernel_rfl) (fun _ _ _ h => h) (Or.inl ⟨by rfl, ?_⟩) (by assumption) ?_; (rotate_left; (intro wS hSw; (try dsimp only at hSw); go_simp; (try with_reducible rfl)); rotate_left); simp only [Act.put, List.setIfInBounds_toArray, List.set_cons_zero, List.set_cons_succ]
  refine lin_take (v := ?_) (by kernel_rfl) (by kernel_rfl) (fun _ _ _ h => h) (Or.inl ⟨by rfl, ?_⟩) (by assumption) ?_; (rotate_left; (intro wS hSw; (try dsimp only at hSw); go_simp; (try with_reducible rfl)); rotate_left); simp only [Act.put, List.setIfInBounds_toArray, List.set_cons_zero, List.set_cons_succ]
  refine lin_take (v := ?_) (by kernel_rfl) (by kernel_rfl) (fun _ _ _ h => h) (Or.inl ⟨by rfl, ?_⟩) (by assumption) ?_; (rotate_left; (intro wS hSw; (try dsimp only at hSw); go_simp; (try with_reducible rfl)); rotate_left); simp only [Act.put, List.setIfInBounds_toArray, List.set_cons_zero, List.set_cons_succ]
  refine lin_sole (by kernel_rfl) (fun K hK => ?_)
  go_simp
  refine (SC.out _).mono ?_
  rintro e w5 ⟨rfl, hb5⟩
  have hOb := hOa.grow hb5
  refine hK.out _ _ (KS.out _ _ hOb) (fun hHeld => ?_)
  try simp only [Act.put, List.setIfInBounds_toArray, List.set_cons_zero, List.set_cons_succ]
  clear hK
  refine lin_sole (by kernel_rfl) (fun K hK => ?_)
  go_simp
  refine (LD.out _ hOb).mono ?_
  rintro e w6 ⟨rfl, rfl⟩
  refine hK.out _ _ (KS.out _ _ hOb) (fun hHeld => ?_)
  try simp only [Act.put, List.setIfInBounds_toArray, List.set_cons_zero, List.set_cons_succ]
  clear hK
  refine lin_take (v := ?_) (by kernel_rfl) (by kernel_rfl) (fun _ _ _ h => h) (Or.inl ⟨by rfl, ?_⟩) (by assumption) ?_; (rotate_left; (intro wS hSw; (try dsimp only at hSw); go_simp; (try with_reducible rfl)); rotate_left); simp only [Act.put, List.setIfInBounds_toArray, List.set_cons_zero, List.set_cons_succ]
  refine lin_take (v := ?_) (by kernel_rfl) (by kernel_rfl) (fun _ _ _ h => h) (Or.inl ⟨by rfl, ?_⟩) (by assumption) ?_; (rotate_left; (intro wS hSw; (try dsimp only at hSw); go_simp; (try with_reducible rfl)); rotate_left); simp only [Act.put, List.setIfInBounds_toArray, List.set_cons_zero, List.set_cons_succ]
  refine lin_take (v := ?_) (by kernel_rfl) (by kernel_rfl) (fun _ _ _ h => h) (Or.inl ⟨by rfl, ?_⟩) (by assumption) ?_; (rotate_left; (intro wS hSw; (try dsimp only at hSw); go_simp; (try with_reducible rfl)); rotate_left); simp only [Act.put, List.setIfInBounds_toArray, List.set_cons_zero, List.set_cons_succ]
  refine lin_take (v := ?_) (by kernel_rfl) (by kernel_rfl) (fun _ _ _ h => h) (Or.inl ⟨by rfl, ?_⟩) (by assumption) ?_; (rotate_left; (intro wS hSw; (try dsimp only at hSw); go_simp; (try with_reducible rfl)); rotate_left); simp only [Act.put, List.setIfInBounds_toArray, List.set_cons_zero, List.set_cons_succ]
  refine lin_take (v := ?_) (by kernel_rfl) (by kernel_rfl) (fun _ _ _ h => h) (Or.inl ⟨by rfl, ?_⟩) (by assumption) ?_; (rotate_left; (intro wS hSw; (try dsimp only at hSw); go_simp; (try with_reducible rfl)); rotate_left); simp only [Act.put, List.setIfInBounds_toArray, List.set_cons_zero, List.set_cons_succ]
  have z6 := hOb.w6.1
  have zf6 := hOb.w6.2
  have zd6 := hOb.d6.1
  have zdf6 := hOb.d6.2
  have hOc := NX.out _ hOb
  refine lin_sole (by kernel_rfl) (fun K hK => ?_)
  go_simp
  refine hK.out _ _ (KX.out _ _ hOc) (fun hHeld => ?_)
  try simp only [Act.put, List.setIfInBounds_toArray, List.set_cons_zero, List.set_cons_succ]
  clear hK
  refine lin_done (by kernel_rfl) ?_
  clear hOb hOa z6 zf6 zd6 zdf6
  generalize w5.setCell ⟨wb, 6, none⟩ (.int .i64 X) = v at *
  have z11 := hOc.w11.1; have zf11 := hOc.w11.2
  have hOd := Lib.hid (NY.out _ hOc)
  clear hOc
  go_wp2_with (go_at_call 84; refine (LV.out _ hOd.out).mono ?_; rintro e w8 ⟨q1, q2, rfl, h8, n1, n2⟩; have z10 := h8.w10.1; have zf10 := h8.w10.2)
  (first | go_end0 | ((try simp only [Exit.inBlock, Exit.then]); refine bodyPost_ret (results_none rfl _ _ _) rfl ?_))
  exact ⟨rfl, q1, q2, NZ.out _ q1 q2 n1 n2 h8, n1, n2⟩
theorem mUnclaim {W D k : Int} {B : Nat} {ms : List Int} (c : Cf W D k B ms.length) {w0 w : World} {g b wb : Nat} {t x h a n : Int} {nv : Value} {got full : Bool} {bx : List (Nat × Value × TypeId)} {l : List Ast} {q0 : Nat} (hO : Own w0 w (storeA g b ms :: walkA wb (wcs W D k t x h a n nv got full) bx :: l)) (hno : ∀ p ∈ bx, p.1 ≠ wb) (hq0 : (q0, .pointer (some ⟨wb, 0, none⟩), 46) ∈ bx) :
    Calls Try.prog 83 #[.pointer (some ⟨g, 0, none⟩), .pointer (some ⟨q0, 0, none⟩)] w fun e w' => e = .returned (.tuple #[]) ∧ ∃ q1 q2, Own w0 w' (storeA g b (ms.set (B) h) :: walkA wb (wcs W D k t x h a n (.func (.func 87) #[] #[.pointer (some ⟨q1, 0, none⟩), .pointer (some ⟨q2, 0, none⟩)]) got full) (bx ++ [(q1, .pointer (some ⟨wb, 0, none⟩), 46), (q2, .nilFunc, 82)]) :: l) ∧ q1 ≠ wb ∧ q2 ≠ wb := by
  have hmf : ∀ (fn : Fn) (first cap : Array Value) (w : World), (Instr.makeFunc fn first cap).run Try.prog w = .ok (.func fn first cap) w := fun _ _ _ _ => rfl
  have PT := Lib.hid (fun (w' : World) (h' : Own w0 w' (storeA g b ms :: walkA wb (wcs W D k t x h a n nv got full) bx :: l)) => dput c h' 0 (B) (by omega) (by omega) h _ rfl)
  have KS := Lib.hid (fun (w' : World) (ms' : List Int) (h' : Own w0 w' (storeA g b ms' :: walkA wb (wcs W D k t x h a n nv got full) bx :: l)) => show (fun w' : World => w'.cell? ⟨wb, 7, none⟩ = some (.int .i64 h) ∧ w'.cell? ⟨q0, 0, none⟩ = some (.pointer (some ⟨wb, 0, none⟩))) w' from ⟨(h'.wget 1 rfl 7).1, h'.bget 1 rfl hq0⟩)
  have LE := Lib.hid (fun (w' : World) (ms' : List Int) (h' : Own w0 w' (storeA g b ms' :: walkA wb (wcs W D k t x h a n nv got full) bx :: l)) => dleaves0 h' hno)
  have K2 := Lib.hid (fun (w' : World) (ms' : List Int) (q1 q2 : Nat) (h' : Own w0 w' (storeA g b ms' :: walkA wb (wcs W D k t x h a n nv got full) (bx ++ [(q1, .pointer (some ⟨wb, 0, none⟩), 46), (q2, .nilFunc, 82)]) :: l)) => show w'.cell? ⟨q0, 0, none⟩ = some (.pointer (some ⟨wb, 0, none⟩)) from h'.bget 1 rfl (List.mem_append_left _ hq0))
  have NZ := Lib.hid (fun (w' : World) (ms' : List Int) (q1 q2 : Nat) (n1 : q1 ≠ wb) (n2 : q2 ≠ wb) (h' : Own w0 w' (storeA g b ms' :: walkA wb (wcs W D k t x h a n nv got full) (bx ++ [(q1, .pointer (some ⟨wb, 0, none⟩), 46), (q2, .nilFunc, 82)]) :: l)) => show Own w0 (w'.setCell ⟨wb, 10, none⟩ (.func (.func 87) #[] #[.pointer (some ⟨q1, 0, none⟩), .pointer (some ⟨q2, 0, none⟩)])) (storeA g b ms' :: walkA wb (wcs W D k t x h a n (.func (.func 87) #[] #[.pointer (some ⟨q1, 0, none⟩), .pointer (some ⟨q2, 0, none⟩)]) got full) (bx ++ [(q1, .pointer (some ⟨wb, 0, none⟩), 46), (q2, .nilFunc, 82)]) :: l) from h'.s10 (more_no hno n1 n2) _)
  have KB := Lib.hid (fun (w' : World) (ms' : List Int) (h' : Own w0 w' (storeA g b ms' :: walkA wb (wcs W D k t x h a n nv got full) bx :: l)) => show w'.cell? ⟨q0, 0, none⟩ = some (.pointer (some ⟨wb, 0, none⟩)) from h'.bget 1 rfl hq0)
  have hOa := hO.drewN 1
  clear hO hno
  go_enter Try.func83, Try.ntmps83
  go_wp2_with fail
  have hS0 := KS.out _ _ hOa
  refine lin_start (S := (fun w' : World => w'.cell? ⟨wb, 7, none⟩ = some (.int .i64 h) ∧ w'.cell? ⟨q0, 0, none⟩ = some (.pointer (some ⟨wb, 0, none⟩)))) rfl 7 rfl hS0 ?_
  simp only [numbered, Nat.zero_add, Nat.reduceAdd]
  refine lin_take (v := ?_) (by kernel_rfl) (by kernel_rfl) (fun _ _ _ h => h) (Or.inl ⟨by rfl, ?_⟩) (by assumption) ?_; (rotate_left; (intro wS hSw; (try dsimp only at hSw); go_simp; (try with_reducible rfl)); rotate_left); simp only [Act.put, List.setIfInBounds_toArray, List.set_cons_zero, List.set_cons_succ]
  refine lin_take (v := ?_) (by kernel_rfl) (by kernel_rfl) (fun _ _ _ h => h) (Or.inl ⟨by rfl, ?_⟩) (by assumption) ?_; (rotate_left; (intro wS hSw; (try dsimp only at hSw); go_simp; (try with_reducible rfl)); rotate_left); simp only [Act.put, List.setIfInBounds_toArray, List.set_cons_zero, List.set_cons_succ]
  refine lin_take (v := ?_) (by kernel_rfl) (by kernel_rfl) (fun _ _ _ h => h) (Or.inl ⟨by rfl, ?_⟩) (by assumption) ?_; (rotate_left; (intro wS hSw; (try dsimp only at hSw); go_simp; (try with_reducible rfl)); rotate_left); simp only [Act.put, List.setIfInBounds_toArray, List.set_cons_zero, List.set_cons_succ]
  refine lin_take (v := ?_) (by kernel_rfl) (by kernel_rfl) (fun _ _ _ h => h) (Or.inl ⟨by rfl, ?_⟩) (by assumption) ?_; (rotate_left; (intro wS hSw; (try dsimp only at hSw); go_simp; (try with_reducible rfl)); rotate_left); simp only [Act.put, List.setIfInBounds_toArray, List.set_cons_zero, List.set_cons_succ]
  refine lin_take (v := ?_) (by kernel_rfl) (by kernel_rfl) (fun _ _ _ h => h) (Or.inl ⟨by rfl, ?_⟩) (by assumption) ?_; (rotate_left; (intro wS hSw; (try dsimp only at hSw); go_simp; (try with_reducible rfl)); rotate_left); simp only [Act.put, List.setIfInBounds_toArray, List.set_cons_zero, List.set_cons_succ]
  refine lin_take (v := ?_) (by kernel_rfl) (by kernel_rfl) (fun _ _ _ h => h) (Or.inl ⟨by rfl, ?_⟩) (by assumption) ?_; (rotate_left; (intro wS hSw; (try dsimp only at hSw); go_simp; (try with_reducible rfl)); rotate_left); simp only [Act.put, List.setIfInBounds_toArray, List.set_cons_zero, List.set_cons_succ]
  refine lin_sole (by kernel_rfl) (fun K hK => ?_)
  go_simp
  refine (PT.out _ hOa).mono ?_
  rintro e w5 ⟨rfl, hOb⟩
  refine hK.out _ _ (KS.out _ _ hOb) (fun hHeld => ?_)
  try simp only [Act.put, List.setIfInBounds_toArray, List.set_cons_zero, List.set_cons_succ]
  clear hK
  refine lin_done (by kernel_rfl) ?_
  have y0 := KB.out _ _ hOb
  go_wp2_with fail
  replace hOb := hOb.drewN 1
  have hS0 := KB.out _ _ hOb
  refine lz_start (S := (fun w' : World => w'.cell? ⟨q0, 0, none⟩ = some (.pointer (some ⟨wb, 0, none⟩)))) rfl 5 6 rfl hS0 ?_
  simp only [numbered, Nat.zero_add, Nat.reduceAdd]
  refine lz_take (v := ?_) (by kernel_rfl) (by kernel_rfl) (by kernel_rfl) (fun _ _ _ h => h) (Or.inl ⟨by rfl, ?_⟩) (by assumption) ?_; (rotate_left; (intro wS hSw; (try dsimp only at hSw); go_simp; (try with_reducible rfl)); rotate_left); simp only [Act.put, List.setIfInBounds_toArray, List.set_cons_zero, List.set_cons_succ]
  refine lz_take (v := ?_) (by kernel_rfl) (by kernel_rfl) (by kernel_rfl) (fun _ _ _ h => h) (Or.inl ⟨by rfl, ?_⟩) (by assumption) ?_; (rotate_left; (intro wS hSw; (try dsimp only at hSw); go_simp; (try with_reducible rfl)); rotate_left); simp only [Act.put, List.setIfInBounds_toArray, List.set_cons_zero, List.set_cons_succ]
  refine lz_sole (by kernel_rfl) (fun K hK => ?_)
  go_simp
  refine (LE.out _ _ hOb).mono ?_
  rintro e w6 ⟨q1, q2, rfl, hOc, n1, n2⟩
  refine hK.out _ _ (.inr (K2.out _ _ _ _ hOc)) (fun hHeld => ?_)
  try simp only [Act.put, List.setIfInBounds_toArray, List.set_cons_zero, List.set_cons_succ]
  clear hK
  have hHeld2 := (K2.out _ _ _ _ hOc)
  refine lz_take (v := ?_) (by kernel_rfl) (by kernel_rfl) (by kernel_rfl) (fun _ _ _ h => h) (Or.inl ⟨by rfl, ?_⟩) (by assumption) ?_; (rotate_left; (intro wS hSw; (try dsimp only at hSw); go_simp; (try with_reducible rfl)); rotate_left); simp only [Act.put, List.setIfInBounds_toArray, List.set_cons_zero, List.set_cons_succ]
  refine lz_take (v := ?_) (by kernel_rfl) (by kernel_rfl) (by kernel_rfl) (fun _ _ _ h => h) (Or.inl ⟨by rfl, ?_⟩) (by assumption) ?_; (rotate_left; (intro wS hSw; (try dsimp only at hSw); go_simp; (try with_reducible rfl)); rotate_left); simp only [Act.put, List.setIfInBounds_toArray, List.set_cons_zero, List.set_cons_succ]
  have z10 := hOc.w10.1
  have zf10 := hOc.w10.2
  have zd10 := hOc.d10.1
  have zdf10 := hOc.d10.2
  refine lz_sole (by kernel_rfl) (fun K hK => ?_)
  go_simp
  refine hK.out _ _ (.inl rfl) (fun hHeld => ?_)
  try simp only [Act.put, List.setIfInBounds_toArray, List.set_cons_zero, List.set_cons_succ]
  clear hK
  refine lz_done (by kernel_rfl) ?_
  have hOd := NZ.out _ _ q1 q2 n1 n2 hOc
  go_wp2_with fail
  (first | go_end0 | ((try simp only [Exit.inBlock, Exit.then]); refine bodyPost_ret (results_none rfl _ _ _) rfl ?_))
  exact ⟨rfl, q1, q2, hOd, n1, n2⟩
theorem mBack {W D k : Int} {B : Nat} {ms : List Int} (c : Cf W D k B ms.length) {w0 w : World} {g b wb : Nat} {t x h a n : Int} {nv : Value} {got full : Bool} {bx : List (Nat × Value × TypeId)} {l : List Ast} {q0 : Nat} (hO : Own w0 w (storeA g b ms :: walkA wb (wcs W D k t x h a n nv got full) bx :: l)) (hno : ∀ p ∈ bx, p.1 ≠ wb) (hq0 : (q0, .pointer (some ⟨wb, 0, none⟩), 46) ∈ bx) :
    Calls Try.prog 89 #[.pointer (some ⟨g, 0, none⟩), .pointer (some ⟨q0, 0, none⟩)] w fun e w' => e = .returned (.tuple #[]) ∧ ∃ q1 q2, Own w0 w' (storeA g b (ms.set (B + 1) t) :: walkA wb (wcs W D k t x h a n (.func (.func 87) #[] #[.pointer (some ⟨q1, 0, none⟩), .pointer (some ⟨q2, 0, none⟩)]) got full) (bx ++ [(q1, .pointer (some ⟨wb, 0, none⟩), 46), (q2, .nilFunc, 82)]) :: l) ∧ q1 ≠ wb ∧ q2 ≠ wb := by
  have hmf : ∀ (fn : Fn) (first cap : Array Value) (w : World), (Instr.makeFunc fn first cap).run Try.prog w = .ok (.func fn first cap) w := fun _ _ _ _ => rfl
  have PT := Lib.hid (fun (w' : World) (h' : Own w0 w' (storeA g b ms :: walkA wb (wcs W D k t x h a n nv got full) bx :: l)) => dput c h' 1 (B + 1) (by omega) (by omega) t _ rfl)
  have KS := Lib.hid (fun (w' : World) (ms' : List Int) (h' : Own w0 w' (storeA g b ms' :: walkA wb (wcs W D k t x h a n nv got full) bx :: l)) => show (fun w' : World => w'.cell? ⟨wb, 5, none⟩ = some (.int .i64 t) ∧ w'.cell? ⟨q0, 0, none⟩ = some (.pointer (some ⟨wb, 0, none⟩))) w' from ⟨(h'.wget 1 rfl 5).1, h'.bget 1 rfl hq0⟩)
  have LE := Lib.hid (fun (w' : World) (ms' : List Int) (h' : Own w0 w' (storeA g b ms' :: walkA wb (wcs W D k t x h a n nv got full) bx :: l)) => dleaves0 h' hno)
  have K2 := Lib.hid (fun (w' : World) (ms' : List Int) (q1 q2 : Nat) (h' : Own w0 w' (storeA g b ms' :: walkA wb (wcs W D k t x h a n nv got full) (bx ++ [(q1, .pointer (some ⟨wb, 0, none⟩), 46), (q2, .nilFunc, 82)]) :: l)) => show w'.cell? ⟨q0, 0, none⟩ = some (.pointer (some ⟨wb, 0, none⟩)) from h'.bget 1 rfl (List.mem_append_left _ hq0))
  have NZ := Lib.hid (fun (w' : World) (ms' : List Int) (q1 q2 : Nat) (n1 : q1 ≠ wb) (n2 : q2 ≠ wb) (h' : Own w0 w' (storeA g b ms' :: walkA wb (wcs W D k t x h a n nv got full) (bx ++ [(q1, .pointer (some ⟨wb, 0, none⟩), 46), (q2, .nilFunc, 82)]) :: l)) => show Own w0 (w'.setCell ⟨wb, 10, none⟩ (.func (.func 87) #[] #[.pointer (some ⟨q1, 0, none⟩), .pointer (some ⟨q2, 0, none⟩)])) (storeA g b ms' :: walkA wb (wcs W D k t x h a n (.func (.func 87) #[] #[.pointer (some ⟨q1, 0, none⟩), .pointer (some ⟨q2, 0, none⟩)]) got full) (bx ++ [(q1, .pointer (some ⟨wb, 0, none⟩), 46), (q2, .nilFunc, 82)]) :: l) from h'.s10 (more_no hno n1 n2) _)
  have KB := Lib.hid (fun (w' : World) (ms' : List Int) (h' : Own w0 w' (storeA g b ms' :: walkA wb (wcs W D k t x h a n nv got full) bx :: l)) => show w'.cell? ⟨q0, 0, none⟩ = some (.pointer (some ⟨wb, 0, none⟩)) from h'.bget 1 rfl hq0)
  have hOa := hO.drewN 1
  clear hO hno
  go_enter Try.func89, Try.ntmps89
  go_wp2_with fail
  have hS0 := KS.out _ _ hOa
  refine lin_start (S := (fun w' : World => w'.cell? ⟨wb, 5, none⟩ = some (.int .i64 t) ∧ w'.cell? ⟨q0, 0, none⟩ = some (.pointer (some ⟨wb, 0, none⟩)))) rfl 7 rfl hS0 ?_
  simp only [numbered, Nat.zero_add, Nat.reduceAdd]
  refine lin_take (v := ?_) (by kernel_rfl) (by kernel_rfl) (fun _ _ _ h => h) (Or.inl ⟨by rfl, ?_⟩) (by assumption) ?_; (rotate_left; (intro wS hSw; (try dsimp only at hSw); go_simp; (try with_reducible rfl)); rotate_left); simp only [Act.put, List.setIfInBounds_toArray, List.set_cons_zero, List.set_cons_succ]
  refine lin_take (v := ?_) (by kernel_rfl) (by kernel_rfl) (fun _ _ _ h => h) (Or.inl ⟨by rfl, ?_⟩) (by assumption) ?_; (rotate_left; (intro wS hSw; (try dsimp only at hSw); go_simp; (try with_reducible rfl)); rotate_left); simp only [Act.put, List.setIfInBounds_toArray, List.set_cons_zero, List.set_cons_succ]
  refine lin_take (v := ?_) (by kernel_rfl) (by kernel_rfl) (fun _ _ _ h => h) (Or.inl ⟨by rfl, ?_⟩) (by assumption) ?_; (rotate_left; (intro wS hSw; (try dsimp only at hSw); go_simp; (try with_reducible rfl)); rotate_left); simp only [Act.put, List.setIfInBounds_toArray, List.set_cons_zero, List.set_cons_succ]
  refine lin_take (v := ?_) (by kernel_rfl) (by kernel_rfl) (fun _ _ _ h => h) (Or.inl ⟨by rfl, ?_⟩) (by assumption) ?_; (rotate_left; (intro wS hSw; (try dsimp only at hSw); go_simp; (try with_reducible rfl)); rotate_left); simp only [Act.put, List.setIfInBounds_toArray, List.set_cons_zero, List.set_cons_succ]
  refine lin_take (v := ?_) (by kernel_rfl) (by kernel_rfl) (fun _ _ _ h => h) (Or.inl ⟨by rfl, ?_⟩) (by assumption) ?_; (rotate_left; (intro wS hSw; (try dsimp only at hSw); go_simp; (try with_reducible rfl)); rotate_left); simp only [Act.put, List.setIfInBounds_toArray, List.set_cons_zero, List.set_cons_succ]
  refine lin_take (v := ?_) (by kernel_rfl) (by kernel_rfl) (fun _ _ _ h => h) (Or.inl ⟨by rfl, ?_⟩) (by assumption) ?_; (rotate_left; (intro wS hSw; (try dsimp only at hSw); go_simp; (try with_reducible rfl)); rotate_left); simp only [Act.put, List.setIfInBounds_toArray, List.set_cons_zero, List.set_cons_succ]
  refine lin_sole (by kernel_rfl) (fun K hK => ?_)
  go_simp
  refine (PT.out _ hOa).mono ?_
  rintro e w5 ⟨rfl, hOb⟩
  refine hK.out _ _ (KS.out _ _ hOb) (fun hHeld => ?_)
  try simp only [Act.put, List.setIfInBounds_toArray, List.set_cons_zero, List.set_cons_succ]
  clear hK
  refine lin_done (by kernel_rfl) ?_
  have y0 := KB.out _ _ hOb
  go_wp2_with fail
  replace hOb := hOb.drewN 1
  have hS0 := KB.out _ _ hOb
  refine lz_start (S := (fun w' : World => w'.cell? ⟨q0, 0, none⟩ = some (.pointer (some ⟨wb, 0, none⟩)))) rfl 5 6 rfl hS0 ?_
  simp only [numbered, Nat.zero_add, Nat.reduceAdd]
  refine lz_take (v := ?_) (by kernel_rfl) (by kernel_rfl) (by kernel_rfl) (fun _ _ _ h => h) (Or.inl ⟨by rfl, ?_⟩) (by assumption) ?_; (rotate_left; (intro wS hSw; (try dsimp only at hSw); go_simp; (try with_reducible rfl)); rotate_left); simp only [Act.put, List.setIfInBounds_toArray, List.set_cons_zero, List.set_cons_succ]
  refine lz_take (v := ?_) (by kernel_rfl) (by kernel_rfl) (by kernel_rfl) (fun _ _ _ h => h) (Or.inl ⟨by rfl, ?_⟩) (by assumption) ?_; (rotate_left; (intro wS hSw; (try dsimp only at hSw); go_simp; (try with_reducible rfl)); rotate_left); simp only [Act.put, List.setIfInBounds_toArray, List.set_cons_zero, List.set_cons_succ]
  refine lz_sole (by kernel_rfl) (fun K hK => ?_)
  go_simp
  refine (LE.out _ _ hOb).mono ?_
  rintro e w6 ⟨q1, q2, rfl, hOc, n1, n2⟩
  refine hK.out _ _ (.inr (K2.out _ _ _ _ hOc)) (fun hHeld => ?_)
  try simp only [Act.put, List.setIfInBounds_toArray, List.set_cons_zero, List.set_cons_succ]
  clear hK
  have hHeld2 := (K2.out _ _ _ _ hOc)
  refine lz_take (v := ?_) (by kernel_rfl) (by kernel_rfl) (by kernel_rfl) (fun _ _ _ h => h) (Or.inl ⟨by rfl, ?_⟩) (by assumption) ?_; (rotate_left; (intro wS hSw; (try dsimp only at hSw); go_simp; (try with_reducible rfl)); rotate_left); simp only [Act.put, List.setIfInBounds_toArray, List.set_cons_zero, List.set_cons_succ]
  refine lz_take (v := ?_) (by kernel_rfl) (by kernel_rfl) (by kernel_rfl) (fun _ _ _ h => h) (Or.inl ⟨by rfl, ?_⟩) (by assumption) ?_; (rotate_left; (intro wS hSw; (try dsimp only at hSw); go_simp; (try with_reducible rfl)); rotate_left); simp only [Act.put, List.setIfInBounds_toArray, List.set_cons_zero, List.set_cons_succ]
  have z10 := hOc.w10.1
  have zf10 := hOc.w10.2
  have zd10 := hOc.d10.1
  have zdf10 := hOc.d10.2
  refine lz_sole (by kernel_rfl) (fun K hK => ?_)
  go_simp
  refine hK.out _ _ (.inl rfl) (fun hHeld => ?_)
  try simp only [Act.put, List.setIfInBounds_toArray, List.set_cons_zero, List.set_cons_succ]
  clear hK
  refine lz_done (by kernel_rfl) ?_
  have hOd := NZ.out _ _ q1 q2 n1 n2 hOc
  go_wp2_with fail
  (first | go_end0 | ((try simp only [Exit.inBlock, Exit.then]); refine bodyPost_ret (results_none rfl _ _ _) rfl ?_))
  exact ⟨rfl, q1, q2, hOd, n1, n2⟩
theorem mFindsY {W D k : Int} {B : Nat} {ms : List Int} (c : Cf W D k B ms.length) {w0 w : World} {g b wb : Nat} {t x h a n : Int} {nv : Value} {got full : Bool} {bx : List (Nat × Value × TypeId)} {l : List Ast} (hO : Own w0 w (storeA g b ms :: walkA wb (wcs W D k t x h a n nv got full) bx :: l)) (hno : ∀ p ∈ bx, p.1 ≠ wb) (H y : Int) (hH : wrap64 (h + 1) = H) (hy : ms.getD (B + 1) 0 = y) (hc : H ≤ y) :
    Calls Try.prog 77 #[.pointer (some ⟨wb, 0, none⟩), .pointer (some ⟨g, 0, none⟩)] w fun e w' => e = .returned (.tuple #[]) ∧ ∃ q0, Own w0 w' (storeA g b ms :: walkA wb (wcs W D k t x h a n (.func (.func 82) #[.pointer (some ⟨wb, 0, none⟩)] #[]) got full) (bx ++ [(q0, .pointer (some ⟨wb, 0, none⟩), 46)]) :: l) ∧ q0 ≠ wb := by
  have hmf : ∀ (fn : Fn) (first cap : Array Value) (w : World), (Instr.makeFunc fn first cap).run Try.prog w = .ok (.func fn first cap) w := fun _ _ _ _ => rfl
  have cb := c.bd
  obtain ⟨h1, n1⟩ := Own.one_more (hO.box #[.pointer (some ⟨wb, 0, none⟩)] 46)
  have LD := Lib.hid (fun (w' : World) (q0 : Nat) (h' : Own w0 w' (storeA g b ms :: walkA wb (wcs W D k t x h a n nv got full) (bx ++ [(q0, .pointer (some ⟨wb, 0, none⟩), 46)]) :: l)) => dload c h' 1 (B + 1) (by omega) (by omega) y hy)
  have e1 : IntKind.i64.wrap (h + 1) = H := (IntWalk.i64_left _).trans hH
  have e3 : decide (H ≤ y) = true := by simpa using hc
  have hno2 := Lib.hid (fun (q0 : Nat) (n1 : q0 ≠ wb) => one_no (v1 := .pointer (some ⟨wb, 0, none⟩)) (t1 := 46) hno n1)
  have BG := Lib.hid (fun (w' : World) (q0 : Nat) (h' : Own w0 w' (storeA g b ms :: walkA wb (wcs W D k t x h a n nv got full) (bx ++ [(q0, .pointer (some ⟨wb, 0, none⟩), 46)]) :: l)) => show w'.cell? ⟨q0, 0, none⟩ = some (.pointer (some ⟨wb, 0, none⟩)) from h'.bget 1 rfl (t := 46) (by simp))
  have KX := Lib.hid (fun (w' : World) (ms' : List Int) (q0 : Nat) (h' : Own w0 w' (storeA g b ms' :: walkA wb (wcs W D k t x h a n nv got full) (bx ++ [(q0, .pointer (some ⟨wb, 0, none⟩), 46)]) :: l)) => show (fun w' : World => w'.cell? ⟨wb, 7, none⟩ = some (.int .i64 h) ∧ w'.cell? ⟨q0, 0, none⟩ = some (.pointer (some ⟨wb, 0, none⟩))) w' from ⟨(h'.wget 1 rfl 7).1, h'.bget 1 rfl (t := 46) (by simp)⟩)
  clear hO hy hH hno
  go_enter Try.func77, Try.ntmps77
  go_wp2_with fail
  generalize w.alloc (.cells #[.pointer (some ⟨wb, 0, none⟩)] 46) = u at *
  generalize w.heap.size = q0 at *
  have KS := Lib.hid (fun (w' : World) (ms' : List Int) (h' : Own w0 w' (storeA g b ms' :: walkA wb (wcs W D k t x h a n nv got full) (bx ++ [(q0, .pointer (some ⟨wb, 0, none⟩), 46)]) :: l)) => KX.out w' ms' q0 h')
  have hOa := h1.drewN 1
  clear h1
  have hS0 := KS.out _ _ hOa
  refine lin_start (S := (fun w' : World => w'.cell? ⟨wb, 7, none⟩ = some (.int .i64 h) ∧ w'.cell? ⟨q0, 0, none⟩ = some (.pointer (some ⟨wb, 0, none⟩)))) rfl 9 rfl hS0 ?_
  simp only [numbered, Nat.zero_add, Nat.reduceAdd]
  refine lin_take (v := ?_) (by kernel_rfl) (by kernel_rfl) (fun _ _ _ h => h) (Or.inl ⟨by rfl, ?_⟩) (by assumption) ?_; (rotate_left; (intro wS hSw; (try dsimp only at hSw); go_simp; (try with_reducible rfl)); rotate_left); simp only [Act.put, List.setIfInBounds_toArray, List.set_cons_zero, List.set_cons_succ]
  refine lin_take (v := ?_) (by kernel_rfl) (by kernel_rfl) (fun _ _ _ h => h) (Or.inl ⟨by rfl, ?_⟩) (by assumption) ?_; (rotate_left; (intro wS hSw; (try dsimp only at hSw); go_simp; (try with_reducible rfl)); rotate_left); simp only [Act.put, List.setIfInBounds_toArray, List.set_cons_zero, List.set_cons_succ]
  refine lin_rot ?_; simp only [List.cons_append, List.nil_append]
  refine lin_take (v := ?_) (by kernel_rfl) (by kernel_rfl) (fun _ _ _ h => h) (Or.inl ⟨by rfl, ?_⟩) (by assumption) ?_; (rotate_left; (intro wS hSw; (try dsimp only at hSw); go_simp; (try with_reducible rfl)); rotate_left); simp only [Act.put, List.setIfInBounds_toArray, List.set_cons_zero, List.set_cons_succ]
  refine lin_take (v := ?_) (by kernel_rfl) (by kernel_rfl) (fun _ _ _ h => h) (Or.inl ⟨by rfl, ?_⟩) (by assumption) ?_; (rotate_left; (intro wS hSw; (try dsimp only at hSw); go_simp; (try with_reducible rfl)); rotate_left); simp only [Act.put, List.setIfInBounds_toArray, List.set_cons_zero, List.set_cons_succ]
  refine lin_take (v := ?_) (by kernel_rfl) (by kernel_rfl) (fun _ _ _ h => h) (Or.inl ⟨by rfl, ?_⟩) (by assumption) ?_; (rotate_left; (intro wS hSw; (try dsimp only at hSw); go_simp; (try with_reducible rfl)); rotate_left); simp only [Act.put, List.setIfInBounds_toArray, List.set_cons_zero, List.set_cons_succ]
  refine lin_take (v := ?_) (by kernel_rfl) (by kernel_rfl) (fun _ _ _ h => h) (Or.inl ⟨by rfl, ?_⟩) (by assumption) ?_; (rotate_left; (intro wS hSw; (try dsimp only at hSw); go_simp; (try with_reducible rfl)); rotate_left); simp only [Act.put, List.setIfInBounds_toArray, List.set_cons_zero, List.set_cons_succ]
  refine lin_take (v := ?_) (by kernel_rfl) (by kernel_rfl) (fun _ _ _ h => h) (Or.inl ⟨by rfl, ?_⟩) (by assumption) ?_; (rotate_left; (intro wS hSw; (try dsimp only at hSw); go_simp; (try with_reducible rfl)); rotate_left); simp only [Act.put, List.setIfInBounds_toArray, List.set_cons_zero, List.set_cons_succ]
  refine lin_rot ?_; simp only [List.cons_append, List.nil_append]
  refine lin_sole (by kernel_rfl) (fun K hK => ?_)
  go_simp
  refine (LD.out _ q0 hOa).mono ?_
  rintro e w5 ⟨rfl, hOb⟩
  refine hK.out _ _ (KS.out _ _ hOb) (fun hHeld => ?_)
  try simp only [Act.put, List.setIfInBounds_toArray, List.set_cons_zero, List.set_cons_succ]
  clear hK
  refine lin_take (v := ?_) (by kernel_rfl) (by kernel_rfl) (fun _ _ _ h => h) (Or.inl ⟨by rfl, ?_⟩) (by assumption) ?_; (rotate_left; (intro wS hSw; (try dsimp only at hSw); go_simp; (try with_reducible rfl)); rotate_left); simp only [Act.put, List.setIfInBounds_toArray, List.set_cons_zero, List.set_cons_succ]
  refine lin_done (by kernel_rfl) ?_
  have z10 := hOb.w10.1; have zf10 := hOb.w10.2
  have y0 := BG.out _ _ hOb
  have NX := Lib.hid (hOb.s10 (hno2.out q0 n1) (.func (.func 82) #[.pointer (some ⟨wb, 0, none⟩)] #[]))
  clear hOb
  go_wp2_with fail
  (first | go_end0 | ((try simp only [Exit.inBlock, Exit.then]); refine bodyPost_ret (results_none rfl _ _ _) rfl ?_))
  exact ⟨rfl, q0, NX.out, n1⟩
theorem mFindsN {W D k : Int} {B : Nat} {ms : List Int} (c : Cf W D k B ms.length) {w0 w : World} {g b wb : Nat} {t x h a n : Int} {nv : Value} {got full : Bool} {bx : List (Nat × Value × TypeId)} {l : List Ast} (hO : Own w0 w (storeA g b ms :: walkA wb (wcs W D k t x h a n nv got full) bx :: l)) (hno : ∀ p ∈ bx, p.1 ≠ wb) (H y : Int) (hH : wrap64 (h + 1) = H) (hy : ms.getD (B + 1) 0 = y) (hc : ¬ H ≤ y) :
    Calls Try.prog 77 #[.pointer (some ⟨wb, 0, none⟩), .pointer (some ⟨g, 0, none⟩)] w fun e w' => e = .returned (.tuple #[]) ∧ ∃ q0, Own w0 w' (storeA g b ms :: walkA wb (wcs W D k t x h a n (.func (.func 83) #[] #[.pointer (some ⟨q0, 0, none⟩)]) got full) (bx ++ [(q0, .pointer (some ⟨wb, 0, none⟩), 46)]) :: l) ∧ q0 ≠ wb := by
  have hmf : ∀ (fn : Fn) (first cap : Array Value) (w : World), (Instr.makeFunc fn first cap).run Try.prog w = .ok (.func fn first cap) w := fun _ _ _ _ => rfl
  have cb := c.bd
  obtain ⟨h1, n1⟩ := Own.one_more (hO.box #[.pointer (some ⟨wb, 0, none⟩)] 46)
  have LD := Lib.hid (fun (w' : World) (q0 : Nat) (h' : Own w0 w' (storeA g b ms :: walkA wb (wcs W D k t x h a n nv got full) (bx ++ [(q0, .pointer (some ⟨wb, 0, none⟩), 46)]) :: l)) => dload c h' 1 (B + 1) (by omega) (by omega) y hy)
  have e1 : IntKind.i64.wrap (h + 1) = H := (IntWalk.i64_left _).trans hH
  have e3 : decide (H ≤ y) = false := by simpa using hc
  have hno2 := Lib.hid (fun (q0 : Nat) (n1 : q0 ≠ wb) => one_no (v1 := .pointer (some ⟨wb, 0, none⟩)) (t1 := 46) hno n1)
  have BG := Lib.hid (fun (w' : World) (q0 : Nat) (h' : Own w0 w' (storeA g b ms :: walkA wb (wcs W D k t x h a n nv got full) (bx ++ [(q0, .pointer (some ⟨wb, 0, none⟩), 46)]) :: l)) => show w'.cell? ⟨q0, 0, none⟩ = some (.pointer (some ⟨wb, 0, none⟩)) from h'.bget 1 rfl (t := 46) (by simp))
  have KX := Lib.hid (fun (w' : World) (ms' : List Int) (q0 : Nat) (h' : Own w0 w' (storeA g b ms' :: walkA wb (wcs W D k t x h a n nv got full) (bx ++ [(q0, .pointer (some ⟨wb, 0, none⟩), 46)]) :: l)) => show (fun w' : World => w'.cell? ⟨wb, 7, none⟩ = some (.int .i64 h) ∧ w'.cell? ⟨q0, 0, none⟩ = some (.pointer (some ⟨wb, 0, none⟩))) w' from ⟨(h'.wget 1 rfl 7).1, h'.bget 1 rfl (t := 46) (by simp)⟩)
  clear hO hy hH hno
  go_enter Try.func77, Try.ntmps77
  go_wp2_with fail
  generalize w.alloc (.cells #[.pointer (some ⟨wb, 0, none⟩)] 46) = u at *
  generalize w.heap.size = q0 at *
  have KS := Lib.hid (fun (w' : World) (ms' : List Int) (h' : Own w0 w' (storeA g b ms' :: walkA wb (wcs W D k t x h a n nv got full) (bx ++ [(q0, .pointer (some ⟨wb, 0, none⟩), 46)]) :: l)) => KX.out w' ms' q0 h')
  have hOa := h1.drewN 1
  clear h1
  have hS0 := KS.out _ _ hOa
  refine lin_start (S := (fun w' : World => w'.cell? ⟨wb, 7, none⟩ = some (.int .i64 h) ∧ w'.cell? ⟨q0, 0, none⟩ = some (.pointer (some ⟨wb, 0, none⟩)))) rfl 9 rfl hS0 ?_
  simp only [numbered, Nat.zero_add, Nat.reduceAdd]
  refine lin_take (v := ?_) (by kernel_rfl) (by kernel_rfl) (fun _ _ _ h => h) (Or.inl ⟨by rfl, ?_⟩) (by assumption) ?_; (rotate_left; (intro wS hSw; (try dsimp only at hSw); go_simp; (try with_reducible rfl)); rotate_left); simp only [Act.put, List.setIfInBounds_toArray, List.set_cons_zero, List.set_cons_succ]
  refine lin_take (v := ?_) (by kernel_rfl) (by kernel_rfl) (fun _ _ _ h => h) (Or.inl ⟨by rfl, ?_⟩) (by assumption) ?_; (rotate_left; (intro wS hSw; (try dsimp only at hSw); go_simp; (try with_reducible rfl)); rotate_left); simp only [Act.put, List.setIfInBounds_toArray, List.set_cons_zero, List.set_cons_succ]
  refine lin_rot ?_; simp only [List.cons_append, List.nil_append]
  refine lin_take (v := ?_) (by kernel_rfl) (by kernel_rfl) (fun _ _ _ h => h) (Or.inl ⟨by rfl, ?_⟩) (by assumption) ?_; (rotate_left; (intro wS hSw; (try dsimp only at hSw); go_simp; (try with_reducible rfl)); rotate_left); simp only [Act.put, List.setIfInBounds_toArray, List.set_cons_zero, List.set_cons_succ]
  refine lin_take (v := ?_) (by kernel_rfl) (by kernel_rfl) (fun _ _ _ h => h) (Or.inl ⟨by rfl, ?_⟩) (by assumption) ?_; (rotate_left; (intro wS hSw; (try dsimp only at hSw); go_simp; (try with_reducible rfl)); rotate_left); simp only [Act.put, List.setIfInBounds_toArray, List.set_cons_zero, List.set_cons_succ]
  refine lin_take (v := ?_) (by kernel_rfl) (by kernel_rfl) (fun _ _ _ h => h) (Or.inl ⟨by rfl, ?_⟩) (by assumption) ?_; (rotate_left; (intro wS hSw; (try dsimp only at hSw); go_simp; (try with_reducible rfl)); rotate_left); simp only [Act.put, List.setIfInBounds_toArray, List.set_cons_zero, List.set_cons_succ]
  refine lin_take (v := ?_) (by kernel_rfl) (by kernel_rfl) (fun _ _ _ h => h) (Or.inl ⟨by rfl, ?_⟩) (by assumption) ?_; (rotate_left; (intro wS hSw; (try dsimp only at hSw); go_simp; (try with_reducible rfl)); rotate_left); simp only [Act.put, List.setIfInBounds_toArray, List.set_cons_zero, List.set_cons_succ]
  refine lin_take (v := ?_) (by kernel_rfl) (by kernel_rfl) (fun _ _ _ h => h) (Or.inl ⟨by rfl, ?_⟩) (by assumption) ?_; (rotate_left; (intro wS hSw; (try dsimp only at hSw); go_simp; (try with_reducible rfl)); rotate_left); simp only [Act.put, List.setIfInBounds_toArray, List.set_cons_zero, List.set_cons_succ]
  refine lin_rot ?_; simp only [List.cons_append, List.nil_append]
  refine lin_sole (by kernel_rfl) (fun K hK => ?_)
  go_simp
  refine (LD.out _ q0 hOa).mono ?_
  rintro e w5 ⟨rfl, hOb⟩
  refine hK.out _ _ (KS.out _ _ hOb) (fun hHeld => ?_)
  try simp only [Act.put, List.setIfInBounds_toArray, List.set_cons_zero, List.set_cons_succ]
  clear hK
  refine lin_take (v := ?_) (by kernel_rfl) (by kernel_rfl) (fun _ _ _ h => h) (Or.inl ⟨by rfl, ?_⟩) (by assumption) ?_; (rotate_left; (intro wS hSw; (try dsimp only at hSw); go_simp; (try with_reducible rfl)); rotate_left); simp only [Act.put, List.setIfInBounds_toArray, List.set_cons_zero, List.set_cons_succ]
  refine lin_done (by kernel_rfl) ?_
  have z10 := hOb.w10.1; have zf10 := hOb.w10.2
  have y0 := BG.out _ _ hOb
  have NX := Lib.hid (hOb.s10 (hno2.out q0 n1) (.func (.func 83) #[] #[.pointer (some ⟨q0, 0, none⟩)]))
  clear hOb
  go_wp2_with fail
  (first | go_end0 | ((try simp only [Exit.inBlock, Exit.then]); refine bodyPost_ret (results_none rfl _ _ _) rfl ?_))
  exact ⟨rfl, q0, NX.out, n1⟩
theorem mLooksAgainY {W D k : Int} {B : Nat} {ms : List Int} (c : Cf W D k B ms.length) {w0 w : World} {g b wb : Nat} {t x h a n : Int} {nv : Value} {got full : Bool} {bx : List (Nat × Value × TypeId)} {l : List Ast} (hO : Own w0 w (storeA g b ms :: walkA wb (wcs W D k t x h a n nv got full) bx :: l)) (hno : ∀ p ∈ bx, p.1 ≠ wb) (T : Int) (hT : wrap64 (t - 1) = T) (y : Int) (hy : ms.getD B 0 = y) (hc : y ≤ T) :
    Calls Try.prog 86 #[.pointer (some ⟨wb, 0, none⟩), .pointer (some ⟨g, 0, none⟩)] w fun e w' => e = .returned (.tuple #[]) ∧ ∃ q0 q1 q2, Own w0 w' (storeA g b ms :: walkA wb (wcs W D k t x h a n (.func (.func 87) #[] #[.pointer (some ⟨q1, 0, none⟩), .pointer (some ⟨q2, 0, none⟩)]) got full) (bx ++ [(q0, .pointer (some ⟨wb, 0, none⟩), 46)] ++ [(q1, .pointer (some ⟨wb, 0, none⟩), 46), (q2, .func (.func 73) #[.pointer (some ⟨wb, 0, none⟩)] #[], 82)]) :: l) ∧ q0 ≠ wb ∧ q1 ≠ wb ∧ q2 ≠ wb := by
  have hmf : ∀ (fn : Fn) (first cap : Array Value) (w : World), (Instr.makeFunc fn first cap).run Try.prog w = .ok (.func fn first cap) w := fun _ _ _ _ => rfl
  have cb := c.bd
  obtain ⟨h1, n0⟩ := Own.one_more (hO.box #[.pointer (some ⟨wb, 0, none⟩)] 46)
  have LD := Lib.hid (fun (w' : World) (q0 : Nat) (h' : Own w0 w' (storeA g b ms :: walkA wb (wcs W D k t x h a n nv got full) (bx ++ [(q0, .pointer (some ⟨wb, 0, none⟩), 46)]) :: l)) => dload c h' 0 B (by omega) (by omega) y hy)
  have e1 : IntKind.i64.wrap (t - 1) = T := (IntWalk.i64_left _).trans hT
  have e3 : decide (y ≤ T) = true := by simpa using hc
  have hno2 := Lib.hid (fun (q0 : Nat) (n1 : q0 ≠ wb) => one_no (v1 := .pointer (some ⟨wb, 0, none⟩)) (t1 := 46) hno n1)
  have BG := Lib.hid (fun (w' : World) (q0 : Nat) (h' : Own w0 w' (storeA g b ms :: walkA wb (wcs W D k t x h a n nv got full) (bx ++ [(q0, .pointer (some ⟨wb, 0, none⟩), 46)]) :: l)) => show w'.cell? ⟨q0, 0, none⟩ = some (.pointer (some ⟨wb, 0, none⟩)) from h'.bget 1 rfl (t := 46) (by simp))
  have KX := Lib.hid (fun (w' : World) (ms' : List Int) (q0 : Nat) (h' : Own w0 w' (storeA g b ms' :: walkA wb (wcs W D k t x h a n nv got full) (bx ++ [(q0, .pointer (some ⟨wb, 0, none⟩), 46)]) :: l)) => show (fun w' : World => w'.cell? ⟨wb, 5, none⟩ = some (.int .i64 t) ∧ w'.cell? ⟨q0, 0, none⟩ = some (.pointer (some ⟨wb, 0, none⟩))) w' from ⟨(h'.wget 1 rfl 5).1, h'.bget 1 rfl (t := 46) (by simp)⟩)
  have LE := Lib.hid (fun (w' : World) (q0 : Nat) (n1 : q0 ≠ wb) (h' : Own w0 w' (storeA g b ms :: walkA wb (wcs W D k t x h a n nv got full) (bx ++ [(q0, .pointer (some ⟨wb, 0, none⟩), 46)]) :: l)) => dleaves (fn := .func 73) (fa := #[.pointer (some ⟨wb, 0, none⟩)]) (fb := #[]) h' (one_no (v1 := .pointer (some ⟨wb, 0, none⟩)) (t1 := 46) hno n1))
  have NZ := Lib.hid (fun (w' : World) (q0 q1 q2 : Nat) (n0 : q0 ≠ wb) (n1 : q1 ≠ wb) (n2 : q2 ≠ wb) (h' : Own w0 w' (storeA g b ms :: walkA wb (wcs W D k t x h a n nv got full) (bx ++ [(q0, .pointer (some ⟨wb, 0, none⟩), 46)] ++ [(q1, .pointer (some ⟨wb, 0, none⟩), 46), (q2, .func (.func 73) #[.pointer (some ⟨wb, 0, none⟩)] #[], 82)]) :: l)) => show Own w0 (w'.setCell ⟨wb, 10, none⟩ (.func (.func 87) #[] #[.pointer (some ⟨q1, 0, none⟩), .pointer (some ⟨q2, 0, none⟩)])) (storeA g b ms :: walkA wb (wcs W D k t x h a n (.func (.func 87) #[] #[.pointer (some ⟨q1, 0, none⟩), .pointer (some ⟨q2, 0, none⟩)]) got full) (bx ++ [(q0, .pointer (some ⟨wb, 0, none⟩), 46)] ++ [(q1, .pointer (some ⟨wb, 0, none⟩), 46), (q2, .func (.func 73) #[.pointer (some ⟨wb, 0, none⟩)] #[], 82)]) :: l) from h'.s10 (more_no (one_no hno n0) n1 n2) _)
  have K2 := Lib.hid (fun (w' : World) (q0 q1 q2 : Nat) (h' : Own w0 w' (storeA g b ms :: walkA wb (wcs W D k t x h a n nv got full) (bx ++ [(q0, .pointer (some ⟨wb, 0, none⟩), 46)] ++ [(q1, .pointer (some ⟨wb, 0, none⟩), 46), (q2, .func (.func 73) #[.pointer (some ⟨wb, 0, none⟩)] #[], 82)]) :: l)) => show w'.cell? ⟨q0, 0, none⟩ = some (.pointer (some ⟨wb, 0, none⟩)) from h'.bget 1 rfl (t := 46) (by simp))
  clear hO hy hT hno
  go_enter Try.func86, Try.ntmps86
  go_wp2_with fail
  generalize w.alloc (.cells #[.pointer (some ⟨wb, 0, none⟩)] 46) = u at *
  generalize w.heap.size = q0 at *
  have KS := Lib.hid (fun (w' : World) (ms' : List Int) (h' : Own w0 w' (storeA g b ms' :: walkA wb (wcs W D k t x h a n nv got full) (bx ++ [(q0, .pointer (some ⟨wb, 0, none⟩), 46)]) :: l)) => KX.out w' ms' q0 h')
  have KB := Lib.hid (fun (w' : World) (ms' : List Int) (h' : Own w0 w' (storeA g b ms :: walkA wb (wcs W D k t x h a n nv got full) (bx ++ [(q0, .pointer (some ⟨wb, 0, none⟩), 46)]) :: l)) => BG.out w' q0 h')
  have hOa := h1.drewN 1
  clear h1
  have hS0 := KS.out _ _ hOa
  refine lin_start (S := (fun w' : World => w'.cell? ⟨wb, 5, none⟩ = some (.int .i64 t) ∧ w'.cell? ⟨q0, 0, none⟩ = some (.pointer (some ⟨wb, 0, none⟩)))) rfl 9 rfl hS0 ?_
  simp only [numbered, Nat.zero_add, Nat.reduceAdd]
  refine lin_take (v := ?_) (by kernel_rfl) (by kernel_rfl) (fun _ _ _ h => h) (Or.inl ⟨by rfl, ?_⟩) (by assumption) ?_; (rotate_left; (intro wS hSw; (try dsimp only at hSw); go_simp; (try with_reducible rfl)); rotate_left); simp only [Act.put, List.setIfInBounds_toArray, List.set_cons_zero, List.set_cons_succ]
  refine lin_take (v := ?_) (by kernel_rfl) (by kernel_rfl) (fun _ _ _ h => h) (Or.inl ⟨by rfl, ?_⟩) (by assumption) ?_; (rotate_left; (intro wS hSw; (try dsimp only at hSw); go_simp; (try with_reducible rfl)); rotate_left); simp only [Act.put, List.setIfInBounds_toArray, List.set_cons_zero, List.set_cons_succ]
  refine lin_rot ?_; simp only [List.cons_append, List.nil_append]
  refine lin_take (v := ?_) (by kernel_rfl) (by kernel_rfl) (fun _ _ _ h => h) (Or.inl ⟨by rfl, ?_⟩) (by assumption) ?_; (rotate_left; (intro wS hSw; (try dsimp only at hSw); go_simp; (try with_reducible rfl)); rotate_left); simp only [Act.put, List.setIfInBounds_toArray, List.set_cons_zero, List.set_cons_succ]
  refine lin_take (v := ?_) (by kernel_rfl) (by kernel_rfl) (fun _ _ _ h => h) (Or.inl ⟨by rfl, ?_⟩) (by assumption) ?_; (rotate_left; (intro wS hSw; (try dsimp only at hSw); go_simp; (try with_reducible rfl)); rotate_left); simp only [Act.put, List.setIfInBounds_toArray, List.set_cons_zero, List.set_cons_succ]
  refine lin_take (v := ?_) (by kernel_rfl) (by kernel_rfl) (fun _ _ _ h => h) (Or.inl ⟨by rfl, ?_⟩) (by assumption) ?_; (rotate_left; (intro wS hSw; (try dsimp only at hSw); go_simp; (try with_reducible rfl)); rotate_left); simp only [Act.put, List.setIfInBounds_toArray, List.set_cons_zero, List.set_cons_succ]
  refine lin_take (v := ?_) (by kernel_rfl) (by kernel_rfl) (fun _ _ _ h => h) (Or.inl ⟨by rfl, ?_⟩) (by assumption) ?_; (rotate_left; (intro wS hSw; (try dsimp only at hSw); go_simp; (try with_reducible rfl)); rotate_left); simp only [Act.put, List.setIfInBounds_toArray, List.set_cons_zero, List.set_cons_succ]
  refine lin_take (v := ?_) (by kernel_rfl) (by kernel_rfl) (fun _ _ _ h => h) (Or.inl ⟨by rfl, ?_⟩) (by assumption) ?_; (rotate_left; (intro wS hSw; (try dsimp only at hSw); go_simp; (try with_reducible rfl)); rotate_left); simp only [Act.put, List.setIfInBounds_toArray, List.set_cons_zero, List.set_cons_succ]
  refine lin_rot ?_; simp only [List.cons_append, List.nil_append]
  refine lin_sole (by kernel_rfl) (fun K hK => ?_)
  go_simp
  refine (LD.out _ q0 hOa).mono ?_
  rintro e w5 ⟨rfl, hOb⟩
  refine hK.out _ _ (KS.out _ _ hOb) (fun hHeld => ?_)
  try simp only [Act.put, List.setIfInBounds_toArray, List.set_cons_zero, List.set_cons_succ]
  clear hK
  refine lin_take (v := ?_) (by kernel_rfl) (by kernel_rfl) (fun _ _ _ h => h) (Or.inl ⟨by rfl, ?_⟩) (by assumption) ?_; (rotate_left; (intro wS hSw; (try dsimp only at hSw); go_simp; (try with_reducible rfl)); rotate_left); simp only [Act.put, List.setIfInBounds_toArray, List.set_cons_zero, List.set_cons_succ]
  refine lin_done (by kernel_rfl) ?_
  have z10 := hOb.w10.1; have zf10 := hOb.w10.2
  have y0 := BG.out _ _ hOb
  go_wp2_with fail
  clear z10 zf10
  replace hOb := hOb.drewN 1
  have hS0 := KB.out _ ms hOb
  refine lz_start (S := (fun w' : World => w'.cell? ⟨q0, 0, none⟩ = some (.pointer (some ⟨wb, 0, none⟩)))) rfl 7 8 rfl hS0 ?_
  simp only [numbered, Nat.zero_add, Nat.reduceAdd]
  refine lz_take (v := ?_) (by kernel_rfl) (by kernel_rfl) (by kernel_rfl) (fun _ _ _ h => h) (Or.inl ⟨by rfl, ?_⟩) (by assumption) ?_; (rotate_left; (intro wS hSw; (try dsimp only at hSw); go_simp; (try with_reducible rfl)); rotate_left); simp only [Act.put, List.setIfInBounds_toArray, List.set_cons_zero, List.set_cons_succ]
  refine lz_take (v := ?_) (by kernel_rfl) (by kernel_rfl) (by kernel_rfl) (fun _ _ _ h => h) (Or.inl ⟨by rfl, ?_⟩) (by assumption) ?_; (rotate_left; (intro wS hSw; (try dsimp only at hSw); go_simp; (try with_reducible rfl)); rotate_left); simp only [Act.put, List.setIfInBounds_toArray, List.set_cons_zero, List.set_cons_succ]
  refine lz_take (v := ?_) (by kernel_rfl) (by kernel_rfl) (by kernel_rfl) (fun _ _ _ h => h) (Or.inl ⟨by rfl, ?_⟩) (by assumption) ?_; (rotate_left; (intro wS hSw; (try dsimp only at hSw); go_simp; (try with_reducible rfl)); rotate_left); simp only [Act.put, List.setIfInBounds_toArray, List.set_cons_zero, List.set_cons_succ]
  refine lz_take (v := ?_) (by kernel_rfl) (by kernel_rfl) (by kernel_rfl) (fun _ _ _ h => h) (Or.inl ⟨by rfl, ?_⟩) (by assumption) ?_; (rotate_left; (intro wS hSw; (try dsimp only at hSw); go_simp; (try with_reducible rfl)); rotate_left); simp only [Act.put, List.setIfInBounds_toArray, List.set_cons_zero, List.set_cons_succ]
  refine lz_sole (by kernel_rfl) (fun K hK => ?_)
  go_simp
  refine (LE.out _ q0 n0 hOb).mono ?_
  rintro e w6 ⟨q1, q2, rfl, hOc, n1, n2⟩
  refine hK.out _ _ (.inr (K2.out _ _ _ _ hOc)) (fun hHeld => ?_)
  try simp only [Act.put, List.setIfInBounds_toArray, List.set_cons_zero, List.set_cons_succ]
  clear hK
  have hHeld2 := (K2.out _ _ _ _ hOc)
  refine lz_take (v := ?_) (by kernel_rfl) (by kernel_rfl) (by kernel_rfl) (fun _ _ _ h => h) (Or.inl ⟨by rfl, ?_⟩) (by assumption) ?_; (rotate_left; (intro wS hSw; (try dsimp only at hSw); go_simp; (try with_reducible rfl)); rotate_left); simp only [Act.put, List.setIfInBounds_toArray, List.set_cons_zero, List.set_cons_succ]
  refine lz_take (v := ?_) (by kernel_rfl) (by kernel_rfl) (by kernel_rfl) (fun _ _ _ h => h) (Or.inl ⟨by rfl, ?_⟩) (by assumption) ?_; (rotate_left; (intro wS hSw; (try dsimp only at hSw); go_simp; (try with_reducible rfl)); rotate_left); simp only [Act.put, List.setIfInBounds_toArray, List.set_cons_zero, List.set_cons_succ]
  have z10 := hOc.w10.1
  have zf10 := hOc.w10.2
  have zd10 := hOc.d10.1
  have zdf10 := hOc.d10.2
  refine lz_sole (by kernel_rfl) (fun K hK => ?_)
  go_simp
  refine hK.out _ _ (.inl rfl) (fun hHeld => ?_)
  try simp only [Act.put, List.setIfInBounds_toArray, List.set_cons_zero, List.set_cons_succ]
  clear hK
  refine lz_done (by kernel_rfl) ?_
  have hOd := NZ.out _ q0 q1 q2 n0 n1 n2 hOc
  go_wp2_with fail
  (first | go_end0 | ((try simp only [Exit.inBlock, Exit.then]); refine bodyPost_ret (results_none rfl _ _ _) rfl ?_))
  exact ⟨rfl, q0, q1, q2, hOd.cast (by simp), n0, n1, n2⟩
theorem mLooksAgainN {W D k : Int} {B : Nat} {ms : List Int} (c : Cf W D k B ms.length) {w0 w : World} {g b wb : Nat} {t x h a n : Int} {nv : Value} {got full : Bool} {bx : List (Nat × Value × TypeId)} {l : List Ast} (hO : Own w0 w (storeA g b ms :: walkA wb (wcs W D k t x h a n nv got full) bx :: l)) (hno : ∀ p ∈ bx, p.1 ≠ wb) (T : Int) (hT : wrap64 (t - 1) = T) (y : Int) (hy : ms.getD B 0 = y) (hc : ¬ y ≤ T) :
    Calls Try.prog 86 #[.pointer (some ⟨wb, 0, none⟩), .pointer (some ⟨g, 0, none⟩)] w fun e w' => e = .returned (.tuple #[]) ∧ ∃ q0, Own w0 w' (storeA g b ms :: walkA wb (wcs W D k t x h a n (.func (.func 89) #[] #[.pointer (some ⟨q0, 0, none⟩)]) got full) (bx ++ [(q0, .pointer (some ⟨wb, 0, none⟩), 46)]) :: l) ∧ q0 ≠ wb := by
  have hmf : ∀ (fn : Fn) (first cap : Array Value) (w : World), (Instr.makeFunc fn first cap).run Try.prog w = .ok (.func fn first cap) w := fun _ _ _ _ => rfl
  have cb := c.bd
  obtain ⟨h1, n0⟩ := Own.one_more (hO.box #[.pointer (some ⟨wb, 0, none⟩)] 46)
  have LD := Lib.hid (fun (w' : World) (q0 : Nat) (h' : Own w0 w' (storeA g b ms :: walkA wb (wcs W D k t x h a n nv got full) (bx ++ [(q0, .pointer (some ⟨wb, 0, none⟩), 46)]) :: l)) => dload c h' 0 B (by omega) (by omega) y hy)
  have e1 : IntKind.i64.wrap (t - 1) = T := (IntWalk.i64_left _).trans hT
  have e3 : decide (y ≤ T) = false := by simpa using hc
  have hno2 := Lib.hid (fun (q0 : Nat) (n1 : q0 ≠ wb) => one_no (v1 := .pointer (some ⟨wb, 0, none⟩)) (t1 := 46) hno n1)
  have BG := Lib.hid (fun (w' : World) (q0 : Nat) (h' : Own w0 w' (storeA g b ms :: walkA wb (wcs W D k t x h a n nv got full) (bx ++ [(q0, .pointer (some ⟨wb, 0, none⟩), 46)]) :: l)) => show w'.cell? ⟨q0, 0, none⟩ = some (.pointer (some ⟨wb, 0, none⟩)) from h'.bget 1 rfl (t := 46) (by simp))
  have KX := Lib.hid (fun (w' : World) (ms' : List Int) (q0 : Nat) (h' : Own w0 w' (storeA g b ms' :: walkA wb (wcs W D k t x h a n nv got full) (bx ++ [(q0, .pointer (some ⟨wb, 0, none⟩), 46)]) :: l)) => show (fun w' : World => w'.cell? ⟨wb, 5, none⟩ = some (.int .i64 t) ∧ w'.cell? ⟨q0, 0, none⟩ = some (.pointer (some ⟨wb, 0, none⟩))) w' from ⟨(h'.wget 1 rfl 5).1, h'.bget 1 rfl (t := 46) (by simp)⟩)
  have LE := Lib.hid (fun (w' : World) (q0 : Nat) (n1 : q0 ≠ wb) (h' : Own w0 w' (storeA g b ms :: walkA wb (wcs W D k t x h a n nv got full) (bx ++ [(q0, .pointer (some ⟨wb, 0, none⟩), 46)]) :: l)) => dleaves (fn := .func 73) (fa := #[.pointer (some ⟨wb, 0, none⟩)]) (fb := #[]) h' (one_no (v1 := .pointer (some ⟨wb, 0, none⟩)) (t1 := 46) hno n1))
  have NZ := Lib.hid (fun (w' : World) (q0 q1 q2 : Nat) (n0 : q0 ≠ wb) (n1 : q1 ≠ wb) (n2 : q2 ≠ wb) (h' : Own w0 w' (storeA g b ms :: walkA wb (wcs W D k t x h a n nv got full) (bx ++ [(q0, .pointer (some ⟨wb, 0, none⟩), 46)] ++ [(q1, .pointer (some ⟨wb, 0, none⟩), 46), (q2, .func (.func 73) #[.pointer (some ⟨wb, 0, none⟩)] #[], 82)]) :: l)) => show Own w0 (w'.setCell ⟨wb, 10, none⟩ (.func (.func 87) #[] #[.pointer (some ⟨q1, 0, none⟩), .pointer (some ⟨q2, 0, none⟩)])) (storeA g b ms :: walkA wb (wcs W D k t x h a n (.func (.func 87) #[] #[.pointer (some ⟨q1, 0, none⟩), .pointer (some ⟨q2, 0, none⟩)]) got full) (bx ++ [(q0, .pointer (some ⟨wb, 0, none⟩), 46)] ++ [(q1, .pointer (some ⟨wb, 0, none⟩), 46), (q2, .func (.func 73) #[.pointer (some ⟨wb, 0, none⟩)] #[], 82)]) :: l) from h'.s10 (more_no (one_no hno n0) n1 n2) _)
  have K2 := Lib.hid (fun (w' : World) (q0 q1 q2 : Nat) (h' : Own w0 w' (storeA g b ms :: walkA wb (wcs W D k t x h a n nv got full) (bx ++ [(q0, .pointer (some ⟨wb, 0, none⟩), 46)] ++ [(q1, .pointer (some ⟨wb, 0, none⟩), 46), (q2, .func (.func 73) #[.pointer (some ⟨wb, 0, none⟩)] #[], 82)]) :: l)) => show w'.cell? ⟨q0, 0, none⟩ = some (.pointer (some ⟨wb, 0, none⟩)) from h'.bget 1 rfl (t := 46) (by simp))
  clear hO hy hT hno
  go_enter Try.func86, Try.ntmps86
  go_wp2_with fail
  generalize w.alloc (.cells #[.pointer (some ⟨wb, 0, none⟩)] 46) = u at *
  generalize w.heap.size = q0 at *
  have KS := Lib.hid (fun (w' : World) (ms' : List Int) (h' : Own w0 w' (storeA g b ms' :: walkA wb (wcs W D k t x h a n nv got full) (bx ++ [(q0, .pointer (some ⟨wb, 0, none⟩), 46)]) :: l)) => KX.out w' ms' q0 h')
  have KB := Lib.hid (fun (w' : World) (ms' : List Int) (h' : Own w0 w' (storeA g b ms :: walkA wb (wcs W D k t x h a n nv got full) (bx ++ [(q0, .pointer (some ⟨wb, 0, none⟩), 46)]) :: l)) => BG.out w' q0 h')
  have hOa := h1.drewN 1
  clear h1
  have hS0 := KS.out _ _ hOa
  refine lin_start (S := (fun w' : World => w'.cell? ⟨wb, 5, none⟩ = some (.int .i64 t) ∧ w'.cell? ⟨q0, 0, none⟩ = some (.pointer (some ⟨wb, 0, none⟩)))) rfl 9 rfl hS0 ?_
  simp only [numbered, Nat.zero_add, Nat.reduceAdd]
  refine lin_take (v := ?_) (by kernel_rfl) (by kernel_rfl) (fun _ _ _ h => h) (Or.inl ⟨by rfl, ?_⟩) (by assumption) ?_; (rotate_left; (intro wS hSw; (try dsimp only at hSw); go_simp; (try with_reducible rfl)); rotate_left); simp only [Act.put, List.setIfInBounds_toArray, List.set_cons_zero, List.set_cons_succ]
  refine lin_take (v := ?_) (by kernel_rfl) (by kernel_rfl) (fun _ _ _ h => h) (Or.inl ⟨by rfl, ?_⟩) (by assumption) ?_; (rotate_left; (intro wS hSw; (try dsimp only at hSw); go_simp; (try with_reducible rfl)); rotate_left); simp only [Act.put, List.setIfInBounds_toArray, List.set_cons_zero, List.set_cons_succ]
  refine lin_rot ?_; simp only [List.cons_append, List.nil_append]
  refine lin_take (v := ?_) (by kernel_rfl) (by kernel_rfl) (fun _ _ _ h => h) (Or.inl ⟨by rfl, ?_⟩) (by assumption) ?_; (rotate_left; (intro wS hSw; (try dsimp only at hSw); go_simp; (try with_reducible rfl)); rotate_left); simp only [Act.put, List.setIfInBounds_toArray, List.set_cons_zero, List.set_cons_succ]
  refine lin_take (v := ?_) (by kernel_rfl) (by kernel_rfl) (fun _ _ _ h => h) (Or.inl ⟨by rfl, ?_⟩) (by assumption) ?_; (rotate_left; (intro wS hSw; (try dsimp only at hSw); go_simp; (try with_reducible rfl)); rotate_left); simp only [Act.put, List.setIfInBounds_toArray, List.set_cons_zero, List.set_cons_succ]
  refine lin_take (v := ?_) (by kernel_rfl) (by kernel_rfl) (fun _ _ _ h => h) (Or.inl ⟨by rfl, ?_⟩) (by assumption) ?_; (rotate_left; (intro wS hSw; (try dsimp only at hSw); go_simp; (try with_reducible rfl)); rotate_left); simp only [Act.put, List.setIfInBounds_toArray, List.set_cons_zero, List.set_cons_succ]
  refine lin_take (v := ?_) (by kernel_rfl) (by kernel_rfl) (fun _ _ _ h => h) (Or.inl ⟨by rfl, ?_⟩) (by assumption) ?_; (rotate_left; (intro wS hSw; (try dsimp only at hSw); go_simp; (try with_reducible rfl)); rotate_left); simp only [Act.put, List.setIfInBounds_toArray, List.set_cons_zero, List.set_cons_succ]
  refine lin_take (v := ?_) (by kernel_rfl) (by kernel_rfl) (fun _ _ _ h => h) (Or.inl ⟨by rfl, ?_⟩) (by assumption) ?_; (rotate_left; (intro wS hSw; (try dsimp only at hSw); go_simp; (try with_reducible rfl)); rotate_left); simp only [Act.put, List.setIfInBounds_toArray, List.set_cons_zero, List.set_cons_succ]
  refine lin_rot ?_; simp only [List.cons_append, List.nil_append]
  refine lin_sole (by kernel_rfl) (fun K hK => ?_)
  go_simp
  refine (LD.out _ q0 hOa).mono ?_
  rintro e w5 ⟨rfl, hOb⟩
  refine hK.out _ _ (KS.out _ _ hOb) (fun hHeld => ?_)
  try simp only [Act.put, List.setIfInBounds_toArray, List.set_cons_zero, List.set_cons_succ]
  clear hK
  refine lin_take (v := ?_) (by kernel_rfl) (by kernel_rfl) (fun _ _ _ h => h) (Or.inl ⟨by rfl, ?_⟩) (by assumption) ?_; (rotate_left; (intro wS hSw; (try dsimp only at hSw); go_simp; (try with_reducible rfl)); rotate_left); simp only [Act.put, List.setIfInBounds_toArray, List.set_cons_zero, List.set_cons_succ]
  refine lin_done (by kernel_rfl) ?_
  have z10 := hOb.w10.1; have zf10 := hOb.w10.2
  have y0 := BG.out _ _ hOb
  have NX := Lib.hid (hOb.s10 (hno2.out q0 n0) (.func (.func 89) #[] #[.pointer (some ⟨q0, 0, none⟩)]))
  clear hOb
  go_wp2_with fail
  (first | go_end0 | ((try simp only [Exit.inBlock, Exit.then]); refine bodyPost_ret (results_none rfl _ _ _) rfl ?_))
  exact ⟨rfl, q0, NX.out, n0⟩
end Go.Proofs.Ytofnjapgacgdlaa
