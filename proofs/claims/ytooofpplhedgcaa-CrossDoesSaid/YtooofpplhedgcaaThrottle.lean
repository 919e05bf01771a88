/- Package throttle: how a loop waits for an iteration to end. -/
import Derived.Test.YtooofpplhedgcaaWorks17
set_option linter.unusedVariables false
set_option linter.unusedSimpArgs false
namespace Go.Proofs.Ytooofpplhedgcaa
open Go.RowKit
theorem cells_at {w0 w : World} {pb : Nat} {cs : Array Value} {t : TypeId} {l : List Ast} (i : Nat) (h : Own w0 w l) (hi : l[i]? = some (cellsA pb cs t)) (j : Nat) (v : Value) (hj : cs[j]? = some v) : w.cell? ⟨pb, j, none⟩ = some v ∧ w.frozen? ⟨pb, j, none⟩ = false :=
  ⟨(h.cget i hi j).1.trans hj, (h.cget i hi j).2⟩
set_option maxRecDepth 100000
set_option maxHeartbeats 8000000
theorem may_any (s t e : Int) (hs : 0 ≤ s ∧ s ≤ 1000000) (ht : -1000000 ≤ t ∧ t ≤ 1000000) (w : World) (m : Bool) (hm : (decide (s < max t 1) || decide (s - max t 1 < e)) = m) : Calls Try.prog 32 #[.int .i64 s, .int .i64 t, .int .i64 e] w fun e w' => e = .returned (.bool m) ∧ w = w' := by
  have hk : 1 ≤ max t 1 ∧ max t 1 ≤ 1000000 := by omega
  have hw : wrap64 (s - max t 1) = s - max t 1 := IntWalk.wrap64_in _ (by omega)
  by_cases c1 : s < max t 1
  · obtain rfl : m = true := by rw [← hm]; simp [c1]
    clear hm
    go_enter Try.func32, Try.ntmps32
    go_wp2
    go_ret
    exact ⟨ret_bool (by simp [c1]), rfl⟩
  · replace hm := Lib.hid hm
    go_enter Try.func32, Try.ntmps32
    go_wp2
    go_ret
    exact ⟨ret_bool (by rw [← hm.out, decide_eq_false (show ¬ s < max t 1 by omega)]; rfl), rfl⟩
theorem nap_keep {w0 w : World} {L : List Ast} {nb : Nat} {a b c d id se iter at_ : Int} {ov wo : Bool} (i : Nat) (h : Own w0 w L) (hi : L[i]? = some (cellsA nb #[.int .i64 a, .int .i64 b, .int .i64 c, .int .i64 d, .int .i64 id, .int .i64 se, .int .i64 iter, .int .i64 at_, .bool ov, .bool wo] 101)) :
    (fun w' : World => w'.cell? ⟨nb, 0, none⟩ = some (.int .i64 a) ∧ w'.cell? ⟨nb, 1, none⟩ = some (.int .i64 b) ∧ w'.cell? ⟨nb, 2, none⟩ = some (.int .i64 c) ∧ w'.cell? ⟨nb, 3, none⟩ = some (.int .i64 d) ∧ w'.cell? ⟨nb, 4, none⟩ = some (.int .i64 id) ∧ w'.cell? ⟨nb, 5, none⟩ = some (.int .i64 se) ∧ w'.cell? ⟨nb, 6, none⟩ = some (.int .i64 iter)) w :=
  ⟨(h.cget i hi 0).1, (h.cget i hi 1).1, (h.cget i hi 2).1, (h.cget i hi 3).1, (h.cget i hi 4).1, (h.cget i hi 5).1, (h.cget i hi 6).1⟩
theorem nap_next {w0 w : World} {L : List Ast} {nb : Nat} {a b c d id se iter : Int} {at_ : Int} {ov wo : Bool} (i : Nat) (h : Own w0 w L) (hi : L[i]? = some (cellsA nb #[.int .i64 a, .int .i64 b, .int .i64 c, .int .i64 d, .int .i64 id, .int .i64 se, .int .i64 iter, .int .i64 at_, .bool ov, .bool wo] 101)) (hat : 0 ≤ at_ ∧ at_ ≤ 1000) (on ov' : Bool) (hov : (!on) = ov') :
    Calls Try.prog 65 #[.pointer (some ⟨nb, 0, none⟩), .bool on] w fun e w' => e = .returned (.tuple #[]) ∧ Own w0 w' (L.set i (cellsA nb #[.int .i64 a, .int .i64 b, .int .i64 c, .int .i64 d, .int .i64 id, .int .i64 se, .int .i64 iter, .int .i64 (at_ + 1), .bool ov', .bool wo] 101)) := by
  obtain ⟨c7, f7⟩ := cells_at i h hi 7 _ rfl
  have h2 := h.cset i hi 7 (.int .i64 (at_ + 1))
  have hi2 : (L.set i (cellsA nb (#[.int .i64 a, .int .i64 b, .int .i64 c, .int .i64 d, .int .i64 id, .int .i64 se, .int .i64 iter, .int .i64 at_, .bool ov, .bool wo].setIfInBounds 7 (.int .i64 (at_ + 1))) 101))[i]? = some (cellsA nb #[.int .i64 a, .int .i64 b, .int .i64 c, .int .i64 d, .int .i64 id, .int .i64 se, .int .i64 iter, .int .i64 (at_ + 1), .bool ov, .bool wo] 101) := by rw [List.getElem?_set_self (List.getElem?_eq_some_iff.1 hi).1]; rfl
  obtain ⟨c8, f8⟩ := cells_at i h2 hi2 8 _ rfl
  have h3 := h2.cset i hi2 8 (.bool ov')
  have hE := Lib.hid (show Own w0 _ (L.set i (cellsA nb #[.int .i64 a, .int .i64 b, .int .i64 c, .int .i64 d, .int .i64 id, .int .i64 se, .int .i64 iter, .int .i64 (at_ + 1), .bool ov', .bool wo] 101)) from h3.cast (by rw [List.set_set]; rfl))
  obtain ⟨hat1, hat2⟩ := hat
  subst hov
  clear h h2 h3 hi hi2
  go_enter Try.func65, Try.ntmps65
  go_wp2
  go_end0
  exact ⟨rfl, hE.out⟩
theorem nap_rouse_yes {w0 w : World} {l : List Ast} {gs sb nb : Nat} {ms : List Int} {a b c d : Int} (id se iter : Int) (ok : okPlan a b c d = true) {at_ : Int} {ov wo : Bool} (i : Nat) (h : Own w0 w (storeA gs sb ms :: l)) (hi : l[i]? = some (cellsA nb #[.int .i64 a, .int .i64 b, .int .i64 c, .int .i64 d, .int .i64 id, .int .i64 se, .int .i64 iter, .int .i64 at_, .bool ov, .bool wo] 101)) {at0 : Nat} (hat : frameV a b c d id + 1 = (at0 : Int)) (hl : at0 < ms.length) (tk : Int) (htk : tokV se iter 0 = tk) (hx : ms.getD at0 0 = tk) (ms' : List Int) (hm : ms.set at0 0 = ms') :
    Calls Try.prog 66 #[.pointer (some ⟨nb, 0, none⟩), .pointer (some ⟨gs, 0, none⟩)] w fun e w' => e = .returned (.tuple #[]) ∧ Own w0 w' (storeA gs sb ms' :: l.set i (cellsA nb #[.int .i64 a, .int .i64 b, .int .i64 c, .int .i64 d, .int .i64 id, .int .i64 se, .int .i64 iter, .int .i64 at_, .bool true, .bool true] 101)) := by
  have hi1 : ∀ m, (storeA gs sb m :: l)[i + 1]? = some (cellsA nb #[.int .i64 a, .int .i64 b, .int .i64 c, .int .i64 d, .int .i64 id, .int .i64 se, .int .i64 iter, .int .i64 at_, .bool ov, .bool wo] 101) := fun m => hi
  have R := Lib.hid (fun (w1 : World) (h1 : Own w0 w1 (storeA gs sb ms :: l)) => r_rouse_yes h1 ok id se iter hat hl tk htk hx ms' hm)
  have C := Lib.hid (fun (w1 : World) (m : List Int) (h1 : Own w0 w1 (storeA gs sb m :: l)) => And.intro (nap_keep (i + 1) h1 (hi1 m)) (cells_at (i + 1) h1 (hi1 m) 9 _ rfl))
  have E := Lib.hid (fun (w1 : World) (m : List Int) (h1 : Own w0 w1 (storeA gs sb m :: l)) => show Own w0 (w1.setCell ⟨nb, 9, none⟩ (.bool true)) (storeA gs sb m :: l.set i (cellsA nb #[.int .i64 a, .int .i64 b, .int .i64 c, .int .i64 d, .int .i64 id, .int .i64 se, .int .i64 iter, .int .i64 at_, .bool ov, .bool true] 101)) from h1.cset (i + 1) (hi1 m) 9 (.bool true))
  have hi2 : ∀ m, (storeA gs sb m :: l.set i (cellsA nb #[.int .i64 a, .int .i64 b, .int .i64 c, .int .i64 d, .int .i64 id, .int .i64 se, .int .i64 iter, .int .i64 at_, .bool ov, .bool true] 101))[i + 1]? = some (cellsA nb #[.int .i64 a, .int .i64 b, .int .i64 c, .int .i64 d, .int .i64 id, .int .i64 se, .int .i64 iter, .int .i64 at_, .bool ov, .bool true] 101) := fun m => by
    rw [List.getElem?_cons_succ, List.getElem?_set_self (List.getElem?_eq_some_iff.1 hi).1]
  have C2 := Lib.hid (fun (w1 : World) (m : List Int) (h1 : Own w0 w1 (storeA gs sb m :: l.set i (cellsA nb #[.int .i64 a, .int .i64 b, .int .i64 c, .int .i64 d, .int .i64 id, .int .i64 se, .int .i64 iter, .int .i64 at_, .bool ov, .bool true] 101))) => show (fun w' : World => w'.cell? ⟨nb, 0, none⟩ = some (.int .i64 a) ∧ w'.cell? ⟨nb, 1, none⟩ = some (.int .i64 b) ∧ w'.cell? ⟨nb, 2, none⟩ = some (.int .i64 c) ∧ w'.cell? ⟨nb, 3, none⟩ = some (.int .i64 d) ∧ w'.cell? ⟨nb, 4, none⟩ = some (.int .i64 id) ∧ w'.cell? ⟨nb, 5, none⟩ = some (.int .i64 se) ∧ w'.cell? ⟨nb, 6, none⟩ = some (.int .i64 iter)) w1 ∧ (w1.cell? ⟨nb, 8, none⟩ = some (.bool ov) ∧ w1.frozen? ⟨nb, 8, none⟩ = false) ∧ Own w0 (w1.setCell ⟨nb, 8, none⟩ (.bool true)) (storeA gs sb m :: l.set i (cellsA nb #[.int .i64 a, .int .i64 b, .int .i64 c, .int .i64 d, .int .i64 id, .int .i64 se, .int .i64 iter, .int .i64 at_, .bool true, .bool true] 101)) from
    ⟨nap_keep (i + 1) h1 (hi2 m), cells_at (i + 1) h1 (hi2 m) 8 _ rfl, (h1.cset (i + 1) (hi2 m) 8 (.bool true)).cast (by rw [List.set_cons_succ, List.set_set]; rfl)⟩)
  have hB1 := h.drewN 1
  clear hi hi1 hi2 ok hat hl htk hx hm
  obtain ⟨hS0, _⟩ := C.out _ _ hB1
  have hS0 : (fun w' : World => w'.cell? ⟨nb, 0, none⟩ = some (.int .i64 a) ∧ w'.cell? ⟨nb, 1, none⟩ = some (.int .i64 b) ∧ w'.cell? ⟨nb, 2, none⟩ = some (.int .i64 c) ∧ w'.cell? ⟨nb, 3, none⟩ = some (.int .i64 d) ∧ w'.cell? ⟨nb, 4, none⟩ = some (.int .i64 id) ∧ w'.cell? ⟨nb, 5, none⟩ = some (.int .i64 se) ∧ w'.cell? ⟨nb, 6, none⟩ = some (.int .i64 iter)) w.drew := hS0
  clear h
  go_enter Try.func66, Try.ntmps66
  go_wp2_with fail
  refine lin_start (S := (fun w' : World => w'.cell? ⟨nb, 0, none⟩ = some (.int .i64 a) ∧ w'.cell? ⟨nb, 1, none⟩ = some (.int .i64 b) ∧ w'.cell? ⟨nb, 2, none⟩ = some (.int .i64 c) ∧ w'.cell? ⟨nb, 3, none⟩ = some (.int .i64 d) ∧ w'.cell? ⟨nb, 4, none⟩ = some (.int .i64 id) ∧ w'.cell? ⟨nb, 5, none⟩ = some (.int .i64 se) ∧ w'.cell? ⟨nb, 6, none⟩ = some (.int .i64 iter))) rfl 14 rfl hS0 ?_
  simp only [numbered, Nat.zero_add, Nat.reduceAdd]
  refine lin_take (v := ?_) (by kernel_rfl) (by kernel_rfl) (fun _ _ _ h => h) (Or.inl ⟨by rfl, ?_⟩) (by assumption) ?_; (rotate_left; (intro wS hSw; (try dsimp only at hSw); go_simp; (try with_reducible rfl)); rotate_left); simp only [Act.put, List.setIfInBounds_toArray, List.set_cons_zero, List.set_cons_succ]
  refine lin_take (v := ?_) (by kernel_rfl) (by kernel_rfl) (fun _ _ _ h => h) (Or.inl ⟨by rfl, ?_⟩) (by assumption) ?_; (rotate_left; (intro wS hSw; (try dsimp only at hSw); go_simp; (try with_reducible rfl)); rotate_left); simp only [Act.put, List.setIfInBounds_toArray, List.set_cons_zero, List.set_cons_succ]
  refine lin_take (v := ?_) (by kernel_rfl) (by kernel_rfl) (fun _ _ _ h => h) (Or.inl ⟨by rfl, ?_⟩) (by assumption) ?_; (rotate_left; (intro wS hSw; (try dsimp only at hSw); go_simp; (try with_reducible rfl)); rotate_left); simp only [Act.put, List.setIfInBounds_toArray, List.set_cons_zero, List.set_cons_succ]
  refine lin_take (v := ?_) (by kernel_rfl) (by kernel_rfl) (fun _ _ _ h => h) (Or.inl ⟨by rfl, ?_⟩) (by assumption) ?_; (rotate_left; (intro wS hSw; (try dsimp only at hSw); go_simp; (try with_reducible rfl)); rotate_left); simp only [Act.put, List.setIfInBounds_toArray, List.set_cons_zero, List.set_cons_succ]
  refine lin_take (v := ?_) (by kernel_rfl) (by kernel_rfl) (fun _ _ _ h => h) (Or.inl ⟨by rfl, ?_⟩) (by assumption) ?_; (rotate_left; (intro wS hSw; (try dsimp only at hSw); go_simp; (try with_reducible rfl)); rotate_left); simp only [Act.put, List.setIfInBounds_toArray, List.set_cons_zero, List.set_cons_succ]
  refine lin_take (v := ?_) (by kernel_rfl) (by kernel_rfl) (fun _ _ _ h => h) (Or.inl ⟨by rfl, ?_⟩) (by assumption) ?_; (rotate_left; (intro wS hSw; (try dsimp only at hSw); go_simp; (try with_reducible rfl)); rotate_left); simp only [Act.put, List.setIfInBounds_toArray, List.set_cons_zero, List.set_cons_succ]
  refine lin_take (v := ?_) (by kernel_rfl) (by kernel_rfl) (fun _ _ _ h => h) (Or.inl ⟨by rfl, ?_⟩) (by assumption) ?_; (rotate_left; (intro wS hSw; (try dsimp only at hSw); go_simp; (try with_reducible rfl)); rotate_left); simp only [Act.put, List.setIfInBounds_toArray, List.set_cons_zero, List.set_cons_succ]
  refine lin_take (v := ?_) (by kernel_rfl) (by kernel_rfl) (fun _ _ _ h => h) (Or.inl ⟨by rfl, ?_⟩) (by assumption) ?_; (rotate_left; (intro wS hSw; (try dsimp only at hSw); go_simp; (try with_reducible rfl)); rotate_left); simp only [Act.put, List.setIfInBounds_toArray, List.set_cons_zero, List.set_cons_succ]
  refine lin_take (v := ?_) (by kernel_rfl) (by kernel_rfl) (fun _ _ _ h => h) (Or.inl ⟨by rfl, ?_⟩) (by assumption) ?_; (rotate_left; (intro wS hSw; (try dsimp only at hSw); go_simp; (try with_reducible rfl)); rotate_left); simp only [Act.put, List.setIfInBounds_toArray, List.set_cons_zero, List.set_cons_succ]
  refine lin_take (v := ?_) (by kernel_rfl) (by kernel_rfl) (fun _ _ _ h => h) (Or.inl ⟨by rfl, ?_⟩) (by assumption) ?_; (rotate_left; (intro wS hSw; (try dsimp only at hSw); go_simp; (try with_reducible rfl)); rotate_left); simp only [Act.put, List.setIfInBounds_toArray, List.set_cons_zero, List.set_cons_succ]
  refine lin_sole (by kernel_rfl) (fun K hK => ?_)
  go_simp
  refine (R.out _ hB1).mono ?_
  rintro e w1 ⟨rfl, h1⟩
  obtain ⟨⟨s0, s1, s2, s3, s4, s5, s6⟩, g9, f9⟩ := C.out _ _ h1
  have h2 := E.out _ _ h1
  obtain ⟨z0, ⟨g8, f8⟩, h3⟩ := C2.out _ _ h2
  refine hK.out _ _ ?_ (fun hHeld => ?_)
  · exact ⟨s0, s1, s2, s3, s4, s5, s6⟩
  try simp only [Act.put, List.setIfInBounds_toArray, List.set_cons_zero, List.set_cons_succ]
  refine lin_take (v := ?_) (by kernel_rfl) (by kernel_rfl) (fun _ _ _ h => h) (Or.inl ⟨by rfl, ?_⟩) (by assumption) ?_; (rotate_left; (intro wS hSw; (try dsimp only at hSw); go_simp; (try with_reducible rfl)); rotate_left); simp only [Act.put, List.setIfInBounds_toArray, List.set_cons_zero, List.set_cons_succ]
  refine lin_take (v := ?_) (by kernel_rfl) (by kernel_rfl) (fun _ _ _ h => h) (Or.inl ⟨by rfl, ?_⟩) (by assumption) ?_; (rotate_left; (intro wS hSw; (try dsimp only at hSw); go_simp; (try with_reducible rfl)); rotate_left); simp only [Act.put, List.setIfInBounds_toArray, List.set_cons_zero, List.set_cons_succ]
  clear s0 s1 s2 s3 s4 s5 s6 g8 f8
  refine lin_sole (by kernel_rfl) (fun K hK => ?_)
  go_simp
  refine hK.out _ _ ?_ (fun hHeld => ?_)
  · exact z0
  try simp only [Act.put, List.setIfInBounds_toArray, List.set_cons_zero, List.set_cons_succ]
  refine lin_done (by kernel_rfl) ?_
  obtain ⟨_, ⟨g8, f8⟩, h3⟩ := C2.out _ _ h2
  clear hHeld z0 g9 f9 h1 hB1 hS0
  go_wp2_with fail
  go_end0
  exact ⟨rfl, h3⟩
theorem nap_rouse_no {w0 w : World} {l : List Ast} {gs sb nb : Nat} {ms : List Int} {a b c d : Int} (id se iter : Int) (ok : okPlan a b c d = true) {at_ : Int} {ov wo : Bool} (i : Nat) (h : Own w0 w (storeA gs sb ms :: l)) (hi : l[i]? = some (cellsA nb #[.int .i64 a, .int .i64 b, .int .i64 c, .int .i64 d, .int .i64 id, .int .i64 se, .int .i64 iter, .int .i64 at_, .bool ov, .bool wo] 101)) {at0 : Nat} (hat : frameV a b c d id + 1 = (at0 : Int)) (hl : at0 < ms.length) (tk : Int) (htk : tokV se iter 0 = tk) (hx : ms.getD at0 0 ≠ tk) :
    Calls Try.prog 66 #[.pointer (some ⟨nb, 0, none⟩), .pointer (some ⟨gs, 0, none⟩)] w fun e w' => e = .returned (.tuple #[]) ∧ Own w0 w' (storeA gs sb ms :: l.set i (cellsA nb #[.int .i64 a, .int .i64 b, .int .i64 c, .int .i64 d, .int .i64 id, .int .i64 se, .int .i64 iter, .int .i64 at_, .bool true, .bool false] 101)) := by
  have hi1 : ∀ m, (storeA gs sb m :: l)[i + 1]? = some (cellsA nb #[.int .i64 a, .int .i64 b, .int .i64 c, .int .i64 d, .int .i64 id, .int .i64 se, .int .i64 iter, .int .i64 at_, .bool ov, .bool wo] 101) := fun m => hi
  have R := Lib.hid (fun (w1 : World) (h1 : Own w0 w1 (storeA gs sb ms :: l)) => r_rouse_no h1 ok id se iter hat hl tk htk hx)
  have C := Lib.hid (fun (w1 : World) (m : List Int) (h1 : Own w0 w1 (storeA gs sb m :: l)) => And.intro (nap_keep (i + 1) h1 (hi1 m)) (cells_at (i + 1) h1 (hi1 m) 9 _ rfl))
  have E := Lib.hid (fun (w1 : World) (m : List Int) (h1 : Own w0 w1 (storeA gs sb m :: l)) => show Own w0 (w1.setCell ⟨nb, 9, none⟩ (.bool false)) (storeA gs sb m :: l.set i (cellsA nb #[.int .i64 a, .int .i64 b, .int .i64 c, .int .i64 d, .int .i64 id, .int .i64 se, .int .i64 iter, .int .i64 at_, .bool ov, .bool false] 101)) from h1.cset (i + 1) (hi1 m) 9 (.bool false))
  have hi2 : ∀ m, (storeA gs sb m :: l.set i (cellsA nb #[.int .i64 a, .int .i64 b, .int .i64 c, .int .i64 d, .int .i64 id, .int .i64 se, .int .i64 iter, .int .i64 at_, .bool ov, .bool false] 101))[i + 1]? = some (cellsA nb #[.int .i64 a, .int .i64 b, .int .i64 c, .int .i64 d, .int .i64 id, .int .i64 se, .int .i64 iter, .int .i64 at_, .bool ov, .bool false] 101) := fun m => by
    rw [List.getElem?_cons_succ, List.getElem?_set_self (List.getElem?_eq_some_iff.1 hi).1]
  have C2 := Lib.hid (fun (w1 : World) (m : List Int) (h1 : Own w0 w1 (storeA gs sb m :: l.set i (cellsA nb #[.int .i64 a, .int .i64 b, .int .i64 c, .int .i64 d, .int .i64 id, .int .i64 se, .int .i64 iter, .int .i64 at_, .bool ov, .bool false] 101))) => show (fun w' : World => w'.cell? ⟨nb, 0, none⟩ = some (.int .i64 a) ∧ w'.cell? ⟨nb, 1, none⟩ = some (.int .i64 b) ∧ w'.cell? ⟨nb, 2, none⟩ = some (.int .i64 c) ∧ w'.cell? ⟨nb, 3, none⟩ = some (.int .i64 d) ∧ w'.cell? ⟨nb, 4, none⟩ = some (.int .i64 id) ∧ w'.cell? ⟨nb, 5, none⟩ = some (.int .i64 se) ∧ w'.cell? ⟨nb, 6, none⟩ = some (.int .i64 iter)) w1 ∧ (w1.cell? ⟨nb, 8, none⟩ = some (.bool ov) ∧ w1.frozen? ⟨nb, 8, none⟩ = false) ∧ Own w0 (w1.setCell ⟨nb, 8, none⟩ (.bool true)) (storeA gs sb m :: l.set i (cellsA nb #[.int .i64 a, .int .i64 b, .int .i64 c, .int .i64 d, .int .i64 id, .int .i64 se, .int .i64 iter, .int .i64 at_, .bool true, .bool false] 101)) from
    ⟨nap_keep (i + 1) h1 (hi2 m), cells_at (i + 1) h1 (hi2 m) 8 _ rfl, (h1.cset (i + 1) (hi2 m) 8 (.bool true)).cast (by rw [List.set_cons_succ, List.set_set]; rfl)⟩)
  have hB1 := h.drewN 1
  clear hi hi1 hi2 ok hat hl htk hx
  obtain ⟨hS0, _⟩ := C.out _ _ hB1
  have hS0 : (fun w' : World => w'.cell? ⟨nb, 0, none⟩ = some (.int .i64 a) ∧ w'.cell? ⟨nb, 1, none⟩ = some (.int .i64 b) ∧ w'.cell? ⟨nb, 2, none⟩ = some (.int .i64 c) ∧ w'.cell? ⟨nb, 3, none⟩ = some (.int .i64 d) ∧ w'.cell? ⟨nb, 4, none⟩ = some (.int .i64 id) ∧ w'.cell? ⟨nb, 5, none⟩ = some (.int .i64 se) ∧ w'.cell? ⟨nb, 6, none⟩ = some (.int .i64 iter)) w.drew := hS0
  clear h
  go_enter Try.func66, Try.ntmps66
  go_wp2_with fail
  refine lin_start (S := (fun w' : World => w'.cell? ⟨nb, 0, none⟩ = some (.int .i64 a) ∧ w'.cell? ⟨nb, 1, none⟩ = some (.int .i64 b) ∧ w'.cell? ⟨nb, 2, none⟩ = some (.int .i64 c) ∧ w'.cell? ⟨nb, 3, none⟩ = some (.int .i64 d) ∧ w'.cell? ⟨nb, 4, none⟩ = some (.int .i64 id) ∧ w'.cell? ⟨nb, 5, none⟩ = some (.int .i64 se) ∧ w'.cell? ⟨nb, 6, none⟩ = some (.int .i64 iter))) rfl 14 rfl hS0 ?_
  simp only [numbered, Nat.zero_add, Nat.reduceAdd]
  refine lin_take (v := ?_) (by kernel_rfl) (by kernel_rfl) (fun _ _ _ h => h) (Or.inl ⟨by rfl, ?_⟩) (by assumption) ?_; (rotate_left; (intro wS hSw; (try dsimp only at hSw); go_simp; (try with_reducible rfl)); rotate_left); simp only [Act.put, List.setIfInBounds_toArray, List.set_cons_zero, List.set_cons_succ]
  refine lin_take (v := ?_) (by kernel_rfl) (by kernel_rfl) (fun _ _ _ h => h) (Or.inl ⟨by rfl, ?_⟩) (by assumption) ?_; (rotate_left; (intro wS hSw; (try dsimp only at hSw); go_simp; (try with_reducible rfl)); rotate_left); simp only [Act.put, List.setIfInBounds_toArray, List.set_cons_zero, List.set_cons_succ]
  refine lin_take (v := ?_) (by kernel_rfl) (by kernel_rfl) (fun _ _ _ h => h) (Or.inl ⟨by rfl, ?_⟩) (by assumption) ?_; (rotate_left; (intro wS hSw; (try dsimp only at hSw); go_simp; (try with_reducible rfl)); rotate_left); simp only [Act.put, List.setIfInBounds_toArray, List.set_cons_zero, List.set_cons_succ]
  refine lin_take (v := ?_) (by kernel_rfl) (by kernel_rfl) (fun _ _ _ h => h) (Or.inl ⟨by rfl, ?_⟩) (by assumption) ?_; (rotate_left; (intro wS hSw; (try dsimp only at hSw); go_simp; (try with_reducible rfl)); rotate_left); simp only [Act.put, List.setIfInBounds_toArray, List.set_cons_zero, List.set_cons_succ]
  refine lin_take (v := ?_) (by kernel_rfl) (by kernel_rfl) (fun _ _ _ h => h) (Or.inl ⟨by rfl, ?_⟩) (by assumption) ?_; (rotate_left; (intro wS hSw; (try dsimp only at hSw); go_simp; (try with_reducible rfl)); rotate_left); simp only [Act.put, List.setIfInBounds_toArray, List.set_cons_zero, List.set_cons_succ]
  refine lin_take (v := ?_) (by kernel_rfl) (by kernel_rfl) (fun _ _ _ h => h) (Or.inl ⟨by rfl, ?_⟩) (by assumption) ?_; (rotate_left; (intro wS hSw; (try dsimp only at hSw); go_simp; (try with_reducible rfl)); rotate_left); simp only [Act.put, List.setIfInBounds_toArray, List.set_cons_zero, List.set_cons_succ]
  refine lin_take (v := ?_) (by kernel_rfl) (by kernel_rfl) (fun _ _ _ h => h) (Or.inl ⟨by rfl, ?_⟩) (by assumption) ?_; (rotate_left; (intro wS hSw; (try dsimp only at hSw); go_simp; (try with_reducible rfl)); rotate_left); simp only [Act.put, List.setIfInBounds_toArray, List.set_cons_zero, List.set_cons_succ]
  refine lin_take (v := ?_) (by kernel_rfl) (by kernel_rfl) (fun _ _ _ h => h) (Or.inl ⟨by rfl, ?_⟩) (by assumption) ?_; (rotate_left; (intro wS hSw; (try dsimp only at hSw); go_simp; (try with_reducible rfl)); rotate_left); simp only [Act.put, List.setIfInBounds_toArray, List.set_cons_zero, List.set_cons_succ]
  refine lin_take (v := ?_) (by kernel_rfl) (by kernel_rfl) (fun _ _ _ h => h) (Or.inl ⟨by rfl, ?_⟩) (by assumption) ?_; (rotate_left; (intro wS hSw; (try dsimp only at hSw); go_simp; (try with_reducible rfl)); rotate_left); simp only [Act.put, List.setIfInBounds_toArray, List.set_cons_zero, List.set_cons_succ]
  refine lin_take (v := ?_) (by kernel_rfl) (by kernel_rfl) (fun _ _ _ h => h) (Or.inl ⟨by rfl, ?_⟩) (by assumption) ?_; (rotate_left; (intro wS hSw; (try dsimp only at hSw); go_simp; (try with_reducible rfl)); rotate_left); simp only [Act.put, List.setIfInBounds_toArray, List.set_cons_zero, List.set_cons_succ]
  refine lin_sole (by kernel_rfl) (fun K hK => ?_)
  go_simp
  refine (R.out _ hB1).mono ?_
  rintro e w1 ⟨rfl, h1⟩
  obtain ⟨⟨s0, s1, s2, s3, s4, s5, s6⟩, g9, f9⟩ := C.out _ _ h1
  have h2 := E.out _ _ h1
  obtain ⟨z0, ⟨g8, f8⟩, h3⟩ := C2.out _ _ h2
  refine hK.out _ _ ?_ (fun hHeld => ?_)
  · exact ⟨s0, s1, s2, s3, s4, s5, s6⟩
  try simp only [Act.put, List.setIfInBounds_toArray, List.set_cons_zero, List.set_cons_succ]
  refine lin_take (v := ?_) (by kernel_rfl) (by kernel_rfl) (fun _ _ _ h => h) (Or.inl ⟨by rfl, ?_⟩) (by assumption) ?_; (rotate_left; (intro wS hSw; (try dsimp only at hSw); go_simp; (try with_reducible rfl)); rotate_left); simp only [Act.put, List.setIfInBounds_toArray, List.set_cons_zero, List.set_cons_succ]
  refine lin_take (v := ?_) (by kernel_rfl) (by kernel_rfl) (fun _ _ _ h => h) (Or.inl ⟨by rfl, ?_⟩) (by assumption) ?_; (rotate_left; (intro wS hSw; (try dsimp only at hSw); go_simp; (try with_reducible rfl)); rotate_left); simp only [Act.put, List.setIfInBounds_toArray, List.set_cons_zero, List.set_cons_succ]
  clear s0 s1 s2 s3 s4 s5 s6 g8 f8
  refine lin_sole (by kernel_rfl) (fun K hK => ?_)
  go_simp
  refine hK.out _ _ ?_ (fun hHeld => ?_)
  · exact z0
  try simp only [Act.put, List.setIfInBounds_toArray, List.set_cons_zero, List.set_cons_succ]
  refine lin_done (by kernel_rfl) ?_
  obtain ⟨_, ⟨g8, f8⟩, h3⟩ := C2.out _ _ h2
  clear hHeld z0 g9 f9 h1 hB1 hS0
  go_wp2_with fail
  go_end0
  exact ⟨rfl, h3⟩
theorem wake_keep {w0 w : World} {L : List Ast} {nb : Nat} {a b c d id se iter at_ : Int} {ov wo : Bool} {lk : Bool} (i : Nat) (h : Own w0 w L) (hi : L[i]? = some (cellsA nb #[.int .i64 a, .int .i64 b, .int .i64 c, .int .i64 d, .int .i64 id, .int .i64 se, .int .i64 iter, .int .i64 at_, .bool ov, .bool wo, .bool lk] 103)) :
    (fun w' : World => w'.cell? ⟨nb, 0, none⟩ = some (.int .i64 a) ∧ w'.cell? ⟨nb, 1, none⟩ = some (.int .i64 b) ∧ w'.cell? ⟨nb, 2, none⟩ = some (.int .i64 c) ∧ w'.cell? ⟨nb, 3, none⟩ = some (.int .i64 d) ∧ w'.cell? ⟨nb, 4, none⟩ = some (.int .i64 id) ∧ w'.cell? ⟨nb, 5, none⟩ = some (.int .i64 se) ∧ w'.cell? ⟨nb, 6, none⟩ = some (.int .i64 iter) ∧ w'.cell? ⟨nb, 10, none⟩ = some (.bool lk)) w :=
  ⟨(h.cget i hi 0).1, (h.cget i hi 1).1, (h.cget i hi 2).1, (h.cget i hi 3).1, (h.cget i hi 4).1, (h.cget i hi 5).1, (h.cget i hi 6).1, (h.cget i hi 10).1⟩
theorem wake_next {w0 w : World} {L : List Ast} {nb : Nat} {a b c d id se iter : Int} {at_ : Int} {ov wo : Bool} {lk : Bool} (i : Nat) (h : Own w0 w L) (hi : L[i]? = some (cellsA nb #[.int .i64 a, .int .i64 b, .int .i64 c, .int .i64 d, .int .i64 id, .int .i64 se, .int .i64 iter, .int .i64 at_, .bool ov, .bool wo, .bool lk] 103)) (hat : 0 ≤ at_ ∧ at_ ≤ 1000) (on ov' : Bool) (hov : (!on) = ov') :
    Calls Try.prog 65 #[.pointer (some ⟨nb, 0, none⟩), .bool on] w fun e w' => e = .returned (.tuple #[]) ∧ Own w0 w' (L.set i (cellsA nb #[.int .i64 a, .int .i64 b, .int .i64 c, .int .i64 d, .int .i64 id, .int .i64 se, .int .i64 iter, .int .i64 (at_ + 1), .bool ov', .bool wo, .bool lk] 103)) := by
  obtain ⟨c7, f7⟩ := cells_at i h hi 7 _ rfl
  have h2 := h.cset i hi 7 (.int .i64 (at_ + 1))
  have hi2 : (L.set i (cellsA nb (#[.int .i64 a, .int .i64 b, .int .i64 c, .int .i64 d, .int .i64 id, .int .i64 se, .int .i64 iter, .int .i64 at_, .bool ov, .bool wo, .bool lk].setIfInBounds 7 (.int .i64 (at_ + 1))) 103))[i]? = some (cellsA nb #[.int .i64 a, .int .i64 b, .int .i64 c, .int .i64 d, .int .i64 id, .int .i64 se, .int .i64 iter, .int .i64 (at_ + 1), .bool ov, .bool wo, .bool lk] 103) := by rw [List.getElem?_set_self (List.getElem?_eq_some_iff.1 hi).1]; rfl
  obtain ⟨c8, f8⟩ := cells_at i h2 hi2 8 _ rfl
  have h3 := h2.cset i hi2 8 (.bool ov')
  have hE := Lib.hid (show Own w0 _ (L.set i (cellsA nb #[.int .i64 a, .int .i64 b, .int .i64 c, .int .i64 d, .int .i64 id, .int .i64 se, .int .i64 iter, .int .i64 (at_ + 1), .bool ov', .bool wo, .bool lk] 103)) from h3.cast (by rw [List.set_set]; rfl))
  obtain ⟨hat1, hat2⟩ := hat
  subst hov
  clear h h2 h3 hi hi2
  go_enter Try.func65, Try.ntmps65
  go_wp2
  go_end0
  exact ⟨rfl, hE.out⟩
theorem wake_rouse_yes {w0 w : World} {l : List Ast} {gs sb nb : Nat} {ms : List Int} {a b c d : Int} (id se iter : Int) (ok : okPlan a b c d = true) {at_ : Int} {ov wo : Bool} {lk : Bool} (i : Nat) (h : Own w0 w (storeA gs sb ms :: l)) (hi : l[i]? = some (cellsA nb #[.int .i64 a, .int .i64 b, .int .i64 c, .int .i64 d, .int .i64 id, .int .i64 se, .int .i64 iter, .int .i64 at_, .bool ov, .bool wo, .bool lk] 103)) {at0 : Nat} (hat : frameV a b c d id + 1 = (at0 : Int)) (hl : at0 < ms.length) (tk : Int) (htk : tokV se iter 0 = tk) (hx : ms.getD at0 0 = tk) (ms' : List Int) (hm : ms.set at0 0 = ms') :
    Calls Try.prog 66 #[.pointer (some ⟨nb, 0, none⟩), .pointer (some ⟨gs, 0, none⟩)] w fun e w' => e = .returned (.tuple #[]) ∧ Own w0 w' (storeA gs sb ms' :: l.set i (cellsA nb #[.int .i64 a, .int .i64 b, .int .i64 c, .int .i64 d, .int .i64 id, .int .i64 se, .int .i64 iter, .int .i64 at_, .bool true, .bool true, .bool lk] 103)) := by
  have hi1 : ∀ m, (storeA gs sb m :: l)[i + 1]? = some (cellsA nb #[.int .i64 a, .int .i64 b, .int .i64 c, .int .i64 d, .int .i64 id, .int .i64 se, .int .i64 iter, .int .i64 at_, .bool ov, .bool wo, .bool lk] 103) := fun m => hi
  have R := Lib.hid (fun (w1 : World) (h1 : Own w0 w1 (storeA gs sb ms :: l)) => r_rouse_yes h1 ok id se iter hat hl tk htk hx ms' hm)
  have C := Lib.hid (fun (w1 : World) (m : List Int) (h1 : Own w0 w1 (storeA gs sb m :: l)) => And.intro (wake_keep (i + 1) h1 (hi1 m)) (cells_at (i + 1) h1 (hi1 m) 9 _ rfl))
  have E := Lib.hid (fun (w1 : World) (m : List Int) (h1 : Own w0 w1 (storeA gs sb m :: l)) => show Own w0 (w1.setCell ⟨nb, 9, none⟩ (.bool true)) (storeA gs sb m :: l.set i (cellsA nb #[.int .i64 a, .int .i64 b, .int .i64 c, .int .i64 d, .int .i64 id, .int .i64 se, .int .i64 iter, .int .i64 at_, .bool ov, .bool true, .bool lk] 103)) from h1.cset (i + 1) (hi1 m) 9 (.bool true))
  have hi2 : ∀ m, (storeA gs sb m :: l.set i (cellsA nb #[.int .i64 a, .int .i64 b, .int .i64 c, .int .i64 d, .int .i64 id, .int .i64 se, .int .i64 iter, .int .i64 at_, .bool ov, .bool true, .bool lk] 103))[i + 1]? = some (cellsA nb #[.int .i64 a, .int .i64 b, .int .i64 c, .int .i64 d, .int .i64 id, .int .i64 se, .int .i64 iter, .int .i64 at_, .bool ov, .bool true, .bool lk] 103) := fun m => by
    rw [List.getElem?_cons_succ, List.getElem?_set_self (List.getElem?_eq_some_iff.1 hi).1]
  have C2 := Lib.hid (fun (w1 : World) (m : List Int) (h1 : Own w0 w1 (storeA gs sb m :: l.set i (cellsA nb #[.int .i64 a, .int .i64 b, .int .i64 c, .int .i64 d, .int .i64 id, .int .i64 se, .int .i64 iter, .int .i64 at_, .bool ov, .bool true, .bool lk] 103))) => show (fun w' : World => w'.cell? ⟨nb, 0, none⟩ = some (.int .i64 a) ∧ w'.cell? ⟨nb, 1, none⟩ = some (.int .i64 b) ∧ w'.cell? ⟨nb, 2, none⟩ = some (.int .i64 c) ∧ w'.cell? ⟨nb, 3, none⟩ = some (.int .i64 d) ∧ w'.cell? ⟨nb, 4, none⟩ = some (.int .i64 id) ∧ w'.cell? ⟨nb, 5, none⟩ = some (.int .i64 se) ∧ w'.cell? ⟨nb, 6, none⟩ = some (.int .i64 iter)) w1 ∧ (w1.cell? ⟨nb, 8, none⟩ = some (.bool ov) ∧ w1.frozen? ⟨nb, 8, none⟩ = false) ∧ Own w0 (w1.setCell ⟨nb, 8, none⟩ (.bool true)) (storeA gs sb m :: l.set i (cellsA nb #[.int .i64 a, .int .i64 b, .int .i64 c, .int .i64 d, .int .i64 id, .int .i64 se, .int .i64 iter, .int .i64 at_, .bool true, .bool true, .bool lk] 103)) from
    ⟨by obtain ⟨q0, q1, q2, q3, q4, q5, q6, _⟩ := wake_keep (i + 1) h1 (hi2 m); exact ⟨q0, q1, q2, q3, q4, q5, q6⟩, cells_at (i + 1) h1 (hi2 m) 8 _ rfl, (h1.cset (i + 1) (hi2 m) 8 (.bool true)).cast (by rw [List.set_cons_succ, List.set_set]; rfl)⟩)
  have hB1 := h.drewN 1
  clear hi hi1 hi2 ok hat hl htk hx hm
  obtain ⟨⟨s0, s1, s2, s3, s4, s5, s6, _⟩, _⟩ := C.out _ _ hB1
  have hS0 : (fun w' : World => w'.cell? ⟨nb, 0, none⟩ = some (.int .i64 a) ∧ w'.cell? ⟨nb, 1, none⟩ = some (.int .i64 b) ∧ w'.cell? ⟨nb, 2, none⟩ = some (.int .i64 c) ∧ w'.cell? ⟨nb, 3, none⟩ = some (.int .i64 d) ∧ w'.cell? ⟨nb, 4, none⟩ = some (.int .i64 id) ∧ w'.cell? ⟨nb, 5, none⟩ = some (.int .i64 se) ∧ w'.cell? ⟨nb, 6, none⟩ = some (.int .i64 iter)) w.drew := ⟨s0, s1, s2, s3, s4, s5, s6⟩
  clear s0 s1 s2 s3 s4 s5 s6
  clear h
  go_enter Try.func66, Try.ntmps66
  go_wp2_with fail
  refine lin_start (S := (fun w' : World => w'.cell? ⟨nb, 0, none⟩ = some (.int .i64 a) ∧ w'.cell? ⟨nb, 1, none⟩ = some (.int .i64 b) ∧ w'.cell? ⟨nb, 2, none⟩ = some (.int .i64 c) ∧ w'.cell? ⟨nb, 3, none⟩ = some (.int .i64 d) ∧ w'.cell? ⟨nb, 4, none⟩ = some (.int .i64 id) ∧ w'.cell? ⟨nb, 5, none⟩ = some (.int .i64 se) ∧ w'.cell? ⟨nb, 6, none⟩ = some (.int .i64 iter))) rfl 14 rfl hS0 ?_
  simp only [numbered, Nat.zero_add, Nat.reduceAdd]
  refine lin_take (v := ?_) (by kernel_rfl) (by kernel_rfl) (fun _ _ _ h => h) (Or.inl ⟨by rfl, ?_⟩) (by assumption) ?_; (rotate_left; (intro wS hSw; (try dsimp only at hSw); go_simp; (try with_reducible rfl)); rotate_left); simp only [Act.put, List.setIfInBounds_toArray, List.set_cons_zero, List.set_cons_succ]
  refine lin_take (v := ?_) (by kernel_rfl) (by kernel_rfl) (fun _ _ _ h => h) (Or.inl ⟨by rfl, ?_⟩) (by assumption) ?_; (rotate_left; (intro wS hSw; (try dsimp only at hSw); go_simp; (try with_reducible rfl)); rotate_left); simp only [Act.put, List.setIfInBounds_toArray, List.set_cons_zero, List.set_cons_succ]
  refine lin_take (v := ?_) (by kernel_rfl) (by kernel_rfl) (fun _ _ _ h => h) (Or.inl ⟨by rfl, ?_⟩) (by assumption) ?_; (rotate_left; (intro wS hSw; (try dsimp only at hSw); go_simp; (try with_reducible rfl)); rotate_left); simp only [Act.put, List.setIfInBounds_toArray, List.set_cons_zero, List.set_cons_succ]
  refine lin_take (v := ?_) (by kernel_rfl) (by kernel_rfl) (fun _ _ _ h => h) (Or.inl ⟨by rfl, ?_⟩) (by assumption) ?_; (rotate_left; (intro wS hSw; (try dsimp only at hSw); go_simp; (try with_reducible rfl)); rotate_left); simp only [Act.put, List.setIfInBounds_toArray, List.set_cons_zero, List.set_cons_succ]
  refine lin_take (v := ?_) (by kernel_rfl) (by kernel_rfl) (fun _ _ _ h => h) (Or.inl ⟨by rfl, ?_⟩) (by assumption) ?_; (rotate_left; (intro wS hSw; (try dsimp only at hSw); go_simp; (try with_reducible rfl)); rotate_left); simp only [Act.put, List.setIfInBounds_toArray, List.set_cons_zero, List.set_cons_succ]
  refine lin_take (v := ?_) (by kernel_rfl) (by kernel_rfl) (fun _ _ _ h => h) (Or.inl ⟨by rfl, ?_⟩) (by assumption) ?_; (rotate_left; (intro wS hSw; (try dsimp only at hSw); go_simp; (try with_reducible rfl)); rotate_left); simp only [Act.put, List.setIfInBounds_toArray, List.set_cons_zero, List.set_cons_succ]
  refine lin_take (v := ?_) (by kernel_rfl) (by kernel_rfl) (fun _ _ _ h => h) (Or.inl ⟨by rfl, ?_⟩) (by assumption) ?_; (rotate_left; (intro wS hSw; (try dsimp only at hSw); go_simp; (try with_reducible rfl)); rotate_left); simp only [Act.put, List.setIfInBounds_toArray, List.set_cons_zero, List.set_cons_succ]
  refine lin_take (v := ?_) (by kernel_rfl) (by kernel_rfl) (fun _ _ _ h => h) (Or.inl ⟨by rfl, ?_⟩) (by assumption) ?_; (rotate_left; (intro wS hSw; (try dsimp only at hSw); go_simp; (try with_reducible rfl)); rotate_left); simp only [Act.put, List.setIfInBounds_toArray, List.set_cons_zero, List.set_cons_succ]
  refine lin_take (v := ?_) (by kernel_rfl) (by kernel_rfl) (fun _ _ _ h => h) (Or.inl ⟨by rfl, ?_⟩) (by assumption) ?_; (rotate_left; (intro wS hSw; (try dsimp only at hSw); go_simp; (try with_reducible rfl)); rotate_left); simp only [Act.put, List.setIfInBounds_toArray, List.set_cons_zero, List.set_cons_succ]
  refine lin_take (v := ?_) (by kernel_rfl) (by kernel_rfl) (fun _ _ _ h => h) (Or.inl ⟨by rfl, ?_⟩) (by assumption) ?_; (rotate_left; (intro wS hSw; (try dsimp only at hSw); go_simp; (try with_reducible rfl)); rotate_left); simp only [Act.put, List.setIfInBounds_toArray, List.set_cons_zero, List.set_cons_succ]
  refine lin_sole (by kernel_rfl) (fun K hK => ?_)
  go_simp
  refine (R.out _ hB1).mono ?_
  rintro e w1 ⟨rfl, h1⟩
  obtain ⟨⟨s0, s1, s2, s3, s4, s5, s6, _⟩, g9, f9⟩ := C.out _ _ h1
  have h2 := E.out _ _ h1
  obtain ⟨z0, ⟨g8, f8⟩, h3⟩ := C2.out _ _ h2
  refine hK.out _ _ ?_ (fun hHeld => ?_)
  · exact ⟨s0, s1, s2, s3, s4, s5, s6⟩
  try simp only [Act.put, List.setIfInBounds_toArray, List.set_cons_zero, List.set_cons_succ]
  refine lin_take (v := ?_) (by kernel_rfl) (by kernel_rfl) (fun _ _ _ h => h) (Or.inl ⟨by rfl, ?_⟩) (by assumption) ?_; (rotate_left; (intro wS hSw; (try dsimp only at hSw); go_simp; (try with_reducible rfl)); rotate_left); simp only [Act.put, List.setIfInBounds_toArray, List.set_cons_zero, List.set_cons_succ]
  refine lin_take (v := ?_) (by kernel_rfl) (by kernel_rfl) (fun _ _ _ h => h) (Or.inl ⟨by rfl, ?_⟩) (by assumption) ?_; (rotate_left; (intro wS hSw; (try dsimp only at hSw); go_simp; (try with_reducible rfl)); rotate_left); simp only [Act.put, List.setIfInBounds_toArray, List.set_cons_zero, List.set_cons_succ]
  clear s0 s1 s2 s3 s4 s5 s6 g8 f8
  refine lin_sole (by kernel_rfl) (fun K hK => ?_)
  go_simp
  refine hK.out _ _ ?_ (fun hHeld => ?_)
  · exact z0
  try simp only [Act.put, List.setIfInBounds_toArray, List.set_cons_zero, List.set_cons_succ]
  refine lin_done (by kernel_rfl) ?_
  obtain ⟨_, ⟨g8, f8⟩, h3⟩ := C2.out _ _ h2
  clear hHeld z0 g9 f9 h1 hB1 hS0
  go_wp2_with fail
  go_end0
  exact ⟨rfl, h3⟩
theorem wake_rouse_no {w0 w : World} {l : List Ast} {gs sb nb : Nat} {ms : List Int} {a b c d : Int} (id se iter : Int) (ok : okPlan a b c d = true) {at_ : Int} {ov wo : Bool} {lk : Bool} (i : Nat) (h : Own w0 w (storeA gs sb ms :: l)) (hi : l[i]? = some (cellsA nb #[.int .i64 a, .int .i64 b, .int .i64 c, .int .i64 d, .int .i64 id, .int .i64 se, .int .i64 iter, .int .i64 at_, .bool ov, .bool wo, .bool lk] 103)) {at0 : Nat} (hat : frameV a b c d id + 1 = (at0 : Int)) (hl : at0 < ms.length) (tk : Int) (htk : tokV se iter 0 = tk) (hx : ms.getD at0 0 ≠ tk) :
    Calls Try.prog 66 #[.pointer (some ⟨nb, 0, none⟩), .pointer (some ⟨gs, 0, none⟩)] w fun e w' => e = .returned (.tuple #[]) ∧ Own w0 w' (storeA gs sb ms :: l.set i (cellsA nb #[.int .i64 a, .int .i64 b, .int .i64 c, .int .i64 d, .int .i64 id, .int .i64 se, .int .i64 iter, .int .i64 at_, .bool true, .bool false, .bool lk] 103)) := by
  have hi1 : ∀ m, (storeA gs sb m :: l)[i + 1]? = some (cellsA nb #[.int .i64 a, .int .i64 b, .int .i64 c, .int .i64 d, .int .i64 id, .int .i64 se, .int .i64 iter, .int .i64 at_, .bool ov, .bool wo, .bool lk] 103) := fun m => hi
  have R := Lib.hid (fun (w1 : World) (h1 : Own w0 w1 (storeA gs sb ms :: l)) => r_rouse_no h1 ok id se iter hat hl tk htk hx)
  have C := Lib.hid (fun (w1 : World) (m : List Int) (h1 : Own w0 w1 (storeA gs sb m :: l)) => And.intro (wake_keep (i + 1) h1 (hi1 m)) (cells_at (i + 1) h1 (hi1 m) 9 _ rfl))
  have E := Lib.hid (fun (w1 : World) (m : List Int) (h1 : Own w0 w1 (storeA gs sb m :: l)) => show Own w0 (w1.setCell ⟨nb, 9, none⟩ (.bool false)) (storeA gs sb m :: l.set i (cellsA nb #[.int .i64 a, .int .i64 b, .int .i64 c, .int .i64 d, .int .i64 id, .int .i64 se, .int .i64 iter, .int .i64 at_, .bool ov, .bool false, .bool lk] 103)) from h1.cset (i + 1) (hi1 m) 9 (.bool false))
  have hi2 : ∀ m, (storeA gs sb m :: l.set i (cellsA nb #[.int .i64 a, .int .i64 b, .int .i64 c, .int .i64 d, .int .i64 id, .int .i64 se, .int .i64 iter, .int .i64 at_, .bool ov, .bool false, .bool lk] 103))[i + 1]? = some (cellsA nb #[.int .i64 a, .int .i64 b, .int .i64 c, .int .i64 d, .int .i64 id, .int .i64 se, .int .i64 iter, .int .i64 at_, .bool ov, .bool false, .bool lk] 103) := fun m => by
    rw [List.getElem?_cons_succ, List.getElem?_set_self (List.getElem?_eq_some_iff.1 hi).1]
  have C2 := Lib.hid (fun (w1 : World) (m : List Int) (h1 : Own w0 w1 (storeA gs sb m :: l.set i (cellsA nb #[.int .i64 a, .int .i64 b, .int .i64 c, .int .i64 d, .int .i64 id, .int .i64 se, .int .i64 iter, .int .i64 at_, .bool ov, .bool false, .bool lk] 103))) => show (fun w' : World => w'.cell? ⟨nb, 0, none⟩ = some (.int .i64 a) ∧ w'.cell? ⟨nb, 1, none⟩ = some (.int .i64 b) ∧ w'.cell? ⟨nb, 2, none⟩ = some (.int .i64 c) ∧ w'.cell? ⟨nb, 3, none⟩ = some (.int .i64 d) ∧ w'.cell? ⟨nb, 4, none⟩ = some (.int .i64 id) ∧ w'.cell? ⟨nb, 5, none⟩ = some (.int .i64 se) ∧ w'.cell? ⟨nb, 6, none⟩ = some (.int .i64 iter)) w1 ∧ (w1.cell? ⟨nb, 8, none⟩ = some (.bool ov) ∧ w1.frozen? ⟨nb, 8, none⟩ = false) ∧ Own w0 (w1.setCell ⟨nb, 8, none⟩ (.bool true)) (storeA gs sb m :: l.set i (cellsA nb #[.int .i64 a, .int .i64 b, .int .i64 c, .int .i64 d, .int .i64 id, .int .i64 se, .int .i64 iter, .int .i64 at_, .bool true, .bool false, .bool lk] 103)) from
    ⟨by obtain ⟨q0, q1, q2, q3, q4, q5, q6, _⟩ := wake_keep (i + 1) h1 (hi2 m); exact ⟨q0, q1, q2, q3, q4, q5, q6⟩, cells_at (i + 1) h1 (hi2 m) 8 _ rfl, (h1.cset (i + 1) (hi2 m) 8 (.bool true)).cast (by rw [List.set_cons_succ, List.set_set]; rfl)⟩)
  have hB1 := h.drewN 1
  clear hi hi1 hi2 ok hat hl htk hx
  obtain ⟨⟨s0, s1, s2, s3, s4, s5, s6, _⟩, _⟩ := C.out _ _ hB1
  have hS0 : (fun w' : World => w'.cell? ⟨nb, 0, none⟩ = some (.int .i64 a) ∧ w'.cell? ⟨nb, 1, none⟩ = some (.int .i64 b) ∧ w'.cell? ⟨nb, 2, none⟩ = some (.int .i64 c) ∧ w'.cell? ⟨nb, 3, none⟩ = some (.int .i64 d) ∧ w'.cell? ⟨nb, 4, none⟩ = some (.int .i64 id) ∧ w'.cell? ⟨nb, 5, none⟩ = some (.int .i64 se) ∧ w'.cell? ⟨nb, 6, none⟩ = some (.int .i64 iter)) w.drew := ⟨s0, s1, s2, s3, s4, s5, s6⟩
  clear s0 s1 s2 s3 s4 s5 s6
  clear h
  go_enter Try.func66, Try.ntmps66
  go_wp2_with fail
  refine lin_start (S := (fun w' : World => w'.cell? ⟨nb, 0, none⟩ = some (.int .i64 a) ∧ w'.cell? ⟨nb, 1, none⟩ = some (.int .i64 b) ∧ w'.cell? ⟨nb, 2, none⟩ = some (.int .i64 c) ∧ w'.cell? ⟨nb, 3, none⟩ = some (.int .i64 d) ∧ w'.cell? ⟨nb, 4, none⟩ = some (.int .i64 id) ∧ w'.cell? ⟨nb, 5, none⟩ = some (.int .i64 se) ∧ w'.cell? ⟨nb, 6, none⟩ = some (.int .i64 iter))) rfl 14 rfl hS0 ?_
  simp only [numbered, Nat.zero_add, Nat.reduceAdd]
  refine lin_take (v := ?_) (by kernel_rfl) (by kernel_rfl) (fun _ _ _ h => h) (Or.inl ⟨by rfl, ?_⟩) (by assumption) ?_; (rotate_left; (intro wS hSw; (try dsimp only at hSw); go_simp; (try with_reducible rfl)); rotate_left); simp only [Act.put, List.setIfInBounds_toArray, List.set_cons_zero, List.set_cons_succ]
  refine lin_take (v := ?_) (by kernel_rfl) (by kernel_rfl) (fun _ _ _ h => h) (Or.inl ⟨by rfl, ?_⟩) (by assumption) ?_; (rotate_left; (intro wS hSw; (try dsimp only at hSw); go_simp; (try with_reducible rfl)); rotate_left); simp only [Act.put, List.setIfInBounds_toArray, List.set_cons_zero, List.set_cons_succ]
  refine lin_take (v := ?_) (by kernel_rfl) (by kernel_rfl) (fun _ _ _ h => h) (Or.inl ⟨by rfl, ?_⟩) (by assumption) ?_; (rotate_left; (intro wS hSw; (try dsimp only at hSw); go_simp; (try with_reducible rfl)); rotate_left); simp only [Act.put, List.setIfInBounds_toArray, List.set_cons_zero, List.set_cons_succ]
  refine lin_take (v := ?_) (by kernel_rfl) (by kernel_rfl) (fun _ _ _ h => h) (Or.inl ⟨by rfl, ?_⟩) (by assumption) ?_; (rotate_left; (intro wS hSw; (try dsimp only at hSw); go_simp; (try with_reducible rfl)); rotate_left); simp only [Act.put, List.setIfInBounds_toArray, List.set_cons_zero, List.set_cons_succ]
  refine lin_take (v := ?_) (by kernel_rfl) (by kernel_rfl) (fun _ _ _ h => h) (Or.inl ⟨by rfl, ?_⟩) (by assumption) ?_; (rotate_left; (intro wS hSw; (try dsimp only at hSw); go_simp; (try with_reducible rfl)); rotate_left); simp only [Act.put, List.setIfInBounds_toArray, List.set_cons_zero, List.set_cons_succ]
  refine lin_take (v := ?_) (by kernel_rfl) (by kernel_rfl) (fun _ _ _ h => h) (Or.inl ⟨by rfl, ?_⟩) (by assumption) ?_; (rotate_left; (intro wS hSw; (try dsimp only at hSw); go_simp; (try with_reducible rfl)); rotate_left); simp only [Act.put, List.setIfInBounds_toArray, List.set_cons_zero, List.set_cons_succ]
  refine lin_take (v := ?_) (by kernel_rfl) (by kernel_rfl) (fun _ _ _ h => h) (Or.inl ⟨by rfl, ?_⟩) (by assumption) ?_; (rotate_left; (intro wS hSw; (try dsimp only at hSw); go_simp; (try with_reducible rfl)); rotate_left); simp only [Act.put, List.setIfInBounds_toArray, List.set_cons_zero, List.set_cons_succ]
  refine lin_take (v := ?_) (by kernel_rfl) (by kernel_rfl) (fun _ _ _ h => h) (Or.inl ⟨by rfl, ?_⟩) (by assumption) ?_; (rotate_left; (intro wS hSw; (try dsimp only at hSw); go_simp; (try with_reducible rfl)); rotate_left); simp only [Act.put, List.setIfInBounds_toArray, List.set_cons_zero, List.set_cons_succ]
  refine lin_take (v := ?_) (by kernel_rfl) (by kernel_rfl) (fun _ _ _ h => h) (Or.inl ⟨by rfl, ?_⟩) (by assumption) ?_; (rotate_left; (intro wS hSw; (try dsimp only at hSw); go_simp; (try with_reducible rfl)); rotate_left); simp only [Act.put, List.setIfInBounds_toArray, List.set_cons_zero, List.set_cons_succ]
  refine lin_take (v := ?_) (by kernel_rfl) (by kernel_rfl) (fun _ _ _ h => h) (Or.inl ⟨by rfl, ?_⟩) (by assumption) ?_; (rotate_left; (intro wS hSw; (try dsimp only at hSw); go_simp; (try with_reducible rfl)); rotate_left); simp only [Act.put, List.setIfInBounds_toArray, List.set_cons_zero, List.set_cons_succ]
  refine lin_sole (by kernel_rfl) (fun K hK => ?_)
  go_simp
  refine (R.out _ hB1).mono ?_
  rintro e w1 ⟨rfl, h1⟩
  obtain ⟨⟨s0, s1, s2, s3, s4, s5, s6, _⟩, g9, f9⟩ := C.out _ _ h1
  have h2 := E.out _ _ h1
  obtain ⟨z0, ⟨g8, f8⟩, h3⟩ := C2.out _ _ h2
  refine hK.out _ _ ?_ (fun hHeld => ?_)
  · exact ⟨s0, s1, s2, s3, s4, s5, s6⟩
  try simp only [Act.put, List.setIfInBounds_toArray, List.set_cons_zero, List.set_cons_succ]
  refine lin_take (v := ?_) (by kernel_rfl) (by kernel_rfl) (fun _ _ _ h => h) (Or.inl ⟨by rfl, ?_⟩) (by assumption) ?_; (rotate_left; (intro wS hSw; (try dsimp only at hSw); go_simp; (try with_reducible rfl)); rotate_left); simp only [Act.put, List.setIfInBounds_toArray, List.set_cons_zero, List.set_cons_succ]
  refine lin_take (v := ?_) (by kernel_rfl) (by kernel_rfl) (fun _ _ _ h => h) (Or.inl ⟨by rfl, ?_⟩) (by assumption) ?_; (rotate_left; (intro wS hSw; (try dsimp only at hSw); go_simp; (try with_reducible rfl)); rotate_left); simp only [Act.put, List.setIfInBounds_toArray, List.set_cons_zero, List.set_cons_succ]
  clear s0 s1 s2 s3 s4 s5 s6 g8 f8
  refine lin_sole (by kernel_rfl) (fun K hK => ?_)
  go_simp
  refine hK.out _ _ ?_ (fun hHeld => ?_)
  · exact z0
  try simp only [Act.put, List.setIfInBounds_toArray, List.set_cons_zero, List.set_cons_succ]
  refine lin_done (by kernel_rfl) ?_
  obtain ⟨_, ⟨g8, f8⟩, h3⟩ := C2.out _ _ h2
  clear hHeld z0 g9 f9 h1 hB1 hS0
  go_wp2_with fail
  go_end0
  exact ⟨rfl, h3⟩
theorem nap_new {w0 w : World} {l : List Ast} (h : Own w0 w l) (a b c d id se iter : Int) : Calls Try.prog 26 #[.agg #[.int .i64 a, .int .i64 b, .int .i64 c, .int .i64 d, .int .i64 id, .int .i64 se], .int .i64 iter] w fun e w' => ∃ nb, e = .returned (.pointer (some ⟨nb, 0, none⟩)) ∧ Own w0 w' (l ++ [cellsA nb #[.int .i64 a, .int .i64 b, .int .i64 c, .int .i64 d, .int .i64 id, .int .i64 se, .int .i64 iter, .int .i64 0, .bool false, .bool false] 101]) := by
  have h1 := (h.box #[.int .i64 a, .int .i64 b, .int .i64 c, .int .i64 d, .int .i64 id, .int .i64 se] 32).box #[.int .i64 a, .int .i64 b, .int .i64 c, .int .i64 d, .int .i64 id, .int .i64 se, .int .i64 iter, .int .i64 0, .bool false, .bool false] 101
  rw [World.size_alloc] at h1
  have h2 := Lib.hid (h1.sub (l' := l ++ [cellsA (w.heap.size + 1) #[.int .i64 a, .int .i64 b, .int .i64 c, .int .i64 d, .int .i64 id, .int .i64 se, .int .i64 iter, .int .i64 0, .bool false, .bool false] 101]) (by rw [List.append_assoc]; exact List.Sublist.append (List.Sublist.refl _) (List.Sublist.cons _ (List.Sublist.refl _))))
  clear h h1
  go_enter Try.func26, Try.ntmps26
  go_wp2
  go_ret
  exact ⟨w.heap.size + 1, rfl, h2.out⟩
theorem nap_over {w0 w : World} {L : List Ast} {nb : Nat} {a b c d id se iter at_ : Int} {wo : Bool} (i : Nat) (h : Own w0 w L) (hi : L[i]? = some (cellsA nb #[.int .i64 a, .int .i64 b, .int .i64 c, .int .i64 d, .int .i64 id, .int .i64 se, .int .i64 iter, .int .i64 at_, .bool true, .bool wo] 101)) (v : Value) :
    Calls Try.prog 28 #[.pointer (some ⟨nb, 0, none⟩), v] w fun e w' => e = .returned (.bool true) ∧ w = w' := by
  have c8 := (cells_at i h hi 8 _ rfl).1
  clear h hi
  go_enter Try.func28, Try.ntmps28
  go_wp2
  go_ret
  exact ⟨rfl, rfl⟩
theorem nap_won {w0 w : World} {L : List Ast} {nb : Nat} {a b c d id se iter at_ : Int} {ov wo : Bool} (i : Nat) (h : Own w0 w L) (hi : L[i]? = some (cellsA nb #[.int .i64 a, .int .i64 b, .int .i64 c, .int .i64 d, .int .i64 id, .int .i64 se, .int .i64 iter, .int .i64 at_, .bool ov, .bool wo] 101)) :
    Calls Try.prog 29 #[.pointer (some ⟨nb, 0, none⟩)] w fun e w' => e = .returned (.bool wo) ∧ w = w' := by
  have c9 := (cells_at i h hi 9 _ rfl).1
  clear h hi
  go_enter Try.func29, Try.ntmps29
  go_wp2
  go_ret
  exact ⟨rfl, rfl⟩
theorem nap_step0 {w0 w : World} {l : List Ast} {gs sb nb : Nat} {ms : List Int} {a b c d : Int} (id se iter : Int) (ok : okPlan a b c d = true) {wo : Bool} (i : Nat) (h : Own w0 w (storeA gs sb ms :: l)) (hi : l[i]? = some (cellsA nb #[.int .i64 a, .int .i64 b, .int .i64 c, .int .i64 d, .int .i64 id, .int .i64 se, .int .i64 iter, .int .i64 0, .bool false, .bool wo] 101)) {at0 : Nat} (hat : frameV a b c d id + 1 = (at0 : Int)) (hl : at0 < ms.length) (tk : Int) (htk : tokV se iter 0 = tk) (ms' : List Int) (hm : ms.set at0 tk = ms') :
    Calls Try.prog 28 #[.pointer (some ⟨nb, 0, none⟩), .pointer (some ⟨gs, 0, none⟩)] w fun e w' => e = .returned (.bool false) ∧ Own w0 w' (storeA gs sb ms' :: l.set i (cellsA nb #[.int .i64 a, .int .i64 b, .int .i64 c, .int .i64 d, .int .i64 id, .int .i64 se, .int .i64 iter, .int .i64 1, .bool false, .bool wo] 101)) := by
  have hi1 : ∀ m, (storeA gs sb m :: l)[i + 1]? = some (cellsA nb #[.int .i64 a, .int .i64 b, .int .i64 c, .int .i64 d, .int .i64 id, .int .i64 se, .int .i64 iter, .int .i64 0, .bool false, .bool wo] 101) := fun m => hi
  have R := Lib.hid (fun (w1 : World) (h1 : Own w0 w1 (storeA gs sb ms :: l)) => r_sleep h1 ok id se iter hat hl tk htk ms' hm)
  have C := Lib.hid (fun (w1 : World) (m : List Int) (h1 : Own w0 w1 (storeA gs sb m :: l)) => And.intro (nap_keep (i + 1) h1 (hi1 m)) (And.intro (cells_at (i + 1) h1 (hi1 m) 7 _ rfl).1 (cells_at (i + 1) h1 (hi1 m) 8 _ rfl).1))
  have NX := Lib.hid (fun (w1 : World) (h1 : Own w0 w1 (storeA gs sb ms' :: l)) => show Calls Try.prog 65 #[.pointer (some ⟨nb, 0, none⟩), .bool true] w1 fun e w' => e = .returned (.tuple #[]) ∧ Own w0 w' (storeA gs sb ms' :: l.set i (cellsA nb #[.int .i64 a, .int .i64 b, .int .i64 c, .int .i64 d, .int .i64 id, .int .i64 se, .int .i64 iter, .int .i64 1, .bool false, .bool wo] 101)) from nap_next (i + 1) h1 (hi1 ms') (by omega) true false rfl)
  have C8 := Lib.hid (fun (w1 : World) (h1 : Own w0 w1 (storeA gs sb ms' :: l.set i (cellsA nb #[.int .i64 a, .int .i64 b, .int .i64 c, .int .i64 d, .int .i64 id, .int .i64 se, .int .i64 iter, .int .i64 1, .bool false, .bool wo] 101))) => (cells_at (i + 1) h1 (by rw [List.getElem?_cons_succ, List.getElem?_set_self (List.getElem?_eq_some_iff.1 hi).1]) 8 _ rfl).1)
  have hB1 := h.drewN 1
  obtain ⟨_, c7, c8⟩ := C.out _ _ h
  obtain ⟨hS0', _⟩ := C.out _ _ hB1
  have hS0 : (fun w' : World => w'.cell? ⟨nb, 0, none⟩ = some (.int .i64 a) ∧ w'.cell? ⟨nb, 1, none⟩ = some (.int .i64 b) ∧ w'.cell? ⟨nb, 2, none⟩ = some (.int .i64 c) ∧ w'.cell? ⟨nb, 3, none⟩ = some (.int .i64 d) ∧ w'.cell? ⟨nb, 4, none⟩ = some (.int .i64 id) ∧ w'.cell? ⟨nb, 5, none⟩ = some (.int .i64 se) ∧ w'.cell? ⟨nb, 6, none⟩ = some (.int .i64 iter)) w.drew := hS0'
  clear hi hi1 ok hat hl htk hm h hS0'
  go_enter Try.func28, Try.ntmps28
  go_wp2_with fail
  refine lin_start (S := (fun w' : World => w'.cell? ⟨nb, 0, none⟩ = some (.int .i64 a) ∧ w'.cell? ⟨nb, 1, none⟩ = some (.int .i64 b) ∧ w'.cell? ⟨nb, 2, none⟩ = some (.int .i64 c) ∧ w'.cell? ⟨nb, 3, none⟩ = some (.int .i64 d) ∧ w'.cell? ⟨nb, 4, none⟩ = some (.int .i64 id) ∧ w'.cell? ⟨nb, 5, none⟩ = some (.int .i64 se) ∧ w'.cell? ⟨nb, 6, none⟩ = some (.int .i64 iter))) rfl 12 rfl hS0 ?_
  simp only [numbered, Nat.zero_add, Nat.reduceAdd]
  refine lin_take (v := ?_) (by kernel_rfl) (by kernel_rfl) (fun _ _ _ h => h) (Or.inl ⟨by rfl, ?_⟩) (by assumption) ?_; (rotate_left; (intro wS hSw; (try dsimp only at hSw); go_simp; (try with_reducible rfl)); rotate_left); simp only [Act.put, List.setIfInBounds_toArray, List.set_cons_zero, List.set_cons_succ]
  refine lin_take (v := ?_) (by kernel_rfl) (by kernel_rfl) (fun _ _ _ h => h) (Or.inl ⟨by rfl, ?_⟩) (by assumption) ?_; (rotate_left; (intro wS hSw; (try dsimp only at hSw); go_simp; (try with_reducible rfl)); rotate_left); simp only [Act.put, List.setIfInBounds_toArray, List.set_cons_zero, List.set_cons_succ]
  refine lin_take (v := ?_) (by kernel_rfl) (by kernel_rfl) (fun _ _ _ h => h) (Or.inl ⟨by rfl, ?_⟩) (by assumption) ?_; (rotate_left; (intro wS hSw; (try dsimp only at hSw); go_simp; (try with_reducible rfl)); rotate_left); simp only [Act.put, List.setIfInBounds_toArray, List.set_cons_zero, List.set_cons_succ]
  refine lin_take (v := ?_) (by kernel_rfl) (by kernel_rfl) (fun _ _ _ h => h) (Or.inl ⟨by rfl, ?_⟩) (by assumption) ?_; (rotate_left; (intro wS hSw; (try dsimp only at hSw); go_simp; (try with_reducible rfl)); rotate_left); simp only [Act.put, List.setIfInBounds_toArray, List.set_cons_zero, List.set_cons_succ]
  refine lin_take (v := ?_) (by kernel_rfl) (by kernel_rfl) (fun _ _ _ h => h) (Or.inl ⟨by rfl, ?_⟩) (by assumption) ?_; (rotate_left; (intro wS hSw; (try dsimp only at hSw); go_simp; (try with_reducible rfl)); rotate_left); simp only [Act.put, List.setIfInBounds_toArray, List.set_cons_zero, List.set_cons_succ]
  refine lin_take (v := ?_) (by kernel_rfl) (by kernel_rfl) (fun _ _ _ h => h) (Or.inl ⟨by rfl, ?_⟩) (by assumption) ?_; (rotate_left; (intro wS hSw; (try dsimp only at hSw); go_simp; (try with_reducible rfl)); rotate_left); simp only [Act.put, List.setIfInBounds_toArray, List.set_cons_zero, List.set_cons_succ]
  refine lin_take (v := ?_) (by kernel_rfl) (by kernel_rfl) (fun _ _ _ h => h) (Or.inl ⟨by rfl, ?_⟩) (by assumption) ?_; (rotate_left; (intro wS hSw; (try dsimp only at hSw); go_simp; (try with_reducible rfl)); rotate_left); simp only [Act.put, List.setIfInBounds_toArray, List.set_cons_zero, List.set_cons_succ]
  refine lin_take (v := ?_) (by kernel_rfl) (by kernel_rfl) (fun _ _ _ h => h) (Or.inl ⟨by rfl, ?_⟩) (by assumption) ?_; (rotate_left; (intro wS hSw; (try dsimp only at hSw); go_simp; (try with_reducible rfl)); rotate_left); simp only [Act.put, List.setIfInBounds_toArray, List.set_cons_zero, List.set_cons_succ]
  refine lin_take (v := ?_) (by kernel_rfl) (by kernel_rfl) (fun _ _ _ h => h) (Or.inl ⟨by rfl, ?_⟩) (by assumption) ?_; (rotate_left; (intro wS hSw; (try dsimp only at hSw); go_simp; (try with_reducible rfl)); rotate_left); simp only [Act.put, List.setIfInBounds_toArray, List.set_cons_zero, List.set_cons_succ]
  refine lin_take (v := ?_) (by kernel_rfl) (by kernel_rfl) (fun _ _ _ h => h) (Or.inl ⟨by rfl, ?_⟩) (by assumption) ?_; (rotate_left; (intro wS hSw; (try dsimp only at hSw); go_simp; (try with_reducible rfl)); rotate_left); simp only [Act.put, List.setIfInBounds_toArray, List.set_cons_zero, List.set_cons_succ]
  refine lin_take (v := ?_) (by kernel_rfl) (by kernel_rfl) (fun _ _ _ h => h) (Or.inl ⟨by rfl, ?_⟩) (by assumption) ?_; (rotate_left; (intro wS hSw; (try dsimp only at hSw); go_simp; (try with_reducible rfl)); rotate_left); simp only [Act.put, List.setIfInBounds_toArray, List.set_cons_zero, List.set_cons_succ]
  refine lin_sole (by kernel_rfl) (fun K hK => ?_)
  go_simp
  refine (R.out _ hB1).mono ?_
  rintro e w1 ⟨rfl, h1⟩
  obtain ⟨hS1, d7, d8⟩ := C.out _ _ h1
  refine hK.out _ _ ?_ (fun hHeld => ?_)
  · exact hS1
  try simp only [Act.put, List.setIfInBounds_toArray, List.set_cons_zero, List.set_cons_succ]
  refine lin_done (by kernel_rfl) ?_
  clear hHeld hS0 c7 c8 hB1
  go_wp2_with (first | (go_at_call 65; refine (NX.out _ h1).mono ?_; rintro e w2 ⟨rfl, h3⟩; have e8 := C8.out _ h3))
  go_ret
  exact ⟨rfl, h3⟩
theorem nap_step1 {w0 w : World} {l : List Ast} {gs sb nb : Nat} {ms : List Int} {a b c d : Int} (id se iter : Int) (ok : okPlan a b c d = true) {wo : Bool} (i : Nat) (h : Own w0 w (storeA gs sb ms :: l)) (hi : l[i]? = some (cellsA nb #[.int .i64 a, .int .i64 b, .int .i64 c, .int .i64 d, .int .i64 id, .int .i64 se, .int .i64 iter, .int .i64 1, .bool false, .bool wo] 101)) {at0 : Nat} (hat : wordV a b c d id iter 3 = (at0 : Int)) (hl : at0 < ms.length) (tk x : Int) (htk : tokV se iter 0 = tk) (hx : ms.getD at0 0 = x) (t ov' : Bool) (ht : (x == tk) = t) (hov : (!t) = ov') :
    Calls Try.prog 28 #[.pointer (some ⟨nb, 0, none⟩), .pointer (some ⟨gs, 0, none⟩)] w fun e w' => e = .returned (.bool ov') ∧ Own w0 w' (storeA gs sb ms :: l.set i (cellsA nb #[.int .i64 a, .int .i64 b, .int .i64 c, .int .i64 d, .int .i64 id, .int .i64 se, .int .i64 iter, .int .i64 2, .bool ov', .bool wo] 101)) := by
  have hi1 : ∀ m, (storeA gs sb m :: l)[i + 1]? = some (cellsA nb #[.int .i64 a, .int .i64 b, .int .i64 c, .int .i64 d, .int .i64 id, .int .i64 se, .int .i64 iter, .int .i64 1, .bool false, .bool wo] 101) := fun m => hi
  have R := Lib.hid (fun (w1 : World) (h1 : Own w0 w1 (storeA gs sb ms :: l)) => r_ended h1 ok id se iter hat hl tk x htk hx t ht)
  have C := Lib.hid (fun (w1 : World) (m : List Int) (h1 : Own w0 w1 (storeA gs sb m :: l)) => And.intro (nap_keep (i + 1) h1 (hi1 m)) (And.intro (cells_at (i + 1) h1 (hi1 m) 7 _ rfl).1 (cells_at (i + 1) h1 (hi1 m) 8 _ rfl).1))
  have NX := Lib.hid (fun (w1 : World) (h1 : Own w0 w1 (storeA gs sb ms :: l)) => show Calls Try.prog 65 #[.pointer (some ⟨nb, 0, none⟩), .bool t] w1 fun e w' => e = .returned (.tuple #[]) ∧ Own w0 w' (storeA gs sb ms :: l.set i (cellsA nb #[.int .i64 a, .int .i64 b, .int .i64 c, .int .i64 d, .int .i64 id, .int .i64 se, .int .i64 iter, .int .i64 2, .bool ov', .bool wo] 101)) from nap_next (i + 1) h1 (hi1 ms) (by omega) t ov' hov)
  have C8 := Lib.hid (fun (w1 : World) (h1 : Own w0 w1 (storeA gs sb ms :: l.set i (cellsA nb #[.int .i64 a, .int .i64 b, .int .i64 c, .int .i64 d, .int .i64 id, .int .i64 se, .int .i64 iter, .int .i64 2, .bool ov', .bool wo] 101))) => And.intro (nap_keep (i + 1) h1 (by rw [List.getElem?_cons_succ, List.getElem?_set_self (List.getElem?_eq_some_iff.1 hi).1])) (cells_at (i + 1) h1 (by rw [List.getElem?_cons_succ, List.getElem?_set_self (List.getElem?_eq_some_iff.1 hi).1]) 8 _ rfl).1)
  have hB1 := h.drewN 1
  obtain ⟨_, c7, c8⟩ := C.out _ _ h
  obtain ⟨hS0', _⟩ := C.out _ _ hB1
  have hS0 : (fun w' : World => w'.cell? ⟨nb, 0, none⟩ = some (.int .i64 a) ∧ w'.cell? ⟨nb, 1, none⟩ = some (.int .i64 b) ∧ w'.cell? ⟨nb, 2, none⟩ = some (.int .i64 c) ∧ w'.cell? ⟨nb, 3, none⟩ = some (.int .i64 d) ∧ w'.cell? ⟨nb, 4, none⟩ = some (.int .i64 id) ∧ w'.cell? ⟨nb, 5, none⟩ = some (.int .i64 se) ∧ w'.cell? ⟨nb, 6, none⟩ = some (.int .i64 iter)) w.drew := hS0'
  clear hi hi1 ok hat hl htk hx ht hov h hS0'
  go_enter Try.func28, Try.ntmps28
  go_wp2_with fail
  refine lin_start (S := (fun w' : World => w'.cell? ⟨nb, 0, none⟩ = some (.int .i64 a) ∧ w'.cell? ⟨nb, 1, none⟩ = some (.int .i64 b) ∧ w'.cell? ⟨nb, 2, none⟩ = some (.int .i64 c) ∧ w'.cell? ⟨nb, 3, none⟩ = some (.int .i64 d) ∧ w'.cell? ⟨nb, 4, none⟩ = some (.int .i64 id) ∧ w'.cell? ⟨nb, 5, none⟩ = some (.int .i64 se) ∧ w'.cell? ⟨nb, 6, none⟩ = some (.int .i64 iter))) rfl 16 rfl hS0 ?_
  simp only [numbered, Nat.zero_add, Nat.reduceAdd]
  refine lin_take (v := ?_) (by kernel_rfl) (by kernel_rfl) (fun _ _ _ h => h) (Or.inl ⟨by rfl, ?_⟩) (by assumption) ?_; (rotate_left; (intro wS hSw; (try dsimp only at hSw); go_simp; (try with_reducible rfl)); rotate_left); simp only [Act.put, List.setIfInBounds_toArray, List.set_cons_zero, List.set_cons_succ]
  refine lin_take (v := ?_) (by kernel_rfl) (by kernel_rfl) (fun _ _ _ h => h) (Or.inl ⟨by rfl, ?_⟩) (by assumption) ?_; (rotate_left; (intro wS hSw; (try dsimp only at hSw); go_simp; (try with_reducible rfl)); rotate_left); simp only [Act.put, List.setIfInBounds_toArray, List.set_cons_zero, List.set_cons_succ]
  refine lin_take (v := ?_) (by kernel_rfl) (by kernel_rfl) (fun _ _ _ h => h) (Or.inl ⟨by rfl, ?_⟩) (by assumption) ?_; (rotate_left; (intro wS hSw; (try dsimp only at hSw); go_simp; (try with_reducible rfl)); rotate_left); simp only [Act.put, List.setIfInBounds_toArray, List.set_cons_zero, List.set_cons_succ]
  refine lin_take (v := ?_) (by kernel_rfl) (by kernel_rfl) (fun _ _ _ h => h) (Or.inl ⟨by rfl, ?_⟩) (by assumption) ?_; (rotate_left; (intro wS hSw; (try dsimp only at hSw); go_simp; (try with_reducible rfl)); rotate_left); simp only [Act.put, List.setIfInBounds_toArray, List.set_cons_zero, List.set_cons_succ]
  refine lin_take (v := ?_) (by kernel_rfl) (by kernel_rfl) (fun _ _ _ h => h) (Or.inl ⟨by rfl, ?_⟩) (by assumption) ?_; (rotate_left; (intro wS hSw; (try dsimp only at hSw); go_simp; (try with_reducible rfl)); rotate_left); simp only [Act.put, List.setIfInBounds_toArray, List.set_cons_zero, List.set_cons_succ]
  refine lin_take (v := ?_) (by kernel_rfl) (by kernel_rfl) (fun _ _ _ h => h) (Or.inl ⟨by rfl, ?_⟩) (by assumption) ?_; (rotate_left; (intro wS hSw; (try dsimp only at hSw); go_simp; (try with_reducible rfl)); rotate_left); simp only [Act.put, List.setIfInBounds_toArray, List.set_cons_zero, List.set_cons_succ]
  refine lin_take (v := ?_) (by kernel_rfl) (by kernel_rfl) (fun _ _ _ h => h) (Or.inl ⟨by rfl, ?_⟩) (by assumption) ?_; (rotate_left; (intro wS hSw; (try dsimp only at hSw); go_simp; (try with_reducible rfl)); rotate_left); simp only [Act.put, List.setIfInBounds_toArray, List.set_cons_zero, List.set_cons_succ]
  refine lin_take (v := ?_) (by kernel_rfl) (by kernel_rfl) (fun _ _ _ h => h) (Or.inl ⟨by rfl, ?_⟩) (by assumption) ?_; (rotate_left; (intro wS hSw; (try dsimp only at hSw); go_simp; (try with_reducible rfl)); rotate_left); simp only [Act.put, List.setIfInBounds_toArray, List.set_cons_zero, List.set_cons_succ]
  refine lin_take (v := ?_) (by kernel_rfl) (by kernel_rfl) (fun _ _ _ h => h) (Or.inl ⟨by rfl, ?_⟩) (by assumption) ?_; (rotate_left; (intro wS hSw; (try dsimp only at hSw); go_simp; (try with_reducible rfl)); rotate_left); simp only [Act.put, List.setIfInBounds_toArray, List.set_cons_zero, List.set_cons_succ]
  refine lin_take (v := ?_) (by kernel_rfl) (by kernel_rfl) (fun _ _ _ h => h) (Or.inl ⟨by rfl, ?_⟩) (by assumption) ?_; (rotate_left; (intro wS hSw; (try dsimp only at hSw); go_simp; (try with_reducible rfl)); rotate_left); simp only [Act.put, List.setIfInBounds_toArray, List.set_cons_zero, List.set_cons_succ]
  refine lin_take (v := ?_) (by kernel_rfl) (by kernel_rfl) (fun _ _ _ h => h) (Or.inl ⟨by rfl, ?_⟩) (by assumption) ?_; (rotate_left; (intro wS hSw; (try dsimp only at hSw); go_simp; (try with_reducible rfl)); rotate_left); simp only [Act.put, List.setIfInBounds_toArray, List.set_cons_zero, List.set_cons_succ]
  refine lin_take (v := ?_) (by kernel_rfl) (by kernel_rfl) (fun _ _ _ h => h) (Or.inl ⟨by rfl, ?_⟩) (by assumption) ?_; (rotate_left; (intro wS hSw; (try dsimp only at hSw); go_simp; (try with_reducible rfl)); rotate_left); simp only [Act.put, List.setIfInBounds_toArray, List.set_cons_zero, List.set_cons_succ]
  refine lin_take (v := ?_) (by kernel_rfl) (by kernel_rfl) (fun _ _ _ h => h) (Or.inl ⟨by rfl, ?_⟩) (by assumption) ?_; (rotate_left; (intro wS hSw; (try dsimp only at hSw); go_simp; (try with_reducible rfl)); rotate_left); simp only [Act.put, List.setIfInBounds_toArray, List.set_cons_zero, List.set_cons_succ]
  refine lin_take (v := ?_) (by kernel_rfl) (by kernel_rfl) (fun _ _ _ h => h) (Or.inl ⟨by rfl, ?_⟩) (by assumption) ?_; (rotate_left; (intro wS hSw; (try dsimp only at hSw); go_simp; (try with_reducible rfl)); rotate_left); simp only [Act.put, List.setIfInBounds_toArray, List.set_cons_zero, List.set_cons_succ]
  refine lin_sole (by kernel_rfl) (fun K hK => ?_)
  go_simp
  refine (R.out _ hB1).mono ?_
  rintro e w1 ⟨rfl, h1⟩
  obtain ⟨hS1, d7, d8⟩ := C.out _ _ h1
  refine hK.out _ _ ?_ (fun hHeld => ?_)
  · exact hS1
  try simp only [Act.put, List.setIfInBounds_toArray, List.set_cons_zero, List.set_cons_succ]
  refine lin_sole (by kernel_rfl) (fun K hK => ?_)
  go_simp
  refine (NX.out _ h1).mono ?_
  rintro e w2 ⟨rfl, h3⟩
  obtain ⟨hS3, e8⟩ := C8.out _ h3
  refine hK.out _ _ ?_ (fun hHeld => ?_)
  · exact hS3
  try simp only [Act.put, List.setIfInBounds_toArray, List.set_cons_zero, List.set_cons_succ]
  refine lin_done (by kernel_rfl) ?_
  clear hHeld hS0 c7 c8 hB1 d7 d8 hS1 hS3
  go_wp2_with fail
  go_ret
  exact ⟨rfl, h3⟩
theorem nap_step2_yes {w0 w : World} {l : List Ast} {gs sb nb : Nat} {ms : List Int} {a b c d : Int} (id se iter : Int) (ok : okPlan a b c d = true) {wo : Bool} (i : Nat) (h : Own w0 w (storeA gs sb ms :: l)) (hi : l[i]? = some (cellsA nb #[.int .i64 a, .int .i64 b, .int .i64 c, .int .i64 d, .int .i64 id, .int .i64 se, .int .i64 iter, .int .i64 2, .bool false, .bool wo] 101)) {at0 : Nat} (hat : frameV a b c d id + 1 = (at0 : Int)) (hl : at0 < ms.length) (tk : Int) (htk : tokV se iter 0 = tk) (hx : ms.getD at0 0 = tk) (ms' : List Int) (hm : ms.set at0 0 = ms') :
    Calls Try.prog 28 #[.pointer (some ⟨nb, 0, none⟩), .pointer (some ⟨gs, 0, none⟩)] w fun e w' => e = .returned (.bool true) ∧ Own w0 w' (storeA gs sb ms' :: l.set i (cellsA nb #[.int .i64 a, .int .i64 b, .int .i64 c, .int .i64 d, .int .i64 id, .int .i64 se, .int .i64 iter, .int .i64 2, .bool true, .bool true] 101)) := by
  have R := Lib.hid (nap_rouse_yes id se iter ok i h hi hat hl tk htk hx ms' hm)
  have hi1 : (storeA gs sb ms :: l)[i + 1]? = some (cellsA nb #[.int .i64 a, .int .i64 b, .int .i64 c, .int .i64 d, .int .i64 id, .int .i64 se, .int .i64 iter, .int .i64 2, .bool false, .bool wo] 101) := hi
  have c7 := (cells_at (i + 1) h hi1 7 _ rfl).1
  have c8 := (cells_at (i + 1) h hi1 8 _ rfl).1
  have C8 := Lib.hid (fun (w1 : World) (h1 : Own w0 w1 (storeA gs sb ms' :: l.set i (cellsA nb #[.int .i64 a, .int .i64 b, .int .i64 c, .int .i64 d, .int .i64 id, .int .i64 se, .int .i64 iter, .int .i64 2, .bool true, .bool true] 101))) => (cells_at (i + 1) h1 (by rw [List.getElem?_cons_succ, List.getElem?_set_self (List.getElem?_eq_some_iff.1 hi).1]) 8 _ rfl).1)
  clear hi hi1 ok hat hl htk hx h hm
  go_enter Try.func28, Try.ntmps28
  go_wp2_with (first | (go_at_call 66; refine R.out.mono ?_; rintro e w2 ⟨rfl, h3⟩; have e8 := C8.out _ h3))
  go_ret
  exact ⟨rfl, h3⟩
theorem nap_step2_no {w0 w : World} {l : List Ast} {gs sb nb : Nat} {ms : List Int} {a b c d : Int} (id se iter : Int) (ok : okPlan a b c d = true) {wo : Bool} (i : Nat) (h : Own w0 w (storeA gs sb ms :: l)) (hi : l[i]? = some (cellsA nb #[.int .i64 a, .int .i64 b, .int .i64 c, .int .i64 d, .int .i64 id, .int .i64 se, .int .i64 iter, .int .i64 2, .bool false, .bool wo] 101)) {at0 : Nat} (hat : frameV a b c d id + 1 = (at0 : Int)) (hl : at0 < ms.length) (tk : Int) (htk : tokV se iter 0 = tk) (hx : ms.getD at0 0 ≠ tk) :
    Calls Try.prog 28 #[.pointer (some ⟨nb, 0, none⟩), .pointer (some ⟨gs, 0, none⟩)] w fun e w' => e = .returned (.bool true) ∧ Own w0 w' (storeA gs sb ms :: l.set i (cellsA nb #[.int .i64 a, .int .i64 b, .int .i64 c, .int .i64 d, .int .i64 id, .int .i64 se, .int .i64 iter, .int .i64 2, .bool true, .bool false] 101)) := by
  have R := Lib.hid (nap_rouse_no id se iter ok i h hi hat hl tk htk hx)
  have hi1 : (storeA gs sb ms :: l)[i + 1]? = some (cellsA nb #[.int .i64 a, .int .i64 b, .int .i64 c, .int .i64 d, .int .i64 id, .int .i64 se, .int .i64 iter, .int .i64 2, .bool false, .bool wo] 101) := hi
  have c7 := (cells_at (i + 1) h hi1 7 _ rfl).1
  have c8 := (cells_at (i + 1) h hi1 8 _ rfl).1
  have C8 := Lib.hid (fun (w1 : World) (h1 : Own w0 w1 (storeA gs sb ms :: l.set i (cellsA nb #[.int .i64 a, .int .i64 b, .int .i64 c, .int .i64 d, .int .i64 id, .int .i64 se, .int .i64 iter, .int .i64 2, .bool true, .bool false] 101))) => (cells_at (i + 1) h1 (by rw [List.getElem?_cons_succ, List.getElem?_set_self (List.getElem?_eq_some_iff.1 hi).1]) 8 _ rfl).1)
  clear hi hi1 ok hat hl htk hx h
  go_enter Try.func28, Try.ntmps28
  go_wp2_with (first | (go_at_call 66; refine R.out.mono ?_; rintro e w2 ⟨rfl, h3⟩; have e8 := C8.out _ h3))
  go_ret
  exact ⟨rfl, h3⟩
theorem wake_new {w0 w : World} {l : List Ast} (h : Own w0 w l) (a b c d id se iter : Int) (lk : Bool) : Calls Try.prog 27 #[.agg #[.int .i64 a, .int .i64 b, .int .i64 c, .int .i64 d, .int .i64 id, .int .i64 se], .int .i64 iter, .bool lk] w fun e w' => ∃ nb, e = .returned (.pointer (some ⟨nb, 0, none⟩)) ∧ Own w0 w' (l ++ [cellsA nb #[.int .i64 a, .int .i64 b, .int .i64 c, .int .i64 d, .int .i64 id, .int .i64 se, .int .i64 iter, .int .i64 0, .bool false, .bool false, .bool lk] 103]) := by
  have h1 := (h.box #[.int .i64 a, .int .i64 b, .int .i64 c, .int .i64 d, .int .i64 id, .int .i64 se] 32).box #[.int .i64 a, .int .i64 b, .int .i64 c, .int .i64 d, .int .i64 id, .int .i64 se, .int .i64 iter, .int .i64 0, .bool false, .bool false, .bool lk] 103
  rw [World.size_alloc] at h1
  have h2 := Lib.hid (h1.sub (l' := l ++ [cellsA (w.heap.size + 1) #[.int .i64 a, .int .i64 b, .int .i64 c, .int .i64 d, .int .i64 id, .int .i64 se, .int .i64 iter, .int .i64 0, .bool false, .bool false, .bool lk] 103]) (by rw [List.append_assoc]; exact List.Sublist.append (List.Sublist.refl _) (List.Sublist.cons _ (List.Sublist.refl _))))
  clear h h1
  go_enter Try.func27, Try.ntmps27
  go_wp2
  go_ret
  exact ⟨w.heap.size + 1, rfl, h2.out⟩
theorem wake_over {w0 w : World} {L : List Ast} {nb : Nat} {a b c d id se iter at_ : Int} {wo : Bool} {lk : Bool} (i : Nat) (h : Own w0 w L) (hi : L[i]? = some (cellsA nb #[.int .i64 a, .int .i64 b, .int .i64 c, .int .i64 d, .int .i64 id, .int .i64 se, .int .i64 iter, .int .i64 at_, .bool true, .bool wo, .bool lk] 103)) (v : Value) :
    Calls Try.prog 30 #[.pointer (some ⟨nb, 0, none⟩), v] w fun e w' => e = .returned (.bool true) ∧ w = w' := by
  have c8 := (cells_at i h hi 8 _ rfl).1
  clear h hi
  go_enter Try.func30, Try.ntmps30
  go_wp2
  go_ret
  exact ⟨rfl, rfl⟩
theorem wake_won {w0 w : World} {L : List Ast} {nb : Nat} {a b c d id se iter at_ : Int} {ov wo : Bool} {lk : Bool} (i : Nat) (h : Own w0 w L) (hi : L[i]? = some (cellsA nb #[.int .i64 a, .int .i64 b, .int .i64 c, .int .i64 d, .int .i64 id, .int .i64 se, .int .i64 iter, .int .i64 at_, .bool ov, .bool wo, .bool lk] 103)) :
    Calls Try.prog 31 #[.pointer (some ⟨nb, 0, none⟩)] w fun e w' => e = .returned (.bool wo) ∧ w = w' := by
  have c9 := (cells_at i h hi 9 _ rfl).1
  clear h hi
  go_enter Try.func31, Try.ntmps31
  go_wp2
  go_ret
  exact ⟨rfl, rfl⟩
theorem wake_step0 {w0 w : World} {l : List Ast} {gs sb nb : Nat} {ms : List Int} {a b c d : Int} (id se iter : Int) (ok : okPlan a b c d = true) {wo : Bool} {lk : Bool} (i : Nat) (h : Own w0 w (storeA gs sb ms :: l)) (hi : l[i]? = some (cellsA nb #[.int .i64 a, .int .i64 b, .int .i64 c, .int .i64 d, .int .i64 id, .int .i64 se, .int .i64 iter, .int .i64 0, .bool false, .bool wo, .bool lk] 103)) {at0 : Nat} (hat : wordV a b c d id iter 3 = (at0 : Int)) (hl : at0 < ms.length) (tk : Int) (htk : tokV se iter 0 = tk) (ms' : List Int) (hm : ms.set at0 tk = ms') (ov' : Bool) (hov : (!lk) = ov') :
    Calls Try.prog 30 #[.pointer (some ⟨nb, 0, none⟩), .pointer (some ⟨gs, 0, none⟩)] w fun e w' => e = .returned (.bool ov') ∧ Own w0 w' (storeA gs sb ms' :: l.set i (cellsA nb #[.int .i64 a, .int .i64 b, .int .i64 c, .int .i64 d, .int .i64 id, .int .i64 se, .int .i64 iter, .int .i64 1, .bool ov', .bool wo, .bool lk] 103)) := by
  have hi1 : ∀ m, (storeA gs sb m :: l)[i + 1]? = some (cellsA nb #[.int .i64 a, .int .i64 b, .int .i64 c, .int .i64 d, .int .i64 id, .int .i64 se, .int .i64 iter, .int .i64 0, .bool false, .bool wo, .bool lk] 103) := fun m => hi
  have R := Lib.hid (fun (w1 : World) (h1 : Own w0 w1 (storeA gs sb ms :: l)) => r_end h1 ok id se iter hat hl tk htk ms' hm)
  have C := Lib.hid (fun (w1 : World) (m : List Int) (h1 : Own w0 w1 (storeA gs sb m :: l)) => And.intro (wake_keep (i + 1) h1 (hi1 m)) (And.intro (cells_at (i + 1) h1 (hi1 m) 7 _ rfl).1 (cells_at (i + 1) h1 (hi1 m) 8 _ rfl).1))
  have NX := Lib.hid (fun (w1 : World) (h1 : Own w0 w1 (storeA gs sb ms' :: l)) => show Calls Try.prog 65 #[.pointer (some ⟨nb, 0, none⟩), .bool lk] w1 fun e w' => e = .returned (.tuple #[]) ∧ Own w0 w' (storeA gs sb ms' :: l.set i (cellsA nb #[.int .i64 a, .int .i64 b, .int .i64 c, .int .i64 d, .int .i64 id, .int .i64 se, .int .i64 iter, .int .i64 1, .bool ov', .bool wo, .bool lk] 103)) from wake_next (i + 1) h1 (hi1 ms') (by omega) lk ov' hov)
  have C8 := Lib.hid (fun (w1 : World) (h1 : Own w0 w1 (storeA gs sb ms' :: l.set i (cellsA nb #[.int .i64 a, .int .i64 b, .int .i64 c, .int .i64 d, .int .i64 id, .int .i64 se, .int .i64 iter, .int .i64 1, .bool ov', .bool wo, .bool lk] 103))) => (cells_at (i + 1) h1 (by rw [List.getElem?_cons_succ, List.getElem?_set_self (List.getElem?_eq_some_iff.1 hi).1]) 8 _ rfl).1)
  have C9 := Lib.hid (fun (w1 : World) (h1 : Own w0 w1 (storeA gs sb ms' :: l.set i (cellsA nb #[.int .i64 a, .int .i64 b, .int .i64 c, .int .i64 d, .int .i64 id, .int .i64 se, .int .i64 iter, .int .i64 1, .bool ov', .bool wo, .bool lk] 103))) => wake_keep (i + 1) h1 (by rw [List.getElem?_cons_succ, List.getElem?_set_self (List.getElem?_eq_some_iff.1 hi).1]))
  have hB1 := h.drewN 1
  obtain ⟨_, c7, c8⟩ := C.out _ _ h
  obtain ⟨hS0', _⟩ := C.out _ _ hB1
  have hS0 : (fun w' : World => w'.cell? ⟨nb, 0, none⟩ = some (.int .i64 a) ∧ w'.cell? ⟨nb, 1, none⟩ = some (.int .i64 b) ∧ w'.cell? ⟨nb, 2, none⟩ = some (.int .i64 c) ∧ w'.cell? ⟨nb, 3, none⟩ = some (.int .i64 d) ∧ w'.cell? ⟨nb, 4, none⟩ = some (.int .i64 id) ∧ w'.cell? ⟨nb, 5, none⟩ = some (.int .i64 se) ∧ w'.cell? ⟨nb, 6, none⟩ = some (.int .i64 iter) ∧ w'.cell? ⟨nb, 10, none⟩ = some (.bool lk)) w.drew := hS0'
  clear hi hi1 ok hat hl htk hm h hS0' hov
  go_enter Try.func30, Try.ntmps30
  go_wp2_with fail
  refine lin_start (S := (fun w' : World => w'.cell? ⟨nb, 0, none⟩ = some (.int .i64 a) ∧ w'.cell? ⟨nb, 1, none⟩ = some (.int .i64 b) ∧ w'.cell? ⟨nb, 2, none⟩ = some (.int .i64 c) ∧ w'.cell? ⟨nb, 3, none⟩ = some (.int .i64 d) ∧ w'.cell? ⟨nb, 4, none⟩ = some (.int .i64 id) ∧ w'.cell? ⟨nb, 5, none⟩ = some (.int .i64 se) ∧ w'.cell? ⟨nb, 6, none⟩ = some (.int .i64 iter) ∧ w'.cell? ⟨nb, 10, none⟩ = some (.bool lk))) rfl 12 rfl hS0 ?_
  simp only [numbered, Nat.zero_add, Nat.reduceAdd]
  refine lin_take (v := ?_) (by kernel_rfl) (by kernel_rfl) (fun _ _ _ h => h) (Or.inl ⟨by rfl, ?_⟩) (by assumption) ?_; (rotate_left; (intro wS hSw; (try dsimp only at hSw); go_simp; (try with_reducible rfl)); rotate_left); simp only [Act.put, List.setIfInBounds_toArray, List.set_cons_zero, List.set_cons_succ]
  refine lin_take (v := ?_) (by kernel_rfl) (by kernel_rfl) (fun _ _ _ h => h) (Or.inl ⟨by rfl, ?_⟩) (by assumption) ?_; (rotate_left; (intro wS hSw; (try dsimp only at hSw); go_simp; (try with_reducible rfl)); rotate_left); simp only [Act.put, List.setIfInBounds_toArray, List.set_cons_zero, List.set_cons_succ]
  refine lin_take (v := ?_) (by kernel_rfl) (by kernel_rfl) (fun _ _ _ h => h) (Or.inl ⟨by rfl, ?_⟩) (by assumption) ?_; (rotate_left; (intro wS hSw; (try dsimp only at hSw); go_simp; (try with_reducible rfl)); rotate_left); simp only [Act.put, List.setIfInBounds_toArray, List.set_cons_zero, List.set_cons_succ]
  refine lin_take (v := ?_) (by kernel_rfl) (by kernel_rfl) (fun _ _ _ h => h) (Or.inl ⟨by rfl, ?_⟩) (by assumption) ?_; (rotate_left; (intro wS hSw; (try dsimp only at hSw); go_simp; (try with_reducible rfl)); rotate_left); simp only [Act.put, List.setIfInBounds_toArray, List.set_cons_zero, List.set_cons_succ]
  refine lin_take (v := ?_) (by kernel_rfl) (by kernel_rfl) (fun _ _ _ h => h) (Or.inl ⟨by rfl, ?_⟩) (by assumption) ?_; (rotate_left; (intro wS hSw; (try dsimp only at hSw); go_simp; (try with_reducible rfl)); rotate_left); simp only [Act.put, List.setIfInBounds_toArray, List.set_cons_zero, List.set_cons_succ]
  refine lin_take (v := ?_) (by kernel_rfl) (by kernel_rfl) (fun _ _ _ h => h) (Or.inl ⟨by rfl, ?_⟩) (by assumption) ?_; (rotate_left; (intro wS hSw; (try dsimp only at hSw); go_simp; (try with_reducible rfl)); rotate_left); simp only [Act.put, List.setIfInBounds_toArray, List.set_cons_zero, List.set_cons_succ]
  refine lin_take (v := ?_) (by kernel_rfl) (by kernel_rfl) (fun _ _ _ h => h) (Or.inl ⟨by rfl, ?_⟩) (by assumption) ?_; (rotate_left; (intro wS hSw; (try dsimp only at hSw); go_simp; (try with_reducible rfl)); rotate_left); simp only [Act.put, List.setIfInBounds_toArray, List.set_cons_zero, List.set_cons_succ]
  refine lin_take (v := ?_) (by kernel_rfl) (by kernel_rfl) (fun _ _ _ h => h) (Or.inl ⟨by rfl, ?_⟩) (by assumption) ?_; (rotate_left; (intro wS hSw; (try dsimp only at hSw); go_simp; (try with_reducible rfl)); rotate_left); simp only [Act.put, List.setIfInBounds_toArray, List.set_cons_zero, List.set_cons_succ]
  refine lin_take (v := ?_) (by kernel_rfl) (by kernel_rfl) (fun _ _ _ h => h) (Or.inl ⟨by rfl, ?_⟩) (by assumption) ?_; (rotate_left; (intro wS hSw; (try dsimp only at hSw); go_simp; (try with_reducible rfl)); rotate_left); simp only [Act.put, List.setIfInBounds_toArray, List.set_cons_zero, List.set_cons_succ]
  refine lin_take (v := ?_) (by kernel_rfl) (by kernel_rfl) (fun _ _ _ h => h) (Or.inl ⟨by rfl, ?_⟩) (by assumption) ?_; (rotate_left; (intro wS hSw; (try dsimp only at hSw); go_simp; (try with_reducible rfl)); rotate_left); simp only [Act.put, List.setIfInBounds_toArray, List.set_cons_zero, List.set_cons_succ]
  refine lin_take (v := ?_) (by kernel_rfl) (by kernel_rfl) (fun _ _ _ h => h) (Or.inl ⟨by rfl, ?_⟩) (by assumption) ?_; (rotate_left; (intro wS hSw; (try dsimp only at hSw); go_simp; (try with_reducible rfl)); rotate_left); simp only [Act.put, List.setIfInBounds_toArray, List.set_cons_zero, List.set_cons_succ]
  refine lin_sole (by kernel_rfl) (fun K hK => ?_)
  go_simp
  refine (R.out _ hB1).mono ?_
  rintro e w1 ⟨rfl, h1⟩
  obtain ⟨hS1, d7, d8⟩ := C.out _ _ h1
  refine hK.out _ _ ?_ (fun hHeld => ?_)
  · exact hS1
  try simp only [Act.put, List.setIfInBounds_toArray, List.set_cons_zero, List.set_cons_succ]
  refine lin_done (by kernel_rfl) ?_
  clear hHeld hS0 c7 c8 hB1
  have h2 := h1.drewN 1
  obtain ⟨hS2', _⟩ := C.out _ _ h2
  have hS2 : (fun w' : World => w'.cell? ⟨nb, 0, none⟩ = some (.int .i64 a) ∧ w'.cell? ⟨nb, 1, none⟩ = some (.int .i64 b) ∧ w'.cell? ⟨nb, 2, none⟩ = some (.int .i64 c) ∧ w'.cell? ⟨nb, 3, none⟩ = some (.int .i64 d) ∧ w'.cell? ⟨nb, 4, none⟩ = some (.int .i64 id) ∧ w'.cell? ⟨nb, 5, none⟩ = some (.int .i64 se) ∧ w'.cell? ⟨nb, 6, none⟩ = some (.int .i64 iter) ∧ w'.cell? ⟨nb, 10, none⟩ = some (.bool lk)) w1.drew := hS2'
  clear hS2'
  go_wp2_with fail
  refine lin_start (S := (fun w' : World => w'.cell? ⟨nb, 0, none⟩ = some (.int .i64 a) ∧ w'.cell? ⟨nb, 1, none⟩ = some (.int .i64 b) ∧ w'.cell? ⟨nb, 2, none⟩ = some (.int .i64 c) ∧ w'.cell? ⟨nb, 3, none⟩ = some (.int .i64 d) ∧ w'.cell? ⟨nb, 4, none⟩ = some (.int .i64 id) ∧ w'.cell? ⟨nb, 5, none⟩ = some (.int .i64 se) ∧ w'.cell? ⟨nb, 6, none⟩ = some (.int .i64 iter) ∧ w'.cell? ⟨nb, 10, none⟩ = some (.bool lk))) rfl 8 rfl hS2 ?_
  simp only [numbered, Nat.zero_add, Nat.reduceAdd]
  refine lin_take (v := ?_) (by kernel_rfl) (by kernel_rfl) (fun _ _ _ h => h) (Or.inl ⟨by rfl, ?_⟩) (by assumption) ?_; (rotate_left; (intro wS hSw; (try dsimp only at hSw); go_simp; (try with_reducible rfl)); rotate_left); simp only [Act.put, List.setIfInBounds_toArray, List.set_cons_zero, List.set_cons_succ]
  refine lin_take (v := ?_) (by kernel_rfl) (by kernel_rfl) (fun _ _ _ h => h) (Or.inl ⟨by rfl, ?_⟩) (by assumption) ?_; (rotate_left; (intro wS hSw; (try dsimp only at hSw); go_simp; (try with_reducible rfl)); rotate_left); simp only [Act.put, List.setIfInBounds_toArray, List.set_cons_zero, List.set_cons_succ]
  refine lin_take (v := ?_) (by kernel_rfl) (by kernel_rfl) (fun _ _ _ h => h) (Or.inl ⟨by rfl, ?_⟩) (by assumption) ?_; (rotate_left; (intro wS hSw; (try dsimp only at hSw); go_simp; (try with_reducible rfl)); rotate_left); simp only [Act.put, List.setIfInBounds_toArray, List.set_cons_zero, List.set_cons_succ]
  refine lin_take (v := ?_) (by kernel_rfl) (by kernel_rfl) (fun _ _ _ h => h) (Or.inl ⟨by rfl, ?_⟩) (by assumption) ?_; (rotate_left; (intro wS hSw; (try dsimp only at hSw); go_simp; (try with_reducible rfl)); rotate_left); simp only [Act.put, List.setIfInBounds_toArray, List.set_cons_zero, List.set_cons_succ]
  refine lin_take (v := ?_) (by kernel_rfl) (by kernel_rfl) (fun _ _ _ h => h) (Or.inl ⟨by rfl, ?_⟩) (by assumption) ?_; (rotate_left; (intro wS hSw; (try dsimp only at hSw); go_simp; (try with_reducible rfl)); rotate_left); simp only [Act.put, List.setIfInBounds_toArray, List.set_cons_zero, List.set_cons_succ]
  refine lin_take (v := ?_) (by kernel_rfl) (by kernel_rfl) (fun _ _ _ h => h) (Or.inl ⟨by rfl, ?_⟩) (by assumption) ?_; (rotate_left; (intro wS hSw; (try dsimp only at hSw); go_simp; (try with_reducible rfl)); rotate_left); simp only [Act.put, List.setIfInBounds_toArray, List.set_cons_zero, List.set_cons_succ]
  refine lin_take (v := ?_) (by kernel_rfl) (by kernel_rfl) (fun _ _ _ h => h) (Or.inl ⟨by rfl, ?_⟩) (by assumption) ?_; (rotate_left; (intro wS hSw; (try dsimp only at hSw); go_simp; (try with_reducible rfl)); rotate_left); simp only [Act.put, List.setIfInBounds_toArray, List.set_cons_zero, List.set_cons_succ]
  refine lin_sole (by kernel_rfl) (fun K hK => ?_)
  go_simp
  refine (NX.out _ h2).mono ?_
  rintro e w2 ⟨rfl, h3⟩
  have e8 := C8.out _ h3
  have hS3 := C9.out _ h3
  refine hK.out _ _ ?_ (fun hHeld => ?_)
  · exact hS3
  try simp only [Act.put, List.setIfInBounds_toArray, List.set_cons_zero, List.set_cons_succ]
  refine lin_done (by kernel_rfl) ?_
  clear hHeld hS2 hS3 d7 d8
  go_wp2_with fail
  go_ret
  exact ⟨rfl, h3⟩
theorem wake_step1 {w0 w : World} {l : List Ast} {gs sb nb : Nat} {ms : List Int} {a b c d : Int} (id se iter : Int) (ok : okPlan a b c d = true) {wo : Bool} {lk : Bool} (i : Nat) (h : Own w0 w (storeA gs sb ms :: l)) (hi : l[i]? = some (cellsA nb #[.int .i64 a, .int .i64 b, .int .i64 c, .int .i64 d, .int .i64 id, .int .i64 se, .int .i64 iter, .int .i64 1, .bool false, .bool wo, .bool lk] 103)) {at0 : Nat} (hat : frameV a b c d id + 1 = (at0 : Int)) (hl : at0 < ms.length) (tk x : Int) (htk : tokV se iter 0 = tk) (hx : ms.getD at0 0 = x) (t ov' : Bool) (ht : (x == tk) = t) (hov : (!t) = ov') :
    Calls Try.prog 30 #[.pointer (some ⟨nb, 0, none⟩), .pointer (some ⟨gs, 0, none⟩)] w fun e w' => e = .returned (.bool ov') ∧ Own w0 w' (storeA gs sb ms :: l.set i (cellsA nb #[.int .i64 a, .int .i64 b, .int .i64 c, .int .i64 d, .int .i64 id, .int .i64 se, .int .i64 iter, .int .i64 2, .bool ov', .bool wo, .bool lk] 103)) := by
  have hi1 : ∀ m, (storeA gs sb m :: l)[i + 1]? = some (cellsA nb #[.int .i64 a, .int .i64 b, .int .i64 c, .int .i64 d, .int .i64 id, .int .i64 se, .int .i64 iter, .int .i64 1, .bool false, .bool wo, .bool lk] 103) := fun m => hi
  have R := Lib.hid (fun (w1 : World) (h1 : Own w0 w1 (storeA gs sb ms :: l)) => r_sleeps h1 ok id se iter hat hl tk x htk hx t ht)
  have C := Lib.hid (fun (w1 : World) (m : List Int) (h1 : Own w0 w1 (storeA gs sb m :: l)) => And.intro (wake_keep (i + 1) h1 (hi1 m)) (And.intro (cells_at (i + 1) h1 (hi1 m) 7 _ rfl).1 (cells_at (i + 1) h1 (hi1 m) 8 _ rfl).1))
  have NX := Lib.hid (fun (w1 : World) (h1 : Own w0 w1 (storeA gs sb ms :: l)) => show Calls Try.prog 65 #[.pointer (some ⟨nb, 0, none⟩), .bool t] w1 fun e w' => e = .returned (.tuple #[]) ∧ Own w0 w' (storeA gs sb ms :: l.set i (cellsA nb #[.int .i64 a, .int .i64 b, .int .i64 c, .int .i64 d, .int .i64 id, .int .i64 se, .int .i64 iter, .int .i64 2, .bool ov', .bool wo, .bool lk] 103)) from wake_next (i + 1) h1 (hi1 ms) (by omega) t ov' hov)
  have C8 := Lib.hid (fun (w1 : World) (h1 : Own w0 w1 (storeA gs sb ms :: l.set i (cellsA nb #[.int .i64 a, .int .i64 b, .int .i64 c, .int .i64 d, .int .i64 id, .int .i64 se, .int .i64 iter, .int .i64 2, .bool ov', .bool wo, .bool lk] 103))) => And.intro (wake_keep (i + 1) h1 (by rw [List.getElem?_cons_succ, List.getElem?_set_self (List.getElem?_eq_some_iff.1 hi).1])) (cells_at (i + 1) h1 (by rw [List.getElem?_cons_succ, List.getElem?_set_self (List.getElem?_eq_some_iff.1 hi).1]) 8 _ rfl).1)
  have hB1 := h.drewN 1
  obtain ⟨_, c7, c8⟩ := C.out _ _ h
  obtain ⟨hS0', _⟩ := C.out _ _ hB1
  have hS0 : (fun w' : World => w'.cell? ⟨nb, 0, none⟩ = some (.int .i64 a) ∧ w'.cell? ⟨nb, 1, none⟩ = some (.int .i64 b) ∧ w'.cell? ⟨nb, 2, none⟩ = some (.int .i64 c) ∧ w'.cell? ⟨nb, 3, none⟩ = some (.int .i64 d) ∧ w'.cell? ⟨nb, 4, none⟩ = some (.int .i64 id) ∧ w'.cell? ⟨nb, 5, none⟩ = some (.int .i64 se) ∧ w'.cell? ⟨nb, 6, none⟩ = some (.int .i64 iter) ∧ w'.cell? ⟨nb, 10, none⟩ = some (.bool lk)) w.drew := hS0'
  clear hi hi1 ok hat hl htk hx ht hov h hS0'
  go_enter Try.func30, Try.ntmps30
  go_wp2_with fail
  refine lin_start (S := (fun w' : World => w'.cell? ⟨nb, 0, none⟩ = some (.int .i64 a) ∧ w'.cell? ⟨nb, 1, none⟩ = some (.int .i64 b) ∧ w'.cell? ⟨nb, 2, none⟩ = some (.int .i64 c) ∧ w'.cell? ⟨nb, 3, none⟩ = some (.int .i64 d) ∧ w'.cell? ⟨nb, 4, none⟩ = some (.int .i64 id) ∧ w'.cell? ⟨nb, 5, none⟩ = some (.int .i64 se) ∧ w'.cell? ⟨nb, 6, none⟩ = some (.int .i64 iter) ∧ w'.cell? ⟨nb, 10, none⟩ = some (.bool lk))) rfl 16 rfl hS0 ?_
  simp only [numbered, Nat.zero_add, Nat.reduceAdd]
  refine lin_take (v := ?_) (by kernel_rfl) (by kernel_rfl) (fun _ _ _ h => h) (Or.inl ⟨by rfl, ?_⟩) (by assumption) ?_; (rotate_left; (intro wS hSw; (try dsimp only at hSw); go_simp; (try with_reducible rfl)); rotate_left); simp only [Act.put, List.setIfInBounds_toArray, List.set_cons_zero, List.set_cons_succ]
  refine lin_take (v := ?_) (by kernel_rfl) (by kernel_rfl) (fun _ _ _ h => h) (Or.inl ⟨by rfl, ?_⟩) (by assumption) ?_; (rotate_left; (intro wS hSw; (try dsimp only at hSw); go_simp; (try with_reducible rfl)); rotate_left); simp only [Act.put, List.setIfInBounds_toArray, List.set_cons_zero, List.set_cons_succ]
  refine lin_take (v := ?_) (by kernel_rfl) (by kernel_rfl) (fun _ _ _ h => h) (Or.inl ⟨by rfl, ?_⟩) (by assumption) ?_; (rotate_left; (intro wS hSw; (try dsimp only at hSw); go_simp; (try with_reducible rfl)); rotate_left); simp only [Act.put, List.setIfInBounds_toArray, List.set_cons_zero, List.set_cons_succ]
  refine lin_take (v := ?_) (by kernel_rfl) (by kernel_rfl) (fun _ _ _ h => h) (Or.inl ⟨by rfl, ?_⟩) (by assumption) ?_; (rotate_left; (intro wS hSw; (try dsimp only at hSw); go_simp; (try with_reducible rfl)); rotate_left); simp only [Act.put, List.setIfInBounds_toArray, List.set_cons_zero, List.set_cons_succ]
  refine lin_take (v := ?_) (by kernel_rfl) (by kernel_rfl) (fun _ _ _ h => h) (Or.inl ⟨by rfl, ?_⟩) (by assumption) ?_; (rotate_left; (intro wS hSw; (try dsimp only at hSw); go_simp; (try with_reducible rfl)); rotate_left); simp only [Act.put, List.setIfInBounds_toArray, List.set_cons_zero, List.set_cons_succ]
  refine lin_take (v := ?_) (by kernel_rfl) (by kernel_rfl) (fun _ _ _ h => h) (Or.inl ⟨by rfl, ?_⟩) (by assumption) ?_; (rotate_left; (intro wS hSw; (try dsimp only at hSw); go_simp; (try with_reducible rfl)); rotate_left); simp only [Act.put, List.setIfInBounds_toArray, List.set_cons_zero, List.set_cons_succ]
  refine lin_take (v := ?_) (by kernel_rfl) (by kernel_rfl) (fun _ _ _ h => h) (Or.inl ⟨by rfl, ?_⟩) (by assumption) ?_; (rotate_left; (intro wS hSw; (try dsimp only at hSw); go_simp; (try with_reducible rfl)); rotate_left); simp only [Act.put, List.setIfInBounds_toArray, List.set_cons_zero, List.set_cons_succ]
  refine lin_take (v := ?_) (by kernel_rfl) (by kernel_rfl) (fun _ _ _ h => h) (Or.inl ⟨by rfl, ?_⟩) (by assumption) ?_; (rotate_left; (intro wS hSw; (try dsimp only at hSw); go_simp; (try with_reducible rfl)); rotate_left); simp only [Act.put, List.setIfInBounds_toArray, List.set_cons_zero, List.set_cons_succ]
  refine lin_take (v := ?_) (by kernel_rfl) (by kernel_rfl) (fun _ _ _ h => h) (Or.inl ⟨by rfl, ?_⟩) (by assumption) ?_; (rotate_left; (intro wS hSw; (try dsimp only at hSw); go_simp; (try with_reducible rfl)); rotate_left); simp only [Act.put, List.setIfInBounds_toArray, List.set_cons_zero, List.set_cons_succ]
  refine lin_take (v := ?_) (by kernel_rfl) (by kernel_rfl) (fun _ _ _ h => h) (Or.inl ⟨by rfl, ?_⟩) (by assumption) ?_; (rotate_left; (intro wS hSw; (try dsimp only at hSw); go_simp; (try with_reducible rfl)); rotate_left); simp only [Act.put, List.setIfInBounds_toArray, List.set_cons_zero, List.set_cons_succ]
  refine lin_take (v := ?_) (by kernel_rfl) (by kernel_rfl) (fun _ _ _ h => h) (Or.inl ⟨by rfl, ?_⟩) (by assumption) ?_; (rotate_left; (intro wS hSw; (try dsimp only at hSw); go_simp; (try with_reducible rfl)); rotate_left); simp only [Act.put, List.setIfInBounds_toArray, List.set_cons_zero, List.set_cons_succ]
  refine lin_take (v := ?_) (by kernel_rfl) (by kernel_rfl) (fun _ _ _ h => h) (Or.inl ⟨by rfl, ?_⟩) (by assumption) ?_; (rotate_left; (intro wS hSw; (try dsimp only at hSw); go_simp; (try with_reducible rfl)); rotate_left); simp only [Act.put, List.setIfInBounds_toArray, List.set_cons_zero, List.set_cons_succ]
  refine lin_take (v := ?_) (by kernel_rfl) (by kernel_rfl) (fun _ _ _ h => h) (Or.inl ⟨by rfl, ?_⟩) (by assumption) ?_; (rotate_left; (intro wS hSw; (try dsimp only at hSw); go_simp; (try with_reducible rfl)); rotate_left); simp only [Act.put, List.setIfInBounds_toArray, List.set_cons_zero, List.set_cons_succ]
  refine lin_take (v := ?_) (by kernel_rfl) (by kernel_rfl) (fun _ _ _ h => h) (Or.inl ⟨by rfl, ?_⟩) (by assumption) ?_; (rotate_left; (intro wS hSw; (try dsimp only at hSw); go_simp; (try with_reducible rfl)); rotate_left); simp only [Act.put, List.setIfInBounds_toArray, List.set_cons_zero, List.set_cons_succ]
  refine lin_sole (by kernel_rfl) (fun K hK => ?_)
  go_simp
  refine (R.out _ hB1).mono ?_
  rintro e w1 ⟨rfl, h1⟩
  obtain ⟨hS1, d7, d8⟩ := C.out _ _ h1
  refine hK.out _ _ ?_ (fun hHeld => ?_)
  · exact hS1
  try simp only [Act.put, List.setIfInBounds_toArray, List.set_cons_zero, List.set_cons_succ]
  refine lin_sole (by kernel_rfl) (fun K hK => ?_)
  go_simp
  refine (NX.out _ h1).mono ?_
  rintro e w2 ⟨rfl, h3⟩
  obtain ⟨hS3, e8⟩ := C8.out _ h3
  refine hK.out _ _ ?_ (fun hHeld => ?_)
  · exact hS3
  try simp only [Act.put, List.setIfInBounds_toArray, List.set_cons_zero, List.set_cons_succ]
  refine lin_done (by kernel_rfl) ?_
  clear hHeld hS0 c7 c8 hB1 d7 d8 hS1 hS3
  go_wp2_with fail
  go_ret
  exact ⟨rfl, h3⟩
theorem wake_step2_yes {w0 w : World} {l : List Ast} {gs sb nb : Nat} {ms : List Int} {a b c d : Int} (id se iter : Int) (ok : okPlan a b c d = true) {wo : Bool} {lk : Bool} (i : Nat) (h : Own w0 w (storeA gs sb ms :: l)) (hi : l[i]? = some (cellsA nb #[.int .i64 a, .int .i64 b, .int .i64 c, .int .i64 d, .int .i64 id, .int .i64 se, .int .i64 iter, .int .i64 2, .bool false, .bool wo, .bool lk] 103)) {at0 : Nat} (hat : frameV a b c d id + 1 = (at0 : Int)) (hl : at0 < ms.length) (tk : Int) (htk : tokV se iter 0 = tk) (hx : ms.getD at0 0 = tk) (ms' : List Int) (hm : ms.set at0 0 = ms') :
    Calls Try.prog 30 #[.pointer (some ⟨nb, 0, none⟩), .pointer (some ⟨gs, 0, none⟩)] w fun e w' => e = .returned (.bool true) ∧ Own w0 w' (storeA gs sb ms' :: l.set i (cellsA nb #[.int .i64 a, .int .i64 b, .int .i64 c, .int .i64 d, .int .i64 id, .int .i64 se, .int .i64 iter, .int .i64 2, .bool true, .bool true, .bool lk] 103)) := by
  have R := Lib.hid (wake_rouse_yes id se iter ok i h hi hat hl tk htk hx ms' hm)
  have hi1 : (storeA gs sb ms :: l)[i + 1]? = some (cellsA nb #[.int .i64 a, .int .i64 b, .int .i64 c, .int .i64 d, .int .i64 id, .int .i64 se, .int .i64 iter, .int .i64 2, .bool false, .bool wo, .bool lk] 103) := hi
  have c7 := (cells_at (i + 1) h hi1 7 _ rfl).1
  have c8 := (cells_at (i + 1) h hi1 8 _ rfl).1
  have C8 := Lib.hid (fun (w1 : World) (h1 : Own w0 w1 (storeA gs sb ms' :: l.set i (cellsA nb #[.int .i64 a, .int .i64 b, .int .i64 c, .int .i64 d, .int .i64 id, .int .i64 se, .int .i64 iter, .int .i64 2, .bool true, .bool true, .bool lk] 103))) => (cells_at (i + 1) h1 (by rw [List.getElem?_cons_succ, List.getElem?_set_self (List.getElem?_eq_some_iff.1 hi).1]) 8 _ rfl).1)
  clear hi hi1 ok hat hl htk hx h hm
  go_enter Try.func30, Try.ntmps30
  go_wp2_with (first | (go_at_call 66; refine R.out.mono ?_; rintro e w2 ⟨rfl, h3⟩; have e8 := C8.out _ h3))
  go_ret
  exact ⟨rfl, h3⟩
theorem wake_step2_no {w0 w : World} {l : List Ast} {gs sb nb : Nat} {ms : List Int} {a b c d : Int} (id se iter : Int) (ok : okPlan a b c d = true) {wo : Bool} {lk : Bool} (i : Nat) (h : Own w0 w (storeA gs sb ms :: l)) (hi : l[i]? = some (cellsA nb #[.int .i64 a, .int .i64 b, .int .i64 c, .int .i64 d, .int .i64 id, .int .i64 se, .int .i64 iter, .int .i64 2, .bool false, .bool wo, .bool lk] 103)) {at0 : Nat} (hat : frameV a b c d id + 1 = (at0 : Int)) (hl : at0 < ms.length) (tk : Int) (htk : tokV se iter 0 = tk) (hx : ms.getD at0 0 ≠ tk) :
    Calls Try.prog 30 #[.pointer (some ⟨nb, 0, none⟩), .pointer (some ⟨gs, 0, none⟩)] w fun e w' => e = .returned (.bool true) ∧ Own w0 w' (storeA gs sb ms :: l.set i (cellsA nb #[.int .i64 a, .int .i64 b, .int .i64 c, .int .i64 d, .int .i64 id, .int .i64 se, .int .i64 iter, .int .i64 2, .bool true, .bool false, .bool lk] 103)) := by
  have R := Lib.hid (wake_rouse_no id se iter ok i h hi hat hl tk htk hx)
  have hi1 : (storeA gs sb ms :: l)[i + 1]? = some (cellsA nb #[.int .i64 a, .int .i64 b, .int .i64 c, .int .i64 d, .int .i64 id, .int .i64 se, .int .i64 iter, .int .i64 2, .bool false, .bool wo, .bool lk] 103) := hi
  have c7 := (cells_at (i + 1) h hi1 7 _ rfl).1
  have c8 := (cells_at (i + 1) h hi1 8 _ rfl).1
  have C8 := Lib.hid (fun (w1 : World) (h1 : Own w0 w1 (storeA gs sb ms :: l.set i (cellsA nb #[.int .i64 a, .int .i64 b, .int .i64 c, .int .i64 d, .int .i64 id, .int .i64 se, .int .i64 iter, .int .i64 2, .bool true, .bool false, .bool lk] 103))) => (cells_at (i + 1) h1 (by rw [List.getElem?_cons_succ, List.getElem?_set_self (List.getElem?_eq_some_iff.1 hi).1]) 8 _ rfl).1)
  clear hi hi1 ok hat hl htk hx h
  go_enter Try.func30, Try.ntmps30
  go_wp2_with (first | (go_at_call 66; refine R.out.mono ?_; rintro e w2 ⟨rfl, h3⟩; have e8 := C8.out _ h3))
  go_ret
  exact ⟨rfl, h3⟩
end Go.Proofs.Ytooofpplhedgcaa
