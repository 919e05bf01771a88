/- Package cross: how an iteration waits for the one ahead. -/
import Derived.Test.YtooofpplhedgcaaRingMayWalk
import Derived.Test.YtooofpplhedgcaaThrottle
set_option linter.unusedVariables false
set_option linter.unusedSimpArgs false
namespace Go.Proofs.Ytooofpplhedgcaa
open Go.RowKit
set_option maxRecDepth 100000
set_option maxHeartbeats 8000000
theorem goes_any (m : Bool) (n nx : Int) (h : (if m = true then n else 3) = nx) (w : World) : Calls Try.prog 72 #[.bool m, .int .i64 n] w fun e w' => e = .returned (.int .i64 nx) ∧ w = w' := by
  subst h
  cases m
  all_goals
    go_enter Try.func72, Try.ntmps72
    go_wp2
    go_ret
    exact ⟨rfl, rfl⟩
theorem right_keep {w0 w : World} {L : List Ast} {nb : Nat} {a b c d id se iter counter st nx fr : Int} {gt : Bool} (i : Nat) (h : Own w0 w L) (hi : L[i]? = some (cellsA nb #[.int .i64 a, .int .i64 b, .int .i64 c, .int .i64 d, .int .i64 id, .int .i64 se, .int .i64 iter, .int .i64 counter, .int .i64 st, .int .i64 nx, .int .i64 fr, .bool gt] 107)) :
    (fun w' : World => w'.cell? ⟨nb, 0, none⟩ = some (.int .i64 a) ∧ w'.cell? ⟨nb, 1, none⟩ = some (.int .i64 b) ∧ w'.cell? ⟨nb, 2, none⟩ = some (.int .i64 c) ∧ w'.cell? ⟨nb, 3, none⟩ = some (.int .i64 d) ∧ w'.cell? ⟨nb, 4, none⟩ = some (.int .i64 id) ∧ w'.cell? ⟨nb, 5, none⟩ = some (.int .i64 se) ∧ w'.cell? ⟨nb, 6, none⟩ = some (.int .i64 iter) ∧ w'.cell? ⟨nb, 7, none⟩ = some (.int .i64 counter) ∧ w'.cell? ⟨nb, 8, none⟩ = some (.int .i64 st)) w :=
  ⟨(h.cget i hi 0).1, (h.cget i hi 1).1, (h.cget i hi 2).1, (h.cget i hi 3).1, (h.cget i hi 4).1, (h.cget i hi 5).1, (h.cget i hi 6).1, (h.cget i hi 7).1, (h.cget i hi 8).1⟩
theorem park_keep {w0 w : World} {L : List Ast} {nb : Nat} {a b c d id se iter st nx : Int} {bk : Bool} (i : Nat) (h : Own w0 w L) (hi : L[i]? = some (cellsA nb #[.int .i64 a, .int .i64 b, .int .i64 c, .int .i64 d, .int .i64 id, .int .i64 se, .int .i64 iter, .int .i64 st, .int .i64 nx, .bool bk] 109)) :
    (fun w' : World => w'.cell? ⟨nb, 0, none⟩ = some (.int .i64 a) ∧ w'.cell? ⟨nb, 1, none⟩ = some (.int .i64 b) ∧ w'.cell? ⟨nb, 2, none⟩ = some (.int .i64 c) ∧ w'.cell? ⟨nb, 3, none⟩ = some (.int .i64 d) ∧ w'.cell? ⟨nb, 4, none⟩ = some (.int .i64 id) ∧ w'.cell? ⟨nb, 5, none⟩ = some (.int .i64 se) ∧ w'.cell? ⟨nb, 6, none⟩ = some (.int .i64 iter) ∧ w'.cell? ⟨nb, 7, none⟩ = some (.int .i64 st)) w :=
  ⟨(h.cget i hi 0).1, (h.cget i hi 1).1, (h.cget i hi 2).1, (h.cget i hi 3).1, (h.cget i hi 4).1, (h.cget i hi 5).1, (h.cget i hi 6).1, (h.cget i hi 7).1⟩
theorem right_new {w0 w : World} {l : List Ast} (h : Own w0 w l) (a b c d id se it iter counter : Int) (hw : wrap64 (it + 1) = iter) : Calls Try.prog 38 #[.agg #[.int .i64 a, .int .i64 b, .int .i64 c, .int .i64 d, .int .i64 id, .int .i64 se], .int .i64 it, .int .i64 counter] w fun e w' => ∃ nb, e = .returned (.pointer (some ⟨nb, 0, none⟩)) ∧ Own w0 w' (l ++ [cellsA nb #[.int .i64 a, .int .i64 b, .int .i64 c, .int .i64 d, .int .i64 id, .int .i64 se, .int .i64 iter, .int .i64 counter, .int .i64 0, .int .i64 0, .int .i64 0, .bool false] 107]) := by
  have h1 := (h.box #[.int .i64 a, .int .i64 b, .int .i64 c, .int .i64 d, .int .i64 id, .int .i64 se] 32).box #[.int .i64 a, .int .i64 b, .int .i64 c, .int .i64 d, .int .i64 id, .int .i64 se, .int .i64 iter, .int .i64 counter, .int .i64 0, .int .i64 0, .int .i64 0, .bool false] 107
  rw [World.size_alloc] at h1
  have h2 := Lib.hid (h1.sub (l' := l ++ [cellsA (w.heap.size + 1) #[.int .i64 a, .int .i64 b, .int .i64 c, .int .i64 d, .int .i64 id, .int .i64 se, .int .i64 iter, .int .i64 counter, .int .i64 0, .int .i64 0, .int .i64 0, .bool false] 107]) (by rw [List.append_assoc]; exact List.Sublist.append (List.Sublist.refl _) (List.Sublist.cons _ (List.Sublist.refl _))))
  clear h h1
  go_enter Try.func38, Try.ntmps38
  go_wp2
  go_ret
  exact ⟨w.heap.size + 1, rfl, h2.out⟩
theorem park_new {w0 w : World} {l : List Ast} (h : Own w0 w l) (a b c d id se iter st : Int) : Calls Try.prog 39 #[.agg #[.int .i64 a, .int .i64 b, .int .i64 c, .int .i64 d, .int .i64 id, .int .i64 se], .int .i64 iter, .int .i64 st] w fun e w' => ∃ nb, e = .returned (.pointer (some ⟨nb, 0, none⟩)) ∧ Own w0 w' (l ++ [cellsA nb #[.int .i64 a, .int .i64 b, .int .i64 c, .int .i64 d, .int .i64 id, .int .i64 se, .int .i64 iter, .int .i64 st, .int .i64 0, .bool false] 109]) := by
  have h1 := (h.box #[.int .i64 a, .int .i64 b, .int .i64 c, .int .i64 d, .int .i64 id, .int .i64 se] 32).box #[.int .i64 a, .int .i64 b, .int .i64 c, .int .i64 d, .int .i64 id, .int .i64 se, .int .i64 iter, .int .i64 st, .int .i64 0, .bool false] 109
  rw [World.size_alloc] at h1
  have h2 := Lib.hid (h1.sub (l' := l ++ [cellsA (w.heap.size + 1) #[.int .i64 a, .int .i64 b, .int .i64 c, .int .i64 d, .int .i64 id, .int .i64 se, .int .i64 iter, .int .i64 st, .int .i64 0, .bool false] 109]) (by rw [List.append_assoc]; exact List.Sublist.append (List.Sublist.refl _) (List.Sublist.cons _ (List.Sublist.refl _))))
  clear h h1
  go_enter Try.func39, Try.ntmps39
  go_wp2
  go_ret
  exact ⟨w.heap.size + 1, rfl, h2.out⟩
theorem right_got {w0 w : World} {L : List Ast} {nb : Nat} {a b c d id se iter counter st nx fr : Int} {gt : Bool} (i : Nat) (h : Own w0 w L) (hi : L[i]? = some (cellsA nb #[.int .i64 a, .int .i64 b, .int .i64 c, .int .i64 d, .int .i64 id, .int .i64 se, .int .i64 iter, .int .i64 counter, .int .i64 st, .int .i64 nx, .int .i64 fr, .bool gt] 107)) :
    Calls Try.prog 45 #[.pointer (some ⟨nb, 0, none⟩)] w fun e w' => e = .returned (.tuple #[.int .i64 fr, .bool gt]) ∧ Own w0 w' L := by
  have c10 := (cells_at i h hi 10 (.int .i64 fr) rfl).1
  have c11 := (cells_at i h hi 11 (.bool gt) rfl).1
  have hB := Lib.hid (fun n => h.drewN n)
  clear h hi
  go_enter Try.func45, Try.ntmps45
  go_wp2_with fail
  go_quiet (fail)
  go_wp2
  go_ret2
  exact ⟨rfl, hB.out _⟩
theorem park_back {w0 w : World} {L : List Ast} {nb : Nat} {a b c d id se iter st nx : Int} {bk : Bool} (i : Nat) (h : Own w0 w L) (hi : L[i]? = some (cellsA nb #[.int .i64 a, .int .i64 b, .int .i64 c, .int .i64 d, .int .i64 id, .int .i64 se, .int .i64 iter, .int .i64 st, .int .i64 nx, .bool bk] 109)) :
    Calls Try.prog 47 #[.pointer (some ⟨nb, 0, none⟩)] w fun e w' => e = .returned (.bool bk) ∧ w = w' := by
  have c9 := (cells_at i h hi 9 _ rfl).1
  clear h hi
  go_enter Try.func47, Try.ntmps47
  go_wp2
  go_ret
  exact ⟨rfl, rfl⟩
theorem right_over {w0 w : World} {L : List Ast} {nb : Nat} {a b c d id se iter counter st fr : Int} {gt : Bool} (i : Nat) (h : Own w0 w L) (hi : L[i]? = some (cellsA nb #[.int .i64 a, .int .i64 b, .int .i64 c, .int .i64 d, .int .i64 id, .int .i64 se, .int .i64 iter, .int .i64 counter, .int .i64 st, .int .i64 3, .int .i64 fr, .bool gt] 107)) (v : Value) :
    Calls Try.prog 44 #[.pointer (some ⟨nb, 0, none⟩), v] w fun e w' => e = .returned (.bool true) ∧ w = w' := by
  have c9 := (cells_at i h hi 9 _ rfl).1
  clear h hi
  go_enter Try.func44, Try.ntmps44
  go_wp2
  go_ret
  exact ⟨rfl, rfl⟩
theorem park_over {w0 w : World} {L : List Ast} {nb : Nat} {a b c d id se iter st : Int} {bk : Bool} (i : Nat) (h : Own w0 w L) (hi : L[i]? = some (cellsA nb #[.int .i64 a, .int .i64 b, .int .i64 c, .int .i64 d, .int .i64 id, .int .i64 se, .int .i64 iter, .int .i64 st, .int .i64 3, .bool bk] 109)) (v : Value) :
    Calls Try.prog 46 #[.pointer (some ⟨nb, 0, none⟩), v] w fun e w' => e = .returned (.bool true) ∧ w = w' := by
  have c8 := (cells_at i h hi 8 _ rfl).1
  clear h hi
  go_enter Try.func46, Try.ntmps46
  go_wp2
  go_ret
  exact ⟨rfl, rfl⟩
theorem right_step0 {w0 w : World} {l : List Ast} {gs sb nb : Nat} {ms : List Int} {a b c d : Int} (id se iter : Int) {counter st fr : Int} {gt : Bool} (ok : okPlan a b c d = true) (i : Nat) (h : Own w0 w (storeA gs sb ms :: l)) (hi : l[i]? = some (cellsA nb #[.int .i64 a, .int .i64 b, .int .i64 c, .int .i64 d, .int .i64 id, .int .i64 se, .int .i64 iter, .int .i64 counter, .int .i64 st, .int .i64 0, .int .i64 fr, .bool gt] 107)) {at0 : Nat} (hat : wordV a b c d id iter 1 = (at0 : Int)) (hl : at0 < ms.length) (x : Int) (hx : ms.getD at0 0 = x) (m : Bool) (hm : (nextT x counter && (x == tokV se iter (wT x % 1048576))) = m) (v : Int) (hv : (if m = true then wT x % 1048576 else 0) = v) (nx : Int) (r : Bool) (hr : m = true ∧ nx = 1 ∧ r = false ∨ m = false ∧ nx = 3 ∧ r = true) :
    Calls Try.prog 44 #[.pointer (some ⟨nb, 0, none⟩), .pointer (some ⟨gs, 0, none⟩)] w fun e w' => e = .returned (.bool r) ∧ Own w0 w' (storeA gs sb ms :: l.set i (cellsA nb #[.int .i64 a, .int .i64 b, .int .i64 c, .int .i64 d, .int .i64 id, .int .i64 se, .int .i64 iter, .int .i64 counter, .int .i64 v, .int .i64 nx, .int .i64 fr, .bool gt] 107)) := by
  have hi1 : (storeA gs sb ms :: l)[i + 1]? = some (cellsA nb #[.int .i64 a, .int .i64 b, .int .i64 c, .int .i64 d, .int .i64 id, .int .i64 se, .int .i64 iter, .int .i64 counter, .int .i64 st, .int .i64 0, .int .i64 fr, .bool gt] 107) := hi
  have R := Lib.hid (fun (w1 : World) (h1 : Own w0 w1 (storeA gs sb ms :: l)) => r_waits h1 ok id se iter hat hl x hx)
  have My := Lib.hid (fun (w1 : World) (h1 : Own w0 w1 (storeA gs sb ms :: l)) => Own.lift (r_may a b c d id se x iter counter w1 m hm v hv) h1 _ rfl)
  have C := Lib.hid (fun (w1 : World) (h1 : Own w0 w1 (storeA gs sb ms :: l)) => And.intro (right_keep (i + 1) h1 hi1) (And.intro (cells_at (i + 1) h1 hi1 8 _ rfl) (cells_at (i + 1) h1 hi1 9 _ rfl)))
  have E := Lib.hid (fun (w1 : World) (h1 : Own w0 w1 (storeA gs sb ms :: l)) => show Own w0 ((w1.setCell ⟨nb, 8, none⟩ (.int .i64 v)).setCell ⟨nb, 9, none⟩ (.int .i64 nx)) (storeA gs sb ms :: l.set i (cellsA nb #[.int .i64 a, .int .i64 b, .int .i64 c, .int .i64 d, .int .i64 id, .int .i64 se, .int .i64 iter, .int .i64 counter, .int .i64 v, .int .i64 nx, .int .i64 fr, .bool gt] 107)) from
    ((h1.cset (i + 1) hi1 8 (.int .i64 v)).cset (i + 1) (by rw [List.getElem?_set_self (List.getElem?_eq_some_iff.1 hi1).1]) 9 (.int .i64 nx)).cast (by rw [List.set_set]; rfl))
  have hB1 := h.drewN 1
  obtain ⟨_, _, c9, _⟩ := C.out _ h
  obtain ⟨hS0', _⟩ := C.out _ hB1
  have hS0 : (fun w' : World => w'.cell? ⟨nb, 0, none⟩ = some (.int .i64 a) ∧ w'.cell? ⟨nb, 1, none⟩ = some (.int .i64 b) ∧ w'.cell? ⟨nb, 2, none⟩ = some (.int .i64 c) ∧ w'.cell? ⟨nb, 3, none⟩ = some (.int .i64 d) ∧ w'.cell? ⟨nb, 4, none⟩ = some (.int .i64 id) ∧ w'.cell? ⟨nb, 5, none⟩ = some (.int .i64 se) ∧ w'.cell? ⟨nb, 6, none⟩ = some (.int .i64 iter) ∧ w'.cell? ⟨nb, 7, none⟩ = some (.int .i64 counter) ∧ w'.cell? ⟨nb, 8, none⟩ = some (.int .i64 st)) w.drew := hS0'
  have GO := Lib.hid (fun w1 => goes_any m 1 nx (by rcases hr with ⟨rfl, rfl, _⟩ | ⟨rfl, rfl, _⟩ <;> rfl) w1)
  clear hi hi1 ok hat hl hx hm hv h hS0'
  rcases hr with ⟨rfl, rfl, rfl⟩ | ⟨rfl, rfl, rfl⟩
  all_goals
    go_enter Try.func44, Try.ntmps44
    go_wp2_with fail
    refine lin_start (S := (fun w' : World => w'.cell? ⟨nb, 0, none⟩ = some (.int .i64 a) ∧ w'.cell? ⟨nb, 1, none⟩ = some (.int .i64 b) ∧ w'.cell? ⟨nb, 2, none⟩ = some (.int .i64 c) ∧ w'.cell? ⟨nb, 3, none⟩ = some (.int .i64 d) ∧ w'.cell? ⟨nb, 4, none⟩ = some (.int .i64 id) ∧ w'.cell? ⟨nb, 5, none⟩ = some (.int .i64 se) ∧ w'.cell? ⟨nb, 6, none⟩ = some (.int .i64 iter) ∧ w'.cell? ⟨nb, 7, none⟩ = some (.int .i64 counter) ∧ w'.cell? ⟨nb, 8, none⟩ = some (.int .i64 st))) rfl 28 rfl hS0 ?_
    simp only [numbered, Nat.zero_add, Nat.reduceAdd]
    refine lin_take (v := ?_) (by kernel_rfl) (by kernel_rfl) (fun _ _ _ h => h) (Or.inl ⟨by rfl, ?_⟩) (by assumption) ?_; (rotate_left; (intro wS hSw; (try dsimp only at hSw); go_simp; (try with_reducible rfl)); rotate_left); simp only [Act.put, List.setIfInBounds_toArray, List.set_cons_zero, List.set_cons_succ]
    refine lin_take (v := ?_) (by kernel_rfl) (by kernel_rfl) (fun _ _ _ h => h) (Or.inl ⟨by rfl, ?_⟩) (by assumption) ?_; (rotate_left; (intro wS hSw; (try dsimp only at hSw); go_simp; (try with_reducible rfl)); rotate_left); simp only [Act.put, List.setIfInBounds_toArray, List.set_cons_zero, List.set_cons_succ]
    refine lin_take (v := ?_) (by kernel_rfl) (by kernel_rfl) (fun _ _ _ h => h) (Or.inl ⟨by rfl, ?_⟩) (by assumption) ?_; (rotate_left; (intro wS hSw; (try dsimp only at hSw); go_simp; (try with_reducible rfl)); rotate_left); simp only [Act.put, List.setIfInBounds_toArray, List.set_cons_zero, List.set_cons_succ]
    refine lin_take (v := ?_) (by kernel_rfl) (by kernel_rfl) (fun _ _ _ h => h) (Or.inl ⟨by rfl, ?_⟩) (by assumption) ?_; (rotate_left; (intro wS hSw; (try dsimp only at hSw); go_simp; (try with_reducible rfl)); rotate_left); simp only [Act.put, List.setIfInBounds_toArray, List.set_cons_zero, List.set_cons_succ]
    refine lin_take (v := ?_) (by kernel_rfl) (by kernel_rfl) (fun _ _ _ h => h) (Or.inl ⟨by rfl, ?_⟩) (by assumption) ?_; (rotate_left; (intro wS hSw; (try dsimp only at hSw); go_simp; (try with_reducible rfl)); rotate_left); simp only [Act.put, List.setIfInBounds_toArray, List.set_cons_zero, List.set_cons_succ]
    refine lin_take (v := ?_) (by kernel_rfl) (by kernel_rfl) (fun _ _ _ h => h) (Or.inl ⟨by rfl, ?_⟩) (by assumption) ?_; (rotate_left; (intro wS hSw; (try dsimp only at hSw); go_simp; (try with_reducible rfl)); rotate_left); simp only [Act.put, List.setIfInBounds_toArray, List.set_cons_zero, List.set_cons_succ]
    refine lin_take (v := ?_) (by kernel_rfl) (by kernel_rfl) (fun _ _ _ h => h) (Or.inl ⟨by rfl, ?_⟩) (by assumption) ?_; (rotate_left; (intro wS hSw; (try dsimp only at hSw); go_simp; (try with_reducible rfl)); rotate_left); simp only [Act.put, List.setIfInBounds_toArray, List.set_cons_zero, List.set_cons_succ]
    refine lin_take (v := ?_) (by kernel_rfl) (by kernel_rfl) (fun _ _ _ h => h) (Or.inl ⟨by rfl, ?_⟩) (by assumption) ?_; (rotate_left; (intro wS hSw; (try dsimp only at hSw); go_simp; (try with_reducible rfl)); rotate_left); simp only [Act.put, List.setIfInBounds_toArray, List.set_cons_zero, List.set_cons_succ]
    refine lin_take (v := ?_) (by kernel_rfl) (by kernel_rfl) (fun _ _ _ h => h) (Or.inl ⟨by rfl, ?_⟩) (by assumption) ?_; (rotate_left; (intro wS hSw; (try dsimp only at hSw); go_simp; (try with_reducible rfl)); rotate_left); simp only [Act.put, List.setIfInBounds_toArray, List.set_cons_zero, List.set_cons_succ]
    refine lin_take (v := ?_) (by kernel_rfl) (by kernel_rfl) (fun _ _ _ h => h) (Or.inl ⟨by rfl, ?_⟩) (by assumption) ?_; (rotate_left; (intro wS hSw; (try dsimp only at hSw); go_simp; (try with_reducible rfl)); rotate_left); simp only [Act.put, List.setIfInBounds_toArray, List.set_cons_zero, List.set_cons_succ]
    refine lin_take (v := ?_) (by kernel_rfl) (by kernel_rfl) (fun _ _ _ h => h) (Or.inl ⟨by rfl, ?_⟩) (by assumption) ?_; (rotate_left; (intro wS hSw; (try dsimp only at hSw); go_simp; (try with_reducible rfl)); rotate_left); simp only [Act.put, List.setIfInBounds_toArray, List.set_cons_zero, List.set_cons_succ]
    refine lin_take (v := ?_) (by kernel_rfl) (by kernel_rfl) (fun _ _ _ h => h) (Or.inl ⟨by rfl, ?_⟩) (by assumption) ?_; (rotate_left; (intro wS hSw; (try dsimp only at hSw); go_simp; (try with_reducible rfl)); rotate_left); simp only [Act.put, List.setIfInBounds_toArray, List.set_cons_zero, List.set_cons_succ]
    refine lin_take (v := ?_) (by kernel_rfl) (by kernel_rfl) (fun _ _ _ h => h) (Or.inl ⟨by rfl, ?_⟩) (by assumption) ?_; (rotate_left; (intro wS hSw; (try dsimp only at hSw); go_simp; (try with_reducible rfl)); rotate_left); simp only [Act.put, List.setIfInBounds_toArray, List.set_cons_zero, List.set_cons_succ]
    refine lin_rot ?_; simp only [List.cons_append, List.nil_append]
    refine lin_take (v := ?_) (by kernel_rfl) (by kernel_rfl) (fun _ _ _ h => h) (Or.inl ⟨by rfl, ?_⟩) (by assumption) ?_; (rotate_left; (intro wS hSw; (try dsimp only at hSw); go_simp; (try with_reducible rfl)); rotate_left); simp only [Act.put, List.setIfInBounds_toArray, List.set_cons_zero, List.set_cons_succ]
    refine lin_take (v := ?_) (by kernel_rfl) (by kernel_rfl) (fun _ _ _ h => h) (Or.inl ⟨by rfl, ?_⟩) (by assumption) ?_; (rotate_left; (intro wS hSw; (try dsimp only at hSw); go_simp; (try with_reducible rfl)); rotate_left); simp only [Act.put, List.setIfInBounds_toArray, List.set_cons_zero, List.set_cons_succ]
    refine lin_take (v := ?_) (by kernel_rfl) (by kernel_rfl) (fun _ _ _ h => h) (Or.inl ⟨by rfl, ?_⟩) (by assumption) ?_; (rotate_left; (intro wS hSw; (try dsimp only at hSw); go_simp; (try with_reducible rfl)); rotate_left); simp only [Act.put, List.setIfInBounds_toArray, List.set_cons_zero, List.set_cons_succ]
    refine lin_take (v := ?_) (by kernel_rfl) (by kernel_rfl) (fun _ _ _ h => h) (Or.inl ⟨by rfl, ?_⟩) (by assumption) ?_; (rotate_left; (intro wS hSw; (try dsimp only at hSw); go_simp; (try with_reducible rfl)); rotate_left); simp only [Act.put, List.setIfInBounds_toArray, List.set_cons_zero, List.set_cons_succ]
    refine lin_take (v := ?_) (by kernel_rfl) (by kernel_rfl) (fun _ _ _ h => h) (Or.inl ⟨by rfl, ?_⟩) (by assumption) ?_; (rotate_left; (intro wS hSw; (try dsimp only at hSw); go_simp; (try with_reducible rfl)); rotate_left); simp only [Act.put, List.setIfInBounds_toArray, List.set_cons_zero, List.set_cons_succ]
    refine lin_take (v := ?_) (by kernel_rfl) (by kernel_rfl) (fun _ _ _ h => h) (Or.inl ⟨by rfl, ?_⟩) (by assumption) ?_; (rotate_left; (intro wS hSw; (try dsimp only at hSw); go_simp; (try with_reducible rfl)); rotate_left); simp only [Act.put, List.setIfInBounds_toArray, List.set_cons_zero, List.set_cons_succ]
    refine lin_take (v := ?_) (by kernel_rfl) (by kernel_rfl) (fun _ _ _ h => h) (Or.inl ⟨by rfl, ?_⟩) (by assumption) ?_; (rotate_left; (intro wS hSw; (try dsimp only at hSw); go_simp; (try with_reducible rfl)); rotate_left); simp only [Act.put, List.setIfInBounds_toArray, List.set_cons_zero, List.set_cons_succ]
    refine lin_take (v := ?_) (by kernel_rfl) (by kernel_rfl) (fun _ _ _ h => h) (Or.inl ⟨by rfl, ?_⟩) (by assumption) ?_; (rotate_left; (intro wS hSw; (try dsimp only at hSw); go_simp; (try with_reducible rfl)); rotate_left); simp only [Act.put, List.setIfInBounds_toArray, List.set_cons_zero, List.set_cons_succ]
    refine lin_rot ?_; simp only [List.cons_append, List.nil_append]
    refine lin_rot ?_; simp only [List.cons_append, List.nil_append]
    refine lin_rot ?_; simp only [List.cons_append, List.nil_append]
    refine lin_rot ?_; simp only [List.cons_append, List.nil_append]
    refine lin_rot ?_; simp only [List.cons_append, List.nil_append]
    refine lin_rot ?_; simp only [List.cons_append, List.nil_append]
    refine lin_sole (by kernel_rfl) (fun K hK => ?_)
    go_simp
    refine (R.out _ hB1).mono ?_
    rintro e w1 ⟨rfl, h1⟩
    obtain ⟨hS1, _⟩ := C.out _ h1
    refine hK.out _ _ ?_ (fun hHeld => ?_)
    · exact hS1
    try simp only [Act.put, List.setIfInBounds_toArray, List.set_cons_zero, List.set_cons_succ]
    refine lin_sole (by kernel_rfl) (fun K hK => ?_)
    go_simp
    refine (My.out _ h1).mono ?_
    rintro e w2 ⟨rfl, h2⟩
    obtain ⟨hS2, ⟨d8, f8⟩, d9, f9⟩ := C.out _ h2
    refine hK.out _ _ ?_ (fun hHeld => ?_)
    · exact hS2
    try simp only [Act.put, List.setIfInBounds_toArray, List.set_cons_zero, List.set_cons_succ]
    refine lin_take (v := ?_) (by kernel_rfl) (by kernel_rfl) (fun _ _ _ h => h) (Or.inl ⟨by rfl, ?_⟩) (by assumption) ?_; (rotate_left; (intro wS hSw; (try dsimp only at hSw); go_simp; (try with_reducible rfl)); rotate_left); simp only [Act.put, List.setIfInBounds_toArray, List.set_cons_zero, List.set_cons_succ]
    refine lin_take (v := ?_) (by kernel_rfl) (by kernel_rfl) (fun _ _ _ h => h) (Or.inl ⟨by rfl, ?_⟩) (by assumption) ?_; (rotate_left; (intro wS hSw; (try dsimp only at hSw); go_simp; (try with_reducible rfl)); rotate_left); simp only [Act.put, List.setIfInBounds_toArray, List.set_cons_zero, List.set_cons_succ]
    refine lin_take (v := ?_) (by kernel_rfl) (by kernel_rfl) (fun _ _ _ h => h) (Or.inl ⟨by rfl, ?_⟩) (by assumption) ?_; (rotate_left; (intro wS hSw; (try dsimp only at hSw); go_simp; (try with_reducible rfl)); rotate_left); simp only [Act.put, List.setIfInBounds_toArray, List.set_cons_zero, List.set_cons_succ]
    refine lin_take (v := ?_) (by kernel_rfl) (by kernel_rfl) (fun _ _ _ h => h) (Or.inl ⟨by rfl, ?_⟩) (by assumption) ?_; (rotate_left; (intro wS hSw; (try dsimp only at hSw); go_simp; (try with_reducible rfl)); rotate_left); simp only [Act.put, List.setIfInBounds_toArray, List.set_cons_zero, List.set_cons_succ]
    refine lin_take (v := ?_) (by kernel_rfl) (by kernel_rfl) (fun _ _ _ h => h) (Or.inl ⟨by rfl, ?_⟩) (by assumption) ?_; (rotate_left; (intro wS hSw; (try dsimp only at hSw); go_simp; (try with_reducible rfl)); rotate_left); simp only [Act.put, List.setIfInBounds_toArray, List.set_cons_zero, List.set_cons_succ]
    refine lin_done (by kernel_rfl) ?_
    clear hHeld hS0 c9 hB1 hS1 hS2
    go_wp2_with (go_at_call 72; refine (GO.out _).mono ?_; rintro e w3 ⟨rfl, rfl⟩)
    go_ret
    exact ⟨rfl, E.out _ h2⟩
theorem right_step1_yes {w0 w : World} {l : List Ast} {gs sb nb : Nat} {ms : List Int} {a b c d : Int} (id se iter : Int) {counter st fr : Int} {gt : Bool} (ok : okPlan a b c d = true) (i : Nat) (h : Own w0 w (storeA gs sb ms :: l)) (hi : l[i]? = some (cellsA nb #[.int .i64 a, .int .i64 b, .int .i64 c, .int .i64 d, .int .i64 id, .int .i64 se, .int .i64 iter, .int .i64 counter, .int .i64 st, .int .i64 1, .int .i64 fr, .bool gt] 107)) {at0 : Nat} (hat : wordV a b c d id iter 1 = (at0 : Int)) (hl : at0 < ms.length) (tk : Int) (htk : tokV se iter st = tk) (hx : ms.getD at0 0 = tk) (ms' : List Int) (hm : ms.set at0 0 = ms') :
    Calls Try.prog 44 #[.pointer (some ⟨nb, 0, none⟩), .pointer (some ⟨gs, 0, none⟩)] w fun e w' => e = .returned (.bool false) ∧ Own w0 w' (storeA gs sb ms' :: l.set i (cellsA nb #[.int .i64 a, .int .i64 b, .int .i64 c, .int .i64 d, .int .i64 id, .int .i64 se, .int .i64 iter, .int .i64 counter, .int .i64 st, .int .i64 2, .int .i64 fr, .bool gt] 107)) := by
  have hi1 : ∀ m, (storeA gs sb m :: l)[i + 1]? = some (cellsA nb #[.int .i64 a, .int .i64 b, .int .i64 c, .int .i64 d, .int .i64 id, .int .i64 se, .int .i64 iter, .int .i64 counter, .int .i64 st, .int .i64 1, .int .i64 fr, .bool gt] 107) := fun m => hi
  have R := Lib.hid (fun (w1 : World) (h1 : Own w0 w1 (storeA gs sb ms :: l)) => r_free_yes h1 ok id se iter st hat hl tk htk hx ms' hm)
  have C := Lib.hid (fun (w1 : World) (m : List Int) (h1 : Own w0 w1 (storeA gs sb m :: l)) => And.intro (right_keep (i + 1) h1 (hi1 m)) (cells_at (i + 1) h1 (hi1 m) 9 _ rfl))
  have E := Lib.hid (fun (w1 : World) (h1 : Own w0 w1 (storeA gs sb ms' :: l)) => show Own w0 (w1.setCell ⟨nb, 9, none⟩ (.int .i64 2)) (storeA gs sb ms' :: l.set i (cellsA nb #[.int .i64 a, .int .i64 b, .int .i64 c, .int .i64 d, .int .i64 id, .int .i64 se, .int .i64 iter, .int .i64 counter, .int .i64 st, .int .i64 2, .int .i64 fr, .bool gt] 107)) from h1.cset (i + 1) (hi1 ms') 9 (.int .i64 2))
  have C2 := Lib.hid (fun (w1 : World) (h1 : Own w0 w1 (storeA gs sb ms' :: l.set i (cellsA nb #[.int .i64 a, .int .i64 b, .int .i64 c, .int .i64 d, .int .i64 id, .int .i64 se, .int .i64 iter, .int .i64 counter, .int .i64 st, .int .i64 2, .int .i64 fr, .bool gt] 107))) => And.intro (right_keep (i + 1) h1 (by rw [List.getElem?_cons_succ, List.getElem?_set_self (List.getElem?_eq_some_iff.1 hi).1])) (cells_at (i + 1) h1 (by rw [List.getElem?_cons_succ, List.getElem?_set_self (List.getElem?_eq_some_iff.1 hi).1]) 9 _ rfl))
  have hB1 := h.drewN 1
  obtain ⟨_, c9, _⟩ := C.out _ _ h
  obtain ⟨hS0', _⟩ := C.out _ _ hB1
  have hS0 : (fun w' : World => w'.cell? ⟨nb, 0, none⟩ = some (.int .i64 a) ∧ w'.cell? ⟨nb, 1, none⟩ = some (.int .i64 b) ∧ w'.cell? ⟨nb, 2, none⟩ = some (.int .i64 c) ∧ w'.cell? ⟨nb, 3, none⟩ = some (.int .i64 d) ∧ w'.cell? ⟨nb, 4, none⟩ = some (.int .i64 id) ∧ w'.cell? ⟨nb, 5, none⟩ = some (.int .i64 se) ∧ w'.cell? ⟨nb, 6, none⟩ = some (.int .i64 iter) ∧ w'.cell? ⟨nb, 7, none⟩ = some (.int .i64 counter) ∧ w'.cell? ⟨nb, 8, none⟩ = some (.int .i64 st)) w.drew := hS0'
  have GO := Lib.hid (fun w1 => goes_any true 2 2 rfl w1)
  clear hi hi1 ok hat hl htk hx h hS0' hm
  go_enter Try.func44, Try.ntmps44
  go_wp2_with fail
  refine lin_start (S := (fun w' : World => w'.cell? ⟨nb, 0, none⟩ = some (.int .i64 a) ∧ w'.cell? ⟨nb, 1, none⟩ = some (.int .i64 b) ∧ w'.cell? ⟨nb, 2, none⟩ = some (.int .i64 c) ∧ w'.cell? ⟨nb, 3, none⟩ = some (.int .i64 d) ∧ w'.cell? ⟨nb, 4, none⟩ = some (.int .i64 id) ∧ w'.cell? ⟨nb, 5, none⟩ = some (.int .i64 se) ∧ w'.cell? ⟨nb, 6, none⟩ = some (.int .i64 iter) ∧ w'.cell? ⟨nb, 7, none⟩ = some (.int .i64 counter) ∧ w'.cell? ⟨nb, 8, none⟩ = some (.int .i64 st))) rfl 19 rfl hS0 ?_
  simp only [numbered, Nat.zero_add, Nat.reduceAdd]
  refine lin_take (v := ?_) (by kernel_rfl) (by kernel_rfl) (fun _ _ _ h => h) (Or.inl ⟨by rfl, ?_⟩) (by assumption) ?_; (rotate_left; (intro wS hSw; (try dsimp only at hSw); go_simp; (try with_reducible rfl)); rotate_left); simp only [Act.put, List.setIfInBounds_toArray, List.set_cons_zero, List.set_cons_succ]
  refine lin_take (v := ?_) (by kernel_rfl) (by kernel_rfl) (fun _ _ _ h => h) (Or.inl ⟨by rfl, ?_⟩) (by assumption) ?_; (rotate_left; (intro wS hSw; (try dsimp only at hSw); go_simp; (try with_reducible rfl)); rotate_left); simp only [Act.put, List.setIfInBounds_toArray, List.set_cons_zero, List.set_cons_succ]
  refine lin_take (v := ?_) (by kernel_rfl) (by kernel_rfl) (fun _ _ _ h => h) (Or.inl ⟨by rfl, ?_⟩) (by assumption) ?_; (rotate_left; (intro wS hSw; (try dsimp only at hSw); go_simp; (try with_reducible rfl)); rotate_left); simp only [Act.put, List.setIfInBounds_toArray, List.set_cons_zero, List.set_cons_succ]
  refine lin_take (v := ?_) (by kernel_rfl) (by kernel_rfl) (fun _ _ _ h => h) (Or.inl ⟨by rfl, ?_⟩) (by assumption) ?_; (rotate_left; (intro wS hSw; (try dsimp only at hSw); go_simp; (try with_reducible rfl)); rotate_left); simp only [Act.put, List.setIfInBounds_toArray, List.set_cons_zero, List.set_cons_succ]
  refine lin_take (v := ?_) (by kernel_rfl) (by kernel_rfl) (fun _ _ _ h => h) (Or.inl ⟨by rfl, ?_⟩) (by assumption) ?_; (rotate_left; (intro wS hSw; (try dsimp only at hSw); go_simp; (try with_reducible rfl)); rotate_left); simp only [Act.put, List.setIfInBounds_toArray, List.set_cons_zero, List.set_cons_succ]
  refine lin_take (v := ?_) (by kernel_rfl) (by kernel_rfl) (fun _ _ _ h => h) (Or.inl ⟨by rfl, ?_⟩) (by assumption) ?_; (rotate_left; (intro wS hSw; (try dsimp only at hSw); go_simp; (try with_reducible rfl)); rotate_left); simp only [Act.put, List.setIfInBounds_toArray, List.set_cons_zero, List.set_cons_succ]
  refine lin_take (v := ?_) (by kernel_rfl) (by kernel_rfl) (fun _ _ _ h => h) (Or.inl ⟨by rfl, ?_⟩) (by assumption) ?_; (rotate_left; (intro wS hSw; (try dsimp only at hSw); go_simp; (try with_reducible rfl)); rotate_left); simp only [Act.put, List.setIfInBounds_toArray, List.set_cons_zero, List.set_cons_succ]
  refine lin_take (v := ?_) (by kernel_rfl) (by kernel_rfl) (fun _ _ _ h => h) (Or.inl ⟨by rfl, ?_⟩) (by assumption) ?_; (rotate_left; (intro wS hSw; (try dsimp only at hSw); go_simp; (try with_reducible rfl)); rotate_left); simp only [Act.put, List.setIfInBounds_toArray, List.set_cons_zero, List.set_cons_succ]
  refine lin_take (v := ?_) (by kernel_rfl) (by kernel_rfl) (fun _ _ _ h => h) (Or.inl ⟨by rfl, ?_⟩) (by assumption) ?_; (rotate_left; (intro wS hSw; (try dsimp only at hSw); go_simp; (try with_reducible rfl)); rotate_left); simp only [Act.put, List.setIfInBounds_toArray, List.set_cons_zero, List.set_cons_succ]
  refine lin_take (v := ?_) (by kernel_rfl) (by kernel_rfl) (fun _ _ _ h => h) (Or.inl ⟨by rfl, ?_⟩) (by assumption) ?_; (rotate_left; (intro wS hSw; (try dsimp only at hSw); go_simp; (try with_reducible rfl)); rotate_left); simp only [Act.put, List.setIfInBounds_toArray, List.set_cons_zero, List.set_cons_succ]
  refine lin_take (v := ?_) (by kernel_rfl) (by kernel_rfl) (fun _ _ _ h => h) (Or.inl ⟨by rfl, ?_⟩) (by assumption) ?_; (rotate_left; (intro wS hSw; (try dsimp only at hSw); go_simp; (try with_reducible rfl)); rotate_left); simp only [Act.put, List.setIfInBounds_toArray, List.set_cons_zero, List.set_cons_succ]
  refine lin_take (v := ?_) (by kernel_rfl) (by kernel_rfl) (fun _ _ _ h => h) (Or.inl ⟨by rfl, ?_⟩) (by assumption) ?_; (rotate_left; (intro wS hSw; (try dsimp only at hSw); go_simp; (try with_reducible rfl)); rotate_left); simp only [Act.put, List.setIfInBounds_toArray, List.set_cons_zero, List.set_cons_succ]
  refine lin_take (v := ?_) (by kernel_rfl) (by kernel_rfl) (fun _ _ _ h => h) (Or.inl ⟨by rfl, ?_⟩) (by assumption) ?_; (rotate_left; (intro wS hSw; (try dsimp only at hSw); go_simp; (try with_reducible rfl)); rotate_left); simp only [Act.put, List.setIfInBounds_toArray, List.set_cons_zero, List.set_cons_succ]
  refine lin_take (v := ?_) (by kernel_rfl) (by kernel_rfl) (fun _ _ _ h => h) (Or.inl ⟨by rfl, ?_⟩) (by assumption) ?_; (rotate_left; (intro wS hSw; (try dsimp only at hSw); go_simp; (try with_reducible rfl)); rotate_left); simp only [Act.put, List.setIfInBounds_toArray, List.set_cons_zero, List.set_cons_succ]
  refine lin_sole (by kernel_rfl) (fun K hK => ?_)
  go_simp
  refine (R.out _ hB1).mono ?_
  rintro e w1 ⟨rfl, h1⟩
  obtain ⟨⟨s0, s1, s2, s3, s4, s5, s6, s7, s8⟩, g9, f9⟩ := C.out _ _ h1
  have h2 := E.out _ h1
  obtain ⟨z0, z9, _⟩ := C2.out _ h2
  refine hK.out _ _ ?_ (fun hHeld => ?_)
  · exact ⟨s0, s1, s2, s3, s4, s5, s6, s7, s8⟩
  try simp only [Act.put, List.setIfInBounds_toArray, List.set_cons_zero, List.set_cons_succ]
  refine lin_sole (by kernel_rfl) (fun K hK => ?_)
  go_simp
  refine (GO.out _).mono ?_
  rintro e w2 ⟨rfl, rfl⟩
  refine hK.out _ _ ?_ (fun hHeld => ?_)
  · exact ⟨s0, s1, s2, s3, s4, s5, s6, s7, s8⟩
  try simp only [Act.put, List.setIfInBounds_toArray, List.set_cons_zero, List.set_cons_succ]
  refine lin_take (v := ?_) (by kernel_rfl) (by kernel_rfl) (fun _ _ _ h => h) (Or.inl ⟨by rfl, ?_⟩) (by assumption) ?_; (rotate_left; (intro wS hSw; (try dsimp only at hSw); go_simp; (try with_reducible rfl)); rotate_left); simp only [Act.put, List.setIfInBounds_toArray, List.set_cons_zero, List.set_cons_succ]
  refine lin_take (v := ?_) (by kernel_rfl) (by kernel_rfl) (fun _ _ _ h => h) (Or.inl ⟨by rfl, ?_⟩) (by assumption) ?_; (rotate_left; (intro wS hSw; (try dsimp only at hSw); go_simp; (try with_reducible rfl)); rotate_left); simp only [Act.put, List.setIfInBounds_toArray, List.set_cons_zero, List.set_cons_succ]
  clear s0 s1 s2 s3 s4 s5 s6 s7 s8
  refine lin_sole (by kernel_rfl) (fun K hK => ?_)
  go_simp
  refine hK.out _ _ ?_ (fun hHeld => ?_)
  · exact z0
  try simp only [Act.put, List.setIfInBounds_toArray, List.set_cons_zero, List.set_cons_succ]
  refine lin_done (by kernel_rfl) ?_
  clear hHeld hS0 c9 hB1 g9 f9 h1 z0
  go_wp2_with fail
  go_ret
  exact ⟨rfl, h2⟩
theorem right_step1_no {w0 w : World} {l : List Ast} {gs sb nb : Nat} {ms : List Int} {a b c d : Int} (id se iter : Int) {counter st fr : Int} {gt : Bool} (ok : okPlan a b c d = true) (i : Nat) (h : Own w0 w (storeA gs sb ms :: l)) (hi : l[i]? = some (cellsA nb #[.int .i64 a, .int .i64 b, .int .i64 c, .int .i64 d, .int .i64 id, .int .i64 se, .int .i64 iter, .int .i64 counter, .int .i64 st, .int .i64 1, .int .i64 fr, .bool gt] 107)) {at0 : Nat} (hat : wordV a b c d id iter 1 = (at0 : Int)) (hl : at0 < ms.length) (tk : Int) (htk : tokV se iter st = tk) (hx : ms.getD at0 0 ≠ tk) :
    Calls Try.prog 44 #[.pointer (some ⟨nb, 0, none⟩), .pointer (some ⟨gs, 0, none⟩)] w fun e w' => e = .returned (.bool true) ∧ Own w0 w' (storeA gs sb ms :: l.set i (cellsA nb #[.int .i64 a, .int .i64 b, .int .i64 c, .int .i64 d, .int .i64 id, .int .i64 se, .int .i64 iter, .int .i64 counter, .int .i64 st, .int .i64 3, .int .i64 fr, .bool gt] 107)) := by
  have hi1 : ∀ m, (storeA gs sb m :: l)[i + 1]? = some (cellsA nb #[.int .i64 a, .int .i64 b, .int .i64 c, .int .i64 d, .int .i64 id, .int .i64 se, .int .i64 iter, .int .i64 counter, .int .i64 st, .int .i64 1, .int .i64 fr, .bool gt] 107) := fun m => hi
  have R := Lib.hid (fun (w1 : World) (h1 : Own w0 w1 (storeA gs sb ms :: l)) => r_free_no h1 ok id se iter st hat hl tk htk hx)
  have C := Lib.hid (fun (w1 : World) (m : List Int) (h1 : Own w0 w1 (storeA gs sb m :: l)) => And.intro (right_keep (i + 1) h1 (hi1 m)) (cells_at (i + 1) h1 (hi1 m) 9 _ rfl))
  have E := Lib.hid (fun (w1 : World) (h1 : Own w0 w1 (storeA gs sb ms :: l)) => show Own w0 (w1.setCell ⟨nb, 9, none⟩ (.int .i64 3)) (storeA gs sb ms :: l.set i (cellsA nb #[.int .i64 a, .int .i64 b, .int .i64 c, .int .i64 d, .int .i64 id, .int .i64 se, .int .i64 iter, .int .i64 counter, .int .i64 st, .int .i64 3, .int .i64 fr, .bool gt] 107)) from h1.cset (i + 1) (hi1 ms) 9 (.int .i64 3))
  have C2 := Lib.hid (fun (w1 : World) (h1 : Own w0 w1 (storeA gs sb ms :: l.set i (cellsA nb #[.int .i64 a, .int .i64 b, .int .i64 c, .int .i64 d, .int .i64 id, .int .i64 se, .int .i64 iter, .int .i64 counter, .int .i64 st, .int .i64 3, .int .i64 fr, .bool gt] 107))) => And.intro (right_keep (i + 1) h1 (by rw [List.getElem?_cons_succ, List.getElem?_set_self (List.getElem?_eq_some_iff.1 hi).1])) (cells_at (i + 1) h1 (by rw [List.getElem?_cons_succ, List.getElem?_set_self (List.getElem?_eq_some_iff.1 hi).1]) 9 _ rfl))
  have hB1 := h.drewN 1
  obtain ⟨_, c9, _⟩ := C.out _ _ h
  obtain ⟨hS0', _⟩ := C.out _ _ hB1
  have hS0 : (fun w' : World => w'.cell? ⟨nb, 0, none⟩ = some (.int .i64 a) ∧ w'.cell? ⟨nb, 1, none⟩ = some (.int .i64 b) ∧ w'.cell? ⟨nb, 2, none⟩ = some (.int .i64 c) ∧ w'.cell? ⟨nb, 3, none⟩ = some (.int .i64 d) ∧ w'.cell? ⟨nb, 4, none⟩ = some (.int .i64 id) ∧ w'.cell? ⟨nb, 5, none⟩ = some (.int .i64 se) ∧ w'.cell? ⟨nb, 6, none⟩ = some (.int .i64 iter) ∧ w'.cell? ⟨nb, 7, none⟩ = some (.int .i64 counter) ∧ w'.cell? ⟨nb, 8, none⟩ = some (.int .i64 st)) w.drew := hS0'
  have GO := Lib.hid (fun w1 => goes_any false 2 3 rfl w1)
  clear hi hi1 ok hat hl htk hx h hS0'
  go_enter Try.func44, Try.ntmps44
  go_wp2_with fail
  refine lin_start (S := (fun w' : World => w'.cell? ⟨nb, 0, none⟩ = some (.int .i64 a) ∧ w'.cell? ⟨nb, 1, none⟩ = some (.int .i64 b) ∧ w'.cell? ⟨nb, 2, none⟩ = some (.int .i64 c) ∧ w'.cell? ⟨nb, 3, none⟩ = some (.int .i64 d) ∧ w'.cell? ⟨nb, 4, none⟩ = some (.int .i64 id) ∧ w'.cell? ⟨nb, 5, none⟩ = some (.int .i64 se) ∧ w'.cell? ⟨nb, 6, none⟩ = some (.int .i64 iter) ∧ w'.cell? ⟨nb, 7, none⟩ = some (.int .i64 counter) ∧ w'.cell? ⟨nb, 8, none⟩ = some (.int .i64 st))) rfl 19 rfl hS0 ?_
  simp only [numbered, Nat.zero_add, Nat.reduceAdd]
  refine lin_take (v := ?_) (by kernel_rfl) (by kernel_rfl) (fun _ _ _ h => h) (Or.inl ⟨by rfl, ?_⟩) (by assumption) ?_; (rotate_left; (intro wS hSw; (try dsimp only at hSw); go_simp; (try with_reducible rfl)); rotate_left); simp only [Act.put, List.setIfInBounds_toArray, List.set_cons_zero, List.set_cons_succ]
  refine lin_take (v := ?_) (by kernel_rfl) (by kernel_rfl) (fun _ _ _ h => h) (Or.inl ⟨by rfl, ?_⟩) (by assumption) ?_; (rotate_left; (intro wS hSw; (try dsimp only at hSw); go_simp; (try with_reducible rfl)); rotate_left); simp only [Act.put, List.setIfInBounds_toArray, List.set_cons_zero, List.set_cons_succ]
  refine lin_take (v := ?_) (by kernel_rfl) (by kernel_rfl) (fun _ _ _ h => h) (Or.inl ⟨by rfl, ?_⟩) (by assumption) ?_; (rotate_left; (intro wS hSw; (try dsimp only at hSw); go_simp; (try with_reducible rfl)); rotate_left); simp only [Act.put, List.setIfInBounds_toArray, List.set_cons_zero, List.set_cons_succ]
  refine lin_take (v := ?_) (by kernel_rfl) (by kernel_rfl) (fun _ _ _ h => h) (Or.inl ⟨by rfl, ?_⟩) (by assumption) ?_; (rotate_left; (intro wS hSw; (try dsimp only at hSw); go_simp; (try with_reducible rfl)); rotate_left); simp only [Act.put, List.setIfInBounds_toArray, List.set_cons_zero, List.set_cons_succ]
  refine lin_take (v := ?_) (by kernel_rfl) (by kernel_rfl) (fun _ _ _ h => h) (Or.inl ⟨by rfl, ?_⟩) (by assumption) ?_; (rotate_left; (intro wS hSw; (try dsimp only at hSw); go_simp; (try with_reducible rfl)); rotate_left); simp only [Act.put, List.setIfInBounds_toArray, List.set_cons_zero, List.set_cons_succ]
  refine lin_take (v := ?_) (by kernel_rfl) (by kernel_rfl) (fun _ _ _ h => h) (Or.inl ⟨by rfl, ?_⟩) (by assumption) ?_; (rotate_left; (intro wS hSw; (try dsimp only at hSw); go_simp; (try with_reducible rfl)); rotate_left); simp only [Act.put, List.setIfInBounds_toArray, List.set_cons_zero, List.set_cons_succ]
  refine lin_take (v := ?_) (by kernel_rfl) (by kernel_rfl) (fun _ _ _ h => h) (Or.inl ⟨by rfl, ?_⟩) (by assumption) ?_; (rotate_left; (intro wS hSw; (try dsimp only at hSw); go_simp; (try with_reducible rfl)); rotate_left); simp only [Act.put, List.setIfInBounds_toArray, List.set_cons_zero, List.set_cons_succ]
  refine lin_take (v := ?_) (by kernel_rfl) (by kernel_rfl) (fun _ _ _ h => h) (Or.inl ⟨by rfl, ?_⟩) (by assumption) ?_; (rotate_left; (intro wS hSw; (try dsimp only at hSw); go_simp; (try with_reducible rfl)); rotate_left); simp only [Act.put, List.setIfInBounds_toArray, List.set_cons_zero, List.set_cons_succ]
  refine lin_take (v := ?_) (by kernel_rfl) (by kernel_rfl) (fun _ _ _ h => h) (Or.inl ⟨by rfl, ?_⟩) (by assumption) ?_; (rotate_left; (intro wS hSw; (try dsimp only at hSw); go_simp; (try with_reducible rfl)); rotate_left); simp only [Act.put, List.setIfInBounds_toArray, List.set_cons_zero, List.set_cons_succ]
  refine lin_take (v := ?_) (by kernel_rfl) (by kernel_rfl) (fun _ _ _ h => h) (Or.inl ⟨by rfl, ?_⟩) (by assumption) ?_; (rotate_left; (intro wS hSw; (try dsimp only at hSw); go_simp; (try with_reducible rfl)); rotate_left); simp only [Act.put, List.setIfInBounds_toArray, List.set_cons_zero, List.set_cons_succ]
  refine lin_take (v := ?_) (by kernel_rfl) (by kernel_rfl) (fun _ _ _ h => h) (Or.inl ⟨by rfl, ?_⟩) (by assumption) ?_; (rotate_left; (intro wS hSw; (try dsimp only at hSw); go_simp; (try with_reducible rfl)); rotate_left); simp only [Act.put, List.setIfInBounds_toArray, List.set_cons_zero, List.set_cons_succ]
  refine lin_take (v := ?_) (by kernel_rfl) (by kernel_rfl) (fun _ _ _ h => h) (Or.inl ⟨by rfl, ?_⟩) (by assumption) ?_; (rotate_left; (intro wS hSw; (try dsimp only at hSw); go_simp; (try with_reducible rfl)); rotate_left); simp only [Act.put, List.setIfInBounds_toArray, List.set_cons_zero, List.set_cons_succ]
  refine lin_take (v := ?_) (by kernel_rfl) (by kernel_rfl) (fun _ _ _ h => h) (Or.inl ⟨by rfl, ?_⟩) (by assumption) ?_; (rotate_left; (intro wS hSw; (try dsimp only at hSw); go_simp; (try with_reducible rfl)); rotate_left); simp only [Act.put, List.setIfInBounds_toArray, List.set_cons_zero, List.set_cons_succ]
  refine lin_take (v := ?_) (by kernel_rfl) (by kernel_rfl) (fun _ _ _ h => h) (Or.inl ⟨by rfl, ?_⟩) (by assumption) ?_; (rotate_left; (intro wS hSw; (try dsimp only at hSw); go_simp; (try with_reducible rfl)); rotate_left); simp only [Act.put, List.setIfInBounds_toArray, List.set_cons_zero, List.set_cons_succ]
  refine lin_sole (by kernel_rfl) (fun K hK => ?_)
  go_simp
  refine (R.out _ hB1).mono ?_
  rintro e w1 ⟨rfl, h1⟩
  obtain ⟨⟨s0, s1, s2, s3, s4, s5, s6, s7, s8⟩, g9, f9⟩ := C.out _ _ h1
  have h2 := E.out _ h1
  obtain ⟨z0, z9, _⟩ := C2.out _ h2
  refine hK.out _ _ ?_ (fun hHeld => ?_)
  · exact ⟨s0, s1, s2, s3, s4, s5, s6, s7, s8⟩
  try simp only [Act.put, List.setIfInBounds_toArray, List.set_cons_zero, List.set_cons_succ]
  refine lin_sole (by kernel_rfl) (fun K hK => ?_)
  go_simp
  refine (GO.out _).mono ?_
  rintro e w2 ⟨rfl, rfl⟩
  refine hK.out _ _ ?_ (fun hHeld => ?_)
  · exact ⟨s0, s1, s2, s3, s4, s5, s6, s7, s8⟩
  try simp only [Act.put, List.setIfInBounds_toArray, List.set_cons_zero, List.set_cons_succ]
  refine lin_take (v := ?_) (by kernel_rfl) (by kernel_rfl) (fun _ _ _ h => h) (Or.inl ⟨by rfl, ?_⟩) (by assumption) ?_; (rotate_left; (intro wS hSw; (try dsimp only at hSw); go_simp; (try with_reducible rfl)); rotate_left); simp only [Act.put, List.setIfInBounds_toArray, List.set_cons_zero, List.set_cons_succ]
  refine lin_take (v := ?_) (by kernel_rfl) (by kernel_rfl) (fun _ _ _ h => h) (Or.inl ⟨by rfl, ?_⟩) (by assumption) ?_; (rotate_left; (intro wS hSw; (try dsimp only at hSw); go_simp; (try with_reducible rfl)); rotate_left); simp only [Act.put, List.setIfInBounds_toArray, List.set_cons_zero, List.set_cons_succ]
  clear s0 s1 s2 s3 s4 s5 s6 s7 s8
  refine lin_sole (by kernel_rfl) (fun K hK => ?_)
  go_simp
  refine hK.out _ _ ?_ (fun hHeld => ?_)
  · exact z0
  try simp only [Act.put, List.setIfInBounds_toArray, List.set_cons_zero, List.set_cons_succ]
  refine lin_done (by kernel_rfl) ?_
  clear hHeld hS0 c9 hB1 g9 f9 h1 z0
  go_wp2_with fail
  go_ret
  exact ⟨rfl, h2⟩
theorem right_step2 {w0 w : World} {l : List Ast} {gs sb nb : Nat} {ms : List Int} {a b c d : Int} (id se iter : Int) {counter st fr : Int} {gt : Bool} (ok : okPlan a b c d = true) (i : Nat) (h : Own w0 w (storeA gs sb ms :: l)) (hi : l[i]? = some (cellsA nb #[.int .i64 a, .int .i64 b, .int .i64 c, .int .i64 d, .int .i64 id, .int .i64 se, .int .i64 iter, .int .i64 counter, .int .i64 st, .int .i64 2, .int .i64 fr, .bool gt] 107)) {at0 : Nat} (hat : wordV a b c d id iter 2 = (at0 : Int)) (hl : at0 < ms.length) (x : Int) (hx : ms.getD at0 0 = x) :
    Calls Try.prog 44 #[.pointer (some ⟨nb, 0, none⟩), .pointer (some ⟨gs, 0, none⟩)] w fun e w' => e = .returned (.bool true) ∧ Own w0 w' (storeA gs sb ms :: l.set i (cellsA nb #[.int .i64 a, .int .i64 b, .int .i64 c, .int .i64 d, .int .i64 id, .int .i64 se, .int .i64 iter, .int .i64 counter, .int .i64 st, .int .i64 3, .int .i64 x, .bool true] 107)) := by
  have hi1 : (storeA gs sb ms :: l)[i + 1]? = some (cellsA nb #[.int .i64 a, .int .i64 b, .int .i64 c, .int .i64 d, .int .i64 id, .int .i64 se, .int .i64 iter, .int .i64 counter, .int .i64 st, .int .i64 2, .int .i64 fr, .bool gt] 107) := hi
  have hi2 : (storeA gs sb ms :: l.set i (cellsA nb #[.int .i64 a, .int .i64 b, .int .i64 c, .int .i64 d, .int .i64 id, .int .i64 se, .int .i64 iter, .int .i64 counter, .int .i64 st, .int .i64 2, .int .i64 x, .bool gt] 107))[i + 1]? = some (cellsA nb #[.int .i64 a, .int .i64 b, .int .i64 c, .int .i64 d, .int .i64 id, .int .i64 se, .int .i64 iter, .int .i64 counter, .int .i64 st, .int .i64 2, .int .i64 x, .bool gt] 107) := by rw [List.getElem?_cons_succ, List.getElem?_set_self (List.getElem?_eq_some_iff.1 hi).1]
  have hi3 : (storeA gs sb ms :: l.set i (cellsA nb #[.int .i64 a, .int .i64 b, .int .i64 c, .int .i64 d, .int .i64 id, .int .i64 se, .int .i64 iter, .int .i64 counter, .int .i64 st, .int .i64 2, .int .i64 x, .bool true] 107))[i + 1]? = some (cellsA nb #[.int .i64 a, .int .i64 b, .int .i64 c, .int .i64 d, .int .i64 id, .int .i64 se, .int .i64 iter, .int .i64 counter, .int .i64 st, .int .i64 2, .int .i64 x, .bool true] 107) := by rw [List.getElem?_cons_succ, List.getElem?_set_self (List.getElem?_eq_some_iff.1 hi).1]
  have hi4 : (storeA gs sb ms :: l.set i (cellsA nb #[.int .i64 a, .int .i64 b, .int .i64 c, .int .i64 d, .int .i64 id, .int .i64 se, .int .i64 iter, .int .i64 counter, .int .i64 st, .int .i64 3, .int .i64 x, .bool true] 107))[i + 1]? = some (cellsA nb #[.int .i64 a, .int .i64 b, .int .i64 c, .int .i64 d, .int .i64 id, .int .i64 se, .int .i64 iter, .int .i64 counter, .int .i64 st, .int .i64 3, .int .i64 x, .bool true] 107) := by rw [List.getElem?_cons_succ, List.getElem?_set_self (List.getElem?_eq_some_iff.1 hi).1]
  have R := Lib.hid (fun (w1 : World) (h1 : Own w0 w1 (storeA gs sb ms :: l)) => r_frame h1 ok id se iter hat hl x hx)
  have C1 := Lib.hid (fun (w1 : World) (h1 : Own w0 w1 (storeA gs sb ms :: l)) => And.intro (right_keep (i + 1) h1 hi1) (And.intro (cells_at (i + 1) h1 hi1 10 (.int .i64 fr) rfl) (show Own w0 (w1.setCell ⟨nb, 10, none⟩ (.int .i64 x)) (storeA gs sb ms :: l.set i (cellsA nb #[.int .i64 a, .int .i64 b, .int .i64 c, .int .i64 d, .int .i64 id, .int .i64 se, .int .i64 iter, .int .i64 counter, .int .i64 st, .int .i64 2, .int .i64 x, .bool gt] 107)) from h1.cset (i + 1) hi1 10 (.int .i64 x))))
  have C2 := Lib.hid (fun (w1 : World) (h1 : Own w0 w1 (storeA gs sb ms :: l.set i (cellsA nb #[.int .i64 a, .int .i64 b, .int .i64 c, .int .i64 d, .int .i64 id, .int .i64 se, .int .i64 iter, .int .i64 counter, .int .i64 st, .int .i64 2, .int .i64 x, .bool gt] 107))) => And.intro (right_keep (i + 1) h1 hi2) (And.intro (cells_at (i + 1) h1 hi2 11 (.bool gt) rfl) (show Own w0 (w1.setCell ⟨nb, 11, none⟩ (.bool true)) (storeA gs sb ms :: l.set i (cellsA nb #[.int .i64 a, .int .i64 b, .int .i64 c, .int .i64 d, .int .i64 id, .int .i64 se, .int .i64 iter, .int .i64 counter, .int .i64 st, .int .i64 2, .int .i64 x, .bool true] 107)) from (h1.cset (i + 1) hi2 11 (.bool true)).cast (by rw [List.set_cons_succ, List.set_set]; rfl))))
  have C3 := Lib.hid (fun (w1 : World) (h1 : Own w0 w1 (storeA gs sb ms :: l.set i (cellsA nb #[.int .i64 a, .int .i64 b, .int .i64 c, .int .i64 d, .int .i64 id, .int .i64 se, .int .i64 iter, .int .i64 counter, .int .i64 st, .int .i64 2, .int .i64 x, .bool true] 107))) => And.intro (right_keep (i + 1) h1 hi3) (And.intro (cells_at (i + 1) h1 hi3 9 (.int .i64 2) rfl) (show Own w0 (w1.setCell ⟨nb, 9, none⟩ (.int .i64 3)) (storeA gs sb ms :: l.set i (cellsA nb #[.int .i64 a, .int .i64 b, .int .i64 c, .int .i64 d, .int .i64 id, .int .i64 se, .int .i64 iter, .int .i64 counter, .int .i64 st, .int .i64 3, .int .i64 x, .bool true] 107)) from (h1.cset (i + 1) hi3 9 (.int .i64 3)).cast (by rw [List.set_cons_succ, List.set_set]; rfl))))
  have C4 := Lib.hid (fun (w1 : World) (h1 : Own w0 w1 (storeA gs sb ms :: l.set i (cellsA nb #[.int .i64 a, .int .i64 b, .int .i64 c, .int .i64 d, .int .i64 id, .int .i64 se, .int .i64 iter, .int .i64 counter, .int .i64 st, .int .i64 3, .int .i64 x, .bool true] 107))) => And.intro (right_keep (i + 1) h1 hi4) (cells_at (i + 1) h1 hi4 9 (.int .i64 3) rfl))
  have hB1 := h.drewN 1
  have c9 := (cells_at (i + 1) h hi1 9 (.int .i64 2) rfl).1
  obtain ⟨hS0', _⟩ := C1.out _ hB1
  have hS0 : (fun w' : World => w'.cell? ⟨nb, 0, none⟩ = some (.int .i64 a) ∧ w'.cell? ⟨nb, 1, none⟩ = some (.int .i64 b) ∧ w'.cell? ⟨nb, 2, none⟩ = some (.int .i64 c) ∧ w'.cell? ⟨nb, 3, none⟩ = some (.int .i64 d) ∧ w'.cell? ⟨nb, 4, none⟩ = some (.int .i64 id) ∧ w'.cell? ⟨nb, 5, none⟩ = some (.int .i64 se) ∧ w'.cell? ⟨nb, 6, none⟩ = some (.int .i64 iter) ∧ w'.cell? ⟨nb, 7, none⟩ = some (.int .i64 counter) ∧ w'.cell? ⟨nb, 8, none⟩ = some (.int .i64 st)) w.drew := hS0'
  clear hi hi1 hi2 hi3 hi4 ok hat hl hx h hS0'
  go_enter Try.func44, Try.ntmps44
  go_wp2_with fail
  refine lin_start (S := (fun w' : World => w'.cell? ⟨nb, 0, none⟩ = some (.int .i64 a) ∧ w'.cell? ⟨nb, 1, none⟩ = some (.int .i64 b) ∧ w'.cell? ⟨nb, 2, none⟩ = some (.int .i64 c) ∧ w'.cell? ⟨nb, 3, none⟩ = some (.int .i64 d) ∧ w'.cell? ⟨nb, 4, none⟩ = some (.int .i64 id) ∧ w'.cell? ⟨nb, 5, none⟩ = some (.int .i64 se) ∧ w'.cell? ⟨nb, 6, none⟩ = some (.int .i64 iter) ∧ w'.cell? ⟨nb, 7, none⟩ = some (.int .i64 counter) ∧ w'.cell? ⟨nb, 8, none⟩ = some (.int .i64 st))) rfl 22 rfl hS0 ?_
  simp only [numbered, Nat.zero_add, Nat.reduceAdd]
  refine lin_take (v := ?_) (by kernel_rfl) (by kernel_rfl) (fun _ _ _ h => h) (Or.inl ⟨by rfl, ?_⟩) (by assumption) ?_; (rotate_left; (intro wS hSw; (try dsimp only at hSw); go_simp; (try with_reducible rfl)); rotate_left); simp only [Act.put, List.setIfInBounds_toArray, List.set_cons_zero, List.set_cons_succ]
  refine lin_take (v := ?_) (by kernel_rfl) (by kernel_rfl) (fun _ _ _ h => h) (Or.inl ⟨by rfl, ?_⟩) (by assumption) ?_; (rotate_left; (intro wS hSw; (try dsimp only at hSw); go_simp; (try with_reducible rfl)); rotate_left); simp only [Act.put, List.setIfInBounds_toArray, List.set_cons_zero, List.set_cons_succ]
  refine lin_take (v := ?_) (by kernel_rfl) (by kernel_rfl) (fun _ _ _ h => h) (Or.inl ⟨by rfl, ?_⟩) (by assumption) ?_; (rotate_left; (intro wS hSw; (try dsimp only at hSw); go_simp; (try with_reducible rfl)); rotate_left); simp only [Act.put, List.setIfInBounds_toArray, List.set_cons_zero, List.set_cons_succ]
  refine lin_take (v := ?_) (by kernel_rfl) (by kernel_rfl) (fun _ _ _ h => h) (Or.inl ⟨by rfl, ?_⟩) (by assumption) ?_; (rotate_left; (intro wS hSw; (try dsimp only at hSw); go_simp; (try with_reducible rfl)); rotate_left); simp only [Act.put, List.setIfInBounds_toArray, List.set_cons_zero, List.set_cons_succ]
  refine lin_take (v := ?_) (by kernel_rfl) (by kernel_rfl) (fun _ _ _ h => h) (Or.inl ⟨by rfl, ?_⟩) (by assumption) ?_; (rotate_left; (intro wS hSw; (try dsimp only at hSw); go_simp; (try with_reducible rfl)); rotate_left); simp only [Act.put, List.setIfInBounds_toArray, List.set_cons_zero, List.set_cons_succ]
  refine lin_take (v := ?_) (by kernel_rfl) (by kernel_rfl) (fun _ _ _ h => h) (Or.inl ⟨by rfl, ?_⟩) (by assumption) ?_; (rotate_left; (intro wS hSw; (try dsimp only at hSw); go_simp; (try with_reducible rfl)); rotate_left); simp only [Act.put, List.setIfInBounds_toArray, List.set_cons_zero, List.set_cons_succ]
  refine lin_take (v := ?_) (by kernel_rfl) (by kernel_rfl) (fun _ _ _ h => h) (Or.inl ⟨by rfl, ?_⟩) (by assumption) ?_; (rotate_left; (intro wS hSw; (try dsimp only at hSw); go_simp; (try with_reducible rfl)); rotate_left); simp only [Act.put, List.setIfInBounds_toArray, List.set_cons_zero, List.set_cons_succ]
  refine lin_take (v := ?_) (by kernel_rfl) (by kernel_rfl) (fun _ _ _ h => h) (Or.inl ⟨by rfl, ?_⟩) (by assumption) ?_; (rotate_left; (intro wS hSw; (try dsimp only at hSw); go_simp; (try with_reducible rfl)); rotate_left); simp only [Act.put, List.setIfInBounds_toArray, List.set_cons_zero, List.set_cons_succ]
  refine lin_take (v := ?_) (by kernel_rfl) (by kernel_rfl) (fun _ _ _ h => h) (Or.inl ⟨by rfl, ?_⟩) (by assumption) ?_; (rotate_left; (intro wS hSw; (try dsimp only at hSw); go_simp; (try with_reducible rfl)); rotate_left); simp only [Act.put, List.setIfInBounds_toArray, List.set_cons_zero, List.set_cons_succ]
  refine lin_take (v := ?_) (by kernel_rfl) (by kernel_rfl) (fun _ _ _ h => h) (Or.inl ⟨by rfl, ?_⟩) (by assumption) ?_; (rotate_left; (intro wS hSw; (try dsimp only at hSw); go_simp; (try with_reducible rfl)); rotate_left); simp only [Act.put, List.setIfInBounds_toArray, List.set_cons_zero, List.set_cons_succ]
  refine lin_take (v := ?_) (by kernel_rfl) (by kernel_rfl) (fun _ _ _ h => h) (Or.inl ⟨by rfl, ?_⟩) (by assumption) ?_; (rotate_left; (intro wS hSw; (try dsimp only at hSw); go_simp; (try with_reducible rfl)); rotate_left); simp only [Act.put, List.setIfInBounds_toArray, List.set_cons_zero, List.set_cons_succ]
  refine lin_take (v := ?_) (by kernel_rfl) (by kernel_rfl) (fun _ _ _ h => h) (Or.inl ⟨by rfl, ?_⟩) (by assumption) ?_; (rotate_left; (intro wS hSw; (try dsimp only at hSw); go_simp; (try with_reducible rfl)); rotate_left); simp only [Act.put, List.setIfInBounds_toArray, List.set_cons_zero, List.set_cons_succ]
  refine lin_sole (by kernel_rfl) (fun K hK => ?_)
  go_simp
  refine (R.out _ hB1).mono ?_
  rintro e w1 ⟨rfl, h1⟩
  obtain ⟨⟨s0, s1, s2, s3, s4, s5, s6, s7, s8⟩, ⟨g10, k10⟩, h2⟩ := C1.out _ h1
  refine hK.out _ _ ?_ (fun hHeld => ?_)
  · exact ⟨s0, s1, s2, s3, s4, s5, s6, s7, s8⟩
  try simp only [Act.put, List.setIfInBounds_toArray, List.set_cons_zero, List.set_cons_succ]
  refine lin_take (v := ?_) (by kernel_rfl) (by kernel_rfl) (fun _ _ _ h => h) (Or.inl ⟨by rfl, ?_⟩) (by assumption) ?_; (rotate_left; (intro wS hSw; (try dsimp only at hSw); go_simp; (try with_reducible rfl)); rotate_left); simp only [Act.put, List.setIfInBounds_toArray, List.set_cons_zero, List.set_cons_succ]
  refine lin_take (v := ?_) (by kernel_rfl) (by kernel_rfl) (fun _ _ _ h => h) (Or.inl ⟨by rfl, ?_⟩) (by assumption) ?_; (rotate_left; (intro wS hSw; (try dsimp only at hSw); go_simp; (try with_reducible rfl)); rotate_left); simp only [Act.put, List.setIfInBounds_toArray, List.set_cons_zero, List.set_cons_succ]
  obtain ⟨z0, ⟨g11, k11⟩, h3⟩ := C2.out _ h2
  clear s0 s1 s2 s3 s4 s5 s6 s7 s8
  refine lin_sole (by kernel_rfl) (fun K hK => ?_)
  go_simp
  refine hK.out _ _ ?_ (fun hHeld => ?_)
  · exact z0
  try simp only [Act.put, List.setIfInBounds_toArray, List.set_cons_zero, List.set_cons_succ]
  refine lin_take (v := ?_) (by kernel_rfl) (by kernel_rfl) (fun _ _ _ h => h) (Or.inl ⟨by rfl, ?_⟩) (by assumption) ?_; (rotate_left; (intro wS hSw; (try dsimp only at hSw); go_simp; (try with_reducible rfl)); rotate_left); simp only [Act.put, List.setIfInBounds_toArray, List.set_cons_zero, List.set_cons_succ]
  refine lin_take (v := ?_) (by kernel_rfl) (by kernel_rfl) (fun _ _ _ h => h) (Or.inl ⟨by rfl, ?_⟩) (by assumption) ?_; (rotate_left; (intro wS hSw; (try dsimp only at hSw); go_simp; (try with_reducible rfl)); rotate_left); simp only [Act.put, List.setIfInBounds_toArray, List.set_cons_zero, List.set_cons_succ]
  obtain ⟨z0, ⟨g9, k9⟩, h4⟩ := C3.out _ h3
  refine lin_sole (by kernel_rfl) (fun K hK => ?_)
  go_simp
  refine hK.out _ _ ?_ (fun hHeld => ?_)
  · exact z0
  try simp only [Act.put, List.setIfInBounds_toArray, List.set_cons_zero, List.set_cons_succ]
  refine lin_take (v := ?_) (by kernel_rfl) (by kernel_rfl) (fun _ _ _ h => h) (Or.inl ⟨by rfl, ?_⟩) (by assumption) ?_; (rotate_left; (intro wS hSw; (try dsimp only at hSw); go_simp; (try with_reducible rfl)); rotate_left); simp only [Act.put, List.setIfInBounds_toArray, List.set_cons_zero, List.set_cons_succ]
  refine lin_take (v := ?_) (by kernel_rfl) (by kernel_rfl) (fun _ _ _ h => h) (Or.inl ⟨by rfl, ?_⟩) (by assumption) ?_; (rotate_left; (intro wS hSw; (try dsimp only at hSw); go_simp; (try with_reducible rfl)); rotate_left); simp only [Act.put, List.setIfInBounds_toArray, List.set_cons_zero, List.set_cons_succ]
  obtain ⟨z0, g99, _⟩ := C4.out _ h4
  have h5 := h4
  refine lin_sole (by kernel_rfl) (fun K hK => ?_)
  go_simp
  refine hK.out _ _ ?_ (fun hHeld => ?_)
  · exact z0
  try simp only [Act.put, List.setIfInBounds_toArray, List.set_cons_zero, List.set_cons_succ]
  refine lin_done (by kernel_rfl) ?_
  clear hHeld hS0 c9 hB1 h1 z0 g10 k10 g11 k11 g9 k9 h2 h3
  go_wp2_with fail
  go_ret
  exact ⟨rfl, h5⟩
theorem park_step0 {w0 w : World} {l : List Ast} {gs sb nb : Nat} {ms : List Int} {a b c d : Int} (id se iter : Int) {st : Int} {bk : Bool} (ok : okPlan a b c d = true) (i : Nat) (h : Own w0 w (storeA gs sb ms :: l)) (hi : l[i]? = some (cellsA nb #[.int .i64 a, .int .i64 b, .int .i64 c, .int .i64 d, .int .i64 id, .int .i64 se, .int .i64 iter, .int .i64 st, .int .i64 0, .bool bk] 109)) {at0 : Nat} (hat : wordV a b c d id iter 1 = (at0 : Int)) (hl : at0 < ms.length) (tk : Int) (htk : tokV se iter st = tk) (ms' : List Int) (hm : ms.set at0 tk = ms') :
    Calls Try.prog 46 #[.pointer (some ⟨nb, 0, none⟩), .pointer (some ⟨gs, 0, none⟩)] w fun e w' => e = .returned (.bool false) ∧ Own w0 w' (storeA gs sb ms' :: l.set i (cellsA nb #[.int .i64 a, .int .i64 b, .int .i64 c, .int .i64 d, .int .i64 id, .int .i64 se, .int .i64 iter, .int .i64 st, .int .i64 1, .bool bk] 109)) := by
  have hi1 : ∀ m, (storeA gs sb m :: l)[i + 1]? = some (cellsA nb #[.int .i64 a, .int .i64 b, .int .i64 c, .int .i64 d, .int .i64 id, .int .i64 se, .int .i64 iter, .int .i64 st, .int .i64 0, .bool bk] 109) := fun m => hi
  have R := Lib.hid (fun (w1 : World) (h1 : Own w0 w1 (storeA gs sb ms :: l)) => r_wait h1 ok id se iter st hat hl tk htk ms' hm)
  have C := Lib.hid (fun (w1 : World) (m : List Int) (h1 : Own w0 w1 (storeA gs sb m :: l)) => And.intro (park_keep (i + 1) h1 (hi1 m)) (And.intro (cells_at (i + 1) h1 (hi1 m) 8 (.int .i64 0) rfl) (show Own w0 (w1.setCell ⟨nb, 8, none⟩ (.int .i64 1)) (storeA gs sb m :: l.set i (cellsA nb #[.int .i64 a, .int .i64 b, .int .i64 c, .int .i64 d, .int .i64 id, .int .i64 se, .int .i64 iter, .int .i64 st, .int .i64 1, .bool bk] 109)) from h1.cset (i + 1) (hi1 m) 8 (.int .i64 1))))
  have hB1 := h.drewN 1
  have c8 := (cells_at (i + 1) h (hi1 ms) 8 (.int .i64 0) rfl).1
  obtain ⟨hS0', _⟩ := C.out _ _ hB1
  have hS0 : (fun w' : World => w'.cell? ⟨nb, 0, none⟩ = some (.int .i64 a) ∧ w'.cell? ⟨nb, 1, none⟩ = some (.int .i64 b) ∧ w'.cell? ⟨nb, 2, none⟩ = some (.int .i64 c) ∧ w'.cell? ⟨nb, 3, none⟩ = some (.int .i64 d) ∧ w'.cell? ⟨nb, 4, none⟩ = some (.int .i64 id) ∧ w'.cell? ⟨nb, 5, none⟩ = some (.int .i64 se) ∧ w'.cell? ⟨nb, 6, none⟩ = some (.int .i64 iter) ∧ w'.cell? ⟨nb, 7, none⟩ = some (.int .i64 st)) w.drew := hS0'
  clear hi hi1 ok hat hl htk hm h hS0'
  go_enter Try.func46, Try.ntmps46
  go_wp2_with fail
  refine lin_start (S := (fun w' : World => w'.cell? ⟨nb, 0, none⟩ = some (.int .i64 a) ∧ w'.cell? ⟨nb, 1, none⟩ = some (.int .i64 b) ∧ w'.cell? ⟨nb, 2, none⟩ = some (.int .i64 c) ∧ w'.cell? ⟨nb, 3, none⟩ = some (.int .i64 d) ∧ w'.cell? ⟨nb, 4, none⟩ = some (.int .i64 id) ∧ w'.cell? ⟨nb, 5, none⟩ = some (.int .i64 se) ∧ w'.cell? ⟨nb, 6, none⟩ = some (.int .i64 iter) ∧ w'.cell? ⟨nb, 7, none⟩ = some (.int .i64 st))) rfl 14 rfl hS0 ?_
  simp only [numbered, Nat.zero_add, Nat.reduceAdd]
  refine lin_take (v := ?_) (by kernel_rfl) (by kernel_rfl) (fun _ _ _ h => h) (Or.inl ⟨by rfl, ?_⟩) (by assumption) ?_; (rotate_left; (intro wS hSw; (try dsimp only at hSw); go_simp; (try with_reducible rfl)); rotate_left); simp only [Act.put, List.setIfInBounds_toArray, List.set_cons_zero, List.set_cons_succ]
  refine lin_take (v := ?_) (by kernel_rfl) (by kernel_rfl) (fun _ _ _ h => h) (Or.inl ⟨by rfl, ?_⟩) (by assumption) ?_; (rotate_left; (intro wS hSw; (try dsimp only at hSw); go_simp; (try with_reducible rfl)); rotate_left); simp only [Act.put, List.setIfInBounds_toArray, List.set_cons_zero, List.set_cons_succ]
  refine lin_take (v := ?_) (by kernel_rfl) (by kernel_rfl) (fun _ _ _ h => h) (Or.inl ⟨by rfl, ?_⟩) (by assumption) ?_; (rotate_left; (intro wS hSw; (try dsimp only at hSw); go_simp; (try with_reducible rfl)); rotate_left); simp only [Act.put, List.setIfInBounds_toArray, List.set_cons_zero, List.set_cons_succ]
  refine lin_take (v := ?_) (by kernel_rfl) (by kernel_rfl) (fun _ _ _ h => h) (Or.inl ⟨by rfl, ?_⟩) (by assumption) ?_; (rotate_left; (intro wS hSw; (try dsimp only at hSw); go_simp; (try with_reducible rfl)); rotate_left); simp only [Act.put, List.setIfInBounds_toArray, List.set_cons_zero, List.set_cons_succ]
  refine lin_take (v := ?_) (by kernel_rfl) (by kernel_rfl) (fun _ _ _ h => h) (Or.inl ⟨by rfl, ?_⟩) (by assumption) ?_; (rotate_left; (intro wS hSw; (try dsimp only at hSw); go_simp; (try with_reducible rfl)); rotate_left); simp only [Act.put, List.setIfInBounds_toArray, List.set_cons_zero, List.set_cons_succ]
  refine lin_take (v := ?_) (by kernel_rfl) (by kernel_rfl) (fun _ _ _ h => h) (Or.inl ⟨by rfl, ?_⟩) (by assumption) ?_; (rotate_left; (intro wS hSw; (try dsimp only at hSw); go_simp; (try with_reducible rfl)); rotate_left); simp only [Act.put, List.setIfInBounds_toArray, List.set_cons_zero, List.set_cons_succ]
  refine lin_take (v := ?_) (by kernel_rfl) (by kernel_rfl) (fun _ _ _ h => h) (Or.inl ⟨by rfl, ?_⟩) (by assumption) ?_; (rotate_left; (intro wS hSw; (try dsimp only at hSw); go_simp; (try with_reducible rfl)); rotate_left); simp only [Act.put, List.setIfInBounds_toArray, List.set_cons_zero, List.set_cons_succ]
  refine lin_take (v := ?_) (by kernel_rfl) (by kernel_rfl) (fun _ _ _ h => h) (Or.inl ⟨by rfl, ?_⟩) (by assumption) ?_; (rotate_left; (intro wS hSw; (try dsimp only at hSw); go_simp; (try with_reducible rfl)); rotate_left); simp only [Act.put, List.setIfInBounds_toArray, List.set_cons_zero, List.set_cons_succ]
  refine lin_take (v := ?_) (by kernel_rfl) (by kernel_rfl) (fun _ _ _ h => h) (Or.inl ⟨by rfl, ?_⟩) (by assumption) ?_; (rotate_left; (intro wS hSw; (try dsimp only at hSw); go_simp; (try with_reducible rfl)); rotate_left); simp only [Act.put, List.setIfInBounds_toArray, List.set_cons_zero, List.set_cons_succ]
  refine lin_take (v := ?_) (by kernel_rfl) (by kernel_rfl) (fun _ _ _ h => h) (Or.inl ⟨by rfl, ?_⟩) (by assumption) ?_; (rotate_left; (intro wS hSw; (try dsimp only at hSw); go_simp; (try with_reducible rfl)); rotate_left); simp only [Act.put, List.setIfInBounds_toArray, List.set_cons_zero, List.set_cons_succ]
  refine lin_take (v := ?_) (by kernel_rfl) (by kernel_rfl) (fun _ _ _ h => h) (Or.inl ⟨by rfl, ?_⟩) (by assumption) ?_; (rotate_left; (intro wS hSw; (try dsimp only at hSw); go_simp; (try with_reducible rfl)); rotate_left); simp only [Act.put, List.setIfInBounds_toArray, List.set_cons_zero, List.set_cons_succ]
  refine lin_take (v := ?_) (by kernel_rfl) (by kernel_rfl) (fun _ _ _ h => h) (Or.inl ⟨by rfl, ?_⟩) (by assumption) ?_; (rotate_left; (intro wS hSw; (try dsimp only at hSw); go_simp; (try with_reducible rfl)); rotate_left); simp only [Act.put, List.setIfInBounds_toArray, List.set_cons_zero, List.set_cons_succ]
  refine lin_take (v := ?_) (by kernel_rfl) (by kernel_rfl) (fun _ _ _ h => h) (Or.inl ⟨by rfl, ?_⟩) (by assumption) ?_; (rotate_left; (intro wS hSw; (try dsimp only at hSw); go_simp; (try with_reducible rfl)); rotate_left); simp only [Act.put, List.setIfInBounds_toArray, List.set_cons_zero, List.set_cons_succ]
  refine lin_sole (by kernel_rfl) (fun K hK => ?_)
  go_simp
  refine (R.out _ hB1).mono ?_
  rintro e w1 ⟨rfl, h1⟩
  obtain ⟨hS1, ⟨g8, k8⟩, h2⟩ := C.out _ _ h1
  refine hK.out _ _ ?_ (fun hHeld => ?_)
  · exact hS1
  try simp only [Act.put, List.setIfInBounds_toArray, List.set_cons_zero, List.set_cons_succ]
  refine lin_done (by kernel_rfl) ?_
  clear hHeld hS0 c8 hB1 hS1
  go_wp2_with fail
  go_ret
  exact ⟨rfl, h2⟩
theorem park_step1 {w0 w : World} {l : List Ast} {gs sb nb : Nat} {ms : List Int} {a b c d : Int} (id se iter : Int) {st : Int} {bk : Bool} (ok : okPlan a b c d = true) (i : Nat) (h : Own w0 w (storeA gs sb ms :: l)) (hi : l[i]? = some (cellsA nb #[.int .i64 a, .int .i64 b, .int .i64 c, .int .i64 d, .int .i64 id, .int .i64 se, .int .i64 iter, .int .i64 st, .int .i64 1, .bool bk] 109)) (it1 : Int) (hw : wrap64 (iter - 1) = it1) {at0 : Nat} (hat : wordV a b c d id it1 0 = (at0 : Int)) (hl : at0 < ms.length) (x : Int) (hx : ms.getD at0 0 = x) (m : Bool) (hm : decide (st < x) = m) (nx : Int) (r : Bool) (hr : m = true ∧ nx = 2 ∧ r = false ∨ m = false ∧ nx = 3 ∧ r = true) :
    Calls Try.prog 46 #[.pointer (some ⟨nb, 0, none⟩), .pointer (some ⟨gs, 0, none⟩)] w fun e w' => e = .returned (.bool r) ∧ Own w0 w' (storeA gs sb ms :: l.set i (cellsA nb #[.int .i64 a, .int .i64 b, .int .i64 c, .int .i64 d, .int .i64 id, .int .i64 se, .int .i64 iter, .int .i64 st, .int .i64 nx, .bool bk] 109)) := by
  have hi1 : (storeA gs sb ms :: l)[i + 1]? = some (cellsA nb #[.int .i64 a, .int .i64 b, .int .i64 c, .int .i64 d, .int .i64 id, .int .i64 se, .int .i64 iter, .int .i64 st, .int .i64 1, .bool bk] 109) := hi
  have R := Lib.hid (fun (w1 : World) (h1 : Own w0 w1 (storeA gs sb ms :: l)) => r_come h1 ok id se it1 hat hl x hx)
  have C := Lib.hid (fun (w1 : World) (h1 : Own w0 w1 (storeA gs sb ms :: l)) => And.intro (park_keep (i + 1) h1 hi1) (And.intro (cells_at (i + 1) h1 hi1 8 (.int .i64 1) rfl) (show Own w0 (w1.setCell ⟨nb, 8, none⟩ (.int .i64 nx)) (storeA gs sb ms :: l.set i (cellsA nb #[.int .i64 a, .int .i64 b, .int .i64 c, .int .i64 d, .int .i64 id, .int .i64 se, .int .i64 iter, .int .i64 st, .int .i64 nx, .bool bk] 109)) from h1.cset (i + 1) hi1 8 (.int .i64 nx))))
  have C2 := Lib.hid (fun (w1 : World) (h1 : Own w0 w1 (storeA gs sb ms :: l.set i (cellsA nb #[.int .i64 a, .int .i64 b, .int .i64 c, .int .i64 d, .int .i64 id, .int .i64 se, .int .i64 iter, .int .i64 st, .int .i64 nx, .bool bk] 109))) => And.intro (park_keep (i + 1) h1 (by rw [List.getElem?_cons_succ, List.getElem?_set_self (List.getElem?_eq_some_iff.1 hi).1])) (cells_at (i + 1) h1 (by rw [List.getElem?_cons_succ, List.getElem?_set_self (List.getElem?_eq_some_iff.1 hi).1]) 8 (.int .i64 nx) rfl))
  have hB1 := h.drewN 1
  have c8 := (cells_at (i + 1) h hi1 8 (.int .i64 1) rfl).1
  obtain ⟨hS0', _⟩ := C.out _ hB1
  have hS0 : (fun w' : World => w'.cell? ⟨nb, 0, none⟩ = some (.int .i64 a) ∧ w'.cell? ⟨nb, 1, none⟩ = some (.int .i64 b) ∧ w'.cell? ⟨nb, 2, none⟩ = some (.int .i64 c) ∧ w'.cell? ⟨nb, 3, none⟩ = some (.int .i64 d) ∧ w'.cell? ⟨nb, 4, none⟩ = some (.int .i64 id) ∧ w'.cell? ⟨nb, 5, none⟩ = some (.int .i64 se) ∧ w'.cell? ⟨nb, 6, none⟩ = some (.int .i64 iter) ∧ w'.cell? ⟨nb, 7, none⟩ = some (.int .i64 st)) w.drew := hS0'
  have GO := Lib.hid (fun w1 => goes_any m 2 nx (by rcases hr with ⟨rfl, rfl, _⟩ | ⟨rfl, rfl, _⟩ <;> rfl) w1)
  have hw2 : IntKind.i64.wrap (iter - 1) = it1 := by rw [IntWalk.i64_left]; exact hw
  clear hi hi1 ok hat hl hx h hS0'
  rcases hr with ⟨rfl, rfl, rfl⟩ | ⟨rfl, rfl, rfl⟩
  all_goals
    go_enter Try.func46, Try.ntmps46
    go_wp2_with fail
    refine lin_start (S := (fun w' : World => w'.cell? ⟨nb, 0, none⟩ = some (.int .i64 a) ∧ w'.cell? ⟨nb, 1, none⟩ = some (.int .i64 b) ∧ w'.cell? ⟨nb, 2, none⟩ = some (.int .i64 c) ∧ w'.cell? ⟨nb, 3, none⟩ = some (.int .i64 d) ∧ w'.cell? ⟨nb, 4, none⟩ = some (.int .i64 id) ∧ w'.cell? ⟨nb, 5, none⟩ = some (.int .i64 se) ∧ w'.cell? ⟨nb, 6, none⟩ = some (.int .i64 iter) ∧ w'.cell? ⟨nb, 7, none⟩ = some (.int .i64 st))) rfl 21 rfl hS0 ?_
    simp only [numbered, Nat.zero_add, Nat.reduceAdd]
    refine lin_take (v := ?_) (by kernel_rfl) (by kernel_rfl) (fun _ _ _ h => h) (Or.inl ⟨by rfl, ?_⟩) (by assumption) ?_; (rotate_left; (intro wS hSw; (try dsimp only at hSw); go_simp; (try with_reducible rfl)); rotate_left); simp only [Act.put, List.setIfInBounds_toArray, List.set_cons_zero, List.set_cons_succ]
    refine lin_take (v := ?_) (by kernel_rfl) (by kernel_rfl) (fun _ _ _ h => h) (Or.inl ⟨by rfl, ?_⟩) (by assumption) ?_; (rotate_left; (intro wS hSw; (try dsimp only at hSw); go_simp; (try with_reducible rfl)); rotate_left); simp only [Act.put, List.setIfInBounds_toArray, List.set_cons_zero, List.set_cons_succ]
    refine lin_take (v := ?_) (by kernel_rfl) (by kernel_rfl) (fun _ _ _ h => h) (Or.inl ⟨by rfl, ?_⟩) (by assumption) ?_; (rotate_left; (intro wS hSw; (try dsimp only at hSw); go_simp; (try with_reducible rfl)); rotate_left); simp only [Act.put, List.setIfInBounds_toArray, List.set_cons_zero, List.set_cons_succ]
    refine lin_take (v := ?_) (by kernel_rfl) (by kernel_rfl) (fun _ _ _ h => h) (Or.inl ⟨by rfl, ?_⟩) (by assumption) ?_; (rotate_left; (intro wS hSw; (try dsimp only at hSw); go_simp; (try with_reducible rfl)); rotate_left); simp only [Act.put, List.setIfInBounds_toArray, List.set_cons_zero, List.set_cons_succ]
    refine lin_take (v := ?_) (by kernel_rfl) (by kernel_rfl) (fun _ _ _ h => h) (Or.inl ⟨by rfl, ?_⟩) (by assumption) ?_; (rotate_left; (intro wS hSw; (try dsimp only at hSw); go_simp; (try with_reducible rfl)); rotate_left); simp only [Act.put, List.setIfInBounds_toArray, List.set_cons_zero, List.set_cons_succ]
    refine lin_take (v := ?_) (by kernel_rfl) (by kernel_rfl) (fun _ _ _ h => h) (Or.inl ⟨by rfl, ?_⟩) (by assumption) ?_; (rotate_left; (intro wS hSw; (try dsimp only at hSw); go_simp; (try with_reducible rfl)); rotate_left); simp only [Act.put, List.setIfInBounds_toArray, List.set_cons_zero, List.set_cons_succ]
    refine lin_take (v := ?_) (by kernel_rfl) (by kernel_rfl) (fun _ _ _ h => h) (Or.inl ⟨by rfl, ?_⟩) (by assumption) ?_; (rotate_left; (intro wS hSw; (try dsimp only at hSw); go_simp; (try with_reducible rfl)); rotate_left); simp only [Act.put, List.setIfInBounds_toArray, List.set_cons_zero, List.set_cons_succ]
    refine lin_take (v := ?_) (by kernel_rfl) (by kernel_rfl) (fun _ _ _ h => h) (Or.inl ⟨by rfl, ?_⟩) (by assumption) ?_; (rotate_left; (intro wS hSw; (try dsimp only at hSw); go_simp; (try with_reducible rfl)); rotate_left); simp only [Act.put, List.setIfInBounds_toArray, List.set_cons_zero, List.set_cons_succ]
    refine lin_take (v := ?_) (by kernel_rfl) (by kernel_rfl) (fun _ _ _ h => h) (Or.inl ⟨by rfl, ?_⟩) (by assumption) ?_; (rotate_left; (intro wS hSw; (try dsimp only at hSw); go_simp; (try with_reducible rfl)); rotate_left); simp only [Act.put, List.setIfInBounds_toArray, List.set_cons_zero, List.set_cons_succ]
    refine lin_take (v := ?_) (by kernel_rfl) (by kernel_rfl) (fun _ _ _ h => h) (Or.inl ⟨by rfl, ?_⟩) (by assumption) ?_; (rotate_left; (intro wS hSw; (try dsimp only at hSw); go_simp; (try with_reducible rfl)); rotate_left); simp only [Act.put, List.setIfInBounds_toArray, List.set_cons_zero, List.set_cons_succ]
    refine lin_take (v := ?_) (by kernel_rfl) (by kernel_rfl) (fun _ _ _ h => h) (Or.inl ⟨by rfl, ?_⟩) (by assumption) ?_; (rotate_left; (intro wS hSw; (try dsimp only at hSw); go_simp; (try with_reducible rfl)); rotate_left); simp only [Act.put, List.setIfInBounds_toArray, List.set_cons_zero, List.set_cons_succ]
    refine lin_rot ?_; simp only [List.cons_append, List.nil_append]
    refine lin_take (v := ?_) (by kernel_rfl) (by kernel_rfl) (fun _ _ _ h => h) (Or.inl ⟨by rfl, ?_⟩) (by assumption) ?_; (rotate_left; (intro wS hSw; (try dsimp only at hSw); go_simp; (try with_reducible rfl)); rotate_left); simp only [Act.put, List.setIfInBounds_toArray, List.set_cons_zero, List.set_cons_succ]
    refine lin_take (v := ?_) (by kernel_rfl) (by kernel_rfl) (fun _ _ _ h => h) (Or.inl ⟨by rfl, ?_⟩) (by assumption) ?_; (rotate_left; (intro wS hSw; (try dsimp only at hSw); go_simp; (try with_reducible rfl)); rotate_left); simp only [Act.put, List.setIfInBounds_toArray, List.set_cons_zero, List.set_cons_succ]
    refine lin_take (v := ?_) (by kernel_rfl) (by kernel_rfl) (fun _ _ _ h => h) (Or.inl ⟨by rfl, ?_⟩) (by assumption) ?_; (rotate_left; (intro wS hSw; (try dsimp only at hSw); go_simp; (try with_reducible rfl)); rotate_left); simp only [Act.put, List.setIfInBounds_toArray, List.set_cons_zero, List.set_cons_succ]
    refine lin_take (v := ?_) (by kernel_rfl) (by kernel_rfl) (fun _ _ _ h => h) (Or.inl ⟨by rfl, ?_⟩) (by assumption) ?_; (rotate_left; (intro wS hSw; (try dsimp only at hSw); go_simp; (try with_reducible rfl)); rotate_left); simp only [Act.put, List.setIfInBounds_toArray, List.set_cons_zero, List.set_cons_succ]
    refine lin_rot ?_; simp only [List.cons_append, List.nil_append]
    refine lin_rot ?_; simp only [List.cons_append, List.nil_append]
    refine lin_rot ?_; simp only [List.cons_append, List.nil_append]
    refine lin_rot ?_; simp only [List.cons_append, List.nil_append]
    refine lin_rot ?_; simp only [List.cons_append, List.nil_append]
    refine lin_sole (by kernel_rfl) (fun K hK => ?_)
    go_simp
    refine (R.out _ hB1).mono ?_
    rintro e w1 ⟨rfl, h1⟩
    obtain ⟨⟨s0, s1, s2, s3, s4, s5, s6, s7⟩, ⟨g8, f8⟩, h2⟩ := C.out _ h1
    obtain ⟨z0, z8, _⟩ := C2.out _ h2
    refine hK.out _ _ ?_ (fun hHeld => ?_)
    · exact ⟨s0, s1, s2, s3, s4, s5, s6, s7⟩
    try simp only [Act.put, List.setIfInBounds_toArray, List.set_cons_zero, List.set_cons_succ]
    refine lin_take (v := ?_) (by kernel_rfl) (by kernel_rfl) (fun _ _ _ h => h) (Or.inl ⟨by rfl, ?_⟩) (by assumption) ?_; (rotate_left; (intro wS hSw; (try dsimp only at hSw); go_simp; (try with_reducible rfl)); rotate_left); simp only [Act.put, List.setIfInBounds_toArray, List.set_cons_zero, List.set_cons_succ]
    refine lin_sole (by kernel_rfl) (fun K hK => ?_)
    go_simp
    refine (GO.out _).mono ?_
    rintro e w2 ⟨rfl, rfl⟩
    refine hK.out _ _ ?_ (fun hHeld => ?_)
    · exact ⟨s0, s1, s2, s3, s4, s5, s6, s7⟩
    try simp only [Act.put, List.setIfInBounds_toArray, List.set_cons_zero, List.set_cons_succ]
    refine lin_take (v := ?_) (by kernel_rfl) (by kernel_rfl) (fun _ _ _ h => h) (Or.inl ⟨by rfl, ?_⟩) (by assumption) ?_; (rotate_left; (intro wS hSw; (try dsimp only at hSw); go_simp; (try with_reducible rfl)); rotate_left); simp only [Act.put, List.setIfInBounds_toArray, List.set_cons_zero, List.set_cons_succ]
    refine lin_take (v := ?_) (by kernel_rfl) (by kernel_rfl) (fun _ _ _ h => h) (Or.inl ⟨by rfl, ?_⟩) (by assumption) ?_; (rotate_left; (intro wS hSw; (try dsimp only at hSw); go_simp; (try with_reducible rfl)); rotate_left); simp only [Act.put, List.setIfInBounds_toArray, List.set_cons_zero, List.set_cons_succ]
    clear s0 s1 s2 s3 s4 s5 s6 s7
    refine lin_sole (by kernel_rfl) (fun K hK => ?_)
    go_simp
    refine hK.out _ _ ?_ (fun hHeld => ?_)
    · exact z0
    try simp only [Act.put, List.setIfInBounds_toArray, List.set_cons_zero, List.set_cons_succ]
    refine lin_done (by kernel_rfl) ?_
    clear hHeld hS0 c8 hB1 h1 z0 g8 f8
    go_wp2_with fail
    go_ret
    exact ⟨rfl, h2⟩
theorem park_step2_yes {w0 w : World} {l : List Ast} {gs sb nb : Nat} {ms : List Int} {a b c d : Int} (id se iter : Int) {st : Int} {bk : Bool} (ok : okPlan a b c d = true) (i : Nat) (h : Own w0 w (storeA gs sb ms :: l)) (hi : l[i]? = some (cellsA nb #[.int .i64 a, .int .i64 b, .int .i64 c, .int .i64 d, .int .i64 id, .int .i64 se, .int .i64 iter, .int .i64 st, .int .i64 2, .bool bk] 109)) {at0 : Nat} (hat : wordV a b c d id iter 1 = (at0 : Int)) (hl : at0 < ms.length) (tk : Int) (htk : tokV se iter st = tk) (hx : ms.getD at0 0 = tk) (ms' : List Int) (hm : ms.set at0 0 = ms') :
    Calls Try.prog 46 #[.pointer (some ⟨nb, 0, none⟩), .pointer (some ⟨gs, 0, none⟩)] w fun e w' => e = .returned (.bool true) ∧ Own w0 w' (storeA gs sb ms' :: l.set i (cellsA nb #[.int .i64 a, .int .i64 b, .int .i64 c, .int .i64 d, .int .i64 id, .int .i64 se, .int .i64 iter, .int .i64 st, .int .i64 3, .bool true] 109)) := by
  have hi1 : ∀ m, (storeA gs sb m :: l)[i + 1]? = some (cellsA nb #[.int .i64 a, .int .i64 b, .int .i64 c, .int .i64 d, .int .i64 id, .int .i64 se, .int .i64 iter, .int .i64 st, .int .i64 2, .bool bk] 109) := fun m => hi
  have hi2 : (storeA gs sb ms' :: l.set i (cellsA nb #[.int .i64 a, .int .i64 b, .int .i64 c, .int .i64 d, .int .i64 id, .int .i64 se, .int .i64 iter, .int .i64 st, .int .i64 2, .bool true] 109))[i + 1]? = some (cellsA nb #[.int .i64 a, .int .i64 b, .int .i64 c, .int .i64 d, .int .i64 id, .int .i64 se, .int .i64 iter, .int .i64 st, .int .i64 2, .bool true] 109) := by rw [List.getElem?_cons_succ, List.getElem?_set_self (List.getElem?_eq_some_iff.1 hi).1]
  have hi3 : (storeA gs sb ms' :: l.set i (cellsA nb #[.int .i64 a, .int .i64 b, .int .i64 c, .int .i64 d, .int .i64 id, .int .i64 se, .int .i64 iter, .int .i64 st, .int .i64 3, .bool true] 109))[i + 1]? = some (cellsA nb #[.int .i64 a, .int .i64 b, .int .i64 c, .int .i64 d, .int .i64 id, .int .i64 se, .int .i64 iter, .int .i64 st, .int .i64 3, .bool true] 109) := by rw [List.getElem?_cons_succ, List.getElem?_set_self (List.getElem?_eq_some_iff.1 hi).1]
  have R := Lib.hid (fun (w1 : World) (h1 : Own w0 w1 (storeA gs sb ms :: l)) => r_free_yes h1 ok id se iter st hat hl tk htk hx ms' hm)
  have C0 := Lib.hid (fun (w1 : World) (h1 : Own w0 w1 (storeA gs sb ms :: l)) => park_keep (i + 1) h1 (hi1 ms))
  have C1 := Lib.hid (fun (w1 : World) (h1 : Own w0 w1 (storeA gs sb ms' :: l)) => And.intro (park_keep (i + 1) h1 (hi1 ms')) (And.intro (cells_at (i + 1) h1 (hi1 ms') 9 (.bool bk) rfl) (show Own w0 (w1.setCell ⟨nb, 9, none⟩ (.bool true)) (storeA gs sb ms' :: l.set i (cellsA nb #[.int .i64 a, .int .i64 b, .int .i64 c, .int .i64 d, .int .i64 id, .int .i64 se, .int .i64 iter, .int .i64 st, .int .i64 2, .bool true] 109)) from h1.cset (i + 1) (hi1 ms') 9 (.bool true))))
  have C2 := Lib.hid (fun (w1 : World) (h1 : Own w0 w1 (storeA gs sb ms' :: l.set i (cellsA nb #[.int .i64 a, .int .i64 b, .int .i64 c, .int .i64 d, .int .i64 id, .int .i64 se, .int .i64 iter, .int .i64 st, .int .i64 2, .bool true] 109))) => And.intro (park_keep (i + 1) h1 hi2) (And.intro (cells_at (i + 1) h1 hi2 8 (.int .i64 2) rfl) (show Own w0 (w1.setCell ⟨nb, 8, none⟩ (.int .i64 3)) (storeA gs sb ms' :: l.set i (cellsA nb #[.int .i64 a, .int .i64 b, .int .i64 c, .int .i64 d, .int .i64 id, .int .i64 se, .int .i64 iter, .int .i64 st, .int .i64 3, .bool true] 109)) from (h1.cset (i + 1) hi2 8 (.int .i64 3)).cast (by rw [List.set_cons_succ, List.set_set]; rfl))))
  have C3 := Lib.hid (fun (w1 : World) (h1 : Own w0 w1 (storeA gs sb ms' :: l.set i (cellsA nb #[.int .i64 a, .int .i64 b, .int .i64 c, .int .i64 d, .int .i64 id, .int .i64 se, .int .i64 iter, .int .i64 st, .int .i64 3, .bool true] 109))) => And.intro (park_keep (i + 1) h1 hi3) (cells_at (i + 1) h1 hi3 8 (.int .i64 3) rfl))
  have hB1 := h.drewN 1
  have c8 := (cells_at (i + 1) h (hi1 ms) 8 (.int .i64 2) rfl).1
  have hS0 : (fun w' : World => w'.cell? ⟨nb, 0, none⟩ = some (.int .i64 a) ∧ w'.cell? ⟨nb, 1, none⟩ = some (.int .i64 b) ∧ w'.cell? ⟨nb, 2, none⟩ = some (.int .i64 c) ∧ w'.cell? ⟨nb, 3, none⟩ = some (.int .i64 d) ∧ w'.cell? ⟨nb, 4, none⟩ = some (.int .i64 id) ∧ w'.cell? ⟨nb, 5, none⟩ = some (.int .i64 se) ∧ w'.cell? ⟨nb, 6, none⟩ = some (.int .i64 iter) ∧ w'.cell? ⟨nb, 7, none⟩ = some (.int .i64 st)) w.drew := C0.out _ hB1
  clear hi hi1 hi2 hi3 ok hat hl htk hx h hm
  go_enter Try.func46, Try.ntmps46
  go_wp2_with fail
  refine lin_start (S := (fun w' : World => w'.cell? ⟨nb, 0, none⟩ = some (.int .i64 a) ∧ w'.cell? ⟨nb, 1, none⟩ = some (.int .i64 b) ∧ w'.cell? ⟨nb, 2, none⟩ = some (.int .i64 c) ∧ w'.cell? ⟨nb, 3, none⟩ = some (.int .i64 d) ∧ w'.cell? ⟨nb, 4, none⟩ = some (.int .i64 id) ∧ w'.cell? ⟨nb, 5, none⟩ = some (.int .i64 se) ∧ w'.cell? ⟨nb, 6, none⟩ = some (.int .i64 iter) ∧ w'.cell? ⟨nb, 7, none⟩ = some (.int .i64 st))) rfl 22 rfl hS0 ?_
  simp only [numbered, Nat.zero_add, Nat.reduceAdd]
  refine lin_take (v := ?_) (by kernel_rfl) (by kernel_rfl) (fun _ _ _ h => h) (Or.inl ⟨by rfl, ?_⟩) (by assumption) ?_; (rotate_left; (intro wS hSw; (try dsimp only at hSw); go_simp; (try with_reducible rfl)); rotate_left); simp only [Act.put, List.setIfInBounds_toArray, List.set_cons_zero, List.set_cons_succ]
  refine lin_take (v := ?_) (by kernel_rfl) (by kernel_rfl) (fun _ _ _ h => h) (Or.inl ⟨by rfl, ?_⟩) (by assumption) ?_; (rotate_left; (intro wS hSw; (try dsimp only at hSw); go_simp; (try with_reducible rfl)); rotate_left); simp only [Act.put, List.setIfInBounds_toArray, List.set_cons_zero, List.set_cons_succ]
  refine lin_take (v := ?_) (by kernel_rfl) (by kernel_rfl) (fun _ _ _ h => h) (Or.inl ⟨by rfl, ?_⟩) (by assumption) ?_; (rotate_left; (intro wS hSw; (try dsimp only at hSw); go_simp; (try with_reducible rfl)); rotate_left); simp only [Act.put, List.setIfInBounds_toArray, List.set_cons_zero, List.set_cons_succ]
  refine lin_take (v := ?_) (by kernel_rfl) (by kernel_rfl) (fun _ _ _ h => h) (Or.inl ⟨by rfl, ?_⟩) (by assumption) ?_; (rotate_left; (intro wS hSw; (try dsimp only at hSw); go_simp; (try with_reducible rfl)); rotate_left); simp only [Act.put, List.setIfInBounds_toArray, List.set_cons_zero, List.set_cons_succ]
  refine lin_take (v := ?_) (by kernel_rfl) (by kernel_rfl) (fun _ _ _ h => h) (Or.inl ⟨by rfl, ?_⟩) (by assumption) ?_; (rotate_left; (intro wS hSw; (try dsimp only at hSw); go_simp; (try with_reducible rfl)); rotate_left); simp only [Act.put, List.setIfInBounds_toArray, List.set_cons_zero, List.set_cons_succ]
  refine lin_take (v := ?_) (by kernel_rfl) (by kernel_rfl) (fun _ _ _ h => h) (Or.inl ⟨by rfl, ?_⟩) (by assumption) ?_; (rotate_left; (intro wS hSw; (try dsimp only at hSw); go_simp; (try with_reducible rfl)); rotate_left); simp only [Act.put, List.setIfInBounds_toArray, List.set_cons_zero, List.set_cons_succ]
  refine lin_take (v := ?_) (by kernel_rfl) (by kernel_rfl) (fun _ _ _ h => h) (Or.inl ⟨by rfl, ?_⟩) (by assumption) ?_; (rotate_left; (intro wS hSw; (try dsimp only at hSw); go_simp; (try with_reducible rfl)); rotate_left); simp only [Act.put, List.setIfInBounds_toArray, List.set_cons_zero, List.set_cons_succ]
  refine lin_take (v := ?_) (by kernel_rfl) (by kernel_rfl) (fun _ _ _ h => h) (Or.inl ⟨by rfl, ?_⟩) (by assumption) ?_; (rotate_left; (intro wS hSw; (try dsimp only at hSw); go_simp; (try with_reducible rfl)); rotate_left); simp only [Act.put, List.setIfInBounds_toArray, List.set_cons_zero, List.set_cons_succ]
  refine lin_take (v := ?_) (by kernel_rfl) (by kernel_rfl) (fun _ _ _ h => h) (Or.inl ⟨by rfl, ?_⟩) (by assumption) ?_; (rotate_left; (intro wS hSw; (try dsimp only at hSw); go_simp; (try with_reducible rfl)); rotate_left); simp only [Act.put, List.setIfInBounds_toArray, List.set_cons_zero, List.set_cons_succ]
  refine lin_take (v := ?_) (by kernel_rfl) (by kernel_rfl) (fun _ _ _ h => h) (Or.inl ⟨by rfl, ?_⟩) (by assumption) ?_; (rotate_left; (intro wS hSw; (try dsimp only at hSw); go_simp; (try with_reducible rfl)); rotate_left); simp only [Act.put, List.setIfInBounds_toArray, List.set_cons_zero, List.set_cons_succ]
  refine lin_take (v := ?_) (by kernel_rfl) (by kernel_rfl) (fun _ _ _ h => h) (Or.inl ⟨by rfl, ?_⟩) (by assumption) ?_; (rotate_left; (intro wS hSw; (try dsimp only at hSw); go_simp; (try with_reducible rfl)); rotate_left); simp only [Act.put, List.setIfInBounds_toArray, List.set_cons_zero, List.set_cons_succ]
  refine lin_take (v := ?_) (by kernel_rfl) (by kernel_rfl) (fun _ _ _ h => h) (Or.inl ⟨by rfl, ?_⟩) (by assumption) ?_; (rotate_left; (intro wS hSw; (try dsimp only at hSw); go_simp; (try with_reducible rfl)); rotate_left); simp only [Act.put, List.setIfInBounds_toArray, List.set_cons_zero, List.set_cons_succ]
  refine lin_take (v := ?_) (by kernel_rfl) (by kernel_rfl) (fun _ _ _ h => h) (Or.inl ⟨by rfl, ?_⟩) (by assumption) ?_; (rotate_left; (intro wS hSw; (try dsimp only at hSw); go_simp; (try with_reducible rfl)); rotate_left); simp only [Act.put, List.setIfInBounds_toArray, List.set_cons_zero, List.set_cons_succ]
  refine lin_take (v := ?_) (by kernel_rfl) (by kernel_rfl) (fun _ _ _ h => h) (Or.inl ⟨by rfl, ?_⟩) (by assumption) ?_; (rotate_left; (intro wS hSw; (try dsimp only at hSw); go_simp; (try with_reducible rfl)); rotate_left); simp only [Act.put, List.setIfInBounds_toArray, List.set_cons_zero, List.set_cons_succ]
  refine lin_take (v := ?_) (by kernel_rfl) (by kernel_rfl) (fun _ _ _ h => h) (Or.inl ⟨by rfl, ?_⟩) (by assumption) ?_; (rotate_left; (intro wS hSw; (try dsimp only at hSw); go_simp; (try with_reducible rfl)); rotate_left); simp only [Act.put, List.setIfInBounds_toArray, List.set_cons_zero, List.set_cons_succ]
  refine lin_sole (by kernel_rfl) (fun K hK => ?_)
  go_simp
  refine (R.out _ hB1).mono ?_
  rintro e w1 ⟨rfl, h1⟩
  obtain ⟨⟨s0, s1, s2, s3, s4, s5, s6, s7⟩, ⟨g9, k9⟩, h2⟩ := C1.out _ h1
  refine hK.out _ _ ?_ (fun hHeld => ?_)
  · exact ⟨s0, s1, s2, s3, s4, s5, s6, s7⟩
  try simp only [Act.put, List.setIfInBounds_toArray, List.set_cons_zero, List.set_cons_succ]
  refine lin_take (v := ?_) (by kernel_rfl) (by kernel_rfl) (fun _ _ _ h => h) (Or.inl ⟨by rfl, ?_⟩) (by assumption) ?_; (rotate_left; (intro wS hSw; (try dsimp only at hSw); go_simp; (try with_reducible rfl)); rotate_left); simp only [Act.put, List.setIfInBounds_toArray, List.set_cons_zero, List.set_cons_succ]
  refine lin_take (v := ?_) (by kernel_rfl) (by kernel_rfl) (fun _ _ _ h => h) (Or.inl ⟨by rfl, ?_⟩) (by assumption) ?_; (rotate_left; (intro wS hSw; (try dsimp only at hSw); go_simp; (try with_reducible rfl)); rotate_left); simp only [Act.put, List.setIfInBounds_toArray, List.set_cons_zero, List.set_cons_succ]
  obtain ⟨z0, ⟨g8, k8⟩, h3⟩ := C2.out _ h2
  clear s0 s1 s2 s3 s4 s5 s6 s7
  refine lin_sole (by kernel_rfl) (fun K hK => ?_)
  go_simp
  refine hK.out _ _ ?_ (fun hHeld => ?_)
  · exact z0
  try simp only [Act.put, List.setIfInBounds_toArray, List.set_cons_zero, List.set_cons_succ]
  refine lin_take (v := ?_) (by kernel_rfl) (by kernel_rfl) (fun _ _ _ h => h) (Or.inl ⟨by rfl, ?_⟩) (by assumption) ?_; (rotate_left; (intro wS hSw; (try dsimp only at hSw); go_simp; (try with_reducible rfl)); rotate_left); simp only [Act.put, List.setIfInBounds_toArray, List.set_cons_zero, List.set_cons_succ]
  refine lin_take (v := ?_) (by kernel_rfl) (by kernel_rfl) (fun _ _ _ h => h) (Or.inl ⟨by rfl, ?_⟩) (by assumption) ?_; (rotate_left; (intro wS hSw; (try dsimp only at hSw); go_simp; (try with_reducible rfl)); rotate_left); simp only [Act.put, List.setIfInBounds_toArray, List.set_cons_zero, List.set_cons_succ]
  obtain ⟨z0, g88, _⟩ := C3.out _ h3
  refine lin_sole (by kernel_rfl) (fun K hK => ?_)
  go_simp
  refine hK.out _ _ ?_ (fun hHeld => ?_)
  · exact z0
  try simp only [Act.put, List.setIfInBounds_toArray, List.set_cons_zero, List.set_cons_succ]
  refine lin_done (by kernel_rfl) ?_
  clear hHeld hS0 c8 hB1 h1 z0 g9 k9 g8 k8 h2
  go_wp2_with fail
  go_ret
  exact ⟨rfl, h3⟩
theorem park_step2_no {w0 w : World} {l : List Ast} {gs sb nb : Nat} {ms : List Int} {a b c d : Int} (id se iter : Int) {st : Int} {bk : Bool} (ok : okPlan a b c d = true) (i : Nat) (h : Own w0 w (storeA gs sb ms :: l)) (hi : l[i]? = some (cellsA nb #[.int .i64 a, .int .i64 b, .int .i64 c, .int .i64 d, .int .i64 id, .int .i64 se, .int .i64 iter, .int .i64 st, .int .i64 2, .bool bk] 109)) {at0 : Nat} (hat : wordV a b c d id iter 1 = (at0 : Int)) (hl : at0 < ms.length) (tk : Int) (htk : tokV se iter st = tk) (hx : ms.getD at0 0 ≠ tk) :
    Calls Try.prog 46 #[.pointer (some ⟨nb, 0, none⟩), .pointer (some ⟨gs, 0, none⟩)] w fun e w' => e = .returned (.bool true) ∧ Own w0 w' (storeA gs sb ms :: l.set i (cellsA nb #[.int .i64 a, .int .i64 b, .int .i64 c, .int .i64 d, .int .i64 id, .int .i64 se, .int .i64 iter, .int .i64 st, .int .i64 3, .bool false] 109)) := by
  have hi1 : ∀ m, (storeA gs sb m :: l)[i + 1]? = some (cellsA nb #[.int .i64 a, .int .i64 b, .int .i64 c, .int .i64 d, .int .i64 id, .int .i64 se, .int .i64 iter, .int .i64 st, .int .i64 2, .bool bk] 109) := fun m => hi
  have hi2 : (storeA gs sb ms :: l.set i (cellsA nb #[.int .i64 a, .int .i64 b, .int .i64 c, .int .i64 d, .int .i64 id, .int .i64 se, .int .i64 iter, .int .i64 st, .int .i64 2, .bool false] 109))[i + 1]? = some (cellsA nb #[.int .i64 a, .int .i64 b, .int .i64 c, .int .i64 d, .int .i64 id, .int .i64 se, .int .i64 iter, .int .i64 st, .int .i64 2, .bool false] 109) := by rw [List.getElem?_cons_succ, List.getElem?_set_self (List.getElem?_eq_some_iff.1 hi).1]
  have hi3 : (storeA gs sb ms :: l.set i (cellsA nb #[.int .i64 a, .int .i64 b, .int .i64 c, .int .i64 d, .int .i64 id, .int .i64 se, .int .i64 iter, .int .i64 st, .int .i64 3, .bool false] 109))[i + 1]? = some (cellsA nb #[.int .i64 a, .int .i64 b, .int .i64 c, .int .i64 d, .int .i64 id, .int .i64 se, .int .i64 iter, .int .i64 st, .int .i64 3, .bool false] 109) := by rw [List.getElem?_cons_succ, List.getElem?_set_self (List.getElem?_eq_some_iff.1 hi).1]
  have R := Lib.hid (fun (w1 : World) (h1 : Own w0 w1 (storeA gs sb ms :: l)) => r_free_no h1 ok id se iter st hat hl tk htk hx)
  have C0 := Lib.hid (fun (w1 : World) (h1 : Own w0 w1 (storeA gs sb ms :: l)) => park_keep (i + 1) h1 (hi1 ms))
  have C1 := Lib.hid (fun (w1 : World) (h1 : Own w0 w1 (storeA gs sb ms :: l)) => And.intro (park_keep (i + 1) h1 (hi1 ms)) (And.intro (cells_at (i + 1) h1 (hi1 ms) 9 (.bool bk) rfl) (show Own w0 (w1.setCell ⟨nb, 9, none⟩ (.bool false)) (storeA gs sb ms :: l.set i (cellsA nb #[.int .i64 a, .int .i64 b, .int .i64 c, .int .i64 d, .int .i64 id, .int .i64 se, .int .i64 iter, .int .i64 st, .int .i64 2, .bool false] 109)) from h1.cset (i + 1) (hi1 ms) 9 (.bool false))))
  have C2 := Lib.hid (fun (w1 : World) (h1 : Own w0 w1 (storeA gs sb ms :: l.set i (cellsA nb #[.int .i64 a, .int .i64 b, .int .i64 c, .int .i64 d, .int .i64 id, .int .i64 se, .int .i64 iter, .int .i64 st, .int .i64 2, .bool false] 109))) => And.intro (park_keep (i + 1) h1 hi2) (And.intro (cells_at (i + 1) h1 hi2 8 (.int .i64 2) rfl) (show Own w0 (w1.setCell ⟨nb, 8, none⟩ (.int .i64 3)) (storeA gs sb ms :: l.set i (cellsA nb #[.int .i64 a, .int .i64 b, .int .i64 c, .int .i64 d, .int .i64 id, .int .i64 se, .int .i64 iter, .int .i64 st, .int .i64 3, .bool false] 109)) from (h1.cset (i + 1) hi2 8 (.int .i64 3)).cast (by rw [List.set_cons_succ, List.set_set]; rfl))))
  have C3 := Lib.hid (fun (w1 : World) (h1 : Own w0 w1 (storeA gs sb ms :: l.set i (cellsA nb #[.int .i64 a, .int .i64 b, .int .i64 c, .int .i64 d, .int .i64 id, .int .i64 se, .int .i64 iter, .int .i64 st, .int .i64 3, .bool false] 109))) => And.intro (park_keep (i + 1) h1 hi3) (cells_at (i + 1) h1 hi3 8 (.int .i64 3) rfl))
  have hB1 := h.drewN 1
  have c8 := (cells_at (i + 1) h (hi1 ms) 8 (.int .i64 2) rfl).1
  have hS0 : (fun w' : World => w'.cell? ⟨nb, 0, none⟩ = some (.int .i64 a) ∧ w'.cell? ⟨nb, 1, none⟩ = some (.int .i64 b) ∧ w'.cell? ⟨nb, 2, none⟩ = some (.int .i64 c) ∧ w'.cell? ⟨nb, 3, none⟩ = some (.int .i64 d) ∧ w'.cell? ⟨nb, 4, none⟩ = some (.int .i64 id) ∧ w'.cell? ⟨nb, 5, none⟩ = some (.int .i64 se) ∧ w'.cell? ⟨nb, 6, none⟩ = some (.int .i64 iter) ∧ w'.cell? ⟨nb, 7, none⟩ = some (.int .i64 st)) w.drew := C0.out _ hB1
  clear hi hi1 hi2 hi3 ok hat hl htk hx h
  go_enter Try.func46, Try.ntmps46
  go_wp2_with fail
  refine lin_start (S := (fun w' : World => w'.cell? ⟨nb, 0, none⟩ = some (.int .i64 a) ∧ w'.cell? ⟨nb, 1, none⟩ = some (.int .i64 b) ∧ w'.cell? ⟨nb, 2, none⟩ = some (.int .i64 c) ∧ w'.cell? ⟨nb, 3, none⟩ = some (.int .i64 d) ∧ w'.cell? ⟨nb, 4, none⟩ = some (.int .i64 id) ∧ w'.cell? ⟨nb, 5, none⟩ = some (.int .i64 se) ∧ w'.cell? ⟨nb, 6, none⟩ = some (.int .i64 iter) ∧ w'.cell? ⟨nb, 7, none⟩ = some (.int .i64 st))) rfl 22 rfl hS0 ?_
  simp only [numbered, Nat.zero_add, Nat.reduceAdd]
  refine lin_take (v := ?_) (by kernel_rfl) (by kernel_rfl) (fun _ _ _ h => h) (Or.inl ⟨by rfl, ?_⟩) (by assumption) ?_; (rotate_left; (intro wS hSw; (try dsimp only at hSw); go_simp; (try with_reducible rfl)); rotate_left); simp only [Act.put, List.setIfInBounds_toArray, List.set_cons_zero, List.set_cons_succ]
  refine lin_take (v := ?_) (by kernel_rfl) (by kernel_rfl) (fun _ _ _ h => h) (Or.inl ⟨by rfl, ?_⟩) (by assumption) ?_; (rotate_left; (intro wS hSw; (try dsimp only at hSw); go_simp; (try with_reducible rfl)); rotate_left); simp only [Act.put, List.setIfInBounds_toArray, List.set_cons_zero, List.set_cons_succ]
  refine lin_take (v := ?_) (by kernel_rfl) (by kernel_rfl) (fun _ _ _ h => h) (Or.inl ⟨by rfl, ?_⟩) (by assumption) ?_; (rotate_left; (intro wS hSw; (try dsimp only at hSw); go_simp; (try with_reducible rfl)); rotate_left); simp only [Act.put, List.setIfInBounds_toArray, List.set_cons_zero, List.set_cons_succ]
  refine lin_take (v := ?_) (by kernel_rfl) (by kernel_rfl) (fun _ _ _ h => h) (Or.inl ⟨by rfl, ?_⟩) (by assumption) ?_; (rotate_left; (intro wS hSw; (try dsimp only at hSw); go_simp; (try with_reducible rfl)); rotate_left); simp only [Act.put, List.setIfInBounds_toArray, List.set_cons_zero, List.set_cons_succ]
  refine lin_take (v := ?_) (by kernel_rfl) (by kernel_rfl) (fun _ _ _ h => h) (Or.inl ⟨by rfl, ?_⟩) (by assumption) ?_; (rotate_left; (intro wS hSw; (try dsimp only at hSw); go_simp; (try with_reducible rfl)); rotate_left); simp only [Act.put, List.setIfInBounds_toArray, List.set_cons_zero, List.set_cons_succ]
  refine lin_take (v := ?_) (by kernel_rfl) (by kernel_rfl) (fun _ _ _ h => h) (Or.inl ⟨by rfl, ?_⟩) (by assumption) ?_; (rotate_left; (intro wS hSw; (try dsimp only at hSw); go_simp; (try with_reducible rfl)); rotate_left); simp only [Act.put, List.setIfInBounds_toArray, List.set_cons_zero, List.set_cons_succ]
  refine lin_take (v := ?_) (by kernel_rfl) (by kernel_rfl) (fun _ _ _ h => h) (Or.inl ⟨by rfl, ?_⟩) (by assumption) ?_; (rotate_left; (intro wS hSw; (try dsimp only at hSw); go_simp; (try with_reducible rfl)); rotate_left); simp only [Act.put, List.setIfInBounds_toArray, List.set_cons_zero, List.set_cons_succ]
  refine lin_take (v := ?_) (by kernel_rfl) (by kernel_rfl) (fun _ _ _ h => h) (Or.inl ⟨by rfl, ?_⟩) (by assumption) ?_; (rotate_left; (intro wS hSw; (try dsimp only at hSw); go_simp; (try with_reducible rfl)); rotate_left); simp only [Act.put, List.setIfInBounds_toArray, List.set_cons_zero, List.set_cons_succ]
  refine lin_take (v := ?_) (by kernel_rfl) (by kernel_rfl) (fun _ _ _ h => h) (Or.inl ⟨by rfl, ?_⟩) (by assumption) ?_; (rotate_left; (intro wS hSw; (try dsimp only at hSw); go_simp; (try with_reducible rfl)); rotate_left); simp only [Act.put, List.setIfInBounds_toArray, List.set_cons_zero, List.set_cons_succ]
  refine lin_take (v := ?_) (by kernel_rfl) (by kernel_rfl) (fun _ _ _ h => h) (Or.inl ⟨by rfl, ?_⟩) (by assumption) ?_; (rotate_left; (intro wS hSw; (try dsimp only at hSw); go_simp; (try with_reducible rfl)); rotate_left); simp only [Act.put, List.setIfInBounds_toArray, List.set_cons_zero, List.set_cons_succ]
  refine lin_take (v := ?_) (by kernel_rfl) (by kernel_rfl) (fun _ _ _ h => h) (Or.inl ⟨by rfl, ?_⟩) (by assumption) ?_; (rotate_left; (intro wS hSw; (try dsimp only at hSw); go_simp; (try with_reducible rfl)); rotate_left); simp only [Act.put, List.setIfInBounds_toArray, List.set_cons_zero, List.set_cons_succ]
  refine lin_take (v := ?_) (by kernel_rfl) (by kernel_rfl) (fun _ _ _ h => h) (Or.inl ⟨by rfl, ?_⟩) (by assumption) ?_; (rotate_left; (intro wS hSw; (try dsimp only at hSw); go_simp; (try with_reducible rfl)); rotate_left); simp only [Act.put, List.setIfInBounds_toArray, List.set_cons_zero, List.set_cons_succ]
  refine lin_take (v := ?_) (by kernel_rfl) (by kernel_rfl) (fun _ _ _ h => h) (Or.inl ⟨by rfl, ?_⟩) (by assumption) ?_; (rotate_left; (intro wS hSw; (try dsimp only at hSw); go_simp; (try with_reducible rfl)); rotate_left); simp only [Act.put, List.setIfInBounds_toArray, List.set_cons_zero, List.set_cons_succ]
  refine lin_take (v := ?_) (by kernel_rfl) (by kernel_rfl) (fun _ _ _ h => h) (Or.inl ⟨by rfl, ?_⟩) (by assumption) ?_; (rotate_left; (intro wS hSw; (try dsimp only at hSw); go_simp; (try with_reducible rfl)); rotate_left); simp only [Act.put, List.setIfInBounds_toArray, List.set_cons_zero, List.set_cons_succ]
  refine lin_take (v := ?_) (by kernel_rfl) (by kernel_rfl) (fun _ _ _ h => h) (Or.inl ⟨by rfl, ?_⟩) (by assumption) ?_; (rotate_left; (intro wS hSw; (try dsimp only at hSw); go_simp; (try with_reducible rfl)); rotate_left); simp only [Act.put, List.setIfInBounds_toArray, List.set_cons_zero, List.set_cons_succ]
  refine lin_sole (by kernel_rfl) (fun K hK => ?_)
  go_simp
  refine (R.out _ hB1).mono ?_
  rintro e w1 ⟨rfl, h1⟩
  obtain ⟨⟨s0, s1, s2, s3, s4, s5, s6, s7⟩, ⟨g9, k9⟩, h2⟩ := C1.out _ h1
  refine hK.out _ _ ?_ (fun hHeld => ?_)
  · exact ⟨s0, s1, s2, s3, s4, s5, s6, s7⟩
  try simp only [Act.put, List.setIfInBounds_toArray, List.set_cons_zero, List.set_cons_succ]
  refine lin_take (v := ?_) (by kernel_rfl) (by kernel_rfl) (fun _ _ _ h => h) (Or.inl ⟨by rfl, ?_⟩) (by assumption) ?_; (rotate_left; (intro wS hSw; (try dsimp only at hSw); go_simp; (try with_reducible rfl)); rotate_left); simp only [Act.put, List.setIfInBounds_toArray, List.set_cons_zero, List.set_cons_succ]
  refine lin_take (v := ?_) (by kernel_rfl) (by kernel_rfl) (fun _ _ _ h => h) (Or.inl ⟨by rfl, ?_⟩) (by assumption) ?_; (rotate_left; (intro wS hSw; (try dsimp only at hSw); go_simp; (try with_reducible rfl)); rotate_left); simp only [Act.put, List.setIfInBounds_toArray, List.set_cons_zero, List.set_cons_succ]
  obtain ⟨z0, ⟨g8, k8⟩, h3⟩ := C2.out _ h2
  clear s0 s1 s2 s3 s4 s5 s6 s7
  refine lin_sole (by kernel_rfl) (fun K hK => ?_)
  go_simp
  refine hK.out _ _ ?_ (fun hHeld => ?_)
  · exact z0
  try simp only [Act.put, List.setIfInBounds_toArray, List.set_cons_zero, List.set_cons_succ]
  refine lin_take (v := ?_) (by kernel_rfl) (by kernel_rfl) (fun _ _ _ h => h) (Or.inl ⟨by rfl, ?_⟩) (by assumption) ?_; (rotate_left; (intro wS hSw; (try dsimp only at hSw); go_simp; (try with_reducible rfl)); rotate_left); simp only [Act.put, List.setIfInBounds_toArray, List.set_cons_zero, List.set_cons_succ]
  refine lin_take (v := ?_) (by kernel_rfl) (by kernel_rfl) (fun _ _ _ h => h) (Or.inl ⟨by rfl, ?_⟩) (by assumption) ?_; (rotate_left; (intro wS hSw; (try dsimp only at hSw); go_simp; (try with_reducible rfl)); rotate_left); simp only [Act.put, List.setIfInBounds_toArray, List.set_cons_zero, List.set_cons_succ]
  obtain ⟨z0, g88, _⟩ := C3.out _ h3
  refine lin_sole (by kernel_rfl) (fun K hK => ?_)
  go_simp
  refine hK.out _ _ ?_ (fun hHeld => ?_)
  · exact z0
  try simp only [Act.put, List.setIfInBounds_toArray, List.set_cons_zero, List.set_cons_succ]
  refine lin_done (by kernel_rfl) ?_
  clear hHeld hS0 c8 hB1 h1 z0 g9 k9 g8 k8 h2
  go_wp2_with fail
  go_ret
  exact ⟨rfl, h3⟩
end Go.Proofs.Ytooofpplhedgcaa
