/- Package ring: a loop's shared words, in a store of one's own. -/
import Derived.Test.YtooofpplhedgcaaToken
import Derived.Test.YtooofpplhedgcaaPlan2
import Derived.Test.YtooofpplhedgcaaStoreA
import Derived.Test.YtooofpplhedgcaaLin
set_option linter.unusedVariables false
set_option linter.unusedSimpArgs false
namespace Go.Proofs.Ytooofpplhedgcaa
open Go.RowKit
theorem Own.lift {P : Program} {f : FuncId} {args : Array Value} {w0 w : World} {l : List Ast} {v : Value} (h : Calls P f args w fun e w' => e = .returned v ∧ Below w.heap.size w w') (hO : Own w0 w l) (v' : Value) (hv : v = v') : Calls P f args w fun e w' => e = .returned v' ∧ Own w0 w' l := by
  subst hv
  exact h.mono fun e w' ⟨he, hb⟩ => ⟨he, hO.grow hb⟩
theorem cells6 {w0 w : World} {pb : Nat} {v0 v1 v2 v3 v4 v5 : Value} {t : TypeId} {l : List Ast} (i : Nat) (h : Own w0 w l) (hi : l[i]? = some (cellsA pb #[v0, v1, v2, v3, v4, v5] t)) :
    w.cell? ⟨pb, 0, none⟩ = some v0 ∧ w.cell? ⟨pb, 1, none⟩ = some v1 ∧ w.cell? ⟨pb, 2, none⟩ = some v2 ∧ w.cell? ⟨pb, 3, none⟩ = some v3 ∧ w.cell? ⟨pb, 4, none⟩ = some v4 ∧ w.cell? ⟨pb, 5, none⟩ = some v5 :=
  ⟨(h.cget i hi 0).1, (h.cget i hi 1).1, (h.cget i hi 2).1, (h.cget i hi 3).1, (h.cget i hi 4).1, (h.cget i hi 5).1⟩
theorem at_last (l : List Ast) (A : Ast) : (l ++ [A])[l.length]? = some A := List.getElem?_concat_length
set_option maxRecDepth 100000
set_option maxHeartbeats 4000000
theorem rnew_any (a b c d id se : Int) (w : World) : Calls Try.prog 13 #[.agg #[.int .i64 a, .int .i64 b, .int .i64 c, .int .i64 d], .int .i64 id, .int .i64 se] w fun e w' => e = .returned (.agg #[.int .i64 a, .int .i64 b, .int .i64 c, .int .i64 d, .int .i64 id, .int .i64 se]) ∧ Below w.heap.size w w' := by
  go_enter Try.func13, Try.ntmps13
  go_wp2
  exact bodyPost_ret (v := .agg #[.int .i64 a, .int .i64 b, .int .i64 c, .int .i64 d, .int .i64 id, .int .i64 se]) (by simp [results, Try.results13, go_sem]) rfl ⟨rfl, by go_grown⟩
theorem rof (a b c d id se iter stage : Int) (w : World) : Calls Try.prog 57 #[.agg #[.int .i64 a, .int .i64 b, .int .i64 c, .int .i64 d, .int .i64 id, .int .i64 se], .int .i64 iter, .int .i64 stage] w fun e w' => e = .returned (.int .i64 (tokV se iter stage)) ∧ Below w.heap.size w w' := by
  have H := Lib.hid (fun w => of_any se iter stage w)
  generalize tokV se iter stage = V at *
  go_enter Try.func57, Try.ntmps57
  go_wp2_with (first | (go_at_call 79; refine (H.out _).mono ?_; rintro e w1 ⟨rfl, rfl⟩))
  go_ret
  exact ⟨rfl, by go_grown⟩
theorem rload {w0 w : World} {l : List Ast} {gs sb : Nat} {ms : List Int} (h : Own w0 w (storeA gs sb ms :: l)) {at_ : Nat} (hl : at_ < ms.length) (x : Int) (hx : ms.getD at_ 0 = x) : Calls Try.prog 76 #[.pointer (some ⟨gs, 0, none⟩), .int .i64 at_] w fun e w' => e = .returned (.int .i64 x) ∧ w = w' := by
  have H := Lib.hid (own_load h 0 rfl hl x hx)
  clear h hx hl
  go_enter Try.func76, Try.ntmps76
  go_wp2_with (first | (go_at_call 60; refine H.out.mono ?_; rintro e w1 ⟨rfl, rfl⟩))
  go_ret
  exact ⟨rfl, rfl⟩
theorem rswaps_yes {w0 w : World} {l : List Ast} {gs sb : Nat} {ms : List Int} (h : Own w0 w (storeA gs sb ms :: l)) {at_ : Nat} (hl : at_ < ms.length) (n : Int) (hx : ms.getD at_ 0 = n) : Calls Try.prog 61 #[.pointer (some ⟨gs, 0, none⟩), .int .i64 at_, .int .i64 n] w fun e w' => e = .returned (.bool true) ∧ Own w0 w' (storeA gs sb (ms.set at_ 0) :: l) := by
  have H0 := swap_yes (h.st 0 rfl) hl 0
  rw [hx] at H0
  have H := Lib.hid H0
  have hE := Lib.hid (h.move 0 rfl (st_moves (h.st 0 rfl) (k := at_) (n := 0) rfl))
  clear h hx hl H0
  go_enter Try.func61, Try.ntmps61
  go_wp2_with (first | (go_at_call 81; refine H.out.mono ?_; rintro e w1 ⟨rfl, rfl⟩))
  go_ret
  exact ⟨rfl, hE.out⟩
theorem rswaps_no {w0 w : World} {l : List Ast} {gs sb : Nat} {ms : List Int} (h : Own w0 w (storeA gs sb ms :: l)) {at_ : Nat} (hl : at_ < ms.length) (n : Int) (hx : ms.getD at_ 0 ≠ n) : Calls Try.prog 61 #[.pointer (some ⟨gs, 0, none⟩), .int .i64 at_, .int .i64 n] w fun e w' => e = .returned (.bool false) ∧ w = w' := by
  have H := Lib.hid (swap_no (h.st 0 rfl) hl n 0 hx)
  have hq : (ms.getD at_ 0 == n) = false := by rw [beq_eq_false_iff_ne]; exact hx
  generalize ms.getD at_ 0 = X at *
  clear h hx hl
  go_enter Try.func61, Try.ntmps61
  go_wp2_with (first | (go_at_call 81; refine H.out.mono ?_; rintro e w1 ⟨rfl, rfl⟩))
  go_ret
  exact ⟨rfl, rfl⟩
theorem r_come {w0 w : World} {l : List Ast} {gs sb : Nat} {ms : List Int} (h : Own w0 w (storeA gs sb ms :: l)) {a b c d : Int} (ok : okPlan a b c d = true) (id se : Int) (iter : Int) {at_ : Nat} (hat : wordV a b c d id iter 0 = (at_ : Int)) (hl : at_ < ms.length) (x : Int) (hx : ms.getD at_ 0 = x) :
    Calls Try.prog 51 #[.agg #[.int .i64 a, .int .i64 b, .int .i64 c, .int .i64 d, .int .i64 id, .int .i64 se], .pointer (some ⟨gs, 0, none⟩), .int .i64 iter] w fun e w' => e = .returned (.int .i64 x) ∧ Own w0 w' (storeA gs sb ms :: l) := by
  have hB : Own w0 (w.alloc (.cells #[.int .i64 a, .int .i64 b, .int .i64 c, .int .i64 d, .int .i64 id, .int .i64 se] 32)) (storeA gs sb ms :: (l ++ [cellsA w.heap.size #[.int .i64 a, .int .i64 b, .int .i64 c, .int .i64 d, .int .i64 id, .int .i64 se] 32])) := h.box #[.int .i64 a, .int .i64 b, .int .i64 c, .int .i64 d, .int .i64 id, .int .i64 se] 32
  have PL := Lib.hid (fun (w1 : World) (l1 : List Ast) (h : Own w0 w1 l1) => Own.lift (counter_ok ok id iter w1) h (.int .i64 at_) (by rw [hat]))
  have LD := Lib.hid (fun (w1 : World) (l1 : List Ast) (h : Own w0 w1 (storeA gs sb ms :: l1)) => rload h hl x hx)
  clear h hx hl hat ok
  go_enter Try.func51, Try.ntmps51
  go_wp2_with (first | (go_at_call 75; refine (PL.out _ _ hB).mono ?_; rintro e w1 ⟨rfl, h1⟩) | (go_at_call 76; refine (LD.out _ _ h1).mono ?_; rintro e w2 ⟨rfl, rfl⟩))
  go_ret
  exact ⟨rfl, Own.pop (l := storeA gs sb ms :: l) h1⟩
theorem r_waits {w0 w : World} {l : List Ast} {gs sb : Nat} {ms : List Int} (h : Own w0 w (storeA gs sb ms :: l)) {a b c d : Int} (ok : okPlan a b c d = true) (id se : Int) (iter : Int) {at_ : Nat} (hat : wordV a b c d id iter 1 = (at_ : Int)) (hl : at_ < ms.length) (x : Int) (hx : ms.getD at_ 0 = x) :
    Calls Try.prog 52 #[.agg #[.int .i64 a, .int .i64 b, .int .i64 c, .int .i64 d, .int .i64 id, .int .i64 se], .pointer (some ⟨gs, 0, none⟩), .int .i64 iter] w fun e w' => e = .returned (.int .i64 x) ∧ Own w0 w' (storeA gs sb ms :: l) := by
  have hB : Own w0 (w.alloc (.cells #[.int .i64 a, .int .i64 b, .int .i64 c, .int .i64 d, .int .i64 id, .int .i64 se] 32)) (storeA gs sb ms :: (l ++ [cellsA w.heap.size #[.int .i64 a, .int .i64 b, .int .i64 c, .int .i64 d, .int .i64 id, .int .i64 se] 32])) := h.box #[.int .i64 a, .int .i64 b, .int .i64 c, .int .i64 d, .int .i64 id, .int .i64 se] 32
  have PL := Lib.hid (fun (w1 : World) (l1 : List Ast) (h : Own w0 w1 l1) => Own.lift (status_ok ok id iter w1) h (.int .i64 at_) (by rw [hat]))
  have LD := Lib.hid (fun (w1 : World) (l1 : List Ast) (h : Own w0 w1 (storeA gs sb ms :: l1)) => rload h hl x hx)
  clear h hx hl hat ok
  go_enter Try.func52, Try.ntmps52
  go_wp2_with (first | (go_at_call 56; refine (PL.out _ _ hB).mono ?_; rintro e w1 ⟨rfl, h1⟩) | (go_at_call 76; refine (LD.out _ _ h1).mono ?_; rintro e w2 ⟨rfl, rfl⟩))
  go_ret
  exact ⟨rfl, Own.pop (l := storeA gs sb ms :: l) h1⟩
theorem r_frame {w0 w : World} {l : List Ast} {gs sb : Nat} {ms : List Int} (h : Own w0 w (storeA gs sb ms :: l)) {a b c d : Int} (ok : okPlan a b c d = true) (id se : Int) (iter : Int) {at_ : Nat} (hat : wordV a b c d id iter 2 = (at_ : Int)) (hl : at_ < ms.length) (x : Int) (hx : ms.getD at_ 0 = x) :
    Calls Try.prog 73 #[.agg #[.int .i64 a, .int .i64 b, .int .i64 c, .int .i64 d, .int .i64 id, .int .i64 se], .pointer (some ⟨gs, 0, none⟩), .int .i64 iter] w fun e w' => e = .returned (.int .i64 x) ∧ Own w0 w' (storeA gs sb ms :: l) := by
  have hB : Own w0 (w.alloc (.cells #[.int .i64 a, .int .i64 b, .int .i64 c, .int .i64 d, .int .i64 id, .int .i64 se] 32)) (storeA gs sb ms :: (l ++ [cellsA w.heap.size #[.int .i64 a, .int .i64 b, .int .i64 c, .int .i64 d, .int .i64 id, .int .i64 se] 32])) := h.box #[.int .i64 a, .int .i64 b, .int .i64 c, .int .i64 d, .int .i64 id, .int .i64 se] 32
  have PL := Lib.hid (fun (w1 : World) (l1 : List Ast) (h : Own w0 w1 l1) => Own.lift (link_ok ok id iter w1) h (.int .i64 at_) (by rw [hat]))
  have LD := Lib.hid (fun (w1 : World) (l1 : List Ast) (h : Own w0 w1 (storeA gs sb ms :: l1)) => rload h hl x hx)
  clear h hx hl hat ok
  go_enter Try.func73, Try.ntmps73
  go_wp2_with (first | (go_at_call 67; refine (PL.out _ _ hB).mono ?_; rintro e w1 ⟨rfl, h1⟩) | (go_at_call 76; refine (LD.out _ _ h1).mono ?_; rintro e w2 ⟨rfl, rfl⟩))
  go_ret
  exact ⟨rfl, Own.pop (l := storeA gs sb ms :: l) h1⟩
theorem r_go {w0 w : World} {l : List Ast} {gs sb : Nat} {ms : List Int} (h : Own w0 w (storeA gs sb ms :: l)) {a b c d : Int} (ok : okPlan a b c d = true) (id se : Int) (iter x : Int) {at_ : Nat} (hat : wordV a b c d id iter 0 = (at_ : Int)) (hl : at_ < ms.length) (ms' : List Int) (hm : ms.set at_ x = ms') :
    Calls Try.prog 50 #[.agg #[.int .i64 a, .int .i64 b, .int .i64 c, .int .i64 d, .int .i64 id, .int .i64 se], .pointer (some ⟨gs, 0, none⟩), .int .i64 iter, .int .i64 x] w fun e w' => e = .returned (.tuple #[]) ∧ Own w0 w' (storeA gs sb ms' :: l) := by
  have hB : Own w0 (w.alloc (.cells #[.int .i64 a, .int .i64 b, .int .i64 c, .int .i64 d, .int .i64 id, .int .i64 se] 32)) (storeA gs sb ms :: (l ++ [cellsA w.heap.size #[.int .i64 a, .int .i64 b, .int .i64 c, .int .i64 d, .int .i64 id, .int .i64 se] 32])) := h.box #[.int .i64 a, .int .i64 b, .int .i64 c, .int .i64 d, .int .i64 id, .int .i64 se] 32
  have PL := Lib.hid (fun (w1 : World) (l1 : List Ast) (h : Own w0 w1 l1) => Own.lift (counter_ok ok id iter w1) h (.int .i64 at_) (by rw [hat]))
  have ST := Lib.hid (fun (w1 : World) (l1 : List Ast) (h : Own w0 w1 (storeA gs sb ms :: l1)) => own_store h 0 rfl hl x ms' hm)
  clear h hm hl hat ok
  go_enter Try.func50, Try.ntmps50
  go_wp2_with (first | (go_at_call 75; refine (PL.out _ _ hB).mono ?_; rintro e w1 ⟨rfl, h1⟩) | (go_at_call 42; refine (ST.out _ _ h1).mono ?_; rintro e w2 ⟨rfl, h2⟩))
  go_end0
  exact ⟨rfl, Own.pop (l := storeA gs sb ms' :: l) h2⟩
theorem r_link {w0 w : World} {l : List Ast} {gs sb : Nat} {ms : List Int} (h : Own w0 w (storeA gs sb ms :: l)) {a b c d : Int} (ok : okPlan a b c d = true) (id se : Int) (iter x : Int) {at_ : Nat} (hat : wordV a b c d id iter 2 = (at_ : Int)) (hl : at_ < ms.length) (ms' : List Int) (hm : ms.set at_ x = ms') :
    Calls Try.prog 35 #[.agg #[.int .i64 a, .int .i64 b, .int .i64 c, .int .i64 d, .int .i64 id, .int .i64 se], .pointer (some ⟨gs, 0, none⟩), .int .i64 iter, .int .i64 x] w fun e w' => e = .returned (.tuple #[]) ∧ Own w0 w' (storeA gs sb ms' :: l) := by
  have hB : Own w0 (w.alloc (.cells #[.int .i64 a, .int .i64 b, .int .i64 c, .int .i64 d, .int .i64 id, .int .i64 se] 32)) (storeA gs sb ms :: (l ++ [cellsA w.heap.size #[.int .i64 a, .int .i64 b, .int .i64 c, .int .i64 d, .int .i64 id, .int .i64 se] 32])) := h.box #[.int .i64 a, .int .i64 b, .int .i64 c, .int .i64 d, .int .i64 id, .int .i64 se] 32
  have PL := Lib.hid (fun (w1 : World) (l1 : List Ast) (h : Own w0 w1 l1) => Own.lift (link_ok ok id iter w1) h (.int .i64 at_) (by rw [hat]))
  have ST := Lib.hid (fun (w1 : World) (l1 : List Ast) (h : Own w0 w1 (storeA gs sb ms :: l1)) => own_store h 0 rfl hl x ms' hm)
  clear h hm hl hat ok
  go_enter Try.func35, Try.ntmps35
  go_wp2_with (first | (go_at_call 67; refine (PL.out _ _ hB).mono ?_; rintro e w1 ⟨rfl, h1⟩) | (go_at_call 42; refine (ST.out _ _ h1).mono ?_; rintro e w2 ⟨rfl, h2⟩))
  go_end0
  exact ⟨rfl, Own.pop (l := storeA gs sb ms' :: l) h2⟩
theorem r_wait {w0 w : World} {l : List Ast} {gs sb : Nat} {ms : List Int} (h : Own w0 w (storeA gs sb ms :: l)) {a b c d : Int} (ok : okPlan a b c d = true) (id se : Int) (iter stage : Int) {at_ : Nat} (hat : wordV a b c d id iter 1 = (at_ : Int)) (hl : at_ < ms.length) (tk : Int) (htk : tokV se iter stage = tk) (ms' : List Int) (hm : ms.set at_ tk = ms') :
    Calls Try.prog 14 #[.agg #[.int .i64 a, .int .i64 b, .int .i64 c, .int .i64 d, .int .i64 id, .int .i64 se], .pointer (some ⟨gs, 0, none⟩), .int .i64 iter, .int .i64 stage] w fun e w' => e = .returned (.tuple #[]) ∧ Own w0 w' (storeA gs sb ms' :: l) := by
  have hB : Own w0 (w.alloc (.cells #[.int .i64 a, .int .i64 b, .int .i64 c, .int .i64 d, .int .i64 id, .int .i64 se] 32)) (storeA gs sb ms :: (l ++ [cellsA w.heap.size #[.int .i64 a, .int .i64 b, .int .i64 c, .int .i64 d, .int .i64 id, .int .i64 se] 32])) := h.box #[.int .i64 a, .int .i64 b, .int .i64 c, .int .i64 d, .int .i64 id, .int .i64 se] 32
  have PL := Lib.hid (fun (w1 : World) (l1 : List Ast) (h : Own w0 w1 l1) => Own.lift (status_ok ok id iter w1) h (.int .i64 at_) (by rw [hat]))
  have OF := Lib.hid (fun (w1 : World) (l1 : List Ast) (h : Own w0 w1 l1) => Own.lift (rof a b c d id se iter stage w1) h (.int .i64 tk) (by rw [htk]))
  have ST := Lib.hid (fun (w1 : World) (l1 : List Ast) (h : Own w0 w1 (storeA gs sb ms :: l1)) => own_store h 0 rfl hl tk ms' hm)
  clear h hm hl hat ok htk
  have hC := fun (w1 : World) (ms1 : List Int) (h1 : Own w0 w1 (storeA gs sb ms1 :: (l ++ [cellsA w.heap.size #[.int .i64 a, .int .i64 b, .int .i64 c, .int .i64 d, .int .i64 id, .int .i64 se] 32]))) => cells6 (l.length + 1) h1 (at_last (storeA gs sb ms1 :: l) _)
  go_enter Try.func14, Try.ntmps14
  go_wp2_with fail
  generalize w.alloc (.cells #[.int .i64 a, .int .i64 b, .int .i64 c, .int .i64 d, .int .i64 id, .int .i64 se] 32) = u at *
  generalize w.heap.size = rb at *
  have hS0 := hC _ _ (hB.drewN 1)
  have hB1 := hB.drewN 1
  replace hC := Lib.hid hC
  clear hB
  refine lin_start (S := (fun w' : World => w'.cell? ⟨rb, 0, none⟩ = some (.int .i64 a) ∧ w'.cell? ⟨rb, 1, none⟩ = some (.int .i64 b) ∧ w'.cell? ⟨rb, 2, none⟩ = some (.int .i64 c) ∧ w'.cell? ⟨rb, 3, none⟩ = some (.int .i64 d) ∧ w'.cell? ⟨rb, 4, none⟩ = some (.int .i64 id) ∧ w'.cell? ⟨rb, 5, none⟩ = some (.int .i64 se))) rfl 12 rfl hS0 ?_
  simp only [numbered, Nat.zero_add, Nat.reduceAdd]
  refine lin_take (v := ?_) (by kernel_rfl) (by kernel_rfl) (fun _ _ _ h => h) (Or.inl ⟨by rfl, ?_⟩) (by assumption) ?_; (rotate_left; (intro wS hSw; (try dsimp only at hSw); go_simp; (try with_reducible rfl)); rotate_left); simp only [Act.put, List.setIfInBounds_toArray, List.set_cons_zero, List.set_cons_succ]
  refine lin_take (v := ?_) (by kernel_rfl) (by kernel_rfl) (fun _ _ _ h => h) (Or.inl ⟨by rfl, ?_⟩) (by assumption) ?_; (rotate_left; (intro wS hSw; (try dsimp only at hSw); go_simp; (try with_reducible rfl)); rotate_left); simp only [Act.put, List.setIfInBounds_toArray, List.set_cons_zero, List.set_cons_succ]
  refine lin_take (v := ?_) (by kernel_rfl) (by kernel_rfl) (fun _ _ _ h => h) (Or.inl ⟨by rfl, ?_⟩) (by assumption) ?_; (rotate_left; (intro wS hSw; (try dsimp only at hSw); go_simp; (try with_reducible rfl)); rotate_left); simp only [Act.put, List.setIfInBounds_toArray, List.set_cons_zero, List.set_cons_succ]
  refine lin_take (v := ?_) (by kernel_rfl) (by kernel_rfl) (fun _ _ _ h => h) (Or.inl ⟨by rfl, ?_⟩) (by assumption) ?_; (rotate_left; (intro wS hSw; (try dsimp only at hSw); go_simp; (try with_reducible rfl)); rotate_left); simp only [Act.put, List.setIfInBounds_toArray, List.set_cons_zero, List.set_cons_succ]
  refine lin_take (v := ?_) (by kernel_rfl) (by kernel_rfl) (fun _ _ _ h => h) (Or.inl ⟨by rfl, ?_⟩) (by assumption) ?_; (rotate_left; (intro wS hSw; (try dsimp only at hSw); go_simp; (try with_reducible rfl)); rotate_left); simp only [Act.put, List.setIfInBounds_toArray, List.set_cons_zero, List.set_cons_succ]
  refine lin_take (v := ?_) (by kernel_rfl) (by kernel_rfl) (fun _ _ _ h => h) (Or.inl ⟨by rfl, ?_⟩) (by assumption) ?_; (rotate_left; (intro wS hSw; (try dsimp only at hSw); go_simp; (try with_reducible rfl)); rotate_left); simp only [Act.put, List.setIfInBounds_toArray, List.set_cons_zero, List.set_cons_succ]
  refine lin_rot ?_; simp only [List.cons_append, List.nil_append]
  refine lin_take (v := ?_) (by kernel_rfl) (by kernel_rfl) (fun _ _ _ h => h) (Or.inl ⟨by rfl, ?_⟩) (by assumption) ?_; (rotate_left; (intro wS hSw; (try dsimp only at hSw); go_simp; (try with_reducible rfl)); rotate_left); simp only [Act.put, List.setIfInBounds_toArray, List.set_cons_zero, List.set_cons_succ]
  refine lin_take (v := ?_) (by kernel_rfl) (by kernel_rfl) (fun _ _ _ h => h) (Or.inl ⟨by rfl, ?_⟩) (by assumption) ?_; (rotate_left; (intro wS hSw; (try dsimp only at hSw); go_simp; (try with_reducible rfl)); rotate_left); simp only [Act.put, List.setIfInBounds_toArray, List.set_cons_zero, List.set_cons_succ]
  refine lin_take (v := ?_) (by kernel_rfl) (by kernel_rfl) (fun _ _ _ h => h) (Or.inl ⟨by rfl, ?_⟩) (by assumption) ?_; (rotate_left; (intro wS hSw; (try dsimp only at hSw); go_simp; (try with_reducible rfl)); rotate_left); simp only [Act.put, List.setIfInBounds_toArray, List.set_cons_zero, List.set_cons_succ]
  refine lin_rot ?_; simp only [List.cons_append, List.nil_append]
  refine lin_rot ?_; simp only [List.cons_append, List.nil_append]
  refine lin_sole (by kernel_rfl) (fun K hK => ?_)
  go_simp
  refine (PL.out _ _ hB1).mono ?_
  rintro e w1 ⟨rfl, h1⟩
  refine hK.out _ _ ?_ (fun hHeld => ?_)
  · exact hC.out _ _ h1
  try simp only [Act.put, List.setIfInBounds_toArray, List.set_cons_zero, List.set_cons_succ]
  refine lin_sole (by kernel_rfl) (fun K hK => ?_)
  go_simp
  refine (OF.out _ _ h1).mono ?_
  rintro e w2 ⟨rfl, h2⟩
  refine hK.out _ _ ?_ (fun hHeld => ?_)
  · exact hC.out _ _ h2
  try simp only [Act.put, List.setIfInBounds_toArray, List.set_cons_zero, List.set_cons_succ]
  refine lin_sole (by kernel_rfl) (fun K hK => ?_)
  go_simp
  refine (ST.out _ _ h2).mono ?_
  rintro e w3 ⟨rfl, h3⟩
  refine hK.out _ _ ?_ (fun hHeld => ?_)
  · exact hC.out _ _ h3
  try simp only [Act.put, List.setIfInBounds_toArray, List.set_cons_zero, List.set_cons_succ]
  refine lin_done (by kernel_rfl) ?_
  go_wp2_with fail
  go_end0
  exact ⟨rfl, Own.pop (l := storeA gs sb ms' :: l) h3⟩
theorem r_free_yes {w0 w : World} {l : List Ast} {gs sb : Nat} {ms : List Int} (h : Own w0 w (storeA gs sb ms :: l)) {a b c d : Int} (ok : okPlan a b c d = true) (id se : Int) (iter stage : Int) {at_ : Nat} (hat : wordV a b c d id iter 1 = (at_ : Int)) (hl : at_ < ms.length) (tk : Int) (htk : tokV se iter stage = tk) (hx : ms.getD at_ 0 = tk) (ms' : List Int) (hm : ms.set at_ 0 = ms') :
    Calls Try.prog 19 #[.agg #[.int .i64 a, .int .i64 b, .int .i64 c, .int .i64 d, .int .i64 id, .int .i64 se], .pointer (some ⟨gs, 0, none⟩), .int .i64 iter, .int .i64 stage] w fun e w' => e = .returned (.bool true) ∧ Own w0 w' (storeA gs sb ms' :: l) := by
  have hB : Own w0 (w.alloc (.cells #[.int .i64 a, .int .i64 b, .int .i64 c, .int .i64 d, .int .i64 id, .int .i64 se] 32)) (storeA gs sb ms :: (l ++ [cellsA w.heap.size #[.int .i64 a, .int .i64 b, .int .i64 c, .int .i64 d, .int .i64 id, .int .i64 se] 32])) := h.box #[.int .i64 a, .int .i64 b, .int .i64 c, .int .i64 d, .int .i64 id, .int .i64 se] 32
  have PL := Lib.hid (fun (w1 : World) (l1 : List Ast) (h : Own w0 w1 l1) => Own.lift (status_ok ok id iter w1) h (.int .i64 at_) (by rw [hat]))
  have OF := Lib.hid (fun (w1 : World) (l1 : List Ast) (h : Own w0 w1 l1) => Own.lift (rof a b c d id se iter stage w1) h (.int .i64 tk) (by rw [htk]))
  have ST := Lib.hid (fun (w1 : World) (l1 : List Ast) (h : Own w0 w1 (storeA gs sb ms :: l1)) => show Calls Try.prog 61 #[.pointer (some ⟨gs, 0, none⟩), .int .i64 at_, .int .i64 tk] w1 fun e w' => e = .returned (.bool true) ∧ Own w0 w' (storeA gs sb ms' :: l1) from hm ▸ rswaps_yes h hl tk hx)
  clear h hm hx hl hat ok htk
  have hC := fun (w1 : World) (ms1 : List Int) (h1 : Own w0 w1 (storeA gs sb ms1 :: (l ++ [cellsA w.heap.size #[.int .i64 a, .int .i64 b, .int .i64 c, .int .i64 d, .int .i64 id, .int .i64 se] 32]))) => cells6 (l.length + 1) h1 (at_last (storeA gs sb ms1 :: l) _)
  go_enter Try.func19, Try.ntmps19
  go_wp2_with fail
  generalize w.alloc (.cells #[.int .i64 a, .int .i64 b, .int .i64 c, .int .i64 d, .int .i64 id, .int .i64 se] 32) = u at *
  generalize w.heap.size = rb at *
  have hS0 := hC _ _ (hB.drewN 1)
  have hB1 := hB.drewN 1
  replace hC := Lib.hid hC
  clear hB
  refine lin_start (S := (fun w' : World => w'.cell? ⟨rb, 0, none⟩ = some (.int .i64 a) ∧ w'.cell? ⟨rb, 1, none⟩ = some (.int .i64 b) ∧ w'.cell? ⟨rb, 2, none⟩ = some (.int .i64 c) ∧ w'.cell? ⟨rb, 3, none⟩ = some (.int .i64 d) ∧ w'.cell? ⟨rb, 4, none⟩ = some (.int .i64 id) ∧ w'.cell? ⟨rb, 5, none⟩ = some (.int .i64 se))) rfl 13 rfl hS0 ?_
  simp only [numbered, Nat.zero_add, Nat.reduceAdd]
  refine lin_take (v := ?_) (by kernel_rfl) (by kernel_rfl) (fun _ _ _ h => h) (Or.inl ⟨by rfl, ?_⟩) (by assumption) ?_; (rotate_left; (intro wS hSw; (try dsimp only at hSw); go_simp; (try with_reducible rfl)); rotate_left); simp only [Act.put, List.setIfInBounds_toArray, List.set_cons_zero, List.set_cons_succ]
  refine lin_take (v := ?_) (by kernel_rfl) (by kernel_rfl) (fun _ _ _ h => h) (Or.inl ⟨by rfl, ?_⟩) (by assumption) ?_; (rotate_left; (intro wS hSw; (try dsimp only at hSw); go_simp; (try with_reducible rfl)); rotate_left); simp only [Act.put, List.setIfInBounds_toArray, List.set_cons_zero, List.set_cons_succ]
  refine lin_take (v := ?_) (by kernel_rfl) (by kernel_rfl) (fun _ _ _ h => h) (Or.inl ⟨by rfl, ?_⟩) (by assumption) ?_; (rotate_left; (intro wS hSw; (try dsimp only at hSw); go_simp; (try with_reducible rfl)); rotate_left); simp only [Act.put, List.setIfInBounds_toArray, List.set_cons_zero, List.set_cons_succ]
  refine lin_take (v := ?_) (by kernel_rfl) (by kernel_rfl) (fun _ _ _ h => h) (Or.inl ⟨by rfl, ?_⟩) (by assumption) ?_; (rotate_left; (intro wS hSw; (try dsimp only at hSw); go_simp; (try with_reducible rfl)); rotate_left); simp only [Act.put, List.setIfInBounds_toArray, List.set_cons_zero, List.set_cons_succ]
  refine lin_take (v := ?_) (by kernel_rfl) (by kernel_rfl) (fun _ _ _ h => h) (Or.inl ⟨by rfl, ?_⟩) (by assumption) ?_; (rotate_left; (intro wS hSw; (try dsimp only at hSw); go_simp; (try with_reducible rfl)); rotate_left); simp only [Act.put, List.setIfInBounds_toArray, List.set_cons_zero, List.set_cons_succ]
  refine lin_take (v := ?_) (by kernel_rfl) (by kernel_rfl) (fun _ _ _ h => h) (Or.inl ⟨by rfl, ?_⟩) (by assumption) ?_; (rotate_left; (intro wS hSw; (try dsimp only at hSw); go_simp; (try with_reducible rfl)); rotate_left); simp only [Act.put, List.setIfInBounds_toArray, List.set_cons_zero, List.set_cons_succ]
  refine lin_rot ?_; simp only [List.cons_append, List.nil_append]
  refine lin_take (v := ?_) (by kernel_rfl) (by kernel_rfl) (fun _ _ _ h => h) (Or.inl ⟨by rfl, ?_⟩) (by assumption) ?_; (rotate_left; (intro wS hSw; (try dsimp only at hSw); go_simp; (try with_reducible rfl)); rotate_left); simp only [Act.put, List.setIfInBounds_toArray, List.set_cons_zero, List.set_cons_succ]
  refine lin_take (v := ?_) (by kernel_rfl) (by kernel_rfl) (fun _ _ _ h => h) (Or.inl ⟨by rfl, ?_⟩) (by assumption) ?_; (rotate_left; (intro wS hSw; (try dsimp only at hSw); go_simp; (try with_reducible rfl)); rotate_left); simp only [Act.put, List.setIfInBounds_toArray, List.set_cons_zero, List.set_cons_succ]
  refine lin_take (v := ?_) (by kernel_rfl) (by kernel_rfl) (fun _ _ _ h => h) (Or.inl ⟨by rfl, ?_⟩) (by assumption) ?_; (rotate_left; (intro wS hSw; (try dsimp only at hSw); go_simp; (try with_reducible rfl)); rotate_left); simp only [Act.put, List.setIfInBounds_toArray, List.set_cons_zero, List.set_cons_succ]
  refine lin_rot ?_; simp only [List.cons_append, List.nil_append]
  refine lin_rot ?_; simp only [List.cons_append, List.nil_append]
  refine lin_rot ?_; simp only [List.cons_append, List.nil_append]
  refine lin_sole (by kernel_rfl) (fun K hK => ?_)
  go_simp
  refine (PL.out _ _ hB1).mono ?_
  rintro e w1 ⟨rfl, h1⟩
  refine hK.out _ _ ?_ (fun hHeld => ?_)
  · exact hC.out _ _ h1
  try simp only [Act.put, List.setIfInBounds_toArray, List.set_cons_zero, List.set_cons_succ]
  refine lin_sole (by kernel_rfl) (fun K hK => ?_)
  go_simp
  refine (OF.out _ _ h1).mono ?_
  rintro e w2 ⟨rfl, h2⟩
  refine hK.out _ _ ?_ (fun hHeld => ?_)
  · exact hC.out _ _ h2
  try simp only [Act.put, List.setIfInBounds_toArray, List.set_cons_zero, List.set_cons_succ]
  refine lin_sole (by kernel_rfl) (fun K hK => ?_)
  go_simp
  refine (ST.out _ _ h2).mono ?_
  rintro e w3 ⟨rfl, h3⟩
  refine hK.out _ _ ?_ (fun hHeld => ?_)
  · exact hC.out _ _ h3
  try simp only [Act.put, List.setIfInBounds_toArray, List.set_cons_zero, List.set_cons_succ]
  refine lin_take (v := ?_) (by kernel_rfl) (by kernel_rfl) (fun _ _ _ h => h) (Or.inl ⟨by rfl, ?_⟩) (by assumption) ?_; (rotate_left; (intro wS hSw; (try dsimp only at hSw); go_simp; (try with_reducible rfl)); rotate_left); simp only [Act.put, List.setIfInBounds_toArray, List.set_cons_zero, List.set_cons_succ]
  refine lin_done (by kernel_rfl) ?_
  go_wp2_with fail
  go_ret
  exact ⟨rfl, Own.pop (l := storeA gs sb ms' :: l) h3⟩
theorem r_free_no {w0 w : World} {l : List Ast} {gs sb : Nat} {ms : List Int} (h : Own w0 w (storeA gs sb ms :: l)) {a b c d : Int} (ok : okPlan a b c d = true) (id se : Int) (iter stage : Int) {at_ : Nat} (hat : wordV a b c d id iter 1 = (at_ : Int)) (hl : at_ < ms.length) (tk : Int) (htk : tokV se iter stage = tk) (hx : ms.getD at_ 0 ≠ tk) :
    Calls Try.prog 19 #[.agg #[.int .i64 a, .int .i64 b, .int .i64 c, .int .i64 d, .int .i64 id, .int .i64 se], .pointer (some ⟨gs, 0, none⟩), .int .i64 iter, .int .i64 stage] w fun e w' => e = .returned (.bool false) ∧ Own w0 w' (storeA gs sb ms :: l) := by
  have hB : Own w0 (w.alloc (.cells #[.int .i64 a, .int .i64 b, .int .i64 c, .int .i64 d, .int .i64 id, .int .i64 se] 32)) (storeA gs sb ms :: (l ++ [cellsA w.heap.size #[.int .i64 a, .int .i64 b, .int .i64 c, .int .i64 d, .int .i64 id, .int .i64 se] 32])) := h.box #[.int .i64 a, .int .i64 b, .int .i64 c, .int .i64 d, .int .i64 id, .int .i64 se] 32
  have PL := Lib.hid (fun (w1 : World) (l1 : List Ast) (h : Own w0 w1 l1) => Own.lift (status_ok ok id iter w1) h (.int .i64 at_) (by rw [hat]))
  have OF := Lib.hid (fun (w1 : World) (l1 : List Ast) (h : Own w0 w1 l1) => Own.lift (rof a b c d id se iter stage w1) h (.int .i64 tk) (by rw [htk]))
  have ST := Lib.hid (fun (w1 : World) (l1 : List Ast) (h : Own w0 w1 (storeA gs sb ms :: l1)) => rswaps_no h hl tk hx)
  clear h hx hl hat ok htk
  have hC := fun (w1 : World) (ms1 : List Int) (h1 : Own w0 w1 (storeA gs sb ms1 :: (l ++ [cellsA w.heap.size #[.int .i64 a, .int .i64 b, .int .i64 c, .int .i64 d, .int .i64 id, .int .i64 se] 32]))) => cells6 (l.length + 1) h1 (at_last (storeA gs sb ms1 :: l) _)
  go_enter Try.func19, Try.ntmps19
  go_wp2_with fail
  generalize w.alloc (.cells #[.int .i64 a, .int .i64 b, .int .i64 c, .int .i64 d, .int .i64 id, .int .i64 se] 32) = u at *
  generalize w.heap.size = rb at *
  have hS0 := hC _ _ (hB.drewN 1)
  have hB1 := hB.drewN 1
  replace hC := Lib.hid hC
  clear hB
  refine lin_start (S := (fun w' : World => w'.cell? ⟨rb, 0, none⟩ = some (.int .i64 a) ∧ w'.cell? ⟨rb, 1, none⟩ = some (.int .i64 b) ∧ w'.cell? ⟨rb, 2, none⟩ = some (.int .i64 c) ∧ w'.cell? ⟨rb, 3, none⟩ = some (.int .i64 d) ∧ w'.cell? ⟨rb, 4, none⟩ = some (.int .i64 id) ∧ w'.cell? ⟨rb, 5, none⟩ = some (.int .i64 se))) rfl 13 rfl hS0 ?_
  simp only [numbered, Nat.zero_add, Nat.reduceAdd]
  refine lin_take (v := ?_) (by kernel_rfl) (by kernel_rfl) (fun _ _ _ h => h) (Or.inl ⟨by rfl, ?_⟩) (by assumption) ?_; (rotate_left; (intro wS hSw; (try dsimp only at hSw); go_simp; (try with_reducible rfl)); rotate_left); simp only [Act.put, List.setIfInBounds_toArray, List.set_cons_zero, List.set_cons_succ]
  refine lin_take (v := ?_) (by kernel_rfl) (by kernel_rfl) (fun _ _ _ h => h) (Or.inl ⟨by rfl, ?_⟩) (by assumption) ?_; (rotate_left; (intro wS hSw; (try dsimp only at hSw); go_simp; (try with_reducible rfl)); rotate_left); simp only [Act.put, List.setIfInBounds_toArray, List.set_cons_zero, List.set_cons_succ]
  refine lin_take (v := ?_) (by kernel_rfl) (by kernel_rfl) (fun _ _ _ h => h) (Or.inl ⟨by rfl, ?_⟩) (by assumption) ?_; (rotate_left; (intro wS hSw; (try dsimp only at hSw); go_simp; (try with_reducible rfl)); rotate_left); simp only [Act.put, List.setIfInBounds_toArray, List.set_cons_zero, List.set_cons_succ]
  refine lin_take (v := ?_) (by kernel_rfl) (by kernel_rfl) (fun _ _ _ h => h) (Or.inl ⟨by rfl, ?_⟩) (by assumption) ?_; (rotate_left; (intro wS hSw; (try dsimp only at hSw); go_simp; (try with_reducible rfl)); rotate_left); simp only [Act.put, List.setIfInBounds_toArray, List.set_cons_zero, List.set_cons_succ]
  refine lin_take (v := ?_) (by kernel_rfl) (by kernel_rfl) (fun _ _ _ h => h) (Or.inl ⟨by rfl, ?_⟩) (by assumption) ?_; (rotate_left; (intro wS hSw; (try dsimp only at hSw); go_simp; (try with_reducible rfl)); rotate_left); simp only [Act.put, List.setIfInBounds_toArray, List.set_cons_zero, List.set_cons_succ]
  refine lin_take (v := ?_) (by kernel_rfl) (by kernel_rfl) (fun _ _ _ h => h) (Or.inl ⟨by rfl, ?_⟩) (by assumption) ?_; (rotate_left; (intro wS hSw; (try dsimp only at hSw); go_simp; (try with_reducible rfl)); rotate_left); simp only [Act.put, List.setIfInBounds_toArray, List.set_cons_zero, List.set_cons_succ]
  refine lin_rot ?_; simp only [List.cons_append, List.nil_append]
  refine lin_take (v := ?_) (by kernel_rfl) (by kernel_rfl) (fun _ _ _ h => h) (Or.inl ⟨by rfl, ?_⟩) (by assumption) ?_; (rotate_left; (intro wS hSw; (try dsimp only at hSw); go_simp; (try with_reducible rfl)); rotate_left); simp only [Act.put, List.setIfInBounds_toArray, List.set_cons_zero, List.set_cons_succ]
  refine lin_take (v := ?_) (by kernel_rfl) (by kernel_rfl) (fun _ _ _ h => h) (Or.inl ⟨by rfl, ?_⟩) (by assumption) ?_; (rotate_left; (intro wS hSw; (try dsimp only at hSw); go_simp; (try with_reducible rfl)); rotate_left); simp only [Act.put, List.setIfInBounds_toArray, List.set_cons_zero, List.set_cons_succ]
  refine lin_take (v := ?_) (by kernel_rfl) (by kernel_rfl) (fun _ _ _ h => h) (Or.inl ⟨by rfl, ?_⟩) (by assumption) ?_; (rotate_left; (intro wS hSw; (try dsimp only at hSw); go_simp; (try with_reducible rfl)); rotate_left); simp only [Act.put, List.setIfInBounds_toArray, List.set_cons_zero, List.set_cons_succ]
  refine lin_rot ?_; simp only [List.cons_append, List.nil_append]
  refine lin_rot ?_; simp only [List.cons_append, List.nil_append]
  refine lin_rot ?_; simp only [List.cons_append, List.nil_append]
  refine lin_sole (by kernel_rfl) (fun K hK => ?_)
  go_simp
  refine (PL.out _ _ hB1).mono ?_
  rintro e w1 ⟨rfl, h1⟩
  refine hK.out _ _ ?_ (fun hHeld => ?_)
  · exact hC.out _ _ h1
  try simp only [Act.put, List.setIfInBounds_toArray, List.set_cons_zero, List.set_cons_succ]
  refine lin_sole (by kernel_rfl) (fun K hK => ?_)
  go_simp
  refine (OF.out _ _ h1).mono ?_
  rintro e w2 ⟨rfl, h2⟩
  refine hK.out _ _ ?_ (fun hHeld => ?_)
  · exact hC.out _ _ h2
  try simp only [Act.put, List.setIfInBounds_toArray, List.set_cons_zero, List.set_cons_succ]
  refine lin_sole (by kernel_rfl) (fun K hK => ?_)
  go_simp
  refine (ST.out _ _ h2).mono ?_
  rintro e w3 ⟨rfl, rfl⟩
  refine hK.out _ _ ?_ (fun hHeld => ?_)
  · exact hC.out _ _ h2
  try simp only [Act.put, List.setIfInBounds_toArray, List.set_cons_zero, List.set_cons_succ]
  refine lin_take (v := ?_) (by kernel_rfl) (by kernel_rfl) (fun _ _ _ h => h) (Or.inl ⟨by rfl, ?_⟩) (by assumption) ?_; (rotate_left; (intro wS hSw; (try dsimp only at hSw); go_simp; (try with_reducible rfl)); rotate_left); simp only [Act.put, List.setIfInBounds_toArray, List.set_cons_zero, List.set_cons_succ]
  refine lin_done (by kernel_rfl) ?_
  go_wp2_with fail
  go_ret
  exact ⟨rfl, Own.pop (l := storeA gs sb ms :: l) h2⟩
theorem r_end {w0 w : World} {l : List Ast} {gs sb : Nat} {ms : List Int} (h : Own w0 w (storeA gs sb ms :: l)) {a b c d : Int} (ok : okPlan a b c d = true) (id se : Int) (iter : Int) {at_ : Nat} (hat : wordV a b c d id iter 3 = (at_ : Int)) (hl : at_ < ms.length) (tk : Int) (htk : tokV se iter 0 = tk) (ms' : List Int) (hm : ms.set at_ tk = ms') :
    Calls Try.prog 15 #[.agg #[.int .i64 a, .int .i64 b, .int .i64 c, .int .i64 d, .int .i64 id, .int .i64 se], .pointer (some ⟨gs, 0, none⟩), .int .i64 iter] w fun e w' => e = .returned (.tuple #[]) ∧ Own w0 w' (storeA gs sb ms' :: l) := by
  have hB : Own w0 (w.alloc (.cells #[.int .i64 a, .int .i64 b, .int .i64 c, .int .i64 d, .int .i64 id, .int .i64 se] 32)) (storeA gs sb ms :: (l ++ [cellsA w.heap.size #[.int .i64 a, .int .i64 b, .int .i64 c, .int .i64 d, .int .i64 id, .int .i64 se] 32])) := h.box #[.int .i64 a, .int .i64 b, .int .i64 c, .int .i64 d, .int .i64 id, .int .i64 se] 32
  have PL := Lib.hid (fun (w1 : World) (l1 : List Ast) (h : Own w0 w1 l1) => Own.lift (done_ok ok id iter w1) h (.int .i64 at_) (by rw [hat]))
  have OF := Lib.hid (fun (w1 : World) (l1 : List Ast) (h : Own w0 w1 l1) => Own.lift (rof a b c d id se iter 0 w1) h (.int .i64 tk) (by rw [htk]))
  have ST := Lib.hid (fun (w1 : World) (l1 : List Ast) (h : Own w0 w1 (storeA gs sb ms :: l1)) => own_store h 0 rfl hl tk ms' hm)
  clear h hm hl hat ok htk
  have hC := fun (w1 : World) (ms1 : List Int) (h1 : Own w0 w1 (storeA gs sb ms1 :: (l ++ [cellsA w.heap.size #[.int .i64 a, .int .i64 b, .int .i64 c, .int .i64 d, .int .i64 id, .int .i64 se] 32]))) => cells6 (l.length + 1) h1 (at_last (storeA gs sb ms1 :: l) _)
  go_enter Try.func15, Try.ntmps15
  go_wp2_with fail
  generalize w.alloc (.cells #[.int .i64 a, .int .i64 b, .int .i64 c, .int .i64 d, .int .i64 id, .int .i64 se] 32) = u at *
  generalize w.heap.size = rb at *
  have hS0 := hC _ _ (hB.drewN 1)
  have hB1 := hB.drewN 1
  replace hC := Lib.hid hC
  clear hB
  refine lin_start (S := (fun w' : World => w'.cell? ⟨rb, 0, none⟩ = some (.int .i64 a) ∧ w'.cell? ⟨rb, 1, none⟩ = some (.int .i64 b) ∧ w'.cell? ⟨rb, 2, none⟩ = some (.int .i64 c) ∧ w'.cell? ⟨rb, 3, none⟩ = some (.int .i64 d) ∧ w'.cell? ⟨rb, 4, none⟩ = some (.int .i64 id) ∧ w'.cell? ⟨rb, 5, none⟩ = some (.int .i64 se))) rfl 11 rfl hS0 ?_
  simp only [numbered, Nat.zero_add, Nat.reduceAdd]
  refine lin_take (v := ?_) (by kernel_rfl) (by kernel_rfl) (fun _ _ _ h => h) (Or.inl ⟨by rfl, ?_⟩) (by assumption) ?_; (rotate_left; (intro wS hSw; (try dsimp only at hSw); go_simp; (try with_reducible rfl)); rotate_left); simp only [Act.put, List.setIfInBounds_toArray, List.set_cons_zero, List.set_cons_succ]
  refine lin_take (v := ?_) (by kernel_rfl) (by kernel_rfl) (fun _ _ _ h => h) (Or.inl ⟨by rfl, ?_⟩) (by assumption) ?_; (rotate_left; (intro wS hSw; (try dsimp only at hSw); go_simp; (try with_reducible rfl)); rotate_left); simp only [Act.put, List.setIfInBounds_toArray, List.set_cons_zero, List.set_cons_succ]
  refine lin_take (v := ?_) (by kernel_rfl) (by kernel_rfl) (fun _ _ _ h => h) (Or.inl ⟨by rfl, ?_⟩) (by assumption) ?_; (rotate_left; (intro wS hSw; (try dsimp only at hSw); go_simp; (try with_reducible rfl)); rotate_left); simp only [Act.put, List.setIfInBounds_toArray, List.set_cons_zero, List.set_cons_succ]
  refine lin_take (v := ?_) (by kernel_rfl) (by kernel_rfl) (fun _ _ _ h => h) (Or.inl ⟨by rfl, ?_⟩) (by assumption) ?_; (rotate_left; (intro wS hSw; (try dsimp only at hSw); go_simp; (try with_reducible rfl)); rotate_left); simp only [Act.put, List.setIfInBounds_toArray, List.set_cons_zero, List.set_cons_succ]
  refine lin_take (v := ?_) (by kernel_rfl) (by kernel_rfl) (fun _ _ _ h => h) (Or.inl ⟨by rfl, ?_⟩) (by assumption) ?_; (rotate_left; (intro wS hSw; (try dsimp only at hSw); go_simp; (try with_reducible rfl)); rotate_left); simp only [Act.put, List.setIfInBounds_toArray, List.set_cons_zero, List.set_cons_succ]
  refine lin_take (v := ?_) (by kernel_rfl) (by kernel_rfl) (fun _ _ _ h => h) (Or.inl ⟨by rfl, ?_⟩) (by assumption) ?_; (rotate_left; (intro wS hSw; (try dsimp only at hSw); go_simp; (try with_reducible rfl)); rotate_left); simp only [Act.put, List.setIfInBounds_toArray, List.set_cons_zero, List.set_cons_succ]
  refine lin_rot ?_; simp only [List.cons_append, List.nil_append]
  refine lin_take (v := ?_) (by kernel_rfl) (by kernel_rfl) (fun _ _ _ h => h) (Or.inl ⟨by rfl, ?_⟩) (by assumption) ?_; (rotate_left; (intro wS hSw; (try dsimp only at hSw); go_simp; (try with_reducible rfl)); rotate_left); simp only [Act.put, List.setIfInBounds_toArray, List.set_cons_zero, List.set_cons_succ]
  refine lin_take (v := ?_) (by kernel_rfl) (by kernel_rfl) (fun _ _ _ h => h) (Or.inl ⟨by rfl, ?_⟩) (by assumption) ?_; (rotate_left; (intro wS hSw; (try dsimp only at hSw); go_simp; (try with_reducible rfl)); rotate_left); simp only [Act.put, List.setIfInBounds_toArray, List.set_cons_zero, List.set_cons_succ]
  refine lin_rot ?_; simp only [List.cons_append, List.nil_append]
  refine lin_rot ?_; simp only [List.cons_append, List.nil_append]
  refine lin_sole (by kernel_rfl) (fun K hK => ?_)
  go_simp
  refine (PL.out _ _ hB1).mono ?_
  rintro e w1 ⟨rfl, h1⟩
  refine hK.out _ _ ?_ (fun hHeld => ?_)
  · exact hC.out _ _ h1
  try simp only [Act.put, List.setIfInBounds_toArray, List.set_cons_zero, List.set_cons_succ]
  refine lin_sole (by kernel_rfl) (fun K hK => ?_)
  go_simp
  refine (OF.out _ _ h1).mono ?_
  rintro e w2 ⟨rfl, h2⟩
  refine hK.out _ _ ?_ (fun hHeld => ?_)
  · exact hC.out _ _ h2
  try simp only [Act.put, List.setIfInBounds_toArray, List.set_cons_zero, List.set_cons_succ]
  refine lin_sole (by kernel_rfl) (fun K hK => ?_)
  go_simp
  refine (ST.out _ _ h2).mono ?_
  rintro e w3 ⟨rfl, h3⟩
  refine hK.out _ _ ?_ (fun hHeld => ?_)
  · exact hC.out _ _ h3
  try simp only [Act.put, List.setIfInBounds_toArray, List.set_cons_zero, List.set_cons_succ]
  refine lin_done (by kernel_rfl) ?_
  go_wp2_with fail
  go_end0
  exact ⟨rfl, Own.pop (l := storeA gs sb ms' :: l) h3⟩
theorem r_sleep {w0 w : World} {l : List Ast} {gs sb : Nat} {ms : List Int} (h : Own w0 w (storeA gs sb ms :: l)) {a b c d : Int} (ok : okPlan a b c d = true) (id se : Int) (iter : Int) {at_ : Nat} (hat : frameV a b c d id + 1 = (at_ : Int)) (hl : at_ < ms.length) (tk : Int) (htk : tokV se iter 0 = tk) (ms' : List Int) (hm : ms.set at_ tk = ms') :
    Calls Try.prog 16 #[.agg #[.int .i64 a, .int .i64 b, .int .i64 c, .int .i64 d, .int .i64 id, .int .i64 se], .pointer (some ⟨gs, 0, none⟩), .int .i64 iter] w fun e w' => e = .returned (.tuple #[]) ∧ Own w0 w' (storeA gs sb ms' :: l) := by
  have hB : Own w0 (w.alloc (.cells #[.int .i64 a, .int .i64 b, .int .i64 c, .int .i64 d, .int .i64 id, .int .i64 se] 32)) (storeA gs sb ms :: (l ++ [cellsA w.heap.size #[.int .i64 a, .int .i64 b, .int .i64 c, .int .i64 d, .int .i64 id, .int .i64 se] 32])) := h.box #[.int .i64 a, .int .i64 b, .int .i64 c, .int .i64 d, .int .i64 id, .int .i64 se] 32
  have PL := Lib.hid (fun (w1 : World) (l1 : List Ast) (h : Own w0 w1 l1) => Own.lift (nap_ok ok id w1) h (.int .i64 at_) (by rw [hat]))
  have OF := Lib.hid (fun (w1 : World) (l1 : List Ast) (h : Own w0 w1 l1) => Own.lift (rof a b c d id se iter 0 w1) h (.int .i64 tk) (by rw [htk]))
  have ST := Lib.hid (fun (w1 : World) (l1 : List Ast) (h : Own w0 w1 (storeA gs sb ms :: l1)) => own_store h 0 rfl hl tk ms' hm)
  clear h hm hl hat ok htk
  have hC := fun (w1 : World) (ms1 : List Int) (h1 : Own w0 w1 (storeA gs sb ms1 :: (l ++ [cellsA w.heap.size #[.int .i64 a, .int .i64 b, .int .i64 c, .int .i64 d, .int .i64 id, .int .i64 se] 32]))) => cells6 (l.length + 1) h1 (at_last (storeA gs sb ms1 :: l) _)
  go_enter Try.func16, Try.ntmps16
  go_wp2_with fail
  generalize w.alloc (.cells #[.int .i64 a, .int .i64 b, .int .i64 c, .int .i64 d, .int .i64 id, .int .i64 se] 32) = u at *
  generalize w.heap.size = rb at *
  have hS0 := hC _ _ (hB.drewN 1)
  have hB1 := hB.drewN 1
  replace hC := Lib.hid hC
  clear hB
  refine lin_start (S := (fun w' : World => w'.cell? ⟨rb, 0, none⟩ = some (.int .i64 a) ∧ w'.cell? ⟨rb, 1, none⟩ = some (.int .i64 b) ∧ w'.cell? ⟨rb, 2, none⟩ = some (.int .i64 c) ∧ w'.cell? ⟨rb, 3, none⟩ = some (.int .i64 d) ∧ w'.cell? ⟨rb, 4, none⟩ = some (.int .i64 id) ∧ w'.cell? ⟨rb, 5, none⟩ = some (.int .i64 se))) rfl 10 rfl hS0 ?_
  simp only [numbered, Nat.zero_add, Nat.reduceAdd]
  refine lin_take (v := ?_) (by kernel_rfl) (by kernel_rfl) (fun _ _ _ h => h) (Or.inl ⟨by rfl, ?_⟩) (by assumption) ?_; (rotate_left; (intro wS hSw; (try dsimp only at hSw); go_simp; (try with_reducible rfl)); rotate_left); simp only [Act.put, List.setIfInBounds_toArray, List.set_cons_zero, List.set_cons_succ]
  refine lin_take (v := ?_) (by kernel_rfl) (by kernel_rfl) (fun _ _ _ h => h) (Or.inl ⟨by rfl, ?_⟩) (by assumption) ?_; (rotate_left; (intro wS hSw; (try dsimp only at hSw); go_simp; (try with_reducible rfl)); rotate_left); simp only [Act.put, List.setIfInBounds_toArray, List.set_cons_zero, List.set_cons_succ]
  refine lin_take (v := ?_) (by kernel_rfl) (by kernel_rfl) (fun _ _ _ h => h) (Or.inl ⟨by rfl, ?_⟩) (by assumption) ?_; (rotate_left; (intro wS hSw; (try dsimp only at hSw); go_simp; (try with_reducible rfl)); rotate_left); simp only [Act.put, List.setIfInBounds_toArray, List.set_cons_zero, List.set_cons_succ]
  refine lin_take (v := ?_) (by kernel_rfl) (by kernel_rfl) (fun _ _ _ h => h) (Or.inl ⟨by rfl, ?_⟩) (by assumption) ?_; (rotate_left; (intro wS hSw; (try dsimp only at hSw); go_simp; (try with_reducible rfl)); rotate_left); simp only [Act.put, List.setIfInBounds_toArray, List.set_cons_zero, List.set_cons_succ]
  refine lin_take (v := ?_) (by kernel_rfl) (by kernel_rfl) (fun _ _ _ h => h) (Or.inl ⟨by rfl, ?_⟩) (by assumption) ?_; (rotate_left; (intro wS hSw; (try dsimp only at hSw); go_simp; (try with_reducible rfl)); rotate_left); simp only [Act.put, List.setIfInBounds_toArray, List.set_cons_zero, List.set_cons_succ]
  refine lin_rot ?_; simp only [List.cons_append, List.nil_append]
  refine lin_take (v := ?_) (by kernel_rfl) (by kernel_rfl) (fun _ _ _ h => h) (Or.inl ⟨by rfl, ?_⟩) (by assumption) ?_; (rotate_left; (intro wS hSw; (try dsimp only at hSw); go_simp; (try with_reducible rfl)); rotate_left); simp only [Act.put, List.setIfInBounds_toArray, List.set_cons_zero, List.set_cons_succ]
  refine lin_take (v := ?_) (by kernel_rfl) (by kernel_rfl) (fun _ _ _ h => h) (Or.inl ⟨by rfl, ?_⟩) (by assumption) ?_; (rotate_left; (intro wS hSw; (try dsimp only at hSw); go_simp; (try with_reducible rfl)); rotate_left); simp only [Act.put, List.setIfInBounds_toArray, List.set_cons_zero, List.set_cons_succ]
  refine lin_rot ?_; simp only [List.cons_append, List.nil_append]
  refine lin_rot ?_; simp only [List.cons_append, List.nil_append]
  refine lin_sole (by kernel_rfl) (fun K hK => ?_)
  go_simp
  refine (PL.out _ _ hB1).mono ?_
  rintro e w1 ⟨rfl, h1⟩
  refine hK.out _ _ ?_ (fun hHeld => ?_)
  · exact hC.out _ _ h1
  try simp only [Act.put, List.setIfInBounds_toArray, List.set_cons_zero, List.set_cons_succ]
  refine lin_sole (by kernel_rfl) (fun K hK => ?_)
  go_simp
  refine (OF.out _ _ h1).mono ?_
  rintro e w2 ⟨rfl, h2⟩
  refine hK.out _ _ ?_ (fun hHeld => ?_)
  · exact hC.out _ _ h2
  try simp only [Act.put, List.setIfInBounds_toArray, List.set_cons_zero, List.set_cons_succ]
  refine lin_sole (by kernel_rfl) (fun K hK => ?_)
  go_simp
  refine (ST.out _ _ h2).mono ?_
  rintro e w3 ⟨rfl, h3⟩
  refine hK.out _ _ ?_ (fun hHeld => ?_)
  · exact hC.out _ _ h3
  try simp only [Act.put, List.setIfInBounds_toArray, List.set_cons_zero, List.set_cons_succ]
  refine lin_done (by kernel_rfl) ?_
  go_wp2_with fail
  go_end0
  exact ⟨rfl, Own.pop (l := storeA gs sb ms' :: l) h3⟩
theorem r_rouse_yes {w0 w : World} {l : List Ast} {gs sb : Nat} {ms : List Int} (h : Own w0 w (storeA gs sb ms :: l)) {a b c d : Int} (ok : okPlan a b c d = true) (id se : Int) (iter : Int) {at_ : Nat} (hat : frameV a b c d id + 1 = (at_ : Int)) (hl : at_ < ms.length) (tk : Int) (htk : tokV se iter 0 = tk) (hx : ms.getD at_ 0 = tk) (ms' : List Int) (hm : ms.set at_ 0 = ms') :
    Calls Try.prog 20 #[.agg #[.int .i64 a, .int .i64 b, .int .i64 c, .int .i64 d, .int .i64 id, .int .i64 se], .pointer (some ⟨gs, 0, none⟩), .int .i64 iter] w fun e w' => e = .returned (.bool true) ∧ Own w0 w' (storeA gs sb ms' :: l) := by
  have hB : Own w0 (w.alloc (.cells #[.int .i64 a, .int .i64 b, .int .i64 c, .int .i64 d, .int .i64 id, .int .i64 se] 32)) (storeA gs sb ms :: (l ++ [cellsA w.heap.size #[.int .i64 a, .int .i64 b, .int .i64 c, .int .i64 d, .int .i64 id, .int .i64 se] 32])) := h.box #[.int .i64 a, .int .i64 b, .int .i64 c, .int .i64 d, .int .i64 id, .int .i64 se] 32
  have PL := Lib.hid (fun (w1 : World) (l1 : List Ast) (h : Own w0 w1 l1) => Own.lift (nap_ok ok id w1) h (.int .i64 at_) (by rw [hat]))
  have OF := Lib.hid (fun (w1 : World) (l1 : List Ast) (h : Own w0 w1 l1) => Own.lift (rof a b c d id se iter 0 w1) h (.int .i64 tk) (by rw [htk]))
  have ST := Lib.hid (fun (w1 : World) (l1 : List Ast) (h : Own w0 w1 (storeA gs sb ms :: l1)) => show Calls Try.prog 61 #[.pointer (some ⟨gs, 0, none⟩), .int .i64 at_, .int .i64 tk] w1 fun e w' => e = .returned (.bool true) ∧ Own w0 w' (storeA gs sb ms' :: l1) from hm ▸ rswaps_yes h hl tk hx)
  clear h hm hx hl hat ok htk
  have hC := fun (w1 : World) (ms1 : List Int) (h1 : Own w0 w1 (storeA gs sb ms1 :: (l ++ [cellsA w.heap.size #[.int .i64 a, .int .i64 b, .int .i64 c, .int .i64 d, .int .i64 id, .int .i64 se] 32]))) => cells6 (l.length + 1) h1 (at_last (storeA gs sb ms1 :: l) _)
  go_enter Try.func20, Try.ntmps20
  go_wp2_with fail
  generalize w.alloc (.cells #[.int .i64 a, .int .i64 b, .int .i64 c, .int .i64 d, .int .i64 id, .int .i64 se] 32) = u at *
  generalize w.heap.size = rb at *
  have hS0 := hC _ _ (hB.drewN 1)
  have hB1 := hB.drewN 1
  replace hC := Lib.hid hC
  clear hB
  refine lin_start (S := (fun w' : World => w'.cell? ⟨rb, 0, none⟩ = some (.int .i64 a) ∧ w'.cell? ⟨rb, 1, none⟩ = some (.int .i64 b) ∧ w'.cell? ⟨rb, 2, none⟩ = some (.int .i64 c) ∧ w'.cell? ⟨rb, 3, none⟩ = some (.int .i64 d) ∧ w'.cell? ⟨rb, 4, none⟩ = some (.int .i64 id) ∧ w'.cell? ⟨rb, 5, none⟩ = some (.int .i64 se))) rfl 11 rfl hS0 ?_
  simp only [numbered, Nat.zero_add, Nat.reduceAdd]
  refine lin_take (v := ?_) (by kernel_rfl) (by kernel_rfl) (fun _ _ _ h => h) (Or.inl ⟨by rfl, ?_⟩) (by assumption) ?_; (rotate_left; (intro wS hSw; (try dsimp only at hSw); go_simp; (try with_reducible rfl)); rotate_left); simp only [Act.put, List.setIfInBounds_toArray, List.set_cons_zero, List.set_cons_succ]
  refine lin_take (v := ?_) (by kernel_rfl) (by kernel_rfl) (fun _ _ _ h => h) (Or.inl ⟨by rfl, ?_⟩) (by assumption) ?_; (rotate_left; (intro wS hSw; (try dsimp only at hSw); go_simp; (try with_reducible rfl)); rotate_left); simp only [Act.put, List.setIfInBounds_toArray, List.set_cons_zero, List.set_cons_succ]
  refine lin_take (v := ?_) (by kernel_rfl) (by kernel_rfl) (fun _ _ _ h => h) (Or.inl ⟨by rfl, ?_⟩) (by assumption) ?_; (rotate_left; (intro wS hSw; (try dsimp only at hSw); go_simp; (try with_reducible rfl)); rotate_left); simp only [Act.put, List.setIfInBounds_toArray, List.set_cons_zero, List.set_cons_succ]
  refine lin_take (v := ?_) (by kernel_rfl) (by kernel_rfl) (fun _ _ _ h => h) (Or.inl ⟨by rfl, ?_⟩) (by assumption) ?_; (rotate_left; (intro wS hSw; (try dsimp only at hSw); go_simp; (try with_reducible rfl)); rotate_left); simp only [Act.put, List.setIfInBounds_toArray, List.set_cons_zero, List.set_cons_succ]
  refine lin_take (v := ?_) (by kernel_rfl) (by kernel_rfl) (fun _ _ _ h => h) (Or.inl ⟨by rfl, ?_⟩) (by assumption) ?_; (rotate_left; (intro wS hSw; (try dsimp only at hSw); go_simp; (try with_reducible rfl)); rotate_left); simp only [Act.put, List.setIfInBounds_toArray, List.set_cons_zero, List.set_cons_succ]
  refine lin_rot ?_; simp only [List.cons_append, List.nil_append]
  refine lin_take (v := ?_) (by kernel_rfl) (by kernel_rfl) (fun _ _ _ h => h) (Or.inl ⟨by rfl, ?_⟩) (by assumption) ?_; (rotate_left; (intro wS hSw; (try dsimp only at hSw); go_simp; (try with_reducible rfl)); rotate_left); simp only [Act.put, List.setIfInBounds_toArray, List.set_cons_zero, List.set_cons_succ]
  refine lin_take (v := ?_) (by kernel_rfl) (by kernel_rfl) (fun _ _ _ h => h) (Or.inl ⟨by rfl, ?_⟩) (by assumption) ?_; (rotate_left; (intro wS hSw; (try dsimp only at hSw); go_simp; (try with_reducible rfl)); rotate_left); simp only [Act.put, List.setIfInBounds_toArray, List.set_cons_zero, List.set_cons_succ]
  refine lin_rot ?_; simp only [List.cons_append, List.nil_append]
  refine lin_rot ?_; simp only [List.cons_append, List.nil_append]
  refine lin_rot ?_; simp only [List.cons_append, List.nil_append]
  refine lin_sole (by kernel_rfl) (fun K hK => ?_)
  go_simp
  refine (PL.out _ _ hB1).mono ?_
  rintro e w1 ⟨rfl, h1⟩
  refine hK.out _ _ ?_ (fun hHeld => ?_)
  · exact hC.out _ _ h1
  try simp only [Act.put, List.setIfInBounds_toArray, List.set_cons_zero, List.set_cons_succ]
  refine lin_sole (by kernel_rfl) (fun K hK => ?_)
  go_simp
  refine (OF.out _ _ h1).mono ?_
  rintro e w2 ⟨rfl, h2⟩
  refine hK.out _ _ ?_ (fun hHeld => ?_)
  · exact hC.out _ _ h2
  try simp only [Act.put, List.setIfInBounds_toArray, List.set_cons_zero, List.set_cons_succ]
  refine lin_sole (by kernel_rfl) (fun K hK => ?_)
  go_simp
  refine (ST.out _ _ h2).mono ?_
  rintro e w3 ⟨rfl, h3⟩
  refine hK.out _ _ ?_ (fun hHeld => ?_)
  · exact hC.out _ _ h3
  try simp only [Act.put, List.setIfInBounds_toArray, List.set_cons_zero, List.set_cons_succ]
  refine lin_take (v := ?_) (by kernel_rfl) (by kernel_rfl) (fun _ _ _ h => h) (Or.inl ⟨by rfl, ?_⟩) (by assumption) ?_; (rotate_left; (intro wS hSw; (try dsimp only at hSw); go_simp; (try with_reducible rfl)); rotate_left); simp only [Act.put, List.setIfInBounds_toArray, List.set_cons_zero, List.set_cons_succ]
  refine lin_done (by kernel_rfl) ?_
  go_wp2_with fail
  go_ret
  exact ⟨rfl, Own.pop (l := storeA gs sb ms' :: l) h3⟩
theorem r_rouse_no {w0 w : World} {l : List Ast} {gs sb : Nat} {ms : List Int} (h : Own w0 w (storeA gs sb ms :: l)) {a b c d : Int} (ok : okPlan a b c d = true) (id se : Int) (iter : Int) {at_ : Nat} (hat : frameV a b c d id + 1 = (at_ : Int)) (hl : at_ < ms.length) (tk : Int) (htk : tokV se iter 0 = tk) (hx : ms.getD at_ 0 ≠ tk) :
    Calls Try.prog 20 #[.agg #[.int .i64 a, .int .i64 b, .int .i64 c, .int .i64 d, .int .i64 id, .int .i64 se], .pointer (some ⟨gs, 0, none⟩), .int .i64 iter] w fun e w' => e = .returned (.bool false) ∧ Own w0 w' (storeA gs sb ms :: l) := by
  have hB : Own w0 (w.alloc (.cells #[.int .i64 a, .int .i64 b, .int .i64 c, .int .i64 d, .int .i64 id, .int .i64 se] 32)) (storeA gs sb ms :: (l ++ [cellsA w.heap.size #[.int .i64 a, .int .i64 b, .int .i64 c, .int .i64 d, .int .i64 id, .int .i64 se] 32])) := h.box #[.int .i64 a, .int .i64 b, .int .i64 c, .int .i64 d, .int .i64 id, .int .i64 se] 32
  have PL := Lib.hid (fun (w1 : World) (l1 : List Ast) (h : Own w0 w1 l1) => Own.lift (nap_ok ok id w1) h (.int .i64 at_) (by rw [hat]))
  have OF := Lib.hid (fun (w1 : World) (l1 : List Ast) (h : Own w0 w1 l1) => Own.lift (rof a b c d id se iter 0 w1) h (.int .i64 tk) (by rw [htk]))
  have ST := Lib.hid (fun (w1 : World) (l1 : List Ast) (h : Own w0 w1 (storeA gs sb ms :: l1)) => rswaps_no h hl tk hx)
  clear h hx hl hat ok htk
  have hC := fun (w1 : World) (ms1 : List Int) (h1 : Own w0 w1 (storeA gs sb ms1 :: (l ++ [cellsA w.heap.size #[.int .i64 a, .int .i64 b, .int .i64 c, .int .i64 d, .int .i64 id, .int .i64 se] 32]))) => cells6 (l.length + 1) h1 (at_last (storeA gs sb ms1 :: l) _)
  go_enter Try.func20, Try.ntmps20
  go_wp2_with fail
  generalize w.alloc (.cells #[.int .i64 a, .int .i64 b, .int .i64 c, .int .i64 d, .int .i64 id, .int .i64 se] 32) = u at *
  generalize w.heap.size = rb at *
  have hS0 := hC _ _ (hB.drewN 1)
  have hB1 := hB.drewN 1
  replace hC := Lib.hid hC
  clear hB
  refine lin_start (S := (fun w' : World => w'.cell? ⟨rb, 0, none⟩ = some (.int .i64 a) ∧ w'.cell? ⟨rb, 1, none⟩ = some (.int .i64 b) ∧ w'.cell? ⟨rb, 2, none⟩ = some (.int .i64 c) ∧ w'.cell? ⟨rb, 3, none⟩ = some (.int .i64 d) ∧ w'.cell? ⟨rb, 4, none⟩ = some (.int .i64 id) ∧ w'.cell? ⟨rb, 5, none⟩ = some (.int .i64 se))) rfl 11 rfl hS0 ?_
  simp only [numbered, Nat.zero_add, Nat.reduceAdd]
  refine lin_take (v := ?_) (by kernel_rfl) (by kernel_rfl) (fun _ _ _ h => h) (Or.inl ⟨by rfl, ?_⟩) (by assumption) ?_; (rotate_left; (intro wS hSw; (try dsimp only at hSw); go_simp; (try with_reducible rfl)); rotate_left); simp only [Act.put, List.setIfInBounds_toArray, List.set_cons_zero, List.set_cons_succ]
  refine lin_take (v := ?_) (by kernel_rfl) (by kernel_rfl) (fun _ _ _ h => h) (Or.inl ⟨by rfl, ?_⟩) (by assumption) ?_; (rotate_left; (intro wS hSw; (try dsimp only at hSw); go_simp; (try with_reducible rfl)); rotate_left); simp only [Act.put, List.setIfInBounds_toArray, List.set_cons_zero, List.set_cons_succ]
  refine lin_take (v := ?_) (by kernel_rfl) (by kernel_rfl) (fun _ _ _ h => h) (Or.inl ⟨by rfl, ?_⟩) (by assumption) ?_; (rotate_left; (intro wS hSw; (try dsimp only at hSw); go_simp; (try with_reducible rfl)); rotate_left); simp only [Act.put, List.setIfInBounds_toArray, List.set_cons_zero, List.set_cons_succ]
  refine lin_take (v := ?_) (by kernel_rfl) (by kernel_rfl) (fun _ _ _ h => h) (Or.inl ⟨by rfl, ?_⟩) (by assumption) ?_; (rotate_left; (intro wS hSw; (try dsimp only at hSw); go_simp; (try with_reducible rfl)); rotate_left); simp only [Act.put, List.setIfInBounds_toArray, List.set_cons_zero, List.set_cons_succ]
  refine lin_take (v := ?_) (by kernel_rfl) (by kernel_rfl) (fun _ _ _ h => h) (Or.inl ⟨by rfl, ?_⟩) (by assumption) ?_; (rotate_left; (intro wS hSw; (try dsimp only at hSw); go_simp; (try with_reducible rfl)); rotate_left); simp only [Act.put, List.setIfInBounds_toArray, List.set_cons_zero, List.set_cons_succ]
  refine lin_rot ?_; simp only [List.cons_append, List.nil_append]
  refine lin_take (v := ?_) (by kernel_rfl) (by kernel_rfl) (fun _ _ _ h => h) (Or.inl ⟨by rfl, ?_⟩) (by assumption) ?_; (rotate_left; (intro wS hSw; (try dsimp only at hSw); go_simp; (try with_reducible rfl)); rotate_left); simp only [Act.put, List.setIfInBounds_toArray, List.set_cons_zero, List.set_cons_succ]
  refine lin_take (v := ?_) (by kernel_rfl) (by kernel_rfl) (fun _ _ _ h => h) (Or.inl ⟨by rfl, ?_⟩) (by assumption) ?_; (rotate_left; (intro wS hSw; (try dsimp only at hSw); go_simp; (try with_reducible rfl)); rotate_left); simp only [Act.put, List.setIfInBounds_toArray, List.set_cons_zero, List.set_cons_succ]
  refine lin_rot ?_; simp only [List.cons_append, List.nil_append]
  refine lin_rot ?_; simp only [List.cons_append, List.nil_append]
  refine lin_rot ?_; simp only [List.cons_append, List.nil_append]
  refine lin_sole (by kernel_rfl) (fun K hK => ?_)
  go_simp
  refine (PL.out _ _ hB1).mono ?_
  rintro e w1 ⟨rfl, h1⟩
  refine hK.out _ _ ?_ (fun hHeld => ?_)
  · exact hC.out _ _ h1
  try simp only [Act.put, List.setIfInBounds_toArray, List.set_cons_zero, List.set_cons_succ]
  refine lin_sole (by kernel_rfl) (fun K hK => ?_)
  go_simp
  refine (OF.out _ _ h1).mono ?_
  rintro e w2 ⟨rfl, h2⟩
  refine hK.out _ _ ?_ (fun hHeld => ?_)
  · exact hC.out _ _ h2
  try simp only [Act.put, List.setIfInBounds_toArray, List.set_cons_zero, List.set_cons_succ]
  refine lin_sole (by kernel_rfl) (fun K hK => ?_)
  go_simp
  refine (ST.out _ _ h2).mono ?_
  rintro e w3 ⟨rfl, rfl⟩
  refine hK.out _ _ ?_ (fun hHeld => ?_)
  · exact hC.out _ _ h2
  try simp only [Act.put, List.setIfInBounds_toArray, List.set_cons_zero, List.set_cons_succ]
  refine lin_take (v := ?_) (by kernel_rfl) (by kernel_rfl) (fun _ _ _ h => h) (Or.inl ⟨by rfl, ?_⟩) (by assumption) ?_; (rotate_left; (intro wS hSw; (try dsimp only at hSw); go_simp; (try with_reducible rfl)); rotate_left); simp only [Act.put, List.setIfInBounds_toArray, List.set_cons_zero, List.set_cons_succ]
  refine lin_done (by kernel_rfl) ?_
  go_wp2_with fail
  go_ret
  exact ⟨rfl, Own.pop (l := storeA gs sb ms :: l) h2⟩
theorem r_ended {w0 w : World} {l : List Ast} {gs sb : Nat} {ms : List Int} (h : Own w0 w (storeA gs sb ms :: l)) {a b c d : Int} (ok : okPlan a b c d = true) (id se : Int) (iter : Int) {at_ : Nat} (hat : wordV a b c d id iter 3 = (at_ : Int)) (hl : at_ < ms.length) (tk x : Int) (htk : tokV se iter 0 = tk) (hx : ms.getD at_ 0 = x) (t : Bool) (ht : (x == tk) = t) :
    Calls Try.prog 17 #[.agg #[.int .i64 a, .int .i64 b, .int .i64 c, .int .i64 d, .int .i64 id, .int .i64 se], .pointer (some ⟨gs, 0, none⟩), .int .i64 iter] w fun e w' => e = .returned (.bool t) ∧ Own w0 w' (storeA gs sb ms :: l) := by
  have hB : Own w0 (w.alloc (.cells #[.int .i64 a, .int .i64 b, .int .i64 c, .int .i64 d, .int .i64 id, .int .i64 se] 32)) (storeA gs sb ms :: (l ++ [cellsA w.heap.size #[.int .i64 a, .int .i64 b, .int .i64 c, .int .i64 d, .int .i64 id, .int .i64 se] 32])) := h.box #[.int .i64 a, .int .i64 b, .int .i64 c, .int .i64 d, .int .i64 id, .int .i64 se] 32
  have PL := Lib.hid (fun (w1 : World) (l1 : List Ast) (h : Own w0 w1 l1) => Own.lift (done_ok ok id iter w1) h (.int .i64 at_) (by rw [hat]))
  have OF := Lib.hid (fun (w1 : World) (l1 : List Ast) (h : Own w0 w1 l1) => Own.lift (rof a b c d id se iter 0 w1) h (.int .i64 tk) (by rw [htk]))
  have LD := Lib.hid (fun (w1 : World) (l1 : List Ast) (h : Own w0 w1 (storeA gs sb ms :: l1)) => own_load h 0 rfl hl x hx)
  have hC := Lib.hid (fun (w1 : World) (h1 : Own w0 w1 (storeA gs sb ms :: (l ++ [cellsA w.heap.size #[.int .i64 a, .int .i64 b, .int .i64 c, .int .i64 d, .int .i64 id, .int .i64 se] 32]))) => cells6 (l.length + 1) h1 (at_last (storeA gs sb ms :: l) _))
  clear h hx hl hat ok htk
  go_enter Try.func17, Try.ntmps17
  go_wp2_with (first | (go_at_call 58; refine (PL.out _ _ hB).mono ?_; rintro e w1 ⟨rfl, h1⟩; obtain ⟨y0, y1, y2, y3, y4, y5⟩ := hC.out _ h1) | (go_at_call 60; refine (LD.out _ _ h1).mono ?_; rintro e w2 ⟨rfl, rfl⟩) | (go_at_call 57; refine (OF.out _ _ h1).mono ?_; rintro e w3 ⟨rfl, h3⟩))
  go_ret
  exact ⟨rfl, Own.pop (l := storeA gs sb ms :: l) h3⟩
theorem r_sleeps {w0 w : World} {l : List Ast} {gs sb : Nat} {ms : List Int} (h : Own w0 w (storeA gs sb ms :: l)) {a b c d : Int} (ok : okPlan a b c d = true) (id se : Int) (iter : Int) {at_ : Nat} (hat : frameV a b c d id + 1 = (at_ : Int)) (hl : at_ < ms.length) (tk x : Int) (htk : tokV se iter 0 = tk) (hx : ms.getD at_ 0 = x) (t : Bool) (ht : (x == tk) = t) :
    Calls Try.prog 18 #[.agg #[.int .i64 a, .int .i64 b, .int .i64 c, .int .i64 d, .int .i64 id, .int .i64 se], .pointer (some ⟨gs, 0, none⟩), .int .i64 iter] w fun e w' => e = .returned (.bool t) ∧ Own w0 w' (storeA gs sb ms :: l) := by
  have hB : Own w0 (w.alloc (.cells #[.int .i64 a, .int .i64 b, .int .i64 c, .int .i64 d, .int .i64 id, .int .i64 se] 32)) (storeA gs sb ms :: (l ++ [cellsA w.heap.size #[.int .i64 a, .int .i64 b, .int .i64 c, .int .i64 d, .int .i64 id, .int .i64 se] 32])) := h.box #[.int .i64 a, .int .i64 b, .int .i64 c, .int .i64 d, .int .i64 id, .int .i64 se] 32
  have PL := Lib.hid (fun (w1 : World) (l1 : List Ast) (h : Own w0 w1 l1) => Own.lift (nap_ok ok id w1) h (.int .i64 at_) (by rw [hat]))
  have OF := Lib.hid (fun (w1 : World) (l1 : List Ast) (h : Own w0 w1 l1) => Own.lift (rof a b c d id se iter 0 w1) h (.int .i64 tk) (by rw [htk]))
  have LD := Lib.hid (fun (w1 : World) (l1 : List Ast) (h : Own w0 w1 (storeA gs sb ms :: l1)) => own_load h 0 rfl hl x hx)
  have hC := Lib.hid (fun (w1 : World) (h1 : Own w0 w1 (storeA gs sb ms :: (l ++ [cellsA w.heap.size #[.int .i64 a, .int .i64 b, .int .i64 c, .int .i64 d, .int .i64 id, .int .i64 se] 32]))) => cells6 (l.length + 1) h1 (at_last (storeA gs sb ms :: l) _))
  clear h hx hl hat ok htk
  go_enter Try.func18, Try.ntmps18
  go_wp2_with (first | (go_at_call 59; refine (PL.out _ _ hB).mono ?_; rintro e w1 ⟨rfl, h1⟩; obtain ⟨y0, y1, y2, y3, y4, y5⟩ := hC.out _ h1) | (go_at_call 60; refine (LD.out _ _ h1).mono ?_; rintro e w2 ⟨rfl, rfl⟩) | (go_at_call 57; refine (OF.out _ _ h1).mono ?_; rintro e w3 ⟨rfl, h3⟩))
  go_ret
  exact ⟨rfl, Own.pop (l := storeA gs sb ms :: l) h3⟩
end Go.Proofs.Ytooofpplhedgcaa
