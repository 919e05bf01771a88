/- The anchor of layer 14, and the deque's steps in the words of lists. -/
import Derived.Test.YtofnjapgacgdlaaModel4
set_option linter.unusedVariables false
set_option linter.unusedSimpArgs false
namespace Go.Proofs.Ytofnjapgacgdlaa
open Go.RowKit
set_option maxRecDepth 100000
set_option maxHeartbeats 8000000
theorem dPush_as {w0 w : World} {db : Nat} {M : Int} {xs : List Int} {l : List Ast} (h : DOwn w0 w db M xs l) (x : Int) (hlt : (xs.length : Int) < M) (hM : M ≤ 1000) (ys : List Int) (hy : xs ++ [x] = ys) : Calls Try.prog 16 #[.pointer (some ⟨db, 0, none⟩), .int .i64 x] w fun e w' => e = .returned (.bool true) ∧ DOwn w0 w' db M ys l := by
  subst hy; exact dPush_yes h x hlt hM
theorem dPop_as {w0 w : World} {db : Nat} {M : Int} {xs : List Int} {l : List Ast} (h : DOwn w0 w db M xs l) (x : Int) (ys : List Int) (hx : xs = ys ++ [x]) (hM : xs.length ≤ 1000) : Calls Try.prog 14 #[.pointer (some ⟨db, 0, none⟩)] w fun e w' => e = .returned (.tuple #[.int .i64 x, .bool true]) ∧ DOwn w0 w' db M ys l := by
  subst hx
  have := dPop_yes h (by simp) hM
  have e1 : (ys ++ [x]).getD ((ys ++ [x]).length - 1) 0 = x := by simp
  have e2 : (ys ++ [x]).eraseIdx ((ys ++ [x]).length - 1) = ys := by
    rw [List.eraseIdx_eq_take_drop_succ]; simp
  rwa [e1, e2] at this
theorem dSteal_as {w0 w : World} {db : Nat} {M : Int} {xs : List Int} {l : List Ast} (h : DOwn w0 w db M xs l) (x : Int) (ys : List Int) (hx : xs = x :: ys) (hM : xs.length ≤ 1000) : Calls Try.prog 15 #[.pointer (some ⟨db, 0, none⟩)] w fun e w' => e = .returned (.tuple #[.int .i64 x, .bool true]) ∧ DOwn w0 w' db M ys l := by
  subst hx
  exact dSteal_yes h (by simp) hM
theorem DOwn.pop {w0 w : World} {db : Nat} {M : Int} {xs : List Int} {l l' : List Ast} (h : DOwn w0 w db M xs (l ++ l')) : DOwn w0 w db M xs l := h.elim fun bv h => ⟨bv, Own.pop (l := dqL db bv M xs l) (l' := l') h⟩
theorem DOwn.row {w0 w : World} {db : Nat} {M : Int} {xs : List Int} {l : List Ast} (h : DOwn w0 w db M xs l) (i : Nat) {e : TypeId} {size : Nat} {v : Value} {n : Nat} {ys : List Value} (hi : l[i]? = some (rowA e size v n ys)) : Row w e size v n ys := h.elim fun bv h => Own.row h (i + 2) hi
theorem Lies.lit {w : World} (t : TypeId) (x : Int) : Lies (w.alloc (.cells #[.int .i64 x] t)) (some ⟨w.heap.size, 0, none⟩) 1 [x] :=
  ⟨by simp, by decide, .inr ⟨_, rfl, fun j hj => by
    obtain rfl : j = 0 := by simpa using hj
    exact cell_alloc_at w #[.int .i64 x] t (0, 0) 0⟩⟩
theorem works14_any (w : World) : Calls Try.prog 12 #[] w fun e w' => e = .returned (.bool true) ∧ Below w.heap.size w w' := by
  go_enter Try.func12, Try.ntmps12
  go_wp2_with fail
  go_at_call 13
  refine (dNew_any 3 3 (by decide) (Own.nil (Below.refl _ _))).mono ?_
  rintro e w1 ⟨db, rfl, h1⟩
  go_wp2_with fail
  go_at_call 16
  refine (dPush_as h1 1 (by simp) (by omega) [1] rfl).mono ?_
  rintro e w2 ⟨rfl, h2⟩
  clear h1
  go_wp2_with fail
  go_at_call 16
  refine (dPush_as h2 2 (by simp) (by omega) [1, 2] rfl).mono ?_
  rintro e w3 ⟨rfl, h3⟩
  clear h2
  go_wp2_with fail
  go_at_call 16
  refine (dPush_as h3 3 (by simp) (by omega) [1, 2, 3] rfl).mono ?_
  rintro e w4 ⟨rfl, h4⟩
  clear h3
  go_wp2_with fail
  go_at_call 16
  refine (dPush_no h4 4 (by simp)).mono ?_
  rintro e w5 ⟨rfl, h5⟩
  clear h4
  go_wp2_with fail
  go_at_call 15
  refine (dSteal_as h5 1 [2, 3] rfl (by simp)).mono ?_
  rintro e w6 ⟨rfl, h6⟩
  clear h5
  go_wp2_with fail
  go_at_call 14
  refine (dPop_as h6 3 [2] rfl (by simp)).mono ?_
  rintro e w7 ⟨rfl, h7⟩
  clear h6
  go_wp2_with fail
  go_at_call 19
  refine (all_own h7 (by simp)).mono ?_
  rintro e w8 ⟨ao, c, rfl, h8⟩
  clear h7
  go_wp2_with fail
  go_at_call 18
  refine (ints_any ao _ c 1 [2] [2] _ ((Lies.of_row (h8.row 0 rfl) rfl).alloc _) (Lies.lit _ 2)).mono ?_
  rintro e w9 ⟨rfl, m, rfl⟩
  have h9 : DOwn w ((w8.alloc (.cells #[.int .i64 2] 3)).drewN m) db 3 [2] _ := (h8.elim fun bv h => ⟨bv, h.alloc _⟩ : DOwn w (w8.alloc (.cells #[.int .i64 2] 3)) db 3 [2] _).drewN m
  clear h8
  generalize (w8.alloc (.cells #[.int .i64 2] 3)).drewN m = wa at *
  go_wp2_with fail
  go_at_call 20
  refine (eq_any h9.ldq h9.ldq).mono ?_
  rintro e wb ⟨rfl, m2, rfl⟩
  have h10 := (h9.drewN m2).below
  clear h9
  go_wp2_with fail
  go_ret
  exact ⟨by simp, h10⟩
end Go.Proofs.Ytofnjapgacgdlaa
