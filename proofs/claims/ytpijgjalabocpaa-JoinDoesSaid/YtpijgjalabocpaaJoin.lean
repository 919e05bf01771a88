/- Package join: what each of its functions does. -/
import Derived.Test.YtpijgjalabocpaaSt
set_option linter.unusedVariables false
set_option linter.unusedSimpArgs false
namespace Go.Proofs.Ytpijgjalabocpaa
open Go.RowKit
set_option maxHeartbeats 1000000
set_option maxRecDepth 100000
theorem spawn_st {w0 w : World} {g b : Nat} {ms : List Int} (h : St w0 w g b ms) {k : Nat} (hl : k < ms.length) (x : Int) (hx : ms.getD k 0 = x) (ms' : List Int) (hm : ms.set k (wrap64 (x + 1)) = ms') : Calls Try.prog 37 #[.pointer (some ⟨g, 0, none⟩), .int .i64 k] w fun e w' => e = .returned (.tuple #[]) ∧ St w0 w' g b ms' := by
  have hs := Lib.hid (add_st h hl 1 x hx ms' hm)
  clear h hx hm hl
  go_enter Try.func37, Try.ntmps37
  go_wp2_with (first | (go_at_call 16; refine hs.out.mono ?_; rintro e w1 ⟨rfl, hs1⟩))
  go_end0
  exact ⟨rfl, hs1⟩
theorem again_st {w0 w : World} {g b : Nat} {ms : List Int} (h : St w0 w g b ms) {k : Nat} (hl : k < ms.length) (ms' : List Int) (hm : ms.set k 1 = ms') : Calls Try.prog 36 #[.pointer (some ⟨g, 0, none⟩), .int .i64 k] w fun e w' => e = .returned (.tuple #[]) ∧ St w0 w' g b ms' := by
  have hs := Lib.hid (store_st h hl 1 ms' hm)
  clear h hm hl
  go_enter Try.func36, Try.ntmps36
  go_wp2_with (first | (go_at_call 19; refine hs.out.mono ?_; rintro e w1 ⟨rfl, hs1⟩))
  go_end0
  exact ⟨rfl, hs1⟩
theorem leave_st {w0 w : World} {g b : Nat} {ms : List Int} (h : St w0 w g b ms) {k : Nat} (hl : k < ms.length) (x : Int) (hx : ms.getD k 0 = x) (ms' : List Int) (hm : ms.set k (wrap64 (x - 1)) = ms') (t : Bool) (ht : (x == 1) = t) : Calls Try.prog 38 #[.pointer (some ⟨g, 0, none⟩), .int .i64 k] w fun e w' => e = .returned (.bool t) ∧ St w0 w' g b ms' := by
  have hs := Lib.hid (add_st h hl (-1) x hx ms' hm)
  clear h hx hm hl
  subst ht
  go_enter Try.func38, Try.ntmps38
  go_wp2_with (first | (go_at_call 16; refine hs.out.mono ?_; rintro e w1 ⟨rfl, hs1⟩))
  go_ret
  exact ⟨rfl, hs1⟩
theorem spawn_out {w : World} {g b : Nat} {ms : List Int} (h : StoreIs w g b ms .nilFunc) {k : Int} (hl : k < 0 ∨ (ms.length : Int) ≤ k) : Calls Try.prog 37 #[.pointer (some ⟨g, 0, none⟩), .int .i64 k] w fun e w' => e = .returned (.tuple #[]) ∧ w = w' := by
  have hs := Lib.hid (add_out h hl 1)
  clear h
  go_enter Try.func37, Try.ntmps37
  go_wp2_with (first | (go_at_call 16; refine hs.out.mono ?_; rintro e w1 ⟨rfl, rfl⟩))
  go_end0
  exact ⟨rfl, rfl⟩
theorem again_out {w : World} {g b : Nat} {ms : List Int} (h : StoreIs w g b ms .nilFunc) {k : Int} (hl : k < 0 ∨ (ms.length : Int) ≤ k) : Calls Try.prog 36 #[.pointer (some ⟨g, 0, none⟩), .int .i64 k] w fun e w' => e = .returned (.tuple #[]) ∧ w = w' := by
  have hs := Lib.hid (store_out h hl 1)
  clear h
  go_enter Try.func36, Try.ntmps36
  go_wp2_with (first | (go_at_call 19; refine hs.out.mono ?_; rintro e w1 ⟨rfl, rfl⟩))
  go_end0
  exact ⟨rfl, rfl⟩
theorem leave_out {w : World} {g b : Nat} {ms : List Int} (h : StoreIs w g b ms .nilFunc) {k : Int} (hl : k < 0 ∨ (ms.length : Int) ≤ k) : Calls Try.prog 38 #[.pointer (some ⟨g, 0, none⟩), .int .i64 k] w fun e w' => e = .returned (.bool false) ∧ w = w' := by
  have hs := Lib.hid (add_out h hl (-1))
  clear h
  go_enter Try.func38, Try.ntmps38
  go_wp2_with (first | (go_at_call 16; refine hs.out.mono ?_; rintro e w1 ⟨rfl, rfl⟩))
  go_ret
  exact ⟨rfl, rfl⟩
theorem works18_any (w : World) : Calls Try.prog 35 #[] w fun e w' => e = .returned (.bool true) ∧ Below w.heap.size w w' := by
  have N := Lib.hid (new_st (Below.refl w.heap.size w) 2 [0, 0] rfl)
  go_enter Try.func35, Try.ntmps35
  go_wp2_with (go_at_call 15; refine N.out.mono ?_; rintro e w1 ⟨rfl, hs1⟩)
  go_at_call 36
  refine (again_st hs1 (k := 1) (by simp) [0, 1] rfl).mono ?_
  rintro e w2 ⟨rfl, hs2⟩
  go_wp2_with fail
  go_at_call 37
  refine (spawn_st hs2 (k := 1) (by simp) 1 rfl [0, 2] (by simp [wrap64])).mono ?_
  rintro e w3 ⟨rfl, hs3⟩
  go_wp2_with fail
  go_at_call 38
  refine (leave_st hs3 (k := 1) (by simp) 2 rfl [0, 1] (by simp [wrap64]) false rfl).mono ?_
  rintro e w4 ⟨rfl, hs4⟩
  go_wp2_with fail
  go_at_call 38
  refine (leave_st hs4 (k := 1) (by simp) 1 rfl [0, 0] (by simp [wrap64]) true rfl).mono ?_
  rintro e w5 ⟨rfl, hs5⟩
  go_wp2_with fail
  go_at_call 17
  refine (load_st hs5 (k := 1) (by simp) 0 rfl).mono ?_
  rintro e w6 ⟨rfl, rfl⟩
  go_wp2_with fail
  go_ret
  exact ⟨rfl, hs5.below⟩
end Go.Proofs.Ytpijgjalabocpaa
