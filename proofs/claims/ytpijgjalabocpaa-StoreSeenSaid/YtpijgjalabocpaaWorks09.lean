/- The store: works. -/
import Derived.Test.YtpijgjalabocpaaSt
set_option linter.unusedVariables false
set_option linter.unusedSimpArgs false
namespace Go.Proofs.Ytpijgjalabocpaa
open Go.RowKit
set_option maxHeartbeats 1000000
set_option maxRecDepth 100000
theorem works09_any (w : World) : Calls Try.prog 14 #[] w fun e w' => e = .returned (.bool true) ∧ Below w.heap.size w w' := by
  have N := Lib.hid (new_st (Below.refl w.heap.size w) 3 [0, 0, 0] rfl)
  go_enter Try.func14, Try.ntmps14
  go_wp2_with (go_at_call 15; refine N.out.mono ?_; rintro e w1 ⟨rfl, hs1⟩)
  go_at_call 39
  refine (swap_hit hs1 (k := 1) (by simp) 0 5 rfl [0, 5, 0] rfl).mono ?_
  rintro e w2 ⟨rfl, hs2⟩
  go_wp2_with fail
  go_at_call 39
  refine (swap_miss hs2 (k := 1) (by simp) 5 0 6 rfl (by decide)).mono ?_
  rintro e w3 ⟨rfl, rfl⟩
  go_wp2_with fail
  go_at_call 16
  refine (add_st hs2 (k := 1) (by simp) 2 5 rfl [0, 7, 0] (by simp [wrap64])).mono ?_
  rintro e w4 ⟨rfl, hs4⟩
  go_wp2_with fail
  go_at_call 27
  refine (size_any hs4.store).mono ?_
  rintro e w5 ⟨rfl, rfl⟩
  go_wp2_with fail
  go_at_call 18
  refine (all_st hs4).mono ?_
  rintro e w5 ⟨ao, cap, rfl, hs5, hli, _, _, _⟩
  go_wp2_with fail
  go_at_call 23
  refine (ints_any _ _ _ _ [0, 7, 0] [0, 7, 0] _ (hli.alloc _) (lies3 w5 0 7 0)).mono ?_
  rintro e w6 ⟨rfl, m, hw6⟩
  have hb6 : Below w.heap.size w w6 := by rw [hw6]; exact below_drewN' (hs5.alloc _).below _
  clear hw6
  go_wp2_with fail
  go_ret
  exact ⟨rfl, hb6⟩
end Go.Proofs.Ytpijgjalabocpaa
