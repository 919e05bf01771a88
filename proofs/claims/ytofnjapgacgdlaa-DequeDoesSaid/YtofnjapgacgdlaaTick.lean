/- Package ticket over stores of one's own (with XKit's blocks). -/
import Derived.Test.YtofnjapgacgdlaaStoreA
set_option linter.unusedVariables false
set_option linter.unusedSimpArgs false
namespace Go.Proofs.Ytofnjapgacgdlaa
open Go.RowKit
set_option maxHeartbeats 1000000
set_option maxRecDepth 100000
theorem own_ask {w0 w : World} {l : List Ast} (h : Own w0 w l) (i : Nat) {g b : Nat} {ms : List Int} (hi : l[i]? = some (storeA g b ms)) {k : Nat} (hl : k < ms.length) (x : Int) (hx : ms.getD k 0 = x) (ms' : List Int) (hm : ms.set k (wrap64 (x + 1)) = ms') : Calls Try.prog 62 #[.pointer (some ⟨g, 0, none⟩), .int .i64 k] w fun e w' => e = .returned (.agg #[.int .i64 k, .int .i64 x]) ∧ Own w0 w' (l.set i (storeA g b ms')) := by
  have hB := h.box #[.int .i64 0, .int .i64 0] 84
  have hs := own_add hB i (at_app hi) hl 1 x hx ms' hm
  rw [set_app hi] at hs
  replace hs := Lib.hid hs
  have hc := Lib.hid (fun (w1 : World) (h1 : Own w0 w1 (l.set i (storeA g b ms') ++ [cellsA w.heap.size #[.int .i64 0, .int .i64 0] 84])) => h1.lastAt)
  have hend := Lib.hid (fun (w1 : World) (h1 : Own w0 w1 (l.set i (storeA g b ms') ++ [cellsA w.heap.size #[.int .i64 0, .int .i64 0] 84])) => (h1.clast 0 (.int .i64 k)).clast 1 (.int .i64 x))
  clear h hB hx hm hl hi
  go_enter Try.func62, Try.ntmps62
  go_wp2_with (first | (go_at_call 75; refine hs.out.mono ?_; rintro e w1 ⟨rfl, hs1⟩; have hb := hc.out _ hs1; have y0 := cell_at hb 0; have y1 := cell_at hb 1; have f0 := free_at hb 0; have f1 := free_at hb 1; simp at y0 y1))
  have hE := hend.out _ hs1
  have hA := hE.lastAt
  have z0 := cell_at hA 0
  have z1 := cell_at hA 1
  simp at z0 z1
  exact bodyPost_ret (v := .agg #[.int .i64 k, .int .i64 x]) (by simp [results, Try.results62, go_sem, z0, z1]) rfl ⟨rfl, hE.pop⟩
theorem own_mine {w0 w : World} {l : List Ast} (h : Own w0 w l) (i : Nat) {g b : Nat} {ms : List Int} (hi : l[i]? = some (storeA g b ms)) {k : Nat} (hl : k + 1 < ms.length) (hk : k ≤ 1000000) (n x : Int) (hx : ms.getD (k + 1) 0 = x) (t : Bool) (ht : (x == n) = t) : Calls Try.prog 64 #[.agg #[.int .i64 k, .int .i64 n], .pointer (some ⟨g, 0, none⟩)] w fun e w' => e = .returned (.bool t) ∧ Own w0 w' l := by
  have hB := h.box #[.int .i64 k, .int .i64 n] 84
  have hs := own_load hB i (at_app hi) hl x hx
  rw [show ((k + 1 : Nat) : Int) = (k : Int) + 1 by omega] at hs
  replace hs := Lib.hid hs
  subst ht
  clear hx hl hi h
  go_enter Try.func64, Try.ntmps64
  go_wp2_with (first | (go_at_call 76; refine hs.out.mono ?_; rintro e w1 ⟨rfl, rfl⟩))
  go_ret
  exact ⟨rfl, hB.pop⟩
theorem own_done {w0 w : World} {l : List Ast} (h : Own w0 w l) (i : Nat) {g b : Nat} {ms : List Int} (hi : l[i]? = some (storeA g b ms)) {k : Nat} (hl : k + 1 < ms.length) (hk : k ≤ 1000000) (n : Int) (ms' : List Int) (hm : ms.set (k + 1) (wrap64 (n + 1)) = ms') : Calls Try.prog 88 #[.agg #[.int .i64 k, .int .i64 n], .pointer (some ⟨g, 0, none⟩)] w fun e w' => e = .returned (.bool true) ∧ Own w0 w' (l.set i (storeA g b ms')) := by
  have hB := h.box #[.int .i64 k, .int .i64 n] 84
  have hs := own_store hB i (at_app hi) hl (wrap64 (n + 1)) ms' hm
  rw [show ((k + 1 : Nat) : Int) = (k : Int) + 1 by omega, set_app hi] at hs
  replace hs := Lib.hid hs
  clear hm hl hi h hB
  go_enter Try.func88, Try.ntmps88
  go_wp2_with (first | (go_at_call 72; refine hs.out.mono ?_; rintro e w1 ⟨rfl, hs1⟩))
  go_ret
  exact ⟨rfl, hs1.pop⟩
end Go.Proofs.Ytofnjapgacgdlaa
