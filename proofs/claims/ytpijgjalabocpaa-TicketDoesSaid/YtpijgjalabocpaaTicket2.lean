/- Package ticket, at any place, in or out of range; forebaylaw12.in. -/
import Derived.Test.YtpijgjalabocpaaTicketOrderWalk
set_option linter.unusedVariables false
set_option linter.unusedSimpArgs false
namespace Go.Proofs.Ytpijgjalabocpaa
open Go.RowKit
set_option maxHeartbeats 1000000
set_option maxRecDepth 100000
theorem in12_any (b n : Nat) (k : Int) (w : World) (t : Bool) (ht : decide (0 ≤ k ∧ k < (n : Int)) = t) : Calls Try.prog 33 #[.slice (some ⟨b, 0, none⟩) n n, .int .i64 k] w fun e w' => e = .returned (.bool t) ∧ w = w' := by
  subst ht
  by_cases h0 : 0 ≤ k
  · have n1 : decide ((0 : Int) ≤ k) = true := by simp; omega
    by_cases h1 : k < (n : Int)
    · have n2 : decide (k < (n : Int)) = true := by simp; omega
      rw [show decide (0 ≤ k ∧ k < (n : Int)) = true by simp; omega]
      go_enter Try.func33, Try.ntmps33
      go_wp2
      go_ret
      exact ⟨rfl, rfl⟩
    · have n2 : decide (k < (n : Int)) = false := by simp; omega
      rw [show decide (0 ≤ k ∧ k < (n : Int)) = false by simp; omega]
      go_enter Try.func33, Try.ntmps33
      go_wp2
      go_ret
      exact ⟨rfl, rfl⟩
  · have n1 : decide ((0 : Int) ≤ k) = false := by simp; omega
    rw [show decide (0 ≤ k ∧ k < (n : Int)) = false by simp; omega]
    go_enter Try.func33, Try.ntmps33
    go_wp2
    go_ret
    exact ⟨rfl, rfl⟩
theorem own_ask_no {w0 w : World} {l : List Ast} (h : Own w0 w l) (i : Nat) {g b : Nat} {ms : List Int} (hi : l[i]? = some (storeA g b ms)) {k : Int} (hl : k < 0 ∨ (ms.length : Int) ≤ k) : Calls Try.prog 30 #[.pointer (some ⟨g, 0, none⟩), .int .i64 k] w fun e w' => e = .returned (.agg #[.int .i64 k, .int .i64 0]) ∧ Own w0 w' l := by
  have hB := h.box #[.int .i64 0, .int .i64 0] 57
  have hs := Lib.hid (add_out (hB.st i (at_app hi)) hl 1)
  have hb := hB.lastAt
  have y0 := cell_at hb 0
  have y1 := cell_at hb 1
  have f0 := free_at hb 0
  have f1 := free_at hb 1
  have hE := h.box #[.int .i64 k, .int .i64 0] 57
  have hA := hE.lastAt
  have z0 := cell_at hA 0
  have z1 := cell_at hA 1
  simp at y0 y1 z0 z1
  clear h hB hl hi hb hA
  go_enter Try.func30, Try.ntmps30
  go_wp2_with (first | (go_at_call 16; refine hs.out.mono ?_; rintro e w1 ⟨rfl, rfl⟩))
  exact bodyPost_ret (v := .agg #[.int .i64 k, .int .i64 0]) (by simp [results, Try.results30, go_sem, z0, z1]) rfl ⟨rfl, hE.pop⟩
theorem own_mine_a {w0 w : World} {l : List Ast} (h : Own w0 w l) (i : Nat) {g b : Nat} {ms : List Int} (hi : l[i]? = some (storeA g b ms)) {a : Int} {k : Nat} (ha : a + 1 = k) (hl : k < ms.length) (hk : k ≤ 1000000) (n x : Int) (hx : ms.getD k 0 = x) (t : Bool) (ht : (x == n) = t) : Calls Try.prog 31 #[.agg #[.int .i64 a, .int .i64 n], .pointer (some ⟨g, 0, none⟩)] w fun e w' => e = .returned (.bool t) ∧ Own w0 w' l := by
  have hB := h.box #[.int .i64 a, .int .i64 n] 57
  have hs := own_load hB i (at_app hi) hl x hx
  rw [← ha] at hs
  replace hs := Lib.hid hs
  have q0 : wrap64 (a + 1) = a + 1 := IntWalk.wrap64_in _ (by omega)
  subst ht
  clear hx hl hi h
  replace ha := Lib.hid ha
  go_enter Try.func31, Try.ntmps31
  go_wp2_with (first | (go_at_call 17; refine hs.out.mono ?_; rintro e w1 ⟨rfl, rfl⟩))
  go_ret
  exact ⟨rfl, hB.pop⟩
theorem own_mine_no {w0 w : World} {l : List Ast} (h : Own w0 w l) (i : Nat) {g b : Nat} {ms : List Int} (hi : l[i]? = some (storeA g b ms)) {a : Int} (ha : -1048577 ≤ a ∧ a ≤ 1048577) (hl : a + 1 < 0 ∨ (ms.length : Int) ≤ a + 1) (n : Int) : Calls Try.prog 31 #[.agg #[.int .i64 a, .int .i64 n], .pointer (some ⟨g, 0, none⟩)] w fun e w' => e = .returned (.bool false) ∧ Own w0 w' l := by
  have hB := h.box #[.int .i64 a, .int .i64 n] 57
  have hs := Lib.hid (load_out (hB.st i (at_app hi)) hl)
  have q0 : wrap64 (a + 1) = a + 1 := IntWalk.wrap64_in _ (by omega)
  clear hl hi h
  go_enter Try.func31, Try.ntmps31
  go_wp2_with (first | (go_at_call 17; refine hs.out.mono ?_; rintro e w1 ⟨rfl, rfl⟩))
  go_ret
  exact ⟨rfl, hB.pop⟩
theorem own_done_a {w0 w : World} {l : List Ast} (h : Own w0 w l) (i : Nat) {g b : Nat} {ms : List Int} (hi : l[i]? = some (storeA g b ms)) {a : Int} {k : Nat} (ha : a + 1 = k) (hl : k < ms.length) (hk : k ≤ 1000000) (n : Int) (ms' : List Int) (hm : ms.set k (wrap64 (n + 1)) = ms') : Calls Try.prog 32 #[.agg #[.int .i64 a, .int .i64 n], .pointer (some ⟨g, 0, none⟩)] w fun e w' => e = .returned (.bool true) ∧ Own w0 w' (l.set i (storeA g b ms')) := by
  have hB := h.box #[.int .i64 a, .int .i64 n] 57
  have hs := own_store hB i (at_app hi) hl (wrap64 (n + 1)) ms' hm
  rw [← ha, set_app hi] at hs
  replace hs := Lib.hid hs
  have q0 : wrap64 (a + 1) = a + 1 := IntWalk.wrap64_in _ (by omega)
  clear hm hl hi h hB
  replace ha := Lib.hid ha
  go_enter Try.func32, Try.ntmps32
  go_wp2_with (first | (go_at_call 19; refine hs.out.mono ?_; rintro e w1 ⟨rfl, hs1⟩))
  go_ret
  exact ⟨rfl, hs1.pop⟩
theorem own_done_no {w0 w : World} {l : List Ast} (h : Own w0 w l) (i : Nat) {g b : Nat} {ms : List Int} (hi : l[i]? = some (storeA g b ms)) {a : Int} (ha : -1048577 ≤ a ∧ a ≤ 1048577) (hl : a + 1 < 0 ∨ (ms.length : Int) ≤ a + 1) (n : Int) : Calls Try.prog 32 #[.agg #[.int .i64 a, .int .i64 n], .pointer (some ⟨g, 0, none⟩)] w fun e w' => e = .returned (.bool false) ∧ Own w0 w' l := by
  have hB := h.box #[.int .i64 a, .int .i64 n] 57
  have hs := Lib.hid (store_out (hB.st i (at_app hi)) hl (wrap64 (n + 1)))
  have q0 : wrap64 (a + 1) = a + 1 := IntWalk.wrap64_in _ (by omega)
  clear hl hi h
  go_enter Try.func32, Try.ntmps32
  go_wp2_with (first | (go_at_call 19; refine hs.out.mono ?_; rintro e w1 ⟨rfl, rfl⟩))
  go_ret
  exact ⟨rfl, hB.pop⟩
/-- The turns of some, as they lie in memory. -/
def TurnsL (ats nums : List Int) (xs : List Value) : Prop := xs.length = ats.length * 2 ∧ nums.length = ats.length ∧ ∀ v, v < ats.length → xs[v * 2]? = some (.int .i64 (ats.getD v 0)) ∧ xs[v * 2 + 1]? = some (.int .i64 (nums.getD v 0))
theorem TurnsL.snoc {ats nums : List Int} {xs : List Value} (h : TurnsL ats nums xs) (a n : Int) : TurnsL (ats ++ [a]) (nums ++ [n]) (xs ++ [.int .i64 a, .int .i64 n]) := by
  obtain ⟨h1, h2, h3⟩ := h
  refine ⟨by simp [h1]; omega, by simp [h2], fun v hv => ?_⟩
  simp at hv
  by_cases hva : v < ats.length
  · obtain ⟨h4, h5⟩ := h3 v hva
    rw [List.getElem?_append_left (by omega), List.getElem?_append_left (by omega), getD_app hva, getD_app (by omega)]
    exact ⟨h4, h5⟩
  · have hva : v = ats.length := by omega
    subst hva
    rw [List.getElem?_append_right (by omega), List.getElem?_append_right (by omega), h1]
    rw [List.getD_eq_getElem?_getD, List.getD_eq_getElem?_getD, List.getElem?_append_right (by omega), List.getElem?_append_right (by omega)]
    simp [h2]
theorem TurnsL.nil : TurnsL [] [] [] := ⟨rfl, rfl, fun v hv => absurd hv (by simp)⟩
end Go.Proofs.Ytpijgjalabocpaa
