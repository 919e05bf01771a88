/- Package ticket: what each of its functions does. -/
import Derived.Test.YtpijgjalabocpaaStoreOwn
set_option linter.unusedVariables false
set_option linter.unusedSimpArgs false
namespace Go.Proofs.Ytpijgjalabocpaa
open Go.RowKit
/-- A block of known cells. -/
def cellsA (b : Nat) (cs : Array Value) (t : TypeId) : Ast where
  F k := k = b
  hold w := w.heap[b]? = some (.cells cs t (0, 0))
  loc h hb := (hb b rfl).trans h
  lt h k hk := by subst hk; exact lt_at h
theorem Own.box {w0 w : World} {l : List Ast} (h : Own w0 w l) (cs : Array Value) (t : TypeId) : Own w0 (w.alloc (.cells cs t)) (l ++ [cellsA w.heap.size cs t]) :=
  h.push (by go_grown) (cellsA w.heap.size cs t) (alloc_new _ _) (fun k hk => by cases hk; exact Nat.le_refl _)
theorem Own.cset {w0 w : World} {l : List Ast} (h : Own w0 w l) (i : Nat) {b : Nat} {cs : Array Value} {t : TypeId} (hi : l[i]? = some (cellsA b cs t)) (j : Nat) (v : Value) : Own w0 (w.setCell ⟨b, j, none⟩ v) (l.set i (cellsA b (cs.setIfInBounds j v) t)) :=
  h.move i hi ⟨set_at (h.at i hi) j v, (Touch.refl (cellsA b cs t).F w).setCell (p := ⟨b, j, none⟩) (.inr rfl) v, fun k hk => .inl hk⟩
theorem Own.cget {w0 w : World} {l : List Ast} (h : Own w0 w l) (i : Nat) {b : Nat} {cs : Array Value} {t : TypeId} (hi : l[i]? = some (cellsA b cs t)) (j : Nat) : w.cell? ⟨b, j, none⟩ = cs[j]? ∧ w.frozen? ⟨b, j, none⟩ = false :=
  ⟨cell_at (h.at i hi) j, free_at (h.at i hi) j⟩
theorem Own.clast {w0 w : World} {l : List Ast} {b : Nat} {cs : Array Value} {t : TypeId} (h : Own w0 w (l ++ [cellsA b cs t])) (j : Nat) (v : Value) : Own w0 (w.setCell ⟨b, j, none⟩ v) (l ++ [cellsA b (cs.setIfInBounds j v) t]) := by
  have := h.cset l.length (List.getElem?_concat_length) j v
  simpa using this
theorem Own.lastAt {w0 w : World} {l : List Ast} {b : Nat} {cs : Array Value} {t : TypeId} (h : Own w0 w (l ++ [cellsA b cs t])) : w.heap[b]? = some (.cells cs t (0, 0)) := h.at l.length (List.getElem?_concat_length)
theorem at_app {l l' : List Ast} {i : Nat} {A : Ast} (h : l[i]? = some A) : (l ++ l')[i]? = some A := by
  rw [List.getElem?_append_left (List.getElem?_eq_some_iff.1 h).1]; exact h
theorem set_app {l l' : List Ast} {i : Nat} {A B : Ast} (h : l[i]? = some A) : (l ++ l').set i B = l.set i B ++ l' := List.set_append_left _ _ (List.getElem?_eq_some_iff.1 h).1
set_option maxHeartbeats 1000000
set_option maxRecDepth 100000
theorem own_ask {w0 w : World} {l : List Ast} (h : Own w0 w l) (i : Nat) {g b : Nat} {ms : List Int} (hi : l[i]? = some (storeA g b ms)) {k : Nat} (hl : k < ms.length) (x : Int) (hx : ms.getD k 0 = x) (ms' : List Int) (hm : ms.set k (wrap64 (x + 1)) = ms') : Calls Try.prog 30 #[.pointer (some ⟨g, 0, none⟩), .int .i64 k] w fun e w' => e = .returned (.agg #[.int .i64 k, .int .i64 x]) ∧ Own w0 w' (l.set i (storeA g b ms')) := by
  have hB := h.box #[.int .i64 0, .int .i64 0] 57
  have hs := own_add hB i (at_app hi) hl 1 x hx ms' hm
  rw [set_app hi] at hs
  replace hs := Lib.hid hs
  have hc := Lib.hid (fun (w1 : World) (h1 : Own w0 w1 (l.set i (storeA g b ms') ++ [cellsA w.heap.size #[.int .i64 0, .int .i64 0] 57])) => h1.lastAt)
  have hend := Lib.hid (fun (w1 : World) (h1 : Own w0 w1 (l.set i (storeA g b ms') ++ [cellsA w.heap.size #[.int .i64 0, .int .i64 0] 57])) => (h1.clast 0 (.int .i64 k)).clast 1 (.int .i64 x))
  clear h hB hx hm hl hi
  go_enter Try.func30, Try.ntmps30
  go_wp2_with (first | (go_at_call 16; refine hs.out.mono ?_; rintro e w1 ⟨rfl, hs1⟩; have hb := hc.out _ hs1; have y0 := cell_at hb 0; have y1 := cell_at hb 1; have f0 := free_at hb 0; have f1 := free_at hb 1; simp at y0 y1))
  have hE := hend.out _ hs1
  have hA := hE.lastAt
  have z0 := cell_at hA 0
  have z1 := cell_at hA 1
  simp at z0 z1
  exact bodyPost_ret (v := .agg #[.int .i64 k, .int .i64 x]) (by simp [results, Try.results30, go_sem, z0, z1]) rfl ⟨rfl, hE.pop⟩
theorem own_mine {w0 w : World} {l : List Ast} (h : Own w0 w l) (i : Nat) {g b : Nat} {ms : List Int} (hi : l[i]? = some (storeA g b ms)) {k : Nat} (hl : k + 1 < ms.length) (hk : k ≤ 1000000) (n x : Int) (hx : ms.getD (k + 1) 0 = x) (t : Bool) (ht : (x == n) = t) : Calls Try.prog 31 #[.agg #[.int .i64 k, .int .i64 n], .pointer (some ⟨g, 0, none⟩)] w fun e w' => e = .returned (.bool t) ∧ Own w0 w' l := by
  have hB := h.box #[.int .i64 k, .int .i64 n] 57
  have hs := own_load hB i (at_app hi) hl x hx
  rw [show ((k + 1 : Nat) : Int) = (k : Int) + 1 by omega] at hs
  replace hs := Lib.hid hs
  subst ht
  clear hx hl hi h
  go_enter Try.func31, Try.ntmps31
  go_wp2_with (first | (go_at_call 17; refine hs.out.mono ?_; rintro e w1 ⟨rfl, rfl⟩))
  go_ret
  exact ⟨rfl, hB.pop⟩
theorem own_done {w0 w : World} {l : List Ast} (h : Own w0 w l) (i : Nat) {g b : Nat} {ms : List Int} (hi : l[i]? = some (storeA g b ms)) {k : Nat} (hl : k + 1 < ms.length) (hk : k ≤ 1000000) (n : Int) (ms' : List Int) (hm : ms.set (k + 1) (wrap64 (n + 1)) = ms') : Calls Try.prog 32 #[.agg #[.int .i64 k, .int .i64 n], .pointer (some ⟨g, 0, none⟩)] w fun e w' => e = .returned (.bool true) ∧ Own w0 w' (l.set i (storeA g b ms')) := by
  have hB := h.box #[.int .i64 k, .int .i64 n] 57
  have hs := own_store hB i (at_app hi) hl (wrap64 (n + 1)) ms' hm
  rw [show ((k + 1 : Nat) : Int) = (k : Int) + 1 by omega, set_app hi] at hs
  replace hs := Lib.hid hs
  clear hm hl hi h hB
  go_enter Try.func32, Try.ntmps32
  go_wp2_with (first | (go_at_call 19; refine hs.out.mono ?_; rintro e w1 ⟨rfl, hs1⟩))
  go_ret
  exact ⟨rfl, hs1.pop⟩
theorem number_any (k n : Int) (w : World) : Calls Try.prog 34 #[.agg #[.int .i64 k, .int .i64 n]] w fun e w' => e = .returned (.int .i64 n) ∧ Below w.heap.size w w' := by
  go_enter Try.func34, Try.ntmps34
  go_wp2
  go_ret
  exact ⟨rfl, by go_grown⟩
end Go.Proofs.Ytpijgjalabocpaa
