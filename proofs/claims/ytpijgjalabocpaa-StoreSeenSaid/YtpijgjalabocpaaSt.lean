/- A store that a call has made for itself: what each step makes of it. -/
import Derived.Test.YtpijgjalabocpaaStore
set_option linter.unusedVariables false
set_option linter.unusedSimpArgs false
namespace Go.Proofs.Ytpijgjalabocpaa
open Go.RowKit
set_option maxHeartbeats 1000000
set_option maxRecDepth 100000
/-- Since w0 a store (blocks g, b) has been made, of the words ms now; nothing that there was is turned. -/
structure St (w0 w : World) (g b : Nat) (ms : List Int) : Prop where
  store : StoreIs w g b ms .nilFunc
  gb : w0.heap.size ≤ g
  bb : w0.heap.size ≤ b
  below : Below w0.heap.size w0 w
theorem St.grow {w0 w w' : World} {g b : Nat} {ms : List Int} (h : St w0 w g b ms) (hb : Below w.heap.size w w') : St w0 w' g b ms :=
  ⟨h.store.below hb, h.gb, h.bb, below_chain' h.below hb⟩
  where below_chain' {a w w' : World} (h : Below a.heap.size a w) (k : Below w.heap.size w w') : Below a.heap.size a w' := below_chain h k
theorem St.drewN {w0 w : World} {g b : Nat} {ms : List Int} (h : St w0 w g b ms) (n : Nat) : St w0 (w.drewN n) g b ms := ⟨h.store.drewN n, h.gb, h.bb, below_drewN' h.below n⟩
theorem St.alloc {w0 w : World} {g b : Nat} {ms : List Int} (h : St w0 w g b ms) (o : Obj) : St w0 (w.alloc o) g b ms := h.grow (by go_grown)
theorem St.set {w0 w : World} {g b : Nat} {ms ms' : List Int} (h : St w0 w g b ms) {k : Nat} {n : Int} (e : ms.set k n = ms') : St w0 (w.setCell ⟨b, k, none⟩ (.int .i64 n)) g b ms' := by
  subst e
  exact ⟨h.store.set k n, h.gb, h.bb, h.below.setCell h.bb _⟩
/-- A cell of one's own besides is stored into. -/
theorem St.cell {w0 w : World} {g b : Nat} {ms : List Int} (h : St w0 w g b ms) {k i : Nat} (hg : g ≠ k) (hb : b ≠ k) (hk : w0.heap.size ≤ k) (u : Value) : St w0 (w.setCell ⟨k, i, none⟩ u) g b ms :=
  ⟨h.store.setCell hg hb u, h.gb, h.bb, h.below.setCell hk _⟩
theorem St.touch {S : Nat → Prop} {w0 w w' : World} {g b : Nat} {ms : List Int} (h : St w0 w g b ms) (t : Touch S w w') (hg : ¬ S g) (hb : ¬ S b) (hs : ∀ k, S k → w0.heap.size ≤ k) : St w0 w' g b ms :=
  ⟨h.store.touch t hg hb, h.gb, h.bb, t.below h.below h.below.size hs⟩
theorem St.old {w0 w : World} {g b : Nat} {ms : List Int} (h : St w0 w g b ms) {p : Addr} {v : Value} (hp : w0.cell? p = some v) : w.cell? p = some v := by
  rw [cell_old h.below p (by rw [hp]; rfl)]; exact hp
theorem new_st {w0 w : World} (h : Below w0.heap.size w0 w) (n : Int) (ms : List Int) (hms : List.replicate (min (max n 0) 1048576).toNat 0 = ms) : Calls Try.prog 15 #[.int .i64 n] w fun e w' => e = .returned (.pointer (some ⟨w.heap.size + 1, 0, none⟩)) ∧ St w0 w' (w.heap.size + 1) w.heap.size ms := by
  subst hms
  refine (new_any n w).mono ?_
  rintro e w' ⟨rfl, hs, hb⟩
  have := h.size
  exact ⟨rfl, hs, by omega, by omega, below_chain h hb⟩
theorem load_st {w0 w : World} {g b : Nat} {ms : List Int} (h : St w0 w g b ms) {k : Nat} (hl : k < ms.length) (x : Int) (hx : ms.getD k 0 = x) : Calls Try.prog 17 #[.pointer (some ⟨g, 0, none⟩), .int .i64 k] w fun e w' => e = .returned (.tuple #[.int .i64 x, .bool true]) ∧ w = w' := by
  subst hx; exact load_in h.store hl
theorem store_st {w0 w : World} {g b : Nat} {ms : List Int} (h : St w0 w g b ms) {k : Nat} (hl : k < ms.length) (n : Int) (ms' : List Int) (hm : ms.set k n = ms') : Calls Try.prog 19 #[.pointer (some ⟨g, 0, none⟩), .int .i64 k, .int .i64 n] w fun e w' => e = .returned (.bool true) ∧ St w0 w' g b ms' := by
  refine (store_in h.store hl n).mono ?_
  rintro e w' ⟨rfl, rfl⟩
  exact ⟨rfl, h.set hm⟩
theorem add_st {w0 w : World} {g b : Nat} {ms : List Int} (h : St w0 w g b ms) {k : Nat} (hl : k < ms.length) (n x : Int) (hx : ms.getD k 0 = x) (ms' : List Int) (hm : ms.set k (wrap64 (x + n)) = ms') : Calls Try.prog 16 #[.pointer (some ⟨g, 0, none⟩), .int .i64 k, .int .i64 n] w fun e w' => e = .returned (.tuple #[.int .i64 x, .bool true]) ∧ St w0 w' g b ms' := by
  subst hx
  refine (add_in h.store hl n).mono ?_
  rintro e w' ⟨rfl, rfl⟩
  exact ⟨rfl, h.set hm⟩
theorem swap_hit {w0 w : World} {g b : Nat} {ms : List Int} (h : St w0 w g b ms) {k : Nat} (hl : k < ms.length) (x n : Int) (hx : ms.getD k 0 = x) (ms' : List Int) (hm : ms.set k n = ms') : Calls Try.prog 39 #[.pointer (some ⟨g, 0, none⟩), .int .i64 k, .int .i64 x, .int .i64 n] w fun e w' => e = .returned (.tuple #[.int .i64 x, .bool true]) ∧ St w0 w' g b ms' := by
  subst hx
  refine (swap_yes h.store hl n).mono ?_
  rintro e w' ⟨rfl, rfl⟩
  exact ⟨rfl, h.set hm⟩
theorem swap_miss {w0 w : World} {g b : Nat} {ms : List Int} (h : St w0 w g b ms) {k : Nat} (hl : k < ms.length) (x o n : Int) (hx : ms.getD k 0 = x) (hne : x ≠ o) : Calls Try.prog 39 #[.pointer (some ⟨g, 0, none⟩), .int .i64 k, .int .i64 o, .int .i64 n] w fun e w' => e = .returned (.tuple #[.int .i64 x, .bool true]) ∧ w = w' := by
  subst hx
  exact swap_no h.store hl o n hne
theorem all_st {w0 w : World} {g b : Nat} {ms : List Int} (h : St w0 w g b ms) : Calls Try.prog 18 #[.pointer (some ⟨g, 0, none⟩)] w fun e w' => ∃ ao cap, e = .returned (.slice ao ms.length cap) ∧ St w0 w' g b ms ∧ Lies w' ao cap ms ∧ Row w' 3 1 (.slice ao ms.length cap) ms.length (ms.map (.int .i64)) ∧ (∀ k, Value.ownBlock (.slice ao ms.length cap) = some k → w.heap.size ≤ k) ∧ Below w.heap.size w w' := by
  refine (all_any h.store).mono ?_
  rintro e w' ⟨ao, cap, rfl, hr, hf, hb⟩
  exact ⟨ao, cap, rfl, h.grow hb, Lies.of_row hr rfl, hr, hf, hb⟩
theorem lies3 (w : World) (x y z : Int) : Lies (w.alloc (.cells #[.int .i64 x, .int .i64 y, .int .i64 z] 3)) (some ⟨w.heap.size, 0, none⟩) 3 [x, y, z] :=
  Lies.of_row (a := [x, y, z]) (Row.lit w 3 1 #[.int .i64 x, .int .i64 y, .int .i64 z] 3 (by simp [maxLen]) rfl) rfl
end Go.Proofs.Ytpijgjalabocpaa
