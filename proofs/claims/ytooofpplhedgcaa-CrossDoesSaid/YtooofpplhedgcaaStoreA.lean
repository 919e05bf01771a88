/- A store as one piece of one's own. -/
import Derived.Test.YtooofpplhedgcaaStore
import Derived.Test.YtooofpplhedgcaaKit
set_option linter.unusedVariables false
set_option linter.unusedSimpArgs false
namespace Go.Proofs.Ytooofpplhedgcaa
open Go.RowKit
def storeA (g b : Nat) (ms : List Int) : Ast where
  F k := k = g ∨ k = b
  hold w := StoreIs w g b ms .nilFunc
  loc h hb := h.same (hb g (.inl rfl)) (hb b (.inr rfl))
  lt h k hk := by
    rcases hk with rfl | rfl
    · exact h.ltg
    · exact h.ltb
set_option maxHeartbeats 1000000
set_option maxRecDepth 100000
theorem st_moves {w : World} {g b : Nat} {ms ms' : List Int} (h : StoreIs w g b ms .nilFunc) {k : Nat} {n : Int} (e : ms.set k n = ms') : Moves (storeA g b ms) (storeA g b ms') w (w.setCell ⟨b, k, none⟩ (.int .i64 n)) := by
  subst e
  exact ⟨h.set k n, (Touch.refl _ _).setCell (.inr (.inr rfl)) _, fun k hk => .inl hk⟩
theorem Own.st {w0 w : World} {l : List Ast} (h : Own w0 w l) (i : Nat) {g b : Nat} {ms : List Int} (hi : l[i]? = some (storeA g b ms)) : StoreIs w g b ms .nilFunc := h.at i hi
theorem own_new {w0 w : World} {l : List Ast} (h : Own w0 w l) (n : Int) (ms : List Int) (hms : List.replicate (min (max n 0) 1048576).toNat 0 = ms) : Calls Try.prog 11 #[.int .i64 n] w fun e w' => e = .returned (.pointer (some ⟨w.heap.size + 1, 0, none⟩)) ∧ Own w0 w' (l ++ [storeA (w.heap.size + 1) w.heap.size ms]) := by
  subst hms
  refine (new_any n w).mono ?_
  rintro e w' ⟨rfl, hs, hb⟩
  exact ⟨rfl, h.push hb (storeA _ _ _) hs fun k hk => by rcases hk with rfl | rfl <;> omega⟩
theorem own_load {w0 w : World} {l : List Ast} (h : Own w0 w l) (i : Nat) {g b : Nat} {ms : List Int} (hi : l[i]? = some (storeA g b ms)) {k : Nat} (hl : k < ms.length) (x : Int) (hx : ms.getD k 0 = x) : Calls Try.prog 60 #[.pointer (some ⟨g, 0, none⟩), .int .i64 k] w fun e w' => e = .returned (.tuple #[.int .i64 x, .bool true]) ∧ w = w' := by
  subst hx; exact load_in (h.st i hi) hl
theorem own_store {w0 w : World} {l : List Ast} (h : Own w0 w l) (i : Nat) {g b : Nat} {ms : List Int} (hi : l[i]? = some (storeA g b ms)) {k : Nat} (hl : k < ms.length) (n : Int) (ms' : List Int) (hm : ms.set k n = ms') : Calls Try.prog 42 #[.pointer (some ⟨g, 0, none⟩), .int .i64 k, .int .i64 n] w fun e w' => e = .returned (.bool true) ∧ Own w0 w' (l.set i (storeA g b ms')) := by
  refine (store_in (h.st i hi) hl n).mono ?_
  rintro e w' ⟨rfl, rfl⟩
  exact ⟨rfl, h.move i hi (st_moves (h.st i hi) hm)⟩
theorem own_all {w0 w : World} {l : List Ast} (h : Own w0 w l) (i : Nat) {g b : Nat} {ms : List Int} (hi : l[i]? = some (storeA g b ms)) : Calls Try.prog 49 #[.pointer (some ⟨g, 0, none⟩)] w fun e w' => ∃ ao cap, e = .returned (.slice ao ms.length cap) ∧ Own w0 w' l ∧ Lies w' ao cap ms ∧ Row w' 3 1 (.slice ao ms.length cap) ms.length (ms.map (.int .i64)) ∧ (∀ k, Value.ownBlock (.slice ao ms.length cap) = some k → w.heap.size ≤ k) ∧ Below w.heap.size w w' := by
  refine (all_any (h.st i hi)).mono ?_
  rintro e w' ⟨ao, cap, rfl, hr, hf, hb⟩
  exact ⟨ao, cap, rfl, h.grow hb, Lies.of_row hr rfl, hr, hf, hb⟩
end Go.Proofs.Ytooofpplhedgcaa
