/- Slices of integers of one's own, made whole. -/
import Derived.Test.YtboiogjklecpaaaLies
import Derived.Test.YtboiogjklecpaaaOwn
set_option linter.unusedVariables false
set_option linter.unusedSimpArgs false
namespace Go.Proofs.Ytboiogjklecpaaa
open Go.RowKit
def intsA (b n : Nat) (ms : List Int) : Ast := rowA 3 1 (.slice (some ⟨b, 0, none⟩) n n) n (ms.map (.int .i64))
theorem Own.ints_get {w0 w : World} {l : List Ast} (h : Own w0 w l) (i : Nat) {b n : Nat} {ms : List Int} (hi : l[i]? = some (intsA b n ms)) {j : Nat} (hj : j < ms.length) : w.cell? ⟨b, j, none⟩ = some (.int .i64 (ms.getD j 0)) := by
  have hr : Row w 3 1 (.slice (some ⟨b, 0, none⟩) n n) n (ms.map (.int .i64)) := h.at i hi
  have := hr.cells ⟨b, 0, none⟩ rfl j (.int .i64 (ms.getD j 0)) (by rw [List.getElem?_map, List.getElem?_eq_getElem hj, List.getD_eq_getElem?_getD, List.getElem?_eq_getElem hj]; rfl)
  rwa [Addr.add_lit, Nat.zero_add] at this
theorem Own.ints_free {w0 w : World} {l : List Ast} (h : Own w0 w l) (i : Nat) {b n : Nat} {ms : List Int} (hi : l[i]? = some (intsA b n ms)) {j : Nat} (hj : j < n) : w.frozen? ⟨b, j, none⟩ = false := by
  have hr : Row w 3 1 (.slice (some ⟨b, 0, none⟩) n n) n (ms.map (.int .i64)) := h.at i hi
  have := hr.free (j := j) (by omega)
  rwa [Addr.add_lit, Nat.zero_add] at this
theorem Own.ints_set {w0 w : World} {l : List Ast} (h : Own w0 w l) (i : Nat) {b n : Nat} {ms ms' : List Int} (hi : l[i]? = some (intsA b n ms)) (j : Nat) (x : Int) (hm : ms.set j x = ms') : Own w0 (w.setCell ⟨b, j, none⟩ (.int .i64 x)) (l.set i (intsA b n ms')) := by
  subst hm
  have := h.set i hi j (.int .i64 x)
  rw [Addr.add_lit, Nat.zero_add, ← List.map_set] at this
  exact this
theorem Own.ints_lies {w0 w : World} {l : List Ast} (h : Own w0 w l) (i : Nat) {b n : Nat} {ms : List Int} (hi : l[i]? = some (intsA b n ms)) (hn : n = ms.length) : Lies w (some ⟨b, 0, none⟩) n ms := Lies.of_row (h.at i hi) hn
/-- 'make([]int, n)', just made. -/
theorem Own.ints_made {w0 w : World} {l : List Ast} (h : Own w0 w l) (cs : Array Value) (n : Nat) (hcs : cs = (List.replicate n (.int .i64 0)).toArray) (hn : n ≤ maxLen) : Own w0 (w.alloc (.cells cs 3)) (l ++ [intsA w.heap.size n (List.replicate n 0)]) := by
  subst hcs
  refine h.push (by go_grown) (intsA w.heap.size n (List.replicate n 0)) ?_ (fun k hk => ?_)
  · have := Row.lit w 3 1 (List.replicate n (.int .i64 0)).toArray n hn (by simp)
    show Row _ _ _ _ _ _
    simpa using this
  · simp [intsA, rowA, Value.ownBlock] at hk; omega
end Go.Proofs.Ytboiogjklecpaaa
