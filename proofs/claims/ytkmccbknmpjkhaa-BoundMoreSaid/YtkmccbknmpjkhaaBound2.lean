/- Package bound: how a run may be run. -/
import Derived.Test.YtkmccbknmpjkhaaBound
set_option linter.unusedVariables false
set_option linter.unusedSimpArgs false
namespace Go.Proofs.Ytkmccbknmpjkhaa
open Go.RowKit
set_option maxHeartbeats 1000000
set_option maxRecDepth 100000

def noParams : Value := .agg #[.int .i64 0, .int .i64 0, .int .i64 0, .int .i64 0, .int .i64 0, .bool false, .bool false]
def params (a b c d e : Int) : Value := .agg #[.int .i64 a, .int .i64 b, .int .i64 c, .int .i64 d, .int .i64 e, .bool false, .bool false]
theorem params_far (f p t : Int) (ao : Option Addr) (n cap : Nat) (w : World) (h : 256 < f ∨ (f ≤ 256 ∧ 1000 < n)) (hn : n ≤ 9223372036854775807) :
    Calls Try.prog 30 #[.agg #[.int .i64 0, .int .i64 0, .slice ao n cap, .slice none 0 0, .int .i64 0, .int .i64 f, .int .i64 0], .int .i64 p, .int .i64 t] w fun e w' => e = .returned (.tuple #[noParams, .int .i64 3]) ∧ Below w.heap.size w w' := by
  rcases h with h | ⟨h, h'⟩
  all_goals
    go_enter Try.func30, Try.ntmps30
    go_wp2
    go_returns
    exact ⟨rfl, by go_grown⟩
theorem params_core (f p t F R : Int) (ao : Option Addr) (n cap : Nat) (w : World) (h1 : f ≤ 256) (h2 : n ≤ 1000) (hF : max f 1 = F) (hR : checkOf p F t (F + 2) = R) (V : Value) (hV : (R = 0 ∧ V = .tuple #[.agg #[.int .i64 p, .int .i64 t, .int .i64 F, .int .i64 (F + 2), .int .i64 n, .bool false, .bool false], .int .i64 0]) ∨ (R = 3 ∧ V = .tuple #[.agg #[.int .i64 0, .int .i64 0, .int .i64 0, .int .i64 0, .int .i64 0, .bool false, .bool false], .int .i64 3])) :
    Calls Try.prog 30 #[.agg #[.int .i64 0, .int .i64 0, .slice ao n cap, .slice none 0 0, .int .i64 0, .int .i64 f, .int .i64 0], .int .i64 p, .int .i64 t] w fun e w' => e = .returned V ∧ Below w.heap.size w w' := by
  have c1 := fun w => frames_any f (.slice ao n cap) w
  have c2 := fun w => deque_any f (.slice ao n cap) w (by omega)
  have c3 := fun w => check_any p F t (F + 2) w
  rw [hF] at c1 c2
  rw [hR] at c3
  have C1 := Lib.hid c1
  have C2 := Lib.hid c2
  have C3 := Lib.hid c3
  have hb : 1 ≤ F ∧ F ≤ 256 := by omega
  clear c1 c2 c3 hF hR
  rcases hV with ⟨rfl, rfl⟩ | ⟨rfl, rfl⟩
  all_goals
      go_enter Try.func30, Try.ntmps30
      go_wp2_with fail
      go_region_held3 (fun w' => w'.cell? ⟨w.heap.size, 0, none⟩ = some (.int .i64 0) ∧ w'.cell? ⟨w.heap.size, 1, none⟩ = some (.int .i64 0) ∧ w'.cell? ⟨w.heap.size, 2, none⟩ = some (.slice ao n cap) ∧ w'.cell? ⟨w.heap.size, 3, none⟩ = some (.slice none 0 0) ∧ w'.cell? ⟨w.heap.size, 4, none⟩ = some (.int .i64 0) ∧ w'.cell? ⟨w.heap.size, 5, none⟩ = some (.int .i64 f) ∧ w'.cell? ⟨w.heap.size, 6, none⟩ = some (.int .i64 0)) (first | (go_keep; done) | ((try dsimp only); (repeat' apply And.intro) <;> (simp (disch := (simp only [size_alloc', size_drew']; omega)) only [cell_drew, cell_alloc_lt, cell_alloc_at]; rfl)))
        (first | (go_at_call 26; (with_reducible refine (C1.out _).mono ?_); rintro e w1 ⟨rfl, rfl⟩) | (go_at_call 27; (with_reducible refine (C2.out _).mono ?_); rintro e w1 ⟨rfl, rfl⟩))
      all_goals (rename_i hS; clear hS)
      all_goals go_wp2_with (go_at_call 47; refine (C3.out _).mono ?_; rintro e w3 ⟨rfl, hb3⟩; have hk := cell_old hb3; have hf := frozen_old hb3; have hb4 : Below w.heap.size w w3 := below_chain (by go_grown) hb3; have r0 : w3.cell? ⟨w.heap.size + 1, 0, none⟩ = some (.int .i64 0) := (by go_simp); have r1 : w3.cell? ⟨w.heap.size + 1, 1, none⟩ = some (.int .i64 0) := (by go_simp); have r2 : w3.cell? ⟨w.heap.size + 1, 2, none⟩ = some (.int .i64 0) := (by go_simp); have r3 : w3.cell? ⟨w.heap.size + 1, 3, none⟩ = some (.int .i64 0) := (by go_simp); have r4 : w3.cell? ⟨w.heap.size + 1, 4, none⟩ = some (.int .i64 0) := (by go_simp); have r5 : w3.cell? ⟨w.heap.size + 1, 5, none⟩ = some (.bool false) := (by go_simp); have r6 : w3.cell? ⟨w.heap.size + 1, 6, none⟩ = some (.bool false) := (by go_simp))
      all_goals refine bodyPost_ret (by simp [results, Try.results30, go_sem, r0, r1, r2, r3, r4, r5, r6]) rfl ⟨rfl, ?_⟩
      all_goals (repeat refine Below.setCell ?_ (by show w.heap.size ≤ w.heap.size + 1; omega) _)
      all_goals exact hb4
end Go.Proofs.Ytkmccbknmpjkhaa
