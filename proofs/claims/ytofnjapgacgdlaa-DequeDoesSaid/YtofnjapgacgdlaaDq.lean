/- Package deque: the pieces; load, put, end, asks, leaves, Ended. -/
import Derived.Test.YtofnjapgacgdlaaTick
import Derived.Test.YtofnjapgacgdlaaTail
import Derived.Test.YtofnjapgacgdlaaPlan2
import Derived.Laws.EntriesVeiled
import Derived.Test.YtofnjapgacgdlaaDqSpec
set_option linter.unusedVariables false
set_option linter.unusedSimpArgs false
namespace Go.Proofs.Ytofnjapgacgdlaa
open Go.RowKit
set_option maxRecDepth 100000
set_option maxHeartbeats 8000000
theorem Own.pm {w0 w : World} {l l' : List Ast} (h : Own w0 w l) (hp : l.Perm l') : Own w0 w l' :=
  ⟨h.below, fun A hA => h.all A (hp.mem_iff.2 hA), fun A hA => h.own A (hp.mem_iff.2 hA), hp.pairwise h.sep (fun hab k hk hk' => hab k hk' hk)⟩
/-- A walk: its own cells, and the boxes that its closures keep. -/
def walkA (wb : Nat) (cs : Array Value) (bx : List (Nat × Value × TypeId)) : Ast where
  F k := k = wb ∨ ∃ p ∈ bx, p.1 = k
  hold w := w.heap[wb]? = some (.cells cs 86 (0, 0)) ∧ ∀ p ∈ bx, w.heap[p.1]? = some (.cells #[p.2.1] p.2.2 (0, 0))
  loc h hb := ⟨(hb wb (.inl rfl)).trans h.1, fun p hp => (hb p.1 (.inr ⟨p, hp, rfl⟩)).trans (h.2 p hp)⟩
  lt h k hk := by
    rcases hk with rfl | ⟨p, hp, rfl⟩
    · exact lt_at h.1
    · exact lt_at (h.2 p hp)
theorem Own.wget {w0 w : World} {l : List Ast} (h : Own w0 w l) (i : Nat) {wb : Nat} {cs : Array Value} {bx : List (Nat × Value × TypeId)} (hi : l[i]? = some (walkA wb cs bx)) (j : Nat) : w.cell? ⟨wb, j, none⟩ = cs[j]? ∧ w.frozen? ⟨wb, j, none⟩ = false :=
  ⟨cell_at (h.at i hi).1 j, free_at (h.at i hi).1 j⟩
theorem Own.bget {w0 w : World} {l : List Ast} (h : Own w0 w l) (i : Nat) {wb : Nat} {cs : Array Value} {bx : List (Nat × Value × TypeId)} (hi : l[i]? = some (walkA wb cs bx)) {q : Nat} {v : Value} {t : TypeId} (hp : (q, v, t) ∈ bx) : w.cell? ⟨q, 0, none⟩ = some v :=
  cell_at ((h.at i hi).2 _ hp) 0
theorem Own.wset {w0 w : World} {l : List Ast} (h : Own w0 w l) (i : Nat) {wb : Nat} {cs : Array Value} {bx : List (Nat × Value × TypeId)} (hi : l[i]? = some (walkA wb cs bx)) (hno : ∀ p ∈ bx, p.1 ≠ wb) (j : Nat) (v : Value) : Own w0 (w.setCell ⟨wb, j, none⟩ v) (l.set i (walkA wb (cs.setIfInBounds j v) bx)) := by
  have hA := h.at i hi
  have htt : Touch (fun k => k = wb) w (w.setCell ⟨wb, j, none⟩ v) := (Touch.refl (fun k => k = wb) w).setCell (p := ⟨wb, j, none⟩) (.inr rfl) v
  refine h.move i hi ⟨⟨set_at hA.1 j v, fun p hp => ?_⟩, ⟨htt.os, htt.tape, htt.output, htt.size, fun k hk hn => htt.block k hk (fun e => hn (.inl e))⟩, fun k hk => .inl hk⟩
  rw [htt.block p.1 (lt_at (hA.2 p hp)) (hno p hp)]
  exact hA.2 p hp
theorem Own.absorb {w0 w : World} {l : List Ast} {wb q : Nat} {cs : Array Value} {bx : List (Nat × Value × TypeId)} {v : Value} {t : TypeId} (h : Own w0 w (walkA wb cs bx :: cellsA q #[v] t :: l)) : Own w0 w (walkA wb cs (bx ++ [(q, v, t)]) :: l) ∧ q ≠ wb := by
  obtain ⟨h1, h2, h3, h4⟩ := h
  have hA := h2 (walkA wb cs bx) (by simp)
  have hC : w.heap[q]? = some (.cells #[v] t (0, 0)) := h2 (cellsA q #[v] t) (by simp)
  have split : ∀ k, (walkA wb cs (bx ++ [(q, v, t)])).F k → (walkA wb cs bx).F k ∨ (cellsA q #[v] t).F k := by
    rintro k (rfl | ⟨p, hp, rfl⟩)
    · exact .inl (.inl rfl)
    · rcases List.mem_append.1 hp with hp | hp
      · exact .inl (.inr ⟨p, hp, rfl⟩)
      · simp at hp; subst hp; exact .inr rfl
  rw [List.pairwise_cons, List.pairwise_cons] at h4
  refine ⟨⟨h1, fun A hA' => ?_, fun A hA' k hk => ?_, ?_⟩, fun e => ?_⟩
  · rcases List.mem_cons.1 hA' with rfl | hm
    · refine ⟨hA.1, fun p hp => ?_⟩
      rcases List.mem_append.1 hp with hp | hp
      · exact hA.2 p hp
      · simp at hp; subst hp; exact hC
    · exact h2 A (by simp [hm])
  · rcases List.mem_cons.1 hA' with rfl | hm
    · rcases split k hk with hk | hk
      · exact h3 (walkA wb cs bx) (by simp) k hk
      · exact h3 (cellsA q #[v] t) (by simp) k hk
    · exact h3 A (by simp [hm]) k hk
  · rw [List.pairwise_cons]
    refine ⟨fun B hB k hk hk' => ?_, h4.2.2⟩
    rcases split k hk with hk | hk
    · exact h4.1 B (by simp [hB]) k hk hk'
    · exact h4.2.1 B hB k hk hk'
  · subst e
    exact h4.1 (cellsA q #[v] t) (by simp) q (.inl rfl) rfl
/-- A walk's cells. -/
def wcs (W D k t x h a n : Int) (nv : Value) (got full : Bool) : Array Value := #[.int .i64 W, .int .i64 1, .int .i64 1, .int .i64 D, .int .i64 k, .int .i64 t, .int .i64 x, .int .i64 h, .int .i64 a, .int .i64 n, nv, .bool got, .bool full]
/-- What is given ahead: the plan, the deque's beginning, the words there are. -/
structure Cf (W D k : Int) (B M : Nat) : Prop where
  ok : okPlan W 1 1 D = true
  base : baseV W D k = B
  room : (B : Int) + 4 + D ≤ M
  small : M ≤ 100000
theorem Cf.slot {W D k : Int} {B M : Nat} (c : Cf W D k B M) (n : Int) : slotV W D k n = (slotN B D n : Nat) ∧ slotN B D n < M := by
  have h1 := ok_bd c.ok
  have h2 := mod_bd (x := max n 0) (y := D) (by omega)
  have h3 := c.room
  unfold slotV slotN
  rw [c.base]
  omega
theorem Cf.bd {W D k : Int} {B M : Nat} (c : Cf W D k B M) : 2 ≤ D ∧ D ≤ 256 ∧ (B : Int) + 4 + D ≤ M ∧ M ≤ 100000 := by
  have h1 := ok_bd c.ok
  exact ⟨by omega, by omega, c.room, c.small⟩
theorem Own.w0 {w0 w : World} {A : Ast} {W D k t x h a n : Int} {nv : Value} {got full : Bool} {wb : Nat} {bx : List (Nat × Value × TypeId)} {l : List Ast} (hO : Own w0 w (A :: walkA wb (wcs W D k t x h a n nv got full) bx :: l)) : w.cell? ⟨wb, 0, none⟩ = some (.int .i64 W) ∧ w.frozen? ⟨wb, 0, none⟩ = false := hO.wget 1 rfl 0
theorem Own.w1 {w0 w : World} {A : Ast} {W D k t x h a n : Int} {nv : Value} {got full : Bool} {wb : Nat} {bx : List (Nat × Value × TypeId)} {l : List Ast} (hO : Own w0 w (A :: walkA wb (wcs W D k t x h a n nv got full) bx :: l)) : w.cell? ⟨wb, 1, none⟩ = some (.int .i64 1) ∧ w.frozen? ⟨wb, 1, none⟩ = false := hO.wget 1 rfl 1
theorem Own.w2 {w0 w : World} {A : Ast} {W D k t x h a n : Int} {nv : Value} {got full : Bool} {wb : Nat} {bx : List (Nat × Value × TypeId)} {l : List Ast} (hO : Own w0 w (A :: walkA wb (wcs W D k t x h a n nv got full) bx :: l)) : w.cell? ⟨wb, 2, none⟩ = some (.int .i64 1) ∧ w.frozen? ⟨wb, 2, none⟩ = false := hO.wget 1 rfl 2
theorem Own.w3 {w0 w : World} {A : Ast} {W D k t x h a n : Int} {nv : Value} {got full : Bool} {wb : Nat} {bx : List (Nat × Value × TypeId)} {l : List Ast} (hO : Own w0 w (A :: walkA wb (wcs W D k t x h a n nv got full) bx :: l)) : w.cell? ⟨wb, 3, none⟩ = some (.int .i64 D) ∧ w.frozen? ⟨wb, 3, none⟩ = false := hO.wget 1 rfl 3
theorem Own.w4 {w0 w : World} {A : Ast} {W D k t x h a n : Int} {nv : Value} {got full : Bool} {wb : Nat} {bx : List (Nat × Value × TypeId)} {l : List Ast} (hO : Own w0 w (A :: walkA wb (wcs W D k t x h a n nv got full) bx :: l)) : w.cell? ⟨wb, 4, none⟩ = some (.int .i64 k) ∧ w.frozen? ⟨wb, 4, none⟩ = false := hO.wget 1 rfl 4
theorem Own.w5 {w0 w : World} {A : Ast} {W D k t x h a n : Int} {nv : Value} {got full : Bool} {wb : Nat} {bx : List (Nat × Value × TypeId)} {l : List Ast} (hO : Own w0 w (A :: walkA wb (wcs W D k t x h a n nv got full) bx :: l)) : w.cell? ⟨wb, 5, none⟩ = some (.int .i64 t) ∧ w.frozen? ⟨wb, 5, none⟩ = false := hO.wget 1 rfl 5
theorem Own.w6 {w0 w : World} {A : Ast} {W D k t x h a n : Int} {nv : Value} {got full : Bool} {wb : Nat} {bx : List (Nat × Value × TypeId)} {l : List Ast} (hO : Own w0 w (A :: walkA wb (wcs W D k t x h a n nv got full) bx :: l)) : w.cell? ⟨wb, 6, none⟩ = some (.int .i64 x) ∧ w.frozen? ⟨wb, 6, none⟩ = false := hO.wget 1 rfl 6
theorem Own.w7 {w0 w : World} {A : Ast} {W D k t x h a n : Int} {nv : Value} {got full : Bool} {wb : Nat} {bx : List (Nat × Value × TypeId)} {l : List Ast} (hO : Own w0 w (A :: walkA wb (wcs W D k t x h a n nv got full) bx :: l)) : w.cell? ⟨wb, 7, none⟩ = some (.int .i64 h) ∧ w.frozen? ⟨wb, 7, none⟩ = false := hO.wget 1 rfl 7
theorem Own.w8 {w0 w : World} {A : Ast} {W D k t x h a n : Int} {nv : Value} {got full : Bool} {wb : Nat} {bx : List (Nat × Value × TypeId)} {l : List Ast} (hO : Own w0 w (A :: walkA wb (wcs W D k t x h a n nv got full) bx :: l)) : w.cell? ⟨wb, 8, none⟩ = some (.int .i64 a) ∧ w.frozen? ⟨wb, 8, none⟩ = false := hO.wget 1 rfl 8
theorem Own.w9 {w0 w : World} {A : Ast} {W D k t x h a n : Int} {nv : Value} {got full : Bool} {wb : Nat} {bx : List (Nat × Value × TypeId)} {l : List Ast} (hO : Own w0 w (A :: walkA wb (wcs W D k t x h a n nv got full) bx :: l)) : w.cell? ⟨wb, 9, none⟩ = some (.int .i64 n) ∧ w.frozen? ⟨wb, 9, none⟩ = false := hO.wget 1 rfl 9
theorem Own.w10 {w0 w : World} {A : Ast} {W D k t x h a n : Int} {nv : Value} {got full : Bool} {wb : Nat} {bx : List (Nat × Value × TypeId)} {l : List Ast} (hO : Own w0 w (A :: walkA wb (wcs W D k t x h a n nv got full) bx :: l)) : w.cell? ⟨wb, 10, none⟩ = some nv ∧ w.frozen? ⟨wb, 10, none⟩ = false := hO.wget 1 rfl 10
theorem Own.w11 {w0 w : World} {A : Ast} {W D k t x h a n : Int} {nv : Value} {got full : Bool} {wb : Nat} {bx : List (Nat × Value × TypeId)} {l : List Ast} (hO : Own w0 w (A :: walkA wb (wcs W D k t x h a n nv got full) bx :: l)) : w.cell? ⟨wb, 11, none⟩ = some (.bool got) ∧ w.frozen? ⟨wb, 11, none⟩ = false := hO.wget 1 rfl 11
theorem Own.w12 {w0 w : World} {A : Ast} {W D k t x h a n : Int} {nv : Value} {got full : Bool} {wb : Nat} {bx : List (Nat × Value × TypeId)} {l : List Ast} (hO : Own w0 w (A :: walkA wb (wcs W D k t x h a n nv got full) bx :: l)) : w.cell? ⟨wb, 12, none⟩ = some (.bool full) ∧ w.frozen? ⟨wb, 12, none⟩ = false := hO.wget 1 rfl 12
theorem Own.s5 {w0 w : World} {A : Ast} {W D k t x h a n : Int} {nv : Value} {got full : Bool} {wb : Nat} {bx : List (Nat × Value × TypeId)} {l : List Ast} (hO : Own w0 w (A :: walkA wb (wcs W D k t x h a n nv got full) bx :: l)) (hno : ∀ p ∈ bx, p.1 ≠ wb) (u : Int) : Own w0 (w.setCell ⟨wb, 5, none⟩ (.int .i64 u)) (A :: walkA wb (wcs W D k u x h a n nv got full) bx :: l) := hO.wset 1 rfl hno 5 (.int .i64 u)
theorem Own.s6 {w0 w : World} {A : Ast} {W D k t x h a n : Int} {nv : Value} {got full : Bool} {wb : Nat} {bx : List (Nat × Value × TypeId)} {l : List Ast} (hO : Own w0 w (A :: walkA wb (wcs W D k t x h a n nv got full) bx :: l)) (hno : ∀ p ∈ bx, p.1 ≠ wb) (u : Int) : Own w0 (w.setCell ⟨wb, 6, none⟩ (.int .i64 u)) (A :: walkA wb (wcs W D k t u h a n nv got full) bx :: l) := hO.wset 1 rfl hno 6 (.int .i64 u)
theorem Own.s7 {w0 w : World} {A : Ast} {W D k t x h a n : Int} {nv : Value} {got full : Bool} {wb : Nat} {bx : List (Nat × Value × TypeId)} {l : List Ast} (hO : Own w0 w (A :: walkA wb (wcs W D k t x h a n nv got full) bx :: l)) (hno : ∀ p ∈ bx, p.1 ≠ wb) (u : Int) : Own w0 (w.setCell ⟨wb, 7, none⟩ (.int .i64 u)) (A :: walkA wb (wcs W D k t x u a n nv got full) bx :: l) := hO.wset 1 rfl hno 7 (.int .i64 u)
theorem Own.s8 {w0 w : World} {A : Ast} {W D k t x h a n : Int} {nv : Value} {got full : Bool} {wb : Nat} {bx : List (Nat × Value × TypeId)} {l : List Ast} (hO : Own w0 w (A :: walkA wb (wcs W D k t x h a n nv got full) bx :: l)) (hno : ∀ p ∈ bx, p.1 ≠ wb) (u : Int) : Own w0 (w.setCell ⟨wb, 8, none⟩ (.int .i64 u)) (A :: walkA wb (wcs W D k t x h u n nv got full) bx :: l) := hO.wset 1 rfl hno 8 (.int .i64 u)
theorem Own.s9 {w0 w : World} {A : Ast} {W D k t x h a n : Int} {nv : Value} {got full : Bool} {wb : Nat} {bx : List (Nat × Value × TypeId)} {l : List Ast} (hO : Own w0 w (A :: walkA wb (wcs W D k t x h a n nv got full) bx :: l)) (hno : ∀ p ∈ bx, p.1 ≠ wb) (u : Int) : Own w0 (w.setCell ⟨wb, 9, none⟩ (.int .i64 u)) (A :: walkA wb (wcs W D k t x h a u nv got full) bx :: l) := hO.wset 1 rfl hno 9 (.int .i64 u)
theorem Own.s10 {w0 w : World} {A : Ast} {W D k t x h a n : Int} {nv : Value} {got full : Bool} {wb : Nat} {bx : List (Nat × Value × TypeId)} {l : List Ast} (hO : Own w0 w (A :: walkA wb (wcs W D k t x h a n nv got full) bx :: l)) (hno : ∀ p ∈ bx, p.1 ≠ wb) (u : Value) : Own w0 (w.setCell ⟨wb, 10, none⟩ u) (A :: walkA wb (wcs W D k t x h a n u got full) bx :: l) := hO.wset 1 rfl hno 10 u
theorem Own.s11 {w0 w : World} {A : Ast} {W D k t x h a n : Int} {nv : Value} {got full : Bool} {wb : Nat} {bx : List (Nat × Value × TypeId)} {l : List Ast} (hO : Own w0 w (A :: walkA wb (wcs W D k t x h a n nv got full) bx :: l)) (hno : ∀ p ∈ bx, p.1 ≠ wb) (u : Bool) : Own w0 (w.setCell ⟨wb, 11, none⟩ (.bool u)) (A :: walkA wb (wcs W D k t x h a n nv u full) bx :: l) := hO.wset 1 rfl hno 11 (.bool u)
theorem Own.s12 {w0 w : World} {A : Ast} {W D k t x h a n : Int} {nv : Value} {got full : Bool} {wb : Nat} {bx : List (Nat × Value × TypeId)} {l : List Ast} (hO : Own w0 w (A :: walkA wb (wcs W D k t x h a n nv got full) bx :: l)) (hno : ∀ p ∈ bx, p.1 ≠ wb) (u : Bool) : Own w0 (w.setCell ⟨wb, 12, none⟩ (.bool u)) (A :: walkA wb (wcs W D k t x h a n nv got u) bx :: l) := hO.wset 1 rfl hno 12 (.bool u)
theorem dload {W D k : Int} {B : Nat} {ms : List Int} (c : Cf W D k B ms.length) {w0 w : World} {g b wb : Nat} {t x h a n : Int} {nv : Value} {got full : Bool} {bx : List (Nat × Value × TypeId)} {l : List Ast} (hO : Own w0 w (storeA g b ms :: walkA wb (wcs W D k t x h a n nv got full) bx :: l)) (q : Int) (qn : Nat) (hq : (qn : Int) = B + q) (hq0 : 0 ≤ q ∧ q ≤ 3) (y : Int) (hy : ms.getD qn 0 = y) :
    Calls Try.prog 65 #[.pointer (some ⟨wb, 0, none⟩), .pointer (some ⟨g, 0, none⟩), .int .i64 q] w fun e w' => e = .returned (.int .i64 y) ∧ Own w0 w' (storeA g b ms :: walkA wb (wcs W D k t x h a n nv got full) bx :: l) := by
  have cb := c.bd
  have BC := Lib.hid (fun w => c.base ▸ base_ok c.ok k w)
  have LD := Lib.hid (fun (w' : World) (hO : Own w0 w' (storeA g b ms :: walkA wb (wcs W D k t x h a n nv got full) bx :: l)) => own_load hO 0 rfl (k := qn) (by omega) y hy)
  have KS := Lib.hid (fun (w' : World) (ms' : List Int) (h' : Own w0 w' (storeA g b ms' :: walkA wb (wcs W D k t x h a n nv got full) bx :: l)) => show (fun w' : World => w'.cell? ⟨wb, 0, none⟩ = some (.int .i64 W) ∧ w'.cell? ⟨wb, 1, none⟩ = some (.int .i64 1) ∧ w'.cell? ⟨wb, 2, none⟩ = some (.int .i64 1) ∧ w'.cell? ⟨wb, 3, none⟩ = some (.int .i64 D) ∧ w'.cell? ⟨wb, 4, none⟩ = some (.int .i64 k)) w' from ⟨(h'.wget 1 rfl 0).1, (h'.wget 1 rfl 1).1, (h'.wget 1 rfl 2).1, (h'.wget 1 rfl 3).1, (h'.wget 1 rfl 4).1⟩)
  have hOa := hO.drewN 1
  have e1 : IntKind.i64.wrap ((B : Int) + q) = (qn : Int) := by rw [hq]; exact IntWalk.i64_in _ (by omega)
  clear hy hq hO
  go_enter Try.func65, Try.ntmps65
  go_wp2_with fail
  have hS0 := KS.out _ _ hOa
  refine lin_start (S := (fun w' : World => w'.cell? ⟨wb, 0, none⟩ = some (.int .i64 W) ∧ w'.cell? ⟨wb, 1, none⟩ = some (.int .i64 1) ∧ w'.cell? ⟨wb, 2, none⟩ = some (.int .i64 1) ∧ w'.cell? ⟨wb, 3, none⟩ = some (.int .i64 D) ∧ w'.cell? ⟨wb, 4, none⟩ = some (.int .i64 k))) rfl 18 rfl hS0 ?_
  simp only [numbered, Nat.zero_add, Nat.reduceAdd]
  refine lin_take (v := ?_) (by kernel_rfl) (by kernel_rfl) (fun _ _ _ h => h) (Or.inl ⟨by rfl, ?_⟩) (by assumption) ?_; (rotate_left; (intro wS hSw; (try dsimp only at hSw); go_simp; (try with_reducible rfl)); rotate_left); simp only [Act.put, List.setIfInBounds_toArray, List.set_cons_zero, List.set_cons_succ]
  refine lin_take (v := ?_) (by kernel_rfl) (by kernel_rfl) (fun _ _ _ h => h) (Or.inl ⟨by rfl, ?_⟩) (by assumption) ?_; (rotate_left; (intro wS hSw; (try dsimp only at hSw); go_simp; (try with_reducible rfl)); rotate_left); simp only [Act.put, List.setIfInBounds_toArray, List.set_cons_zero, List.set_cons_succ]
  refine lin_take (v := ?_) (by kernel_rfl) (by kernel_rfl) (fun _ _ _ h => h) (Or.inl ⟨by rfl, ?_⟩) (by assumption) ?_; (rotate_left; (intro wS hSw; (try dsimp only at hSw); go_simp; (try with_reducible rfl)); rotate_left); simp only [Act.put, List.setIfInBounds_toArray, List.set_cons_zero, List.set_cons_succ]
  refine lin_take (v := ?_) (by kernel_rfl) (by kernel_rfl) (fun _ _ _ h => h) (Or.inl ⟨by rfl, ?_⟩) (by assumption) ?_; (rotate_left; (intro wS hSw; (try dsimp only at hSw); go_simp; (try with_reducible rfl)); rotate_left); simp only [Act.put, List.setIfInBounds_toArray, List.set_cons_zero, List.set_cons_succ]
  refine lin_take (v := ?_) (by kernel_rfl) (by kernel_rfl) (fun _ _ _ h => h) (Or.inl ⟨by rfl, ?_⟩) (by assumption) ?_; (rotate_left; (intro wS hSw; (try dsimp only at hSw); go_simp; (try with_reducible rfl)); rotate_left); simp only [Act.put, List.setIfInBounds_toArray, List.set_cons_zero, List.set_cons_succ]
  refine lin_take (v := ?_) (by kernel_rfl) (by kernel_rfl) (fun _ _ _ h => h) (Or.inl ⟨by rfl, ?_⟩) (by assumption) ?_; (rotate_left; (intro wS hSw; (try dsimp only at hSw); go_simp; (try with_reducible rfl)); rotate_left); simp only [Act.put, List.setIfInBounds_toArray, List.set_cons_zero, List.set_cons_succ]
  refine lin_take (v := ?_) (by kernel_rfl) (by kernel_rfl) (fun _ _ _ h => h) (Or.inl ⟨by rfl, ?_⟩) (by assumption) ?_; (rotate_left; (intro wS hSw; (try dsimp only at hSw); go_simp; (try with_reducible rfl)); rotate_left); simp only [Act.put, List.setIfInBounds_toArray, List.set_cons_zero, List.set_cons_succ]
  refine lin_take (v := ?_) (by kernel_rfl) (by kernel_rfl) (fun _ _ _ h => h) (Or.inl ⟨by rfl, ?_⟩) (by assumption) ?_; (rotate_left; (intro wS hSw; (try dsimp only at hSw); go_simp; (try with_reducible rfl)); rotate_left); simp only [Act.put, List.setIfInBounds_toArray, List.set_cons_zero, List.set_cons_succ]
  refine lin_take (v := ?_) (by kernel_rfl) (by kernel_rfl) (fun _ _ _ h => h) (Or.inl ⟨by rfl, ?_⟩) (by assumption) ?_; (rotate_left; (intro wS hSw; (try dsimp only at hSw); go_simp; (try with_reducible rfl)); rotate_left); simp only [Act.put, List.setIfInBounds_toArray, List.set_cons_zero, List.set_cons_succ]
  refine lin_rot ?_; simp only [List.cons_append, List.nil_append]
  refine lin_take (v := ?_) (by kernel_rfl) (by kernel_rfl) (fun _ _ _ h => h) (Or.inl ⟨by rfl, ?_⟩) (by assumption) ?_; (rotate_left; (intro wS hSw; (try dsimp only at hSw); go_simp; (try with_reducible rfl)); rotate_left); simp only [Act.put, List.setIfInBounds_toArray, List.set_cons_zero, List.set_cons_succ]
  refine lin_rot ?_; simp only [List.cons_append, List.nil_append]
  refine lin_rot ?_; simp only [List.cons_append, List.nil_append]
  refine lin_rot ?_; simp only [List.cons_append, List.nil_append]
  refine lin_rot ?_; simp only [List.cons_append, List.nil_append]
  refine lin_rot ?_; simp only [List.cons_append, List.nil_append]
  refine lin_rot ?_; simp only [List.cons_append, List.nil_append]
  refine lin_rot ?_; simp only [List.cons_append, List.nil_append]
  refine lin_sole (by kernel_rfl) (fun K hK => ?_)
  go_simp
  refine (BC.out _).mono ?_
  rintro e w5 ⟨rfl, hb5⟩
  have hOb := hOa.grow hb5
  refine hK.out _ _ (KS.out _ _ hOb) (fun hHeld => ?_)
  try simp only [Act.put, List.setIfInBounds_toArray, List.set_cons_zero, List.set_cons_succ]
  clear hK
  refine lin_take (v := ?_) (by kernel_rfl) (by kernel_rfl) (fun _ _ _ h => h) (Or.inl ⟨by rfl, ?_⟩) (by assumption) ?_; (rotate_left; (intro wS hSw; (try dsimp only at hSw); go_simp; (try with_reducible rfl)); rotate_left); simp only [Act.put, List.setIfInBounds_toArray, List.set_cons_zero, List.set_cons_succ]
  refine lin_sole (by kernel_rfl) (fun K hK => ?_)
  go_simp
  refine (LD.out _ hOb).mono ?_
  rintro e w6 ⟨rfl, rfl⟩
  refine hK.out _ _ hHeld (fun hHeld => ?_)
  try simp only [Act.put, List.setIfInBounds_toArray, List.set_cons_zero, List.set_cons_succ]
  clear hK
  refine lin_take (v := ?_) (by kernel_rfl) (by kernel_rfl) (fun _ _ _ h => h) (Or.inl ⟨by rfl, ?_⟩) (by assumption) ?_; (rotate_left; (intro wS hSw; (try dsimp only at hSw); go_simp; (try with_reducible rfl)); rotate_left); simp only [Act.put, List.setIfInBounds_toArray, List.set_cons_zero, List.set_cons_succ]
  refine lin_take (v := ?_) (by kernel_rfl) (by kernel_rfl) (fun _ _ _ h => h) (Or.inl ⟨by rfl, ?_⟩) (by assumption) ?_; (rotate_left; (intro wS hSw; (try dsimp only at hSw); go_simp; (try with_reducible rfl)); rotate_left); simp only [Act.put, List.setIfInBounds_toArray, List.set_cons_zero, List.set_cons_succ]
  refine lin_take (v := ?_) (by kernel_rfl) (by kernel_rfl) (fun _ _ _ h => h) (Or.inl ⟨by rfl, ?_⟩) (by assumption) ?_; (rotate_left; (intro wS hSw; (try dsimp only at hSw); go_simp; (try with_reducible rfl)); rotate_left); simp only [Act.put, List.setIfInBounds_toArray, List.set_cons_zero, List.set_cons_succ]
  refine lin_take (v := ?_) (by kernel_rfl) (by kernel_rfl) (fun _ _ _ h => h) (Or.inl ⟨by rfl, ?_⟩) (by assumption) ?_; (rotate_left; (intro wS hSw; (try dsimp only at hSw); go_simp; (try with_reducible rfl)); rotate_left); simp only [Act.put, List.setIfInBounds_toArray, List.set_cons_zero, List.set_cons_succ]
  refine lin_take (v := ?_) (by kernel_rfl) (by kernel_rfl) (fun _ _ _ h => h) (Or.inl ⟨by rfl, ?_⟩) (by assumption) ?_; (rotate_left; (intro wS hSw; (try dsimp only at hSw); go_simp; (try with_reducible rfl)); rotate_left); simp only [Act.put, List.setIfInBounds_toArray, List.set_cons_zero, List.set_cons_succ]
  refine lin_done (by kernel_rfl) ?_
  go_wp2_with fail
  go_ret
  exact ⟨rfl, hOb⟩
theorem dput {W D k : Int} {B : Nat} {ms : List Int} (c : Cf W D k B ms.length) {w0 w : World} {g b wb : Nat} {t x h a n : Int} {nv : Value} {got full : Bool} {bx : List (Nat × Value × TypeId)} {l : List Ast} (hO : Own w0 w (storeA g b ms :: walkA wb (wcs W D k t x h a n nv got full) bx :: l)) (q : Int) (qn : Nat) (hq : (qn : Int) = B + q) (hq0 : 0 ≤ q ∧ q ≤ 3) (y : Int) (ms' : List Int) (hm : ms.set qn y = ms') :
    Calls Try.prog 59 #[.pointer (some ⟨wb, 0, none⟩), .pointer (some ⟨g, 0, none⟩), .int .i64 q, .int .i64 y] w fun e w' => e = .returned (.tuple #[]) ∧ Own w0 w' (storeA g b ms' :: walkA wb (wcs W D k t x h a n nv got full) bx :: l) := by
  have cb := c.bd
  have BC := Lib.hid (fun w => c.base ▸ base_ok c.ok k w)
  have ST := Lib.hid (fun (w' : World) (hO : Own w0 w' (storeA g b ms :: walkA wb (wcs W D k t x h a n nv got full) bx :: l)) => own_store hO 0 rfl (k := qn) (by omega) y ms' hm)
  have KS := Lib.hid (fun (w' : World) (ms' : List Int) (h' : Own w0 w' (storeA g b ms' :: walkA wb (wcs W D k t x h a n nv got full) bx :: l)) => show (fun w' : World => w'.cell? ⟨wb, 0, none⟩ = some (.int .i64 W) ∧ w'.cell? ⟨wb, 1, none⟩ = some (.int .i64 1) ∧ w'.cell? ⟨wb, 2, none⟩ = some (.int .i64 1) ∧ w'.cell? ⟨wb, 3, none⟩ = some (.int .i64 D) ∧ w'.cell? ⟨wb, 4, none⟩ = some (.int .i64 k)) w' from ⟨(h'.wget 1 rfl 0).1, (h'.wget 1 rfl 1).1, (h'.wget 1 rfl 2).1, (h'.wget 1 rfl 3).1, (h'.wget 1 rfl 4).1⟩)
  have hOa := hO.drewN 1
  have e1 : IntKind.i64.wrap ((B : Int) + q) = (qn : Int) := by rw [hq]; exact IntWalk.i64_in _ (by omega)
  clear hm hq hO
  go_enter Try.func59, Try.ntmps59
  go_wp2_with fail
  have hS0 := KS.out _ _ hOa
  refine lz_start (S := (fun w' : World => w'.cell? ⟨wb, 0, none⟩ = some (.int .i64 W) ∧ w'.cell? ⟨wb, 1, none⟩ = some (.int .i64 1) ∧ w'.cell? ⟨wb, 2, none⟩ = some (.int .i64 1) ∧ w'.cell? ⟨wb, 3, none⟩ = some (.int .i64 D) ∧ w'.cell? ⟨wb, 4, none⟩ = some (.int .i64 k))) rfl 13 14 rfl hS0 ?_
  simp only [numbered, Nat.zero_add, Nat.reduceAdd]
  refine lz_take (v := ?_) (by kernel_rfl) (by kernel_rfl) (by kernel_rfl) (fun _ _ _ h => h) (Or.inl ⟨by rfl, ?_⟩) (by assumption) ?_; (rotate_left; (intro wS hSw; (try dsimp only at hSw); go_simp; (try with_reducible rfl)); rotate_left); simp only [Act.put, List.setIfInBounds_toArray, List.set_cons_zero, List.set_cons_succ]
  refine lz_take (v := ?_) (by kernel_rfl) (by kernel_rfl) (by kernel_rfl) (fun _ _ _ h => h) (Or.inl ⟨by rfl, ?_⟩) (by assumption) ?_; (rotate_left; (intro wS hSw; (try dsimp only at hSw); go_simp; (try with_reducible rfl)); rotate_left); simp only [Act.put, List.setIfInBounds_toArray, List.set_cons_zero, List.set_cons_succ]
  refine lz_take (v := ?_) (by kernel_rfl) (by kernel_rfl) (by kernel_rfl) (fun _ _ _ h => h) (Or.inl ⟨by rfl, ?_⟩) (by assumption) ?_; (rotate_left; (intro wS hSw; (try dsimp only at hSw); go_simp; (try with_reducible rfl)); rotate_left); simp only [Act.put, List.setIfInBounds_toArray, List.set_cons_zero, List.set_cons_succ]
  refine lz_take (v := ?_) (by kernel_rfl) (by kernel_rfl) (by kernel_rfl) (fun _ _ _ h => h) (Or.inl ⟨by rfl, ?_⟩) (by assumption) ?_; (rotate_left; (intro wS hSw; (try dsimp only at hSw); go_simp; (try with_reducible rfl)); rotate_left); simp only [Act.put, List.setIfInBounds_toArray, List.set_cons_zero, List.set_cons_succ]
  refine lz_take (v := ?_) (by kernel_rfl) (by kernel_rfl) (by kernel_rfl) (fun _ _ _ h => h) (Or.inl ⟨by rfl, ?_⟩) (by assumption) ?_; (rotate_left; (intro wS hSw; (try dsimp only at hSw); go_simp; (try with_reducible rfl)); rotate_left); simp only [Act.put, List.setIfInBounds_toArray, List.set_cons_zero, List.set_cons_succ]
  refine lz_take (v := ?_) (by kernel_rfl) (by kernel_rfl) (by kernel_rfl) (fun _ _ _ h => h) (Or.inl ⟨by rfl, ?_⟩) (by assumption) ?_; (rotate_left; (intro wS hSw; (try dsimp only at hSw); go_simp; (try with_reducible rfl)); rotate_left); simp only [Act.put, List.setIfInBounds_toArray, List.set_cons_zero, List.set_cons_succ]
  refine lz_take (v := ?_) (by kernel_rfl) (by kernel_rfl) (by kernel_rfl) (fun _ _ _ h => h) (Or.inl ⟨by rfl, ?_⟩) (by assumption) ?_; (rotate_left; (intro wS hSw; (try dsimp only at hSw); go_simp; (try with_reducible rfl)); rotate_left); simp only [Act.put, List.setIfInBounds_toArray, List.set_cons_zero, List.set_cons_succ]
  refine lz_take (v := ?_) (by kernel_rfl) (by kernel_rfl) (by kernel_rfl) (fun _ _ _ h => h) (Or.inl ⟨by rfl, ?_⟩) (by assumption) ?_; (rotate_left; (intro wS hSw; (try dsimp only at hSw); go_simp; (try with_reducible rfl)); rotate_left); simp only [Act.put, List.setIfInBounds_toArray, List.set_cons_zero, List.set_cons_succ]
  refine lz_take (v := ?_) (by kernel_rfl) (by kernel_rfl) (by kernel_rfl) (fun _ _ _ h => h) (Or.inl ⟨by rfl, ?_⟩) (by assumption) ?_; (rotate_left; (intro wS hSw; (try dsimp only at hSw); go_simp; (try with_reducible rfl)); rotate_left); simp only [Act.put, List.setIfInBounds_toArray, List.set_cons_zero, List.set_cons_succ]
  refine lz_rot ?_; simp only [List.cons_append, List.nil_append]
  refine lz_take (v := ?_) (by kernel_rfl) (by kernel_rfl) (by kernel_rfl) (fun _ _ _ h => h) (Or.inl ⟨by rfl, ?_⟩) (by assumption) ?_; (rotate_left; (intro wS hSw; (try dsimp only at hSw); go_simp; (try with_reducible rfl)); rotate_left); simp only [Act.put, List.setIfInBounds_toArray, List.set_cons_zero, List.set_cons_succ]
  refine lz_rot ?_; simp only [List.cons_append, List.nil_append]
  refine lz_take (v := ?_) (by kernel_rfl) (by kernel_rfl) (by kernel_rfl) (fun _ _ _ h => h) (Or.inl ⟨by rfl, ?_⟩) (by assumption) ?_; (rotate_left; (intro wS hSw; (try dsimp only at hSw); go_simp; (try with_reducible rfl)); rotate_left); simp only [Act.put, List.setIfInBounds_toArray, List.set_cons_zero, List.set_cons_succ]
  refine lz_rot ?_; simp only [List.cons_append, List.nil_append]
  refine lz_sole (by kernel_rfl) (fun K hK => ?_)
  go_simp
  refine (BC.out _).mono ?_
  rintro e w5 ⟨rfl, hb5⟩
  have hOb := hOa.grow hb5
  refine hK.out _ _ (.inr (KS.out _ _ hOb)) (fun hHeld => ?_)
  try simp only [Act.put, List.setIfInBounds_toArray, List.set_cons_zero, List.set_cons_succ]
  clear hK
  have hHeld2 := (KS.out _ _ hOb)
  refine lz_take (v := ?_) (by kernel_rfl) (by kernel_rfl) (by kernel_rfl) (fun _ _ _ h => h) (Or.inl ⟨by rfl, ?_⟩) (by assumption) ?_; (rotate_left; (intro wS hSw; (try dsimp only at hSw); go_simp; (try with_reducible rfl)); rotate_left); simp only [Act.put, List.setIfInBounds_toArray, List.set_cons_zero, List.set_cons_succ]
  refine lz_sole (by kernel_rfl) (fun K hK => ?_)
  go_simp
  refine (ST.out _ hOb).mono ?_
  rintro e w6 ⟨rfl, hOc⟩
  refine hK.out _ _ (.inl rfl) (fun hHeld => ?_)
  try simp only [Act.put, List.setIfInBounds_toArray, List.set_cons_zero, List.set_cons_succ]
  clear hK
  refine lz_done (by kernel_rfl) ?_
  go_wp2_with fail
  go_end0
  exact ⟨rfl, hOc⟩
theorem dend {W D k : Int} {ms : List Int} {w0 w : World} {g b wb : Nat} {t x h a n : Int} {nv : Value} {got full : Bool} {bx : List (Nat × Value × TypeId)} {l : List Ast} (hO : Own w0 w (storeA g b ms :: walkA wb (wcs W D k t x h a n nv got full) bx :: l)) (hno : ∀ p ∈ bx, p.1 ≠ wb) :
    Calls Try.prog 67 #[.pointer (some ⟨wb, 0, none⟩)] w fun e w' => e = .returned (.tuple #[]) ∧ Own w0 w' (storeA g b ms :: walkA wb (wcs W D k t x h a n .nilFunc got full) bx :: l) := by
  have y := hO.w10
  obtain ⟨y1, y2⟩ := y
  have hE := Lib.hid (hO.s10 hno .nilFunc)
  clear hO hno
  go_enter Try.func67, Try.ntmps67
  go_wp2
  go_end0
  exact ⟨rfl, hE.out⟩
theorem alloc_sz (w : World) (o : Obj) : (w.alloc o).heap.size = w.heap.size + 1 := Array.size_push _
theorem Own.two_more {w0 w : World} {A : Ast} {wb q1 q2 : Nat} {cs : Array Value} {bx : List (Nat × Value × TypeId)} {v1 v2 : Value} {t1 t2 : TypeId} {l : List Ast} (h : Own w0 w (A :: walkA wb cs bx :: l ++ [cellsA q1 #[v1] t1] ++ [cellsA q2 #[v2] t2])) :
    Own w0 w (A :: walkA wb cs (bx ++ [(q1, v1, t1), (q2, v2, t2)]) :: l) ∧ q1 ≠ wb ∧ q2 ≠ wb := by
  have h1 : Own w0 w (walkA wb cs bx :: cellsA q1 #[v1] t1 :: cellsA q2 #[v2] t2 :: A :: l) := h.pm (by
    simp only [List.cons_append, List.append_assoc, List.nil_append]
    refine (List.Perm.swap ..).trans (.cons _ ?_)
    exact (List.perm_append_comm (l₁ := A :: l) (l₂ := [cellsA q1 #[v1] t1, cellsA q2 #[v2] t2])))
  obtain ⟨h2, n1⟩ := h1.absorb
  obtain ⟨h3, n2⟩ := h2.absorb
  rw [List.append_assoc] at h3
  exact ⟨h3.pm (List.Perm.swap ..), n1, n2⟩
theorem Own.one_more {w0 w : World} {A : Ast} {wb q1 : Nat} {cs : Array Value} {bx : List (Nat × Value × TypeId)} {v1 : Value} {t1 : TypeId} {l : List Ast} (h : Own w0 w (A :: walkA wb cs bx :: l ++ [cellsA q1 #[v1] t1])) :
    Own w0 w (A :: walkA wb cs (bx ++ [(q1, v1, t1)]) :: l) ∧ q1 ≠ wb := by
  have h1 : Own w0 w (walkA wb cs bx :: cellsA q1 #[v1] t1 :: A :: l) := h.pm (by
    simp only [List.cons_append]
    refine (List.Perm.swap ..).trans (.cons _ ?_)
    exact (List.perm_append_comm (l₁ := A :: l) (l₂ := [cellsA q1 #[v1] t1])))
  obtain ⟨h2, n1⟩ := h1.absorb
  exact ⟨h2.pm (List.Perm.swap ..), n1⟩
theorem dasks {W D k : Int} {ms : List Int} {w0 w : World} {g b wb : Nat} {t x h a n : Int} {nv : Value} {got full : Bool} {bx : List (Nat × Value × TypeId)} {l : List Ast} {fn : Fn} {fa fb : Array Value} (hO : Own w0 w (storeA g b ms :: walkA wb (wcs W D k t x h a n nv got full) bx :: l)) (hno : ∀ p ∈ bx, p.1 ≠ wb) :
    Calls Try.prog 49 #[.pointer (some ⟨wb, 0, none⟩), .func fn fa fb] w fun e w' => ∃ q1 q2, e = .returned (.func (.func 61) #[] #[.pointer (some ⟨q1, 0, none⟩), .pointer (some ⟨q2, 0, none⟩)]) ∧ Own w0 w' (storeA g b ms :: walkA wb (wcs W D k t x h a n nv got full) (bx ++ [(q1, .pointer (some ⟨wb, 0, none⟩), 46), (q2, .func fn fa fb, 82)]) :: l) ∧ q1 ≠ wb ∧ q2 ≠ wb := by
  have hmf : ∀ (fn : Fn) (first cap : Array Value) (w : World), (Instr.makeFunc fn first cap).run Try.prog w = .ok (.func fn first cap) w := fun _ _ _ _ => rfl
  have h1 := hO.box #[.pointer (some ⟨wb, 0, none⟩)] 46
  have h2 := h1.box #[.func fn fa fb] 82
  have h3 := Own.two_more h2
  rw [alloc_sz] at h3
  replace h3 := Lib.hid h3
  clear h1 h2 hO hno
  go_enter Try.func49, Try.ntmps49
  go_wp2
  go_ret
  exact ⟨_, _, rfl, h3.out.1, h3.out.2.1, h3.out.2.2⟩
theorem dleaves {W D k : Int} {ms : List Int} {w0 w : World} {g b wb : Nat} {t x h a n : Int} {nv : Value} {got full : Bool} {bx : List (Nat × Value × TypeId)} {l : List Ast} {fn : Fn} {fa fb : Array Value} (hO : Own w0 w (storeA g b ms :: walkA wb (wcs W D k t x h a n nv got full) bx :: l)) (hno : ∀ p ∈ bx, p.1 ≠ wb) :
    Calls Try.prog 84 #[.pointer (some ⟨wb, 0, none⟩), .func fn fa fb] w fun e w' => ∃ q1 q2, e = .returned (.func (.func 87) #[] #[.pointer (some ⟨q1, 0, none⟩), .pointer (some ⟨q2, 0, none⟩)]) ∧ Own w0 w' (storeA g b ms :: walkA wb (wcs W D k t x h a n nv got full) (bx ++ [(q1, .pointer (some ⟨wb, 0, none⟩), 46), (q2, .func fn fa fb, 82)]) :: l) ∧ q1 ≠ wb ∧ q2 ≠ wb := by
  have hmf : ∀ (fn : Fn) (first cap : Array Value) (w : World), (Instr.makeFunc fn first cap).run Try.prog w = .ok (.func fn first cap) w := fun _ _ _ _ => rfl
  have h1 := hO.box #[.pointer (some ⟨wb, 0, none⟩)] 46
  have h2 := h1.box #[.func fn fa fb] 82
  have h3 := Own.two_more h2
  rw [alloc_sz] at h3
  replace h3 := Lib.hid h3
  clear h1 h2 hO hno
  go_enter Try.func84, Try.ntmps84
  go_wp2
  go_ret
  exact ⟨_, _, rfl, h3.out.1, h3.out.2.1, h3.out.2.2⟩
theorem dleaves0 {W D k : Int} {ms : List Int} {w0 w : World} {g b wb : Nat} {t x h a n : Int} {nv : Value} {got full : Bool} {bx : List (Nat × Value × TypeId)} {l : List Ast} (hO : Own w0 w (storeA g b ms :: walkA wb (wcs W D k t x h a n nv got full) bx :: l)) (hno : ∀ p ∈ bx, p.1 ≠ wb) :
    Calls Try.prog 84 #[.pointer (some ⟨wb, 0, none⟩), .nilFunc] w fun e w' => ∃ q1 q2, e = .returned (.func (.func 87) #[] #[.pointer (some ⟨q1, 0, none⟩), .pointer (some ⟨q2, 0, none⟩)]) ∧ Own w0 w' (storeA g b ms :: walkA wb (wcs W D k t x h a n nv got full) (bx ++ [(q1, .pointer (some ⟨wb, 0, none⟩), 46), (q2, .nilFunc, 82)]) :: l) ∧ q1 ≠ wb ∧ q2 ≠ wb := by
  have hmf : ∀ (fn : Fn) (first cap : Array Value) (w : World), (Instr.makeFunc fn first cap).run Try.prog w = .ok (.func fn first cap) w := fun _ _ _ _ => rfl
  have h1 := hO.box #[.pointer (some ⟨wb, 0, none⟩)] 46
  have h2 := h1.box #[.nilFunc] 82
  have h3 := Own.two_more h2
  rw [alloc_sz] at h3
  replace h3 := Lib.hid h3
  clear h1 h2 hO hno
  go_enter Try.func84, Try.ntmps84
  go_wp2
  go_ret
  exact ⟨_, _, rfl, h3.out.1, h3.out.2.1, h3.out.2.2⟩
theorem dEndedY {W D k : Int} {ms : List Int} {w0 w : World} {g b wb : Nat} {t x h a n : Int} {got full : Bool} {bx : List (Nat × Value × TypeId)} {l : List Ast} (hO : Own w0 w (storeA g b ms :: walkA wb (wcs W D k t x h a n .nilFunc got full) bx :: l)) :
    Calls Try.prog 33 #[.pointer (some ⟨wb, 0, none⟩)] w fun e w' => e = .returned (.bool true) ∧ w = w' := by
  have y := hO.w10
  obtain ⟨y1, y2⟩ := y
  have hbe : ∀ (w : World), Sem.run Try.prog (binOp BinOp.eql 82 .nilFunc .nilFunc) w = .ok (.bool true) w := fun w => by rfl
  clear hO
  go_enter Try.func33, Try.ntmps33
  go_wp2
  go_ret
  exact ⟨rfl, rfl⟩
theorem dEndedN {W D k : Int} {ms : List Int} {w0 w : World} {g b wb : Nat} {t x h a n : Int} {fn : Fn} {fa fb : Array Value} {got full : Bool} {bx : List (Nat × Value × TypeId)} {l : List Ast} (hO : Own w0 w (storeA g b ms :: walkA wb (wcs W D k t x h a n (.func fn fa fb) got full) bx :: l)) :
    Calls Try.prog 33 #[.pointer (some ⟨wb, 0, none⟩)] w fun e w' => e = .returned (.bool false) ∧ w = w' := by
  have y := hO.w10
  obtain ⟨y1, y2⟩ := y
  have hbe : ∀ (f : Fn) (a b : Array Value) (w : World), Sem.run Try.prog (binOp BinOp.eql 82 (.func f a b) .nilFunc) w = .ok (.bool false) w := fun f a b w => by rfl
  clear hO
  go_enter Try.func33, Try.ntmps33
  go_wp2
  go_ret
  exact ⟨rfl, rfl⟩
end Go.Proofs.Ytofnjapgacgdlaa
