/- Package deque: what works() tells. -/
import Derived.Test.YtofnjapgacgdlaaDqRun
set_option linter.unusedVariables false
set_option linter.unusedSimpArgs false
namespace Go.Proofs.Ytofnjapgacgdlaa
open Go.RowKit
set_option maxRecDepth 100000
set_option maxHeartbeats 8000000
theorem quiet_zero (B D M : Nat) (h : B + 4 + D ≤ M) (hD : 2 ≤ D) : Quiet B D (List.replicate M 0) 0 [] := by
  have z : ∀ j, (List.replicate M (0 : Int)).getD j 0 = 0 := fun j => by
    rw [List.getD_eq_getElem?_getD, List.getElem?_replicate]; split <;> rfl
  exact ⟨by simpa using h, by rw [z]; rfl, by rw [z]; rfl, by rw [z, z], by simp; omega, hD, by simp, by simp⟩
/-- The plan's cells, and a store over it. -/
def planA (pb : Nat) (W D : Int) : Ast := cellsA pb #[.int .i64 W, .int .i64 1, .int .i64 1, .int .i64 D] 43
theorem planC {w0 w : World} {A : Ast} {pb : Nat} {W D : Int} {l : List Ast} (h : Own w0 w (A :: planA pb W D :: l)) : w.cell? ⟨pb, 0, none⟩ = some (.int .i64 W) ∧ w.cell? ⟨pb, 1, none⟩ = some (.int .i64 1) ∧ w.cell? ⟨pb, 2, none⟩ = some (.int .i64 1) ∧ w.cell? ⟨pb, 3, none⟩ = some (.int .i64 D) :=
  ⟨(h.cget 1 rfl 0).1, (h.cget 1 rfl 1).1, (h.cget 1 rfl 2).1, (h.cget 1 rfl 3).1⟩
theorem DW.plan {W D k W' D' : Int} {B : Nat} {w0 w : World} {g b wb pb : Nat} {ms : List Int} {s : WS} {l : List Ast} (h : DW W D k B w0 w g b wb ms s (planA pb W' D' :: l)) : w.cell? ⟨pb, 0, none⟩ = some (.int .i64 W') ∧ w.cell? ⟨pb, 1, none⟩ = some (.int .i64 1) ∧ w.cell? ⟨pb, 2, none⟩ = some (.int .i64 1) ∧ w.cell? ⟨pb, 3, none⟩ = some (.int .i64 D') := planC h.drop
theorem works13_any (w : World) : Calls Try.prog 30 #[] w fun e w' => e = .returned (.bool true) ∧ Below w.heap.size w w' := by
  have ok : okPlan 2 1 1 4 = true := by decide
  have c : Cf 2 4 1 8 26 := ⟨ok, by decide, by decide, by decide⟩
  have q0 := quiet_zero 8 4 26 (by decide) (by decide)
  obtain ⟨m1, r1, l1, q1⟩ := push_room q0 7 (by decide) (by decide) 96 1
  obtain ⟨m2, r2, l2, q2⟩ := pop_last q1 96 1
  simp only [List.length_replicate, List.length_nil, List.nil_append, List.length_cons, Nat.add_zero, Nat.zero_add] at r1 r2 l1 l2
  rw [l1] at l2
  generalize hz : List.replicate 26 (0 : Int) = z at *
  have l0 : z.length = 26 := by rw [← hz]; simp
  have c0 : Cf 2 4 1 8 z.length := by rw [l0]; exact c
  have c1 : Cf 2 4 1 8 m1.length := by rw [l1]; exact c
  have NW := Lib.hid (fun (w1 : World) (l : List Ast) (h : Own w w1 l) => own_new h 26 z hz)
  have R1 := Lib.hid (fun (w1 : World) (g b wb pb : Nat) (h : DW 2 4 1 8 w w1 g b wb z (push0 0 7) [planA pb 2 4]) => run13 c0 (.inl (Nat.zero_le 2)) h _ r1)
  have R2 := Lib.hid (fun (w1 : World) (g b wb pb : Nat) (l : List Ast) (h : DW 2 4 1 8 w w1 g b wb m1 (pop0 1) l) => run13 c1 (.inr (.inl (show 10 ≤ 10 ∧ 10 ≤ 20 by decide))) h _ r2)
  clear r1 r2 q0 q1 q2 l0 l1 l2 hz c0 c1 c
  go_enter Try.func30, Try.ntmps30
  go_wp2_with (go_at_call 31; refine (plan13_any _ _).mono ?_; rintro e w1 ⟨rfl, hb1⟩)
  have h1 := (Own.nil hb1).box #[.int .i64 2, .int .i64 1, .int .i64 1, .int .i64 4] 43
  go_at_call 22
  refine (size_ok ok _).mono ?_
  rintro e w2 ⟨rfl, hb2⟩
  have h2 := h1.grow hb2
  clear h1 hb1 hb2
  have hsz : sizeV 2 1 1 4 = 26 := by decide
  go_wp2_with fail
  go_at_call 21
  refine (NW.out _ _ h2).mono ?_
  rintro e w3 ⟨rfl, h3⟩
  have h4 := h3.sel [1, 0] (by decide)
  replace h4 : Own w w3 [storeA (w2.heap.size + 1) w2.heap.size z, planA w1.heap.size 2 4] := h4
  obtain ⟨x0, x1, x2, x3⟩ := planC h4
  clear h2 h3
  generalize w2.heap.size = sb at *
  generalize w1.heap.size = pb at *
  go_wp2_with (first | (go_at_call 28; refine (qPush 2 4 1 8 0 7 h4).mono ?_; rintro e w5 ⟨wb, rfl, h5⟩; clear x0 x1 x2 x3; obtain ⟨x0, x1, x2, x3⟩ := h5.plan) | (go_at_call 32; refine (R1.out _ _ _ _ _ h5).mono ?_; rintro e w6 ⟨rfl, h6⟩; clear x0 x1 x2 x3; obtain ⟨x0, x1, x2, x3⟩ := h6.plan))
  have h7 := h6
  obtain ⟨hpc6, cs6, bx6, hk6, hO6⟩ := h6
  go_at_call 23
  refine (qPop 2 4 1 8 1 hO6).mono ?_
  rintro e w8 ⟨wc, rfl, h8⟩
  clear x0 x1 x2 x3 h7 h5 h4
  go_wp2_with (go_at_call 32; refine (R2.out _ _ _ _ 0 _ h8).mono ?_; rintro e w9 ⟨rfl, h9⟩)
  have hA := h9.drop
  have T1 := Lib.hid (show DW 2 4 1 8 w w9 _ _ wb _ ⟨99, 1, 7, 0, 0, false, false⟩ [planA pb 2 4] from ⟨.inr rfl, cs6, bx6, hk6, hA⟩)
  replace h9 := Lib.hid h9
  clear hA hk6 hO6 h8
  go_wp2_with (first | (go_at_call 25; refine (qGot h9.out).mono ?_; rintro e wa ⟨rfl, rfl⟩) | (go_at_call 26; first | (refine (qTail T1.out).mono ?_; rintro e wa ⟨rfl, rfl⟩) | (refine (qTail h9.out).mono ?_; rintro e wa ⟨rfl, rfl⟩)) | (go_at_call 29; refine (qFull T1.out).mono ?_; rintro e wa ⟨rfl, rfl⟩))
  go_ret
  exact ⟨rfl, T1.out.drop.below⟩
end Go.Proofs.Ytofnjapgacgdlaa
