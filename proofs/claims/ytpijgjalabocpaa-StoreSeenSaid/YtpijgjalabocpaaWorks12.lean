/- The tickets: works. -/
import Derived.Test.YtpijgjalabocpaaTicket
set_option linter.unusedVariables false
set_option linter.unusedSimpArgs false
namespace Go.Proofs.Ytpijgjalabocpaa
open Go.RowKit
set_option maxHeartbeats 1000000
set_option maxRecDepth 100000
theorem two_boxes {w0 w : World} {A : Ast} {s1 s2 : Nat} {t : TypeId} {a b c d : Value} (h : Own w0 w [A, cellsA s1 #[a, b] t, cellsA s2 #[c, d] t]) : w.cell? ⟨s1, 0, none⟩ = some a ∧ w.cell? ⟨s1, 1, none⟩ = some b ∧ w.cell? ⟨s2, 0, none⟩ = some c ∧ w.cell? ⟨s2, 1, none⟩ = some d :=
  ⟨(h.cget 1 rfl 0).1, (h.cget 1 rfl 1).1, (h.cget 2 rfl 0).1, (h.cget 2 rfl 1).1⟩
theorem works12_any (w : World) : Calls Try.prog 29 #[] w fun e w' => e = .returned (.bool true) ∧ Below w.heap.size w w' := by
  have N := Lib.hid (own_new (Own.nil (Below.refl w.heap.size w)) 4 [0, 0, 0, 0] rfl)
  go_enter Try.func29, Try.ntmps29
  go_wp2_with (go_at_call 15; refine N.out.mono ?_; rintro e w1 ⟨rfl, hs1⟩)
  go_at_call 30
  refine (own_ask hs1 0 rfl (k := 1) (by simp) 0 rfl [0, 1, 0, 0] (by simp [wrap64])).mono ?_
  rintro e w2 ⟨rfl, hs2⟩
  go_wp2_with fail
  go_at_call 30
  refine (own_ask hs2 0 rfl (k := 1) (by simp) 1 rfl [0, 2, 0, 0] (by simp [wrap64])).mono ?_
  rintro e w3 ⟨rfl, hs3⟩
  have hO : Own w ((w3.alloc (.cells #[.int .i64 1, .int .i64 0] 57)).alloc (.cells #[.int .i64 1, .int .i64 1] 57)) [storeA (w.heap.size + 1) w.heap.size [0, 2, 0, 0], cellsA w3.heap.size #[.int .i64 1, .int .i64 0] 57, cellsA (w3.heap.size + 1) #[.int .i64 1, .int .i64 1] 57] := by
    have := (hs3.box #[.int .i64 1, .int .i64 0] 57).box #[.int .i64 1, .int .i64 1] 57
    rw [World.size_alloc] at this
    exact this
  clear hs1 hs2 hs3 N
  go_wp2_with fail
  go_at_call 34
  generalize (w3.alloc (.cells #[.int .i64 1, .int .i64 0] 57)).alloc (.cells #[.int .i64 1, .int .i64 1] 57) = u at *
  generalize w3.heap.size = s at *
  refine (number_any _ _ _).mono ?_
  rintro e w4 ⟨rfl, hb4⟩
  have h4 := hO.grow hb4
  obtain ⟨a0, a1, a2, a3⟩ := two_boxes h4
  clear hO hb4
  go_wp2_with fail
  go_at_call 34
  refine (number_any _ _ _).mono ?_
  rintro e w5 ⟨rfl, hb5⟩
  have h5 := h4.grow hb5
  obtain ⟨b0, b1, b2, b3⟩ := two_boxes h5
  clear h4 hb5 a0 a1 a2 a3
  go_wp2_with fail
  go_at_call 31
  refine (own_mine h5 0 rfl (k := 1) (by simp) (by omega) 0 0 rfl true rfl).mono ?_
  rintro e w6 ⟨rfl, h6⟩
  obtain ⟨c0, c1, c2, c3⟩ := two_boxes h6
  clear h5 b0 b1 b2 b3
  go_wp2_with fail
  go_at_call 31
  refine (own_mine h6 0 rfl (k := 1) (by simp) (by omega) 1 0 rfl false rfl).mono ?_
  rintro e w7 ⟨rfl, h7⟩
  obtain ⟨d0, d1, d2, d3⟩ := two_boxes h7
  clear h6 c0 c1 c2 c3
  go_wp2_with fail
  go_at_call 32
  refine (own_done h7 0 rfl (k := 1) (by simp) (by omega) 0 [0, 2, 1, 0] (by simp [wrap64])).mono ?_
  rintro e w8 ⟨rfl, h8⟩
  obtain ⟨e0, e1, e2, e3⟩ := two_boxes h8
  clear h7 d0 d1 d2 d3
  go_wp2_with fail
  go_at_call 31
  refine (own_mine h8 0 rfl (k := 1) (by simp) (by omega) 1 1 rfl true rfl).mono ?_
  rintro e w9 ⟨rfl, h9⟩
  obtain ⟨f0, f1, f2, f3⟩ := two_boxes h9
  clear h8 e0 e1 e2 e3
  go_wp2_with fail
  go_at_call 31
  refine (own_mine h9 0 rfl (k := 1) (by simp) (by omega) 0 1 rfl false rfl).mono ?_
  rintro e w10 ⟨rfl, h10⟩
  go_wp2_with fail
  go_ret
  exact ⟨rfl, h10.below⟩
end Go.Proofs.Ytpijgjalabocpaa
