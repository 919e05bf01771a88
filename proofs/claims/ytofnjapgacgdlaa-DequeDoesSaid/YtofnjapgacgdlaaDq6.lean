/- Package deque: walks as wholes. -/
import Derived.Test.YtofnjapgacgdlaaDq5
import Derived.Lib.MinMax
set_option linter.unusedVariables false
set_option linter.unusedSimpArgs false
namespace Go.Proofs.Ytofnjapgacgdlaa
open Go.RowKit
set_option maxRecDepth 100000
set_option maxHeartbeats 8000000
theorem dasks' {W D k : Int} {w0 w : World} {A : Ast} {wb : Nat} {t x h a n : Int} {nv : Value} {got full : Bool} {bx : List (Nat × Value × TypeId)} {l : List Ast} {fn : Fn} {fa fb : Array Value} (hO : Own w0 w (A :: walkA wb (wcs W D k t x h a n nv got full) bx :: l)) (hno : ∀ p ∈ bx, p.1 ≠ wb) :
    Calls Try.prog 49 #[.pointer (some ⟨wb, 0, none⟩), .func fn fa fb] w fun e w' => ∃ q1 q2, e = .returned (.func (.func 61) #[] #[.pointer (some ⟨q1, 0, none⟩), .pointer (some ⟨q2, 0, none⟩)]) ∧ Own w0 w' (A :: walkA wb (wcs W D k t x h a n nv got full) (bx ++ [(q1, .pointer (some ⟨wb, 0, none⟩), 46), (q2, .func fn fa fb, 82)]) :: l) ∧ q1 ≠ wb ∧ q2 ≠ wb := by
  have hmf : ∀ (fn : Fn) (first cap : Array Value) (w : World), (Instr.makeFunc fn first cap).run Try.prog w = .ok (.func fn first cap) w := fun _ _ _ _ => rfl
  have h1 := hO.box #[.pointer (some ⟨wb, 0, none⟩)] 46
  have h2 := h1.box #[.func fn fa fb] 82
  have h3 := Own.two_more h2
  rw [alloc_sz] at h3
  replace h3 := Lib.hid h3
  clear h1 h2 hO hno
  go_enter Try.func49, Try.ntmps49
  go_wp2
  go_ret
  exact ⟨_, _, rfl, h3.out.1, h3.out.2.1, h3.out.2.2⟩
theorem dEndedY' {W D k : Int} {w0 w : World} {A : Ast} {wb : Nat} {t x h a n : Int} {got full : Bool} {bx : List (Nat × Value × TypeId)} {l : List Ast} (hO : Own w0 w (A :: walkA wb (wcs W D k t x h a n .nilFunc got full) bx :: l)) :
    Calls Try.prog 33 #[.pointer (some ⟨wb, 0, none⟩)] w fun e w' => e = .returned (.bool true) ∧ w = w' := by
  have y := hO.w10
  obtain ⟨y1, y2⟩ := y
  have hbe : ∀ (w : World), Sem.run Try.prog (binOp BinOp.eql 82 .nilFunc .nilFunc) w = .ok (.bool true) w := fun w => by rfl
  clear hO
  go_enter Try.func33, Try.ntmps33
  go_wp2
  go_ret
  exact ⟨rfl, rfl⟩
theorem dEndedN' {W D k : Int} {w0 w : World} {A : Ast} {wb : Nat} {t x h a n : Int} {fn : Fn} {fa fb : Array Value} {got full : Bool} {bx : List (Nat × Value × TypeId)} {l : List Ast} (hO : Own w0 w (A :: walkA wb (wcs W D k t x h a n (.func fn fa fb) got full) bx :: l)) :
    Calls Try.prog 33 #[.pointer (some ⟨wb, 0, none⟩)] w fun e w' => e = .returned (.bool false) ∧ w = w' := by
  have y := hO.w10
  obtain ⟨y1, y2⟩ := y
  have hbe : ∀ (f : Fn) (a b : Array Value) (w : World), Sem.run Try.prog (binOp BinOp.eql 82 (.func f a b) .nilFunc) w = .ok (.bool false) w := fun f a b w => by rfl
  clear hO
  go_enter Try.func33, Try.ntmps33
  go_wp2
  go_ret
  exact ⟨rfl, rfl⟩
theorem pc_cases {p : Nat} (h : pcOk p) : p = 0 ∨ p = 1 ∨ p = 2 ∨ p = 10 ∨ p = 11 ∨ p = 12 ∨ p = 13 ∨ p = 14 ∨ p = 15 ∨ p = 16 ∨ p = 17 ∨ p = 18 ∨ p = 19 ∨ p = 20 ∨ p = 30 ∨ p = 31 ∨ p = 32 ∨ p = 33 ∨ p = 34 ∨ p = 35 ∨ p = 36 ∨ p = 37 := by unfold pcOk at h; omega
theorem stepW_pc (B : Nat) (D : Int) (s : WS) (m : List Int) (h : pcOk s.pc) : pcOk (stepW B D s m).1.pc ∨ (stepW B D s m).1.pc = 99 := by
  obtain ⟨pc, t, x, h', n, got, full⟩ := s
  rcases pc_cases h with rfl | rfl | rfl | rfl | rfl | rfl | rfl | rfl | rfl | rfl | rfl | rfl | rfl | rfl | rfl | rfl | rfl | rfl | rfl | rfl | rfl | rfl <;> simp only [stepW] <;> (try split) <;> simp [pcOk]
theorem dStep {W D k : Int} {B : Nat} {ms : List Int} (c : Cf W D k B ms.length) {w0 w : World} {g b wb : Nat} {cs : Array Value} {bx : List (Nat × Value × TypeId)} {l : List Ast} {s : WS} (hp : pcOk s.pc) (hk : WkIs W D k B wb s cs bx) (hO : Own w0 w (storeA g b ms :: walkA wb cs bx :: l)) :
    Calls Try.prog 34 #[.pointer (some ⟨wb, 0, none⟩), .pointer (some ⟨g, 0, none⟩)] w (StepP W D k B ms w0 g b wb l s) := by
  obtain ⟨pc, t, x, h, n, got, full⟩ := s
  rcases pc_cases hp with rfl | rfl | rfl | rfl | rfl | rfl | rfl | rfl | rfl | rfl | rfl | rfl | rfl | rfl | rfl | rfl | rfl | rfl | rfl | rfl | rfl | rfl
  · by_cases hc : D - 1 ≤ wrap64 (t - ms.getD B 0)
    · exact dStep0y c hk hO hc
    · exact dStep0n c hk hO hc
  · exact dStep1 c hk hO
  · exact dStep2 c hk hO
  · exact dStep10 c hk hO
  · by_cases hc : ms.getD B 0 ≤ wrap64 (t - 1)
    · exact dStep11y c hk hO hc
    · exact dStep11n c hk hO hc
  · exact dStep12 c hk hO
  · exact dStep13 c hk hO
  · by_cases hc : ms.getD (B + 3) 0 = n
    · exact dStep14y c hk hO hc
    · exact dStep14n c hk hO hc
  · exact dStep15 c hk hO
  · by_cases hc : ms.getD B 0 ≤ wrap64 (t - 1)
    · exact dStep16y c hk hO hc
    · exact dStep16n c hk hO hc
  · exact dStep17 c hk hO
  · exact dStep18 c hk hO
  · exact dStep19 c hk hO
  · exact dStep20 c hk hO
  · exact dStep30 c hk hO
  · by_cases hc : ms.getD (B + 3) 0 = n
    · exact dStep31y c hk hO hc
    · exact dStep31n c hk hO hc
  · exact dStep32 c hk hO
  · exact dStep33 c hk hO
  · by_cases hc : wrap64 (h + 1) ≤ ms.getD (B + 1) 0
    · exact dStep34y c hk hO hc
    · exact dStep34n c hk hO hc
  · exact dStep35 c hk hO
  · exact dStep36 c hk hO
  · exact dStep37 c hk hO
theorem nxt_func {wb B pc : Nat} {a : Int} {bx : List (Nat × Value × TypeId)} {nv : Value} (hp : pcOk pc) (h : nxt wb B pc a bx nv) : ∃ fn fa fb, nv = .func fn fa fb := by
  rcases pc_cases hp with rfl | rfl | rfl | rfl | rfl | rfl | rfl | rfl | rfl | rfl | rfl | rfl | rfl | rfl | rfl | rfl | rfl | rfl | rfl | rfl | rfl | rfl <;> simp only [nxt] at h
  · exact ⟨_, _, _, h⟩
  · exact ⟨_, _, _, h⟩
  · exact ⟨_, _, _, h⟩
  · exact ⟨_, _, _, h⟩
  · exact ⟨_, _, _, h⟩
  · exact ⟨_, _, _, h⟩
  · obtain ⟨_, _, h, _⟩ := h; exact ⟨_, _, _, h⟩
  · obtain ⟨_, _, _, h, _⟩ := h; exact ⟨_, _, _, h⟩
  · exact ⟨_, _, _, h.2⟩
  · exact ⟨_, _, _, h.2⟩
  · obtain ⟨_, _, _, h, _⟩ := h; exact ⟨_, _, _, h⟩
  · obtain ⟨_, _, h, _⟩ := h; exact ⟨_, _, _, h⟩
  · obtain ⟨_, _, _, h, _⟩ := h; exact ⟨_, _, _, h⟩
  · exact ⟨_, _, _, h⟩
  · obtain ⟨_, _, h, _⟩ := h; exact ⟨_, _, _, h⟩
  · obtain ⟨_, _, _, h, _⟩ := h; exact ⟨_, _, _, h⟩
  · exact ⟨_, _, _, h.2⟩
  · exact ⟨_, _, _, h.2⟩
  · exact ⟨_, _, _, h.2⟩
  · obtain ⟨_, _, h, _⟩ := h; exact ⟨_, _, _, h⟩
  · obtain ⟨_, _, _, h, _⟩ := h; exact ⟨_, _, _, h⟩
  · exact ⟨_, _, _, h.2⟩
theorem below_alloc' (w : World) (o : Obj) : Below w.heap.size w (w.alloc o) := by go_grown
theorem dEnded {W D k : Int} {B : Nat} {w0 w : World} {wb : Nat} {cs : Array Value} {bx : List (Nat × Value × TypeId)} {l : List Ast} {s : WS} (hp : pcOk s.pc ∨ s.pc = 99) (hk : WkIs W D k B wb s cs bx) {A : Ast} (hO : Own w0 w (A :: walkA wb cs bx :: l)) :
    Calls Try.prog 33 #[.pointer (some ⟨wb, 0, none⟩)] w fun e w' => e = .returned (.bool (s.pc == 99)) ∧ w = w' := by
  obtain ⟨a, nv, rfl, hnx, hno⟩ := hk
  rcases hp with hp | hp
  · obtain ⟨fn, fa, fb, rfl⟩ := nxt_func hp hnx
    rw [show (s.pc == 99) = false by unfold pcOk at hp; simp; omega]
    exact dEndedN' hO
  · rw [hp] at hnx
    obtain rfl : nv = .nilFunc := hnx
    rw [hp]
    exact dEndedY' hO
/-- What a walk got. -/
def gotV (s : WS) : Int × Bool := if s.pc = 99 ∧ s.got = true then (s.x, true) else (0, false)
theorem dGot {W D k : Int} {B : Nat} {w0 w : World} {wb : Nat} {cs : Array Value} {bx : List (Nat × Value × TypeId)} {l : List Ast} {s : WS} (hp : pcOk s.pc ∨ s.pc = 99) (hk : WkIs W D k B wb s cs bx) {A : Ast} (hO : Own w0 w (A :: walkA wb cs bx :: l)) :
    Calls Try.prog 25 #[.pointer (some ⟨wb, 0, none⟩)] w fun e w' => e = .returned (.tuple #[.int .i64 (gotV s).1, .bool (gotV s).2]) ∧ w = w' := by
  have EN := Lib.hid (dEnded hp hk hO)
  obtain ⟨a, nv, rfl, hnx, hno⟩ := hk
  have y6 := hO.w6.1
  have y11 := hO.w11.1
  clear hO hno hnx hp
  obtain ⟨pc, t, x, h, n, got, full⟩ := s
  unfold gotV
  dsimp only at *
  by_cases h9 : pc = 99
  · subst h9
    cases got with
    | true =>
      go_enter Try.func25, Try.ntmps25
      go_wp2_with (go_at_call 33; refine EN.out.mono ?_; rintro e w1 ⟨rfl, rfl⟩)
      go_ret2
      exact ⟨rfl, rfl⟩
    | false =>
      go_enter Try.func25, Try.ntmps25
      go_wp2_with (go_at_call 33; refine EN.out.mono ?_; rintro e w1 ⟨rfl, rfl⟩)
      go_ret2
      exact ⟨rfl, rfl⟩
  · have hb : (pc == 99) = false := by simpa using h9
    rw [if_neg (by rintro ⟨h1, _⟩; exact h9 h1)]
    clear h9
    go_enter Try.func25, Try.ntmps25
    go_wp2_with (go_at_call 33; refine EN.out.mono ?_; rintro e w1 ⟨rfl, rfl⟩)
    go_ret2
    exact ⟨rfl, rfl⟩
theorem dFull {W D k : Int} {B : Nat} {w0 w : World} {wb : Nat} {cs : Array Value} {bx : List (Nat × Value × TypeId)} {l : List Ast} {s : WS} (hk : WkIs W D k B wb s cs bx) {A : Ast} (hO : Own w0 w (A :: walkA wb cs bx :: l)) :
    Calls Try.prog 29 #[.pointer (some ⟨wb, 0, none⟩)] w fun e w' => e = .returned (.bool s.full) ∧ w = w' := by
  obtain ⟨a, nv, rfl, hnx, hno⟩ := hk
  have y12 := hO.w12.1
  clear hO hno hnx
  obtain ⟨pc, t, x, h, n, got, full⟩ := s
  dsimp only at *
  go_enter Try.func29, Try.ntmps29
  go_wp2
  go_ret
  exact ⟨rfl, rfl⟩
theorem dTail {W D k : Int} {B : Nat} {w0 w : World} {wb : Nat} {cs : Array Value} {bx : List (Nat × Value × TypeId)} {l : List Ast} {s : WS} (hk : WkIs W D k B wb s cs bx) {A : Ast} (hO : Own w0 w (A :: walkA wb cs bx :: l)) :
    Calls Try.prog 26 #[.pointer (some ⟨wb, 0, none⟩)] w fun e w' => e = .returned (.int .i64 s.t) ∧ w = w' := by
  obtain ⟨a, nv, rfl, hnx, hno⟩ := hk
  have y5 := hO.w5.1
  clear hO hno hnx
  obtain ⟨pc, t, x, h, n, got, full⟩ := s
  dsimp only at *
  go_enter Try.func26, Try.ntmps26
  go_wp2
  go_ret
  exact ⟨rfl, rfl⟩
theorem dEnded_nil (w : World) : Calls Try.prog 33 #[.pointer none] w fun e w' => e = .returned (.bool true) ∧ w = w' := by
  go_enter Try.func33, Try.ntmps33
  go_wp2
  go_ret
  exact ⟨rfl, rfl⟩
theorem dStep_nil (v : Value) (w : World) : Calls Try.prog 34 #[.pointer none, v] w fun e w' => e = .returned (.bool true) ∧ w = w' := by
  go_enter Try.func34, Try.ntmps34
  go_wp2_with (go_at_call 33; refine (dEnded_nil _).mono ?_; rintro e w1 ⟨rfl, rfl⟩)
  go_ret
  exact ⟨rfl, rfl⟩
theorem dGot_nil (w : World) : Calls Try.prog 25 #[.pointer none] w fun e w' => e = .returned (.tuple #[.int .i64 0, .bool false]) ∧ w = w' := by
  go_enter Try.func25, Try.ntmps25
  go_wp2_with (go_at_call 33; refine (dEnded_nil _).mono ?_; rintro e w1 ⟨rfl, rfl⟩)
  go_ret2
  exact ⟨rfl, rfl⟩
theorem dFull_nil (w : World) : Calls Try.prog 29 #[.pointer none] w fun e w' => e = .returned (.bool false) ∧ w = w' := by
  go_enter Try.func29, Try.ntmps29
  go_wp2
  go_ret
  exact ⟨rfl, rfl⟩
theorem dTail_nil (w : World) : Calls Try.prog 26 #[.pointer none] w fun e w' => e = .returned (.int .i64 0) ∧ w = w' := by
  go_enter Try.func26, Try.ntmps26
  go_wp2
  go_ret
  exact ⟨rfl, rfl⟩
/-- A new walk. -/
theorem Own.newWalk {w0 w : World} {l : List Ast} (h : Own w0 w l) (cs : Array Value) : Own w0 (w.alloc (.cells cs 86)) (walkA w.heap.size cs [] :: l) :=
  (h.push (below_alloc' w _) (walkA w.heap.size cs []) ⟨alloc_new _ _, by simp⟩ (fun k hk => by rcases hk with rfl | ⟨p, hp, _⟩; exact Nat.le_refl _; cases hp)).pm (List.perm_append_comm (l₁ := l) (l₂ := [_]))
theorem dWalk (W D k t : Int) {w0 w : World} {l : List Ast} (h : Own w0 w l) :
    Calls Try.prog 47 #[.agg #[.int .i64 W, .int .i64 1, .int .i64 1, .int .i64 D], .int .i64 k, .int .i64 t] w fun e w' => ∃ wb, e = .returned (.pointer (some ⟨wb, 0, none⟩)) ∧ Own w0 w' (walkA wb (wcs W D k (furthest t) 0 0 0 0 .nilFunc false false) [] :: l) := by
  have h1 := (h.alloc (.cells #[.int .i64 W, .int .i64 1, .int .i64 1, .int .i64 D] 43)).newWalk (wcs W D k (furthest t) 0 0 0 0 .nilFunc false false)
  rw [alloc_sz] at h1
  replace h1 := Lib.hid h1
  unfold furthest at *
  clear h
  go_enter Try.func47, Try.ntmps47
  go_wp2
  go_ret
  exact ⟨_, rfl, h1.out⟩
theorem dPop (W D k : Int) (B : Nat) (t : Int) {w0 w : World} {l : List Ast} (h : Own w0 w l) :
    Calls Try.prog 23 #[.agg #[.int .i64 W, .int .i64 1, .int .i64 1, .int .i64 D], .int .i64 k, .int .i64 t] w fun e w' => ∃ wb cs bx, e = .returned (.pointer (some ⟨wb, 0, none⟩)) ∧ WkIs W D k B wb (pop0 t) cs bx ∧ Own w0 w' (walkA wb cs bx :: l) := by
  have hmf : ∀ (fn : Fn) (first cap : Array Value) (w : World), (Instr.makeFunc fn first cap).run Try.prog w = .ok (.func fn first cap) w := fun _ _ _ _ => rfl
  have h1 := h.alloc (.cells #[.int .i64 W, .int .i64 1, .int .i64 1, .int .i64 D] 43)
  have WK := Lib.hid (dWalk W D k t h1)
  have NX := Lib.hid (fun (w' : World) (wb : Nat) (h' : Own w0 w' (walkA wb (wcs W D k (furthest t) 0 0 0 0 .nilFunc false false) [] :: l)) => And.intro (h'.wget 0 rfl 10) (show Own w0 (w'.setCell ⟨wb, 10, none⟩ (.func (.func 48) #[.pointer (some ⟨wb, 0, none⟩)] #[])) (walkA wb (wcs W D k (furthest t) 0 0 0 0 (.func (.func 48) #[.pointer (some ⟨wb, 0, none⟩)] #[]) false false) [] :: l) from h'.wset 0 rfl (by simp) 10 _))
  clear h h1
  go_enter Try.func23, Try.ntmps23
  go_wp2_with (go_at_call 47; refine WK.out.mono ?_; rintro e w1 ⟨wb, rfl, h1⟩; obtain ⟨⟨y10, z10⟩, h2⟩ := NX.out _ _ h1; replace h2 := Lib.hid h2; simp [wcs] at y10; clear h1)
  go_ret
  exact ⟨wb, _, [], rfl, ⟨0, _, rfl, rfl, by simp⟩, h2.out⟩
theorem dPush (W D k : Int) (B : Nat) (t x : Int) {w0 w : World} {l : List Ast} (h : Own w0 w l) :
    Calls Try.prog 28 #[.agg #[.int .i64 W, .int .i64 1, .int .i64 1, .int .i64 D], .int .i64 k, .int .i64 t, .int .i64 x] w fun e w' => ∃ wb cs bx, e = .returned (.pointer (some ⟨wb, 0, none⟩)) ∧ WkIs W D k B wb (push0 t x) cs bx ∧ Own w0 w' (walkA wb cs bx :: l) := by
  have hmf : ∀ (fn : Fn) (first cap : Array Value) (w : World), (Instr.makeFunc fn first cap).run Try.prog w = .ok (.func fn first cap) w := fun _ _ _ _ => rfl
  have h1 := h.alloc (.cells #[.int .i64 W, .int .i64 1, .int .i64 1, .int .i64 D] 43)
  have WK := Lib.hid (dWalk W D k t h1)
  have NX := Lib.hid (fun (w' : World) (wb : Nat) (h' : Own w0 w' (walkA wb (wcs W D k (furthest t) 0 0 0 0 .nilFunc false false) [] :: l)) => And.intro (And.intro (h'.wget 0 rfl 10) (h'.wget 0 rfl 6)) (show Own w0 ((w'.setCell ⟨wb, 6, none⟩ (.int .i64 x)).setCell ⟨wb, 10, none⟩ (.func (.func 51) #[.pointer (some ⟨wb, 0, none⟩)] #[])) (walkA wb (wcs W D k (furthest t) x 0 0 0 (.func (.func 51) #[.pointer (some ⟨wb, 0, none⟩)] #[]) false false) [] :: l) from (h'.wset 0 rfl (by simp) 6 (.int .i64 x)).wset 0 rfl (by simp) 10 _))
  clear h h1
  go_enter Try.func28, Try.ntmps28
  go_wp2_with (go_at_call 47; refine WK.out.mono ?_; rintro e w1 ⟨wb, rfl, h1⟩; obtain ⟨⟨⟨y10, z10⟩, ⟨y6, z6⟩⟩, h2⟩ := NX.out _ _ h1; replace h2 := Lib.hid h2; simp [wcs] at y10 y6; clear h1)
  go_ret
  exact ⟨wb, _, [], rfl, ⟨0, _, rfl, rfl, by simp⟩, h2.out⟩
theorem dSteal (W D k : Int) (B : Nat) {w0 w : World} {A : Ast} {l : List Ast} (h : Own w0 w (A :: l)) :
    Calls Try.prog 27 #[.agg #[.int .i64 W, .int .i64 1, .int .i64 1, .int .i64 D], .int .i64 k] w fun e w' => ∃ wb cs bx, e = .returned (.pointer (some ⟨wb, 0, none⟩)) ∧ WkIs W D k B wb steal0 cs bx ∧ Own w0 w' (walkA wb cs bx :: A :: l) := by
  have hmf : ∀ (fn : Fn) (first cap : Array Value) (w : World), (Instr.makeFunc fn first cap).run Try.prog w = .ok (.func fn first cap) w := fun _ _ _ _ => rfl
  have h1 := h.alloc (.cells #[.int .i64 W, .int .i64 1, .int .i64 1, .int .i64 D] 43)
  have WK := Lib.hid (dWalk W D k 0 h1)
  have AS := Lib.hid (fun (w' : World) (wb : Nat) (h' : Own w0 w' (walkA wb (wcs W D k (furthest 0) 0 0 0 0 .nilFunc false false) [] :: A :: l)) => dasks' (fn := .func 50) (fa := #[.pointer (some ⟨wb, 0, none⟩)]) (fb := #[]) (h'.pm (List.Perm.swap ..)) (by simp))
  have NX := Lib.hid (fun (w' : World) (wb q1 q2 : Nat) (n1 : q1 ≠ wb) (n2 : q2 ≠ wb) (h' : Own w0 w' (A :: walkA wb (wcs W D k (furthest 0) 0 0 0 0 .nilFunc false false) ([] ++ [(q1, .pointer (some ⟨wb, 0, none⟩), 46), (q2, .func (.func 50) #[.pointer (some ⟨wb, 0, none⟩)] #[], 82)]) :: l)) => And.intro (h'.wget 1 rfl 10) (show Own w0 (w'.setCell ⟨wb, 10, none⟩ (.func (.func 61) #[] #[.pointer (some ⟨q1, 0, none⟩), .pointer (some ⟨q2, 0, none⟩)])) (A :: walkA wb (wcs W D k (furthest 0) 0 0 0 0 (.func (.func 61) #[] #[.pointer (some ⟨q1, 0, none⟩), .pointer (some ⟨q2, 0, none⟩)]) false false) ([] ++ [(q1, .pointer (some ⟨wb, 0, none⟩), 46), (q2, .func (.func 50) #[.pointer (some ⟨wb, 0, none⟩)] #[], 82)]) :: l) from h'.wset 1 rfl (more_no (by simp) n1 n2) 10 _))
  clear h h1
  go_enter Try.func27, Try.ntmps27
  go_wp2_with (first | (go_at_call 47; refine WK.out.mono ?_; rintro e w1 ⟨wb, rfl, h1⟩) | (go_at_call 49; refine (AS.out _ _ h1).mono ?_; rintro e w2 ⟨q1, q2, rfl, h2, n1, n2⟩; obtain ⟨⟨y10, z10⟩, h3⟩ := NX.out _ _ _ _ n1 n2 h2; replace h3 := Lib.hid h3; simp [wcs] at y10; clear h1 h2))
  go_ret
  exact ⟨wb, _, _, rfl, ⟨0, _, rfl, ⟨q1, q2, rfl, by simp, by simp⟩, more_no (by simp) n1 n2⟩, h3.out.pm (List.Perm.swap ..)⟩
end Go.Proofs.Ytofnjapgacgdlaa
