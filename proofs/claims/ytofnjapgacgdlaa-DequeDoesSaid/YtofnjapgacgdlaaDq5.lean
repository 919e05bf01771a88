/- Package deque: a walk's step. -/
import Derived.Test.YtofnjapgacgdlaaDq4
set_option linter.unusedVariables false
set_option linter.unusedSimpArgs false
namespace Go.Proofs.Ytofnjapgacgdlaa
open Go.RowKit
set_option maxRecDepth 100000
set_option maxHeartbeats 8000000
/-- What comes next. -/
def nxt (wb B pc : Nat) (a : Int) (bx : List (Nat × Value × TypeId)) (nv : Value) : Prop :=
  match pc with
  | 0 => nv = .func (.func 51) #[.pointer (some ⟨wb, 0, none⟩)] #[]
  | 1 => nv = .func (.func 68) #[.pointer (some ⟨wb, 0, none⟩)] #[]
  | 2 => nv = .func (.func 79) #[.pointer (some ⟨wb, 0, none⟩)] #[]
  | 10 => nv = .func (.func 48) #[.pointer (some ⟨wb, 0, none⟩)] #[]
  | 11 => nv = .func (.func 60) #[.pointer (some ⟨wb, 0, none⟩)] #[]
  | 12 => nv = .func (.func 74) #[.pointer (some ⟨wb, 0, none⟩)] #[]
  | 13 => ∃ q1 q2, nv = .func (.func 61) #[] #[.pointer (some ⟨q1, 0, none⟩), .pointer (some ⟨q2, 0, none⟩)] ∧ (q1, .pointer (some ⟨wb, 0, none⟩), 46) ∈ bx ∧ (q2, .func (.func 81) #[.pointer (some ⟨wb, 0, none⟩)] #[], 82) ∈ bx
  | 14 => a = ((B + 2 : Nat) : Int) ∧ ∃ q1 q2, nv = .func (.func 63) #[] #[.pointer (some ⟨q1, 0, none⟩), .pointer (some ⟨q2, 0, none⟩)] ∧ (q1, .pointer (some ⟨wb, 0, none⟩), 46) ∈ bx ∧ (q2, .func (.func 81) #[.pointer (some ⟨wb, 0, none⟩)] #[], 82) ∈ bx
  | 15 => a = ((B + 2 : Nat) : Int) ∧ nv = .func (.func 81) #[.pointer (some ⟨wb, 0, none⟩)] #[]
  | 16 => a = ((B + 2 : Nat) : Int) ∧ nv = .func (.func 86) #[.pointer (some ⟨wb, 0, none⟩)] #[]
  | 17 => a = ((B + 2 : Nat) : Int) ∧ ∃ q1 q2, nv = .func (.func 87) #[] #[.pointer (some ⟨q1, 0, none⟩), .pointer (some ⟨q2, 0, none⟩)] ∧ (q1, .pointer (some ⟨wb, 0, none⟩), 46) ∈ bx ∧ (q2, .func (.func 73) #[.pointer (some ⟨wb, 0, none⟩)] #[], 82) ∈ bx
  | 18 => a = ((B + 2 : Nat) : Int) ∧ ∃ q0, nv = .func (.func 89) #[] #[.pointer (some ⟨q0, 0, none⟩)] ∧ (q0, .pointer (some ⟨wb, 0, none⟩), 46) ∈ bx
  | 19 => a = ((B + 2 : Nat) : Int) ∧ ∃ q1 q2, nv = .func (.func 87) #[] #[.pointer (some ⟨q1, 0, none⟩), .pointer (some ⟨q2, 0, none⟩)] ∧ (q1, .pointer (some ⟨wb, 0, none⟩), 46) ∈ bx ∧ (q2, .nilFunc, 82) ∈ bx
  | 20 => nv = .func (.func 73) #[.pointer (some ⟨wb, 0, none⟩)] #[]
  | 30 => ∃ q1 q2, nv = .func (.func 61) #[] #[.pointer (some ⟨q1, 0, none⟩), .pointer (some ⟨q2, 0, none⟩)] ∧ (q1, .pointer (some ⟨wb, 0, none⟩), 46) ∈ bx ∧ (q2, .func (.func 50) #[.pointer (some ⟨wb, 0, none⟩)] #[], 82) ∈ bx
  | 31 => a = ((B + 2 : Nat) : Int) ∧ ∃ q1 q2, nv = .func (.func 63) #[] #[.pointer (some ⟨q1, 0, none⟩), .pointer (some ⟨q2, 0, none⟩)] ∧ (q1, .pointer (some ⟨wb, 0, none⟩), 46) ∈ bx ∧ (q2, .func (.func 50) #[.pointer (some ⟨wb, 0, none⟩)] #[], 82) ∈ bx
  | 32 => a = ((B + 2 : Nat) : Int) ∧ nv = .func (.func 50) #[.pointer (some ⟨wb, 0, none⟩)] #[]
  | 33 => a = ((B + 2 : Nat) : Int) ∧ nv = .func (.func 66) #[.pointer (some ⟨wb, 0, none⟩)] #[]
  | 34 => a = ((B + 2 : Nat) : Int) ∧ nv = .func (.func 77) #[.pointer (some ⟨wb, 0, none⟩)] #[]
  | 35 => a = ((B + 2 : Nat) : Int) ∧ ∃ q0, nv = .func (.func 83) #[] #[.pointer (some ⟨q0, 0, none⟩)] ∧ (q0, .pointer (some ⟨wb, 0, none⟩), 46) ∈ bx
  | 36 => a = ((B + 2 : Nat) : Int) ∧ ∃ q1 q2, nv = .func (.func 87) #[] #[.pointer (some ⟨q1, 0, none⟩), .pointer (some ⟨q2, 0, none⟩)] ∧ (q1, .pointer (some ⟨wb, 0, none⟩), 46) ∈ bx ∧ (q2, .nilFunc, 82) ∈ bx
  | 37 => a = ((B + 2 : Nat) : Int) ∧ nv = .func (.func 82) #[.pointer (some ⟨wb, 0, none⟩)] #[]
  | _ => nv = .nilFunc
/-- A walk's cells, and the boxes that its closures keep. -/
def WkIs (W D k : Int) (B wb : Nat) (s : WS) (cs : Array Value) (bx : List (Nat × Value × TypeId)) : Prop :=
  ∃ a nv, cs = wcs W D k s.t s.x s.h a s.n nv s.got s.full ∧ nxt wb B s.pc a bx nv ∧ ∀ p ∈ bx, p.1 ≠ wb
def StepP (W D k : Int) (B : Nat) (ms : List Int) (w0 : World) (g b wb : Nat) (l : List Ast) (s : WS) (e : Ending) (w' : World) : Prop :=
  e = .returned (.bool ((stepW B D s ms).1.pc == 99)) ∧ ∃ cs' bx', WkIs W D k B wb (stepW B D s ms).1 cs' bx' ∧ Own w0 w' (storeA g b (stepW B D s ms).2 :: walkA wb cs' bx' :: l)
theorem dStep0y {W D k : Int} {B : Nat} {ms : List Int} (c : Cf W D k B ms.length) {w0 w : World} {g b wb : Nat} {cs : Array Value} {bx : List (Nat × Value × TypeId)} {l : List Ast} {t x h n : Int} {got full : Bool} (hk : WkIs W D k B wb ⟨0, t, x, h, n, got, full⟩ cs bx) (hO : Own w0 w (storeA g b ms :: walkA wb cs bx :: l)) (hc : D - 1 ≤ wrap64 (t - ms.getD B 0)) :
    Calls Try.prog 34 #[.pointer (some ⟨wb, 0, none⟩), .pointer (some ⟨g, 0, none⟩)] w (StepP W D k B ms w0 g b wb l ⟨0, t, x, h, n, got, full⟩) := by
  unfold StepP
  rw [st0y _ _ _ _ _ _ _ _ _ hc]
  obtain ⟨a, nv, rfl, hnx, hno⟩ := hk
  obtain ⟨⟩ := hnx
  skip
  have M := Lib.hid (mRoomY c hO hno _ _ rfl rfl hc)
  have E0 := Lib.hid (dEndedN hO)
  have y10 := hO.w10.1
  clear hO
  replace hno := Lib.hid hno
  skip
  skip
  go_enter Try.func34, Try.ntmps34
  go_wp2_with (first | (go_at_call 33; first | (refine E0.out.mono ?_; rintro e w1 ⟨rfl, rfl⟩) | (refine (dEndedY h1).mono ?_; rintro e w3 ⟨rfl, rfl⟩)) | (go_at_call 51; refine M.out.mono ?_; rintro e w2 ⟨rfl, h1⟩))
  go_ret
  exact ⟨rfl, _, _, ⟨_, _, rfl, rfl, hno.out⟩, h1⟩
theorem dStep0n {W D k : Int} {B : Nat} {ms : List Int} (c : Cf W D k B ms.length) {w0 w : World} {g b wb : Nat} {cs : Array Value} {bx : List (Nat × Value × TypeId)} {l : List Ast} {t x h n : Int} {got full : Bool} (hk : WkIs W D k B wb ⟨0, t, x, h, n, got, full⟩ cs bx) (hO : Own w0 w (storeA g b ms :: walkA wb cs bx :: l)) (hc : ¬ D - 1 ≤ wrap64 (t - ms.getD B 0)) :
    Calls Try.prog 34 #[.pointer (some ⟨wb, 0, none⟩), .pointer (some ⟨g, 0, none⟩)] w (StepP W D k B ms w0 g b wb l ⟨0, t, x, h, n, got, full⟩) := by
  unfold StepP
  rw [st0n _ _ _ _ _ _ _ _ _ hc]
  obtain ⟨a, nv, rfl, hnx, hno⟩ := hk
  obtain ⟨⟩ := hnx
  skip
  have M := Lib.hid (mRoomN c hO hno _ _ rfl rfl hc)
  have E0 := Lib.hid (dEndedN hO)
  have y10 := hO.w10.1
  clear hO
  replace hno := Lib.hid hno
  skip
  skip
  go_enter Try.func34, Try.ntmps34
  go_wp2_with (first | (go_at_call 33; first | (refine E0.out.mono ?_; rintro e w1 ⟨rfl, rfl⟩) | (refine (dEndedN h1).mono ?_; rintro e w3 ⟨rfl, rfl⟩)) | (go_at_call 51; refine M.out.mono ?_; rintro e w2 ⟨rfl, h1⟩))
  go_ret
  exact ⟨rfl, _, _, ⟨_, _, rfl, rfl, hno.out⟩, h1⟩
theorem dStep1 {W D k : Int} {B : Nat} {ms : List Int} (c : Cf W D k B ms.length) {w0 w : World} {g b wb : Nat} {cs : Array Value} {bx : List (Nat × Value × TypeId)} {l : List Ast} {t x h n : Int} {got full : Bool} (hk : WkIs W D k B wb ⟨1, t, x, h, n, got, full⟩ cs bx) (hO : Own w0 w (storeA g b ms :: walkA wb cs bx :: l)) :
    Calls Try.prog 34 #[.pointer (some ⟨wb, 0, none⟩), .pointer (some ⟨g, 0, none⟩)] w (StepP W D k B ms w0 g b wb l ⟨1, t, x, h, n, got, full⟩) := by
  unfold StepP
  rw [st1 _ _ _ _ _ _ _ _ _]
  obtain ⟨a, nv, rfl, hnx, hno⟩ := hk
  obtain ⟨⟩ := hnx
  skip
  have M := Lib.hid (mLay c hO hno)
  have E0 := Lib.hid (dEndedN hO)
  have y10 := hO.w10.1
  clear hO
  replace hno := Lib.hid hno
  skip
  skip
  go_enter Try.func34, Try.ntmps34
  go_wp2_with (first | (go_at_call 33; first | (refine E0.out.mono ?_; rintro e w1 ⟨rfl, rfl⟩) | (refine (dEndedN h1).mono ?_; rintro e w3 ⟨rfl, rfl⟩)) | (go_at_call 68; refine M.out.mono ?_; rintro e w2 ⟨rfl, h1⟩))
  go_ret
  exact ⟨rfl, _, _, ⟨_, _, rfl, rfl, hno.out⟩, h1⟩
theorem dStep2 {W D k : Int} {B : Nat} {ms : List Int} (c : Cf W D k B ms.length) {w0 w : World} {g b wb : Nat} {cs : Array Value} {bx : List (Nat × Value × TypeId)} {l : List Ast} {t x h n : Int} {got full : Bool} (hk : WkIs W D k B wb ⟨2, t, x, h, n, got, full⟩ cs bx) (hO : Own w0 w (storeA g b ms :: walkA wb cs bx :: l)) :
    Calls Try.prog 34 #[.pointer (some ⟨wb, 0, none⟩), .pointer (some ⟨g, 0, none⟩)] w (StepP W D k B ms w0 g b wb l ⟨2, t, x, h, n, got, full⟩) := by
  unfold StepP
  rw [st2 _ _ _ _ _ _ _ _ _]
  obtain ⟨a, nv, rfl, hnx, hno⟩ := hk
  obtain ⟨⟩ := hnx
  skip
  have M := Lib.hid (mGrow c hO hno _ rfl)
  have E0 := Lib.hid (dEndedN hO)
  have y10 := hO.w10.1
  clear hO
  replace hno := Lib.hid hno
  skip
  skip
  go_enter Try.func34, Try.ntmps34
  go_wp2_with (first | (go_at_call 33; first | (refine E0.out.mono ?_; rintro e w1 ⟨rfl, rfl⟩) | (refine (dEndedY h1).mono ?_; rintro e w3 ⟨rfl, rfl⟩)) | (go_at_call 79; refine M.out.mono ?_; rintro e w2 ⟨rfl, h1⟩))
  go_ret
  exact ⟨rfl, _, _, ⟨_, _, rfl, rfl, hno.out⟩, h1⟩
theorem dStep10 {W D k : Int} {B : Nat} {ms : List Int} (c : Cf W D k B ms.length) {w0 w : World} {g b wb : Nat} {cs : Array Value} {bx : List (Nat × Value × TypeId)} {l : List Ast} {t x h n : Int} {got full : Bool} (hk : WkIs W D k B wb ⟨10, t, x, h, n, got, full⟩ cs bx) (hO : Own w0 w (storeA g b ms :: walkA wb cs bx :: l)) :
    Calls Try.prog 34 #[.pointer (some ⟨wb, 0, none⟩), .pointer (some ⟨g, 0, none⟩)] w (StepP W D k B ms w0 g b wb l ⟨10, t, x, h, n, got, full⟩) := by
  unfold StepP
  rw [st10 _ _ _ _ _ _ _ _ _]
  obtain ⟨a, nv, rfl, hnx, hno⟩ := hk
  obtain ⟨⟩ := hnx
  skip
  have M := Lib.hid (mLess c hO hno _ rfl)
  have E0 := Lib.hid (dEndedN hO)
  have y10 := hO.w10.1
  clear hO
  replace hno := Lib.hid hno
  skip
  skip
  go_enter Try.func34, Try.ntmps34
  go_wp2_with (first | (go_at_call 33; first | (refine E0.out.mono ?_; rintro e w1 ⟨rfl, rfl⟩) | (refine (dEndedN h1).mono ?_; rintro e w3 ⟨rfl, rfl⟩)) | (go_at_call 48; refine M.out.mono ?_; rintro e w2 ⟨rfl, h1⟩))
  go_ret
  exact ⟨rfl, _, _, ⟨_, _, rfl, rfl, hno.out⟩, h1⟩
theorem dStep11y {W D k : Int} {B : Nat} {ms : List Int} (c : Cf W D k B ms.length) {w0 w : World} {g b wb : Nat} {cs : Array Value} {bx : List (Nat × Value × TypeId)} {l : List Ast} {t x h n : Int} {got full : Bool} (hk : WkIs W D k B wb ⟨11, t, x, h, n, got, full⟩ cs bx) (hO : Own w0 w (storeA g b ms :: walkA wb cs bx :: l)) (hc : ms.getD B 0 ≤ wrap64 (t - 1)) :
    Calls Try.prog 34 #[.pointer (some ⟨wb, 0, none⟩), .pointer (some ⟨g, 0, none⟩)] w (StepP W D k B ms w0 g b wb l ⟨11, t, x, h, n, got, full⟩) := by
  unfold StepP
  rw [st11y _ _ _ _ _ _ _ _ _ hc]
  obtain ⟨a, nv, rfl, hnx, hno⟩ := hk
  obtain ⟨⟩ := hnx
  skip
  have M := Lib.hid (mLooksY c hO hno _ rfl _ rfl hc)
  have E0 := Lib.hid (dEndedN hO)
  have y10 := hO.w10.1
  clear hO
  replace hno := Lib.hid hno
  skip
  skip
  go_enter Try.func34, Try.ntmps34
  go_wp2_with (first | (go_at_call 33; first | (refine E0.out.mono ?_; rintro e w1 ⟨rfl, rfl⟩) | (refine (dEndedN h1).mono ?_; rintro e w3 ⟨rfl, rfl⟩)) | (go_at_call 60; refine M.out.mono ?_; rintro e w2 ⟨rfl, h1⟩))
  go_ret
  exact ⟨rfl, _, _, ⟨_, _, rfl, rfl, hno.out⟩, h1⟩
theorem dStep11n {W D k : Int} {B : Nat} {ms : List Int} (c : Cf W D k B ms.length) {w0 w : World} {g b wb : Nat} {cs : Array Value} {bx : List (Nat × Value × TypeId)} {l : List Ast} {t x h n : Int} {got full : Bool} (hk : WkIs W D k B wb ⟨11, t, x, h, n, got, full⟩ cs bx) (hO : Own w0 w (storeA g b ms :: walkA wb cs bx :: l)) (hc : ¬ ms.getD B 0 ≤ wrap64 (t - 1)) :
    Calls Try.prog 34 #[.pointer (some ⟨wb, 0, none⟩), .pointer (some ⟨g, 0, none⟩)] w (StepP W D k B ms w0 g b wb l ⟨11, t, x, h, n, got, full⟩) := by
  unfold StepP
  rw [st11n _ _ _ _ _ _ _ _ _ hc]
  obtain ⟨a, nv, rfl, hnx, hno⟩ := hk
  obtain ⟨⟩ := hnx
  skip
  have M := Lib.hid (mLooksN c hO hno _ rfl _ rfl hc)
  have E0 := Lib.hid (dEndedN hO)
  have y10 := hO.w10.1
  clear hO
  replace hno := Lib.hid hno
  skip
  skip
  go_enter Try.func34, Try.ntmps34
  go_wp2_with (first | (go_at_call 33; first | (refine E0.out.mono ?_; rintro e w1 ⟨rfl, rfl⟩) | (refine (dEndedN h1).mono ?_; rintro e w3 ⟨rfl, rfl⟩)) | (go_at_call 60; refine M.out.mono ?_; rintro e w2 ⟨rfl, h1⟩))
  go_ret
  exact ⟨rfl, _, _, ⟨_, _, rfl, rfl, hno.out⟩, h1⟩
theorem dStep12 {W D k : Int} {B : Nat} {ms : List Int} (c : Cf W D k B ms.length) {w0 w : World} {g b wb : Nat} {cs : Array Value} {bx : List (Nat × Value × TypeId)} {l : List Ast} {t x h n : Int} {got full : Bool} (hk : WkIs W D k B wb ⟨12, t, x, h, n, got, full⟩ cs bx) (hO : Own w0 w (storeA g b ms :: walkA wb cs bx :: l)) :
    Calls Try.prog 34 #[.pointer (some ⟨wb, 0, none⟩), .pointer (some ⟨g, 0, none⟩)] w (StepP W D k B ms w0 g b wb l ⟨12, t, x, h, n, got, full⟩) := by
  unfold StepP
  rw [st12 _ _ _ _ _ _ _ _ _]
  obtain ⟨a, nv, rfl, hnx, hno⟩ := hk
  obtain ⟨⟩ := hnx
  skip
  have M := Lib.hid (mRestores c hO hno)
  have E0 := Lib.hid (dEndedN hO)
  have y10 := hO.w10.1
  clear hO
  replace hno := Lib.hid hno
  skip
  skip
  go_enter Try.func34, Try.ntmps34
  go_wp2_with (first | (go_at_call 33; first | (refine E0.out.mono ?_; rintro e w1 ⟨rfl, rfl⟩) | (refine (dEndedN h1).mono ?_; rintro e w3 ⟨rfl, rfl⟩)) | (go_at_call 74; refine M.out.mono ?_; rintro e w2 ⟨rfl, q1, q2, h1, n1, n2⟩))
  go_ret
  exact ⟨rfl, _, _, ⟨_, _, rfl, ⟨q1, q2, rfl, (by simp), (by simp)⟩, more_no hno.out n1 n2⟩, h1⟩
theorem dStep13 {W D k : Int} {B : Nat} {ms : List Int} (c : Cf W D k B ms.length) {w0 w : World} {g b wb : Nat} {cs : Array Value} {bx : List (Nat × Value × TypeId)} {l : List Ast} {t x h n : Int} {got full : Bool} (hk : WkIs W D k B wb ⟨13, t, x, h, n, got, full⟩ cs bx) (hO : Own w0 w (storeA g b ms :: walkA wb cs bx :: l)) :
    Calls Try.prog 34 #[.pointer (some ⟨wb, 0, none⟩), .pointer (some ⟨g, 0, none⟩)] w (StepP W D k B ms w0 g b wb l ⟨13, t, x, h, n, got, full⟩) := by
  unfold StepP
  rw [st13 _ _ _ _ _ _ _ _ _]
  obtain ⟨a, nv, rfl, hnx, hno⟩ := hk
  obtain ⟨q1, q2, rfl, m1, m2⟩ := hnx
  skip
  have M := Lib.hid (mAsk (q2 := q2) c hO hno m1)
  have E0 := Lib.hid (dEndedN hO)
  have y10 := hO.w10.1
  clear hO
  replace hno := Lib.hid hno
  replace m1 := Lib.hid m1
  replace m2 := Lib.hid m2
  go_enter Try.func34, Try.ntmps34
  go_wp2_with (first | (go_at_call 33; first | (refine E0.out.mono ?_; rintro e w1 ⟨rfl, rfl⟩) | (refine (dEndedN h1).mono ?_; rintro e w3 ⟨rfl, rfl⟩)) | (go_at_call 61; refine M.out.mono ?_; rintro e w2 ⟨rfl, h1⟩))
  go_ret
  exact ⟨rfl, _, _, ⟨_, _, rfl, ⟨rfl, q1, q2, rfl, m1.out, m2.out⟩, hno.out⟩, h1⟩
theorem dStep14y {W D k : Int} {B : Nat} {ms : List Int} (c : Cf W D k B ms.length) {w0 w : World} {g b wb : Nat} {cs : Array Value} {bx : List (Nat × Value × TypeId)} {l : List Ast} {t x h n : Int} {got full : Bool} (hk : WkIs W D k B wb ⟨14, t, x, h, n, got, full⟩ cs bx) (hO : Own w0 w (storeA g b ms :: walkA wb cs bx :: l)) (hc : ms.getD (B + 3) 0 = n) :
    Calls Try.prog 34 #[.pointer (some ⟨wb, 0, none⟩), .pointer (some ⟨g, 0, none⟩)] w (StepP W D k B ms w0 g b wb l ⟨14, t, x, h, n, got, full⟩) := by
  unfold StepP
  rw [st14y _ _ _ _ _ _ _ _ _ hc]
  obtain ⟨a, nv, rfl, hnx, hno⟩ := hk
  obtain ⟨ha, q1, q2, rfl, m1, m2⟩ := hnx
  subst ha
  have M := Lib.hid (mMineY (a := 0) c hO hno m1 m2 hc)
  have E0 := Lib.hid (dEndedN hO)
  have y10 := hO.w10.1
  clear hO
  replace hno := Lib.hid hno
  replace m1 := Lib.hid m1
  replace m2 := Lib.hid m2
  go_enter Try.func34, Try.ntmps34
  go_wp2_with (first | (go_at_call 33; first | (refine E0.out.mono ?_; rintro e w1 ⟨rfl, rfl⟩) | (refine (dEndedN h1).mono ?_; rintro e w3 ⟨rfl, rfl⟩)) | (go_at_call 63; refine M.out.mono ?_; rintro e w2 ⟨rfl, h1⟩))
  go_ret
  exact ⟨rfl, _, _, ⟨_, _, rfl, ⟨rfl, rfl⟩, hno.out⟩, h1⟩
theorem dStep14n {W D k : Int} {B : Nat} {ms : List Int} (c : Cf W D k B ms.length) {w0 w : World} {g b wb : Nat} {cs : Array Value} {bx : List (Nat × Value × TypeId)} {l : List Ast} {t x h n : Int} {got full : Bool} (hk : WkIs W D k B wb ⟨14, t, x, h, n, got, full⟩ cs bx) (hO : Own w0 w (storeA g b ms :: walkA wb cs bx :: l)) (hc : ¬ ms.getD (B + 3) 0 = n) :
    Calls Try.prog 34 #[.pointer (some ⟨wb, 0, none⟩), .pointer (some ⟨g, 0, none⟩)] w (StepP W D k B ms w0 g b wb l ⟨14, t, x, h, n, got, full⟩) := by
  unfold StepP
  rw [st14n _ _ _ _ _ _ _ _ _ hc]
  obtain ⟨a, nv, rfl, hnx, hno⟩ := hk
  obtain ⟨ha, q1, q2, rfl, m1, m2⟩ := hnx
  subst ha
  have M := Lib.hid (mMineN (a := 0) c hO hno m1 m2 hc)
  have E0 := Lib.hid (dEndedN hO)
  have y10 := hO.w10.1
  clear hO
  replace hno := Lib.hid hno
  replace m1 := Lib.hid m1
  replace m2 := Lib.hid m2
  go_enter Try.func34, Try.ntmps34
  go_wp2_with (first | (go_at_call 33; first | (refine E0.out.mono ?_; rintro e w1 ⟨rfl, rfl⟩) | (refine (dEndedN h1).mono ?_; rintro e w3 ⟨rfl, rfl⟩)) | (go_at_call 63; refine M.out.mono ?_; rintro e w2 ⟨rfl, h1⟩))
  go_ret
  exact ⟨rfl, _, _, ⟨_, _, rfl, ⟨rfl, q1, q2, rfl, m1.out, m2.out⟩, hno.out⟩, h1⟩
theorem dStep15 {W D k : Int} {B : Nat} {ms : List Int} (c : Cf W D k B ms.length) {w0 w : World} {g b wb : Nat} {cs : Array Value} {bx : List (Nat × Value × TypeId)} {l : List Ast} {t x h n : Int} {got full : Bool} (hk : WkIs W D k B wb ⟨15, t, x, h, n, got, full⟩ cs bx) (hO : Own w0 w (storeA g b ms :: walkA wb cs bx :: l)) :
    Calls Try.prog 34 #[.pointer (some ⟨wb, 0, none⟩), .pointer (some ⟨g, 0, none⟩)] w (StepP W D k B ms w0 g b wb l ⟨15, t, x, h, n, got, full⟩) := by
  unfold StepP
  rw [st15 _ _ _ _ _ _ _ _ _]
  obtain ⟨a, nv, rfl, hnx, hno⟩ := hk
  obtain ⟨ha, rfl⟩ := hnx
  subst ha
  have M := Lib.hid (mLessAgain c hO hno _ rfl)
  have E0 := Lib.hid (dEndedN hO)
  have y10 := hO.w10.1
  clear hO
  replace hno := Lib.hid hno
  skip
  skip
  go_enter Try.func34, Try.ntmps34
  go_wp2_with (first | (go_at_call 33; first | (refine E0.out.mono ?_; rintro e w1 ⟨rfl, rfl⟩) | (refine (dEndedN h1).mono ?_; rintro e w3 ⟨rfl, rfl⟩)) | (go_at_call 81; refine M.out.mono ?_; rintro e w2 ⟨rfl, h1⟩))
  go_ret
  exact ⟨rfl, _, _, ⟨_, _, rfl, ⟨rfl, rfl⟩, hno.out⟩, h1⟩
theorem dStep16y {W D k : Int} {B : Nat} {ms : List Int} (c : Cf W D k B ms.length) {w0 w : World} {g b wb : Nat} {cs : Array Value} {bx : List (Nat × Value × TypeId)} {l : List Ast} {t x h n : Int} {got full : Bool} (hk : WkIs W D k B wb ⟨16, t, x, h, n, got, full⟩ cs bx) (hO : Own w0 w (storeA g b ms :: walkA wb cs bx :: l)) (hc : ms.getD B 0 ≤ wrap64 (t - 1)) :
    Calls Try.prog 34 #[.pointer (some ⟨wb, 0, none⟩), .pointer (some ⟨g, 0, none⟩)] w (StepP W D k B ms w0 g b wb l ⟨16, t, x, h, n, got, full⟩) := by
  unfold StepP
  rw [st16y _ _ _ _ _ _ _ _ _ hc]
  obtain ⟨a, nv, rfl, hnx, hno⟩ := hk
  obtain ⟨ha, rfl⟩ := hnx
  subst ha
  have M := Lib.hid (mLooksAgainY c hO hno _ rfl _ rfl hc)
  have E0 := Lib.hid (dEndedN hO)
  have y10 := hO.w10.1
  clear hO
  replace hno := Lib.hid hno
  skip
  skip
  go_enter Try.func34, Try.ntmps34
  go_wp2_with (first | (go_at_call 33; first | (refine E0.out.mono ?_; rintro e w1 ⟨rfl, rfl⟩) | (refine (dEndedN h1).mono ?_; rintro e w3 ⟨rfl, rfl⟩)) | (go_at_call 86; refine M.out.mono ?_; rintro e w2 ⟨rfl, q0, q1, q2, h1, n0, n1, n2⟩))
  go_ret
  exact ⟨rfl, _, _, ⟨_, _, rfl, ⟨rfl, q1, q2, rfl, (by simp), (by simp)⟩, more_no (one_no hno.out n0) n1 n2⟩, h1⟩
theorem dStep16n {W D k : Int} {B : Nat} {ms : List Int} (c : Cf W D k B ms.length) {w0 w : World} {g b wb : Nat} {cs : Array Value} {bx : List (Nat × Value × TypeId)} {l : List Ast} {t x h n : Int} {got full : Bool} (hk : WkIs W D k B wb ⟨16, t, x, h, n, got, full⟩ cs bx) (hO : Own w0 w (storeA g b ms :: walkA wb cs bx :: l)) (hc : ¬ ms.getD B 0 ≤ wrap64 (t - 1)) :
    Calls Try.prog 34 #[.pointer (some ⟨wb, 0, none⟩), .pointer (some ⟨g, 0, none⟩)] w (StepP W D k B ms w0 g b wb l ⟨16, t, x, h, n, got, full⟩) := by
  unfold StepP
  rw [st16n _ _ _ _ _ _ _ _ _ hc]
  obtain ⟨a, nv, rfl, hnx, hno⟩ := hk
  obtain ⟨ha, rfl⟩ := hnx
  subst ha
  have M := Lib.hid (mLooksAgainN c hO hno _ rfl _ rfl hc)
  have E0 := Lib.hid (dEndedN hO)
  have y10 := hO.w10.1
  clear hO
  replace hno := Lib.hid hno
  skip
  skip
  go_enter Try.func34, Try.ntmps34
  go_wp2_with (first | (go_at_call 33; first | (refine E0.out.mono ?_; rintro e w1 ⟨rfl, rfl⟩) | (refine (dEndedN h1).mono ?_; rintro e w3 ⟨rfl, rfl⟩)) | (go_at_call 86; refine M.out.mono ?_; rintro e w2 ⟨rfl, q0, h1, n0⟩))
  go_ret
  exact ⟨rfl, _, _, ⟨_, _, rfl, ⟨rfl, q0, rfl, (by simp)⟩, one_no hno.out n0⟩, h1⟩
theorem dStep17 {W D k : Int} {B : Nat} {ms : List Int} (c : Cf W D k B ms.length) {w0 w : World} {g b wb : Nat} {cs : Array Value} {bx : List (Nat × Value × TypeId)} {l : List Ast} {t x h n : Int} {got full : Bool} (hk : WkIs W D k B wb ⟨17, t, x, h, n, got, full⟩ cs bx) (hO : Own w0 w (storeA g b ms :: walkA wb cs bx :: l)) :
    Calls Try.prog 34 #[.pointer (some ⟨wb, 0, none⟩), .pointer (some ⟨g, 0, none⟩)] w (StepP W D k B ms w0 g b wb l ⟨17, t, x, h, n, got, full⟩) := by
  unfold StepP
  rw [st17 _ _ _ _ _ _ _ _ _]
  obtain ⟨a, nv, rfl, hnx, hno⟩ := hk
  obtain ⟨ha, q1, q2, rfl, m1, m2⟩ := hnx
  subst ha
  have M := Lib.hid (mLeave (a := 0) c hO hno m1 m2)
  have E0 := Lib.hid (dEndedN hO)
  have y10 := hO.w10.1
  clear hO
  replace hno := Lib.hid hno
  replace m1 := Lib.hid m1
  replace m2 := Lib.hid m2
  go_enter Try.func34, Try.ntmps34
  go_wp2_with (first | (go_at_call 33; first | (refine E0.out.mono ?_; rintro e w1 ⟨rfl, rfl⟩) | (refine (dEndedN h1).mono ?_; rintro e w3 ⟨rfl, rfl⟩)) | (go_at_call 87; refine M.out.mono ?_; rintro e w2 ⟨rfl, h1⟩))
  go_ret
  exact ⟨rfl, _, _, ⟨_, _, rfl, rfl, hno.out⟩, h1⟩
theorem dStep18 {W D k : Int} {B : Nat} {ms : List Int} (c : Cf W D k B ms.length) {w0 w : World} {g b wb : Nat} {cs : Array Value} {bx : List (Nat × Value × TypeId)} {l : List Ast} {t x h n : Int} {got full : Bool} (hk : WkIs W D k B wb ⟨18, t, x, h, n, got, full⟩ cs bx) (hO : Own w0 w (storeA g b ms :: walkA wb cs bx :: l)) :
    Calls Try.prog 34 #[.pointer (some ⟨wb, 0, none⟩), .pointer (some ⟨g, 0, none⟩)] w (StepP W D k B ms w0 g b wb l ⟨18, t, x, h, n, got, full⟩) := by
  unfold StepP
  rw [st18 _ _ _ _ _ _ _ _ _]
  obtain ⟨a, nv, rfl, hnx, hno⟩ := hk
  obtain ⟨ha, q0, rfl, m1⟩ := hnx
  subst ha
  have M := Lib.hid (mBack c hO hno m1)
  have E0 := Lib.hid (dEndedN hO)
  have y10 := hO.w10.1
  clear hO
  replace hno := Lib.hid hno
  replace m1 := Lib.hid m1
  skip
  go_enter Try.func34, Try.ntmps34
  go_wp2_with (first | (go_at_call 33; first | (refine E0.out.mono ?_; rintro e w1 ⟨rfl, rfl⟩) | (refine (dEndedN h1).mono ?_; rintro e w3 ⟨rfl, rfl⟩)) | (go_at_call 89; refine M.out.mono ?_; rintro e w2 ⟨rfl, q1, q2, h1, n1, n2⟩))
  go_ret
  exact ⟨rfl, _, _, ⟨_, _, rfl, ⟨rfl, q1, q2, rfl, (by simp), (by simp)⟩, more_no hno.out n1 n2⟩, h1⟩
theorem dStep19 {W D k : Int} {B : Nat} {ms : List Int} (c : Cf W D k B ms.length) {w0 w : World} {g b wb : Nat} {cs : Array Value} {bx : List (Nat × Value × TypeId)} {l : List Ast} {t x h n : Int} {got full : Bool} (hk : WkIs W D k B wb ⟨19, t, x, h, n, got, full⟩ cs bx) (hO : Own w0 w (storeA g b ms :: walkA wb cs bx :: l)) :
    Calls Try.prog 34 #[.pointer (some ⟨wb, 0, none⟩), .pointer (some ⟨g, 0, none⟩)] w (StepP W D k B ms w0 g b wb l ⟨19, t, x, h, n, got, full⟩) := by
  unfold StepP
  rw [st19 _ _ _ _ _ _ _ _ _]
  obtain ⟨a, nv, rfl, hnx, hno⟩ := hk
  obtain ⟨ha, q1, q2, rfl, m1, m2⟩ := hnx
  subst ha
  have M := Lib.hid (mLeave0 (a := 0) c hO hno m1 m2)
  have E0 := Lib.hid (dEndedN hO)
  have y10 := hO.w10.1
  clear hO
  replace hno := Lib.hid hno
  replace m1 := Lib.hid m1
  replace m2 := Lib.hid m2
  go_enter Try.func34, Try.ntmps34
  go_wp2_with (first | (go_at_call 33; first | (refine E0.out.mono ?_; rintro e w1 ⟨rfl, rfl⟩) | (refine (dEndedY h1).mono ?_; rintro e w3 ⟨rfl, rfl⟩)) | (go_at_call 87; refine M.out.mono ?_; rintro e w2 ⟨rfl, h1⟩))
  go_ret
  exact ⟨rfl, _, _, ⟨_, _, rfl, rfl, hno.out⟩, h1⟩
theorem dStep20 {W D k : Int} {B : Nat} {ms : List Int} (c : Cf W D k B ms.length) {w0 w : World} {g b wb : Nat} {cs : Array Value} {bx : List (Nat × Value × TypeId)} {l : List Ast} {t x h n : Int} {got full : Bool} (hk : WkIs W D k B wb ⟨20, t, x, h, n, got, full⟩ cs bx) (hO : Own w0 w (storeA g b ms :: walkA wb cs bx :: l)) :
    Calls Try.prog 34 #[.pointer (some ⟨wb, 0, none⟩), .pointer (some ⟨g, 0, none⟩)] w (StepP W D k B ms w0 g b wb l ⟨20, t, x, h, n, got, full⟩) := by
  unfold StepP
  rw [st20 _ _ _ _ _ _ _ _ _]
  obtain ⟨a, nv, rfl, hnx, hno⟩ := hk
  obtain ⟨⟩ := hnx
  skip
  have M := Lib.hid (mTakes c hO hno _ rfl _ rfl)
  have E0 := Lib.hid (dEndedN hO)
  have y10 := hO.w10.1
  clear hO
  replace hno := Lib.hid hno
  skip
  skip
  go_enter Try.func34, Try.ntmps34
  go_wp2_with (first | (go_at_call 33; first | (refine E0.out.mono ?_; rintro e w1 ⟨rfl, rfl⟩) | (refine (dEndedY h1).mono ?_; rintro e w3 ⟨rfl, rfl⟩)) | (go_at_call 73; refine M.out.mono ?_; rintro e w2 ⟨rfl, h1⟩))
  go_ret
  exact ⟨rfl, _, _, ⟨_, _, rfl, rfl, hno.out⟩, h1⟩
theorem dStep30 {W D k : Int} {B : Nat} {ms : List Int} (c : Cf W D k B ms.length) {w0 w : World} {g b wb : Nat} {cs : Array Value} {bx : List (Nat × Value × TypeId)} {l : List Ast} {t x h n : Int} {got full : Bool} (hk : WkIs W D k B wb ⟨30, t, x, h, n, got, full⟩ cs bx) (hO : Own w0 w (storeA g b ms :: walkA wb cs bx :: l)) :
    Calls Try.prog 34 #[.pointer (some ⟨wb, 0, none⟩), .pointer (some ⟨g, 0, none⟩)] w (StepP W D k B ms w0 g b wb l ⟨30, t, x, h, n, got, full⟩) := by
  unfold StepP
  rw [st30 _ _ _ _ _ _ _ _ _]
  obtain ⟨a, nv, rfl, hnx, hno⟩ := hk
  obtain ⟨q1, q2, rfl, m1, m2⟩ := hnx
  skip
  have M := Lib.hid (mAsk (q2 := q2) c hO hno m1)
  have E0 := Lib.hid (dEndedN hO)
  have y10 := hO.w10.1
  clear hO
  replace hno := Lib.hid hno
  replace m1 := Lib.hid m1
  replace m2 := Lib.hid m2
  go_enter Try.func34, Try.ntmps34
  go_wp2_with (first | (go_at_call 33; first | (refine E0.out.mono ?_; rintro e w1 ⟨rfl, rfl⟩) | (refine (dEndedN h1).mono ?_; rintro e w3 ⟨rfl, rfl⟩)) | (go_at_call 61; refine M.out.mono ?_; rintro e w2 ⟨rfl, h1⟩))
  go_ret
  exact ⟨rfl, _, _, ⟨_, _, rfl, ⟨rfl, q1, q2, rfl, m1.out, m2.out⟩, hno.out⟩, h1⟩
theorem dStep31y {W D k : Int} {B : Nat} {ms : List Int} (c : Cf W D k B ms.length) {w0 w : World} {g b wb : Nat} {cs : Array Value} {bx : List (Nat × Value × TypeId)} {l : List Ast} {t x h n : Int} {got full : Bool} (hk : WkIs W D k B wb ⟨31, t, x, h, n, got, full⟩ cs bx) (hO : Own w0 w (storeA g b ms :: walkA wb cs bx :: l)) (hc : ms.getD (B + 3) 0 = n) :
    Calls Try.prog 34 #[.pointer (some ⟨wb, 0, none⟩), .pointer (some ⟨g, 0, none⟩)] w (StepP W D k B ms w0 g b wb l ⟨31, t, x, h, n, got, full⟩) := by
  unfold StepP
  rw [st31y _ _ _ _ _ _ _ _ _ hc]
  obtain ⟨a, nv, rfl, hnx, hno⟩ := hk
  obtain ⟨ha, q1, q2, rfl, m1, m2⟩ := hnx
  subst ha
  have M := Lib.hid (mMineY (a := 0) c hO hno m1 m2 hc)
  have E0 := Lib.hid (dEndedN hO)
  have y10 := hO.w10.1
  clear hO
  replace hno := Lib.hid hno
  replace m1 := Lib.hid m1
  replace m2 := Lib.hid m2
  go_enter Try.func34, Try.ntmps34
  go_wp2_with (first | (go_at_call 33; first | (refine E0.out.mono ?_; rintro e w1 ⟨rfl, rfl⟩) | (refine (dEndedN h1).mono ?_; rintro e w3 ⟨rfl, rfl⟩)) | (go_at_call 63; refine M.out.mono ?_; rintro e w2 ⟨rfl, h1⟩))
  go_ret
  exact ⟨rfl, _, _, ⟨_, _, rfl, ⟨rfl, rfl⟩, hno.out⟩, h1⟩
theorem dStep31n {W D k : Int} {B : Nat} {ms : List Int} (c : Cf W D k B ms.length) {w0 w : World} {g b wb : Nat} {cs : Array Value} {bx : List (Nat × Value × TypeId)} {l : List Ast} {t x h n : Int} {got full : Bool} (hk : WkIs W D k B wb ⟨31, t, x, h, n, got, full⟩ cs bx) (hO : Own w0 w (storeA g b ms :: walkA wb cs bx :: l)) (hc : ¬ ms.getD (B + 3) 0 = n) :
    Calls Try.prog 34 #[.pointer (some ⟨wb, 0, none⟩), .pointer (some ⟨g, 0, none⟩)] w (StepP W D k B ms w0 g b wb l ⟨31, t, x, h, n, got, full⟩) := by
  unfold StepP
  rw [st31n _ _ _ _ _ _ _ _ _ hc]
  obtain ⟨a, nv, rfl, hnx, hno⟩ := hk
  obtain ⟨ha, q1, q2, rfl, m1, m2⟩ := hnx
  subst ha
  have M := Lib.hid (mMineN (a := 0) c hO hno m1 m2 hc)
  have E0 := Lib.hid (dEndedN hO)
  have y10 := hO.w10.1
  clear hO
  replace hno := Lib.hid hno
  replace m1 := Lib.hid m1
  replace m2 := Lib.hid m2
  go_enter Try.func34, Try.ntmps34
  go_wp2_with (first | (go_at_call 33; first | (refine E0.out.mono ?_; rintro e w1 ⟨rfl, rfl⟩) | (refine (dEndedN h1).mono ?_; rintro e w3 ⟨rfl, rfl⟩)) | (go_at_call 63; refine M.out.mono ?_; rintro e w2 ⟨rfl, h1⟩))
  go_ret
  exact ⟨rfl, _, _, ⟨_, _, rfl, ⟨rfl, q1, q2, rfl, m1.out, m2.out⟩, hno.out⟩, h1⟩
theorem dStep32 {W D k : Int} {B : Nat} {ms : List Int} (c : Cf W D k B ms.length) {w0 w : World} {g b wb : Nat} {cs : Array Value} {bx : List (Nat × Value × TypeId)} {l : List Ast} {t x h n : Int} {got full : Bool} (hk : WkIs W D k B wb ⟨32, t, x, h, n, got, full⟩ cs bx) (hO : Own w0 w (storeA g b ms :: walkA wb cs bx :: l)) :
    Calls Try.prog 34 #[.pointer (some ⟨wb, 0, none⟩), .pointer (some ⟨g, 0, none⟩)] w (StepP W D k B ms w0 g b wb l ⟨32, t, x, h, n, got, full⟩) := by
  unfold StepP
  rw [st32 _ _ _ _ _ _ _ _ _]
  obtain ⟨a, nv, rfl, hnx, hno⟩ := hk
  obtain ⟨ha, rfl⟩ := hnx
  subst ha
  have M := Lib.hid (mFirst c hO hno _ rfl)
  have E0 := Lib.hid (dEndedN hO)
  have y10 := hO.w10.1
  clear hO
  replace hno := Lib.hid hno
  skip
  skip
  go_enter Try.func34, Try.ntmps34
  go_wp2_with (first | (go_at_call 33; first | (refine E0.out.mono ?_; rintro e w1 ⟨rfl, rfl⟩) | (refine (dEndedN h1).mono ?_; rintro e w3 ⟨rfl, rfl⟩)) | (go_at_call 50; refine M.out.mono ?_; rintro e w2 ⟨rfl, h1⟩))
  go_ret
  exact ⟨rfl, _, _, ⟨_, _, rfl, ⟨rfl, rfl⟩, hno.out⟩, h1⟩
theorem dStep33 {W D k : Int} {B : Nat} {ms : List Int} (c : Cf W D k B ms.length) {w0 w : World} {g b wb : Nat} {cs : Array Value} {bx : List (Nat × Value × TypeId)} {l : List Ast} {t x h n : Int} {got full : Bool} (hk : WkIs W D k B wb ⟨33, t, x, h, n, got, full⟩ cs bx) (hO : Own w0 w (storeA g b ms :: walkA wb cs bx :: l)) :
    Calls Try.prog 34 #[.pointer (some ⟨wb, 0, none⟩), .pointer (some ⟨g, 0, none⟩)] w (StepP W D k B ms w0 g b wb l ⟨33, t, x, h, n, got, full⟩) := by
  unfold StepP
  rw [st33 _ _ _ _ _ _ _ _ _]
  obtain ⟨a, nv, rfl, hnx, hno⟩ := hk
  obtain ⟨ha, rfl⟩ := hnx
  subst ha
  have M := Lib.hid (mClaims c hO hno _ rfl)
  have E0 := Lib.hid (dEndedN hO)
  have y10 := hO.w10.1
  clear hO
  replace hno := Lib.hid hno
  skip
  skip
  go_enter Try.func34, Try.ntmps34
  go_wp2_with (first | (go_at_call 33; first | (refine E0.out.mono ?_; rintro e w1 ⟨rfl, rfl⟩) | (refine (dEndedN h1).mono ?_; rintro e w3 ⟨rfl, rfl⟩)) | (go_at_call 66; refine M.out.mono ?_; rintro e w2 ⟨rfl, h1⟩))
  go_ret
  exact ⟨rfl, _, _, ⟨_, _, rfl, ⟨rfl, rfl⟩, hno.out⟩, h1⟩
theorem dStep34y {W D k : Int} {B : Nat} {ms : List Int} (c : Cf W D k B ms.length) {w0 w : World} {g b wb : Nat} {cs : Array Value} {bx : List (Nat × Value × TypeId)} {l : List Ast} {t x h n : Int} {got full : Bool} (hk : WkIs W D k B wb ⟨34, t, x, h, n, got, full⟩ cs bx) (hO : Own w0 w (storeA g b ms :: walkA wb cs bx :: l)) (hc : wrap64 (h + 1) ≤ ms.getD (B + 1) 0) :
    Calls Try.prog 34 #[.pointer (some ⟨wb, 0, none⟩), .pointer (some ⟨g, 0, none⟩)] w (StepP W D k B ms w0 g b wb l ⟨34, t, x, h, n, got, full⟩) := by
  unfold StepP
  rw [st34y _ _ _ _ _ _ _ _ _ hc]
  obtain ⟨a, nv, rfl, hnx, hno⟩ := hk
  obtain ⟨ha, rfl⟩ := hnx
  subst ha
  have M := Lib.hid (mFindsY c hO hno _ _ rfl rfl hc)
  have E0 := Lib.hid (dEndedN hO)
  have y10 := hO.w10.1
  clear hO
  replace hno := Lib.hid hno
  skip
  skip
  go_enter Try.func34, Try.ntmps34
  go_wp2_with (first | (go_at_call 33; first | (refine E0.out.mono ?_; rintro e w1 ⟨rfl, rfl⟩) | (refine (dEndedN h1).mono ?_; rintro e w3 ⟨rfl, rfl⟩)) | (go_at_call 77; refine M.out.mono ?_; rintro e w2 ⟨rfl, q0, h1, n0⟩))
  go_ret
  exact ⟨rfl, _, _, ⟨_, _, rfl, ⟨rfl, rfl⟩, one_no hno.out n0⟩, h1⟩
theorem dStep34n {W D k : Int} {B : Nat} {ms : List Int} (c : Cf W D k B ms.length) {w0 w : World} {g b wb : Nat} {cs : Array Value} {bx : List (Nat × Value × TypeId)} {l : List Ast} {t x h n : Int} {got full : Bool} (hk : WkIs W D k B wb ⟨34, t, x, h, n, got, full⟩ cs bx) (hO : Own w0 w (storeA g b ms :: walkA wb cs bx :: l)) (hc : ¬ wrap64 (h + 1) ≤ ms.getD (B + 1) 0) :
    Calls Try.prog 34 #[.pointer (some ⟨wb, 0, none⟩), .pointer (some ⟨g, 0, none⟩)] w (StepP W D k B ms w0 g b wb l ⟨34, t, x, h, n, got, full⟩) := by
  unfold StepP
  rw [st34n _ _ _ _ _ _ _ _ _ hc]
  obtain ⟨a, nv, rfl, hnx, hno⟩ := hk
  obtain ⟨ha, rfl⟩ := hnx
  subst ha
  have M := Lib.hid (mFindsN c hO hno _ _ rfl rfl hc)
  have E0 := Lib.hid (dEndedN hO)
  have y10 := hO.w10.1
  clear hO
  replace hno := Lib.hid hno
  skip
  skip
  go_enter Try.func34, Try.ntmps34
  go_wp2_with (first | (go_at_call 33; first | (refine E0.out.mono ?_; rintro e w1 ⟨rfl, rfl⟩) | (refine (dEndedN h1).mono ?_; rintro e w3 ⟨rfl, rfl⟩)) | (go_at_call 77; refine M.out.mono ?_; rintro e w2 ⟨rfl, q0, h1, n0⟩))
  go_ret
  exact ⟨rfl, _, _, ⟨_, _, rfl, ⟨rfl, q0, rfl, (by simp)⟩, one_no hno.out n0⟩, h1⟩
theorem dStep35 {W D k : Int} {B : Nat} {ms : List Int} (c : Cf W D k B ms.length) {w0 w : World} {g b wb : Nat} {cs : Array Value} {bx : List (Nat × Value × TypeId)} {l : List Ast} {t x h n : Int} {got full : Bool} (hk : WkIs W D k B wb ⟨35, t, x, h, n, got, full⟩ cs bx) (hO : Own w0 w (storeA g b ms :: walkA wb cs bx :: l)) :
    Calls Try.prog 34 #[.pointer (some ⟨wb, 0, none⟩), .pointer (some ⟨g, 0, none⟩)] w (StepP W D k B ms w0 g b wb l ⟨35, t, x, h, n, got, full⟩) := by
  unfold StepP
  rw [st35 _ _ _ _ _ _ _ _ _]
  obtain ⟨a, nv, rfl, hnx, hno⟩ := hk
  obtain ⟨ha, q0, rfl, m1⟩ := hnx
  subst ha
  have M := Lib.hid (mUnclaim c hO hno m1)
  have E0 := Lib.hid (dEndedN hO)
  have y10 := hO.w10.1
  clear hO
  replace hno := Lib.hid hno
  replace m1 := Lib.hid m1
  skip
  go_enter Try.func34, Try.ntmps34
  go_wp2_with (first | (go_at_call 33; first | (refine E0.out.mono ?_; rintro e w1 ⟨rfl, rfl⟩) | (refine (dEndedN h1).mono ?_; rintro e w3 ⟨rfl, rfl⟩)) | (go_at_call 83; refine M.out.mono ?_; rintro e w2 ⟨rfl, q1, q2, h1, n1, n2⟩))
  go_ret
  exact ⟨rfl, _, _, ⟨_, _, rfl, ⟨rfl, q1, q2, rfl, (by simp), (by simp)⟩, more_no hno.out n1 n2⟩, h1⟩
theorem dStep36 {W D k : Int} {B : Nat} {ms : List Int} (c : Cf W D k B ms.length) {w0 w : World} {g b wb : Nat} {cs : Array Value} {bx : List (Nat × Value × TypeId)} {l : List Ast} {t x h n : Int} {got full : Bool} (hk : WkIs W D k B wb ⟨36, t, x, h, n, got, full⟩ cs bx) (hO : Own w0 w (storeA g b ms :: walkA wb cs bx :: l)) :
    Calls Try.prog 34 #[.pointer (some ⟨wb, 0, none⟩), .pointer (some ⟨g, 0, none⟩)] w (StepP W D k B ms w0 g b wb l ⟨36, t, x, h, n, got, full⟩) := by
  unfold StepP
  rw [st36 _ _ _ _ _ _ _ _ _]
  obtain ⟨a, nv, rfl, hnx, hno⟩ := hk
  obtain ⟨ha, q1, q2, rfl, m1, m2⟩ := hnx
  subst ha
  have M := Lib.hid (mLeave0 (a := 0) c hO hno m1 m2)
  have E0 := Lib.hid (dEndedN hO)
  have y10 := hO.w10.1
  clear hO
  replace hno := Lib.hid hno
  replace m1 := Lib.hid m1
  replace m2 := Lib.hid m2
  go_enter Try.func34, Try.ntmps34
  go_wp2_with (first | (go_at_call 33; first | (refine E0.out.mono ?_; rintro e w1 ⟨rfl, rfl⟩) | (refine (dEndedY h1).mono ?_; rintro e w3 ⟨rfl, rfl⟩)) | (go_at_call 87; refine M.out.mono ?_; rintro e w2 ⟨rfl, h1⟩))
  go_ret
  exact ⟨rfl, _, _, ⟨_, _, rfl, rfl, hno.out⟩, h1⟩
theorem dStep37 {W D k : Int} {B : Nat} {ms : List Int} (c : Cf W D k B ms.length) {w0 w : World} {g b wb : Nat} {cs : Array Value} {bx : List (Nat × Value × TypeId)} {l : List Ast} {t x h n : Int} {got full : Bool} (hk : WkIs W D k B wb ⟨37, t, x, h, n, got, full⟩ cs bx) (hO : Own w0 w (storeA g b ms :: walkA wb cs bx :: l)) :
    Calls Try.prog 34 #[.pointer (some ⟨wb, 0, none⟩), .pointer (some ⟨g, 0, none⟩)] w (StepP W D k B ms w0 g b wb l ⟨37, t, x, h, n, got, full⟩) := by
  unfold StepP
  rw [st37 _ _ _ _ _ _ _ _ _]
  obtain ⟨a, nv, rfl, hnx, hno⟩ := hk
  obtain ⟨ha, rfl⟩ := hnx
  subst ha
  have M := Lib.hid (mCarries c hO hno _ rfl)
  have E0 := Lib.hid (dEndedN hO)
  have y10 := hO.w10.1
  clear hO
  replace hno := Lib.hid hno
  skip
  skip
  go_enter Try.func34, Try.ntmps34
  go_wp2_with (first | (go_at_call 33; first | (refine E0.out.mono ?_; rintro e w1 ⟨rfl, rfl⟩) | (refine (dEndedN h1).mono ?_; rintro e w3 ⟨rfl, rfl⟩)) | (go_at_call 82; refine M.out.mono ?_; rintro e w2 ⟨rfl, q1, q2, h1, n1, n2⟩))
  go_ret
  exact ⟨rfl, _, _, ⟨_, _, rfl, ⟨rfl, q1, q2, rfl, (by simp), (by simp)⟩, more_no hno.out n1 n2⟩, h1⟩
end Go.Proofs.Ytofnjapgacgdlaa
