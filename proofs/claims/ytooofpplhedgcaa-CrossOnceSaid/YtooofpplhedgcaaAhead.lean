/- The two walks of the law CrossOnce. -/
import Derived.Test.YtooofpplhedgcaaWorks19
import Derived.Test.YtooofpplhedgcaaThrottleMayWalk
set_option linter.unusedVariables false
set_option linter.unusedSimpArgs false
namespace Go.Proofs.Ytooofpplhedgcaa
open Go.RowKit
set_option maxRecDepth 100000
set_option maxHeartbeats 8000000
/-- An empty piece. -/
def noA : Ast := rowA 3 1 (.slice none 0 0) 0 []
theorem Own.none {w0 w : World} {l : List Ast} (h : Own w0 w l) : Own w0 w (l ++ [noA]) := h.push (Below.refl _ _) noA (Row.nil _ _ _) (by simp [noA, rowA, Value.ownBlock])
theorem behind_done {w0 w : World} {gs sb pb rb ab bb : Nat} {ms : List Int} {so : Option Addr} {n sc : Nat} {at_ come got stage goes : Int} {look park : Option Addr} {looked : Bool} {X Y : Ast} (h : Own w0 w (storeA gs sb ms :: [cellsA pb #[.int .i64 1, .int .i64 3, .int .i64 3, .int .i64 3] 26, cellsA rb #[.int .i64 1, .int .i64 3, .int .i64 3, .int .i64 3, .int .i64 1, .int .i64 9] 32, cellsA ab #[.slice so n sc, .int .i64 at_, .int .i64 come, .pointer look, .int .i64 got] 58, cellsA bb #[.int .i64 stage, .bool true, .pointer none, .int .i64 goes] 62, X, Y])) :
    Calls Try.prog 37 #[.pointer (some ⟨bb, 0, none⟩), .pointer (some ⟨gs, 0, none⟩), .agg #[.int .i64 1, .int .i64 3, .int .i64 3, .int .i64 3, .int .i64 1, .int .i64 9]] w fun e w' => e = .returned (.tuple #[]) ∧ Own w0 w' (storeA gs sb ms :: [cellsA pb #[.int .i64 1, .int .i64 3, .int .i64 3, .int .i64 3] 26, cellsA rb #[.int .i64 1, .int .i64 3, .int .i64 3, .int .i64 3, .int .i64 1, .int .i64 9] 32, cellsA ab #[.slice so n sc, .int .i64 at_, .int .i64 come, .pointer look, .int .i64 got] 58, cellsA bb #[.int .i64 stage, .bool true, .pointer none, .int .i64 goes] 62, X, Y]) := by
  have h1 := h.box #[.int .i64 1, .int .i64 3, .int .i64 3, .int .i64 3, .int .i64 1, .int .i64 9] 32
  clear h
  go_enter Try.func37, Try.ntmps37
  go_upto_region 1 with fail
  generalize w.alloc (.cells #[.int .i64 1, .int .i64 3, .int .i64 3, .int .i64 3, .int .i64 1, .int .i64 9] 32) = wx at *
  generalize w.heap.size = xb at *
  obtain ⟨c1, f1⟩ := cells_at 4 h1 rfl 1 (.bool true) rfl
  obtain ⟨c2, f2⟩ := cells_at 4 h1 rfl 2 (.pointer none) rfl
  go_wp2_with fail
  go_end0
  exact ⟨rfl, h1.sel [0, 1, 2, 3, 4, 5, 6] (by decide)⟩
theorem behind_on {w0 w : World} {gs sb pb rb ab bb : Nat} {ms : List Int} {so : Option Addr} {n sc : Nat} {at_ come got stage goes : Int} {look park : Option Addr} {looked : Bool} {X Y : Ast} {ms' : List Int} {Y' : Ast} {pa : Addr} (h : Own w0 w (storeA gs sb ms :: [cellsA pb #[.int .i64 1, .int .i64 3, .int .i64 3, .int .i64 3] 26, cellsA rb #[.int .i64 1, .int .i64 3, .int .i64 3, .int .i64 3, .int .i64 1, .int .i64 9] 32, cellsA ab #[.slice so n sc, .int .i64 at_, .int .i64 come, .pointer look, .int .i64 got] 58, cellsA bb #[.int .i64 stage, .bool true, .pointer (some pa), .int .i64 goes] 62, X, Y]))
    (hs : ∀ w1 xb, Own w0 w1 (storeA gs sb ms :: [cellsA pb #[.int .i64 1, .int .i64 3, .int .i64 3, .int .i64 3] 26, cellsA rb #[.int .i64 1, .int .i64 3, .int .i64 3, .int .i64 3, .int .i64 1, .int .i64 9] 32, cellsA ab #[.slice so n sc, .int .i64 at_, .int .i64 come, .pointer look, .int .i64 got] 58, cellsA bb #[.int .i64 stage, .bool true, .pointer (some pa), .int .i64 goes] 62, X, Y, cellsA xb #[.int .i64 1, .int .i64 3, .int .i64 3, .int .i64 3, .int .i64 1, .int .i64 9] 32]) → Calls Try.prog 46 #[.pointer (some pa), .pointer (some ⟨gs, 0, none⟩)] w1 fun e w' => e = .returned (.bool false) ∧ Own w0 w' (storeA gs sb ms' :: [cellsA pb #[.int .i64 1, .int .i64 3, .int .i64 3, .int .i64 3] 26, cellsA rb #[.int .i64 1, .int .i64 3, .int .i64 3, .int .i64 3, .int .i64 1, .int .i64 9] 32, cellsA ab #[.slice so n sc, .int .i64 at_, .int .i64 come, .pointer look, .int .i64 got] 58, cellsA bb #[.int .i64 stage, .bool true, .pointer (some pa), .int .i64 goes] 62, X, Y', cellsA xb #[.int .i64 1, .int .i64 3, .int .i64 3, .int .i64 3, .int .i64 1, .int .i64 9] 32])) :
    Calls Try.prog 37 #[.pointer (some ⟨bb, 0, none⟩), .pointer (some ⟨gs, 0, none⟩), .agg #[.int .i64 1, .int .i64 3, .int .i64 3, .int .i64 3, .int .i64 1, .int .i64 9]] w fun e w' => e = .returned (.tuple #[]) ∧ Own w0 w' (storeA gs sb ms' :: [cellsA pb #[.int .i64 1, .int .i64 3, .int .i64 3, .int .i64 3] 26, cellsA rb #[.int .i64 1, .int .i64 3, .int .i64 3, .int .i64 3, .int .i64 1, .int .i64 9] 32, cellsA ab #[.slice so n sc, .int .i64 at_, .int .i64 come, .pointer look, .int .i64 got] 58, cellsA bb #[.int .i64 stage, .bool true, .pointer (some pa), .int .i64 goes] 62, X, Y']) := by
  have h1 := h.box #[.int .i64 1, .int .i64 3, .int .i64 3, .int .i64 3, .int .i64 1, .int .i64 9] 32
  replace hs := Lib.hid hs
  clear h
  go_enter Try.func37, Try.ntmps37
  go_upto_region 1 with fail
  generalize w.alloc (.cells #[.int .i64 1, .int .i64 3, .int .i64 3, .int .i64 3, .int .i64 1, .int .i64 9] 32) = wx at *
  generalize w.heap.size = xb at *
  have S := Lib.hid (hs.out _ _ h1)
  obtain ⟨c1, f1⟩ := cells_at 4 h1 rfl 1 (.bool true) rfl
  obtain ⟨c2, f2⟩ := cells_at 4 h1 rfl 2 (.pointer (some pa)) rfl
  go_wp2_with (go_at_call 46; refine S.out.mono ?_; rintro e w2 ⟨rfl, h2⟩)
  go_end0
  exact ⟨rfl, h2.sel [0, 1, 2, 3, 4, 5, 6] (by decide)⟩
theorem behind_end {w0 w : World} {gs sb pb rb ab bb : Nat} {ms : List Int} {so : Option Addr} {n sc : Nat} {at_ come got stage goes : Int} {look park : Option Addr} {looked : Bool} {X Y : Ast} {ms' : List Int} {Y' : Ast} {pa : Addr} (bk : Bool) (g2 : Int) (hg : 0 ≤ goes ∧ goes ≤ 1000) (hg2 : g2 = if bk = true then goes + 1 else goes) (h : Own w0 w (storeA gs sb ms :: [cellsA pb #[.int .i64 1, .int .i64 3, .int .i64 3, .int .i64 3] 26, cellsA rb #[.int .i64 1, .int .i64 3, .int .i64 3, .int .i64 3, .int .i64 1, .int .i64 9] 32, cellsA ab #[.slice so n sc, .int .i64 at_, .int .i64 come, .pointer look, .int .i64 got] 58, cellsA bb #[.int .i64 stage, .bool true, .pointer (some pa), .int .i64 goes] 62, X, Y]))
    (hs : ∀ w1 xb, Own w0 w1 (storeA gs sb ms :: [cellsA pb #[.int .i64 1, .int .i64 3, .int .i64 3, .int .i64 3] 26, cellsA rb #[.int .i64 1, .int .i64 3, .int .i64 3, .int .i64 3, .int .i64 1, .int .i64 9] 32, cellsA ab #[.slice so n sc, .int .i64 at_, .int .i64 come, .pointer look, .int .i64 got] 58, cellsA bb #[.int .i64 stage, .bool true, .pointer (some pa), .int .i64 goes] 62, X, Y, cellsA xb #[.int .i64 1, .int .i64 3, .int .i64 3, .int .i64 3, .int .i64 1, .int .i64 9] 32]) → Calls Try.prog 46 #[.pointer (some pa), .pointer (some ⟨gs, 0, none⟩)] w1 fun e w' => e = .returned (.bool true) ∧ Own w0 w' (storeA gs sb ms' :: [cellsA pb #[.int .i64 1, .int .i64 3, .int .i64 3, .int .i64 3] 26, cellsA rb #[.int .i64 1, .int .i64 3, .int .i64 3, .int .i64 3, .int .i64 1, .int .i64 9] 32, cellsA ab #[.slice so n sc, .int .i64 at_, .int .i64 come, .pointer look, .int .i64 got] 58, cellsA bb #[.int .i64 stage, .bool true, .pointer (some pa), .int .i64 goes] 62, X, Y', cellsA xb #[.int .i64 1, .int .i64 3, .int .i64 3, .int .i64 3, .int .i64 1, .int .i64 9] 32]))
    (hb : ∀ w1 xb, Own w0 w1 (storeA gs sb ms' :: [cellsA pb #[.int .i64 1, .int .i64 3, .int .i64 3, .int .i64 3] 26, cellsA rb #[.int .i64 1, .int .i64 3, .int .i64 3, .int .i64 3, .int .i64 1, .int .i64 9] 32, cellsA ab #[.slice so n sc, .int .i64 at_, .int .i64 come, .pointer look, .int .i64 got] 58, cellsA bb #[.int .i64 stage, .bool true, .pointer (some pa), .int .i64 goes] 62, X, Y', cellsA xb #[.int .i64 1, .int .i64 3, .int .i64 3, .int .i64 3, .int .i64 1, .int .i64 9] 32]) → Calls Try.prog 47 #[.pointer (some pa)] w1 fun e w' => e = .returned (.bool bk) ∧ w1 = w') :
    Calls Try.prog 37 #[.pointer (some ⟨bb, 0, none⟩), .pointer (some ⟨gs, 0, none⟩), .agg #[.int .i64 1, .int .i64 3, .int .i64 3, .int .i64 3, .int .i64 1, .int .i64 9]] w fun e w' => e = .returned (.tuple #[]) ∧ Own w0 w' (storeA gs sb ms' :: [cellsA pb #[.int .i64 1, .int .i64 3, .int .i64 3, .int .i64 3] 26, cellsA rb #[.int .i64 1, .int .i64 3, .int .i64 3, .int .i64 3, .int .i64 1, .int .i64 9] 32, cellsA ab #[.slice so n sc, .int .i64 at_, .int .i64 come, .pointer look, .int .i64 got] 58, cellsA bb #[.int .i64 stage, .bool true, .pointer none, .int .i64 g2] 62, X, noA]) := by
  have h1 := h.box #[.int .i64 1, .int .i64 3, .int .i64 3, .int .i64 3, .int .i64 1, .int .i64 9] 32
  replace hs := Lib.hid hs
  replace hb := Lib.hid hb
  have CC := Lib.hid (fun (w1 : World) (xb : Nat) (h1 : Own w0 w1 (storeA gs sb ms' :: [cellsA pb #[.int .i64 1, .int .i64 3, .int .i64 3, .int .i64 3] 26, cellsA rb #[.int .i64 1, .int .i64 3, .int .i64 3, .int .i64 3, .int .i64 1, .int .i64 9] 32, cellsA ab #[.slice so n sc, .int .i64 at_, .int .i64 come, .pointer look, .int .i64 got] 58, cellsA bb #[.int .i64 stage, .bool true, .pointer (some pa), .int .i64 goes] 62, X, Y', cellsA xb #[.int .i64 1, .int .i64 3, .int .i64 3, .int .i64 3, .int .i64 1, .int .i64 9] 32])) => And.intro (cells_at 4 h1 rfl 2 (.pointer (some pa)) rfl) (And.intro (cells_at 4 h1 rfl 3 (.int .i64 goes) rfl)
    (show Own w0 ((w1.setCell ⟨bb, 3, none⟩ (.int .i64 (goes + 1))).setCell ⟨bb, 2, none⟩ (.pointer none)) (storeA gs sb ms' :: [cellsA pb #[.int .i64 1, .int .i64 3, .int .i64 3, .int .i64 3] 26, cellsA rb #[.int .i64 1, .int .i64 3, .int .i64 3, .int .i64 3, .int .i64 1, .int .i64 9] 32, cellsA ab #[.slice so n sc, .int .i64 at_, .int .i64 come, .pointer look, .int .i64 got] 58, cellsA bb #[.int .i64 stage, .bool true, .pointer none, .int .i64 (goes + 1)] 62, X, Y', cellsA xb #[.int .i64 1, .int .i64 3, .int .i64 3, .int .i64 3, .int .i64 1, .int .i64 9] 32]) ∧ Own w0 (w1.setCell ⟨bb, 2, none⟩ (.pointer none)) (storeA gs sb ms' :: [cellsA pb #[.int .i64 1, .int .i64 3, .int .i64 3, .int .i64 3] 26, cellsA rb #[.int .i64 1, .int .i64 3, .int .i64 3, .int .i64 3, .int .i64 1, .int .i64 9] 32, cellsA ab #[.slice so n sc, .int .i64 at_, .int .i64 come, .pointer look, .int .i64 got] 58, cellsA bb #[.int .i64 stage, .bool true, .pointer none, .int .i64 goes] 62, X, Y', cellsA xb #[.int .i64 1, .int .i64 3, .int .i64 3, .int .i64 3, .int .i64 1, .int .i64 9] 32]) from
      ⟨(h1.cset 4 rfl 3 (.int .i64 (goes + 1))).cset 4 rfl 2 (.pointer none), h1.cset 4 rfl 2 (.pointer none)⟩)))
  clear h
  go_enter Try.func37, Try.ntmps37
  go_upto_region 1 with fail
  generalize w.alloc (.cells #[.int .i64 1, .int .i64 3, .int .i64 3, .int .i64 3, .int .i64 1, .int .i64 9] 32) = wx at *
  generalize w.heap.size = xb at *
  have S := Lib.hid (hs.out _ _ h1)
  obtain ⟨c1, f1⟩ := cells_at 4 h1 rfl 1 (.bool true) rfl
  obtain ⟨c2, f2⟩ := cells_at 4 h1 rfl 2 (.pointer (some pa)) rfl
  cases bk
  all_goals
    subst hg2
    go_wp2_with (first | (go_at_call 46; refine S.out.mono ?_; rintro e w2 ⟨rfl, h2⟩; obtain ⟨⟨d2, k2⟩, ⟨d3, k3⟩, h3, h4⟩ := CC.out _ _ h2) | (go_at_call 47; refine (hb.out _ _ h2).mono ?_; rintro e w3 ⟨rfl, rfl⟩))
    go_end0
    first | exact ⟨rfl, h4.none.sel [0, 1, 2, 3, 4, 5, 8] (by decide)⟩ | exact ⟨rfl, h3.none.sel [0, 1, 2, 3, 4, 5, 8] (by decide)⟩
theorem behind_look_go {w0 w : World} {gs sb pb rb ab bb : Nat} {ms : List Int} {so : Option Addr} {n sc : Nat} {at_ come got stage goes : Int} {look park : Option Addr} {looked : Bool} {X Y : Ast} {x : Int} (ok : okPlan 1 3 3 3 = true) (hl : 9 < ms.length) (hx : ms.getD 9 0 = x) (hc : decide (stage < x) = true) (hg : 0 ≤ goes ∧ goes ≤ 1000) (h : Own w0 w (storeA gs sb ms :: [cellsA pb #[.int .i64 1, .int .i64 3, .int .i64 3, .int .i64 3] 26, cellsA rb #[.int .i64 1, .int .i64 3, .int .i64 3, .int .i64 3, .int .i64 1, .int .i64 9] 32, cellsA ab #[.slice so n sc, .int .i64 at_, .int .i64 come, .pointer look, .int .i64 got] 58, cellsA bb #[.int .i64 stage, .bool false, .pointer none, .int .i64 goes] 62, X, Y])) :
    Calls Try.prog 37 #[.pointer (some ⟨bb, 0, none⟩), .pointer (some ⟨gs, 0, none⟩), .agg #[.int .i64 1, .int .i64 3, .int .i64 3, .int .i64 3, .int .i64 1, .int .i64 9]] w fun e w' => e = .returned (.tuple #[]) ∧ Own w0 w' (storeA gs sb ms :: [cellsA pb #[.int .i64 1, .int .i64 3, .int .i64 3, .int .i64 3] 26, cellsA rb #[.int .i64 1, .int .i64 3, .int .i64 3, .int .i64 3, .int .i64 1, .int .i64 9] 32, cellsA ab #[.slice so n sc, .int .i64 at_, .int .i64 come, .pointer look, .int .i64 got] 58, cellsA bb #[.int .i64 stage, .bool true, .pointer none, .int .i64 (goes + 1)] 62, X, Y]) := by
  have h1 := h.box #[.int .i64 1, .int .i64 3, .int .i64 3, .int .i64 3, .int .i64 1, .int .i64 9] 32
  have CM := Lib.hid (fun (w1 : World) (xb : Nat) (h1 : Own w0 w1 (storeA gs sb ms :: [cellsA pb #[.int .i64 1, .int .i64 3, .int .i64 3, .int .i64 3] 26, cellsA rb #[.int .i64 1, .int .i64 3, .int .i64 3, .int .i64 3, .int .i64 1, .int .i64 9] 32, cellsA ab #[.slice so n sc, .int .i64 at_, .int .i64 come, .pointer look, .int .i64 got] 58, cellsA bb #[.int .i64 stage, .bool true, .pointer none, .int .i64 goes] 62, X, Y, cellsA xb #[.int .i64 1, .int .i64 3, .int .i64 3, .int .i64 3, .int .i64 1, .int .i64 9] 32])) => r_come h1 ok 1 9 0 (at_ := 9) (by decide) hl x hx)
  have CC := Lib.hid (fun (w1 : World) (xb : Nat) (h1 : Own w0 w1 (storeA gs sb ms :: [cellsA pb #[.int .i64 1, .int .i64 3, .int .i64 3, .int .i64 3] 26, cellsA rb #[.int .i64 1, .int .i64 3, .int .i64 3, .int .i64 3, .int .i64 1, .int .i64 9] 32, cellsA ab #[.slice so n sc, .int .i64 at_, .int .i64 come, .pointer look, .int .i64 got] 58, cellsA bb #[.int .i64 stage, .bool true, .pointer none, .int .i64 goes] 62, X, Y, cellsA xb #[.int .i64 1, .int .i64 3, .int .i64 3, .int .i64 3, .int .i64 1, .int .i64 9] 32])) => And.intro (cells6 7 h1 rfl) (And.intro (cells_at 4 h1 rfl 0 (.int .i64 stage) rfl) (And.intro (cells_at 4 h1 rfl 3 (.int .i64 goes) rfl)
    (show Own w0 (w1.setCell ⟨bb, 3, none⟩ (.int .i64 (goes + 1))) (storeA gs sb ms :: [cellsA pb #[.int .i64 1, .int .i64 3, .int .i64 3, .int .i64 3] 26, cellsA rb #[.int .i64 1, .int .i64 3, .int .i64 3, .int .i64 3, .int .i64 1, .int .i64 9] 32, cellsA ab #[.slice so n sc, .int .i64 at_, .int .i64 come, .pointer look, .int .i64 got] 58, cellsA bb #[.int .i64 stage, .bool true, .pointer none, .int .i64 (goes + 1)] 62, X, Y, cellsA xb #[.int .i64 1, .int .i64 3, .int .i64 3, .int .i64 3, .int .i64 1, .int .i64 9] 32]) from h1.cset 4 rfl 3 (.int .i64 (goes + 1))))))
  clear hl hx ok
  clear h
  go_enter Try.func37, Try.ntmps37
  go_upto_region 1 with fail
  generalize w.alloc (.cells #[.int .i64 1, .int .i64 3, .int .i64 3, .int .i64 3, .int .i64 1, .int .i64 9] 32) = wx at *
  generalize w.heap.size = xb at *
  obtain ⟨c1, f1⟩ := cells_at 4 h1 rfl 1 (.bool false) rfl
  have h2 : Own w0 (wx.setCell ⟨bb, 1, none⟩ (.bool true)) (storeA gs sb ms :: [cellsA pb #[.int .i64 1, .int .i64 3, .int .i64 3, .int .i64 3] 26, cellsA rb #[.int .i64 1, .int .i64 3, .int .i64 3, .int .i64 3, .int .i64 1, .int .i64 9] 32, cellsA ab #[.slice so n sc, .int .i64 at_, .int .i64 come, .pointer look, .int .i64 got] 58, cellsA bb #[.int .i64 stage, .bool true, .pointer none, .int .i64 goes] 62, X, Y, cellsA xb #[.int .i64 1, .int .i64 3, .int .i64 3, .int .i64 3, .int .i64 1, .int .i64 9] 32]) := h1.cset 4 rfl 1 (.bool true)
  go_wp2_with fail
  clear h1 c1 f1
  generalize wx.setCell ⟨bb, 1, none⟩ (.bool true) = wy at *
  obtain ⟨⟨y0, y1, y2, y3, y4, y5⟩, ⟨d0, k0⟩, _⟩ := CC.out _ _ h2
  have h3 := h2.drewN 1
  go_region_with (go_at_call 51; refine (CM.out _ _ h3).mono ?_; rintro e w3 ⟨rfl, h4⟩; obtain ⟨⟨z0, z1, z2, z3, z4, z5⟩, ⟨e0, l0⟩, ⟨e3, l3⟩, h5⟩ := CC.out _ _ h4)
  all_goals
    go_wp2_with fail
    go_end0
    exact ⟨rfl, h5.sel [0, 1, 2, 3, 4, 5, 6] (by decide)⟩
theorem behind_look_park {w0 w : World} {gs sb pb rb ab bb : Nat} {ms : List Int} {so : Option Addr} {n sc : Nat} {at_ come got stage goes : Int} {look park : Option Addr} {looked : Bool} {X Y : Ast} {x : Int} (ok : okPlan 1 3 3 3 = true) (hl : 9 < ms.length) (hx : ms.getD 9 0 = x) (hc : decide (stage < x) = false) (h : Own w0 w (storeA gs sb ms :: [cellsA pb #[.int .i64 1, .int .i64 3, .int .i64 3, .int .i64 3] 26, cellsA rb #[.int .i64 1, .int .i64 3, .int .i64 3, .int .i64 3, .int .i64 1, .int .i64 9] 32, cellsA ab #[.slice so n sc, .int .i64 at_, .int .i64 come, .pointer look, .int .i64 got] 58, cellsA bb #[.int .i64 stage, .bool false, .pointer none, .int .i64 goes] 62, X, Y])) :
    Calls Try.prog 37 #[.pointer (some ⟨bb, 0, none⟩), .pointer (some ⟨gs, 0, none⟩), .agg #[.int .i64 1, .int .i64 3, .int .i64 3, .int .i64 3, .int .i64 1, .int .i64 9]] w fun e w' => e = .returned (.tuple #[]) ∧ ∃ pa, Own w0 w' (storeA gs sb ms :: [cellsA pb #[.int .i64 1, .int .i64 3, .int .i64 3, .int .i64 3] 26, cellsA rb #[.int .i64 1, .int .i64 3, .int .i64 3, .int .i64 3, .int .i64 1, .int .i64 9] 32, cellsA ab #[.slice so n sc, .int .i64 at_, .int .i64 come, .pointer look, .int .i64 got] 58, cellsA bb #[.int .i64 stage, .bool true, .pointer (some ⟨pa, 0, none⟩), .int .i64 goes] 62, X, cellsA pa #[.int .i64 1, .int .i64 3, .int .i64 3, .int .i64 3, .int .i64 1, .int .i64 9, .int .i64 1, .int .i64 stage, .int .i64 0, .bool false] 109]) := by
  have h1 := h.box #[.int .i64 1, .int .i64 3, .int .i64 3, .int .i64 3, .int .i64 1, .int .i64 9] 32
  have CM := Lib.hid (fun (w1 : World) (xb : Nat) (h1 : Own w0 w1 (storeA gs sb ms :: [cellsA pb #[.int .i64 1, .int .i64 3, .int .i64 3, .int .i64 3] 26, cellsA rb #[.int .i64 1, .int .i64 3, .int .i64 3, .int .i64 3, .int .i64 1, .int .i64 9] 32, cellsA ab #[.slice so n sc, .int .i64 at_, .int .i64 come, .pointer look, .int .i64 got] 58, cellsA bb #[.int .i64 stage, .bool true, .pointer none, .int .i64 goes] 62, X, Y, cellsA xb #[.int .i64 1, .int .i64 3, .int .i64 3, .int .i64 3, .int .i64 1, .int .i64 9] 32])) => r_come h1 ok 1 9 0 (at_ := 9) (by decide) hl x hx)
  have ST := Lib.hid (fun (w1 : World) (xb : Nat) (h1 : Own w0 w1 (storeA gs sb ms :: [cellsA pb #[.int .i64 1, .int .i64 3, .int .i64 3, .int .i64 3] 26, cellsA rb #[.int .i64 1, .int .i64 3, .int .i64 3, .int .i64 3, .int .i64 1, .int .i64 9] 32, cellsA ab #[.slice so n sc, .int .i64 at_, .int .i64 come, .pointer look, .int .i64 got] 58, cellsA bb #[.int .i64 stage, .bool true, .pointer none, .int .i64 goes] 62, X, Y, cellsA xb #[.int .i64 1, .int .i64 3, .int .i64 3, .int .i64 3, .int .i64 1, .int .i64 9] 32])) => park_new h1 1 3 3 3 1 9 1 stage)
  have CC := Lib.hid (fun (w1 : World) (xb : Nat) (h1 : Own w0 w1 (storeA gs sb ms :: [cellsA pb #[.int .i64 1, .int .i64 3, .int .i64 3, .int .i64 3] 26, cellsA rb #[.int .i64 1, .int .i64 3, .int .i64 3, .int .i64 3, .int .i64 1, .int .i64 9] 32, cellsA ab #[.slice so n sc, .int .i64 at_, .int .i64 come, .pointer look, .int .i64 got] 58, cellsA bb #[.int .i64 stage, .bool true, .pointer none, .int .i64 goes] 62, X, Y, cellsA xb #[.int .i64 1, .int .i64 3, .int .i64 3, .int .i64 3, .int .i64 1, .int .i64 9] 32])) => And.intro (cells6 7 h1 rfl) (cells_at 4 h1 rfl 0 (.int .i64 stage) rfl))
  have CD := Lib.hid (fun (w1 : World) (xb pa : Nat) (h1 : Own w0 w1 ((storeA gs sb ms :: [cellsA pb #[.int .i64 1, .int .i64 3, .int .i64 3, .int .i64 3] 26, cellsA rb #[.int .i64 1, .int .i64 3, .int .i64 3, .int .i64 3, .int .i64 1, .int .i64 9] 32, cellsA ab #[.slice so n sc, .int .i64 at_, .int .i64 come, .pointer look, .int .i64 got] 58, cellsA bb #[.int .i64 stage, .bool true, .pointer none, .int .i64 goes] 62, X, Y, cellsA xb #[.int .i64 1, .int .i64 3, .int .i64 3, .int .i64 3, .int .i64 1, .int .i64 9] 32]) ++ [cellsA pa #[.int .i64 1, .int .i64 3, .int .i64 3, .int .i64 3, .int .i64 1, .int .i64 9, .int .i64 1, .int .i64 stage, .int .i64 0, .bool false] 109])) => And.intro (cells6 7 h1 rfl) (And.intro (cells_at 4 h1 rfl 0 (.int .i64 stage) rfl) (And.intro (cells_at 4 h1 rfl 2 (.pointer none) rfl)
    (show Own w0 (w1.setCell ⟨bb, 2, none⟩ (.pointer (some ⟨pa, 0, none⟩))) ((storeA gs sb ms :: [cellsA pb #[.int .i64 1, .int .i64 3, .int .i64 3, .int .i64 3] 26, cellsA rb #[.int .i64 1, .int .i64 3, .int .i64 3, .int .i64 3, .int .i64 1, .int .i64 9] 32, cellsA ab #[.slice so n sc, .int .i64 at_, .int .i64 come, .pointer look, .int .i64 got] 58, cellsA bb #[.int .i64 stage, .bool true, .pointer (some ⟨pa, 0, none⟩), .int .i64 goes] 62, X, Y, cellsA xb #[.int .i64 1, .int .i64 3, .int .i64 3, .int .i64 3, .int .i64 1, .int .i64 9] 32]) ++ [cellsA pa #[.int .i64 1, .int .i64 3, .int .i64 3, .int .i64 3, .int .i64 1, .int .i64 9, .int .i64 1, .int .i64 stage, .int .i64 0, .bool false] 109]) from h1.cset 4 rfl 2 (.pointer (some ⟨pa, 0, none⟩))))))
  clear hl hx ok
  clear h
  go_enter Try.func37, Try.ntmps37
  go_upto_region 1 with fail
  generalize w.alloc (.cells #[.int .i64 1, .int .i64 3, .int .i64 3, .int .i64 3, .int .i64 1, .int .i64 9] 32) = wx at *
  generalize w.heap.size = xb at *
  obtain ⟨c1, f1⟩ := cells_at 4 h1 rfl 1 (.bool false) rfl
  have h2 : Own w0 (wx.setCell ⟨bb, 1, none⟩ (.bool true)) (storeA gs sb ms :: [cellsA pb #[.int .i64 1, .int .i64 3, .int .i64 3, .int .i64 3] 26, cellsA rb #[.int .i64 1, .int .i64 3, .int .i64 3, .int .i64 3, .int .i64 1, .int .i64 9] 32, cellsA ab #[.slice so n sc, .int .i64 at_, .int .i64 come, .pointer look, .int .i64 got] 58, cellsA bb #[.int .i64 stage, .bool true, .pointer none, .int .i64 goes] 62, X, Y, cellsA xb #[.int .i64 1, .int .i64 3, .int .i64 3, .int .i64 3, .int .i64 1, .int .i64 9] 32]) := h1.cset 4 rfl 1 (.bool true)
  go_wp2_with fail
  clear h1 c1 f1
  generalize wx.setCell ⟨bb, 1, none⟩ (.bool true) = wy at *
  obtain ⟨⟨y0, y1, y2, y3, y4, y5⟩, ⟨d0, k0⟩⟩ := CC.out _ _ h2
  have h3 := h2.drewN 1
  go_region_with (go_at_call 51; refine (CM.out _ _ h3).mono ?_; rintro e w3 ⟨rfl, h4⟩; obtain ⟨⟨z0, z1, z2, z3, z4, z5⟩, ⟨e0, l0⟩⟩ := CC.out _ _ h4)
  all_goals
    clear y0 y1 y2 y3 y4 y5 d0 k0 h2 h3
    have h5 := h4.drewN 1
    go_wp2_with fail
    go_region_with (go_at_call 39; refine (ST.out _ _ h5).mono ?_; rintro e w4 ⟨pa, rfl, h6⟩; obtain ⟨⟨v0, v1, v2, v3, v4, v5⟩, ⟨g0, m0⟩, ⟨g2, m2⟩, h7⟩ := CD.out _ _ _ h6)
    all_goals
      go_wp2_with fail
      go_end0
      exact ⟨rfl, pa, h7.sel [0, 1, 2, 3, 4, 5, 8] (by decide)⟩
theorem ahead_done {w0 w : World} {gs sb pb rb ab bb : Nat} {ms : List Int} {so : Option Addr} {n sc : Nat} {at_ come got stage goes : Int} {look park : Option Addr} {looked : Bool} {X Y : Ast} (hc : decide (at_ ≤ (n : Int)) = false) (h : Own w0 w (storeA gs sb ms :: [cellsA pb #[.int .i64 1, .int .i64 3, .int .i64 3, .int .i64 3] 26, cellsA rb #[.int .i64 1, .int .i64 3, .int .i64 3, .int .i64 3, .int .i64 1, .int .i64 9] 32, cellsA ab #[.slice so n sc, .int .i64 at_, .int .i64 come, .pointer none, .int .i64 got] 58, cellsA bb #[.int .i64 stage, .bool looked, .pointer park, .int .i64 goes] 62, X, Y])) :
    Calls Try.prog 36 #[.pointer (some ⟨ab, 0, none⟩), .pointer (some ⟨gs, 0, none⟩), .agg #[.int .i64 1, .int .i64 3, .int .i64 3, .int .i64 3, .int .i64 1, .int .i64 9]] w fun e w' => e = .returned (.tuple #[]) ∧ Own w0 w' (storeA gs sb ms :: [cellsA pb #[.int .i64 1, .int .i64 3, .int .i64 3, .int .i64 3] 26, cellsA rb #[.int .i64 1, .int .i64 3, .int .i64 3, .int .i64 3, .int .i64 1, .int .i64 9] 32, cellsA ab #[.slice so n sc, .int .i64 at_, .int .i64 come, .pointer none, .int .i64 got] 58, cellsA bb #[.int .i64 stage, .bool looked, .pointer park, .int .i64 goes] 62, X, Y]) := by
  have h1 := h.box #[.int .i64 1, .int .i64 3, .int .i64 3, .int .i64 3, .int .i64 1, .int .i64 9] 32
  clear h
  go_enter Try.func36, Try.ntmps36
  go_upto_region 1 with fail
  generalize w.alloc (.cells #[.int .i64 1, .int .i64 3, .int .i64 3, .int .i64 3, .int .i64 1, .int .i64 9] 32) = wx at *
  generalize w.heap.size = xb at *
  obtain ⟨c0, f0⟩ := cells_at 3 h1 rfl 0 (.slice so n sc) rfl
  obtain ⟨c1, f1⟩ := cells_at 3 h1 rfl 1 (.int .i64 at_) rfl
  obtain ⟨c3, f3⟩ := cells_at 3 h1 rfl 3 (.pointer none) rfl
  go_wp2_with fail
  go_quiet (fail)
  go_wp2_with fail
  go_end0
  exact ⟨rfl, (h1.drewN _).sel [0, 1, 2, 3, 4, 5, 6] (by decide)⟩
theorem ahead_on {w0 w : World} {gs sb pb rb ab bb : Nat} {ms : List Int} {so : Option Addr} {n sc : Nat} {at_ come got stage goes : Int} {look park : Option Addr} {looked : Bool} {X Y : Ast} {ms' : List Int} {X' : Ast} {pa : Addr} (h : Own w0 w (storeA gs sb ms :: [cellsA pb #[.int .i64 1, .int .i64 3, .int .i64 3, .int .i64 3] 26, cellsA rb #[.int .i64 1, .int .i64 3, .int .i64 3, .int .i64 3, .int .i64 1, .int .i64 9] 32, cellsA ab #[.slice so n sc, .int .i64 at_, .int .i64 come, .pointer (some pa), .int .i64 got] 58, cellsA bb #[.int .i64 stage, .bool looked, .pointer park, .int .i64 goes] 62, X, Y]))
    (hs : ∀ w1 xb, Own w0 w1 (storeA gs sb ms :: [cellsA pb #[.int .i64 1, .int .i64 3, .int .i64 3, .int .i64 3] 26, cellsA rb #[.int .i64 1, .int .i64 3, .int .i64 3, .int .i64 3, .int .i64 1, .int .i64 9] 32, cellsA ab #[.slice so n sc, .int .i64 at_, .int .i64 come, .pointer (some pa), .int .i64 got] 58, cellsA bb #[.int .i64 stage, .bool looked, .pointer park, .int .i64 goes] 62, X, Y, cellsA xb #[.int .i64 1, .int .i64 3, .int .i64 3, .int .i64 3, .int .i64 1, .int .i64 9] 32]) → Calls Try.prog 44 #[.pointer (some pa), .pointer (some ⟨gs, 0, none⟩)] w1 fun e w' => e = .returned (.bool false) ∧ Own w0 w' (storeA gs sb ms' :: [cellsA pb #[.int .i64 1, .int .i64 3, .int .i64 3, .int .i64 3] 26, cellsA rb #[.int .i64 1, .int .i64 3, .int .i64 3, .int .i64 3, .int .i64 1, .int .i64 9] 32, cellsA ab #[.slice so n sc, .int .i64 at_, .int .i64 come, .pointer (some pa), .int .i64 got] 58, cellsA bb #[.int .i64 stage, .bool looked, .pointer park, .int .i64 goes] 62, X', Y, cellsA xb #[.int .i64 1, .int .i64 3, .int .i64 3, .int .i64 3, .int .i64 1, .int .i64 9] 32])) :
    Calls Try.prog 36 #[.pointer (some ⟨ab, 0, none⟩), .pointer (some ⟨gs, 0, none⟩), .agg #[.int .i64 1, .int .i64 3, .int .i64 3, .int .i64 3, .int .i64 1, .int .i64 9]] w fun e w' => e = .returned (.tuple #[]) ∧ Own w0 w' (storeA gs sb ms' :: [cellsA pb #[.int .i64 1, .int .i64 3, .int .i64 3, .int .i64 3] 26, cellsA rb #[.int .i64 1, .int .i64 3, .int .i64 3, .int .i64 3, .int .i64 1, .int .i64 9] 32, cellsA ab #[.slice so n sc, .int .i64 at_, .int .i64 come, .pointer (some pa), .int .i64 got] 58, cellsA bb #[.int .i64 stage, .bool looked, .pointer park, .int .i64 goes] 62, X', Y]) := by
  have h1 := h.box #[.int .i64 1, .int .i64 3, .int .i64 3, .int .i64 3, .int .i64 1, .int .i64 9] 32
  replace hs := Lib.hid hs
  clear h
  go_enter Try.func36, Try.ntmps36
  go_upto_region 1 with fail
  generalize w.alloc (.cells #[.int .i64 1, .int .i64 3, .int .i64 3, .int .i64 3, .int .i64 1, .int .i64 9] 32) = wx at *
  generalize w.heap.size = xb at *
  have S := Lib.hid (hs.out _ _ h1)
  obtain ⟨c3, f3⟩ := cells_at 3 h1 rfl 3 (.pointer (some pa)) rfl
  go_wp2_with (go_at_call 44; refine S.out.mono ?_; rintro e w2 ⟨rfl, h2⟩)
  go_end0
  exact ⟨rfl, h2.sel [0, 1, 2, 3, 4, 5, 6] (by decide)⟩
theorem ahead_end {w0 w : World} {gs sb pb rb ab bb : Nat} {ms : List Int} {so : Option Addr} {n sc : Nat} {at_ come got stage goes : Int} {look park : Option Addr} {looked : Bool} {X Y : Ast} {ms' : List Int} {X' : Ast} {pa : Addr} (gt : Bool) (fr g2 : Int) (hg : 0 ≤ got ∧ got ≤ 1000) (hg2 : g2 = if gt = true then got + 1 else got) (h : Own w0 w (storeA gs sb ms :: [cellsA pb #[.int .i64 1, .int .i64 3, .int .i64 3, .int .i64 3] 26, cellsA rb #[.int .i64 1, .int .i64 3, .int .i64 3, .int .i64 3, .int .i64 1, .int .i64 9] 32, cellsA ab #[.slice so n sc, .int .i64 at_, .int .i64 come, .pointer (some pa), .int .i64 got] 58, cellsA bb #[.int .i64 stage, .bool looked, .pointer park, .int .i64 goes] 62, X, Y]))
    (hs : ∀ w1 xb, Own w0 w1 (storeA gs sb ms :: [cellsA pb #[.int .i64 1, .int .i64 3, .int .i64 3, .int .i64 3] 26, cellsA rb #[.int .i64 1, .int .i64 3, .int .i64 3, .int .i64 3, .int .i64 1, .int .i64 9] 32, cellsA ab #[.slice so n sc, .int .i64 at_, .int .i64 come, .pointer (some pa), .int .i64 got] 58, cellsA bb #[.int .i64 stage, .bool looked, .pointer park, .int .i64 goes] 62, X, Y, cellsA xb #[.int .i64 1, .int .i64 3, .int .i64 3, .int .i64 3, .int .i64 1, .int .i64 9] 32]) → Calls Try.prog 44 #[.pointer (some pa), .pointer (some ⟨gs, 0, none⟩)] w1 fun e w' => e = .returned (.bool true) ∧ Own w0 w' (storeA gs sb ms' :: [cellsA pb #[.int .i64 1, .int .i64 3, .int .i64 3, .int .i64 3] 26, cellsA rb #[.int .i64 1, .int .i64 3, .int .i64 3, .int .i64 3, .int .i64 1, .int .i64 9] 32, cellsA ab #[.slice so n sc, .int .i64 at_, .int .i64 come, .pointer (some pa), .int .i64 got] 58, cellsA bb #[.int .i64 stage, .bool looked, .pointer park, .int .i64 goes] 62, X', Y, cellsA xb #[.int .i64 1, .int .i64 3, .int .i64 3, .int .i64 3, .int .i64 1, .int .i64 9] 32]))
    (hb : ∀ w1 xb, Own w0 w1 (storeA gs sb ms' :: [cellsA pb #[.int .i64 1, .int .i64 3, .int .i64 3, .int .i64 3] 26, cellsA rb #[.int .i64 1, .int .i64 3, .int .i64 3, .int .i64 3, .int .i64 1, .int .i64 9] 32, cellsA ab #[.slice so n sc, .int .i64 at_, .int .i64 come, .pointer (some pa), .int .i64 got] 58, cellsA bb #[.int .i64 stage, .bool looked, .pointer park, .int .i64 goes] 62, X', Y, cellsA xb #[.int .i64 1, .int .i64 3, .int .i64 3, .int .i64 3, .int .i64 1, .int .i64 9] 32]) → Calls Try.prog 45 #[.pointer (some pa)] w1 fun e w' => e = .returned (.tuple #[.int .i64 fr, .bool gt]) ∧ Own w0 w' (storeA gs sb ms' :: [cellsA pb #[.int .i64 1, .int .i64 3, .int .i64 3, .int .i64 3] 26, cellsA rb #[.int .i64 1, .int .i64 3, .int .i64 3, .int .i64 3, .int .i64 1, .int .i64 9] 32, cellsA ab #[.slice so n sc, .int .i64 at_, .int .i64 come, .pointer (some pa), .int .i64 got] 58, cellsA bb #[.int .i64 stage, .bool looked, .pointer park, .int .i64 goes] 62, X', Y, cellsA xb #[.int .i64 1, .int .i64 3, .int .i64 3, .int .i64 3, .int .i64 1, .int .i64 9] 32])) :
    Calls Try.prog 36 #[.pointer (some ⟨ab, 0, none⟩), .pointer (some ⟨gs, 0, none⟩), .agg #[.int .i64 1, .int .i64 3, .int .i64 3, .int .i64 3, .int .i64 1, .int .i64 9]] w fun e w' => e = .returned (.tuple #[]) ∧ Own w0 w' (storeA gs sb ms' :: [cellsA pb #[.int .i64 1, .int .i64 3, .int .i64 3, .int .i64 3] 26, cellsA rb #[.int .i64 1, .int .i64 3, .int .i64 3, .int .i64 3, .int .i64 1, .int .i64 9] 32, cellsA ab #[.slice so n sc, .int .i64 at_, .int .i64 come, .pointer none, .int .i64 g2] 58, cellsA bb #[.int .i64 stage, .bool looked, .pointer park, .int .i64 goes] 62, noA, Y]) := by
  have h1 := h.box #[.int .i64 1, .int .i64 3, .int .i64 3, .int .i64 3, .int .i64 1, .int .i64 9] 32
  replace hs := Lib.hid hs
  replace hb := Lib.hid hb
  have CC := Lib.hid (fun (w1 : World) (xb : Nat) (h1 : Own w0 w1 (storeA gs sb ms' :: [cellsA pb #[.int .i64 1, .int .i64 3, .int .i64 3, .int .i64 3] 26, cellsA rb #[.int .i64 1, .int .i64 3, .int .i64 3, .int .i64 3, .int .i64 1, .int .i64 9] 32, cellsA ab #[.slice so n sc, .int .i64 at_, .int .i64 come, .pointer (some pa), .int .i64 got] 58, cellsA bb #[.int .i64 stage, .bool looked, .pointer park, .int .i64 goes] 62, X', Y, cellsA xb #[.int .i64 1, .int .i64 3, .int .i64 3, .int .i64 3, .int .i64 1, .int .i64 9] 32])) => And.intro (cells_at 3 h1 rfl 3 (.pointer (some pa)) rfl) (And.intro (cells_at 3 h1 rfl 4 (.int .i64 got) rfl)
    (show Own w0 ((w1.setCell ⟨ab, 4, none⟩ (.int .i64 (got + 1))).setCell ⟨ab, 3, none⟩ (.pointer none)) (storeA gs sb ms' :: [cellsA pb #[.int .i64 1, .int .i64 3, .int .i64 3, .int .i64 3] 26, cellsA rb #[.int .i64 1, .int .i64 3, .int .i64 3, .int .i64 3, .int .i64 1, .int .i64 9] 32, cellsA ab #[.slice so n sc, .int .i64 at_, .int .i64 come, .pointer none, .int .i64 (got + 1)] 58, cellsA bb #[.int .i64 stage, .bool looked, .pointer park, .int .i64 goes] 62, X', Y, cellsA xb #[.int .i64 1, .int .i64 3, .int .i64 3, .int .i64 3, .int .i64 1, .int .i64 9] 32]) ∧ Own w0 (w1.setCell ⟨ab, 3, none⟩ (.pointer none)) (storeA gs sb ms' :: [cellsA pb #[.int .i64 1, .int .i64 3, .int .i64 3, .int .i64 3] 26, cellsA rb #[.int .i64 1, .int .i64 3, .int .i64 3, .int .i64 3, .int .i64 1, .int .i64 9] 32, cellsA ab #[.slice so n sc, .int .i64 at_, .int .i64 come, .pointer none, .int .i64 got] 58, cellsA bb #[.int .i64 stage, .bool looked, .pointer park, .int .i64 goes] 62, X', Y, cellsA xb #[.int .i64 1, .int .i64 3, .int .i64 3, .int .i64 3, .int .i64 1, .int .i64 9] 32]) from
      ⟨(h1.cset 3 rfl 4 (.int .i64 (got + 1))).cset 3 rfl 3 (.pointer none), h1.cset 3 rfl 3 (.pointer none)⟩)))
  clear h
  go_enter Try.func36, Try.ntmps36
  go_upto_region 1 with fail
  generalize w.alloc (.cells #[.int .i64 1, .int .i64 3, .int .i64 3, .int .i64 3, .int .i64 1, .int .i64 9] 32) = wx at *
  generalize w.heap.size = xb at *
  have S := Lib.hid (hs.out _ _ h1)
  obtain ⟨c3, f3⟩ := cells_at 3 h1 rfl 3 (.pointer (some pa)) rfl
  cases gt
  all_goals
    subst hg2
    go_wp2_with (first | (go_at_call 44; refine S.out.mono ?_; rintro e w2 ⟨rfl, h2⟩; obtain ⟨⟨d2, k2⟩, ⟨d3, k3⟩, _⟩ := CC.out _ _ h2) | (go_at_call 45; refine (hb.out _ _ h2).mono ?_; rintro e w3 ⟨rfl, h2b⟩; obtain ⟨⟨e2, l2⟩, ⟨e3, l3⟩, h3, h4⟩ := CC.out _ _ h2b))
    go_end0
    first | exact ⟨rfl, h4.none.sel [0, 1, 2, 3, 4, 8, 6] (by decide)⟩ | exact ⟨rfl, h3.none.sel [0, 1, 2, 3, 4, 8, 6] (by decide)⟩
theorem ahead_past {w0 w : World} {gs sb pb rb ab bb : Nat} {ms : List Int} {so : Option Addr} {n sc : Nat} {at_ come got stage goes : Int} {look park : Option Addr} {looked : Bool} {X Y : Ast} {k : Nat} {ms' : List Int} (ok : okPlan 1 3 3 3 = true) (hk : (k : Int) = n) (hkb : k ≤ 60) (hl : 9 < ms.length) (hm : ms.set 9 1048576 = ms') (h : Own w0 w (storeA gs sb ms :: [cellsA pb #[.int .i64 1, .int .i64 3, .int .i64 3, .int .i64 3] 26, cellsA rb #[.int .i64 1, .int .i64 3, .int .i64 3, .int .i64 3, .int .i64 1, .int .i64 9] 32, cellsA ab #[.slice so n sc, .int .i64 k, .int .i64 come, .pointer none, .int .i64 got] 58, cellsA bb #[.int .i64 stage, .bool looked, .pointer park, .int .i64 goes] 62, X, Y])) :
    Calls Try.prog 36 #[.pointer (some ⟨ab, 0, none⟩), .pointer (some ⟨gs, 0, none⟩), .agg #[.int .i64 1, .int .i64 3, .int .i64 3, .int .i64 3, .int .i64 1, .int .i64 9]] w fun e w' => e = .returned (.tuple #[]) ∧ ∃ ra, Own w0 w' (storeA gs sb ms' :: [cellsA pb #[.int .i64 1, .int .i64 3, .int .i64 3, .int .i64 3] 26, cellsA rb #[.int .i64 1, .int .i64 3, .int .i64 3, .int .i64 3, .int .i64 1, .int .i64 9] 32, cellsA ab #[.slice so n sc, .int .i64 (k + 1 : Int), .int .i64 1048576, .pointer (some ⟨ra, 0, none⟩), .int .i64 got] 58, cellsA bb #[.int .i64 stage, .bool looked, .pointer park, .int .i64 goes] 62, cellsA ra #[.int .i64 1, .int .i64 3, .int .i64 3, .int .i64 3, .int .i64 1, .int .i64 9, .int .i64 1, .int .i64 1048576, .int .i64 0, .int .i64 0, .int .i64 0, .bool false] 107, Y]) := by
  have h1 := h.box #[.int .i64 1, .int .i64 3, .int .i64 3, .int .i64 3, .int .i64 1, .int .i64 9] 32
  have GO := Lib.hid (fun (w1 : World) (xb : Nat) (h1 : Own w0 w1 (storeA gs sb ms :: [cellsA pb #[.int .i64 1, .int .i64 3, .int .i64 3, .int .i64 3] 26, cellsA rb #[.int .i64 1, .int .i64 3, .int .i64 3, .int .i64 3, .int .i64 1, .int .i64 9] 32, cellsA ab #[.slice so n sc, .int .i64 (k + 1 : Int), .int .i64 1048576, .pointer none, .int .i64 got] 58, cellsA bb #[.int .i64 stage, .bool looked, .pointer park, .int .i64 goes] 62, X, Y, cellsA xb #[.int .i64 1, .int .i64 3, .int .i64 3, .int .i64 3, .int .i64 1, .int .i64 9] 32])) => r_go h1 ok 1 9 0 1048576 (at_ := 9) (by decide) hl ms' hm)
  have LK := Lib.hid (fun (w1 : World) (xb : Nat) (h1 : Own w0 w1 (storeA gs sb ms' :: [cellsA pb #[.int .i64 1, .int .i64 3, .int .i64 3, .int .i64 3] 26, cellsA rb #[.int .i64 1, .int .i64 3, .int .i64 3, .int .i64 3, .int .i64 1, .int .i64 9] 32, cellsA ab #[.slice so n sc, .int .i64 (k + 1 : Int), .int .i64 1048576, .pointer none, .int .i64 got] 58, cellsA bb #[.int .i64 stage, .bool looked, .pointer park, .int .i64 goes] 62, X, Y, cellsA xb #[.int .i64 1, .int .i64 3, .int .i64 3, .int .i64 3, .int .i64 1, .int .i64 9] 32])) => right_new h1 1 3 3 3 1 9 0 1 1048576 (IntWalk.wrap64_in _ (by omega)))
  have CC := Lib.hid (fun (w1 : World) (xb : Nat) (mm : List Int) (h1 : Own w0 w1 (storeA gs sb mm :: [cellsA pb #[.int .i64 1, .int .i64 3, .int .i64 3, .int .i64 3] 26, cellsA rb #[.int .i64 1, .int .i64 3, .int .i64 3, .int .i64 3, .int .i64 1, .int .i64 9] 32, cellsA ab #[.slice so n sc, .int .i64 (k + 1 : Int), .int .i64 1048576, .pointer none, .int .i64 got] 58, cellsA bb #[.int .i64 stage, .bool looked, .pointer park, .int .i64 goes] 62, X, Y, cellsA xb #[.int .i64 1, .int .i64 3, .int .i64 3, .int .i64 3, .int .i64 1, .int .i64 9] 32])) => And.intro (cells6 7 h1 rfl) (cells_at 3 h1 rfl 2 (.int .i64 1048576) rfl))
  have CD := Lib.hid (fun (w1 : World) (xb ra : Nat) (h1 : Own w0 w1 ((storeA gs sb ms' :: [cellsA pb #[.int .i64 1, .int .i64 3, .int .i64 3, .int .i64 3] 26, cellsA rb #[.int .i64 1, .int .i64 3, .int .i64 3, .int .i64 3, .int .i64 1, .int .i64 9] 32, cellsA ab #[.slice so n sc, .int .i64 (k + 1 : Int), .int .i64 1048576, .pointer none, .int .i64 got] 58, cellsA bb #[.int .i64 stage, .bool looked, .pointer park, .int .i64 goes] 62, X, Y, cellsA xb #[.int .i64 1, .int .i64 3, .int .i64 3, .int .i64 3, .int .i64 1, .int .i64 9] 32]) ++ [cellsA ra #[.int .i64 1, .int .i64 3, .int .i64 3, .int .i64 3, .int .i64 1, .int .i64 9, .int .i64 1, .int .i64 1048576, .int .i64 0, .int .i64 0, .int .i64 0, .bool false] 107])) => And.intro (cells_at 3 h1 rfl 3 (.pointer none) rfl)
    (show Own w0 (w1.setCell ⟨ab, 3, none⟩ (.pointer (some ⟨ra, 0, none⟩))) ((storeA gs sb ms' :: [cellsA pb #[.int .i64 1, .int .i64 3, .int .i64 3, .int .i64 3] 26, cellsA rb #[.int .i64 1, .int .i64 3, .int .i64 3, .int .i64 3, .int .i64 1, .int .i64 9] 32, cellsA ab #[.slice so n sc, .int .i64 (k + 1 : Int), .int .i64 1048576, .pointer (some ⟨ra, 0, none⟩), .int .i64 got] 58, cellsA bb #[.int .i64 stage, .bool looked, .pointer park, .int .i64 goes] 62, X, Y, cellsA xb #[.int .i64 1, .int .i64 3, .int .i64 3, .int .i64 3, .int .i64 1, .int .i64 9] 32]) ++ [cellsA ra #[.int .i64 1, .int .i64 3, .int .i64 3, .int .i64 3, .int .i64 1, .int .i64 9, .int .i64 1, .int .i64 1048576, .int .i64 0, .int .i64 0, .int .i64 0, .bool false] 107]) from h1.cset 3 rfl 3 (.pointer (some ⟨ra, 0, none⟩))))
  have E1 := Lib.hid (fun (w1 : World) (xb : Nat) (h1 : Own w0 w1 (storeA gs sb ms :: [cellsA pb #[.int .i64 1, .int .i64 3, .int .i64 3, .int .i64 3] 26, cellsA rb #[.int .i64 1, .int .i64 3, .int .i64 3, .int .i64 3, .int .i64 1, .int .i64 9] 32, cellsA ab #[.slice so n sc, .int .i64 k, .int .i64 come, .pointer none, .int .i64 got] 58, cellsA bb #[.int .i64 stage, .bool looked, .pointer park, .int .i64 goes] 62, X, Y, cellsA xb #[.int .i64 1, .int .i64 3, .int .i64 3, .int .i64 3, .int .i64 1, .int .i64 9] 32])) => show Own w0 (w1.setCell ⟨ab, 2, none⟩ (.int .i64 1048576)) (storeA gs sb ms :: [cellsA pb #[.int .i64 1, .int .i64 3, .int .i64 3, .int .i64 3] 26, cellsA rb #[.int .i64 1, .int .i64 3, .int .i64 3, .int .i64 3, .int .i64 1, .int .i64 9] 32, cellsA ab #[.slice so n sc, .int .i64 k, .int .i64 1048576, .pointer none, .int .i64 got] 58, cellsA bb #[.int .i64 stage, .bool looked, .pointer park, .int .i64 goes] 62, X, Y, cellsA xb #[.int .i64 1, .int .i64 3, .int .i64 3, .int .i64 3, .int .i64 1, .int .i64 9] 32]) from h1.cset 3 rfl 2 (.int .i64 1048576))
  have E2 := Lib.hid (fun (w1 : World) (xb : Nat) (h1 : Own w0 w1 (storeA gs sb ms :: [cellsA pb #[.int .i64 1, .int .i64 3, .int .i64 3, .int .i64 3] 26, cellsA rb #[.int .i64 1, .int .i64 3, .int .i64 3, .int .i64 3, .int .i64 1, .int .i64 9] 32, cellsA ab #[.slice so n sc, .int .i64 k, .int .i64 1048576, .pointer none, .int .i64 got] 58, cellsA bb #[.int .i64 stage, .bool looked, .pointer park, .int .i64 goes] 62, X, Y, cellsA xb #[.int .i64 1, .int .i64 3, .int .i64 3, .int .i64 3, .int .i64 1, .int .i64 9] 32])) => show Own w0 (w1.setCell ⟨ab, 1, none⟩ (.int .i64 (k + 1 : Int))) (storeA gs sb ms :: [cellsA pb #[.int .i64 1, .int .i64 3, .int .i64 3, .int .i64 3] 26, cellsA rb #[.int .i64 1, .int .i64 3, .int .i64 3, .int .i64 3, .int .i64 1, .int .i64 9] 32, cellsA ab #[.slice so n sc, .int .i64 (k + 1 : Int), .int .i64 1048576, .pointer none, .int .i64 got] 58, cellsA bb #[.int .i64 stage, .bool looked, .pointer park, .int .i64 goes] 62, X, Y, cellsA xb #[.int .i64 1, .int .i64 3, .int .i64 3, .int .i64 3, .int .i64 1, .int .i64 9] 32]) from h1.cset 3 rfl 1 (.int .i64 (k + 1 : Int)))
  clear hl hm ok
  obtain rfl : k = n := by omega
  clear hk
  clear h
  go_enter Try.func36, Try.ntmps36
  go_upto_region 1 with fail
  generalize w.alloc (.cells #[.int .i64 1, .int .i64 3, .int .i64 3, .int .i64 3, .int .i64 1, .int .i64 9] 32) = wx at *
  generalize w.heap.size = xb at *
  obtain ⟨c0, f0⟩ := cells_at 3 h1 rfl 0 (.slice so k sc) rfl
  obtain ⟨c1, f1⟩ := cells_at 3 h1 rfl 1 (.int .i64 k) rfl
  obtain ⟨c3, f3⟩ := cells_at 3 h1 rfl 3 (.pointer none) rfl
  go_wp2_with fail
  go_quiet (fail)
  clear c0 f0 c1 f1 c3 f3
  have h2 := h1.drewN nq
  generalize wx.drewN nq = w2 at *
  clear h1
  obtain ⟨c0, f0⟩ := cells_at 3 h2 rfl 0 (.slice so k sc) rfl
  obtain ⟨c1, f1⟩ := cells_at 3 h2 rfl 1 (.int .i64 k) rfl
  obtain ⟨c2, f2⟩ := cells_at 3 h2 rfl 2 (.int .i64 come) rfl
  have h3 := E1.out _ _ h2
  go_wp2_with fail
  clear c0 f0 c1 f1 c2 f2 h2
  generalize w2.setCell ⟨ab, 2, none⟩ (.int .i64 1048576) = w3 at *
  obtain ⟨c0, f0⟩ := cells_at 3 h3 rfl 0 (.slice so k sc) rfl
  obtain ⟨c1, f1⟩ := cells_at 3 h3 rfl 1 (.int .i64 k) rfl
  go_quiet (fail)
  clear c0 f0 c1 f1
  have h4 := h3.drewN nq
  generalize w3.drewN nq = w4 at *
  clear h3
  obtain ⟨c1, f1⟩ := cells_at 3 h4 rfl 1 (.int .i64 k) rfl
  have h5 := E2.out _ _ h4
  go_wp2_with fail
  clear c1 f1 h4
  generalize w4.setCell ⟨ab, 1, none⟩ (.int .i64 (k + 1 : Int)) = w5 at *
  obtain ⟨⟨y0, y1, y2, y3, y4, y5⟩, ⟨d0, k0⟩⟩ := CC.out _ _ _ h5
  have h6 := h5.drewN 1
  go_region_with (go_at_call 50; refine (GO.out _ _ h6).mono ?_; rintro e w7 ⟨rfl, h7⟩; obtain ⟨⟨z0, z1, z2, z3, z4, z5⟩, ⟨e0, l0⟩⟩ := CC.out _ _ _ h7)
  all_goals
    clear y0 y1 y2 y3 y4 y5 d0 k0 h5 h6
    have h8 := h7.drewN 1
    go_wp2_with fail
    go_region_with (go_at_call 38; refine (LK.out _ _ h8).mono ?_; rintro e w9 ⟨ra, rfl, h9⟩; obtain ⟨⟨g2, m2⟩, h10⟩ := CD.out _ _ _ h9)
    all_goals
      go_wp2_with fail
      go_end0
      exact ⟨rfl, ra, h10.sel [0, 1, 2, 3, 4, 8, 6] (by decide)⟩
theorem come_before {w : World} {ab : Nat} (x : Int) (c : w.cell? ⟨ab, 2, none⟩ = some (.int .i64 x)) : Calls Try.prog 68 #[.pointer (some ⟨ab, 0, none⟩)] w fun e w' => e = .returned (.int .i64 x) ∧ w = w' := by
  go_enter Try.func68, Try.ntmps68
  go_wp2
  go_ret
  exact ⟨rfl, rfl⟩
theorem ahead_next {w0 w : World} {gs sb pb rb ab bb : Nat} {ms : List Int} {so : Option Addr} {n sc : Nat} {at_ come got stage goes : Int} {look park : Option Addr} {looked : Bool} {X Y : Ast} {k : Nat} {ms' : List Int} {ad : Addr} {v : Int} (ok : okPlan 1 3 3 3 = true) (hk : k < n) (hkb : n ≤ 60) (hnc : n ≤ sc) (hsc : sc ≤ maxLen) (hso : so = some ad) (hv0 : w0.cell? (ad.add k) = some (.int .u8 v)) (hvb : 0 ≤ v ∧ v ≤ 255) (hl : 9 < ms.length) (hm : ms.set 9 1048575 = ms') (h : Own w0 w (storeA gs sb ms :: [cellsA pb #[.int .i64 1, .int .i64 3, .int .i64 3, .int .i64 3] 26, cellsA rb #[.int .i64 1, .int .i64 3, .int .i64 3, .int .i64 3, .int .i64 1, .int .i64 9] 32, cellsA ab #[.slice so n sc, .int .i64 k, .int .i64 come, .pointer none, .int .i64 got] 58, cellsA bb #[.int .i64 stage, .bool looked, .pointer park, .int .i64 goes] 62, X, Y])) :
    Calls Try.prog 36 #[.pointer (some ⟨ab, 0, none⟩), .pointer (some ⟨gs, 0, none⟩), .agg #[.int .i64 1, .int .i64 3, .int .i64 3, .int .i64 3, .int .i64 1, .int .i64 9]] w fun e w' => e = .returned (.tuple #[]) ∧ ∃ ra, Own w0 w' (storeA gs sb ms' :: [cellsA pb #[.int .i64 1, .int .i64 3, .int .i64 3, .int .i64 3] 26, cellsA rb #[.int .i64 1, .int .i64 3, .int .i64 3, .int .i64 3, .int .i64 1, .int .i64 9] 32, cellsA ab #[.slice so n sc, .int .i64 (k + 1 : Int), .int .i64 1048575, .pointer (some ⟨ra, 0, none⟩), .int .i64 got] 58, cellsA bb #[.int .i64 stage, .bool looked, .pointer park, .int .i64 goes] 62, cellsA ra #[.int .i64 1, .int .i64 3, .int .i64 3, .int .i64 3, .int .i64 1, .int .i64 9, .int .i64 1, .int .i64 1048575, .int .i64 0, .int .i64 0, .int .i64 0, .bool false] 107, Y]) := by
  subst hso
  have h1 := h.box #[.int .i64 1, .int .i64 3, .int .i64 3, .int .i64 3, .int .i64 1, .int .i64 9] 32
  have GO := Lib.hid (fun (w1 : World) (xb : Nat) (h1 : Own w0 w1 (storeA gs sb ms :: [cellsA pb #[.int .i64 1, .int .i64 3, .int .i64 3, .int .i64 3] 26, cellsA rb #[.int .i64 1, .int .i64 3, .int .i64 3, .int .i64 3, .int .i64 1, .int .i64 9] 32, cellsA ab #[.slice (some ad) n sc, .int .i64 (k + 1 : Int), .int .i64 1048575, .pointer none, .int .i64 got] 58, cellsA bb #[.int .i64 stage, .bool looked, .pointer park, .int .i64 goes] 62, X, Y, cellsA xb #[.int .i64 1, .int .i64 3, .int .i64 3, .int .i64 3, .int .i64 1, .int .i64 9] 32])) => r_go h1 ok 1 9 0 1048575 (at_ := 9) (by decide) hl ms' hm)
  have LK := Lib.hid (fun (w1 : World) (xb : Nat) (h1 : Own w0 w1 (storeA gs sb ms' :: [cellsA pb #[.int .i64 1, .int .i64 3, .int .i64 3, .int .i64 3] 26, cellsA rb #[.int .i64 1, .int .i64 3, .int .i64 3, .int .i64 3, .int .i64 1, .int .i64 9] 32, cellsA ab #[.slice (some ad) n sc, .int .i64 (k + 1 : Int), .int .i64 1048575, .pointer none, .int .i64 got] 58, cellsA bb #[.int .i64 stage, .bool looked, .pointer park, .int .i64 goes] 62, X, Y, cellsA xb #[.int .i64 1, .int .i64 3, .int .i64 3, .int .i64 3, .int .i64 1, .int .i64 9] 32])) => right_new h1 1 3 3 3 1 9 0 1 1048575 (IntWalk.wrap64_in _ (by omega)))
  have CC := Lib.hid (fun (w1 : World) (xb : Nat) (mm : List Int) (h1 : Own w0 w1 (storeA gs sb mm :: [cellsA pb #[.int .i64 1, .int .i64 3, .int .i64 3, .int .i64 3] 26, cellsA rb #[.int .i64 1, .int .i64 3, .int .i64 3, .int .i64 3, .int .i64 1, .int .i64 9] 32, cellsA ab #[.slice (some ad) n sc, .int .i64 (k + 1 : Int), .int .i64 1048575, .pointer none, .int .i64 got] 58, cellsA bb #[.int .i64 stage, .bool looked, .pointer park, .int .i64 goes] 62, X, Y, cellsA xb #[.int .i64 1, .int .i64 3, .int .i64 3, .int .i64 3, .int .i64 1, .int .i64 9] 32])) => And.intro (cells6 7 h1 rfl) (cells_at 3 h1 rfl 2 (.int .i64 1048575) rfl))
  have CD := Lib.hid (fun (w1 : World) (xb ra : Nat) (h1 : Own w0 w1 ((storeA gs sb ms' :: [cellsA pb #[.int .i64 1, .int .i64 3, .int .i64 3, .int .i64 3] 26, cellsA rb #[.int .i64 1, .int .i64 3, .int .i64 3, .int .i64 3, .int .i64 1, .int .i64 9] 32, cellsA ab #[.slice (some ad) n sc, .int .i64 (k + 1 : Int), .int .i64 1048575, .pointer none, .int .i64 got] 58, cellsA bb #[.int .i64 stage, .bool looked, .pointer park, .int .i64 goes] 62, X, Y, cellsA xb #[.int .i64 1, .int .i64 3, .int .i64 3, .int .i64 3, .int .i64 1, .int .i64 9] 32]) ++ [cellsA ra #[.int .i64 1, .int .i64 3, .int .i64 3, .int .i64 3, .int .i64 1, .int .i64 9, .int .i64 1, .int .i64 1048575, .int .i64 0, .int .i64 0, .int .i64 0, .bool false] 107])) => And.intro (cells_at 3 h1 rfl 3 (.pointer none) rfl)
    (show Own w0 (w1.setCell ⟨ab, 3, none⟩ (.pointer (some ⟨ra, 0, none⟩))) ((storeA gs sb ms' :: [cellsA pb #[.int .i64 1, .int .i64 3, .int .i64 3, .int .i64 3] 26, cellsA rb #[.int .i64 1, .int .i64 3, .int .i64 3, .int .i64 3, .int .i64 1, .int .i64 9] 32, cellsA ab #[.slice (some ad) n sc, .int .i64 (k + 1 : Int), .int .i64 1048575, .pointer (some ⟨ra, 0, none⟩), .int .i64 got] 58, cellsA bb #[.int .i64 stage, .bool looked, .pointer park, .int .i64 goes] 62, X, Y, cellsA xb #[.int .i64 1, .int .i64 3, .int .i64 3, .int .i64 3, .int .i64 1, .int .i64 9] 32]) ++ [cellsA ra #[.int .i64 1, .int .i64 3, .int .i64 3, .int .i64 3, .int .i64 1, .int .i64 9, .int .i64 1, .int .i64 1048575, .int .i64 0, .int .i64 0, .int .i64 0, .bool false] 107]) from h1.cset 3 rfl 3 (.pointer (some ⟨ra, 0, none⟩))))
  have E1 := Lib.hid (fun (w1 : World) (xb : Nat) (X1 : Int) (h1 : Own w0 w1 (storeA gs sb ms :: [cellsA pb #[.int .i64 1, .int .i64 3, .int .i64 3, .int .i64 3] 26, cellsA rb #[.int .i64 1, .int .i64 3, .int .i64 3, .int .i64 3, .int .i64 1, .int .i64 9] 32, cellsA ab #[.slice (some ad) n sc, .int .i64 k, .int .i64 come, .pointer none, .int .i64 got] 58, cellsA bb #[.int .i64 stage, .bool looked, .pointer park, .int .i64 goes] 62, X, Y, cellsA xb #[.int .i64 1, .int .i64 3, .int .i64 3, .int .i64 3, .int .i64 1, .int .i64 9] 32])) => show Own w0 (w1.setCell ⟨ab, 2, none⟩ (.int .i64 X1)) (storeA gs sb ms :: [cellsA pb #[.int .i64 1, .int .i64 3, .int .i64 3, .int .i64 3] 26, cellsA rb #[.int .i64 1, .int .i64 3, .int .i64 3, .int .i64 3, .int .i64 1, .int .i64 9] 32, cellsA ab #[.slice (some ad) n sc, .int .i64 k, .int .i64 X1, .pointer none, .int .i64 got] 58, cellsA bb #[.int .i64 stage, .bool looked, .pointer park, .int .i64 goes] 62, X, Y, cellsA xb #[.int .i64 1, .int .i64 3, .int .i64 3, .int .i64 3, .int .i64 1, .int .i64 9] 32]) from h1.cset 3 rfl 2 (.int .i64 X1))
  have E3 := Lib.hid (fun (w1 : World) (xb : Nat) (X1 : Int) (h1 : Own w0 w1 (storeA gs sb ms :: [cellsA pb #[.int .i64 1, .int .i64 3, .int .i64 3, .int .i64 3] 26, cellsA rb #[.int .i64 1, .int .i64 3, .int .i64 3, .int .i64 3, .int .i64 1, .int .i64 9] 32, cellsA ab #[.slice (some ad) n sc, .int .i64 k, .int .i64 1048576, .pointer none, .int .i64 got] 58, cellsA bb #[.int .i64 stage, .bool looked, .pointer park, .int .i64 goes] 62, X, Y, cellsA xb #[.int .i64 1, .int .i64 3, .int .i64 3, .int .i64 3, .int .i64 1, .int .i64 9] 32])) => show Own w0 (w1.setCell ⟨ab, 2, none⟩ (.int .i64 X1)) (storeA gs sb ms :: [cellsA pb #[.int .i64 1, .int .i64 3, .int .i64 3, .int .i64 3] 26, cellsA rb #[.int .i64 1, .int .i64 3, .int .i64 3, .int .i64 3, .int .i64 1, .int .i64 9] 32, cellsA ab #[.slice (some ad) n sc, .int .i64 k, .int .i64 X1, .pointer none, .int .i64 got] 58, cellsA bb #[.int .i64 stage, .bool looked, .pointer park, .int .i64 goes] 62, X, Y, cellsA xb #[.int .i64 1, .int .i64 3, .int .i64 3, .int .i64 3, .int .i64 1, .int .i64 9] 32]) from h1.cset 3 rfl 2 (.int .i64 X1))
  have E2 := Lib.hid (fun (w1 : World) (xb : Nat) (h1 : Own w0 w1 (storeA gs sb ms :: [cellsA pb #[.int .i64 1, .int .i64 3, .int .i64 3, .int .i64 3] 26, cellsA rb #[.int .i64 1, .int .i64 3, .int .i64 3, .int .i64 3, .int .i64 1, .int .i64 9] 32, cellsA ab #[.slice (some ad) n sc, .int .i64 k, .int .i64 1048575, .pointer none, .int .i64 got] 58, cellsA bb #[.int .i64 stage, .bool looked, .pointer park, .int .i64 goes] 62, X, Y, cellsA xb #[.int .i64 1, .int .i64 3, .int .i64 3, .int .i64 3, .int .i64 1, .int .i64 9] 32])) => show Own w0 (w1.setCell ⟨ab, 1, none⟩ (.int .i64 (k + 1 : Int))) (storeA gs sb ms :: [cellsA pb #[.int .i64 1, .int .i64 3, .int .i64 3, .int .i64 3] 26, cellsA rb #[.int .i64 1, .int .i64 3, .int .i64 3, .int .i64 3, .int .i64 1, .int .i64 9] 32, cellsA ab #[.slice (some ad) n sc, .int .i64 (k + 1 : Int), .int .i64 1048575, .pointer none, .int .i64 got] 58, cellsA bb #[.int .i64 stage, .bool looked, .pointer park, .int .i64 goes] 62, X, Y, cellsA xb #[.int .i64 1, .int .i64 3, .int .i64 3, .int .i64 3, .int .i64 1, .int .i64 9] 32]) from h1.cset 3 rfl 1 (.int .i64 (k + 1 : Int)))
  have KP := Lib.hid (fun (w1 : World) (xb : Nat) (X1 : Int) (h1 : Own w0 w1 (storeA gs sb ms :: [cellsA pb #[.int .i64 1, .int .i64 3, .int .i64 3, .int .i64 3] 26, cellsA rb #[.int .i64 1, .int .i64 3, .int .i64 3, .int .i64 3, .int .i64 1, .int .i64 9] 32, cellsA ab #[.slice (some ad) n sc, .int .i64 k, .int .i64 X1, .pointer none, .int .i64 got] 58, cellsA bb #[.int .i64 stage, .bool looked, .pointer park, .int .i64 goes] 62, X, Y, cellsA xb #[.int .i64 1, .int .i64 3, .int .i64 3, .int .i64 3, .int .i64 1, .int .i64 9] 32])) => And.intro (show (fun w' : World => w'.cell? ⟨ab, 0, none⟩ = some (.slice (some ad) n sc) ∧ w'.cell? ⟨ab, 1, none⟩ = some (.int .i64 k) ∧ w'.cell? (ad.add k) = some (.int .u8 v)) w1 from ⟨(cells_at 3 h1 rfl 0 (.slice (some ad) n sc) rfl).1, (cells_at 3 h1 rfl 1 (.int .i64 k) rfl).1, h1.old hv0⟩) (cells_at 3 h1 rfl 2 (.int .i64 X1) rfl))
  clear hl hm ok hv0
  unfold maxLen at hsc
  obtain ⟨hvb1, hvb2⟩ := hvb
  have hv1 : IntKind.i64.wrap v = v := IntWalk.i64_in _ (by omega)
  have hv2 : v.tmod 4 = v % 4 := Int.tmod_eq_emod_of_nonneg hvb1
  have hv3 : 0 ≤ v % 4 ∧ v % 4 < 4 := by omega
  obtain ⟨hv4, hv5⟩ := hv3
  have hv6 : min (1048577 + v % 4) 1048575 = 1048575 := by omega
  have hv7 : IntKind.i64.wrap (1048577 + v % 4) = 1048577 + v % 4 := IntWalk.i64_in _ (by omega)
  generalize v % 4 = vm at *
  clear h
  go_enter Try.func36, Try.ntmps36
  go_upto_region 1 with fail
  generalize w.alloc (.cells #[.int .i64 1, .int .i64 3, .int .i64 3, .int .i64 3, .int .i64 1, .int .i64 9] 32) = wx at *
  generalize w.heap.size = xb at *
  obtain ⟨c0, f0⟩ := cells_at 3 h1 rfl 0 (.slice (some ad) n sc) rfl
  obtain ⟨c1, f1⟩ := cells_at 3 h1 rfl 1 (.int .i64 k) rfl
  obtain ⟨c3, f3⟩ := cells_at 3 h1 rfl 3 (.pointer none) rfl
  go_wp2_with fail
  go_quiet (fail)
  clear c0 f0 c1 f1 c3 f3
  have h2 := h1.drewN nq
  generalize wx.drewN nq = w2 at *
  clear h1
  obtain ⟨c0, f0⟩ := cells_at 3 h2 rfl 0 (.slice (some ad) n sc) rfl
  obtain ⟨c1, f1⟩ := cells_at 3 h2 rfl 1 (.int .i64 k) rfl
  obtain ⟨c2, f2⟩ := cells_at 3 h2 rfl 2 (.int .i64 come) rfl
  have h3 := E1.out _ _ 1048576 h2
  go_wp2_with fail
  clear c0 f0 c1 f1 c2 f2 h2
  generalize w2.setCell ⟨ab, 2, none⟩ (.int .i64 1048576) = w3 at *
  obtain ⟨c0, f0⟩ := cells_at 3 h3 rfl 0 (.slice (some ad) n sc) rfl
  obtain ⟨c1, f1⟩ := cells_at 3 h3 rfl 1 (.int .i64 k) rfl
  go_quiet (fail)
  clear c0 f0 c1 f1
  have h4 := h3.drewN nq
  generalize w3.drewN nq = w4 at *
  clear h3
  have hB1 := h4.drewN 1
  obtain ⟨hS0', c2', f2'⟩ := KP.out _ _ _ hB1
  have hS0 : (fun w' : World => w'.cell? ⟨ab, 0, none⟩ = some (.slice (some ad) n sc) ∧ w'.cell? ⟨ab, 1, none⟩ = some (.int .i64 k) ∧ w'.cell? (ad.add k) = some (.int .u8 v)) w4.drew := hS0'
  have c2 : w4.drew.cell? ⟨ab, 2, none⟩ = some (.int .i64 1048576) := c2'
  have f2 : w4.drew.frozen? ⟨ab, 2, none⟩ = false := f2'
  clear hS0' c2' f2'
  have CB := Lib.hid (come_before 1048576 c2)
  have hmn : min (IntKind.i64.wrap (IntKind.i64.wrap 1048577 + vm)) 1048575 = (1048575 : Int) := by rw [show IntKind.i64.wrap 1048577 = 1048577 from IntWalk.i64_in _ (by omega), hv7]; exact hv6
  have h5 := (E3.out _ _ (min (IntKind.i64.wrap (IntKind.i64.wrap 1048577 + vm)) 1048575) h4).drewN 1
  have zS := Lib.hid (show (fun w' : World => w'.cell? ⟨ab, 0, none⟩ = some (.slice (some ad) n sc) ∧ w'.cell? ⟨ab, 1, none⟩ = some (.int .i64 k) ∧ w'.cell? (ad.add k) = some (.int .u8 v)) _ from (KP.out _ _ _ h5).1)
  replace hmn := Lib.hid hmn
  go_wp2_with fail
  refine lin_start (S := (fun w' : World => w'.cell? ⟨ab, 0, none⟩ = some (.slice (some ad) n sc) ∧ w'.cell? ⟨ab, 1, none⟩ = some (.int .i64 k) ∧ w'.cell? (ad.add k) = some (.int .u8 v))) rfl 21 rfl hS0 ?_
  simp only [numbered, Nat.zero_add, Nat.reduceAdd]
  refine lin_take (v := ?_) (by kernel_rfl) (by kernel_rfl) (fun _ _ _ h => h) (Or.inl ⟨by rfl, ?_⟩) (by assumption) ?_; (rotate_left; (intro wS hSw; (try dsimp only at hSw); go_simp; (try with_reducible rfl)); rotate_left); simp only [Act.put, List.setIfInBounds_toArray, List.set_cons_zero, List.set_cons_succ]
  refine lin_take (v := ?_) (by kernel_rfl) (by kernel_rfl) (fun _ _ _ h => h) (Or.inl ⟨by rfl, ?_⟩) (by assumption) ?_; (rotate_left; (intro wS hSw; (try dsimp only at hSw); go_simp; (try with_reducible rfl)); rotate_left); simp only [Act.put, List.setIfInBounds_toArray, List.set_cons_zero, List.set_cons_succ]
  refine lin_rot ?_; simp only [List.cons_append, List.nil_append]
  refine lin_rot ?_; simp only [List.cons_append, List.nil_append]
  refine lin_take (v := ?_) (by kernel_rfl) (by kernel_rfl) (fun _ _ _ h => h) (Or.inl ⟨by rfl, ?_⟩) (by assumption) ?_; (rotate_left; (intro wS hSw; (try dsimp only at hSw); go_simp; (try with_reducible rfl)); rotate_left); simp only [Act.put, List.setIfInBounds_toArray, List.set_cons_zero, List.set_cons_succ]
  refine lin_take (v := ?_) (by kernel_rfl) (by kernel_rfl) (fun _ _ _ h => h) (Or.inl ⟨by rfl, ?_⟩) (by assumption) ?_; (rotate_left; (intro wS hSw; (try dsimp only at hSw); go_simp; (try with_reducible rfl)); rotate_left); simp only [Act.put, List.setIfInBounds_toArray, List.set_cons_zero, List.set_cons_succ]
  refine lin_take (v := ?_) (by kernel_rfl) (by kernel_rfl) (fun _ _ _ h => h) (Or.inl ⟨by rfl, ?_⟩) (by assumption) ?_; (rotate_left; (intro wS hSw; (try dsimp only at hSw); go_simp; (try with_reducible rfl)); rotate_left); simp only [Act.put, List.setIfInBounds_toArray, List.set_cons_zero, List.set_cons_succ]
  refine lin_take (v := ?_) (by kernel_rfl) (by kernel_rfl) (fun _ _ _ h => h) (Or.inl ⟨by rfl, ?_⟩) (by assumption) ?_; (rotate_left; (intro wS hSw; (try dsimp only at hSw); go_simp; (try with_reducible rfl)); rotate_left); simp only [Act.put, List.setIfInBounds_toArray, List.set_cons_zero, List.set_cons_succ]
  refine lin_take (v := ?_) (by kernel_rfl) (by kernel_rfl) (fun _ _ _ h => h) (Or.inl ⟨by rfl, ?_⟩) (by assumption) ?_; (rotate_left; (intro wS hSw; (try dsimp only at hSw); go_simp; (try with_reducible rfl)); rotate_left); simp only [Act.put, List.setIfInBounds_toArray, List.set_cons_zero, List.set_cons_succ]
  refine lin_take (v := ?_) (by kernel_rfl) (by kernel_rfl) (fun _ _ _ h => h) (Or.inl ⟨by rfl, ?_⟩) (by assumption) ?_; (rotate_left; (intro wS hSw; (try dsimp only at hSw); go_simp; (try with_reducible rfl)); rotate_left); simp only [Act.put, List.setIfInBounds_toArray, List.set_cons_zero, List.set_cons_succ]
  refine lin_take (v := ?_) (by kernel_rfl) (by kernel_rfl) (fun _ _ _ h => h) (Or.inl ⟨by rfl, ?_⟩) (by assumption) ?_; (rotate_left; (intro wS hSw; (try dsimp only at hSw); go_simp; (try with_reducible rfl)); rotate_left); simp only [Act.put, List.setIfInBounds_toArray, List.set_cons_zero, List.set_cons_succ]
  refine lin_take (v := ?_) (by kernel_rfl) (by kernel_rfl) (fun _ _ _ h => h) (Or.inl ⟨by rfl, ?_⟩) (by assumption) ?_; (rotate_left; (intro wS hSw; (try dsimp only at hSw); go_simp; (try with_reducible rfl)); rotate_left); simp only [Act.put, List.setIfInBounds_toArray, List.set_cons_zero, List.set_cons_succ]
  refine lin_take (v := ?_) (by kernel_rfl) (by kernel_rfl) (fun _ _ _ h => h) (Or.inl ⟨by rfl, ?_⟩) (by assumption) ?_; (rotate_left; (intro wS hSw; (try dsimp only at hSw); go_simp; (try with_reducible rfl)); rotate_left); simp only [Act.put, List.setIfInBounds_toArray, List.set_cons_zero, List.set_cons_succ]
  refine lin_take (v := ?_) (by kernel_rfl) (by kernel_rfl) (fun _ _ _ h => h) (Or.inl ⟨by rfl, ?_⟩) (by assumption) ?_; (rotate_left; (intro wS hSw; (try dsimp only at hSw); go_simp; (try with_reducible rfl)); rotate_left); simp only [Act.put, List.setIfInBounds_toArray, List.set_cons_zero, List.set_cons_succ]
  refine lin_take (v := ?_) (by kernel_rfl) (by kernel_rfl) (fun _ _ _ h => h) (Or.inl ⟨by rfl, ?_⟩) (by assumption) ?_; (rotate_left; (intro wS hSw; (try dsimp only at hSw); go_simp; (try with_reducible rfl)); rotate_left); simp only [Act.put, List.setIfInBounds_toArray, List.set_cons_zero, List.set_cons_succ]
  refine lin_take (v := ?_) (by kernel_rfl) (by kernel_rfl) (fun _ _ _ h => h) (Or.inl ⟨by rfl, ?_⟩) (by assumption) ?_; (rotate_left; (intro wS hSw; (try dsimp only at hSw); go_simp; (try with_reducible rfl)); rotate_left); simp only [Act.put, List.setIfInBounds_toArray, List.set_cons_zero, List.set_cons_succ]
  refine lin_rot ?_; simp only [List.cons_append, List.nil_append]
  refine lin_rot ?_; simp only [List.cons_append, List.nil_append]
  refine lin_rot ?_; simp only [List.cons_append, List.nil_append]
  refine lin_rot ?_; simp only [List.cons_append, List.nil_append]
  refine lin_rot ?_; simp only [List.cons_append, List.nil_append]
  refine lin_sole (by kernel_rfl) (fun K hK => ?_)
  go_simp
  refine CB.out.mono ?_
  rintro e w5 ⟨rfl, rfl⟩
  refine hK.out _ _ ?_ (fun hHeld => ?_)
  · exact hS0
  try simp only [Act.put, List.setIfInBounds_toArray, List.set_cons_zero, List.set_cons_succ]
  refine lin_take (v := ?_) (by kernel_rfl) (by kernel_rfl) (fun _ _ _ h => h) (Or.inl ⟨by rfl, ?_⟩) (by assumption) ?_; (rotate_left; (intro wS hSw; (try dsimp only at hSw); go_simp; (try with_reducible rfl)); rotate_left); simp only [Act.put, List.setIfInBounds_toArray, List.set_cons_zero, List.set_cons_succ]
  refine lin_take (v := ?_) (by kernel_rfl) (by kernel_rfl) (fun _ _ _ h => h) (Or.inl ⟨by rfl, ?_⟩) (by assumption) ?_; (rotate_left; (intro wS hSw; (try dsimp only at hSw); go_simp; (try with_reducible rfl)); rotate_left); simp only [Act.put, List.setIfInBounds_toArray, List.set_cons_zero, List.set_cons_succ]
  refine lin_take (v := ?_) (by kernel_rfl) (by kernel_rfl) (fun _ _ _ h => h) (Or.inl ⟨by rfl, ?_⟩) (by assumption) ?_; (rotate_left; (intro wS hSw; (try dsimp only at hSw); go_simp; (try with_reducible rfl)); rotate_left); simp only [Act.put, List.setIfInBounds_toArray, List.set_cons_zero, List.set_cons_succ]
  refine lin_take (v := ?_) (by kernel_rfl) (by kernel_rfl) (fun _ _ _ h => h) (Or.inl ⟨by rfl, ?_⟩) (by assumption) ?_; (rotate_left; (intro wS hSw; (try dsimp only at hSw); go_simp; (try with_reducible rfl)); rotate_left); simp only [Act.put, List.setIfInBounds_toArray, List.set_cons_zero, List.set_cons_succ]
  refine lin_take (v := ?_) (by kernel_rfl) (by kernel_rfl) (fun _ _ _ h => h) (Or.inl ⟨by rfl, ?_⟩) (by assumption) ?_; (rotate_left; (intro wS hSw; (try dsimp only at hSw); go_simp; (try with_reducible rfl)); rotate_left); simp only [Act.put, List.setIfInBounds_toArray, List.set_cons_zero, List.set_cons_succ]
  refine lin_sole (by kernel_rfl) (fun K hK => ?_)
  go_simp
  refine hK.out _ _ ?_ (fun hHeld => ?_)
  · exact zS.out
  try simp only [Act.put, List.setIfInBounds_toArray, List.set_cons_zero, List.set_cons_succ]
  refine lin_done (by kernel_rfl) ?_

  clear hHeld hS0 c2 f2 hB1 h4 zS
  rw [hmn.out] at h5 ⊢
  have h6 : Own w0 (w4.setCell ⟨ab, 2, none⟩ (.int .i64 1048575)).drew (storeA gs sb ms :: [cellsA pb #[.int .i64 1, .int .i64 3, .int .i64 3, .int .i64 3] 26, cellsA rb #[.int .i64 1, .int .i64 3, .int .i64 3, .int .i64 3, .int .i64 1, .int .i64 9] 32, cellsA ab #[.slice (some ad) n sc, .int .i64 k, .int .i64 1048575, .pointer none, .int .i64 got] 58, cellsA bb #[.int .i64 stage, .bool looked, .pointer park, .int .i64 goes] 62, X, Y, cellsA xb #[.int .i64 1, .int .i64 3, .int .i64 3, .int .i64 3, .int .i64 1, .int .i64 9] 32]) := h5
  clear h5
  generalize (w4.setCell ⟨ab, 2, none⟩ (.int .i64 1048575)).drew = w5 at *
  obtain ⟨c1, f1⟩ := cells_at 3 h6 rfl 1 (.int .i64 k) rfl
  have h7 := E2.out _ _ h6
  go_wp2_with fail
  clear c1 f1 h6
  generalize w5.setCell ⟨ab, 1, none⟩ (.int .i64 (k + 1 : Int)) = w6 at *
  obtain ⟨⟨y0, y1, y2, y3, y4, y5⟩, ⟨d0, k0⟩⟩ := CC.out _ _ _ h7
  have h8 := h7.drewN 1
  go_region_with (go_at_call 50; refine (GO.out _ _ h8).mono ?_; rintro e w7 ⟨rfl, h9⟩; obtain ⟨⟨z0, z1, z2, z3, z4, z5⟩, ⟨e0, l0⟩⟩ := CC.out _ _ _ h9)
  all_goals
    clear y0 y1 y2 y3 y4 y5 d0 k0 h7 h8
    have h10 := h9.drewN 1
    go_wp2_with fail
    go_region_with (go_at_call 38; refine (LK.out _ _ h10).mono ?_; rintro e w9 ⟨ra, rfl, h11⟩; obtain ⟨⟨g2, m2⟩, h12⟩ := CD.out _ _ _ h11)
    all_goals
      go_wp2_with fail
      go_end0
      exact ⟨rfl, ra, h12.sel [0, 1, 2, 3, 4, 8, 6] (by decide)⟩
end Go.Proofs.Ytooofpplhedgcaa
