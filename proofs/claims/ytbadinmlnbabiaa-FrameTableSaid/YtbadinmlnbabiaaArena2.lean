/- Package arena: what each of its functions does to an arena of one's own. -/
import Derived.Test.YtbadinmlnbabiaaArena
import Derived.Test.YtbadinmlnbabiaaLin
import Derived.Lib.MinMax
set_option linter.unusedVariables false
set_option linter.unusedSimpArgs false
namespace Go.Proofs.Ytbadinmlnbabiaa
open Go.RowKit
theorem Try.infoBoolK : (Try.prog.info? 4).map (fun i => (i.zero, i.size, i.bytes)) = some (some (.bool false), 1, 1) := by kernel_rfl
def cnt (hs : List Bool) : Int := (trues hs hs.length).length
def arenaL (g hb : Nat) (bv : Value) (hs : List Bool) (bs : List Int) (fr : Nat) (pk : Int) (l : List Ast) : List Ast :=
  cellsA g #[.slice (some ⟨hb, 0, none⟩) hs.length hs.length, bv, .int .i64 fr, .int .i64 pk] 88 :: rowA 4 1 (.slice (some ⟨hb, 0, none⟩) hs.length hs.length) hs.length (hs.map .bool) :: rowA 3 1 bv bs.length (bs.map (.int .i64)) :: l
/-- An arena of one's own. -/
def AOwn (w0 w : World) (g hb : Nat) (hs : List Bool) (bs : List Int) (fr : Nat) (pk : Int) (l : List Ast) : Prop := ∃ bv, Own w0 w (arenaL g hb bv hs bs fr pk l)
theorem AOwn.old {w0 w : World} {g hb : Nat} {hs : List Bool} {bs : List Int} {fr : Nat} {pk : Int} {l : List Ast} (h : AOwn w0 w g hb hs bs fr pk l) {p : Addr} {v : Value} (hp : w0.cell? p = some v) : w.cell? p = some v := h.elim fun bv h => h.old hp
theorem AOwn.below {w0 w : World} {g hb : Nat} {hs : List Bool} {bs : List Int} {fr : Nat} {pk : Int} {l : List Ast} (h : AOwn w0 w g hb hs bs fr pk l) : Below w0.heap.size w0 w := h.elim fun bv h => h.below
theorem AOwn.grow {w0 w w' : World} {g hb : Nat} {hs : List Bool} {bs : List Int} {fr : Nat} {pk : Int} {l : List Ast} (h : AOwn w0 w g hb hs bs fr pk l) (hw : Below w.heap.size w w') : AOwn w0 w' g hb hs bs fr pk l := h.elim fun bv h => ⟨bv, h.grow hw⟩
theorem AOwn.drewN {w0 w : World} {g hb : Nat} {hs : List Bool} {bs : List Int} {fr : Nat} {pk : Int} {l : List Ast} (h : AOwn w0 w g hb hs bs fr pk l) (n : Nat) : AOwn w0 (w.drewN n) g hb hs bs fr pk l := h.elim fun bv h => ⟨bv, h.drewN n⟩
theorem AOwn.box {w0 w : World} {g hb : Nat} {hs : List Bool} {bs : List Int} {fr : Nat} {pk : Int} {l : List Ast} (h : AOwn w0 w g hb hs bs fr pk l) (cs : Array Value) (t : TypeId) : AOwn w0 (w.alloc (.cells cs t)) g hb hs bs fr pk (l ++ [cellsA w.heap.size cs t]) := h.elim fun bv h => ⟨bv, h.box cs t⟩
theorem AOwn.unbox {w0 w : World} {g hb : Nat} {hs : List Bool} {bs : List Int} {fr : Nat} {pk : Int} {l l' : List Ast} (h : AOwn w0 w g hb hs bs fr pk (l ++ l')) : AOwn w0 w g hb hs bs fr pk l := h.elim fun bv h => ⟨bv, Own.pop (l := arenaL g hb bv hs bs fr pk l) h⟩
theorem bool_map {hs : List Bool} {a : Nat} (ha : a < hs.length) : (hs.map Value.bool)[a]? = some (.bool (hs.getD a false)) := by
  rw [List.getElem?_map, List.getElem?_eq_getElem ha, List.getD_eq_getElem?_getD, List.getElem?_eq_getElem ha]; rfl
theorem AOwn.held {w0 w : World} {g hb : Nat} {hs : List Bool} {bs : List Int} {fr : Nat} {pk : Int} {l : List Ast} (h : AOwn w0 w g hb hs bs fr pk l) : HeldIs w.heap.size w (some ⟨g, 0, none⟩) hs := by
  obtain ⟨bv, h⟩ := h
  refine .inr ⟨g, hb, rfl, lt_at (h.at 0 rfl), (h.row 1 rfl).lt rfl, (h.cget 0 rfl 0).1, fun j hj => ?_⟩
  exact h.row_get 1 rfl (bool_map hj)
set_option maxRecDepth 100000
set_option maxHeartbeats 4000000
theorem used_own {w0 w : World} {g hb : Nat} {hs : List Bool} {bs : List Int} {fr : Nat} {pk : Int} {l : List Ast} (h : AOwn w0 w g hb hs bs fr pk l) (hl : hs.length ≤ 4096) :
    Calls Try.prog 36 #[.pointer (some ⟨g, 0, none⟩)] w fun e w' => e = .returned (.int .i64 (cnt hs)) ∧ AOwn w0 w' g hb hs bs fr pk l :=
  (used_any _ hs hl w h.held).mono fun e w' ⟨he, hb⟩ => ⟨he, h.grow hb⟩
theorem used_none (w : World) : Calls Try.prog 36 #[.pointer none] w fun e w' => e = .returned (.int .i64 0) ∧ Below w.heap.size w w' :=
  used_any none [] (by simp) w (.inl ⟨rfl, rfl⟩)
theorem aNew_any (n : Int) (M : Nat) (hM : min (max n 0) 1000 = (M : Int)) {w0 w : World} (h : Below w0.heap.size w0 w) : Calls Try.prog 30 #[.int .i64 n] w fun e w' => e = .returned (.pointer (some ⟨w.heap.size + 1, 0, none⟩)) ∧ AOwn w0 w' (w.heap.size + 1) w.heap.size (List.replicate (M + 1) false) [] 0 0 [] := by
  obtain ⟨i0, hi, hz0, hz1', hz2'⟩ := info_parts' Try.infoBoolK
  have hMl : M ≤ 1000 := by omega
  have h1 := (Own.nil h).row_made 4 1 (madeCells #[.bool false] (M + 1)) (M + 1) (by unfold maxLen; omega) (by simp [madeCells])
  have h2 := (h1.box #[.slice (some ⟨w.heap.size, 0, none⟩) (M + 1) (M + 1), .slice none 0 0, .int .i64 0, .int .i64 0] 88).push (Below.refl _ _) (rowA 3 1 (.slice none 0 0) 0 []) (Row.nil _ _ _) (by simp [rowA, Value.ownBlock])
  have h3 : AOwn w0 ((w.alloc (.cells (madeCells #[.bool false] (M + 1)) 4)).alloc (.cells #[.slice (some ⟨w.heap.size, 0, none⟩) (M + 1) (M + 1), .slice none 0 0, .int .i64 0, .int .i64 0] 88)) (w.heap.size + 1) w.heap.size (List.replicate (M + 1) false) [] 0 0 [] := by
    refine ⟨.slice none 0 0, (h2.sel [1, 0, 2] (by decide)).cast ?_⟩
    simp [arenaL, madeK_one]
  replace h3 := Lib.hid h3
  clear h1 h2 h
  go_enter Try.func30, Try.ntmps30
  go_wp2_with (first | (refine wpList_make_any _ rfl _ _ 60 rfl 4 i0 (.bool false) 1 1 Try.underlying60 hi hz0 hz1' hz2' .i64 .i64 ((M : Int) + 1) ((M : Int) + 1) rfl rfl (by omega) (by omega) (by omega) (by decide) ?_))
  go_ret
  exact ⟨rfl, h3.out⟩
/-- The number that is taken next. -/
def nextA (hs : List Bool) (bs : List Int) (fr : Nat) : Option (Int × List Int × Nat) :=
  if bs = [] then (if hs.length ≤ fr + 1 then none else some (((fr + 1 : Nat) : Int), [], fr + 1)) else some (bs.getLast?.getD 0, bs.dropLast, fr)
theorem next_own {w0 w : World} {g hb : Nat} {hs : List Bool} {bs : List Int} {fr : Nat} {pk : Int} {l : List Ast} (h : AOwn w0 w g hb hs bs fr pk l) (hl : hs.length ≤ 4096) (hbl : bs.length ≤ 100000) (hfr : fr ≤ 4096) {id : Int} {bs' : List Int} {fr' : Nat} (hn : nextA hs bs fr = some (id, bs', fr')) :
    Calls Try.prog 62 #[.pointer (some ⟨g, 0, none⟩)] w fun e w' => e = .returned (.tuple #[.int .i64 id, .bool true]) ∧ AOwn w0 w' g hb hs bs' fr' pk l := by
  obtain ⟨bv, hO⟩ := h
  obtain ⟨bo, bc, rfl, b1, b2, _⟩ := (hO.row 2 rfl).shape
  unfold maxLen at b2
  obtain ⟨c0, c1, c2, c3⟩ := And.intro (hO.cget 0 rfl 0).1 (And.intro (hO.cget 0 rfl 1).1 (And.intro (hO.cget 0 rfl 2).1 (hO.cget 0 rfl 3).1))
  simp at c0 c1 c2 c3
  unfold nextA at hn
  by_cases hb0 : bs = []
  · subst hb0
    rw [if_pos rfl] at hn
    by_cases hlt : hs.length ≤ fr + 1
    · rw [if_pos hlt] at hn; cases hn
    · rw [if_neg hlt] at hn
      simp only [Option.some.injEq, Prod.mk.injEq] at hn
      obtain ⟨rfl, rfl, rfl⟩ := hn
      have hlt' : fr + 1 < hs.length := by omega
      have f2 := (hO.cget 0 rfl 2).2
      have hE := Lib.hid (fun (m : Nat) => ((hO.drewN m).cset 0 rfl 2 (.int .i64 ((fr + 1 : Nat) : Int))))
      clear hO
      go_enter Try.func62, Try.ntmps62
      go_wp2_with fail
      go_quiet (fail)
      go_wp2
      go_ret2
      exact ⟨by simp, _, hE.out _⟩
  · rw [if_neg hb0] at hn
    simp only [Option.some.injEq, Prod.mk.injEq] at hn
    obtain ⟨rfl, rfl, rfl⟩ := hn
    have hp : 0 < bs.length := List.length_pos_iff.2 hb0
    obtain ⟨k, hk⟩ : ∃ k, bs.length = k + 1 := ⟨bs.length - 1, by omega⟩
    obtain ⟨g3, off3, cap3, hv3, q1, q2, q3, q4⟩ := (hO.row 2 rfl).addr hp
    simp only [Value.slice.injEq] at hv3
    obtain ⟨rfl, _, rfl⟩ := hv3
    have x0 := q3 k (by omega)
    rw [getD_map (by omega)] at x0
    have hlast : bs.getLast?.getD 0 = bs.getD k 0 := by
      rw [List.getLast?_eq_getElem?, hk, List.getD_eq_getElem?_getD]; rfl
    rw [hlast]
    have f1 := (hO.cget 0 rfl 1).2
    have hm : Moves (rowA 3 1 (.slice (some ⟨g3, off3, none⟩) bs.length bc) bs.length (bs.map (.int .i64))) (rowA 3 1 (.slice (some ⟨g3, off3, none⟩) k bc) k ((bs.dropLast).map (.int .i64))) w w := ⟨by
      have := (hO.row 2 rfl).take (i := k) (by omega)
      rw [Nat.mul_one, ← List.map_take] at this
      rw [List.dropLast_eq_take, hk]
      exact this, Touch.refl _ _, fun k hk => .inl hk⟩
    have hE : Own w0 (w.setCell ⟨g, 1, none⟩ (.slice (some ⟨g3, off3, none⟩) k bc)) (arenaL g hb (.slice (some ⟨g3, off3, none⟩) k bc) hs bs.dropLast fr pk l) := ((hO.move 2 rfl hm).cset 0 rfl 1 (.slice (some ⟨g3, off3, none⟩) k bc)).cast (by
      have : bs.dropLast.length = k := by simp [hk]
      simp [arenaL, this])
    replace hE := Lib.hid hE
    rw [hk] at c1 b1
    clear hO hm hlast q3 q4
    generalize bs.getD k 0 = X at *
    go_enter Try.func62, Try.ntmps62
    go_wp2
    go_ret2
    exact ⟨rfl, _, hE.out⟩
theorem next_no {w0 w : World} {g hb : Nat} {hs : List Bool} {bs : List Int} {fr : Nat} {pk : Int} {l : List Ast} (h : AOwn w0 w g hb hs bs fr pk l) (hl : hs.length ≤ 4096) (hfr : fr ≤ 4096) (hn : nextA hs bs fr = none) :
    Calls Try.prog 62 #[.pointer (some ⟨g, 0, none⟩)] w fun e w' => e = .returned (.tuple #[.int .i64 0, .bool false]) ∧ AOwn w0 w' g hb hs bs fr pk l := by
  obtain ⟨bv, hO⟩ := h
  unfold nextA at hn
  by_cases hb0 : bs = []
  · subst hb0
    obtain ⟨bo, bc, rfl, b1, b2, _⟩ := (hO.row 2 rfl).shape
    obtain ⟨c0, c1, c2, c3⟩ := And.intro (hO.cget 0 rfl 0).1 (And.intro (hO.cget 0 rfl 1).1 (And.intro (hO.cget 0 rfl 2).1 (hO.cget 0 rfl 3).1))
    simp at c0 c1 c2 c3
    rw [if_pos rfl] at hn
    by_cases hlt : hs.length ≤ fr + 1
    · have hE := Lib.hid (fun (m : Nat) => hO.drewN m)
      clear hO hn
      go_enter Try.func62, Try.ntmps62
      go_wp2_with fail
      go_quiet (fail)
      go_wp2
      go_ret2
      exact ⟨rfl, _, hE.out _⟩
    · rw [if_neg hlt] at hn; cases hn
  · rw [if_neg hb0] at hn; cases hn
theorem take_yes {w0 w : World} {g hb : Nat} {hs : List Bool} {bs : List Int} {fr : Nat} {pk : Int} {l : List Ast} (h : AOwn w0 w g hb hs bs fr pk l) (hl : hs.length ≤ 4096) (hbl : bs.length ≤ 100000) (hfr : fr ≤ 4096) {id : Nat} {bs' : List Int} {fr' : Nat} (hn : nextA hs bs fr = some ((id : Int), bs', fr')) (hid : id < hs.length) (hs' : List Bool) (pk' : Int) (hh : hs.set id true = hs') (hp : max pk (cnt hs') = pk') :
    Calls Try.prog 32 #[.pointer (some ⟨g, 0, none⟩)] w fun e w' => e = .returned (.tuple #[.int .i64 id, .bool true]) ∧ AOwn w0 w' g hb hs' bs' fr' pk' l := by
  have N := Lib.hid (next_own h hl hbl hfr hn)
  have hlen' : hs'.length = hs.length := by rw [← hh]; simp
  have G := Lib.hid (fun (w5 : World) (h : AOwn w0 w5 g hb hs bs' fr' pk l) => show w5.cell? ⟨g, 0, none⟩ = some (.slice (some ⟨hb, 0, none⟩) hs.length hs.length) ∧ (∃ v, w5.cell? ⟨hb, id, none⟩ = some (.bool v)) ∧ w5.frozen? ⟨hb, id, none⟩ = false ∧ AOwn w0 (w5.setCell ⟨hb, id, none⟩ (.bool true)) g hb hs' bs' fr' pk l by
    obtain ⟨bv, hO⟩ := h
    refine ⟨(hO.cget 0 rfl 0).1, ⟨_, hO.row_get 1 rfl (bool_map hid)⟩, hO.row_free 1 rfl (by omega), bv, (hO.row_set 1 rfl id (.bool true) rfl).cast ?_⟩
    simp only [arenaL, List.set_cons_succ, List.set_cons_zero]
    rw [show (hs.map Value.bool).set id (.bool true) = hs'.map .bool by rw [← hh, List.map_set], hlen'])
  have U := Lib.hid (fun (w5 : World) (h : AOwn w0 w5 g hb hs' bs' fr' pk l) => used_own h (by omega))
  have G2 := Lib.hid (fun (w5 : World) (h : AOwn w0 w5 g hb hs' bs' fr' pk l) => show w5.cell? ⟨g, 3, none⟩ = some (.int .i64 pk) ∧ w5.frozen? ⟨g, 3, none⟩ = false ∧ AOwn w0 (w5.setCell ⟨g, 3, none⟩ (.int .i64 pk')) g hb hs' bs' fr' pk' l by
    obtain ⟨bv, hO⟩ := h
    exact ⟨(hO.cget 0 rfl 3).1, (hO.cget 0 rfl 3).2, bv, hO.cset 0 rfl 3 (.int .i64 pk')⟩)
  clear h hn hh hlen'
  generalize cnt hs' = C at *
  go_enter Try.func32, Try.ntmps32
  go_wp2_with fail
  go_at_call 62
  refine N.out.mono ?_
  rintro e w5 ⟨rfl, h5⟩
  obtain ⟨c0, ⟨v, c1⟩, f1, h6⟩ := G.out _ h5
  clear N G h5
  go_wp2_with fail
  generalize w5.setCell ⟨hb, id, none⟩ (.bool true) = w6 at *
  obtain ⟨d0, d1, _⟩ := G2.out _ h6
  have h7 := h6.drewN 1
  have hS0 : (fun w' : World => w'.cell? ⟨g, 3, none⟩ = some (.int .i64 pk)) w6.drew := d0
  go_region_with (first | (go_at_call 36; refine (U.out _ h7).mono ?_; rintro e w8 ⟨rfl, h8⟩; obtain ⟨e0, e1, hE2⟩ := G2.out _ h8))
  all_goals go_wp2
  all_goals go_ret2
  all_goals exact ⟨rfl, hE2⟩
theorem take_no {w0 w : World} {g hb : Nat} {hs : List Bool} {bs : List Int} {fr : Nat} {pk : Int} {l : List Ast} (h : AOwn w0 w g hb hs bs fr pk l) (hl : hs.length ≤ 4096) (hfr : fr ≤ 4096) (hn : nextA hs bs fr = none) :
    Calls Try.prog 32 #[.pointer (some ⟨g, 0, none⟩)] w fun e w' => e = .returned (.tuple #[.int .i64 0, .bool false]) ∧ AOwn w0 w' g hb hs bs fr pk l := by
  have N := Lib.hid (next_no h hl hfr hn)
  clear h hn
  go_enter Try.func32, Try.ntmps32
  go_wp2_with (first | (go_at_call 62; refine N.out.mono ?_; rintro e w5 ⟨rfl, h5⟩))
  go_ret2
  exact ⟨rfl, h5⟩
def heldB (hs : List Bool) (id : Int) : Bool := decide (0 < id) && (decide (id < hs.length) && hs.getD id.toNat false)
theorem held_own {w0 w : World} {g hb : Nat} {hs : List Bool} {bs : List Int} {fr : Nat} {pk : Int} {l : List Ast} (h : AOwn w0 w g hb hs bs fr pk l) (hl : hs.length ≤ 4096) (id : Int) (t : Bool) (ht : heldB hs id = t) :
    Calls Try.prog 38 #[.pointer (some ⟨g, 0, none⟩), .int .i64 id] w fun e w' => e = .returned (.bool t) ∧ w = w' := by
  obtain ⟨bv, hO⟩ := h
  have c0 := (hO.cget 0 rfl 0).1
  simp at c0
  unfold heldB at ht
  by_cases h1 : 0 < id
  · by_cases h2 : id < hs.length
    · obtain ⟨a, rfl⟩ : ∃ a : Nat, id = a := ⟨id.toNat, by omega⟩
      have c1 := hO.row_get 1 rfl (bool_map (a := a) (by omega))
      simp only [h1, h2, decide_true, Bool.true_and, Int.toNat_natCast] at ht
      rw [ht] at c1
      clear hO ht
      go_enter Try.func38, Try.ntmps38
      go_wp2
      go_ret
      exact ⟨rfl, rfl⟩
    · simp only [h1, h2, decide_true, decide_false, Bool.true_and, Bool.false_and] at ht
      subst ht
      clear hO
      go_enter Try.func38, Try.ntmps38
      go_wp2
      go_ret
      exact ⟨rfl, rfl⟩
  · simp only [h1, decide_false, Bool.false_and] at ht
    subst ht
    clear hO
    go_enter Try.func38, Try.ntmps38
    go_wp2
    go_ret
    exact ⟨rfl, rfl⟩
theorem held_none (id : Int) (w : World) : Calls Try.prog 38 #[.pointer none, .int .i64 id] w fun e w' => e = .returned (.bool false) ∧ w = w' := by
  go_enter Try.func38, Try.ntmps38
  go_wp2
  go_ret
  exact ⟨rfl, rfl⟩
theorem take_none (w : World) : Calls Try.prog 32 #[.pointer none] w fun e w' => e = .returned (.tuple #[.int .i64 0, .bool false]) ∧ w = w' := by
  go_enter Try.func32, Try.ntmps32
  go_wp2
  go_ret2
  exact ⟨rfl, rfl⟩
theorem give_none (id : Int) (w : World) : Calls Try.prog 34 #[.pointer none, .int .i64 id] w fun e w' => e = .returned (.bool false) ∧ w = w' := by
  go_enter Try.func34, Try.ntmps34
  go_wp2_with (first | (go_at_call 38; refine (held_none _ _).mono ?_; rintro e w5 ⟨rfl, rfl⟩))
  go_ret
  exact ⟨rfl, rfl⟩
theorem peak_none (w : World) : Calls Try.prog 37 #[.pointer none] w fun e w' => e = .returned (.int .i64 0) ∧ w = w' := by
  go_enter Try.func37, Try.ntmps37
  go_wp2
  go_ret
  exact ⟨rfl, rfl⟩
theorem peak_own {w0 w : World} {g hb : Nat} {hs : List Bool} {bs : List Int} {fr : Nat} {pk : Int} {l : List Ast} (h : AOwn w0 w g hb hs bs fr pk l) :
    Calls Try.prog 37 #[.pointer (some ⟨g, 0, none⟩)] w fun e w' => e = .returned (.int .i64 pk) ∧ w = w' := by
  obtain ⟨bv, hO⟩ := h
  have c3 := (hO.cget 0 rfl 3).1
  simp at c3
  clear hO
  go_enter Try.func37, Try.ntmps37
  go_wp2
  go_ret
  exact ⟨rfl, rfl⟩
theorem give_no {w0 w : World} {g hb : Nat} {hs : List Bool} {bs : List Int} {fr : Nat} {pk : Int} {l : List Ast} (h : AOwn w0 w g hb hs bs fr pk l) (hl : hs.length ≤ 4096) (id : Int) (ht : heldB hs id = false) :
    Calls Try.prog 34 #[.pointer (some ⟨g, 0, none⟩), .int .i64 id] w fun e w' => e = .returned (.bool false) ∧ w = w' := by
  have H := Lib.hid (held_own h hl id false ht)
  clear h ht
  go_enter Try.func34, Try.ntmps34
  go_wp2_with (first | (go_at_call 38; refine H.out.mono ?_; rintro e w5 ⟨rfl, rfl⟩))
  go_ret
  exact ⟨rfl, rfl⟩
theorem give_yes {w0 w : World} {g hb : Nat} {hs : List Bool} {bs : List Int} {fr : Nat} {pk : Int} {l : List Ast} (h : AOwn w0 w g hb hs bs fr pk l) (hl : hs.length ≤ 4096) (hbl : bs.length ≤ 100000) (id : Nat) (ht : heldB hs id = true) (hs' : List Bool) (hh : hs.set id false = hs') :
    Calls Try.prog 34 #[.pointer (some ⟨g, 0, none⟩), .int .i64 id] w fun e w' => e = .returned (.bool true) ∧ AOwn w0 w' g hb hs' (bs ++ [(id : Int)]) fr pk l := by
  obtain ⟨i1, hi1, hw0, hw1', hw2'⟩ := info_parts' Try.infoIntK
  have H := Lib.hid (held_own h hl id true ht)
  have hid : id < hs.length := by
    unfold heldB at ht
    simp at ht
    omega
  have hlen' : hs'.length = hs.length := by rw [← hh]; simp
  obtain ⟨bv, hO⟩ := h
  obtain ⟨bo, bc, rfl, b1, b2, _⟩ := (hO.row 2 rfl).shape
  unfold maxLen at b2
  have c0 := (hO.cget 0 rfl 0).1
  simp at c0
  have x0 := hO.row_get 1 rfl (bool_map hid)
  have xf := hO.row_free 1 rfl (j := id) (by omega)
  have hO2 : Own w0 (w.setCell ⟨hb, id, none⟩ (.bool false)) (arenaL g hb (.slice bo bs.length bc) hs' bs fr pk l) := (hO.row_set 1 rfl id (.bool false) rfl).cast (by
    simp only [arenaL, List.set_cons_succ, List.set_cons_zero]
    rw [show (hs.map Value.bool).set id (.bool false) = hs'.map .bool by rw [← hh, List.map_set], hlen'])
  generalize hs.getD id false = V at *
  have c1 := (hO2.cget 0 rfl 1).1
  have f1 := (hO2.cget 0 rfl 1).2
  simp at c1
  have hr2 := hO2.row 2 rfl
  have hE := Lib.hid (fun (w2 : World) (ao2 : Option Addr) (cap2 : Nat) (hr : Row w2 3 1 (.slice ao2 (bs.length + 1) cap2) (bs.length + 1) (bs.map (.int .i64) ++ [.int .i64 id])) (ht2 : Touch (fun k => Value.ownBlock (.slice bo bs.length bc) = some k) (w.setCell ⟨hb, id, none⟩ (.bool false)) w2) (hf2 : ∀ k, Value.ownBlock (.slice ao2 (bs.length + 1) cap2) = some k → Value.ownBlock (.slice bo bs.length bc) = some k ∨ (w.setCell ⟨hb, id, none⟩ (.bool false)).heap.size ≤ k) =>
    show (∃ v, w2.cell? ⟨g, 1, none⟩ = some v) ∧ w2.frozen? ⟨g, 1, none⟩ = false ∧ AOwn w0 (w2.setCell ⟨g, 1, none⟩ (.slice ao2 (bs.length + 1) cap2)) g hb hs' (bs ++ [(id : Int)]) fr pk l by
      have q := hO2.move 2 rfl (Moves.of_append hr ht2 hf2)
      refine ⟨⟨_, (q.cget 0 rfl 1).1⟩, (q.cget 0 rfl 1).2, .slice ao2 (bs.length + 1) cap2, (q.cset 0 rfl 1 (.slice ao2 (bs.length + 1) cap2)).cast ?_⟩
      simp [arenaL])
  clear hO hO2 ht hh hlen'
  go_enter Try.func34, Try.ntmps34
  go_wp2_with (first | (go_at_call 38; refine H.out.mono ?_; rintro e w5 ⟨rfl, rfl⟩) | (at_builtin; refine wpList_append_lit' _ rfl (.tmp 19) (.tmp 21) 42 rfl 3 i1 (.int .i64 0) 1 8 Try.underlying42 hi1 hw0 hw1' hw2' rfl (by decide) (.slice bo bs.length bc) bs.length (bs.map (.int .i64)) rfl hr2 #[.int .i64 id] _ 1 _ (by simp) rfl rfl (by simp [Value.oneCell']) (by unfold maxLen; omega) (by omega) ?_; intro ao2 cap2 wz hr3 ht3 hf3; obtain ⟨⟨v, g1⟩, g2, hE2⟩ := hE.out _ _ _ hr3 ht3 hf3))
  go_ret
  exact ⟨rfl, hE2⟩
end Go.Proofs.Ytbadinmlnbabiaa
