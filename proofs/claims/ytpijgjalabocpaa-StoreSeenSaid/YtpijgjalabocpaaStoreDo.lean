/- One step of a store: forebaylaw09.do, at a store and at none. -/
import Derived.Test.YtpijgjalabocpaaStoreFillsWalk
set_option linter.unusedVariables false
set_option linter.unusedSimpArgs false
namespace Go.Proofs.Ytpijgjalabocpaa
open Go.RowKit
theorem Own.sub {w0 w : World} {l l' : List Ast} (h : Own w0 w l) (hs : l'.Sublist l) : Own w0 w l' :=
  ⟨h.below, fun A hA => h.all A (hs.subset hA), fun A hA => h.own A (hs.subset hA), h.sep.sublist hs⟩
def fillA (at_ many : Int) : Int := if at_ < 0 ∧ 0 < many then 0 else at_
def fillM (at_ many : Int) : Int := if at_ < 0 ∧ 0 < many then many + at_ else many
theorem fill_case (at_ many : Int) : (at_ < 0 ∧ 0 < many ∧ fillA at_ many = 0 ∧ fillM at_ many = many + at_) ∨ (¬ at_ < 0 ∧ fillA at_ many = at_ ∧ fillM at_ many = many) ∨ (at_ < 0 ∧ ¬ 0 < many ∧ fillA at_ many = at_ ∧ fillM at_ many = many) := by
  unfold fillA fillM
  by_cases h1 : at_ < 0
  · by_cases h2 : 0 < many
    · exact .inl ⟨h1, h2, by simp [h1, h2], by simp [h1, h2]⟩
    · exact .inr (.inr ⟨h1, h2, by simp [h2], by simp [h2]⟩)
  · exact .inr (.inl ⟨h1, by simp [h1], by simp [h1]⟩)
/-- What a step answers, and what the words are then. -/
def stepD (kd at_ n old : Int) (ms : List Int) : List Int × Int × Bool :=
  if kd = 4 then (fillL ms (fillA at_ n) (fillM at_ n) old ms.length, 0, true)
  else if at_ < 0 ∨ (ms.length : Int) ≤ at_ then (ms, 0, false)
  else if kd = 0 then (ms, ms.getD at_.toNat 0, true)
  else if kd = 1 then (ms.set at_.toNat n, 0, true)
  else if kd = 2 then (ms.set at_.toNat (wrap64 (ms.getD at_.toNat 0 + n)), ms.getD at_.toNat 0, true)
  else if ms.getD at_.toNat 0 = old then (ms.set at_.toNat n, ms.getD at_.toNat 0, true) else (ms, ms.getD at_.toNat 0, true)
theorem stepD_length (kd at_ n old : Int) (ms : List Int) : (stepD kd at_ n old ms).1.length = ms.length := by
  unfold stepD
  repeat' split
  all_goals simp [fillL_length]

set_option maxHeartbeats 4000000
set_option maxRecDepth 100000
theorem own_fillA {w0 w : World} {l : List Ast} (h : Own w0 w l) (i : Nat) {g b : Nat} {ms : List Int} (hi : l[i]? = some (storeA g b ms)) (at_ many n : Int) (h0 : -9223372036854775808 ≤ at_ ∧ at_ ≤ 9223372036854775807) (h1 : -9223372036854775808 ≤ many ∧ many ≤ 9223372036854775807) (ms' : List Int) (hm : fillL ms (fillA at_ many) (fillM at_ many) n ms.length = ms') :
    Calls Try.prog 20 #[.pointer (some ⟨g, 0, none⟩), .int .i64 at_, .int .i64 many, .int .i64 n] w fun e w' => e = .returned (.tuple #[]) ∧ Own w0 w' (l.set i (storeA g b ms')) := by
  subst hm
  refine (fill_core (h.st i hi) at_ many n _ _ h0 h1 (fill_case at_ many)).mono ?_
  rintro e w' ⟨rfl, hS, hT⟩
  exact ⟨rfl, h.move i hi ⟨hS, hT.mono fun k hk => .inr hk, fun k hk => .inl hk⟩⟩
theorem own_swap_yes {w0 w : World} {l : List Ast} (h : Own w0 w l) (i : Nat) {g b : Nat} {ms : List Int} (hi : l[i]? = some (storeA g b ms)) {k : Nat} (hl : k < ms.length) (n x : Int) (hx : ms.getD k 0 = x) (ms' : List Int) (hm : ms.set k n = ms') : Calls Try.prog 39 #[.pointer (some ⟨g, 0, none⟩), .int .i64 k, .int .i64 x, .int .i64 n] w fun e w' => e = .returned (.tuple #[.int .i64 x, .bool true]) ∧ Own w0 w' (l.set i (storeA g b ms')) := by
  subst hx hm
  refine (swap_yes (h.st i hi) hl n).mono ?_
  rintro e w' ⟨rfl, rfl⟩
  exact ⟨rfl, h.move i hi (st_moves (h.st i hi) rfl)⟩
theorem own_swap_no {w0 w : World} {l : List Ast} (h : Own w0 w l) (i : Nat) {g b : Nat} {ms : List Int} (hi : l[i]? = some (storeA g b ms)) {k : Nat} (hl : k < ms.length) (o n x : Int) (hx : ms.getD k 0 = x) (hne : x ≠ o) : Calls Try.prog 39 #[.pointer (some ⟨g, 0, none⟩), .int .i64 k, .int .i64 o, .int .i64 n] w fun e w' => e = .returned (.tuple #[.int .i64 x, .bool true]) ∧ w = w' := by
  subst hx
  exact swap_no (h.st i hi) hl o n hne
theorem set_same {l : List Ast} {i : Nat} {A : Ast} (hi : l[i]? = some A) : l.set i A = l := by
  refine List.ext_getElem? fun j => ?_
  by_cases hj : i = j
  · subst hj
    rw [List.getElem?_set_self (List.getElem?_eq_some_iff.1 hi).1, hi]
  · rw [List.getElem?_set_ne hj]
/-- A step at a store. -/
theorem own_do {w0 w : World} {l : List Ast} (h : Own w0 w l) (i : Nat) {g b : Nat} {ms : List Int} (hi : l[i]? = some (storeA g b ms)) (kd at_ n old : Int) (hk : 0 ≤ kd ∧ kd ≤ 4) (h0 : -9223372036854775808 ≤ at_ ∧ at_ ≤ 9223372036854775807) (h1 : -9223372036854775808 ≤ n ∧ n ≤ 9223372036854775807) (ms' : List Int) (x : Int) (t : Bool) (hr : stepD kd at_ n old ms = (ms', x, t)) :
    Calls Try.prog 26 #[.pointer (some ⟨g, 0, none⟩), .agg #[.int .i64 kd, .int .i64 at_, .int .i64 n, .int .i64 old]] w fun e w' => e = .returned (.tuple #[.int .i64 x, .bool t]) ∧ Own w0 w' (l.set i (storeA g b ms')) := by
  have hB := h.box #[.int .i64 kd, .int .i64 at_, .int .i64 n, .int .i64 old] 43
  have hiB := at_app (l' := [cellsA w.heap.size #[.int .i64 kd, .int .i64 at_, .int .i64 n, .int .i64 old] 43]) hi
  unfold stepD at hr
  by_cases hk4 : kd = 4
  · subst hk4
    simp only [if_true, Prod.mk.injEq] at hr
    obtain ⟨hm, rfl, rfl⟩ := hr
    have hs := own_fillA hB i hiB at_ n old h0 h1 ms' hm
    rw [set_app hi] at hs
    replace hs := Lib.hid hs
    clear hB hiB hi hm h
    go_enter Try.func26, Try.ntmps26
    go_wp2_with (first | (go_at_call 20; refine hs.out.mono ?_; rintro e w1 ⟨rfl, hs1⟩))
    go_ret2
    exact ⟨rfl, hs1.pop⟩
  · rw [if_neg hk4] at hr
    by_cases hin : at_ < 0 ∨ (ms.length : Int) ≤ at_
    · rw [if_pos hin] at hr
      simp only [Prod.mk.injEq] at hr
      obtain ⟨rfl, rfl, rfl⟩ := hr
      rw [set_same hi]
      have s0 := Lib.hid (load_out (hB.st i hiB) hin)
      have s1 := Lib.hid (store_out (hB.st i hiB) hin n)
      have s2 := Lib.hid (add_out (hB.st i hiB) hin n)
      have s3 := Lib.hid (swap_out (hB.st i hiB) hin old n)
      have hE := hB.pop
      clear hB hiB hi h hin
      have hc : kd = 0 ∨ kd = 1 ∨ kd = 2 ∨ kd = 3 := by omega
      rcases hc with rfl | rfl | rfl | rfl
      all_goals
        go_enter Try.func26, Try.ntmps26
        go_wp2_with (first | (go_at_call 17; refine s0.out.mono ?_; rintro e w1 ⟨rfl, rfl⟩) | (go_at_call 19; refine s1.out.mono ?_; rintro e w1 ⟨rfl, rfl⟩) | (go_at_call 16; refine s2.out.mono ?_; rintro e w1 ⟨rfl, rfl⟩) | (go_at_call 39; refine s3.out.mono ?_; rintro e w1 ⟨rfl, rfl⟩))
        go_ret2
        exact ⟨rfl, hE⟩
    · rw [if_neg hin] at hr
      obtain ⟨a, rfl⟩ : ∃ a : Nat, at_ = a := ⟨at_.toNat, by omega⟩
      have ha : a < ms.length := by omega
      simp only [Int.toNat_natCast] at hr
      have hc : kd = 0 ∨ kd = 1 ∨ kd = 2 ∨ kd = 3 := by omega
      rcases hc with rfl | rfl | rfl | rfl
      · simp only [if_true, Prod.mk.injEq] at hr
        obtain ⟨rfl, hx, rfl⟩ := hr
        rw [set_same hi]
        have s0 := Lib.hid (own_load hB i hiB ha x hx)
        have hE := hB.pop
        clear hB hiB hi h hin hx
        go_enter Try.func26, Try.ntmps26
        go_wp2_with (first | (go_at_call 17; refine s0.out.mono ?_; rintro e w1 ⟨rfl, rfl⟩))
        go_ret2
        exact ⟨rfl, hE⟩
      · rw [if_neg (by omega), if_pos rfl] at hr
        simp only [Prod.mk.injEq] at hr
        obtain ⟨hm, rfl, rfl⟩ := hr
        have hs := own_store hB i hiB ha n ms' hm
        rw [set_app hi] at hs
        replace hs := Lib.hid hs
        clear hB hiB hi hm h hin
        go_enter Try.func26, Try.ntmps26
        go_wp2_with (first | (go_at_call 19; refine hs.out.mono ?_; rintro e w1 ⟨rfl, hs1⟩))
        go_ret2
        exact ⟨rfl, hs1.pop⟩
      · rw [if_neg (by omega), if_neg (by omega), if_pos rfl] at hr
        simp only [Prod.mk.injEq] at hr
        obtain ⟨hm, hx, rfl⟩ := hr
        rw [hx] at hm
        have hs := own_add hB i hiB ha n x hx ms' hm
        rw [set_app hi] at hs
        replace hs := Lib.hid hs
        clear hB hiB hi hm hx h hin
        go_enter Try.func26, Try.ntmps26
        go_wp2_with (first | (go_at_call 16; refine hs.out.mono ?_; rintro e w1 ⟨rfl, hs1⟩))
        go_ret2
        exact ⟨rfl, hs1.pop⟩
      · rw [if_neg (by omega), if_neg (by omega), if_neg (by omega)] at hr
        by_cases hq : ms.getD a 0 = old
        · rw [if_pos hq] at hr
          simp only [Prod.mk.injEq] at hr
          obtain ⟨hm, hx, rfl⟩ := hr
          rw [hx] at hq
          subst hq
          have hs := own_swap_yes hB i hiB ha n x hx ms' hm
          rw [set_app hi] at hs
          replace hs := Lib.hid hs
          clear hB hiB hi hm hx h hin
          go_enter Try.func26, Try.ntmps26
          go_wp2_with (first | (go_at_call 39; refine hs.out.mono ?_; rintro e w1 ⟨rfl, hs1⟩))
          go_ret2
          exact ⟨rfl, hs1.pop⟩
        · rw [if_neg hq] at hr
          simp only [Prod.mk.injEq] at hr
          obtain ⟨rfl, hx, rfl⟩ := hr
          rw [set_same hi]
          rw [hx] at hq
          have s0 := Lib.hid (own_swap_no hB i hiB ha old n x hx hq)
          have hE := hB.pop
          clear hB hiB hi h hin hx hq
          go_enter Try.func26, Try.ntmps26
          go_wp2_with (first | (go_at_call 39; refine s0.out.mono ?_; rintro e w1 ⟨rfl, rfl⟩))
          go_ret2
          exact ⟨rfl, hE⟩
end Go.Proofs.Ytpijgjalabocpaa
