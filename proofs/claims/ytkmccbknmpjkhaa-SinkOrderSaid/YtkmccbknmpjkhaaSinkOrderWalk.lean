/- The walk through the law SinkOrder. -/
import Derived.Test.YtkmccbknmpjkhaaSink3
set_option linter.unusedVariables false
set_option linter.unusedSimpArgs false
namespace Go.Proofs.Ytkmccbknmpjkhaa
open Go.RowKit
/-- Three lists lie here, and nothing that there was is turned. -/
structure Three (w0 w : World) (xo yo zo : Option Addr) (cx cy cz : Nat) (a b c : List Int) : Prop where
  x : Lies w xo cx a
  y : Lies w yo cy b
  z : Lies w zo cz c
  below : Below w0.heap.size w0 w
theorem Three.dr {w0 w w' : World} {xo yo zo : Option Addr} {cx cy cz m : Nat} {a b c : List Int} (h : Three w0 w xo yo zo cx cy cz a b c) (e : w' = w.drewN m) : Three w0 w' xo yo zo cx cy cz a b c := by
  subst e
  exact ⟨h.x, h.y, h.z, below_drewN' h.below m⟩
theorem prefix_anti' {a b : List Int} (h1 : a.isPrefixOf b = true) (h2 : b.isPrefixOf a = true) : a = b := by
  rw [List.isPrefixOf_iff_prefix] at h1 h2
  have l1 := h1.length_le
  have l2 := h2.length_le
  exact h1.eq_of_length (by omega)
theorem order_facts (a b c : List Int) :
    ((a.isPrefixOf b && b.isPrefixOf a) = (a == b)) ∧ (a.isPrefixOf b = true → b.isPrefixOf c = true → a.isPrefixOf c = true) ∧ (a.isPrefixOf c = true → b.isPrefixOf c = true → a.isPrefixOf b = true ∨ b.isPrefixOf a = true) := by
  refine ⟨?_, ?_, ?_⟩
  · rw [Bool.eq_iff_iff, Bool.and_eq_true, beq_iff_eq]
    exact ⟨fun ⟨h, k⟩ => prefix_anti' h k, fun h => by subst h; simp⟩
  · simp only [List.isPrefixOf_iff_prefix]
    exact fun h k => h.trans k
  · simp only [List.isPrefixOf_iff_prefix]
    intro h k
    rcases Nat.le_total a.length b.length with hl | hl
    · exact .inl (List.prefix_of_prefix_length_le h k hl)
    · exact .inr (List.prefix_of_prefix_length_le k h hl)
set_option maxHeartbeats 2000000
set_option maxRecDepth 100000
theorem sorder_core (a b c : List Int) (ao bo co : Option Addr) (ca cb cc : Nat) (w : World) (D : Int) (E P Q R S : Bool) (hd : D = if a = b then 0 else (dAt a b : Int)) (hE : E = !(a == b))
    (hP : a.isPrefixOf b = P) (hQ : b.isPrefixOf c = Q) (hR : a.isPrefixOf c = R) (hS : b.isPrefixOf a = S) (f1 : (P && S) = !E) (f2 : P = true → Q = true → R = true) (f3 : R = true → Q = true → P = true ∨ S = true)
    (ha : Lies w ao ca a) (hb : Lies w bo cb b) (hc : Lies w co cc c) (han : ao = none → ca = 0) (hbn : bo = none → cb = 0) (hcn : co = none → cc = 0) (hla : a.length ≤ 500) (hlb : b.length ≤ 500) (hlc : c.length ≤ 500) :
    Calls Try.prog 10 #[.slice ao a.length ca, .slice bo b.length cb, .slice co c.length cc] w fun e w' => e = .returned (.bool true) ∧ Below w.heap.size w w' := by
  obtain ⟨i0, hi, hz0, hz1', hz2'⟩ := info_parts' Try.infoInt'
  have hsa := ha.src han
  have hsb := hb.src hbn
  have hsc := hc.src hcn
  have D1 := Lib.hid (fun w2 xo cx yo cy (hx : Lies w2 xo cx a) (hy : Lies w2 yo cy b) => differ_core xo yo cx cy a b w2 hx hy D E hd hE)
  have B1 := fun w2 xo cx yo cy (hx : Lies w2 xo cx a) (hy : Lies w2 yo cy b) => begins_any xo yo cx cy a b w2 hx hy
  have B2 := fun w2 xo cx yo cy (hx : Lies w2 xo cx b) (hy : Lies w2 yo cy c) => begins_any xo yo cx cy b c w2 hx hy
  have B3 := fun w2 xo cx yo cy (hx : Lies w2 xo cx a) (hy : Lies w2 yo cy c) => begins_any xo yo cx cy a c w2 hx hy
  have B4 := fun w2 xo cx yo cy (hx : Lies w2 xo cx b) (hy : Lies w2 yo cy a) => begins_any xo yo cx cy b a w2 hx hy
  have B5 := fun w2 xo cx (hx : Lies w2 xo cx a) => begins_any xo xo cx cx a a w2 hx hx
  have B6 := fun w2 xo cx (hx : Lies w2 xo cx a) => begins_any none xo 0 cx [] a w2 ⟨by simp, by simp [maxLen], .inl ⟨rfl, rfl⟩⟩ hx
  rw [hP] at B1
  rw [hQ] at B2
  rw [hR] at B3
  rw [hS] at B4
  rw [show a.isPrefixOf a = true by simp] at B5
  rw [show ([] : List Int).isPrefixOf a = true by simp] at B6
  simp only [List.length_nil] at B6
  replace B1 := Lib.hid B1
  replace B2 := Lib.hid B2
  replace B3 := Lib.hid B3
  replace B4 := Lib.hid B4
  replace B5 := Lib.hid B5
  replace B6 := Lib.hid B6
  have h1 := ha.1
  have h2 := hb.1
  have h2c := hc.1
  have h3 := ha.2.1
  have h4 := hb.2.1
  have h5 := hc.2.1
  unfold maxLen at h3 h4 h5
  replace f1 := Lib.hid f1
  replace f2 := Lib.hid f2
  replace f3 := Lib.hid f3
  clear hd hE hP hQ hR hS
  go_enter Try.func10, Try.ntmps10
  go_wp2_with (first | (go_at_call 32; refine (works22_any _).mono ?_; rintro e w1 ⟨rfl, hb1⟩) | (at_builtin; refine wpList_append_copy _ rfl (.tmp 31) (.tmp 32) 22 rfl 3 i0 (.int .i64 0) 1 8 Try.underlying22 hi hz0 hz1' hz2' rfl (by decide) rfl ao a.length ca (a.map (Value.int .i64)) rfl (hsa.below hb1) (by simp [Value.oneCell']) (by unfold maxLen; omega) (by omega) ?_; intro xo cx w2 hr2 hb2 hf2) | (at_builtin; refine wpList_append_copy _ rfl (.tmp 34) (.tmp 35) 22 rfl 3 i0 (.int .i64 0) 1 8 Try.underlying22 hi hz0 hz1' hz2' rfl (by decide) rfl bo b.length cb (b.map (Value.int .i64)) rfl ((hsb.below hb1).below hb2) (by simp [Value.oneCell']) (by unfold maxLen; omega) (by omega) ?_; intro yo cy w3 hr3 hb3 hf3) | (at_builtin; refine wpList_append_copy _ rfl (.tmp 37) (.tmp 38) 22 rfl 3 i0 (.int .i64 0) 1 8 Try.underlying22 hi hz0 hz1' hz2' rfl (by decide) rfl co c.length cc (c.map (Value.int .i64)) rfl (((hsc.below hb1).below hb2).below hb3) (by simp [Value.oneCell']) (by unfold maxLen; omega) (by omega) ?_; intro zo cz w4 hr4 hb4 hf4))
  have F : Three w w4 xo yo zo cx cy cz a b c := ⟨((Lies.of_row hr2 rfl).below hb3).below hb4, (Lies.of_row hr3 rfl).below hb4, Lies.of_row hr4 rfl, below_chain (below_chain (below_chain hb1 hb2) hb3) hb4⟩
  clear hr2 hr3 hr4 hb1 hb2 hb3 hb4 hf2 hf3 hf4 hsa hsb hsc ha hb hc
  go_at_call 35
  refine (B1.out _ _ _ _ _ F.x F.y).mono ?_
  rintro e w5 ⟨rfl, m5, e5⟩
  replace F := F.dr e5
  clear e5
  go_wp2_with fail
  go_at_call 35
  refine (B2.out _ _ _ _ _ F.y F.z).mono ?_
  rintro e w6 ⟨rfl, m6, e6⟩
  replace F := F.dr e6
  clear e6
  go_wp2_with fail
  go_at_call 35
  refine (B3.out _ _ _ _ _ F.x F.z).mono ?_
  rintro e w7 ⟨rfl, m7, e7⟩
  replace F := F.dr e7
  clear e7
  go_wp2_with fail
  go_at_call 35
  refine (B4.out _ _ _ _ _ F.y F.x).mono ?_
  rintro e w8 ⟨rfl, m8, e8⟩
  replace F := F.dr e8
  clear e8
  go_wp2_with fail
  go_at_call 33
  refine (D1.out _ _ _ _ _ F.x F.y).mono ?_
  rintro e w9 ⟨rfl, m9, e9⟩
  replace F := F.dr e9
  clear e9
  go_wp2_with fail
  go_at_call 35
  refine (B5.out _ _ _ F.x).mono ?_
  rintro e w10 ⟨rfl, m10, e10⟩
  replace F := F.dr e10
  clear e10
  go_wp2_with fail
  go_at_call 35
  refine (B6.out _ _ _ F.x).mono ?_
  rintro e w11 ⟨rfl, m11, e11⟩
  replace F := F.dr e11
  clear e11
  clear B1 B2 B3 B4 B5 B6 D1
  have g1 := f1.out
  have g2 := f2.out
  have g3 := f3.out
  clear f1 f2 f3
  cases P <;> cases Q <;> cases R <;> cases S <;> cases E <;> simp at g1 g2 g3
  all_goals clear g1 g2 g3
  all_goals go_wp2_with fail
  all_goals go_ret
  all_goals exact ⟨rfl, F.below⟩
theorem walkSinkOrder (v0 v1 v2 : Value) (w : World) (h0 : Arg Try.prog w 22 v0) (h1 : Arg Try.prog w 22 v1) (h2 : Arg Try.prog w 22 v2) :
    Calls Try.prog 10 #[v0, v1, v2] w fun e w' => e = .returned (.bool true) ∧ Below w.heap.size w w' := by
  obtain ⟨ao, ca, a, rfl, ha, han, _⟩ := h0.lies Try.underlying22 Try.underlying3 (by kernel_rfl)
  obtain ⟨bo, cb, b, rfl, hb, hbn, _⟩ := h1.lies Try.underlying22 Try.underlying3 (by kernel_rfl)
  obtain ⟨co, cc, c, rfl, hc, hcn, _⟩ := h2.lies Try.underlying22 Try.underlying3 (by kernel_rfl)
  by_cases hl : a.length ≤ 500 ∧ b.length ≤ 500 ∧ c.length ≤ 500
  · obtain ⟨f1, f2, f3⟩ := order_facts a b c
    exact sorder_core a b c ao bo co ca cb cc w _ _ _ _ _ _ rfl rfl rfl rfl rfl rfl (by rw [f1]; simp) f2 f3 ha hb hc han hbn hcn hl.1 hl.2.1 hl.2.2
  · have c1 := ha.1
    have c2 := ha.2.1
    have c3 := hb.1
    have c4 := hb.2.1
    have c5 := hc.1
    have c6 := hc.2.1
    unfold maxLen at c2 c4 c6
    clear ha hb hc
    by_cases hl1 : a.length ≤ 500
    · by_cases hl2 : b.length ≤ 500
      · have hl3 : 500 < c.length := by omega
        go_enter Try.func10, Try.ntmps10
        go_wp2_with (go_at_call 32; refine (works22_any _).mono ?_; rintro e w1 ⟨rfl, hb1⟩)
        go_ret
        exact ⟨rfl, hb1⟩
      · have hl3 : 500 < b.length := by omega
        go_enter Try.func10, Try.ntmps10
        go_wp2_with (go_at_call 32; refine (works22_any _).mono ?_; rintro e w1 ⟨rfl, hb1⟩)
        go_ret
        exact ⟨rfl, hb1⟩
    · have hl2 : 500 < a.length := by omega
      go_enter Try.func10, Try.ntmps10
      go_wp2_with (go_at_call 32; refine (works22_any _).mono ?_; rintro e w1 ⟨rfl, hb1⟩)
      go_ret
      exact ⟨rfl, hb1⟩
end Go.Proofs.Ytkmccbknmpjkhaa
