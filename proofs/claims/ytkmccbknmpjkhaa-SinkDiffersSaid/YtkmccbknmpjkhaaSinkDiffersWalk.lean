/- The walk through the law SinkDiffers. -/
import Derived.Test.YtkmccbknmpjkhaaSink3
set_option linter.unusedVariables false
set_option linter.unusedSimpArgs false
namespace Go.Proofs.Ytkmccbknmpjkhaa
open Go.RowKit
/-- Four lists lie here, and nothing that there was is turned. -/
structure Four (w0 w : World) (xo yo ao bo : Option Addr) (cx cy ca cb : Nat) (a b : List Int) : Prop where
  x : Lies w xo cx a
  y : Lies w yo cy b
  a : Lies w ao ca a
  b : Lies w bo cb b
  below : Below w0.heap.size w0 w
theorem Four.dr {w0 w w' : World} {xo yo ao bo : Option Addr} {cx cy ca cb m : Nat} {a b : List Int} (h : Four w0 w xo yo ao bo cx cy ca cb a b) (e : w' = w.drewN m) : Four w0 w' xo yo ao bo cx cy ca cb a b := by
  subst e
  exact ⟨h.x, h.y, h.a, h.b, below_drewN' h.below m⟩
set_option maxHeartbeats 1000000
set_option maxRecDepth 100000
theorem sdiff_core (a b : List Int) (ao bo : Option Addr) (ca cb : Nat) (w : World) (d : Nat) (E P Q : Bool) (hd : (d : Int) = if a = b then 0 else (dAt a b : Int)) (hE : E = !(a == b)) (hP : a.isPrefixOf b = P) (hQ : b.isPrefixOf a = Q) (hda : d ≤ a.length) (hdb : d ≤ b.length) (hpre : (a.take d).isPrefixOf b = true) (hx : E ≠ (P && Q))
    (ha : Lies w ao ca a) (hb : Lies w bo cb b) (han : ao = none → ca = 0) (hbn : bo = none → cb = 0) (hla : a.length ≤ 1000) (hlb : b.length ≤ 1000) :
    Calls Try.prog 9 #[.slice ao a.length ca, .slice bo b.length cb] w fun e w' => e = .returned (.bool true) ∧ Below w.heap.size w w' := by
  obtain ⟨i0, hi, hz0, hz1', hz2'⟩ := info_parts' Try.infoInt'
  have hsa := ha.src han
  have hsb := hb.src hbn
  have D1 := Lib.hid (fun w2 xo cx yo cy (hx : Lies w2 xo cx a) (hy : Lies w2 yo cy b) => differ_core xo yo cx cy a b w2 hx hy d E hd hE)
  have D2 := Lib.hid (fun w2 xo cx yo cy (hx : Lies w2 xo cx a) (hy : Lies w2 yo cy b) => rdiffer_core xo yo cx cy a b w2 hx hy d E hd hE)
  have B1 := fun w2 xo cx yo cy (hx : Lies w2 xo cx a) (hy : Lies w2 yo cy b) => begins_any xo yo cx cy a b w2 hx hy
  have B2 := fun w2 xo cx yo cy (hx : Lies w2 xo cx a) (hy : Lies w2 yo cy b) => rbegins_any xo yo cx cy a b w2 hx hy
  have B3 := fun w2 xo cx yo cy (hx : Lies w2 xo cx a) (hy : Lies w2 yo cy b) => begins_any yo xo cy cx b a w2 hy hx
  have B4 := fun w2 xo cx yo cy (hx : Lies w2 xo cx a) (hy : Lies w2 yo cy b) => begins_any xo yo cx cy (a.take d) b w2 (hx.take hda) hy
  rw [hP] at B1 B2
  rw [hQ] at B3
  rw [hpre] at B4
  have hlt : (a.take d).length = d := by simp; omega
  rw [hlt] at B4
  replace B1 := Lib.hid B1
  replace B2 := Lib.hid B2
  replace B3 := Lib.hid B3
  replace B4 := Lib.hid B4
  have h1 := ha.1
  have h2 := hb.1
  have h3 := ha.2.1
  have h4 := hb.2.1
  unfold maxLen at h3 h4
  clear hd hE hP hQ hpre hlt
  cases E <;> cases P <;> cases Q <;> simp at hx
  all_goals
    go_enter Try.func9, Try.ntmps9
    go_wp2_with (first | (go_at_call 32; refine (works22_any _).mono ?_; rintro e w1 ⟨rfl, hb1⟩)  | (at_builtin; refine wpList_append_copy _ rfl (.tmp 21) (.tmp 22) 22 rfl 3 i0 (.int .i64 0) 1 8 Try.underlying22 hi hz0 hz1' hz2' rfl (by decide) rfl ao a.length ca (a.map (Value.int .i64)) rfl (hsa.below hb1) (by simp [Value.oneCell']) (by unfold maxLen; omega) (by omega) ?_; intro xo cx w2 hr2 hb2 hf2)  | (at_builtin; refine wpList_append_copy _ rfl (.tmp 24) (.tmp 25) 22 rfl 3 i0 (.int .i64 0) 1 8 Try.underlying22 hi hz0 hz1' hz2' rfl (by decide) rfl bo b.length cb (b.map (Value.int .i64)) rfl ((hsb.below hb1).below hb2) (by simp [Value.oneCell']) (by unfold maxLen; omega) (by omega) ?_; intro yo cy w3 hr3 hb3 hf3))
    have F : Four w w3 xo yo ao bo cx cy ca cb a b := ⟨(Lies.of_row hr2 rfl).below hb3, Lies.of_row hr3 rfl, ((ha.below hb1).below hb2).below hb3, ((hb.below hb1).below hb2).below hb3, below_chain (below_chain hb1 hb2) hb3⟩
    have cx1 := F.x.1
    have cx2 := F.x.2.1
    unfold maxLen at cx2
    have cy1 := F.y.1
    have cy2 := F.y.2.1
    unfold maxLen at cy2
    clear hr2 hr3 hb1 hb2 hb3 hf2 hf3 hsa hsb ha hb
    go_at_call 33
    refine (D1.out _ _ _ _ _ F.x F.y).mono ?_
    rintro e w4 ⟨rfl, m4, e4⟩
    replace F := F.dr e4
    clear e4
    go_wp2_with fail
    go_at_call 34
    refine (D2.out _ _ _ _ _ F.a F.b).mono ?_
    rintro e w5 ⟨rfl, m5, e5⟩
    replace F := F.dr e5
    clear e5
    go_wp2_with fail
    go_at_call 35
    refine (B1.out _ _ _ _ _ F.x F.y).mono ?_
    rintro e w6 ⟨rfl, m6, e6⟩
    replace F := F.dr e6
    clear e6
    go_wp2_with fail
    go_at_call 36
    refine (B2.out _ _ _ _ _ F.a F.b).mono ?_
    rintro e w7 ⟨rfl, m7, e7⟩
    replace F := F.dr e7
    clear e7
    go_wp2_with fail
    go_at_call 35
    refine (B4.out _ _ _ _ _ F.x F.y).mono ?_
    rintro e w8 ⟨rfl, m8, e8⟩
    replace F := F.dr e8
    clear e8
    go_wp2_with (first  | (go_at_call 35; (with_reducible refine (B1.out _ _ _ _ _ F.x F.y).mono ?_); rintro e w9 ⟨rfl, m9, e9⟩; replace F := F.dr e9; clear e9)  | (go_at_call 35; (with_reducible refine (B3.out _ _ _ _ _ F.x F.y).mono ?_); rintro e w9 ⟨rfl, m9, e9⟩; replace F := F.dr e9; clear e9))
    go_ret
    exact ⟨rfl, F.below⟩
theorem prefix_anti {a b : List Int} (h1 : a.isPrefixOf b = true) (h2 : b.isPrefixOf a = true) : a = b := by
  rw [List.isPrefixOf_iff_prefix] at h1 h2
  have l1 := h1.length_le
  have l2 := h2.length_le
  exact h1.eq_of_length (by omega)
theorem walkSinkDiffers (v0 v1 : Value) (w : World) (h0 : Arg Try.prog w 22 v0) (h1 : Arg Try.prog w 22 v1) :
    Calls Try.prog 9 #[v0, v1] w fun e w' => e = .returned (.bool true) ∧ Below w.heap.size w w' := by
  obtain ⟨ao, ca, a, rfl, ha, han, _⟩ := h0.lies Try.underlying22 Try.underlying3 (by kernel_rfl)
  obtain ⟨bo, cb, b, rfl, hb, hbn, _⟩ := h1.lies Try.underlying22 Try.underlying3 (by kernel_rfl)
  by_cases hl : a.length ≤ 1000 ∧ b.length ≤ 1000
  · by_cases hab : a = b
    · refine sdiff_core a b ao bo ca cb w 0 false true true (by rw [if_pos hab]; rfl) (by simp [hab]) (by simp [hab]) (by simp [hab]) (by omega) (by omega) (by simp) (by decide) ha hb han hbn hl.1 hl.2
    · have hd := dAt_le a b
      refine sdiff_core a b ao bo ca cb w (dAt a b) true _ _ (by rw [if_neg hab]) (by simp [hab]) rfl rfl hd.1 hd.2 ?_ ?_ ha hb han hbn hl.1 hl.2
      · rw [List.isPrefixOf_iff_prefix, dAt_take]
        exact List.take_prefix _ _
      · intro h
        have h' := h.symm
        rw [Bool.and_eq_true] at h'
        exact hab (prefix_anti h'.1 h'.2)
  · have c1 := ha.1
    have c2 := ha.2.1
    have c3 := hb.1
    have c4 := hb.2.1
    unfold maxLen at c2 c4
    clear ha hb
    by_cases hl1 : a.length ≤ 1000
    · have hl2 : 1000 < b.length := by omega
      go_enter Try.func9, Try.ntmps9
      go_wp2_with (go_at_call 32; refine (works22_any _).mono ?_; rintro e w1 ⟨rfl, hb1⟩)
      go_ret
      exact ⟨rfl, hb1⟩
    · have hl2 : 1000 < a.length := by omega
      go_enter Try.func9, Try.ntmps9
      go_wp2_with (go_at_call 32; refine (works22_any _).mono ?_; rintro e w1 ⟨rfl, hb1⟩)
      go_ret
      exact ⟨rfl, hb1⟩
end Go.Proofs.Ytkmccbknmpjkhaa
