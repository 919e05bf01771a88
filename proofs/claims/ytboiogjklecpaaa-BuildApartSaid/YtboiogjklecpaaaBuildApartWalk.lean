/- BuildApart: labels of one function are none of another one. -/
import Derived.Test.YtboiogjklecpaaaBldWorks
set_option linter.unusedVariables false
set_option linter.unusedSimpArgs false
namespace Go.Proofs.Ytboiogjklecpaaa
open Go.RowKit
set_option maxRecDepth 100000
set_option maxHeartbeats 4000000
def apB1 (s : ByteArray) : List BF := [⟨[(0, 0, 0, 0)], [(s, 0)], []⟩, ⟨[(18, 0, 0, 0)], [], [(0, s)]⟩]
def apB2 (s : ByteArray) : List BF := [⟨[(0, 0, 0, 0)], [(s, 0)], []⟩, ⟨[(18, 0, 0, 0), (0, 0, 0, 0)], [(s, 1)], [(0, s)]⟩]
theorem ap1_end (s : ByteArray) : endB 0 (apB1 s) = (0, [], 7) := by rfl
theorem ap2_done (s : ByteArray) : doneB ⟨[(18, 0, 0, 0), (0, 0, 0, 0)], [(s, 1)], [(0, s)]⟩ = some [(18, 1, 0, 0), (0, 0, 0, 0)] := by
  have e : lookB [(s, 1)] s = some 1 := by simp [lookB]
  unfold doneB
  dsimp only
  rw [patchP_cons, e]
  rfl
theorem ap2_end (s : ByteArray) : endB 0 (apB2 s) = (0, [[(0, 0, 0, 0)], [(18, 1, 0, 0), (0, 0, 0, 0)]], 0) := by
  have e : allB (apB2 s) = some [[(0, 0, 0, 0)], [(18, 1, 0, 0), (0, 0, 0, 0)]] := by
    unfold apB2
    rw [allB_cons, allB_cons, ap2_done]
    rfl
  unfold endB
  rw [e]
  rfl
theorem ap1_ok (s : ByteArray) (hs : s.size ≤ maxLen) : ∀ f ∈ apB1 s, FnOk f := by
  intro f hf
  simp [apB1] at hf
  rcases hf with rfl | rfl
  · exact ⟨by simp, by simp, by simp, by simp⟩
  · exact ⟨by simp, by simp, by simp, by simp only [List.mem_singleton]; rintro p rfl; exact hs⟩
theorem ap2_ok (s : ByteArray) (hs : s.size ≤ maxLen) : ∀ f ∈ apB2 s, FnOk f := by
  intro f hf
  simp [apB2] at hf
  rcases hf with rfl | rfl
  · exact ⟨by simp, by simp, by simp, by simp⟩
  · exact ⟨by simp, by simp, by simp, by simp only [List.mem_singleton]; rintro p rfl; exact hs⟩
theorem walkBuildApart (v0 : Value) (w : World) (h0 : Arg Try.prog w 9 v0) : Calls Try.prog 12 #[v0] w fun e w' => e = .returned (.bool true) ∧ Below w.heap.size w w' := by
  obtain ⟨s, rfl, hs⟩ := h0.string Try.underlying9
  have W := Lib.hid (works07_any w)
  clear h0
  go_enter Try.func12, Try.ntmps12
  go_upto_region 3 with (go_at_call 38; refine W.out.mono ?_; rintro e w0 ⟨rfl, hb0⟩)
  by_cases hbig : 1000 < s.size
  · have hbig2 : (1000 : Int) < (s.size : Int) := by omega
    go_wp2
    go_ret
    exact ⟨rfl, hb0⟩
  have hsm : ¬ (1000 : Int) < (s.size : Int) := by omega
  have P1 := Lib.hid (bnew 0 (Own.nil hb0))
  clear hb0
  go_upto_region 6 with (go_at_call 39; refine P1.out.mono ?_; rintro e w1 ⟨bb, rfl, hB1⟩; replace hB1 := Lib.hid hB1)
  have P2 := Lib.hid (bfunc (by simp) hB1.out)
  clear P1 hB1
  go_upto_region 7 with (go_at_call 40; refine P2.out.mono ?_; rintro e w2 ⟨rfl, hB2⟩; replace hB2 := Lib.hid hB2)
  have P3 := Lib.hid (blabel_new (B := []) (by simp) hB2.out s hs rfl (by simp [BF.none_]))
  clear P2 hB2
  go_upto_region 8 with (go_at_call 41; refine P3.out.mono ?_; rintro e w3 ⟨rfl, hB3⟩; replace hB3 := Lib.hid hB3)
  have P4 := Lib.hid (badd1 (B := []) (0, 0, 0, 0) (by simp) hB3.out (by simp [BF.none_]))
  clear P3 hB3
  go_upto_region 9 with (go_at_call 42; refine P4.out.mono ?_; rintro e w4 ⟨rfl, hB4⟩; replace hB4 := Lib.hid hB4)
  have P5 := Lib.hid (bfunc (by simp) hB4.out)
  clear P4 hB4
  go_upto_region 10 with (go_at_call 40; refine P5.out.mono ?_; rintro e w5 ⟨rfl, hB5⟩; replace hB5 := Lib.hid hB5)
  have P6 := Lib.hid (bgoto_some (by simp) hB5.out s (by simp [BF.none_]) (by simp [BF.none_]))
  clear P5 hB5
  go_upto_region 11 with (go_at_call 43; refine P6.out.mono ?_; rintro e w6 ⟨rfl, hB6⟩; replace hB6 := Lib.hid hB6)
  have hb6 : BOwn w w6 bb 0 (apB1 s) [] := hB6.out
  clear P6 hB6
  have P7 := bend (by simp [apB1]) (ap1_ok s hs) hb6
  rw [ap1_end] at P7
  replace P7 := Lib.hid P7
  replace hb6 := Lib.hid hb6
  go_upto_region 12 with (go_at_call 44; refine P7.out.mono ?_; rintro e w7 ⟨ao, c, rfl, hL, hb7⟩; clear hL)
  have hB8 := Lib.hid (hb6.out.grow (w' := w7.alloc (.cells #[.int .i64 0, .slice ao 0 c] 42)) (below_chain hb7 (by go_grown)))
  clear P7 hb6 hb7
  generalize w7.alloc (.cells #[.int .i64 0, .slice ao 0 c] 42) = u at *
  have P8 := Lib.hid (blabel_new (B := [⟨[(0, 0, 0, 0)], [(s, 0)], []⟩]) (f := ⟨[(18, 0, 0, 0)], [], [(0, s)]⟩) (by simp) hB8.out s hs rfl (by simp))
  clear hB8
  go_upto_region 13 with (go_at_call 41; refine P8.out.mono ?_; rintro e w8 ⟨rfl, hB9⟩; replace hB9 := Lib.hid hB9)
  have P9 := Lib.hid (badd1 (0, 0, 0, 0) (by simp) hB9.out (by simp))
  clear P8 hB9
  go_upto_region 14 with (go_at_call 42; refine P9.out.mono ?_; rintro e w9 ⟨rfl, hB10⟩; replace hB10 := Lib.hid hB10)
  have hb10 : BOwn w w9 bb 0 (apB2 s) [] := hB10.out
  clear P9 hB10
  have P10 := bend (by simp [apB2]) (ap2_ok s hs) hb10
  rw [ap2_end] at P10
  replace P10 := Lib.hid P10
  replace hb10 := Lib.hid hb10.below
  go_upto_region 15 with (go_at_call 44; refine P10.out.mono ?_; rintro e w10 ⟨ao, c, rfl, hL, hb11⟩)
  have hL1 := hL.below (w' := w10.alloc (.cells #[.int .i64 0, .slice ao 2 c] 42)) (by go_grown)
  have hbl := Lib.hid (show Below w.heap.size w (w10.alloc (.cells #[.int .i64 0, .slice ao 2 c] 42)) from below_chain hb10.out (below_chain hb11 (by go_grown)))
  clear hL hb10 hb11 P10
  have c1 : (w10.alloc (.cells #[.int .i64 0, .slice ao 2 c] 42)).cell? ⟨w10.heap.size, 1, none⟩ = some (.slice ao 2 c) := cell_at (alloc_new _ _) 1
  obtain ⟨g, off, bo, d, rfl, y0, hI⟩ := hL1.get (i := 1) (by simp)
  obtain ⟨g2, off2, rfl, z0, z1, z2, z3⟩ := hI.get (i := 0) (by simp)
  have hd1 := hI.1
  simp at y0 z0 z1 z2 z3 hd1
  clear hL1 hI
  go_wp2
  go_ret
  exact ⟨rfl, hbl.out⟩
end Go.Proofs.Ytboiogjklecpaaa
