/- Package core: an instruction, how it is run; what the statements ask first. -/
import Derived.Test.YtcegncbnanbenaaCor3
set_option linter.unusedVariables false
set_option linter.unusedSimpArgs false
namespace Go.Proofs.Ytcegncbnanbenaa
open Go.RowKit
set_option maxRecDepth 100000
set_option maxHeartbeats 4000000
def codeAt (fs : List (List I4)) (fn pc : Int) : I4 := if 0 ≤ fn ∧ fn < (fs.length : Int) ∧ 0 ≤ pc ∧ pc < ((fs.getD fn.toNat []).length : Int) then (fs.getD fn.toNat []).getD pc.toNat (0, 0, 0, 0) else (0, 0, 0, 0)
theorem ccode_nil (fn pc : Int) (w : World) : Calls Try.prog 17 #[.pointer none, .int .i64 fn, .int .i64 pc] w fun e w' => e = .returned (.agg #[.int .i64 0, .int .i64 0, .int .i64 0, .int .i64 0]) ∧ Below w.heap.size w w' := by
  have hO := (Own.nil (Below.refl _ w)).box #[.int .i64 0, .int .i64 0, .int .i64 0, .int .i64 0] 29
  simp only [List.nil_append] at hO
  obtain ⟨xb, hxb⟩ : ∃ xb, w.heap.size = xb := ⟨_, rfl⟩
  rw [hxb] at hO
  have hR := Lib.hid (rfl : (0 : Int) = 0)
  go_enter Try.func17, Try.ntmps17
  go_wp2_with fail
  try simp only [hxb]
  generalize w.alloc (.cells #[.int .i64 0, .int .i64 0, .int .i64 0, .int .i64 0] 29) = u at *
  obtain ⟨⟨p0, -⟩, ⟨p1, -⟩, ⟨p2, -⟩, p3, -⟩ := cells4f 0 hO rfl
  exact bodyPost_ret (v := .agg #[.int .i64 0, .int .i64 0, .int .i64 0, .int .i64 0]) (by simp [results, Try.results17, go_sem, p0, p1, p2, p3]) rfl ⟨rfl, by first | exact hO.below | (rw [← hxb]; exact hO.below)⟩
theorem ccode {w : World} {cb : Nat} {fs : List (List I4)} {oa : Option Addr} {oc : Nat} (c0 : w.cell? ⟨cb, 0, none⟩ = some (.slice oa fs.length oc)) (hL : LiesF w oa oc fs) (fn pc : Int) (x : I4) (hx : codeAt fs fn pc = x) :
    Calls Try.prog 17 #[.pointer (some ⟨cb, 0, none⟩), .int .i64 fn, .int .i64 pc] w fun e w' => e = .returned (.agg #[.int .i64 x.1, .int .i64 x.2.1, .int .i64 x.2.2.1, .int .i64 x.2.2.2]) ∧ Below w.heap.size w w' := by
  have hcl : cb < w.heap.size := World.block_lt_of_cell? _ _ c0
  have hc1 := hL.1
  have hc2 := hL.2.1
  unfold maxLen at hc2
  have hO := (Own.nil (Below.refl _ w)).box #[.int .i64 0, .int .i64 0, .int .i64 0, .int .i64 0] 29
  simp only [List.nil_append] at hO
  have c0' : (w.alloc (.cells #[.int .i64 0, .int .i64 0, .int .i64 0, .int .i64 0] 29)).cell? ⟨cb, 0, none⟩ = some (.slice oa fs.length oc) := hO.old c0
  obtain ⟨xb, hxb⟩ : ∃ xb, w.heap.size = xb := ⟨_, rfl⟩
  have HL := Lib.hid (fun (i : Nat) (hi : i < fs.length) => hL.get hi)
  have HO := Lib.hid (fun (p : Addr) (v : Value) (h : w.cell? p = some v) => show (w.alloc (.cells #[.int .i64 0, .int .i64 0, .int .i64 0, .int .i64 0] 29)).cell? p = some v from hO.old h)
  rw [hxb] at hO
  clear hL
  by_cases h1 : fn < 0
  · obtain rfl : (0, 0, 0, 0) = x := by rw [← hx]; unfold codeAt; rw [if_neg (by omega)]
    have hR := Lib.hid (rfl : (0 : Int) = 0)
    clear hx
    go_enter Try.func17, Try.ntmps17
    go_wp2_with fail
    try simp only [hxb]
    generalize w.alloc (.cells #[.int .i64 0, .int .i64 0, .int .i64 0, .int .i64 0] 29) = u at *
    obtain ⟨⟨p0, -⟩, ⟨p1, -⟩, ⟨p2, -⟩, p3, -⟩ := cells4f 0 hO rfl
    exact bodyPost_ret (v := .agg #[.int .i64 0, .int .i64 0, .int .i64 0, .int .i64 0]) (by simp [results, Try.results17, go_sem, p0, p1, p2, p3]) rfl ⟨rfl, by first | exact hO.below | (rw [← hxb]; exact hO.below)⟩
  by_cases h2 : (fs.length : Int) ≤ fn
  · obtain rfl : (0, 0, 0, 0) = x := by rw [← hx]; unfold codeAt; rw [if_neg (by omega)]
    clear hx
    go_enter Try.func17, Try.ntmps17
    go_wp2_with fail
    try simp only [hxb]
    generalize w.alloc (.cells #[.int .i64 0, .int .i64 0, .int .i64 0, .int .i64 0] 29) = u at *
    obtain ⟨⟨p0, -⟩, ⟨p1, -⟩, ⟨p2, -⟩, p3, -⟩ := cells4f 0 hO rfl
    exact bodyPost_ret (v := .agg #[.int .i64 0, .int .i64 0, .int .i64 0, .int .i64 0]) (by simp [results, Try.results17, go_sem, p0, p1, p2, p3]) rfl ⟨rfl, by first | exact hO.below | (rw [← hxb]; exact hO.below)⟩
  by_cases h3 : pc < 0
  · obtain rfl : (0, 0, 0, 0) = x := by rw [← hx]; unfold codeAt; rw [if_neg (by omega)]
    clear hx
    go_enter Try.func17, Try.ntmps17
    go_wp2_with fail
    try simp only [hxb]
    generalize w.alloc (.cells #[.int .i64 0, .int .i64 0, .int .i64 0, .int .i64 0] 29) = u at *
    obtain ⟨⟨p0, -⟩, ⟨p1, -⟩, ⟨p2, -⟩, p3, -⟩ := cells4f 0 hO rfl
    exact bodyPost_ret (v := .agg #[.int .i64 0, .int .i64 0, .int .i64 0, .int .i64 0]) (by simp [results, Try.results17, go_sem, p0, p1, p2, p3]) rfl ⟨rfl, by first | exact hO.below | (rw [← hxb]; exact hO.below)⟩
  obtain ⟨F, rfl⟩ : ∃ F : Nat, fn = (F : Int) := ⟨fn.toNat, by omega⟩
  obtain ⟨C, rfl⟩ : ∃ C : Nat, pc = (C : Int) := ⟨pc.toNat, by omega⟩
  have hF : F < fs.length := by omega
  have hFi : (F : Int) < (fs.length : Int) := by omega
  obtain ⟨g, off, bo, d, rfl, y0, hI⟩ := HL.out F hF
  replace y0 := HO.out _ _ y0
  unfold codeAt at hx
  simp only [Int.toNat_natCast] at hx
  have hd1 := hI.1
  have hd2 := hI.2.1
  unfold maxLen at hd2
  have HI := Lib.hid (fun (i : Nat) (hi : i < (fs.getD F []).length) => hI.get hi)
  clear hI HL
  generalize fs.getD F [] = l at *
  by_cases h4 : (l.length : Int) ≤ (C : Int)
  · obtain rfl : (0, 0, 0, 0) = x := by rw [← hx, if_neg (by omega)]
    clear hx
    go_enter Try.func17, Try.ntmps17
    go_wp2_with fail
    try simp only [hxb]
    generalize w.alloc (.cells #[.int .i64 0, .int .i64 0, .int .i64 0, .int .i64 0] 29) = u at *
    obtain ⟨⟨p0, -⟩, ⟨p1, -⟩, ⟨p2, -⟩, p3, -⟩ := cells4f 0 hO rfl
    exact bodyPost_ret (v := .agg #[.int .i64 0, .int .i64 0, .int .i64 0, .int .i64 0]) (by simp [results, Try.results17, go_sem, p0, p1, p2, p3]) rfl ⟨rfl, by first | exact hO.below | (rw [← hxb]; exact hO.below)⟩
  · have hC : C < l.length := by omega
    rw [if_pos (by omega)] at hx
    obtain ⟨g2, off2, rfl, z0, z1, z2, z3⟩ := HI.out C hC
    rw [hx] at z0 z1 z2 z3
    replace z0 := HO.out _ _ z0
    replace z1 := HO.out _ _ z1
    replace z2 := HO.out _ _ z2
    replace z3 := HO.out _ _ z3
    have hCi : (C : Int) < (l.length : Int) := by omega
    clear hx
    obtain ⟨⟨o0, f0⟩, ⟨o1, f1⟩, ⟨o2, f2⟩, o3, f3⟩ := cells4f 0 hO rfl
    have hO6 := (((hO.cset 0 rfl 0 (.int .i64 x.1)).cset 0 rfl 1 (.int .i64 x.2.1)).cset 0 rfl 2 (.int .i64 x.2.2.1)).cset 0 rfl 3 (.int .i64 x.2.2.2)
    go_enter Try.func17, Try.ntmps17
    go_upto_region 1 with fail
    try simp only [hxb]
    clear c0 hxb
    generalize w.alloc (.cells #[.int .i64 0, .int .i64 0, .int .i64 0, .int .i64 0] 29) = u at *
    go_wp2_with fail
    generalize (((u.setCell ⟨xb, 0, none⟩ (.int .i64 x.1)).setCell ⟨xb, 1, none⟩ (.int .i64 x.2.1)).setCell ⟨xb, 2, none⟩ (.int .i64 x.2.2.1)).setCell ⟨xb, 3, none⟩ (.int .i64 x.2.2.2) = wz at *
    obtain ⟨⟨p0, -⟩, ⟨p1, -⟩, ⟨p2, -⟩, p3, -⟩ := cells4f 0 hO6 rfl
    exact bodyPost_ret (v := .agg #[.int .i64 x.1, .int .i64 x.2.1, .int .i64 x.2.2.1, .int .i64 x.2.2.2]) (by simp [results, Try.results17, go_sem, p0, p1, p2, p3]) rfl ⟨rfl, hO6.below⟩
theorem cparams {w : World} {cb : Nat} (q : QP) (h : w.cell? ⟨cb, 1, none⟩ = some (.int .i64 q.W) ∧ w.cell? ⟨cb, 2, none⟩ = some (.int .i64 q.T) ∧ w.cell? ⟨cb, 3, none⟩ = some (.int .i64 q.F) ∧ w.cell? ⟨cb, 4, none⟩ = some (.int .i64 q.D) ∧ w.cell? ⟨cb, 5, none⟩ = some (.int .i64 q.O) ∧ w.cell? ⟨cb, 6, none⟩ = some (.bool q.fo) ∧ w.cell? ⟨cb, 7, none⟩ = some (.bool q.la)) : Calls Try.prog 23 #[.pointer (some ⟨cb, 0, none⟩)] w fun e w' => e = .returned (.agg #[.int .i64 q.W, .int .i64 q.T, .int .i64 q.F, .int .i64 q.D, .int .i64 q.O, .bool q.fo, .bool q.la]) ∧ Below w.heap.size w w' := by
  obtain ⟨k0, k1, k2, k3, k4, k5, k6⟩ := h
  have hO := (Own.nil (Below.refl _ w)).box #[.int .i64 0, .int .i64 0, .int .i64 0, .int .i64 0, .int .i64 0, .bool false, .bool false] 35
  simp only [List.nil_append] at hO
  obtain ⟨xb, hxb⟩ : ∃ xb, w.heap.size = xb := ⟨_, rfl⟩
  replace k0 := hO.old k0
  replace k1 := hO.old k1
  replace k2 := hO.old k2
  replace k3 := hO.old k3
  replace k4 := hO.old k4
  replace k5 := hO.old k5
  replace k6 := hO.old k6
  rw [hxb] at hO
  go_enter Try.func23, Try.ntmps23
  go_upto_region 1 with fail
  try simp only [hxb]
  clear hxb
  generalize w.alloc (.cells #[.int .i64 0, .int .i64 0, .int .i64 0, .int .i64 0, .int .i64 0, .bool false, .bool false] 35) = u at *
  obtain ⟨o0, f0⟩ := hO.cget 0 rfl 0
  obtain ⟨o1, f1⟩ := hO.cget 0 rfl 1
  obtain ⟨o2, f2⟩ := hO.cget 0 rfl 2
  obtain ⟨o3, f3⟩ := hO.cget 0 rfl 3
  obtain ⟨o4, f4⟩ := hO.cget 0 rfl 4
  obtain ⟨o5, f5⟩ := hO.cget 0 rfl 5
  obtain ⟨o6, f6⟩ := hO.cget 0 rfl 6
  simp at o0 o1 o2 o3 o4 o5 o6
  go_wp2_with fail
  have hO6 := (((((((hO.cset 0 rfl 0 (.int .i64 q.W)).cset 0 rfl 1 (.int .i64 q.T)).cset 0 rfl 2 (.int .i64 q.F)).cset 0 rfl 3 (.int .i64 q.D)).cset 0 rfl 4 (.int .i64 q.O)).cset 0 rfl 5 (.bool q.fo)).cset 0 rfl 6 (.bool q.la))
  generalize (((((((u.setCell ⟨xb, 0, none⟩ (.int .i64 q.W)).setCell ⟨xb, 1, none⟩ (.int .i64 q.T)).setCell ⟨xb, 2, none⟩ (.int .i64 q.F)).setCell ⟨xb, 3, none⟩ (.int .i64 q.D)).setCell ⟨xb, 4, none⟩ (.int .i64 q.O)).setCell ⟨xb, 5, none⟩ (.bool q.fo)).setCell ⟨xb, 6, none⟩ (.bool q.la)) = wz at *
  have p0 := (hO6.cget 0 rfl 0).1
  have p1 := (hO6.cget 0 rfl 1).1
  have p2 := (hO6.cget 0 rfl 2).1
  have p3 := (hO6.cget 0 rfl 3).1
  have p4 := (hO6.cget 0 rfl 4).1
  have p5 := (hO6.cget 0 rfl 5).1
  have p6 := (hO6.cget 0 rfl 6).1
  simp at p0 p1 p2 p3 p4 p5 p6
  exact bodyPost_ret (v := .agg #[.int .i64 q.W, .int .i64 q.T, .int .i64 q.F, .int .i64 q.D, .int .i64 q.O, .bool q.fo, .bool q.la]) (by simp [results, Try.results23, go_sem, p0, p1, p2, p3, p4, p5, p6]) rfl ⟨rfl, hO6.below⟩
theorem cparams_nil (w : World) : Calls Try.prog 23 #[.pointer none] w fun e w' => e = .returned (.agg #[.int .i64 0, .int .i64 0, .int .i64 0, .int .i64 0, .int .i64 0, .bool false, .bool false]) ∧ Below w.heap.size w w' := by
  have hO := (Own.nil (Below.refl _ w)).box #[.int .i64 0, .int .i64 0, .int .i64 0, .int .i64 0, .int .i64 0, .bool false, .bool false] 35
  simp only [List.nil_append] at hO
  obtain ⟨xb, hxb⟩ : ∃ xb, w.heap.size = xb := ⟨_, rfl⟩
  rw [hxb] at hO
  go_enter Try.func23, Try.ntmps23
  go_wp2_with fail
  try simp only [hxb]
  generalize w.alloc (.cells #[.int .i64 0, .int .i64 0, .int .i64 0, .int .i64 0, .int .i64 0, .bool false, .bool false] 35) = u at *
  have p0 := (hO.cget 0 rfl 0).1
  have p1 := (hO.cget 0 rfl 1).1
  have p2 := (hO.cget 0 rfl 2).1
  have p3 := (hO.cget 0 rfl 3).1
  have p4 := (hO.cget 0 rfl 4).1
  have p5 := (hO.cget 0 rfl 5).1
  have p6 := (hO.cget 0 rfl 6).1
  simp at p0 p1 p2 p3 p4 p5 p6
  exact bodyPost_ret (v := .agg #[.int .i64 0, .int .i64 0, .int .i64 0, .int .i64 0, .int .i64 0, .bool false, .bool false]) (by simp [results, Try.results23, go_sem, p0, p1, p2, p3, p4, p5, p6]) rfl ⟨rfl, by first | exact hO.below | (rw [← hxb]; exact hO.below)⟩
end Go.Proofs.Ytcegncbnanbenaa
