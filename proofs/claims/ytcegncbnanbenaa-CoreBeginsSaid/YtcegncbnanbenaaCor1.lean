/- Package core: the small functions below it, and what is wrong with a run. -/
import Derived.Test.YtcegncbnanbenaaCoProg
set_option linter.unusedVariables false
set_option linter.unusedSimpArgs false
namespace Go.Proofs.Ytcegncbnanbenaa
open Go.RowKit
set_option maxRecDepth 100000
set_option maxHeartbeats 2000000
/-- How a run is made: workers, throttle, frames, room of a deque, of the output, folding, lazy. -/
structure QP where
  W : Int
  T : Int
  F : Int
  D : Int
  O : Int
  fo : Bool
  la : Bool
def QP.cells (q : QP) : Array Value := #[.int .i64 q.W, .int .i64 q.T, .int .i64 q.F, .int .i64 q.D, .int .i64 q.O, .bool q.fo, .bool q.la]
def QP.plan (q : QP) : Array Value := #[.int .i64 q.W, .int .i64 q.F, .int .i64 q.T, .int .i64 q.D]
def QP.ok (q : QP) : Bool := okPlan q.W q.F q.T q.D
def coreE (q : QP) (mem : Int) (fs : List (List I4)) (n : Nat) : Int :=
  if checkP mem fs ≠ 0 then checkP mem fs else if q.ok = false ∨ q.O < 0 ∨ 1000 < q.O then 3 else if mem < (n : Int) then 9 else 0
theorem cplan_any (q : QP) (w : World) : Calls Try.prog 47 #[.agg #[.int .i64 q.W, .int .i64 q.T, .int .i64 q.F, .int .i64 q.D, .int .i64 q.O, .bool q.fo, .bool q.la]] w fun e w' => e = .returned (.agg #[.int .i64 q.W, .int .i64 q.F, .int .i64 q.T, .int .i64 q.D]) ∧ Below w.heap.size w w' := by
  have hO := ((Own.nil (Below.refl _ w)).box #[.int .i64 q.W, .int .i64 q.T, .int .i64 q.F, .int .i64 q.D, .int .i64 q.O, .bool q.fo, .bool q.la] 35).box #[.int .i64 0, .int .i64 0, .int .i64 0, .int .i64 0] 72
  simp only [List.cons_append, List.nil_append, World.size_alloc] at hO
  obtain ⟨xb, hxb⟩ : ∃ xb, w.heap.size = xb := ⟨_, rfl⟩
  go_enter Try.func47, Try.ntmps47
  go_upto_region 1 with fail
  rw [hxb] at hO
  try simp only [hxb]
  generalize (w.alloc (.cells #[.int .i64 q.W, .int .i64 q.T, .int .i64 q.F, .int .i64 q.D, .int .i64 q.O, .bool q.fo, .bool q.la] 35)).alloc (.cells #[.int .i64 0, .int .i64 0, .int .i64 0, .int .i64 0] 72) = u at *
  generalize hyb : xb + 1 = yb at *
  have a0 := (hO.cget 0 rfl 0).1
  have a1 := (hO.cget 0 rfl 1).1
  have a2 := (hO.cget 0 rfl 2).1
  have a3 := (hO.cget 0 rfl 3).1
  simp at a0 a1 a2 a3
  obtain ⟨b0, f0⟩ := hO.cget 1 rfl 0
  obtain ⟨b1, f1⟩ := hO.cget 1 rfl 1
  obtain ⟨b2, f2⟩ := hO.cget 1 rfl 2
  obtain ⟨b3, f3⟩ := hO.cget 1 rfl 3
  simp at b0 b1 b2 b3
  clear hyb hxb
  go_wp2_with fail
  have hO6 := (((hO.cset 1 rfl 0 (.int .i64 q.W)).cset 1 rfl 1 (.int .i64 q.F)).cset 1 rfl 2 (.int .i64 q.T)).cset 1 rfl 3 (.int .i64 q.D)
  generalize (((u.setCell ⟨yb, 0, none⟩ (.int .i64 q.W)).setCell ⟨yb, 1, none⟩ (.int .i64 q.F)).setCell ⟨yb, 2, none⟩ (.int .i64 q.T)).setCell ⟨yb, 3, none⟩ (.int .i64 q.D) = wz at *
  have p0 := (hO6.cget 1 rfl 0).1
  have p1 := (hO6.cget 1 rfl 1).1
  have p2 := (hO6.cget 1 rfl 2).1
  have p3 := (hO6.cget 1 rfl 3).1
  simp at p0 p1 p2 p3
  exact bodyPost_ret (v := .agg #[.int .i64 q.W, .int .i64 q.F, .int .i64 q.T, .int .i64 q.D]) (by simp [results, Try.results47, go_sem, p0, p1, p2, p3]) rfl ⟨rfl, hO6.below⟩
theorem lnew {w0 w : World} {l : List Ast} (h : Own w0 w l) : Calls Try.prog 49 #[] w fun e w' => ∃ lb, e = .returned (.pointer (some ⟨lb, 0, none⟩)) ∧ Own w0 w' (l ++ [cellsA lb #[.slice none 0 0] 131]) := by
  have hO := Lib.hid (h.box #[.slice none 0 0] 131)
  clear h
  go_enter Try.func49, Try.ntmps49
  go_wp2
  go_ret
  exact ⟨_, rfl, hO.out⟩
theorem lall {w : World} {lb : Nat} (h : w.cell? ⟨lb, 0, none⟩ = some (.slice none 0 0)) : Calls Try.prog 67 #[.pointer (some ⟨lb, 0, none⟩)] w fun e w' => e = .returned (.slice none 0 0) ∧ w = w' := by
  go_enter Try.func67, Try.ntmps67
  go_wp2
  go_ret
  exact ⟨rfl, rfl⟩
theorem llen {w : World} {lb : Nat} (h : w.cell? ⟨lb, 0, none⟩ = some (.slice none 0 0)) : Calls Try.prog 34 #[.pointer (some ⟨lb, 0, none⟩)] w fun e w' => e = .returned (.int .i64 0) ∧ w = w' := by
  have L := Lib.hid (lall h)
  clear h
  go_enter Try.func34, Try.ntmps34
  go_wp2_with (go_at_call 67; refine L.out.mono ?_; rintro e w2 ⟨rfl, rfl⟩)
  go_ret
  exact ⟨rfl, rfl⟩
theorem snew {w0 w : World} {l : List Ast} (h : Own w0 w l) (n : Int) (h0 : 0 ≤ n) (h1 : n ≤ 1000) : Calls Try.prog 48 #[.int .i64 n] w fun e w' => ∃ sb, e = .returned (.pointer (some ⟨sb, 0, none⟩)) ∧ Own w0 w' (l ++ [cellsA sb #[.slice none 0 0, .int .i64 n] 120]) := by
  have hO := Lib.hid (h.box #[.slice none 0 0, .int .i64 n] 120)
  have e1 : max n 0 = n := by omega
  have e2 : min n 1000 = n := by omega
  clear h
  go_enter Try.func48, Try.ntmps48
  go_wp2
  go_ret
  exact ⟨_, rfl, hO.out⟩
theorem slen {w : World} {sb : Nat} (h : w.cell? ⟨sb, 0, none⟩ = some (.slice none 0 0)) : Calls Try.prog 33 #[.pointer (some ⟨sb, 0, none⟩)] w fun e w' => e = .returned (.int .i64 0) ∧ w = w' := by
  go_enter Try.func33, Try.ntmps33
  go_wp2
  go_ret
  exact ⟨rfl, rfl⟩
theorem kcheck (q : QP) (mem : Int) (fs : List (List I4)) (ao : Option Addr) (cap : Nat) (n : Nat) (io : Option Addr) (ic : Nat) (w : World) (h : LiesF w ao cap fs) (hn : n ≤ ic) (hic : ic ≤ maxLen) :
    Calls Try.prog 27 #[.agg #[.int .i64 mem, .slice ao fs.length cap], .slice io n ic, .agg #[.int .i64 q.W, .int .i64 q.T, .int .i64 q.F, .int .i64 q.D, .int .i64 q.O, .bool q.fo, .bool q.la]] w fun e w' => e = .returned (.int .i64 (coreE q mem fs n)) ∧ Below w.heap.size w w' := by
  have hO := ((Own.nil (Below.refl _ w)).box #[.int .i64 mem, .slice ao fs.length cap] 33).box #[.int .i64 q.W, .int .i64 q.T, .int .i64 q.F, .int .i64 q.D, .int .i64 q.O, .bool q.fo, .bool q.la] 35
  simp only [List.cons_append, List.nil_append, World.size_alloc] at hO
  obtain ⟨xb, hxb⟩ : ∃ xb, w.heap.size = xb := ⟨_, rfl⟩
  unfold maxLen at hic
  obtain ⟨E, hE⟩ : ∃ E, checkP mem fs = E := ⟨_, rfl⟩
  have CK := Lib.hid (fun (w' : World) (hb : Below w.heap.size w w') => pcheck_any mem fs ao cap w' (h.below hb))
  rw [hE] at CK
  obtain ⟨ok, hok⟩ : ∃ ok, q.ok = ok := ⟨_, rfl⟩
  have PC := Lib.hid (fun (w' : World) => check_any q.W q.F q.T q.D w')
  have hce : checkOf q.W q.F q.T q.D = (if ok = true then 0 else 3) := by unfold checkOf; rw [show okPlan q.W q.F q.T q.D = ok from hok]
  have PL := Lib.hid (fun (w' : World) => cplan_any q w')
  have hR := Lib.hid (show coreE q mem fs n = if E ≠ 0 then E else if ok = false ∨ q.O < 0 ∨ 1000 < q.O then 3 else if mem < (n : Int) then 9 else 0 by unfold coreE; rw [hE, hok])
  rw [hce] at PC
  clear hE hok hce h
  go_enter Try.func27, Try.ntmps27
  go_upto_region 1 with fail
  rw [hxb] at hO
  try simp only [hxb]
  generalize (w.alloc (.cells #[.int .i64 mem, .slice ao fs.length cap] 33)).alloc (.cells #[.int .i64 q.W, .int .i64 q.T, .int .i64 q.F, .int .i64 q.D, .int .i64 q.O, .bool q.fo, .bool q.la] 35) = u at *
  generalize xb + 1 = yb at *
  have K := Lib.hid (fun (w' : World) (hb : Below u.heap.size u w') => show (w'.cell? ⟨xb, 0, none⟩ = some (.int .i64 mem) ∧ w'.cell? ⟨xb, 1, none⟩ = some (.slice ao fs.length cap)) ∧ (w'.cell? ⟨yb, 0, none⟩ = some (.int .i64 q.W) ∧ w'.cell? ⟨yb, 1, none⟩ = some (.int .i64 q.T) ∧ w'.cell? ⟨yb, 2, none⟩ = some (.int .i64 q.F) ∧ w'.cell? ⟨yb, 3, none⟩ = some (.int .i64 q.D) ∧ w'.cell? ⟨yb, 4, none⟩ = some (.int .i64 q.O) ∧ w'.cell? ⟨yb, 5, none⟩ = some (.bool q.fo) ∧ w'.cell? ⟨yb, 6, none⟩ = some (.bool q.la)) from by
    have hO' := hO.grow hb
    exact ⟨⟨(hO'.cget 0 rfl 0).1, (hO'.cget 0 rfl 1).1⟩, (hO'.cget 1 rfl 0).1, (hO'.cget 1 rfl 1).1, (hO'.cget 1 rfl 2).1, (hO'.cget 1 rfl 3).1, (hO'.cget 1 rfl 4).1, (hO'.cget 1 rfl 5).1, (hO'.cget 1 rfl 6).1⟩)
  have hb0 := Lib.hid hO.below
  clear hO hxb
  obtain ⟨⟨k0, k1⟩, -⟩ := K.out u (Below.refl _ _)
  replace CK := Lib.hid (CK.out u hb0.out)
  by_cases hE0 : E = 0
  · subst hE0
    go_upto_region 4 with (go_at_call 60; refine CK.out.mono ?_; rintro e w1 ⟨rfl, hb1⟩)
    clear k0 k1
    obtain ⟨⟨k0, k1⟩, q0, q1, q2, q3, q4, q5, q6⟩ := K.out w1 hb1
    cases ok with
    | false =>
      rw [if_neg (by decide)] at PC
      go_wp2_with (first | (go_at_call 47; refine (PL.out _).mono ?_; rintro e w2 ⟨rfl, hb2⟩) | (go_at_call 61; refine (PC.out _).mono ?_; rintro e w3 ⟨rfl, hb3⟩))
      go_ret
      exact ⟨by rw [hR.out]; simp, below_chain hb0.out (below_chain hb1 (below_chain hb2 hb3))⟩
    | true =>
      rw [if_pos rfl] at PC
      go_upto_region 5 with (first | (go_at_call 47; refine (PL.out _).mono ?_; rintro e w2 ⟨rfl, hb2⟩) | (go_at_call 61; refine (PC.out _).mono ?_; rintro e w3 ⟨rfl, hb3⟩))
      have hb4 := below_chain hb1 (below_chain hb2 hb3)
      clear k0 k1 q0 q1 q2 q3 q4 q5 q6
      obtain ⟨⟨k0, k1⟩, q0, q1, q2, q3, q4, q5, q6⟩ := K.out w3 hb4
      replace hb4 := below_chain hb0.out hb4
      clear hb1 hb2 hb3 K PL PC CK hb0 q0 q1 q2 q3 q5 q6 k1
      by_cases o1 : q.O < 0
      · have hV := Lib.hid (show coreE q mem fs n = 3 by rw [hR.out, if_neg (by simp), if_pos (.inr (.inl o1))])
        go_wp2
        go_ret
        exact ⟨by rw [hV.out]; rfl, hb4⟩
      by_cases o2 : 1000 < q.O
      · go_wp2
        go_ret
        exact ⟨by rw [hR.out]; simp [o2], hb4⟩
      by_cases o3 : mem < (n : Int)
      · have hV := Lib.hid (show coreE q mem fs n = 9 by rw [hR.out, if_neg (by simp), if_neg (by simp; omega), if_pos o3])
        go_wp2
        go_ret
        exact ⟨by rw [hV.out]; rfl, hb4⟩
      · have hV := Lib.hid (show coreE q mem fs n = 0 by rw [hR.out, if_neg (by simp), if_neg (by simp; omega), if_neg o3])
        go_wp2
        go_ret
        exact ⟨by rw [hV.out]; rfl, hb4⟩
  · have hE2 : (E == 0) = false := by simpa using hE0
    have hV := Lib.hid (show coreE q mem fs n = E by rw [hR.out, if_pos hE0])
    clear hR PC PL K
    go_wp2_with (go_at_call 60; refine CK.out.mono ?_; rintro e w1 ⟨rfl, hb1⟩)
    go_ret
    exact ⟨by rw [hV.out]; rfl, below_chain hb0.out hb1⟩
end Go.Proofs.Ytcegncbnanbenaa
