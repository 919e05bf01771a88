/- Package core: New. -/
import Derived.Test.YtcegncbnanbenaaCor1
import Derived.Laws.EntriesVeiled
set_option linter.unusedVariables false
set_option linter.unusedSimpArgs false
namespace Go.Proofs.Ytcegncbnanbenaa
open Go.RowKit
set_option maxRecDepth 100000
set_option maxHeartbeats 8000000
/-- A core's own cells. -/
def coreC (cb gs gd ob lb : Nat) (q : QP) (fv ft : Value) (se st wy : Int) : Ast := cellsA cb #[fv, .int .i64 q.W, .int .i64 q.T, .int .i64 q.F, .int .i64 q.D, .int .i64 q.O, .bool q.fo, .bool q.la, .pointer (some ⟨gs, 0, none⟩), .pointer (some ⟨gd, 0, none⟩), ft, .pointer (some ⟨ob, 0, none⟩), .pointer (some ⟨lb, 0, none⟩), .int .i64 0, .int .i64 0, .int .i64 0, .int .i64 0, .int .i64 0, .int .i64 0, .int .i64 0, .int .i64 se, .int .i64 st, .int .i64 wy] 98
theorem knew_err (q : QP) (mem : Int) (fs : List (List I4)) (ao : Option Addr) (cap : Nat) (n : Nat) (io : Option Addr) (ic : Nat) (w : World) (h : LiesF w ao cap fs) (hn : n ≤ ic) (hic : ic ≤ maxLen) (hE : coreE q mem fs n ≠ 0) :
    Calls Try.prog 8 #[.agg #[.int .i64 mem, .slice ao fs.length cap], .slice io n ic, .agg #[.int .i64 q.W, .int .i64 q.T, .int .i64 q.F, .int .i64 q.D, .int .i64 q.O, .bool q.fo, .bool q.la]] w fun e w' => e = .returned (.tuple #[.pointer none, .int .i64 (coreE q mem fs n)]) ∧ Below w.heap.size w w' := by
  have hO := ((Own.nil (Below.refl _ w)).box #[.int .i64 mem, .slice ao fs.length cap] 33).box #[.int .i64 q.W, .int .i64 q.T, .int .i64 q.F, .int .i64 q.D, .int .i64 q.O, .bool q.fo, .bool q.la] 35
  simp only [List.cons_append, List.nil_append, World.size_alloc] at hO
  obtain ⟨pb, hpb⟩ : ∃ pb, w.heap.size = pb := ⟨_, rfl⟩
  obtain ⟨E, hEE⟩ : ∃ E, coreE q mem fs n = E := ⟨_, rfl⟩
  have CK := Lib.hid (fun (w' : World) (hb : Below w.heap.size w w') => kcheck q mem fs ao cap n io ic w' (h.below hb) hn hic)
  rw [hEE] at CK hE ⊢
  clear hEE h
  go_enter Try.func8, Try.ntmps8
  go_upto_region 1 with fail
  rw [hpb] at hO
  try simp only [hpb]
  generalize (w.alloc (.cells #[.int .i64 mem, .slice ao fs.length cap] 33)).alloc (.cells #[.int .i64 q.W, .int .i64 q.T, .int .i64 q.F, .int .i64 q.D, .int .i64 q.O, .bool q.fo, .bool q.la] 35) = u at *
  generalize pb + 1 = qb at *
  have hE2 : (E == 0) = false := by simpa using hE
  obtain ⟨k0, k1, q0, q1, q2, q3, q4, q5, q6⟩ := show u.cell? ⟨pb, 0, none⟩ = some (.int .i64 mem) ∧ u.cell? ⟨pb, 1, none⟩ = some (.slice ao fs.length cap) ∧ u.cell? ⟨qb, 0, none⟩ = some (.int .i64 q.W) ∧ u.cell? ⟨qb, 1, none⟩ = some (.int .i64 q.T) ∧ u.cell? ⟨qb, 2, none⟩ = some (.int .i64 q.F) ∧ u.cell? ⟨qb, 3, none⟩ = some (.int .i64 q.D) ∧ u.cell? ⟨qb, 4, none⟩ = some (.int .i64 q.O) ∧ u.cell? ⟨qb, 5, none⟩ = some (.bool q.fo) ∧ u.cell? ⟨qb, 6, none⟩ = some (.bool q.la) from ⟨(hO.cget 0 rfl 0).1, (hO.cget 0 rfl 1).1, (hO.cget 1 rfl 0).1, (hO.cget 1 rfl 1).1, (hO.cget 1 rfl 2).1, (hO.cget 1 rfl 3).1, (hO.cget 1 rfl 4).1, (hO.cget 1 rfl 5).1, (hO.cget 1 rfl 6).1⟩
  have hb0 := Lib.hid hO.below
  replace CK := Lib.hid (CK.out u hO.below)
  clear hO hpb
  go_wp2_with (go_at_call 27; refine CK.out.mono ?_; rintro e w1 ⟨rfl, hb1⟩)
  go_ret2
  exact ⟨rfl, below_chain hb0.out hb1⟩
end Go.Proofs.Ytcegncbnanbenaa
