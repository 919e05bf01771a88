/- A list of the deque's steps: who, which kind, what. -/
import Derived.Test.YtofnjapgacgdlaaArgs
import Derived.Test.YtofnjapgacgdlaaKit
set_option linter.unusedVariables false
set_option linter.unusedSimpArgs false
namespace Go.Proofs.Ytofnjapgacgdlaa
open Go.RowKit
set_option maxRecDepth 100000
set_option maxHeartbeats 2000000
theorem fieldsDq : fieldsOf Try.prog 55 = some [(5, 0), (5, 1), (3, 2)] := by kernel_rfl
def opDq (p : Nat × Nat × Int) : List Value := [.int .u8 p.1, .int .u8 p.2.1, .int .i64 p.2.2]
theorem Arg.dqops {w : World} {v : Value} (h : Arg Try.prog w 52 v) :
    ∃ ao cap, ∃ os : List (Nat × Nat × Int), v = .slice ao os.length cap ∧ os.length ≤ cap ∧ cap ≤ maxLen ∧ ∃ g off : Nat, ∀ i, i < os.length → ao = some ⟨g, off, none⟩ ∧
      ∃ a b x, os.getD i (0, 0, 0) = (a, b, x) ∧ a < 256 ∧ b < 256 ∧ w.cell? ⟨g, off + i * 3, none⟩ = some (.int .u8 a) ∧ w.cell? ⟨g, off + i * 3 + 1, none⟩ = some (.int .u8 b) ∧ w.cell? ⟨g, off + i * 3 + 2, none⟩ = some (.int .i64 x) := by
  obtain ⟨ao, cap, os, h1, h2, h3, _, h5, h6⟩ := h.elems (0, 0, 0) 3 opDq (fun p => p.1 < 256 ∧ p.2.1 < 256) Try.underlying52 (by kernel_rfl) (fun cs hl hr => by
    obtain ⟨f1, f2⟩ := hr.fields fieldsDq
    obtain ⟨a, ha, wa⟩ := (f2 0 _ _ rfl).int Try.underlying5
    obtain ⟨b, hb, wb⟩ := (f2 1 _ _ rfl).int Try.underlying5
    obtain ⟨x, hx, _⟩ := (f2 2 _ _ rfl).int Try.underlying3
    rw [show Try.prog.cellsOf 5 = 1 by kernel_rfl] at ha hb
    rw [show Try.prog.cellsOf 3 = 1 by kernel_rfl] at hx
    simp [Lit.wf, IntKind.min, IntKind.max, IntKind.signed, IntKind.bits] at wa wb
    refine ⟨(a.toNat, b.toNat, x), ?_, by constructor <;> dsimp only <;> omega⟩
    match cs, hl with
    | [c0, c1, c2], _ =>
      simp at ha hb hx
      subst ha hb hx
      simp [opDq]
      omega)
  refine ⟨ao, cap, os, h1, h2, h3, ?_⟩
  have key : ∀ i, i < os.length → ∃ ad, ao = some ad ∧ w.cell? (ad.add (i * 3)) = some (.int .u8 (os.getD i (0, 0, 0)).1) ∧ w.cell? (ad.add (i * 3 + 1)) = some (.int .u8 (os.getD i (0, 0, 0)).2.1) ∧ w.cell? (ad.add (i * 3 + 2)) = some (.int .i64 (os.getD i (0, 0, 0)).2.2) := fun i hi => by
    obtain ⟨ad, had, hj⟩ := h6 i hi
    exact ⟨ad, had, hj 0 (by omega), hj 1 (by omega), hj 2 (by omega)⟩
  rcases Nat.eq_zero_or_pos os.length with h0 | h0
  · exact ⟨0, 0, fun i hi => by omega⟩
  · obtain ⟨ad, had, hc1, hc0, hc2⟩ := key 0 h0
    obtain ⟨g, off, spot⟩ := ad
    have hspot : spot = none := by simpa [Addr.add] using World.cell?_spot hc1
    subst hspot
    refine ⟨g, off, fun i hi => ⟨had, ?_⟩⟩
    obtain ⟨ad, had', q0, q1, q2⟩ := key i hi
    rw [had] at had'
    cases had'
    have hb := h5 i hi
    generalize os.getD i (0, 0, 0) = p at *
    obtain ⟨a, b, x⟩ := p
    simp only [Addr.add_lit, ← Nat.add_assoc] at q0 q1 q2
    exact ⟨a, b, x, rfl, hb.1, hb.2, q0, q1, q2⟩
end Go.Proofs.Ytofnjapgacgdlaa
