/- Package core: parameters as they come in. -/
import Derived.Test.YtcegncbnanbenaaCor7
set_option linter.unusedVariables false
set_option linter.unusedSimpArgs false
namespace Go.Proofs.Ytcegncbnanbenaa
open Go.RowKit
theorem fieldsParams : fieldsOf Try.prog 35 = some [(3, 0), (3, 1), (3, 2), (3, 3), (3, 4), (4, 5), (4, 6)] := by kernel_rfl
theorem Arg.params {w : World} {v : Value} (h : Arg Try.prog w 35 v) : ∃ q : QP, v = .agg #[.int .i64 q.W, .int .i64 q.T, .int .i64 q.F, .int .i64 q.D, .int .i64 q.O, .bool q.fo, .bool q.la] := by
  obtain ⟨h1, h2⟩ := h.reads.fields fieldsParams
  rw [show Try.prog.cellsOf 35 = 7 by kernel_rfl] at h1
  obtain ⟨cs, rfl, hcs⟩ := agg_of h1 (by decide)
  have r0 := h2 0 _ _ rfl
  have r1 := h2 1 _ _ rfl
  have r2 := h2 2 _ _ rfl
  have r3 := h2 3 _ _ rfl
  have r4 := h2 4 _ _ rfl
  have r5 := h2 5 _ _ rfl
  have r6 := h2 6 _ _ rfl
  rw [show Try.prog.cellsOf 3 = 1 by kernel_rfl] at r0 r1 r2 r3 r4
  rw [show Try.prog.cellsOf 4 = 1 by kernel_rfl] at r5 r6
  obtain ⟨a, ha, _⟩ := r0.int Try.underlying3
  obtain ⟨b, hb, _⟩ := r1.int Try.underlying3
  obtain ⟨c, hc, _⟩ := r2.int Try.underlying3
  obtain ⟨d, hd, _⟩ := r3.int Try.underlying3
  obtain ⟨e, he, _⟩ := r4.int Try.underlying3
  obtain ⟨f, hf⟩ := r5.bool Try.underlying4
  obtain ⟨g, hg⟩ := r6.bool Try.underlying4
  refine ⟨⟨a, b, c, d, e, f, g⟩, ?_⟩
  simp only [Value.cells] at ha hb hc hd he hf hg h1
  have hl : cs.toList = [.int .i64 a, .int .i64 b, .int .i64 c, .int .i64 d, .int .i64 e, .bool f, .bool g] := by
    match hcl : cs.toList, h1 with
    | [x0, x1, x2, x3, x4, x5, x6], _ =>
      rw [hcl] at ha hb hc hd he hf hg
      simp at ha hb hc hd he hf hg
      rw [ha, hb, hc, hd, he, hf, hg]
  rw [← Array.toArray_toList (xs := cs), hl]
end Go.Proofs.Ytcegncbnanbenaa
