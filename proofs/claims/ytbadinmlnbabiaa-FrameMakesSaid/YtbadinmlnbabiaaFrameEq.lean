/- A frame is the same as itself. -/
import Derived.Test.YtbadinmlnbabiaaFrameKin
import Derived.ChangeKeysEq
set_option linter.unusedVariables false
set_option linter.unusedSimpArgs false
namespace Go.Proofs.Ytbadinmlnbabiaa
open Go.RowKit
set_option maxRecDepth 100000
set_option maxHeartbeats 8000000
theorem eqFields_self {P : Program} (w : World) (d : Nat) (xs : Array Value) : ∀ (fs : List Field), (∀ f ∈ fs, ∃ a, (part f.type xs f.offset).run P w = .ok a w ∧ (Op.equalIn d f.type a a).run P w = .ok true w) → (Op.eqFields d xs xs fs).run P w = .ok true w
  | [], _ => by simp [Op.eqFields]
  | f :: fs, h => by
    obtain ⟨a, p, e⟩ := h f (by simp)
    have ih := eqFields_self w d xs fs (fun g hg => h g (by simp [hg]))
    simp only [Op.eqFields, Sem.run_ite]
    split
    · simp only [Sem.run_bind, p, e, Result.andThen_ok, Bool.not_true, Bool.false_eq_true, if_false, ih]
    · exact ih
theorem eqItems_self {P : Program} (w : World) (d : Nat) (t : TypeId) (c : Nat) (xs : Array Value) : ∀ (is : List Nat), (∀ i ∈ is, ∃ a, (part t xs (i * c)).run P w = .ok a w ∧ (Op.equalIn d t a a).run P w = .ok true w) → (Op.eqItems d t c xs xs is).run P w = .ok true w
  | [], _ => by simp [Op.eqItems]
  | i :: is, h => by
    obtain ⟨a, p, e⟩ := h i (by simp)
    have ih := eqItems_self w d t c xs is (fun g hg => h g (by simp [hg]))
    simp only [Op.eqItems, Sem.run_bind, p, e, Result.andThen_ok, Bool.not_true, Bool.false_eq_true, if_false, ih]
/-- The fields of a frame: where each is. -/
def okField (f : Field) : Bool :=
  (f.type == 3 && [0, 1, 2, 11, 14, 15, 16, 17, 18].contains f.offset) || (f.type == 4 && [12, 13].contains f.offset) || (f.type == 63 && f.offset == 3)
theorem Try.fieldsFrame : (Try.prog.fieldsOf 65).toList.all okField = true := by kernel_rfl
theorem regs_eq (d : Nat) (r0 r1 r2 r3 r4 r5 r6 r7 : Int) (w : World) : (Op.equalIn (d + 2) 63 (.agg (regV r0 r1 r2 r3 r4 r5 r6 r7)) (.agg (regV r0 r1 r2 r3 r4 r5 r6 r7))).run Try.prog w = .ok true w := by
  obtain ⟨i, hi, _⟩ := Option.map_eq_some_iff.1 (show (Try.prog.info? 3).map (·.size) = some 1 by kernel_rfl)
  have hu : Try.prog.underlying 63 = some (.array 8 3) := by kernel_rfl
  rw [run_equalIn_array w (d + 1) _ _ hu hi]
  refine eqItems_self w (d + 1) 3 _ _ (List.range 8) fun j hj => ?_
  have hj8 : j < 8 := by simpa using hj
  rcases (show j = 0 ∨ j = 1 ∨ j = 2 ∨ j = 3 ∨ j = 4 ∨ j = 5 ∨ j = 6 ∨ j = 7 by omega) with rfl | rfl | rfl | rfl | rfl | rfl | rfl | rfl
  · exact ⟨.int .i64 r0, by kernel_rfl, by rw [run_equalIn_int w d _ .i64 .i64 r0 r0 Try.underlying3]; simp⟩
  · exact ⟨.int .i64 r1, by kernel_rfl, by rw [run_equalIn_int w d _ .i64 .i64 r1 r1 Try.underlying3]; simp⟩
  · exact ⟨.int .i64 r2, by kernel_rfl, by rw [run_equalIn_int w d _ .i64 .i64 r2 r2 Try.underlying3]; simp⟩
  · exact ⟨.int .i64 r3, by kernel_rfl, by rw [run_equalIn_int w d _ .i64 .i64 r3 r3 Try.underlying3]; simp⟩
  · exact ⟨.int .i64 r4, by kernel_rfl, by rw [run_equalIn_int w d _ .i64 .i64 r4 r4 Try.underlying3]; simp⟩
  · exact ⟨.int .i64 r5, by kernel_rfl, by rw [run_equalIn_int w d _ .i64 .i64 r5 r5 Try.underlying3]; simp⟩
  · exact ⟨.int .i64 r6, by kernel_rfl, by rw [run_equalIn_int w d _ .i64 .i64 r6 r6 Try.underlying3]; simp⟩
  · exact ⟨.int .i64 r7, by kernel_rfl, by rw [run_equalIn_int w d _ .i64 .i64 r7 r7 Try.underlying3]; simp⟩
theorem eq_frame (k fn pc r0 r1 r2 r3 r4 r5 r6 r7 pa : Int) (di du : Bool) (ix st fo sd se : Int) (w : World) : (Op.equalIn 10000 65 (.agg (frV k fn pc r0 r1 r2 r3 r4 r5 r6 r7 pa di du ix st fo sd se)) (.agg (frV k fn pc r0 r1 r2 r3 r4 r5 r6 r7 pa di du ix st fo sd se))).run Try.prog w = .ok true w := by
  rw [run_equalIn_agg w 9999 _ _ _ (by kernel_rfl) (by kernel_rfl)]
  refine eqFields_self w 9999 _ _ fun f hf => ?_
  have ho := List.all_eq_true.1 Try.fieldsFrame f hf
  have int1 : ∀ a : Int, (Op.equalIn 9999 3 (.int .i64 a) (.int .i64 a)).run Try.prog w = .ok true w := fun a => by rw [run_equalIn_int w 9998 _ .i64 .i64 a a Try.underlying3]; simp
  have bool1 : ∀ a : Bool, (Op.equalIn 9999 4 (.bool a) (.bool a)).run Try.prog w = .ok true w := fun a => by rw [run_equalIn_bool' w 9998 _ a a Try.underlying4]; simp
  unfold okField at ho
  simp only [Bool.or_eq_true, Bool.and_eq_true, beq_iff_eq, List.contains_cons, List.contains_nil, or_false, Bool.or_false] at ho
  rcases ho with (⟨ht, ho⟩ | ⟨ht, ho⟩) | ⟨ht, ho⟩
  · rw [ht]
    rcases ho with h | h | h | h | h | h | h | h | h <;> rw [h]
    · exact ⟨_, by kernel_rfl, int1 k⟩
    · exact ⟨_, by kernel_rfl, int1 fn⟩
    · exact ⟨_, by kernel_rfl, int1 pc⟩
    · exact ⟨_, by kernel_rfl, int1 pa⟩
    · exact ⟨_, by kernel_rfl, int1 ix⟩
    · exact ⟨_, by kernel_rfl, int1 st⟩
    · exact ⟨_, by kernel_rfl, int1 fo⟩
    · exact ⟨_, by kernel_rfl, int1 sd⟩
    · exact ⟨_, by kernel_rfl, int1 se⟩
  · rw [ht]
    rcases ho with h | h <;> rw [h]
    · exact ⟨_, by kernel_rfl, bool1 di⟩
    · exact ⟨_, by kernel_rfl, bool1 du⟩
  · rw [ht, ho]
    exact ⟨_, by kernel_rfl, regs_eq 9997 r0 r1 r2 r3 r4 r5 r6 r7 w⟩
end Go.Proofs.Ytbadinmlnbabiaa
