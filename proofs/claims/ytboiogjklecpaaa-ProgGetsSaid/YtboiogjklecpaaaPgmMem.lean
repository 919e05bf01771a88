/- Programs that lie in memory: slices of slices of instructions. -/
import Derived.Test.YtboiogjklecpaaaPgmSpec
import Derived.Test.YtboiogjklecpaaaWorks03
import Derived.Test.YtboiogjklecpaaaInsOnceWalk
set_option linter.unusedVariables false
set_option linter.unusedSimpArgs false
namespace Go.Proofs.Ytboiogjklecpaaa
open Go.ChangeShapes Go.WideShapes Go.ChangeAt Go.RowKit
def insC (x : I4) : List Value := [.int .i64 x.1, .int .i64 x.2.1, .int .i64 x.2.2.1, .int .i64 x.2.2.2]
/-- The cells of an instruction. -/
def Four (w : World) (g o : Nat) (x : I4) : Prop :=
  w.cell? ⟨g, o, none⟩ = some (.int .i64 x.1) ∧ w.cell? ⟨g, o + 1, none⟩ = some (.int .i64 x.2.1) ∧ w.cell? ⟨g, o + 2, none⟩ = some (.int .i64 x.2.2.1) ∧ w.cell? ⟨g, o + 3, none⟩ = some (.int .i64 x.2.2.2)
/-- A slice of instructions lies in memory. -/
def LiesI (w : World) (ao : Option Addr) (c : Nat) (l : List I4) : Prop :=
  l.length ≤ c ∧ c ≤ maxLen ∧ (ao = none → c = 0) ∧ ∀ i x, l[i]? = some x → ∃ g off, ao = some ⟨g, off, none⟩ ∧ Four w g (off + i * 4) x
/-- A slice of such slices. -/
def LiesF (w : World) (ao : Option Addr) (c : Nat) (fs : List (List I4)) : Prop :=
  fs.length ≤ c ∧ c ≤ maxLen ∧ (ao = none → c = 0) ∧ ∀ i l, fs[i]? = some l → ∃ g off bo d, ao = some ⟨g, off, none⟩ ∧ w.cell? ⟨g, off + i, none⟩ = some (.slice bo l.length d) ∧ LiesI w bo d l
theorem Four.below {w w' : World} {g o : Nat} {x : I4} (h : Four w g o x) (hb : Below w.heap.size w w') : Four w' g o x := by
  obtain ⟨h0, h1, h2, h3⟩ := h
  exact ⟨by rw [cell_old hb _ (by rw [h0]; rfl)]; exact h0, by rw [cell_old hb _ (by rw [h1]; rfl)]; exact h1, by rw [cell_old hb _ (by rw [h2]; rfl)]; exact h2, by rw [cell_old hb _ (by rw [h3]; rfl)]; exact h3⟩
theorem LiesI.below {w w' : World} {ao : Option Addr} {c : Nat} {l : List I4} (h : LiesI w ao c l) (hb : Below w.heap.size w w') : LiesI w' ao c l := by
  refine ⟨h.1, h.2.1, h.2.2.1, fun i x hx => ?_⟩
  obtain ⟨g, off, e, hf⟩ := h.2.2.2 i x hx
  exact ⟨g, off, e, hf.below hb⟩
theorem LiesF.below {w w' : World} {ao : Option Addr} {c : Nat} {fs : List (List I4)} (h : LiesF w ao c fs) (hb : Below w.heap.size w w') : LiesF w' ao c fs := by
  refine ⟨h.1, h.2.1, h.2.2.1, fun i x hx => ?_⟩
  obtain ⟨g, off, bo, d, e, hc, hl⟩ := h.2.2.2 i x hx
  exact ⟨g, off, bo, d, e, by rw [cell_old hb _ (by rw [hc]; rfl)]; exact hc, hl.below hb⟩
theorem getq {α : Type} {l : List α} {i : Nat} (h : i < l.length) (d : α) : l[i]? = some (l.getD i d) := by
  rw [List.getD_eq_getElem?_getD, List.getElem?_eq_getElem h]; rfl
theorem LiesI.get {w : World} {ao : Option Addr} {c : Nat} {l : List I4} (h : LiesI w ao c l) {i : Nat} (hi : i < l.length) : ∃ g off, ao = some ⟨g, off, none⟩ ∧ Four w g (off + i * 4) (l.getD i (0, 0, 0, 0)) := h.2.2.2 i _ (getq hi _)
theorem LiesF.get {w : World} {ao : Option Addr} {c : Nat} {fs : List (List I4)} (h : LiesF w ao c fs) {i : Nat} (hi : i < fs.length) : ∃ g off bo d, ao = some ⟨g, off, none⟩ ∧ w.cell? ⟨g, off + i, none⟩ = some (.slice bo (fs.getD i []).length d) ∧ LiesI w bo d (fs.getD i []) := h.2.2.2 i _ (getq hi _)
theorem fieldsIns : fieldsOf Try.prog 30 = some ((List.range 4).map fun i => (3, i)) := by kernel_rfl
theorem fieldsProg : fieldsOf Try.prog 42 = some [(3, 0), (40, 1)] := by kernel_rfl
theorem len4 {xs : List Int} (h : xs.length = 4) : ∃ a b c d, xs = [a, b, c, d] := by
  match xs, h with
  | [a, b, c, d], _ => exact ⟨a, b, c, d, rfl⟩
theorem add_cell {w : World} {ad : Addr} {v : Value} (h : w.cell? ad = some v) : ∃ g off, ad = ⟨g, off, none⟩ := by
  obtain ⟨g, off, sp⟩ := ad
  have : sp = none := World.cell?_spot h
  subst this
  exact ⟨g, off, rfl⟩
theorem Reads.insSlice {w : World} {cs : List Value} (h : Reads Try.prog w 52 cs) : ∃ (l : List I4) (ao : Option Addr) (c : Nat), cs = [.slice ao l.length c] ∧ LiesI w ao c l := by
  rcases h.slice (e := 30) Try.underlying52 with h0 | ⟨ad, len, cap, h0, hl, hm, hi⟩
  · exact ⟨[], none, 0, h0, by simp, by simp [maxLen], by simp, by simp⟩
  · rcases Nat.eq_zero_or_pos len with rfl | hpos
    · exact ⟨[], some ad, cap, h0, by simp, hm, by simp, by simp⟩
    obtain ⟨g, off, rfl⟩ : ∃ g off, ad = ⟨g, off, none⟩ := by
      obtain ⟨cs', hcs, hr⟩ := hi 0 hpos
      rw [show Try.prog.cellsOf 30 = 4 by kernel_rfl] at hcs
      obtain ⟨hln, hg⟩ := cells_get hcs
      have g0 := hg 0 (by omega)
      rw [List.getElem?_eq_getElem (by omega)] at g0
      simp [Addr.add] at g0
      exact add_cell g0
    have hq : ∀ i, i < len → ∃ x : I4, Four w g (off + i * 4) x := by
      intro i hil
      obtain ⟨cs', hcs, hr⟩ := hi i hil
      rw [show Try.prog.cellsOf 30 = 4 by kernel_rfl] at hcs
      obtain ⟨xs, e1, e2, _⟩ := hr.intFields (ti := 3) 4 fieldsIns Try.underlying3 (by kernel_rfl) (by kernel_rfl)
      obtain ⟨a, b, c, d, rfl⟩ := len4 e2
      subst e1
      obtain ⟨_, hg⟩ := cells_get hcs
      have g0 := hg 0 (by omega)
      have g1 := hg 1 (by omega)
      have g2 := hg 2 (by omega)
      have g3 := hg 3 (by omega)
      rw [Addr.add_add] at g0 g1 g2 g3
      simp at g0 g1 g2 g3
      rw [Addr.add_lit] at g0 g1 g2 g3
      exact ⟨(a, b, c, d), g0, by rw [Nat.add_assoc]; exact g1, by rw [Nat.add_assoc]; exact g2, by rw [Nat.add_assoc]; exact g3⟩
    obtain ⟨xs, rfl, hx⟩ := exists_list (0, 0, 0, 0) _ len hq
    refine ⟨xs, _, cap, h0, hl, hm, by simp, fun i x hix => ?_⟩
    have hil := (List.getElem?_eq_some_iff.1 hix).1
    have hf := hx i hil
    rw [getq hil (0, 0, 0, 0)] at hix
    cases hix
    exact ⟨g, off, rfl, hf⟩
theorem Reads.funcsSlice {w : World} {cs : List Value} (h : Reads Try.prog w 40 cs) : ∃ (fs : List (List I4)) (ao : Option Addr) (c : Nat), cs = [.slice ao fs.length c] ∧ LiesF w ao c fs := by
  rcases h.slice (e := 52) Try.underlying40 with h0 | ⟨ad, len, cap, h0, hl, hm, hi⟩
  · exact ⟨[], none, 0, h0, by simp, by simp [maxLen], by simp, by simp⟩
  · rcases Nat.eq_zero_or_pos len with rfl | hpos
    · exact ⟨[], some ad, cap, h0, by simp, hm, by simp, by simp⟩
    obtain ⟨g, off, rfl⟩ : ∃ g off, ad = ⟨g, off, none⟩ := by
      obtain ⟨cs', hcs, hr⟩ := hi 0 hpos
      rw [show Try.prog.cellsOf 52 = 1 by kernel_rfl] at hcs
      obtain ⟨hln, hg⟩ := cells_get hcs
      have g0 := hg 0 (by omega)
      rw [List.getElem?_eq_getElem (by omega)] at g0
      simp [Addr.add] at g0
      exact add_cell g0
    have hq : ∀ i, i < len → ∃ l : List I4, ∃ bo d, w.cell? ⟨g, off + i, none⟩ = some (.slice bo l.length d) ∧ LiesI w bo d l := by
      intro i hil
      obtain ⟨cs', hcs, hr⟩ := hi i hil
      rw [show Try.prog.cellsOf 52 = 1 by kernel_rfl] at hcs
      obtain ⟨l, bo, d, rfl, hL⟩ := hr.insSlice
      obtain ⟨_, hg⟩ := cells_get hcs
      have g0 := hg 0 (by omega)
      rw [Addr.add_add] at g0
      simp at g0
      rw [Addr.add_lit] at g0
      exact ⟨l, bo, d, g0, hL⟩
    obtain ⟨xs, rfl, hx⟩ := exists_list [] _ len hq
    refine ⟨xs, _, cap, h0, hl, hm, by simp, fun i x hix => ?_⟩
    have hil := (List.getElem?_eq_some_iff.1 hix).1
    obtain ⟨bo, d, h1, h2⟩ := hx i hil
    rw [getq hil []] at hix
    cases hix
    exact ⟨g, off, bo, d, rfl, h1, h2⟩
theorem Arg.prog {w : World} {v : Value} (h : Arg Try.prog w 42 v) : ∃ (mem : Int) (fs : List (List I4)) (ao : Option Addr) (c : Nat), v = .agg #[.int .i64 mem, .slice ao fs.length c] ∧ LiesF w ao c fs := by
  have hr := h.reads
  obtain ⟨h1, h2⟩ := hr.fields fieldsProg
  rw [show Try.prog.cellsOf 42 = 2 by kernel_rfl] at h1
  obtain ⟨cs, rfl, hcs⟩ := agg_of h1 (by decide)
  have r0 := h2 0 _ _ rfl
  have r1 := h2 1 _ _ rfl
  rw [show Try.prog.cellsOf 3 = 1 by kernel_rfl] at r0
  rw [show Try.prog.cellsOf 40 = 1 by kernel_rfl] at r1
  obtain ⟨n, hn, _⟩ := r0.int Try.underlying3
  obtain ⟨fs, ao, c, hf, hL⟩ := r1.funcsSlice
  refine ⟨n, fs, ao, c, ?_, hL⟩
  have hl : cs.toList = [.int .i64 n, .slice ao fs.length c] := by
    simp only [Value.cells] at hn hf h1
    match hcl : cs.toList, h1 with
    | [x, y], _ =>
      rw [hcl] at hn hf
      simp at hn hf
      rw [hn, hf]
  rw [← Array.toArray_toList (xs := cs), hl]
end Go.Proofs.Ytboiogjklecpaaa
