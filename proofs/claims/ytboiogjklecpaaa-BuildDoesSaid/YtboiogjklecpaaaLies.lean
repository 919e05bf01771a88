/- Slices of integers that lie in memory; forebaylaw05.Ints. -/
import Derived.Test.YtboiogjklecpaaaRow
import Derived.Deep.Cut
import Derived.Deep.CutRange
set_option linter.unusedVariables false
set_option linter.unusedSimpArgs false
namespace Go.Proofs.Ytboiogjklecpaaa
open Go.RowKit

theorem take_next {a b : List Int} {r : Nat} (ha : r < a.length) (hb : r < b.length) (ht : a.take r = b.take r) (h : a.getD r 0 = b.getD r 0) : a.take (r + 1) = b.take (r + 1) := by
  rw [List.take_succ_eq_append_getElem ha, List.take_succ_eq_append_getElem hb, ht]
  simp only [List.getD_eq_getElem?_getD, List.getElem?_eq_getElem ha, List.getElem?_eq_getElem hb, Option.getD_some] at h
  rw [h]
/-- A slice of integers that lies in w. -/
def Lies (w : World) (ao : Option Addr) (c : Nat) (a : List Int) : Prop :=
  a.length ≤ c ∧ c ≤ maxLen ∧ ((ao = none ∧ a = []) ∨ ∃ ad, ao = some ad ∧ ∀ j, j < a.length → w.cell? (ad.add j) = some (.int .i64 (a.getD j 0)))
theorem Lies.get {w : World} {ao : Option Addr} {c : Nat} {a : List Int} (h : Lies w ao c a) {r : Nat} (hr : r < a.length) : ∃ ad, ao = some ad ∧ w.cell? (ad.add r) = some (.int .i64 (a.getD r 0)) := by
  rcases h.2.2 with ⟨_, h0⟩ | ⟨ad, h0, h1⟩
  · subst h0; simp at hr
  · exact ⟨ad, h0, h1 r hr⟩
theorem Lies.take {w : World} {ao : Option Addr} {c : Nat} {a : List Int} (h : Lies w ao c a) {n : Nat} (hn : n ≤ a.length) : Lies w ao c (a.take n) := by
  refine ⟨by rw [List.length_take]; have := h.1; omega, h.2.1, ?_⟩
  rcases h.2.2 with ⟨h1, h0⟩ | ⟨ad, h0, h1⟩
  · subst h0; exact .inl ⟨h1, by simp⟩
  · refine .inr ⟨ad, h0, fun j hj => ?_⟩
    rw [List.length_take] at hj
    rw [h1 j (by omega), List.getD_eq_getElem?_getD, List.getD_eq_getElem?_getD, List.getElem?_take_of_lt (by omega)]
theorem Lies.same {w w' : World} {ao : Option Addr} {c : Nat} {a : List Int} (h : Lies w ao c a) (hs : ∀ p : Addr, (w.cell? p).isSome = true → w'.cell? p = w.cell? p) : Lies w' ao c a := by
  refine ⟨h.1, h.2.1, ?_⟩
  rcases h.2.2 with h0 | ⟨ad, h0, h1⟩
  · exact .inl h0
  · exact .inr ⟨ad, h0, fun j hj => by rw [hs _ (by rw [h1 j hj]; rfl), h1 j hj]⟩
theorem drewN_two {w : World} {m k : Nat} : (w.drewN m).drewN k = w.drewN (m + k) := by rw [World.drewN_drewN]
theorem drewN_all {w w' : World} {m k : Nat} (h : w' = w.drewN m) : w'.drewN k = w.drewN (m + k) := by rw [h, World.drewN_drewN]

theorem info_parts' {P : Program} {t : TypeId} {z : Value} {s b : Nat} (h : (P.info? t).map (fun i => (i.zero, i.size, i.bytes)) = some (some z, s, b)) : ∃ i, P.info? t = some i ∧ i.zero = some z ∧ i.size = s ∧ i.bytes = b := by
  cases hp : P.info? t with
  | none => rw [hp] at h; cases h
  | some i => rw [hp] at h; simp at h; exact ⟨i, rfl, h.1, h.2.1, h.2.2⟩
theorem below_drewN' {B : Nat} {w0 w : World} (h : Below B w0 w) : ∀ n, Below B w0 (w.drewN n)
  | 0 => h
  | n + 1 => (below_drewN' h n).drew
theorem Lies.of_row {w : World} {ao : Option Addr} {c n : Nat} {a : List Int} (h : Row w 3 1 (.slice ao n c) n (a.map (.int .i64))) (hn : n = a.length) : Lies w ao c a := by
  subst hn
  obtain ⟨ao', cap', hv, h1, h2, h3⟩ := h.shape
  simp only [Value.slice.injEq] at hv
  obtain ⟨rfl, _, rfl⟩ := hv
  refine ⟨h1, h2, ?_⟩
  cases ao with
  | none => exact .inl ⟨rfl, List.eq_nil_of_length_eq_zero (h3 rfl).1⟩
  | some ad => exact .inr ⟨ad, rfl, fun j hj => h.cells ad rfl j _ (by rw [List.getElem?_map, List.getElem?_eq_getElem hj, List.getD_eq_getElem?_getD, List.getElem?_eq_getElem hj]; rfl)⟩
theorem Lies.of_src {w : World} {ao : Option Addr} {c : Nat} {a : List Int} (h : Src w ao a.length c 1 (a.map (.int .i64))) (h1 : a.length ≤ c) (h2 : c ≤ maxLen) : Lies w ao c a := by
  refine ⟨h1, h2, ?_⟩
  cases ao with
  | none => exact .inl ⟨rfl, List.eq_nil_of_length_eq_zero (h.2.1 rfl).1⟩
  | some ad => exact .inr ⟨ad, rfl, fun j hj => h.2.2 ad rfl j _ (by rw [List.getElem?_map, List.getElem?_eq_getElem hj, List.getD_eq_getElem?_getD, List.getElem?_eq_getElem hj]; rfl)⟩
theorem Lies.alloc {w : World} {ao : Option Addr} {c : Nat} {a : List Int} (h : Lies w ao c a) (o : Obj) : Lies (w.alloc o) ao c a :=
  h.same fun p hp => cell_old (w' := w.alloc o) (by go_grown) p hp
theorem Lies.below {w w' : World} {ao : Option Addr} {c : Nat} {a : List Int} (h : Lies w ao c a) (hb : Below w.heap.size w w') : Lies w' ao c a :=
  h.same fun p hp => cell_old hb p hp
theorem Lies.drewN {w : World} {ao : Option Addr} {c : Nat} {a : List Int} (h : Lies w ao c a) (n : Nat) : Lies (w.drewN n) ao c a := h
theorem Lies.src {w : World} {ao : Option Addr} {c : Nat} {a : List Int} (h : Lies w ao c a) (hn : ao = none → c = 0) : Src w ao a.length c 1 (a.map (.int .i64)) := by
  refine ⟨by simp, fun h0 => ?_, fun ad had j u hj => ?_⟩
  · rcases h.2.2 with ⟨_, h1⟩ | ⟨ad, h1, _⟩
    · exact ⟨by simp [h1], hn h0⟩
    · rw [h0] at h1; cases h1
  · rcases h.2.2 with ⟨h1, _⟩ | ⟨ad', h1, h2⟩
    · rw [had] at h1; cases h1
    · rw [had] at h1
      cases h1
      have hlt : j < a.length := by have := (List.getElem?_eq_some_iff.1 hj).1; simpa using this
      rw [h2 j hlt]
      simp [hlt] at hj ⊢; exact hj
/-- An argument that is a slice of integers. -/
theorem Arg.lies {P : Program} {w : World} {t e : TypeId} {v : Value} (h : Arg P w t v) (ht : P.underlying t = some (.slice e)) (he : P.underlying e = some (.int .i64)) (hc : P.cellsOf e = 1) :
    ∃ ao cap zs, v = .slice ao zs.length cap ∧ Lies w ao cap zs ∧ (ao = none → cap = 0) ∧ ∀ n ∈ zs, -9223372036854775808 ≤ n ∧ n ≤ 9223372036854775807 := by
  obtain ⟨a, cap, zs, rfl, h1, h2, ⟨_, hwf, hr⟩, h4⟩ := h.ints ht he hc
  refine ⟨a, cap, zs, rfl, ⟨h1, h2, ?_⟩, h4, fun n hn => ?_⟩
  · rcases hr with hr | ⟨x, rfl, hcell⟩
    · exact .inl hr
    · exact .inr ⟨x, rfl, hcell⟩
  · have := hwf n hn
    simp [Lit.wf, IntKind.min, IntKind.max, IntKind.signed, IntKind.bits] at this
    omega

set_option maxHeartbeats 1000000
set_option maxRecDepth 100000
end Go.Proofs.Ytboiogjklecpaaa
