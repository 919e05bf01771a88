/- Words shared by all texts of this seat: arguments as they come in ('Arg'), and worlds that differ in given blocks alone ('Touch'). -/
import Derived.Test.YtboiogjklecpaaaRows
import Derived.WalkKit
import Derived.WalkSpells
import Derived.WalkLawsBesides
import Derived.ProofKit
import Derived.OpenShut
import Derived.Lib.Hide
import Derived.BigQuiet
import Derived.StillTailTactics
import Derived.Deep.RegionWith
import Derived.Deep.RegionHeld3
import Derived.Deep.QuietTactic
import Derived.Handy
set_option linter.unusedVariables false
set_option linter.unusedSimpArgs false
namespace Go.Proofs.Ytboiogjklecpaaa
open Go.ChangeShapes Go.WideShapes Go.ChangeAt Go.RowKit

/-- An argument as it comes in: a value that reads as some datum of its type. -/
def Arg (P : Program) (w : World) (t : TypeId) (v : Value) : Prop :=
  ∃ base, Value.okWide P w .any base t v ∧ ∃ (H : Type) (enc : TypeId × Value → H) (d : DataW H) (p : List MemPlace), DataW.Trod enc P w 0 (fun _ => true) true t v d p

theorem Arg.int {P : Program} {w : World} {t : TypeId} {v : Value} {k : IntKind} (h : Arg P w t v) (ht : P.underlying t = some (.int k)) : ∃ n, v = .int k n ∧ (Lit.int k n).wf = true := by
  obtain ⟨base, ho, H, enc, d, p, hd⟩ := h
  obtain ⟨x, rfl, _, _, wx⟩ := open_int ht ho hd
  exact ⟨x, rfl, wx⟩
theorem Arg.bool {P : Program} {w : World} {t : TypeId} {v : Value} (h : Arg P w t v) (ht : P.underlying t = some .bool) : ∃ b, v = .bool b := by
  obtain ⟨base, ho, H, enc, d, p, hd⟩ := h
  obtain ⟨x, rfl, _, _⟩ := open_bool ht ho hd
  exact ⟨x, rfl⟩
theorem Arg.string {P : Program} {w : World} {t : TypeId} {v : Value} (h : Arg P w t v) (ht : P.underlying t = some .string) : ∃ s, v = .string s ∧ s.size ≤ maxLen := by
  obtain ⟨base, ho, H, enc, d, p, hd⟩ := h
  obtain ⟨x, rfl, _, _, hs⟩ := Go.ChangeMaps.open_string ht ho hd
  exact ⟨x, rfl, hs⟩

/-- A slice of numbers that can be read: nil, or so many cells from an address on. -/
def IsRow (k : IntKind) (w : World) (a : Option Addr) (zs : List Int) (len : Nat) : Prop :=
  len = zs.length ∧ (∀ n ∈ zs, (Lit.int k n).wf = true) ∧ ((a = none ∧ zs = []) ∨ ∃ x, a = some x ∧ ∀ i, i < zs.length → w.cell? (x.add i) = some (.int k (zs.getD i 0)))

theorem Arg.ints {P : Program} {w : World} {t e : TypeId} {v : Value} {k : IntKind} (h : Arg P w t v) (ht : P.underlying t = some (.slice e)) (he : P.underlying e = some (.int k)) (hc : P.cellsOf e = 1) :
    ∃ a cap zs, v = .slice a zs.length cap ∧ zs.length ≤ cap ∧ cap ≤ maxLen ∧ IsRow k w a zs zs.length ∧ (a = none → cap = 0) := by
  obtain ⟨base, ho, H, enc, d, p, fuel, hf⟩ := h
  obtain ⟨a, len, cap, rfl⟩ := okWide_slice ht ho
  rcases open_ints ht he hc hf with ⟨hcs, _⟩ | ⟨x, l, c, zs, hcs, _, hl, hm, hz, _, hcell, hwz⟩
  · simp [Value.cells] at hcs
    obtain ⟨rfl, rfl, rfl⟩ := hcs
    exact ⟨none, 0, [], rfl, Nat.le_refl _, by simp [maxLen], ⟨rfl, by simp, .inl ⟨rfl, rfl⟩⟩, fun _ => rfl⟩
  · simp [Value.cells] at hcs
    obtain ⟨rfl, rfl, rfl⟩ := hcs
    have hz' : zs.length = cap := by simpa using hz
    have hlen : (zs.take len).length = len := by simp; omega
    refine ⟨some x, cap, zs.take len, by rw [hlen], by omega, hm, ⟨rfl, fun n hn => hwz n (List.mem_of_mem_take hn), .inr ⟨x, rfl, fun i hi => ?_⟩⟩, by simp⟩
    rw [hlen] at hi
    rw [hcell i (by omega)]
    simp [List.getD, hi]

/-- So many blocks there were; those that are none of 'S' are as they were. -/
structure Touch (S : Nat → Prop) (w w' : World) : Prop where
  os : w'.os = w.os
  tape : w'.tape = w.tape
  output : w'.output = w.output
  size : w.heap.size ≤ w'.heap.size
  block : ∀ k, k < w.heap.size → ¬ S k → w'.heap[k]? = w.heap[k]?

theorem Touch.refl (S : Nat → Prop) (w : World) : Touch S w w := ⟨rfl, rfl, rfl, Nat.le_refl _, fun _ _ _ => rfl⟩
theorem Touch.trans {S : Nat → Prop} {a b c : World} (h : Touch S a b) (k : Touch S b c) : Touch S a c :=
  ⟨k.os.trans h.os, k.tape.trans h.tape, k.output.trans h.output, Nat.le_trans h.size k.size, fun i hi hs => (k.block i (Nat.lt_of_lt_of_le hi h.size) hs).trans (h.block i hi hs)⟩
theorem Touch.mono {S S' : Nat → Prop} {w w' : World} (h : Touch S w w') (hs : ∀ k, S k → S' k) : Touch S' w w' :=
  ⟨h.os, h.tape, h.output, h.size, fun k hk hn => h.block k hk (fun s => hn (hs k s))⟩
theorem Touch.of_below {S : Nat → Prop} {w w' : World} (h : Below w.heap.size w w') : Touch S w w' :=
  ⟨h.os, h.tape, h.output, h.size, fun k hk _ => h.block k hk⟩
/-- Beyond B alone something is written. -/
theorem Touch.below {S : Nat → Prop} {B : Nat} {w0 w w' : World} (h : Below B w0 w) (hB : B ≤ w.heap.size) (t : Touch S w w') (hs : ∀ k, S k → B ≤ k) : Below B w0 w' :=
  h.trans ⟨t.os, t.tape, t.output, t.size, fun k hk => t.block k (Nat.lt_of_lt_of_le hk hB) (fun s => Nat.not_lt.2 (hs k s) hk)⟩
theorem Touch.alloc {S : Nat → Prop} {a w : World} (h : Touch S a w) (o : Obj) : Touch S a (w.alloc o) :=
  h.trans (.of_below ((Below.refl _ _).alloc (Nat.le_refl _) o))
theorem Touch.drew {S : Nat → Prop} {a w : World} (h : Touch S a w) : Touch S a w.drew := ⟨h.os, h.tape, h.output, h.size, h.block⟩
theorem Touch.setCell {S : Nat → Prop} {a w : World} (h : Touch S a w) {p : Addr} (hp : a.heap.size ≤ p.block ∨ S p.block) (u : Value) : Touch S a (w.setCell p u) := by
  refine ⟨h.os, h.tape, h.output, by have := h.size; simp [World.setCell]; omega, fun k hk hs => ?_⟩
  rw [Below.heap_setCell _ _ _ _ (by rintro rfl; rcases hp with hp | hp; omega; exact hs hp)]
  exact h.block k hk hs
theorem cell_at {w : World} {b : Nat} {c : Array Value} {t : TypeId} {f : Nat × Nat} (h : w.heap[b]? = some (.cells c t f)) (i : Nat) : w.cell? ⟨b, i, none⟩ = c[i]? := by
  unfold World.cell?; simp [h]
theorem free_at {w : World} {b : Nat} {c : Array Value} {t : TypeId} (h : w.heap[b]? = some (.cells c t (0, 0))) (i : Nat) : w.frozen? ⟨b, i, none⟩ = false := by
  unfold World.frozen?; simp [h]
theorem set_at {w : World} {b : Nat} {c : Array Value} {t : TypeId} {f : Nat × Nat} (h : w.heap[b]? = some (.cells c t f)) (i : Nat) (v : Value) : (w.setCell ⟨b, i, none⟩ v).heap[b]? = some (.cells (c.setIfInBounds i v) t f) := by
  simp only [World.setCell, Array.getElem?_modify, h]; rfl
theorem set_else {w : World} {b b' : Nat} (hb : b' ≠ b) (i : Nat) (v : Value) : (w.setCell ⟨b, i, none⟩ v).heap[b']? = w.heap[b']? := Below.heap_setCell _ _ _ _ hb
theorem lt_at {w : World} {b : Nat} {o : Obj} (h : w.heap[b]? = some o) : b < w.heap.size := (Array.getElem?_eq_some_iff.1 h).1
theorem alloc_at {w : World} {b : Nat} {o : Obj} (h : w.heap[b]? = some o) (o' : Obj) : (w.alloc o').heap[b]? = some o := by
  rw [Below.heap_alloc _ _ _ (lt_at h)]; exact h
theorem alloc_new (w : World) (o : Obj) : (w.alloc o).heap[w.heap.size]? = some o := by show (w.heap.push _)[_]? = _; simp
/-- What a block is, behind a call that has written in other blocks alone. -/
theorem Touch.at {S : Nat → Prop} {w w' : World} (t : Touch S w w') {b : Nat} {o : Obj} (h : w.heap[b]? = some o) (hs : ¬ S b) : w'.heap[b]? = some o := by
  rw [t.block b (lt_at h) hs]; exact h
theorem Touch.of_below' {w w' : World} (h : Below w.heap.size w w') : Touch (fun _ => False) w w' := .of_below h
theorem below_at {B : Nat} {w w' : World} (t : Below B w w') {b : Nat} {o : Obj} (h : w.heap[b]? = some o) (hb : b < B) : w'.heap[b]? = some o := by
  rw [t.block b hb]; exact h
theorem Touch.cell {S : Nat → Prop} {w w' : World} (t : Touch S w w') {p : Addr} (hp : p.block < w.heap.size) (hs : ¬ S p.block) : w'.cell? p = w.cell? p := World.cell?_of_block (t.block p.block hp hs)
theorem Touch.frozen {S : Nat → Prop} {w w' : World} (t : Touch S w w') {p : Addr} (hp : p.block < w.heap.size) (hs : ¬ S p.block) : w'.frozen? p = w.frozen? p := World.frozen?_of_block (t.block p.block hp hs)
theorem below_chain {w a b : World} (h : Below w.heap.size w a) (k : Below a.heap.size a b) : Below w.heap.size w b := h.trans (k.mono h.size)
theorem below_touch {w a b : World} (h : Below w.heap.size w a) (k : Touch (fun _ => False) a b) : Below w.heap.size w b := k.below h h.size (fun _ hk => hk.elim)
/-- A callee that leaves the world as it was, in a region whose order is open. -/
theorem quiet_same {P : Program} {f : FuncId} {args : Array Value} {w : World} {n : Nat} {v : Value} (h : Calls P f args (w.drewN n) fun e w' => e = .returned v ∧ w.drewN n = w') : Calls P f args (w.drewN n) fun e w'' => e = .returned v ∧ ∃ m, w'' = w.drewN m :=
  h.mono fun _ _ ⟨he, hm⟩ => ⟨he, n, hm.symm⟩
theorem still_same {P : Program} {f : FuncId} {args : Array Value} {w : World} {v : Value} (h : Calls P f args w fun e w' => e = .returned v ∧ w = w') : Calls P f args w fun e w' => e = .returned v ∧ w' = w :=
  h.mono fun _ _ ⟨he, hm⟩ => ⟨he, hm.symm⟩
/-- A region whose order is open, and that ends in stores: all ahead of them only reads. -/
theorem region_tail {P : Program} {id : Nat} {Q : Exit → Act → World → Prop} {a : Act} {w : World} {l : List Oper} (n : Nat) (hm : P.follows .mixedOrders = true) (hB : Region.lexTailB .any l.toArray n = true)
    (h : wpStill P l.toArray w.drew (fun a' => wpList P l.toArray Q (l.drop n) a' w.drew) (l.take n) a) : (Code.region id l.toArray true).wp P Q a w := wp_region_still_tail n hm hB h
/-- A cell that there is stays, behind a call that only makes memory. -/
theorem cell_old {W w' : World} (h : Below W.heap.size W w') : ∀ (p : Addr), (W.cell? p).isSome = true → w'.cell? p = W.cell? p := fun p hc => by
  obtain ⟨v, hv⟩ := Option.isSome_iff_exists.1 hc
  exact h.cell (World.block_lt_of_cell? _ _ hv)
theorem frozen_old {W w' : World} (h : Below W.heap.size W w') : ∀ (p : Addr), (W.cell? p).isSome = true → w'.frozen? p = W.frozen? p := fun p hc => by
  obtain ⟨v, hv⟩ := Option.isSome_iff_exists.1 hc
  exact h.frozen (World.block_lt_of_cell? _ _ hv)
theorem cell_alloc_lt {w : World} {b i : Nat} (o : Obj) (h : b < w.heap.size) : (w.alloc o).cell? ⟨b, i, none⟩ = w.cell? ⟨b, i, none⟩ := World.cell?_of_block (Below.heap_alloc _ _ _ h)
theorem cell_alloc_at (w : World) (c : Array Value) (t : TypeId) (f : Nat × Nat) (i : Nat) : (w.alloc (.cells c t f)).cell? ⟨w.heap.size, i, none⟩ = c[i]? := cell_at (alloc_new _ _) i
theorem cell_drew (w : World) (p : Addr) : w.drew.cell? p = w.cell? p := rfl
theorem size_drew' (w : World) : w.drew.heap.size = w.heap.size := rfl
theorem size_alloc' (w : World) (o : Obj) : (w.alloc o).heap.size = w.heap.size + 1 := by simp
theorem ret_int {k : IntKind} {a b : Int} (h : a = b) : Ending.returned (.int k a) = .returned (.int k b) := by rw [h]
theorem ret_bool {a b : Bool} (h : a = b) : Ending.returned (.bool a) = .returned (.bool b) := by rw [h]
theorem ret_str {a b : List UInt8} (h : a = b) : Ending.returned (.string ⟨a.toArray⟩) = .returned (.string ⟨b.toArray⟩) := by rw [h]
/-- A slice of numbers that came in: empty, or so many cells from a place on. -/
theorem Arg.intsR {P : Program} {w : World} {t e : TypeId} {v : Value} {k : IntKind} (h : Arg P w t v) (ht : P.underlying t = some (.slice e)) (he : P.underlying e = some (.int k)) (hc : P.cellsOf e = 1) :
    ∃ (zs : List Int), (∀ n ∈ zs, (Lit.int k n).wf = true) ∧ ((∃ ao cap, zs = [] ∧ v = .slice ao 0 cap ∧ cap ≤ maxLen ∧ (ao = none → cap = 0)) ∨
      ∃ g off cap, v = .slice (some ⟨g, off, none⟩) zs.length cap ∧ 0 < zs.length ∧ zs.length ≤ cap ∧ cap ≤ maxLen ∧ g < w.heap.size ∧ ∀ i, i < zs.length → w.cell? ⟨g, off + i, none⟩ = some (.int k (zs.getD i 0))) := by
  obtain ⟨a, cap, zs, rfl, h1, h2, ⟨_, hwf, hr⟩, h4⟩ := h.ints ht he hc
  refine ⟨zs, hwf, ?_⟩
  by_cases hz : zs = []
  · subst hz; exact .inl ⟨a, cap, rfl, rfl, h2, h4⟩
  · have hp : 0 < zs.length := List.length_pos_iff.2 hz
    rcases hr with ⟨_, h0⟩ | ⟨x, rfl, hcell⟩
    · exact absurd h0 hz
    · obtain ⟨b, off, rfl, hc0⟩ := ints_at hcell hp
      refine .inr ⟨b, off, cap, rfl, hp, h1, h2, World.block_lt_of_cell? _ _ (hc0 0 hp), hc0⟩
end Go.Proofs.Ytboiogjklecpaaa
