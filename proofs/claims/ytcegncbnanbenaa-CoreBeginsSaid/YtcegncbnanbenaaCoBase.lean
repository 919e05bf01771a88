/- Contracts and plain facts, cut out of the texts that other statements use:  Base, Row, Read, Args, Lies, Own, OwnInts, Region, Kit, Lin, Pair, Tail. -/
import Derived.Test.YtcegncbnanbenaaRows
import Derived.WalkKit
import Derived.WalkSpells
import Derived.WalkLawsBesides
import Derived.ProofKit
import Derived.OpenShut
import Derived.Lib.Hide
import Derived.BigQuiet
import Derived.StillTailTactics
import Derived.Deep.RegionWith
import Derived.Deep.RegionHeld3
import Derived.Deep.QuietTactic
import Derived.Handy
import Derived.Deep.Slices
import Derived.Deep.Cut
import Derived.Deep.CutRange
import Derived.OrdersHeld
set_option linter.unusedVariables false
set_option linter.unusedSimpArgs false
namespace Go.Proofs.Ytcegncbnanbenaa
section
open Go.ChangeShapes Go.WideShapes Go.ChangeAt Go.RowKit
/-- An argument as it comes in: a value that reads as some datum of its type. -/
def Arg (P : Program) (w : World) (t : TypeId) (v : Value) : Prop :=
  ∃ base, Value.okWide P w .any base t v ∧ ∃ (H : Type) (enc : TypeId × Value → H) (d : DataW H) (p : List MemPlace), DataW.Trod enc P w 0 (fun _ => true) true t v d p
theorem Arg.int {P : Program} {w : World} {t : TypeId} {v : Value} {k : IntKind} (h : Arg P w t v) (ht : P.underlying t = some (.int k)) : ∃ n, v = .int k n ∧ (Lit.int k n).wf = true := by
  obtain ⟨base, ho, H, enc, d, p, hd⟩ := h
  obtain ⟨x, rfl, _, _, wx⟩ := open_int ht ho hd
  exact ⟨x, rfl, wx⟩
theorem Arg.bool {P : Program} {w : World} {t : TypeId} {v : Value} (h : Arg P w t v) (ht : P.underlying t = some .bool) : ∃ b, v = .bool b := by
  obtain ⟨base, ho, H, enc, d, p, hd⟩ := h
  obtain ⟨x, rfl, _, _⟩ := open_bool ht ho hd
  exact ⟨x, rfl⟩
theorem Arg.string {P : Program} {w : World} {t : TypeId} {v : Value} (h : Arg P w t v) (ht : P.underlying t = some .string) : ∃ s, v = .string s ∧ s.size ≤ maxLen := by
  obtain ⟨base, ho, H, enc, d, p, hd⟩ := h
  obtain ⟨x, rfl, _, _, hs⟩ := Go.ChangeMaps.open_string ht ho hd
  exact ⟨x, rfl, hs⟩
/-- A slice of numbers that can be read: nil, or so many cells from an address on. -/
def IsRow (k : IntKind) (w : World) (a : Option Addr) (zs : List Int) (len : Nat) : Prop :=
  len = zs.length ∧ (∀ n ∈ zs, (Lit.int k n).wf = true) ∧ ((a = none ∧ zs = []) ∨ ∃ x, a = some x ∧ ∀ i, i < zs.length → w.cell? (x.add i) = some (.int k (zs.getD i 0)))
theorem Arg.ints {P : Program} {w : World} {t e : TypeId} {v : Value} {k : IntKind} (h : Arg P w t v) (ht : P.underlying t = some (.slice e)) (he : P.underlying e = some (.int k)) (hc : P.cellsOf e = 1) :
    ∃ a cap zs, v = .slice a zs.length cap ∧ zs.length ≤ cap ∧ cap ≤ maxLen ∧ IsRow k w a zs zs.length ∧ (a = none → cap = 0) := by
  obtain ⟨base, ho, H, enc, d, p, fuel, hf⟩ := h
  obtain ⟨a, len, cap, rfl⟩ := okWide_slice ht ho
  rcases open_ints ht he hc hf with ⟨hcs, _⟩ | ⟨x, l, c, zs, hcs, _, hl, hm, hz, _, hcell, hwz⟩
  · simp [Value.cells] at hcs
    obtain ⟨rfl, rfl, rfl⟩ := hcs
    exact ⟨none, 0, [], rfl, Nat.le_refl _, by simp [maxLen], ⟨rfl, by simp, .inl ⟨rfl, rfl⟩⟩, fun _ => rfl⟩
  · simp [Value.cells] at hcs
    obtain ⟨rfl, rfl, rfl⟩ := hcs
    have hz' : zs.length = cap := by simpa using hz
    have hlen : (zs.take len).length = len := by simp; omega
    refine ⟨some x, cap, zs.take len, by rw [hlen], by omega, hm, ⟨rfl, fun n hn => hwz n (List.mem_of_mem_take hn), .inr ⟨x, rfl, fun i hi => ?_⟩⟩, by simp⟩
    rw [hlen] at hi
    rw [hcell i (by omega)]
    simp [List.getD, hi]
/-- So many blocks there were; those that are none of 'S' are as they were. -/
structure Touch (S : Nat → Prop) (w w' : World) : Prop where
  os : w'.os = w.os
  tape : w'.tape = w.tape
  output : w'.output = w.output
  size : w.heap.size ≤ w'.heap.size
  block : ∀ k, k < w.heap.size → ¬ S k → w'.heap[k]? = w.heap[k]?
theorem Touch.refl (S : Nat → Prop) (w : World) : Touch S w w := ⟨rfl, rfl, rfl, Nat.le_refl _, fun _ _ _ => rfl⟩
theorem Touch.trans {S : Nat → Prop} {a b c : World} (h : Touch S a b) (k : Touch S b c) : Touch S a c :=
  ⟨k.os.trans h.os, k.tape.trans h.tape, k.output.trans h.output, Nat.le_trans h.size k.size, fun i hi hs => (k.block i (Nat.lt_of_lt_of_le hi h.size) hs).trans (h.block i hi hs)⟩
theorem Touch.mono {S S' : Nat → Prop} {w w' : World} (h : Touch S w w') (hs : ∀ k, S k → S' k) : Touch S' w w' :=
  ⟨h.os, h.tape, h.output, h.size, fun k hk hn => h.block k hk (fun s => hn (hs k s))⟩
theorem Touch.of_below {S : Nat → Prop} {w w' : World} (h : Below w.heap.size w w') : Touch S w w' :=
  ⟨h.os, h.tape, h.output, h.size, fun k hk _ => h.block k hk⟩
/-- Beyond B alone something is written. -/
theorem Touch.below {S : Nat → Prop} {B : Nat} {w0 w w' : World} (h : Below B w0 w) (hB : B ≤ w.heap.size) (t : Touch S w w') (hs : ∀ k, S k → B ≤ k) : Below B w0 w' :=
  h.trans ⟨t.os, t.tape, t.output, t.size, fun k hk => t.block k (Nat.lt_of_lt_of_le hk hB) (fun s => Nat.not_lt.2 (hs k s) hk)⟩
theorem Touch.alloc {S : Nat → Prop} {a w : World} (h : Touch S a w) (o : Obj) : Touch S a (w.alloc o) :=
  h.trans (.of_below ((Below.refl _ _).alloc (Nat.le_refl _) o))
theorem Touch.drew {S : Nat → Prop} {a w : World} (h : Touch S a w) : Touch S a w.drew := ⟨h.os, h.tape, h.output, h.size, h.block⟩
theorem Touch.setCell {S : Nat → Prop} {a w : World} (h : Touch S a w) {p : Addr} (hp : a.heap.size ≤ p.block ∨ S p.block) (u : Value) : Touch S a (w.setCell p u) := by
  refine ⟨h.os, h.tape, h.output, by have := h.size; simp [World.setCell]; omega, fun k hk hs => ?_⟩
  rw [Below.heap_setCell _ _ _ _ (by rintro rfl; rcases hp with hp | hp; omega; exact hs hp)]
  exact h.block k hk hs
theorem cell_at {w : World} {b : Nat} {c : Array Value} {t : TypeId} {f : Nat × Nat} (h : w.heap[b]? = some (.cells c t f)) (i : Nat) : w.cell? ⟨b, i, none⟩ = c[i]? := by
  unfold World.cell?; simp [h]
theorem free_at {w : World} {b : Nat} {c : Array Value} {t : TypeId} (h : w.heap[b]? = some (.cells c t (0, 0))) (i : Nat) : w.frozen? ⟨b, i, none⟩ = false := by
  unfold World.frozen?; simp [h]
theorem set_at {w : World} {b : Nat} {c : Array Value} {t : TypeId} {f : Nat × Nat} (h : w.heap[b]? = some (.cells c t f)) (i : Nat) (v : Value) : (w.setCell ⟨b, i, none⟩ v).heap[b]? = some (.cells (c.setIfInBounds i v) t f) := by
  simp only [World.setCell, Array.getElem?_modify, h]; rfl
theorem set_else {w : World} {b b' : Nat} (hb : b' ≠ b) (i : Nat) (v : Value) : (w.setCell ⟨b, i, none⟩ v).heap[b']? = w.heap[b']? := Below.heap_setCell _ _ _ _ hb
theorem lt_at {w : World} {b : Nat} {o : Obj} (h : w.heap[b]? = some o) : b < w.heap.size := (Array.getElem?_eq_some_iff.1 h).1
theorem alloc_at {w : World} {b : Nat} {o : Obj} (h : w.heap[b]? = some o) (o' : Obj) : (w.alloc o').heap[b]? = some o := by
  rw [Below.heap_alloc _ _ _ (lt_at h)]; exact h
theorem alloc_new (w : World) (o : Obj) : (w.alloc o).heap[w.heap.size]? = some o := by show (w.heap.push _)[_]? = _; simp
/-- What a block is, behind a call that has written in other blocks alone. -/
theorem Touch.at {S : Nat → Prop} {w w' : World} (t : Touch S w w') {b : Nat} {o : Obj} (h : w.heap[b]? = some o) (hs : ¬ S b) : w'.heap[b]? = some o := by
  rw [t.block b (lt_at h) hs]; exact h
theorem Touch.of_below' {w w' : World} (h : Below w.heap.size w w') : Touch (fun _ => False) w w' := .of_below h
theorem below_at {B : Nat} {w w' : World} (t : Below B w w') {b : Nat} {o : Obj} (h : w.heap[b]? = some o) (hb : b < B) : w'.heap[b]? = some o := by
  rw [t.block b hb]; exact h
theorem Touch.cell {S : Nat → Prop} {w w' : World} (t : Touch S w w') {p : Addr} (hp : p.block < w.heap.size) (hs : ¬ S p.block) : w'.cell? p = w.cell? p := World.cell?_of_block (t.block p.block hp hs)
theorem Touch.frozen {S : Nat → Prop} {w w' : World} (t : Touch S w w') {p : Addr} (hp : p.block < w.heap.size) (hs : ¬ S p.block) : w'.frozen? p = w.frozen? p := World.frozen?_of_block (t.block p.block hp hs)
theorem below_chain {w a b : World} (h : Below w.heap.size w a) (k : Below a.heap.size a b) : Below w.heap.size w b := h.trans (k.mono h.size)
theorem below_touch {w a b : World} (h : Below w.heap.size w a) (k : Touch (fun _ => False) a b) : Below w.heap.size w b := k.below h h.size (fun _ hk => hk.elim)
/-- A callee that leaves the world as it was, in a region whose order is open. -/
theorem quiet_same {P : Program} {f : FuncId} {args : Array Value} {w : World} {n : Nat} {v : Value} (h : Calls P f args (w.drewN n) fun e w' => e = .returned v ∧ w.drewN n = w') : Calls P f args (w.drewN n) fun e w'' => e = .returned v ∧ ∃ m, w'' = w.drewN m :=
  h.mono fun _ _ ⟨he, hm⟩ => ⟨he, n, hm.symm⟩
theorem still_same {P : Program} {f : FuncId} {args : Array Value} {w : World} {v : Value} (h : Calls P f args w fun e w' => e = .returned v ∧ w = w') : Calls P f args w fun e w' => e = .returned v ∧ w' = w :=
  h.mono fun _ _ ⟨he, hm⟩ => ⟨he, hm.symm⟩
/-- A region whose order is open, and that ends in stores: all ahead of them only reads. -/
theorem region_tail {P : Program} {id : Nat} {Q : Exit → Act → World → Prop} {a : Act} {w : World} {l : List Oper} (n : Nat) (hm : P.follows .mixedOrders = true) (hB : Region.lexTailB .any l.toArray n = true)
    (h : wpStill P l.toArray w.drew (fun a' => wpList P l.toArray Q (l.drop n) a' w.drew) (l.take n) a) : (Code.region id l.toArray true).wp P Q a w := wp_region_still_tail n hm hB h
/-- A cell that there is stays, behind a call that only makes memory. -/
theorem cell_old {W w' : World} (h : Below W.heap.size W w') : ∀ (p : Addr), (W.cell? p).isSome = true → w'.cell? p = W.cell? p := fun p hc => by
  obtain ⟨v, hv⟩ := Option.isSome_iff_exists.1 hc
  exact h.cell (World.block_lt_of_cell? _ _ hv)
theorem frozen_old {W w' : World} (h : Below W.heap.size W w') : ∀ (p : Addr), (W.cell? p).isSome = true → w'.frozen? p = W.frozen? p := fun p hc => by
  obtain ⟨v, hv⟩ := Option.isSome_iff_exists.1 hc
  exact h.frozen (World.block_lt_of_cell? _ _ hv)
theorem cell_alloc_lt {w : World} {b i : Nat} (o : Obj) (h : b < w.heap.size) : (w.alloc o).cell? ⟨b, i, none⟩ = w.cell? ⟨b, i, none⟩ := World.cell?_of_block (Below.heap_alloc _ _ _ h)
theorem cell_alloc_at (w : World) (c : Array Value) (t : TypeId) (f : Nat × Nat) (i : Nat) : (w.alloc (.cells c t f)).cell? ⟨w.heap.size, i, none⟩ = c[i]? := cell_at (alloc_new _ _) i
theorem cell_drew (w : World) (p : Addr) : w.drew.cell? p = w.cell? p := rfl
theorem size_drew' (w : World) : w.drew.heap.size = w.heap.size := rfl
theorem size_alloc' (w : World) (o : Obj) : (w.alloc o).heap.size = w.heap.size + 1 := by simp
theorem ret_int {k : IntKind} {a b : Int} (h : a = b) : Ending.returned (.int k a) = .returned (.int k b) := by rw [h]
theorem ret_bool {a b : Bool} (h : a = b) : Ending.returned (.bool a) = .returned (.bool b) := by rw [h]
theorem ret_str {a b : List UInt8} (h : a = b) : Ending.returned (.string ⟨a.toArray⟩) = .returned (.string ⟨b.toArray⟩) := by rw [h]
/-- A slice of numbers that came in: empty, or so many cells from a place on. -/
theorem Arg.intsR {P : Program} {w : World} {t e : TypeId} {v : Value} {k : IntKind} (h : Arg P w t v) (ht : P.underlying t = some (.slice e)) (he : P.underlying e = some (.int k)) (hc : P.cellsOf e = 1) :
    ∃ (zs : List Int), (∀ n ∈ zs, (Lit.int k n).wf = true) ∧ ((∃ ao cap, zs = [] ∧ v = .slice ao 0 cap ∧ cap ≤ maxLen ∧ (ao = none → cap = 0)) ∨
      ∃ g off cap, v = .slice (some ⟨g, off, none⟩) zs.length cap ∧ 0 < zs.length ∧ zs.length ≤ cap ∧ cap ≤ maxLen ∧ g < w.heap.size ∧ ∀ i, i < zs.length → w.cell? ⟨g, off + i, none⟩ = some (.int k (zs.getD i 0))) := by
  obtain ⟨a, cap, zs, rfl, h1, h2, ⟨_, hwf, hr⟩, h4⟩ := h.ints ht he hc
  refine ⟨zs, hwf, ?_⟩
  by_cases hz : zs = []
  · subst hz; exact .inl ⟨a, cap, rfl, rfl, h2, h4⟩
  · have hp : 0 < zs.length := List.length_pos_iff.2 hz
    rcases hr with ⟨_, h0⟩ | ⟨x, rfl, hcell⟩
    · exact absurd h0 hz
    · obtain ⟨b, off, rfl, hc0⟩ := ints_at hcell hp
      refine .inr ⟨b, off, cap, rfl, hp, h1, h2, World.block_lt_of_cell? _ _ (hc0 0 hp), hc0⟩
end
section
open Go.RowKit
/-- v is a slice of n elements of type e, each of 'size' cells: the cells xs; its spare room is there and may be written. -/
def Row (w : World) (e : TypeId) (size : Nat) (v : Value) (n : Nat) (xs : List Value) : Prop :=
  xs.length = n * size ∧
  ((v = .slice none 0 0 ∧ n = 0) ∨
   ∃ g off cap cur fr, v = .slice (some ⟨g, off, none⟩) n cap ∧ w.heap[g]? = some (.cells cur e fr) ∧ n ≤ cap ∧ cap ≤ maxLen ∧ off + cap * size ≤ cur.size ∧
     (∀ j, j < cap * size → ¬ (fr.1 ≤ off + j ∧ off + j < fr.2)) ∧ ∀ j, j < n * size → cur[off + j]? = xs[j]?)
theorem Row.cast {w : World} {e : TypeId} {size : Nat} {v : Value} {n n' : Nat} {xs xs' : List Value} (h : Row w e size v n xs) (hn : n = n') (hx : xs = xs') : Row w e size v n' xs' := by subst hn hx; exact h
theorem Row.nil (w : World) (e : TypeId) (size : Nat) : Row w e size (.slice none 0 0) 0 [] := ⟨by simp, .inl ⟨rfl, rfl⟩⟩
theorem Row.len {w : World} {e : TypeId} {size : Nat} {v : Value} {n : Nat} {xs : List Value} (h : Row w e size v n xs) : xs.length = n * size := h.1
theorem Row.lt {w : World} {e : TypeId} {size : Nat} {v : Value} {n : Nat} {xs : List Value} (h : Row w e size v n xs) {k : Nat} (hk : v.ownBlock = some k) : k < w.heap.size := by
  rcases h.2 with ⟨rfl, _⟩ | ⟨g, off, cap, cur, fr, rfl, hh, _⟩
  · cases hk
  · simp [Value.ownBlock] at hk; subst hk
    exact (Array.getElem?_eq_some_iff.1 hh).1
/-- A row of known shape. -/
theorem Row.shape {w : World} {e : TypeId} {size : Nat} {v : Value} {n : Nat} {xs : List Value} (h : Row w e size v n xs) : ∃ ao cap, v = .slice ao n cap ∧ n ≤ cap ∧ cap ≤ maxLen ∧ (ao = none → n = 0 ∧ cap = 0) := by
  rcases h.2 with ⟨rfl, rfl⟩ | ⟨g, off, cap, cur, fr, rfl, _, h1, h2, _⟩
  · exact ⟨none, 0, rfl, Nat.le_refl _, by simp [maxLen], fun _ => ⟨rfl, rfl⟩⟩
  · exact ⟨_, cap, rfl, h1, h2, fun h => by cases h⟩
/-- A row with an element in it lies somewhere. -/
theorem Row.addr {w : World} {e : TypeId} {size : Nat} {v : Value} {n : Nat} {xs : List Value} (h : Row w e size v n xs) (hn : 0 < n) :
    ∃ g off cap, v = .slice (some ⟨g, off, none⟩) n cap ∧ n ≤ cap ∧ cap ≤ maxLen ∧ (∀ j, j < n * size → w.cell? ⟨g, off + j, none⟩ = xs[j]?) ∧ (∀ j, j < n * size → w.frozen? ⟨g, off + j, none⟩ = false) := by
  rcases h.2 with ⟨_, rfl⟩ | ⟨g, off, cap, cur, fr, rfl, hh, h1, h2, h3, h4, h5⟩
  · omega
  · have hm := Nat.mul_le_mul_right size h1
    refine ⟨g, off, cap, rfl, h1, h2, fun j hj => by rw [cell_at hh]; exact h5 j hj, fun j hj => ?_⟩
    have := h4 j (by omega)
    obtain ⟨lo, hi⟩ := fr
    unfold World.frozen?; simp only [hh]
    simp at this ⊢; omega
theorem Row.cells {w : World} {e : TypeId} {size : Nat} {ao : Option Addr} {n cap : Nat} {xs : List Value} (h : Row w e size (.slice ao n cap) n xs) : ∀ ad, ao = some ad → ∀ j u, xs[j]? = some u → w.cell? (ad.add j) = some u := by
  rintro ad rfl j u hj
  rcases h.2 with ⟨h0, _⟩ | ⟨g, off, cap', cur, fr, hv, hh, h1, h2, h3, h4, h5⟩
  · simp at h0
  · simp only [Value.slice.injEq, Option.some.injEq] at hv
    obtain ⟨rfl, _, rfl⟩ := hv
    have hlt : j < n * size := by have := (List.getElem?_eq_some_iff.1 hj).1; rw [h.1] at this; exact this
    rw [Addr.add_lit, cell_at hh, h5 j hlt, hj]
theorem Row.same {w w' : World} {e : TypeId} {size : Nat} {v : Value} {n : Nat} {xs : List Value} (h : Row w e size v n xs) (hb : ∀ k, v.ownBlock = some k → w'.heap[k]? = w.heap[k]?) : Row w' e size v n xs := by
  refine ⟨h.1, ?_⟩
  rcases h.2 with h0 | ⟨g, off, cap, cur, fr, rfl, hh, r⟩
  · exact .inl h0
  · exact .inr ⟨g, off, cap, cur, fr, rfl, by rw [hb g rfl]; exact hh, r⟩
theorem Row.touch {S : Nat → Prop} {w w' : World} {e : TypeId} {size : Nat} {v : Value} {n : Nat} {xs : List Value} (h : Row w e size v n xs) (t : Touch S w w') (hs : ∀ k, v.ownBlock = some k → ¬ S k) : Row w' e size v n xs :=
  h.same fun k hk => t.block k (h.lt hk) (hs k hk)
theorem Row.alloc {w : World} {e : TypeId} {size : Nat} {v : Value} {n : Nat} {xs : List Value} (h : Row w e size v n xs) (o : Obj) : Row (w.alloc o) e size v n xs :=
  h.same fun _ hk => Below.heap_alloc _ _ _ (h.lt hk)
theorem Row.drew {w : World} {e : TypeId} {size : Nat} {v : Value} {n : Nat} {xs : List Value} (h : Row w e size v n xs) : Row w.drew e size v n xs := h
theorem Row.setCell {w : World} {e : TypeId} {size : Nat} {v : Value} {n : Nat} {xs : List Value} (h : Row w e size v n xs) {a : Addr} (ha : v.ownBlock ≠ some a.block) (u : Value) : Row (w.setCell a u) e size v n xs :=
  h.same fun k hk => Below.heap_setCell _ _ _ _ (by rintro rfl; exact ha hk)
theorem Row.below {B : Nat} {w w' : World} {e : TypeId} {size : Nat} {v : Value} {n : Nat} {xs : List Value} (h : Row w e size v n xs) (t : Below B w w') (hs : ∀ k, v.ownBlock = some k → k < B) : Row w' e size v n xs :=
  h.same fun k hk => t.block k (hs k hk)
theorem Row.of_owns {w : World} {base : Nat} {e : TypeId} {size : Nat} {v : Value} {n : Nat} {xs : List Value} (h : w.ownsRow base e size v n xs) : Row w e size v n xs := by
  refine ⟨h.1, ?_⟩
  rcases h.2 with h0 | ⟨g, cap, cur, hv, _, hh, h1, h2, h3, h4⟩
  · exact .inl h0
  · refine .inr ⟨g, 0, cap, cur, (0, 0), hv, hh, h1, h2, by omega, by simp, fun j hj => ?_⟩
    rw [← h4, Nat.zero_add, List.getElem?_take_of_lt hj]; simp
/-- A new block that holds just a row. -/
theorem Row.lit (w : World) (e : TypeId) (size : Nat) (cs : Array Value) (n : Nat) (hm : n ≤ maxLen) (hs : cs.size = n * size) :
    Row (w.alloc (.cells cs e)) e size (.slice (some ⟨w.heap.size, 0, none⟩) n n) n cs.toList := by
  refine ⟨by simp [hs], .inr ⟨w.heap.size, 0, n, cs, (0, 0), rfl, ?_, Nat.le_refl _, hm, by omega, by simp, fun j hj => by simp⟩⟩
  show (w.heap.push _)[_]? = _; simp
/-- What is behind: a cut of a row from i on. -/
theorem Row.take {w : World} {e : TypeId} {size : Nat} {a : Option Addr} {n cap : Nat} {xs : List Value} (h : Row w e size (.slice a n cap) n xs) {i : Nat} (hi : i ≤ n) : Row w e size (.slice a i cap) i (xs.take (i * size)) := by
  have hm := Nat.mul_le_mul_right size hi
  refine ⟨by rw [List.length_take, h.1]; omega, ?_⟩
  rcases h.2 with ⟨h0, h1⟩ | ⟨g, off, cap', cur, fr, hv, hh, h1, h2, h3, h4, h5⟩
  · simp at h0; obtain ⟨rfl, _, rfl⟩ := h0; exact .inl ⟨by simp; omega, by omega⟩
  · simp at hv; obtain ⟨rfl, rfl⟩ := hv
    exact .inr ⟨g, off, cap, cur, fr, rfl, hh, by omega, h2, h3, h4, fun j hj => by rw [h5 j (by omega), List.getElem?_take_of_lt hj]⟩
theorem Row.drop {w : World} {e : TypeId} {size : Nat} {g off : Nat} {n cap : Nat} {xs : List Value} (h : Row w e size (.slice (some ⟨g, off, none⟩) n cap) n xs) {i : Nat} (hi : i ≤ n) :
    Row w e size (.slice (some ⟨g, off + i * size, none⟩) (n - i) (cap - i)) (n - i) (xs.drop (i * size)) := by
  have hm := Nat.mul_le_mul_right size hi
  refine ⟨by rw [List.length_drop, h.1, Nat.sub_mul], ?_⟩
  rcases h.2 with ⟨h0, h1⟩ | ⟨g', off', cap', cur, fr, hv, hh, h1, h2, h3, h4, h5⟩
  · simp at h0
  · simp at hv; obtain ⟨⟨rfl, rfl⟩, rfl⟩ := hv
    have hm2 := Nat.mul_le_mul_right size (Nat.le_trans hi h1)
    refine .inr ⟨g, off + i * size, cap - i, cur, fr, rfl, hh, by omega, by omega, by rw [Nat.sub_mul]; omega, fun j hj => ?_, fun j hj => ?_⟩
    · rw [Nat.sub_mul] at hj; have := h4 (i * size + j) (by omega); rw [Nat.add_assoc]; exact this
    · rw [Nat.sub_mul] at hj; rw [Nat.add_assoc, h5 _ (by omega)]; simp
theorem setCells_heap (b : Nat) : ∀ (vs : List Value) (o : Nat) (w : World), (w.setCells b o vs).heap.size = w.heap.size ∧ (w.setCells b o vs).os = w.os ∧ (w.setCells b o vs).tape = w.tape ∧ (w.setCells b o vs).output = w.output ∧ ∀ k, k ≠ b → (w.setCells b o vs).heap[k]? = w.heap[k]?
  | [], _, w => ⟨rfl, rfl, rfl, rfl, fun _ _ => rfl⟩
  | v :: r, o, w => by
    obtain ⟨h1, h2, h3, h4, h5⟩ := setCells_heap b r (o + 1) (w.setCell ⟨b, o, none⟩ v)
    exact ⟨by rw [World.setCells, h1]; simp [World.setCell], h2, h3, h4, fun k hk => by rw [World.setCells, h5 k hk, Below.heap_setCell _ _ _ _ hk]⟩
theorem setCells_block (b : Nat) (e : TypeId) (fr : Nat × Nat) : ∀ (vs : List Value) (o : Nat) (w : World) (cur : Array Value), w.heap[b]? = some (.cells cur e fr) → o + vs.length ≤ cur.size →
    ∃ cur', (w.setCells b o vs).heap[b]? = some (.cells cur' e fr) ∧ cur'.size = cur.size ∧ ∀ j, cur'[j]? = if j < o then cur[j]? else if j < o + vs.length then vs[j - o]? else cur[j]?
  | [], o, w, cur, h, _ => ⟨cur, h, rfl, fun j => by simp; intro h1 h2; omega⟩
  | v :: r, o, w, cur, h, hl => by
    simp only [List.length_cons] at hl
    have h' : (w.setCell ⟨b, o, none⟩ v).heap[b]? = some (.cells (cur.setIfInBounds o v) e fr) := by
      simp only [World.setCell, Array.getElem?_modify, h]; rfl
    obtain ⟨cur', h1, h2, h3⟩ := setCells_block b e fr r (o + 1) _ _ h' (by simp; omega)
    refine ⟨cur', h1, by simpa using h2, fun j => ?_⟩
    rw [h3 j]
    by_cases a1 : j < o
    · rw [if_pos (by omega), if_pos a1, Array.getElem?_setIfInBounds]; rw [if_neg (by omega)]
    · by_cases a2 : j = o
      · subst a2
        rw [if_pos (by omega), if_neg a1, if_pos (by simp), Array.getElem?_setIfInBounds, if_pos rfl, if_pos (by omega)]; simp
      · rw [if_neg (by omega), if_neg a1]
        by_cases a3 : j < o + 1 + r.length
        · rw [if_pos a3, if_pos (by simp; omega)]
          have : j - o = (j - (o + 1)) + 1 := by omega
          rw [this]; simp
        · rw [if_neg a3, if_neg (by simp; omega), Array.getElem?_setIfInBounds, if_neg (by omega)]
/-- APPEND, whatever row it is appended to, whatever is appended (a row, or nothing). -/
theorem wpList_append_row {P : Program} (w : World) {ops : Array Oper} {rest : List Oper} {o : Oper} {a : Act} {Q : Exit → Act → World → Prop}
    (hg : o.guard = none) (s x : Operand) (t : TypeId) (hop : o.op = Op.call { callee := Callee.builtin Builtin.append, args := #[s, x], argTypes := #[t, t] })
    (e : TypeId) (i : TypeInfo) (z : Value) (size bytes : Nat) (h1 : P.underlying t = some (.slice e)) (h2 : P.info? e = some i) (h3 : i.zero = some z) (h4 : i.size = size) (h5 : i.bytes = bytes) (h6 : z.cells.size = size) (h7 : 0 < size)
    (v : Value) (n : Nat) (xs : List Value) (hs : a.eval s = v) (hrow : Row w e size v n xs)
    (ao : Option Addr) (m c : Nat) (news : List Value) (hx : a.eval x = .slice ao m c) (hn : news.length = m * size) (hnone : ao = none → m = 0 ∧ c = 0) (hc : ∀ ad, ao = some ad → ∀ j u, news[j]? = some u → w.cell? (ad.add j) = some u) (h1c : ∀ u ∈ news, u.oneCell' = true)
    (b1 : n + m ≤ maxLen) (b2 : (n + m) * bytes ≤ 140737488355328)
    (hK : ∀ v' w', Row w' e size v' (n + m) (xs ++ news) → Touch (fun k => v.ownBlock = some k) w w' → (∀ k, v'.ownBlock = some k → v.ownBlock = some k ∨ w.heap.size ≤ k) → wpList P ops Q rest (a.put o.dst v') w') :
    wpList P ops Q (o :: rest) a w := by
  have hnil : ao = none → wpList P ops Q (o :: rest) a w := by
    intro hao
    obtain ⟨rfl, rfl⟩ := hnone hao
    subst hao
    obtain rfl : news = [] := List.eq_nil_of_length_eq_zero (by simpa using hn)
    refine wpList_plain hg fun K hK' => ?_
    have hrun : (Builtin.append_ #[t, t] o.type #[v, .slice none 0 0]).run P w = .ok v w := by
      obtain ⟨ao, cap, rfl, hl, _, hno⟩ := hrow.shape
      cases ao with
      | none => obtain ⟨rfl, rfl⟩ := hno rfl; simp [Builtin.append_, run_underlying h1, sizeOf, typeInfo, h2, Builtin.lenOf, Builtin.firstCells]
      | some ad => simp [Builtin.append_, run_underlying h1, sizeOf, typeInfo, h2, Builtin.lenOf, Builtin.firstCells, hl, storeCells]
    unfold Oper.wp
    simp [execOp, hop, resolve, invoke, builtin, hs, hx, hrun, Result.andThen]
    exact hK' _ _ (hK v w (by simpa using hrow) (Touch.refl _ _) (fun k hk => .inl hk))
  cases hao : ao with
  | none => exact hnil hao
  | some ad =>
    subst hao
    obtain ⟨ao', cap, hv, hl, hcm, hno⟩ := hrow.shape
    by_cases hr : n + m ≤ cap ∧ 0 < cap
    · rcases hrow.2 with ⟨h0, hn0⟩ | ⟨g, off, cap', cur, fr, hv', hh, h8, h9, h10, h11, h12⟩
      · rw [hv] at h0; simp at h0; omega
      · rw [hv] at hv'; simp at hv'; obtain ⟨rfl, rfl⟩ := hv'
        have hmul : n * size + m * size ≤ cap * size := by rw [← Nat.add_mul]; exact Nat.mul_le_mul_right _ hr.1
        refine wpList_append_arg (P := P) w hg s x t hop e i z size bytes h1 h2 h3 h4 h5 h6 h7 g off n cap xs (by rw [hs, hv]) hrow.1 ?_ ad m c news hx hn (hc ad rfl) h1c ?_ b1 b2 ?_ ?_
        · intro j u hj
          have hlt : j < n * size := by have := (List.getElem?_eq_some_iff.1 hj).1; rw [hrow.1] at this; exact this
          rw [cell_at hh, h12 j hlt, hj]
        · intro _ j hj
          rw [hn] at hj
          refine ⟨?_, ?_⟩
          · rw [cell_at hh]; simp; omega
          · have := h11 (n * size + j) (by omega)
            obtain ⟨lo, hi⟩ := fr
            unfold World.frozen?; simp only [hh]
            simp at this ⊢; omega
        · intro _
          obtain ⟨cur', q1, q2, q3⟩ := setCells_block g e fr news (off + n * size) w cur hh (by rw [hn]; omega)
          obtain ⟨p1, p2, p3, p4, p5⟩ := setCells_heap g news (off + n * size) w
          refine hK _ _ ⟨by rw [List.length_append, hrow.1, hn, Nat.add_mul], .inr ⟨g, off, cap, cur', fr, rfl, q1, hr.1, h9, by omega, h11, fun j hj => ?_⟩⟩ ⟨p2, p3, p4, by omega, fun k hk hs' => p5 k (by rintro rfl; exact hs' (by rw [hv]; rfl))⟩ (fun k hk => .inl (by rw [hv]; exact hk))
          rw [Nat.add_mul] at hj
          rw [q3]
          by_cases a1 : j < n * size
          · rw [if_pos (by omega), h12 j a1, List.getElem?_append_left (by rw [hrow.1]; exact a1)]
          · rw [if_neg (by omega), if_pos (by rw [hn]; omega), List.getElem?_append_right (by rw [hrow.1]; omega), hrow.1]
            congr 1; omega
        · intro hgr; omega
    · by_cases hm0 : n + m ≤ cap
      · -- no room and nothing to put
        have hc0 : cap = 0 := by omega
        subst hc0
        obtain rfl : n = 0 := by omega
        obtain rfl : m = 0 := by omega
        obtain rfl : news = [] := List.eq_nil_of_length_eq_zero (by simpa using hn)
        refine wpList_plain hg fun K hK' => ?_
        have hrun : (Builtin.append_ #[t, t] o.type #[v, .slice (some ad) 0 c]).run P w = .ok v w := by
          rw [hv]
          have hfc := run_firstCells_some (P := P) w i.size 0 ad 0 c [] (by simp) (by simp)
          cases ao' with
          | none => simp [Builtin.append_, run_underlying h1, sizeOf, typeInfo, h2, Builtin.lenOf, hfc]
          | some ad' => simp [Builtin.append_, run_underlying h1, sizeOf, typeInfo, h2, Builtin.lenOf, hfc, storeCells]
        unfold Oper.wp
        simp [execOp, hop, resolve, invoke, builtin, hs, hx, hrun, Result.andThen]
        exact hK' _ _ (hK v w (by simpa using hrow) (Touch.refl _ _) (fun k hk => .inl hk))
      · refine wpList_append_grows (P := P) w hg s x t hop e i z size bytes h1 h2 h3 h4 h5 h6 h7 ao' n cap xs (by rw [hs, hv]) hno hrow.1 ?_ ad m c news hx hn (hc ad rfl) h1c (by omega) b1 b2 ?_
        · intro b hb j u hj
          subst hb
          exact (by rw [hv] at hrow; exact hrow.cells b rfl j u hj)
        · intro v' w' hown hgr
          refine hK v' w' (Row.of_owns hown) ⟨hgr.os, hgr.tape, hgr.output, hgr.size, fun k hk _ => hgr.block k hk (by simp)⟩ (fun k hk => .inr ?_)
          rcases hown.2 with ⟨rfl, _⟩ | ⟨g, cap', cur, rfl, hb, _⟩
          · cases hk
          · simp [Value.ownBlock] at hk; omega
/-- APPEND of what the statement itself has just laid into a block of its own: 'append(v, x)', 'append(v, x, y)'. -/
theorem wpList_append_lit {P : Program} (w : World) {ops : Array Oper} {rest : List Oper} {o : Oper} {a : Act} {Q : Exit → Act → World → Prop}
    (hg : o.guard = none) (s x : Operand) (t : TypeId) (hop : o.op = Op.call { callee := Callee.builtin Builtin.append, args := #[s, x], argTypes := #[t, t] })
    (e : TypeId) (i : TypeInfo) (z : Value) (size bytes : Nat) (h1 : P.underlying t = some (.slice e)) (h2 : P.info? e = some i) (h3 : i.zero = some z) (h4 : i.size = size) (h5 : i.bytes = bytes) (h6 : z.cells.size = size) (h7 : 0 < size)
    (v : Value) (n : Nat) (xs : List Value) (hs : a.eval s = v) (hrow : Row w e size v n xs)
    (cs : Array Value) (e' : TypeId) (m : Nat) (hx : a.eval x = .slice (some ⟨w.heap.size, 0, none⟩) m m) (hn : cs.size = m * size) (h1c : ∀ u ∈ cs.toList, u.oneCell' = true)
    (b1 : n + m ≤ maxLen) (b2 : (n + m) * bytes ≤ 140737488355328)
    (hK : ∀ ao' cap' w', Row w' e size (.slice ao' (n + m) cap') (n + m) (xs ++ cs.toList) → Touch (fun k => v.ownBlock = some k) w w' → (∀ k, Value.ownBlock (.slice ao' (n + m) cap') = some k → v.ownBlock = some k ∨ w.heap.size ≤ k) → wpList P ops Q rest (a.put o.dst (.slice ao' (n + m) cap')) w') :
    wpList P ops Q (o :: rest) a (w.alloc (.cells cs e')) := by
  refine wpList_append_row _ hg s x t hop e i z size bytes h1 h2 h3 h4 h5 h6 h7 v n xs hs (hrow.alloc _) (some ⟨w.heap.size, 0, none⟩) m m cs.toList hx (by simpa using hn) (fun h => by cases h) ?_ h1c b1 b2 ?_
  · rintro ad had j u hj
    simp only [Option.some.injEq] at had; subst had
    have hb : (w.alloc (.cells cs e')).heap[w.heap.size]? = some (.cells cs e' (0, 0)) := by show (w.heap.push _)[_]? = _; simp
    rw [Addr.add_lit, Nat.zero_add, cell_at hb]; simpa using hj
  · intro v' w' hr ht hf
    obtain ⟨ao', cap', rfl, _⟩ := hr.shape
    refine hK ao' cap' w' hr ?_ ?_
    · refine Touch.trans ((Touch.refl _ _).alloc (.cells cs e')) ht
    · intro k hk; rcases hf k hk with h | h
      · exact .inl h
      · right; simp at h; omega
/-- What is appended: so many elements, at an address where they lie. -/
def Src (w : World) (ao : Option Addr) (m c size : Nat) (news : List Value) : Prop :=
  news.length = m * size ∧ (ao = none → m = 0 ∧ c = 0) ∧ ∀ ad, ao = some ad → ∀ j u, news[j]? = some u → w.cell? (ad.add j) = some u
theorem Src.below {w w' : World} {ao : Option Addr} {m c size : Nat} {news : List Value} (h : Src w ao m c size news) (hb : Below w.heap.size w w') : Src w' ao m c size news :=
  ⟨h.1, h.2.1, fun ad had j u hu => by
    have h1 := h.2.2 ad had j u hu
    rw [hb.cell (World.block_lt_of_cell? _ _ h1)]; exact h1⟩
theorem Src.alloc {w : World} {ao : Option Addr} {m c size : Nat} {news : List Value} (h : Src w ao m c size news) (o : Obj) : Src (w.alloc o) ao m c size news :=
  h.below ((Below.refl _ _).alloc (Nat.le_refl _) o)
theorem Row.src {w : World} {e : TypeId} {size : Nat} {ao : Option Addr} {n cap : Nat} {xs : List Value} (h : Row w e size (.slice ao n cap) n xs) : Src w ao n cap size xs := by
  refine ⟨h.1, ?_, h.cells⟩
  obtain ⟨ao', cap', hv, _, _, hno⟩ := h.shape
  simp only [Value.slice.injEq] at hv
  obtain ⟨rfl, _, rfl⟩ := hv
  exact hno
theorem IsRow.src {k : IntKind} {w : World} {ao : Option Addr} {zs : List Int} {cap : Nat} (h : IsRow k w ao zs zs.length) (hc : ao = none → cap = 0) : Src w ao zs.length cap 1 (zs.map (Value.int k)) := by
  obtain ⟨_, _, h | ⟨x, rfl, hcell⟩⟩ := h
  · obtain ⟨rfl, rfl⟩ := h
    exact ⟨by simp, fun _ => ⟨rfl, hc rfl⟩, by simp⟩
  · refine ⟨by simp, by simp, ?_⟩
    rintro ad had j u hu
    simp only [Option.some.injEq] at had; subst had
    have hj : j < zs.length := by have := (List.getElem?_eq_some_iff.1 hu).1; simpa using this
    rw [hcell j hj]
    simp [hj] at hu ⊢; exact hu
/-- 'append([]T{}, l...)': a copy of one's own. -/
theorem wpList_append_copy {P : Program} (w : World) {ops : Array Oper} {rest : List Oper} {o : Oper} {a : Act} {Q : Exit → Act → World → Prop}
    (hg : o.guard = none) (s x : Operand) (t : TypeId) (hop : o.op = Op.call { callee := Callee.builtin Builtin.append, args := #[s, x], argTypes := #[t, t] })
    (e : TypeId) (i : TypeInfo) (z : Value) (size bytes : Nat) (h1 : P.underlying t = some (.slice e)) (h2 : P.info? e = some i) (h3 : i.zero = some z) (h4 : i.size = size) (h5 : i.bytes = bytes) (h6 : z.cells.size = size) (h7 : 0 < size)
    (hs : a.eval s = .slice (some ⟨w.heap.size, 0, none⟩) 0 0)
    (ao : Option Addr) (m c : Nat) (news : List Value) (hx : a.eval x = .slice ao m c) (hsrc : Src w ao m c size news) (h1c : ∀ u ∈ news, u.oneCell' = true)
    (b1 : m ≤ maxLen) (b2 : m * bytes ≤ 140737488355328)
    (hK : ∀ ao' cap' w', Row w' e size (.slice ao' m cap') m news → Below w.heap.size w w' → (∀ k, Value.ownBlock (.slice ao' m cap') = some k → w.heap.size ≤ k) → wpList P ops Q rest (a.put o.dst (.slice ao' m cap')) w') :
    wpList P ops Q (o :: rest) a (w.alloc (.cells #[] e)) := by
  have hl := (Row.lit w e size #[] 0 (by simp [maxLen]) (by simp))
  refine wpList_append_row _ hg s x t hop e i z size bytes h1 h2 h3 h4 h5 h6 h7 _ 0 [] hs (by simpa using hl) ao m c news hx hsrc.1 hsrc.2.1 (hsrc.alloc _).2.2 h1c (by omega) (by rw [Nat.zero_add]; exact b2) ?_
  intro v' w' hr ht hf
  have hr' := hr.cast (n' := m) (xs' := news) (by omega) (by simp)
  obtain ⟨ao', cap', rfl, _⟩ := hr'.shape
  refine hK ao' cap' w' hr' ?_ ?_
  · have ht' := Touch.trans (((Touch.refl (fun k => Value.ownBlock (.slice (some ⟨w.heap.size, 0, none⟩) 0 0) = some k) w)).alloc (.cells #[] e)) ht
    exact ht'.below (Below.refl _ _) (Nat.le_refl _) (fun k hk => by simp [Value.ownBlock] at hk; omega)
  · intro k hk
    rcases hf k hk with h | h
    · simp [Value.ownBlock] at h; omega
    · simp at h; omega
end
section
open Go.ChangeShapes Go.WideShapes Go.ChangeAt Go.RowKit
/-- Cells that read as some datum of a type. -/
def Reads (P : Program) (w : World) (t : TypeId) (cs : List Value) : Prop :=
  ∃ (H : Type) (enc : TypeId × Value → H) (x : DataW H × List MemPlace) (fuel : Nat), DataW.trod enc P w 0 (fun _ => true) true fuel t cs = some x
theorem Arg.reads {P : Program} {w : World} {t : TypeId} {v : Value} (h : Arg P w t v) : Reads P w t v.cells.toList := by
  obtain ⟨_, _, H, enc, d, p, fuel, hf⟩ := h
  exact ⟨H, enc, _, fuel, hf⟩
theorem Reads.int {P : Program} {w : World} {t : TypeId} {cs : List Value} {k : IntKind} (h : Reads P w t cs) (ht : P.underlying t = some (.int k)) : ∃ n, cs = [.int k n] ∧ (Lit.int k n).wf = true := by
  obtain ⟨H, enc, x, fuel, hf⟩ := h
  obtain ⟨n, h1, _, h2⟩ := DataW.trod_int ht hf
  exact ⟨n, h1, h2⟩
theorem Reads.bool {P : Program} {w : World} {t : TypeId} {cs : List Value} (h : Reads P w t cs) (ht : P.underlying t = some .bool) : ∃ b, cs = [.bool b] := by
  obtain ⟨H, enc, x, fuel, hf⟩ := h
  obtain ⟨n, h1, _⟩ := DataW.trod_bool ht hf
  exact ⟨n, h1⟩
theorem Reads.string {P : Program} {w : World} {t : TypeId} {cs : List Value} (h : Reads P w t cs) (ht : P.underlying t = some .string) : ∃ l : List UInt8, cs = [.string ⟨l.toArray⟩] ∧ l.length ≤ maxLen := by
  obtain ⟨H, enc, x, fuel, hf⟩ := h
  obtain ⟨s, h1, _, h2⟩ := DataW.trod_string ht hf
  refine ⟨s.data.toList, ?_, by rw [Array.length_toList]; exact h2⟩
  rw [h1, Array.toArray_toList]
theorem Reads.array {P : Program} {w : World} {t e : TypeId} {cs : List Value} {n : Nat} (h : Reads P w t cs) (ht : P.underlying t = some (.array n e)) :
    cs.length = P.cellsOf t ∧ ∀ i, i < n → Reads P w e ((cs.drop (i * P.cellsOf e)).take (P.cellsOf e)) := by
  obtain ⟨H, enc, x, fuel, hf⟩ := h
  obtain ⟨xs, m, _, _, h1, h2, h3⟩ := DataW.trod_array ht hf
  refine ⟨h1, fun i hi => ⟨H, enc, xs[i]'(by omega), m, ?_⟩⟩
  rw [h3 i hi, List.getElem?_eq_getElem (by omega)]
theorem Reads.struct {P : Program} {w : World} {t : TypeId} {cs : List Value} {fs : Array Field} (h : Reads P w t cs) (ht : P.underlying t = some (.struct fs)) :
    cs.length = P.cellsOf t ∧ ∀ (i : Nat) (f : Field), fs[i]? = some f → Reads P w f.type ((cs.drop f.offset).take (P.cellsOf f.type)) := by
  obtain ⟨H, enc, x, fuel, hf⟩ := h
  obtain ⟨xs, m, _, _, h1, h2, h3⟩ := DataW.trod_struct ht hf
  refine ⟨h1, fun i f hi => ?_⟩
  have hil : i < fs.size := (Array.getElem?_eq_some_iff.1 hi).1
  exact ⟨H, enc, xs[i]'(by omega), m, by rw [h3 i f hi, List.getElem?_eq_getElem (by omega)]⟩
/-- A value of several cells is written out. -/
theorem agg_of {v : Value} {n : Nat} (h : v.cells.toList.length = n) (hn : n ≠ 1) : ∃ cs : Array Value, v = .agg cs ∧ cs.size = n := by
  cases v <;> simp [Value.cells] at h <;> first | exact ⟨_, rfl, h⟩ | omega
theorem Reads.slice {P : Program} {w : World} {t e : TypeId} {cs : List Value} (h : Reads P w t cs) (ht : P.underlying t = some (.slice e)) :
    cs = [.slice none 0 0] ∨ ∃ (a : Addr) (len cap : Nat), cs = [.slice (some a) len cap] ∧ len ≤ cap ∧ cap ≤ maxLen ∧
      ∀ i, i < len → ∃ cs', w.cells? 0 (a.add (i * P.cellsOf e)) (P.cellsOf e) = some cs' ∧ Reads P w e cs' := by
  obtain ⟨H, enc, x, fuel, hf⟩ := h
  rcases Go.Deep.open_slice ht hf with ⟨h0, _⟩ | ⟨a, len, cap, m, n, D, Pl, hcs, hb, hl, hm, hmm, hx, hi⟩
  · exact .inl h0
  · refine .inr ⟨a, len, cap, hcs, hl, hm, fun i hi' => ?_⟩
    obtain ⟨cs', hc, ht'⟩ := hi i (by have : len ≤ m := by (rw [hmm]; split <;> omega)
                                      omega)
    exact ⟨cs', hc, H, enc, _, n, ht'⟩
/-- The cells of an element, one by one. -/
theorem cells_get {w : World} {a : Addr} {n : Nat} {cs : List Value} (h : w.cells? 0 a n = some cs) : cs.length = n ∧ ∀ j, j < n → w.cell? (a.add j) = cs[j]? := by
  obtain ⟨_, h1, h2⟩ := World.cells?_some h
  exact ⟨h1, fun j hj => by simpa using h2 j hj⟩
end
section
open Go.ChangeShapes Go.WideShapes Go.ChangeAt Go.RowKit
theorem exists_list {α : Type} (d : α) (Q : Nat → α → Prop) : ∀ (n : Nat), (∀ i, i < n → ∃ x, Q i x) → ∃ xs : List α, xs.length = n ∧ ∀ i, i < n → Q i (xs.getD i d)
  | 0, _ => ⟨[], rfl, fun i hi => by omega⟩
  | n + 1, h => by
    obtain ⟨xs, hl, hx⟩ := exists_list d Q n (fun i hi => h i (by omega))
    obtain ⟨x, hq⟩ := h n (by omega)
    refine ⟨xs ++ [x], by simp [hl], fun i hi => ?_⟩
    by_cases hin : i < n
    · have := hx i hin
      rwa [List.getD_eq_getElem?_getD, List.getElem?_append_left (by omega), ← List.getD_eq_getElem?_getD]
    · obtain rfl : i = n := by omega
      rw [List.getD_eq_getElem?_getD, List.getElem?_append_right (by omega)]
      simpa [hl] using hq
/-- Elements of n cells each. -/
theorem Arg.elems {α : Type} (d : α) (n : Nat) (f : α → List Value) (G : α → Prop) {P : Program} {w : World} {t e : TypeId} {v : Value} (h : Arg P w t v) (ht : P.underlying t = some (.slice e)) (hc : P.cellsOf e = n)
    (he : ∀ cs, cs.length = n → Reads P w e cs → ∃ x, cs = f x ∧ G x) :
    ∃ ao cap, ∃ xs : List α, v = .slice ao xs.length cap ∧ xs.length ≤ cap ∧ cap ≤ maxLen ∧ (ao = none → cap = 0) ∧ (∀ k, k < xs.length → G (xs.getD k d)) ∧
      ∀ k, k < xs.length → ∃ ad, ao = some ad ∧ ∀ j, j < n → w.cell? (ad.add (k * n + j)) = (f (xs.getD k d))[j]? := by
  have hok := h
  obtain ⟨base, ho, _⟩ := hok
  obtain ⟨a, len, cap, rfl⟩ := okWide_slice ht ho
  rcases h.reads.slice ht with h0 | ⟨ad, len', cap', h0, hl, hm, hi⟩
  · simp [Value.cells] at h0
    obtain ⟨rfl, rfl, rfl⟩ := h0
    exact ⟨none, 0, [], rfl, by simp, by simp [maxLen], by simp, by simp, by simp⟩
  · simp [Value.cells] at h0
    obtain ⟨rfl, rfl, rfl⟩ := h0
    have hq : ∀ i, i < len → ∃ x, G x ∧ ∀ j, j < n → w.cell? (ad.add (i * n + j)) = (f x)[j]? := by
      intro i hil
      obtain ⟨cs, hcs, hr⟩ := hi i hil
      rw [hc] at hcs
      obtain ⟨hln, hg⟩ := cells_get hcs
      obtain ⟨x, rfl, hG⟩ := he cs hln hr
      refine ⟨x, hG, fun j hj => ?_⟩
      rw [← hg j hj, Addr.add_add]
    obtain ⟨xs, rfl, hx⟩ := exists_list d _ len hq
    exact ⟨some ad, cap, xs, rfl, hl, hm, by simp, fun k hk => (hx k hk).1, fun k hk => ⟨ad, rfl, (hx k hk).2⟩⟩
/-- Elements of one cell. -/
theorem Arg.elems1 {α : Type} (d : α) (f : α → Value) (G : α → Prop) {P : Program} {w : World} {t e : TypeId} {v : Value} (h : Arg P w t v) (ht : P.underlying t = some (.slice e)) (hc : P.cellsOf e = 1)
    (he : ∀ cs, Reads P w e cs → ∃ x, cs = [f x] ∧ G x) :
    ∃ ao cap, ∃ xs : List α, v = .slice ao xs.length cap ∧ xs.length ≤ cap ∧ cap ≤ maxLen ∧ (ao = none → cap = 0) ∧ (∀ k, k < xs.length → G (xs.getD k d)) ∧
      ∀ k, k < xs.length → ∃ ad, ao = some ad ∧ w.cell? (ad.add k) = some (f (xs.getD k d)) := by
  obtain ⟨ao, cap, xs, h1, h2, h3, h4, h5, h6⟩ := h.elems d 1 (fun x => [f x]) G ht hc (fun cs _ hr => he cs hr)
  refine ⟨ao, cap, xs, h1, h2, h3, h4, h5, fun k hk => ?_⟩
  obtain ⟨ad, had, hj⟩ := h6 k hk
  have := hj 0 (by omega)
  simp at this
  exact ⟨ad, had, this⟩
theorem Arg.bools {P : Program} {w : World} {t e : TypeId} {v : Value} (h : Arg P w t v) (ht : P.underlying t = some (.slice e)) (hb : P.underlying e = some .bool) (hc : P.cellsOf e = 1) :
    ∃ ao cap, ∃ xs : List Bool, v = .slice ao xs.length cap ∧ xs.length ≤ cap ∧ cap ≤ maxLen ∧ ∀ k, k < xs.length → ∃ ad, ao = some ad ∧ w.cell? (ad.add k) = some (.bool (xs.getD k false)) := by
  obtain ⟨ao, cap, xs, h1, h2, h3, _, _, h6⟩ := h.elems1 false Value.bool (fun _ => True) ht hc (fun cs hr => (hr.bool hb).imp fun b hb => ⟨hb, trivial⟩)
  exact ⟨ao, cap, xs, h1, h2, h3, h6⟩
theorem Arg.bytes {P : Program} {w : World} {t e : TypeId} {v : Value} {k : IntKind} (h : Arg P w t v) (ht : P.underlying t = some (.slice e)) (hb : P.underlying e = some (.int k)) (hc : P.cellsOf e = 1) :
    ∃ ao cap, ∃ xs : List Int, v = .slice ao xs.length cap ∧ xs.length ≤ cap ∧ cap ≤ maxLen ∧ (∀ i, i < xs.length → (Lit.int k (xs.getD i 0)).wf = true) ∧ ∀ i, i < xs.length → ∃ ad, ao = some ad ∧ w.cell? (ad.add i) = some (.int k (xs.getD i 0)) := by
  obtain ⟨ao, cap, xs, h1, h2, h3, _, h5, h6⟩ := h.elems1 0 (Value.int k) (fun n => (Lit.int k n).wf = true) ht hc (fun cs hr => (hr.int hb).imp fun b hb => hb)
  exact ⟨ao, cap, xs, h1, h2, h3, h5, h6⟩
/-- A struct's fields: their types and where they lie. -/
def fieldsOf (P : Program) (t : TypeId) : Option (List (TypeId × Nat)) :=
  match P.underlying t with
  | some (.struct fs) => some (fs.toList.map fun f => (f.type, f.offset))
  | _ => none
theorem Reads.fields {P : Program} {w : World} {t : TypeId} {cs : List Value} {l : List (TypeId × Nat)} (h : Reads P w t cs) (hf : fieldsOf P t = some l) :
    cs.length = P.cellsOf t ∧ ∀ (i : Nat) (ty : TypeId) (off : Nat), l[i]? = some (ty, off) → Reads P w ty ((cs.drop off).take (P.cellsOf ty)) := by
  unfold fieldsOf at hf
  split at hf
  · rename_i fs hu
    cases hf
    obtain ⟨h1, h2⟩ := h.struct hu
    refine ⟨h1, fun i ty off hi => ?_⟩
    rw [List.getElem?_map] at hi
    cases hg : fs.toList[i]? with
    | none => rw [hg] at hi; cases hi
    | some f =>
      rw [hg] at hi
      simp at hi
      obtain ⟨rfl, rfl⟩ := hi
      exact h2 i f (by simpa using hg)
  · cases hf
/-- A struct of n integers of one kind. -/
theorem Reads.intFields {P : Program} {w : World} {t ti : TypeId} {cs : List Value} {k : IntKind} (n : Nat) (h : Reads P w t cs) (hf : fieldsOf P t = some ((List.range n).map fun i => (ti, i))) (hi : P.underlying ti = some (.int k)) (hc : P.cellsOf ti = 1) (hn : P.cellsOf t = n) :
    ∃ xs : List Int, cs = xs.map (.int k) ∧ xs.length = n ∧ ∀ j, j < n → (Lit.int k (xs.getD j 0)).wf = true := by
  obtain ⟨h1, h2⟩ := h.fields hf
  rw [hn] at h1
  have hq : ∀ j, j < n → ∃ x : Int, cs[j]? = some (.int k x) ∧ (Lit.int k x).wf = true := by
    intro j hj
    have hr := h2 j ti j (by simp [hj])
    rw [hc] at hr
    obtain ⟨x, hx, hw⟩ := hr.int hi
    refine ⟨x, ?_, hw⟩
    have := congrArg (fun l => l[0]?) hx
    simpa using this
  obtain ⟨xs, hl, hx⟩ := exists_list 0 (fun j x => cs[j]? = some (.int k x) ∧ (Lit.int k x).wf = true) n hq
  refine ⟨xs, ?_, hl, fun j hj => (hx j hj).2⟩
  refine List.ext_getElem? fun j => ?_
  by_cases hj : j < n
  · rw [(hx j hj).1, List.getElem?_map, List.getElem?_eq_getElem (by omega)]
    simp [List.getD, List.getElem?_eq_getElem (show j < xs.length by omega)]
  · rw [List.getElem?_eq_none (by omega), List.getElem?_eq_none (by simp; omega)]
/-- A slice of such structs. -/
theorem Arg.structs {P : Program} {w : World} {t e ti : TypeId} {v : Value} {k : IntKind} (n : Nat) (h : Arg P w t v) (ht : P.underlying t = some (.slice e)) (hf : fieldsOf P e = some ((List.range n).map fun i => (ti, i))) (hi : P.underlying ti = some (.int k)) (hc : P.cellsOf ti = 1) (hn : P.cellsOf e = n) :
    ∃ ao cap, ∃ xs : List (List Int), v = .slice ao xs.length cap ∧ xs.length ≤ cap ∧ cap ≤ maxLen ∧ (∀ i, i < xs.length → ∀ j, j < n → (Lit.int k ((xs.getD i []).getD j 0)).wf = true) ∧
      ∀ i, i < xs.length → ∃ ad, ao = some ad ∧ ∀ j, j < n → w.cell? (ad.add (i * n + j)) = some (.int k ((xs.getD i []).getD j 0)) := by
  obtain ⟨ao, cap, xs, h1, h2, h3, _, h5, h6⟩ := h.elems [] n (fun x => x.map (.int k)) (fun x => x.length = n ∧ ∀ j, j < n → (Lit.int k (x.getD j 0)).wf = true) ht hn (fun cs _ hr => by
    obtain ⟨xs, h1, h2, h3⟩ := hr.intFields n hf hi hc hn
    exact ⟨xs, h1, h2, h3⟩)
  refine ⟨ao, cap, xs, h1, h2, h3, fun i hi => (h5 i hi).2, fun i hi => ?_⟩
  obtain ⟨ad, had, hj⟩ := h6 i hi
  refine ⟨ad, had, fun j hjn => ?_⟩
  have hlen := (h5 i hi).1
  rw [hj j hjn]
  generalize xs.getD i [] = y at *
  rw [List.getElem?_map, List.getElem?_eq_getElem (show j < y.length by omega)]
  simp [List.getD, List.getElem?_eq_getElem (show j < y.length by omega)]
/-- The same, the address written out. -/
theorem Arg.structs' {P : Program} {w : World} {t e ti : TypeId} {v : Value} {k : IntKind} (n : Nat) (h : Arg P w t v) (ht : P.underlying t = some (.slice e)) (hf : fieldsOf P e = some ((List.range n).map fun i => (ti, i))) (hi : P.underlying ti = some (.int k)) (hc : P.cellsOf ti = 1) (hn : P.cellsOf e = n) (hn0 : 0 < n) :
    ∃ ao cap, ∃ xs : List (List Int), v = .slice ao xs.length cap ∧ xs.length ≤ cap ∧ cap ≤ maxLen ∧ (∀ i, i < xs.length → ∀ j, j < n → (Lit.int k ((xs.getD i []).getD j 0)).wf = true) ∧
      ∃ g off : Nat, ∀ i, i < xs.length → ao = some ⟨g, off, none⟩ ∧ ∀ j, j < n → w.cell? ⟨g, off + i * n + j, none⟩ = some (.int k ((xs.getD i []).getD j 0)) := by
  obtain ⟨ao, cap, xs, h1, h2, h3, h4, h5⟩ := h.structs n ht hf hi hc hn
  refine ⟨ao, cap, xs, h1, h2, h3, h4, ?_⟩
  rcases Nat.eq_zero_or_pos xs.length with h0 | h0
  · exact ⟨0, 0, fun i hi => by omega⟩
  · obtain ⟨ad, had, hj⟩ := h5 0 h0
    have hc0 := hj 0 hn0
    obtain ⟨g, off, spot⟩ := ad
    have hspot : spot = none := by simpa [Addr.add] using World.cell?_spot hc0
    subst hspot
    refine ⟨g, off, fun i hi => ⟨had, fun j hjn => ?_⟩⟩
    obtain ⟨ad, had', hj'⟩ := h5 i hi
    rw [had] at had'
    cases had'
    have := hj' j hjn
    rwa [Addr.add_lit, ← Nat.add_assoc] at this
/-- An array of n integers of one kind. -/
theorem Reads.intArray {P : Program} {w : World} {t ti : TypeId} {cs : List Value} {k : IntKind} (n : Nat) (h : Reads P w t cs) (hf : P.underlying t = some (.array n ti)) (hi : P.underlying ti = some (.int k)) (hc : P.cellsOf ti = 1) (hn : P.cellsOf t = n) :
    ∃ xs : List Int, cs = xs.map (.int k) ∧ xs.length = n ∧ ∀ j, j < n → (Lit.int k (xs.getD j 0)).wf = true := by
  obtain ⟨h1, h2⟩ := h.array hf
  rw [hn] at h1
  have hq : ∀ j, j < n → ∃ x : Int, cs[j]? = some (.int k x) ∧ (Lit.int k x).wf = true := by
    intro j hj
    have hr := h2 j hj
    rw [hc, Nat.mul_one] at hr
    obtain ⟨x, hx, hw⟩ := hr.int hi
    refine ⟨x, ?_, hw⟩
    have := congrArg (fun l => l[0]?) hx
    simpa using this
  obtain ⟨xs, hl, hx⟩ := exists_list 0 (fun j x => cs[j]? = some (.int k x) ∧ (Lit.int k x).wf = true) n hq
  refine ⟨xs, ?_, hl, fun j hj => (hx j hj).2⟩
  refine List.ext_getElem? fun j => ?_
  by_cases hj : j < n
  · rw [(hx j hj).1, List.getElem?_map, List.getElem?_eq_getElem (by omega)]
    simp [List.getD, List.getElem?_eq_getElem (show j < xs.length by omega)]
  · rw [List.getElem?_eq_none (by omega), List.getElem?_eq_none (by simp; omega)]
/-- A slice of such arrays. -/
theorem Arg.arrays {P : Program} {w : World} {t e ti : TypeId} {v : Value} {k : IntKind} (n : Nat) (h : Arg P w t v) (ht : P.underlying t = some (.slice e)) (hf : P.underlying e = some (.array n ti)) (hi : P.underlying ti = some (.int k)) (hc : P.cellsOf ti = 1) (hn : P.cellsOf e = n) :
    ∃ ao cap, ∃ xs : List (List Int), v = .slice ao xs.length cap ∧ xs.length ≤ cap ∧ cap ≤ maxLen ∧ (∀ i, i < xs.length → ∀ j, j < n → (Lit.int k ((xs.getD i []).getD j 0)).wf = true) ∧
      ∀ i, i < xs.length → ∃ ad, ao = some ad ∧ ∀ j, j < n → w.cell? (ad.add (i * n + j)) = some (.int k ((xs.getD i []).getD j 0)) := by
  obtain ⟨ao, cap, xs, h1, h2, h3, _, h5, h6⟩ := h.elems [] n (fun x => x.map (.int k)) (fun x => x.length = n ∧ ∀ j, j < n → (Lit.int k (x.getD j 0)).wf = true) ht hn (fun cs _ hr => by
    obtain ⟨xs, h1, h2, h3⟩ := hr.intArray n hf hi hc hn
    exact ⟨xs, h1, h2, h3⟩)
  refine ⟨ao, cap, xs, h1, h2, h3, fun i hi => (h5 i hi).2, fun i hi => ?_⟩
  obtain ⟨ad, had, hj⟩ := h6 i hi
  refine ⟨ad, had, fun j hjn => ?_⟩
  have hlen := (h5 i hi).1
  rw [hj j hjn]
  generalize xs.getD i [] = y at *
  rw [List.getElem?_map, List.getElem?_eq_getElem (show j < y.length by omega)]
  simp [List.getD, List.getElem?_eq_getElem (show j < y.length by omega)]
/-- The same, the address written out. -/
theorem Arg.arrays' {P : Program} {w : World} {t e ti : TypeId} {v : Value} {k : IntKind} (n : Nat) (h : Arg P w t v) (ht : P.underlying t = some (.slice e)) (hf : P.underlying e = some (.array n ti)) (hi : P.underlying ti = some (.int k)) (hc : P.cellsOf ti = 1) (hn : P.cellsOf e = n) (hn0 : 0 < n) :
    ∃ ao cap, ∃ xs : List (List Int), v = .slice ao xs.length cap ∧ xs.length ≤ cap ∧ cap ≤ maxLen ∧ (∀ i, i < xs.length → ∀ j, j < n → (Lit.int k ((xs.getD i []).getD j 0)).wf = true) ∧
      ∃ g off : Nat, ∀ i, i < xs.length → ao = some ⟨g, off, none⟩ ∧ ∀ j, j < n → w.cell? ⟨g, off + i * n + j, none⟩ = some (.int k ((xs.getD i []).getD j 0)) := by
  obtain ⟨ao, cap, xs, h1, h2, h3, h4, h5⟩ := h.arrays n ht hf hi hc hn
  refine ⟨ao, cap, xs, h1, h2, h3, h4, ?_⟩
  rcases Nat.eq_zero_or_pos xs.length with h0 | h0
  · exact ⟨0, 0, fun i hi => by omega⟩
  · obtain ⟨ad, had, hj⟩ := h5 0 h0
    have hc0 := hj 0 hn0
    obtain ⟨g, off, spot⟩ := ad
    have hspot : spot = none := by simpa [Addr.add] using World.cell?_spot hc0
    subst hspot
    refine ⟨g, off, fun i hi => ⟨had, fun j hjn => ?_⟩⟩
    obtain ⟨ad, had', hj'⟩ := h5 i hi
    rw [had] at had'
    cases had'
    have := hj' j hjn
    rwa [Addr.add_lit, ← Nat.add_assoc] at this
end
section
open Go.RowKit
theorem take_next {a b : List Int} {r : Nat} (ha : r < a.length) (hb : r < b.length) (ht : a.take r = b.take r) (h : a.getD r 0 = b.getD r 0) : a.take (r + 1) = b.take (r + 1) := by
  rw [List.take_succ_eq_append_getElem ha, List.take_succ_eq_append_getElem hb, ht]
  simp only [List.getD_eq_getElem?_getD, List.getElem?_eq_getElem ha, List.getElem?_eq_getElem hb, Option.getD_some] at h
  rw [h]
/-- A slice of integers that lies in w. -/
def Lies (w : World) (ao : Option Addr) (c : Nat) (a : List Int) : Prop :=
  a.length ≤ c ∧ c ≤ maxLen ∧ ((ao = none ∧ a = []) ∨ ∃ ad, ao = some ad ∧ ∀ j, j < a.length → w.cell? (ad.add j) = some (.int .i64 (a.getD j 0)))
theorem Lies.get {w : World} {ao : Option Addr} {c : Nat} {a : List Int} (h : Lies w ao c a) {r : Nat} (hr : r < a.length) : ∃ ad, ao = some ad ∧ w.cell? (ad.add r) = some (.int .i64 (a.getD r 0)) := by
  rcases h.2.2 with ⟨_, h0⟩ | ⟨ad, h0, h1⟩
  · subst h0; simp at hr
  · exact ⟨ad, h0, h1 r hr⟩
theorem Lies.take {w : World} {ao : Option Addr} {c : Nat} {a : List Int} (h : Lies w ao c a) {n : Nat} (hn : n ≤ a.length) : Lies w ao c (a.take n) := by
  refine ⟨by rw [List.length_take]; have := h.1; omega, h.2.1, ?_⟩
  rcases h.2.2 with ⟨h1, h0⟩ | ⟨ad, h0, h1⟩
  · subst h0; exact .inl ⟨h1, by simp⟩
  · refine .inr ⟨ad, h0, fun j hj => ?_⟩
    rw [List.length_take] at hj
    rw [h1 j (by omega), List.getD_eq_getElem?_getD, List.getD_eq_getElem?_getD, List.getElem?_take_of_lt (by omega)]
theorem Lies.same {w w' : World} {ao : Option Addr} {c : Nat} {a : List Int} (h : Lies w ao c a) (hs : ∀ p : Addr, (w.cell? p).isSome = true → w'.cell? p = w.cell? p) : Lies w' ao c a := by
  refine ⟨h.1, h.2.1, ?_⟩
  rcases h.2.2 with h0 | ⟨ad, h0, h1⟩
  · exact .inl h0
  · exact .inr ⟨ad, h0, fun j hj => by rw [hs _ (by rw [h1 j hj]; rfl), h1 j hj]⟩
theorem drewN_two {w : World} {m k : Nat} : (w.drewN m).drewN k = w.drewN (m + k) := by rw [World.drewN_drewN]
theorem drewN_all {w w' : World} {m k : Nat} (h : w' = w.drewN m) : w'.drewN k = w.drewN (m + k) := by rw [h, World.drewN_drewN]
theorem info_parts' {P : Program} {t : TypeId} {z : Value} {s b : Nat} (h : (P.info? t).map (fun i => (i.zero, i.size, i.bytes)) = some (some z, s, b)) : ∃ i, P.info? t = some i ∧ i.zero = some z ∧ i.size = s ∧ i.bytes = b := by
  cases hp : P.info? t with
  | none => rw [hp] at h; cases h
  | some i => rw [hp] at h; simp at h; exact ⟨i, rfl, h.1, h.2.1, h.2.2⟩
theorem below_drewN' {B : Nat} {w0 w : World} (h : Below B w0 w) : ∀ n, Below B w0 (w.drewN n)
  | 0 => h
  | n + 1 => (below_drewN' h n).drew
theorem Lies.of_row {w : World} {ao : Option Addr} {c n : Nat} {a : List Int} (h : Row w 3 1 (.slice ao n c) n (a.map (.int .i64))) (hn : n = a.length) : Lies w ao c a := by
  subst hn
  obtain ⟨ao', cap', hv, h1, h2, h3⟩ := h.shape
  simp only [Value.slice.injEq] at hv
  obtain ⟨rfl, _, rfl⟩ := hv
  refine ⟨h1, h2, ?_⟩
  cases ao with
  | none => exact .inl ⟨rfl, List.eq_nil_of_length_eq_zero (h3 rfl).1⟩
  | some ad => exact .inr ⟨ad, rfl, fun j hj => h.cells ad rfl j _ (by rw [List.getElem?_map, List.getElem?_eq_getElem hj, List.getD_eq_getElem?_getD, List.getElem?_eq_getElem hj]; rfl)⟩
theorem Lies.of_src {w : World} {ao : Option Addr} {c : Nat} {a : List Int} (h : Src w ao a.length c 1 (a.map (.int .i64))) (h1 : a.length ≤ c) (h2 : c ≤ maxLen) : Lies w ao c a := by
  refine ⟨h1, h2, ?_⟩
  cases ao with
  | none => exact .inl ⟨rfl, List.eq_nil_of_length_eq_zero (h.2.1 rfl).1⟩
  | some ad => exact .inr ⟨ad, rfl, fun j hj => h.2.2 ad rfl j _ (by rw [List.getElem?_map, List.getElem?_eq_getElem hj, List.getD_eq_getElem?_getD, List.getElem?_eq_getElem hj]; rfl)⟩
theorem Lies.alloc {w : World} {ao : Option Addr} {c : Nat} {a : List Int} (h : Lies w ao c a) (o : Obj) : Lies (w.alloc o) ao c a :=
  h.same fun p hp => cell_old (w' := w.alloc o) (by go_grown) p hp
theorem Lies.below {w w' : World} {ao : Option Addr} {c : Nat} {a : List Int} (h : Lies w ao c a) (hb : Below w.heap.size w w') : Lies w' ao c a :=
  h.same fun p hp => cell_old hb p hp
theorem Lies.drewN {w : World} {ao : Option Addr} {c : Nat} {a : List Int} (h : Lies w ao c a) (n : Nat) : Lies (w.drewN n) ao c a := h
theorem Lies.src {w : World} {ao : Option Addr} {c : Nat} {a : List Int} (h : Lies w ao c a) (hn : ao = none → c = 0) : Src w ao a.length c 1 (a.map (.int .i64)) := by
  refine ⟨by simp, fun h0 => ?_, fun ad had j u hj => ?_⟩
  · rcases h.2.2 with ⟨_, h1⟩ | ⟨ad, h1, _⟩
    · exact ⟨by simp [h1], hn h0⟩
    · rw [h0] at h1; cases h1
  · rcases h.2.2 with ⟨h1, _⟩ | ⟨ad', h1, h2⟩
    · rw [had] at h1; cases h1
    · rw [had] at h1
      cases h1
      have hlt : j < a.length := by have := (List.getElem?_eq_some_iff.1 hj).1; simpa using this
      rw [h2 j hlt]
      simp [hlt] at hj ⊢; exact hj
/-- An argument that is a slice of integers. -/
theorem Arg.lies {P : Program} {w : World} {t e : TypeId} {v : Value} (h : Arg P w t v) (ht : P.underlying t = some (.slice e)) (he : P.underlying e = some (.int .i64)) (hc : P.cellsOf e = 1) :
    ∃ ao cap zs, v = .slice ao zs.length cap ∧ Lies w ao cap zs ∧ (ao = none → cap = 0) ∧ ∀ n ∈ zs, -9223372036854775808 ≤ n ∧ n ≤ 9223372036854775807 := by
  obtain ⟨a, cap, zs, rfl, h1, h2, ⟨_, hwf, hr⟩, h4⟩ := h.ints ht he hc
  refine ⟨a, cap, zs, rfl, ⟨h1, h2, ?_⟩, h4, fun n hn => ?_⟩
  · rcases hr with hr | ⟨x, rfl, hcell⟩
    · exact .inl hr
    · exact .inr ⟨x, rfl, hcell⟩
  · have := hwf n hn
    simp [Lit.wf, IntKind.min, IntKind.max, IntKind.signed, IntKind.bits] at this
    omega
set_option maxHeartbeats 1000000
set_option maxRecDepth 100000
theorem ints_any (ao bo : Option Addr) (c d : Nat) (a b : List Int) (w : World) (ha : Lies w ao c a) (hb : Lies w bo d b) :
    Calls Try.prog 11 #[.slice ao a.length c, .slice bo b.length d] w fun e w' => e = .returned (.bool (a == b)) ∧ ∃ m, w' = w.drewN m := by
  have hc := ha.1
  have hc2 := ha.2.1
  have hd := hb.1
  have hd2 := hb.2.1
  unfold maxLen at hc2 hd2
  by_cases hl : a.length = b.length
  · go_enter Try.func11, Try.ntmps11
    go_wp2
    go_loopw [5] (fun i wr => ∃ r m : Nat, r ≤ a.length ∧ i = .int .i64 r ∧ a.take r = b.take r ∧ wr = w.drewN m) (fun i _ => (a.length - intOf i).toNat)
    case atStart => exact ⟨0, 0, by omega, rfl, rfl, rfl⟩
    case round =>
      obtain ⟨r, m, hr, rfl, ht, rfl⟩ := hrel
      by_cases hlt : r < a.length
      · obtain ⟨ad, rfl, hx⟩ := ha.get hlt
        obtain ⟨bd, rfl, hy⟩ := hb.get (r := r) (by omega)
        have hlt2 : r < b.length := by omega
        by_cases hq : a.getD r 0 = b.getD r 0
        · have ht' := Lib.hid (take_next hlt (by omega) ht hq)
          generalize a.getD r 0 = X at *
          generalize b.getD r 0 = Y at *
          subst hq
          clear ht
          go_wp2
          go_quiet (fail)
          go_wp2
          go_round
          case rel => exact ⟨r + 1, _, by omega, by go_num, ht'.out, by first | rfl | exact drewN_two⟩
          case measure => simp [intOf]; omega
        · have hne : (a == b) = false := by
            rw [beq_eq_false_iff_ne]
            rintro rfl
            exact hq rfl
          have hne' := Lib.hid hne
          generalize a.getD r 0 = X at *
          generalize b.getD r 0 = Y at *
          clear ht hne
          go_wp2
          go_quiet (fail)
          go_wp2
          go_ret
          exact ⟨ret_bool hne'.out.symm, _, by first | rfl | exact drewN_two⟩
      · obtain rfl : r = a.length := by omega
        have he : (a == b) = true := by
          rw [beq_iff_eq]
          rw [List.take_length, hl, List.take_length] at ht
          exact ht
        have he' := Lib.hid he
        clear he ht
        go_wp2
        go_ret
        exact ⟨ret_bool he'.out.symm, _, rfl⟩
  · have hne : (a == b) = false := by
      rw [beq_eq_false_iff_ne]
      rintro rfl
      exact hl rfl
    have hne' := Lib.hid hne
    clear hne
    go_enter Try.func11, Try.ntmps11
    go_wp2
    go_ret
    exact ⟨ret_bool hne'.out.symm, 0, rfl⟩
end
section
open Go.RowKit
/-- A piece of memory: the blocks that it lies in, and what holds of them. -/
structure Ast where
  F : Nat → Prop
  hold : World → Prop
  loc : ∀ {w w' : World}, hold w → (∀ k, F k → w'.heap[k]? = w.heap[k]?) → hold w'
  lt : ∀ {w : World}, hold w → ∀ k, F k → k < w.heap.size
/-- One piece has become another one, in its own blocks and new ones; nothing else has turned. -/
structure Moves (A A' : Ast) (w w' : World) : Prop where
  hold : A'.hold w'
  touch : Touch A.F w w'
  new : ∀ k, A'.F k → A.F k ∨ w.heap.size ≤ k
/-- Since w0 these pieces have been made; nothing that there was is turned. -/
structure Own (w0 w : World) (l : List Ast) : Prop where
  below : Below w0.heap.size w0 w
  all : ∀ A ∈ l, A.hold w
  own : ∀ A ∈ l, ∀ k, A.F k → w0.heap.size ≤ k
  sep : l.Pairwise fun A B => ∀ k, A.F k → ¬ B.F k
theorem Own.nil {w0 w : World} (h : Below w0.heap.size w0 w) : Own w0 w [] := ⟨h, by simp, by simp, .nil⟩
theorem Own.at {w0 w : World} {l : List Ast} (h : Own w0 w l) (i : Nat) {A : Ast} (hi : l[i]? = some A) : A.hold w := h.all A (List.mem_of_getElem? hi)
theorem Own.old {w0 w : World} {l : List Ast} (h : Own w0 w l) {p : Addr} {v : Value} (hp : w0.cell? p = some v) : w.cell? p = some v := by
  rw [cell_old h.below p (by rw [hp]; rfl)]; exact hp
theorem Own.move {w0 w w' : World} {l : List Ast} (h : Own w0 w l) (i : Nat) {A A' : Ast} (hi : l[i]? = some A) (m : Moves A A' w w') : Own w0 w' (l.set i A') := by
  obtain ⟨h1, h2, h3, h4⟩ := h
  have hA := List.mem_of_getElem? hi
  obtain ⟨hlt, hAe⟩ := List.getElem?_eq_some_iff.1 hi
  have hz := h1.size
  -- any other piece stays
  have hsep : ∀ j, j ≠ i → ∀ B, l[j]? = some B → ∀ k, A.F k → ¬ B.F k := by
    intro j hj B hB k hk hk'
    obtain ⟨hjl, hBe⟩ := List.getElem?_eq_some_iff.1 hB
    rw [List.pairwise_iff_getElem] at h4
    subst hAe hBe
    rcases Nat.lt_or_gt_of_ne hj with hh | hh
    · exact h4 j i hjl hlt hh k hk' hk
    · exact h4 i j hlt hjl hh k hk hk'
  refine ⟨m.touch.below h1 hz (fun k hk => h3 A hA k hk), ?_, ?_, ?_⟩
  · intro B hB
    obtain ⟨j, hjB⟩ := List.mem_iff_getElem?.1 hB
    by_cases hj : i = j
    · subst hj
      rw [List.getElem?_set_self hlt] at hjB
      cases hjB
      exact m.hold
    · rw [List.getElem?_set_ne hj] at hjB
      have hBl := List.mem_of_getElem? hjB
      exact B.loc (h2 B hBl) fun k hk => m.touch.block k (B.lt (h2 B hBl) k hk) fun hAk => hsep j (Ne.symm hj) B hjB k hAk hk
  · intro B hB k hk
    obtain ⟨j, hjB⟩ := List.mem_iff_getElem?.1 hB
    by_cases hj : i = j
    · subst hj
      rw [List.getElem?_set_self hlt] at hjB
      cases hjB
      rcases m.new k hk with hh | hh
      · exact h3 A hA k hh
      · omega
    · rw [List.getElem?_set_ne hj] at hjB
      exact h3 B (List.mem_of_getElem? hjB) k hk
  · rw [List.pairwise_iff_getElem] at h4 ⊢
    intro a b ha hb hab k hka hkb
    have ha' : a < l.length := by simpa using ha
    have hb' : b < l.length := by simpa using hb
    have hx : ∀ j (hj : j ≠ i) (B : Ast), l[j]? = some B → B.F k → A'.F k → False := by
      intro j hj B hB hk hk'
      rcases m.new k hk' with hh | hh
      · exact hsep j hj B hB k hh hk
      · have := B.lt (h2 B (List.mem_of_getElem? hB)) k hk; omega
    by_cases hai : a = i
    · subst hai
      have hbi : b ≠ a := by omega
      rw [List.getElem_set_self] at hka
      rw [List.getElem_set_ne (Ne.symm hbi)] at hkb
      exact hx b hbi _ (List.getElem?_eq_getElem hb') hkb hka
    · rw [List.getElem_set_ne (Ne.symm hai)] at hka
      by_cases hbi : b = i
      · subst hbi
        rw [List.getElem_set_self] at hkb
        exact hx a hai _ (List.getElem?_eq_getElem ha') hka hkb
      · rw [List.getElem_set_ne (Ne.symm hbi)] at hkb
        exact h4 a b ha' hb' hab k hka hkb
/-- New memory besides. -/
theorem Own.grow {w0 w w' : World} {l : List Ast} (h : Own w0 w l) (hb : Below w.heap.size w w') : Own w0 w' l :=
  ⟨below_chain h.below hb, fun A hA => A.loc (h.all A hA) fun k hk => hb.block k (A.lt (h.all A hA) k hk), h.own, h.sep⟩
theorem Own.alloc {w0 w : World} {l : List Ast} (h : Own w0 w l) (o : Obj) : Own w0 (w.alloc o) l := h.grow (by go_grown)
theorem Own.drewN {w0 w : World} {l : List Ast} (h : Own w0 w l) (n : Nat) : Own w0 (w.drewN n) l := h.grow (below_drewN0 (Below.refl _ _) n)
  where below_drewN0 {B : Nat} {w0 w : World} (h : Below B w0 w) : ∀ n, Below B w0 (w.drewN n)
    | 0 => h
    | n + 1 => (below_drewN0 h n).drew
/-- One more piece, in new memory. -/
theorem Own.push {w0 w w' : World} {l : List Ast} (h : Own w0 w l) (hb : Below w.heap.size w w') (A : Ast) (hA : A.hold w') (hn : ∀ k, A.F k → w.heap.size ≤ k) : Own w0 w' (l ++ [A]) := by
  have h' := h.grow hb
  have hz := h.below.size
  refine ⟨h'.below, ?_, ?_, ?_⟩
  · intro B hB
    rcases List.mem_append.1 hB with hB | hB
    · exact h'.all B hB
    · simp at hB; subst hB; exact hA
  · intro B hB k hk
    rcases List.mem_append.1 hB with hB | hB
    · exact h.own B hB k hk
    · simp at hB; subst hB; have := hn k hk; omega
  · rw [List.pairwise_append]
    refine ⟨h.sep, by simp, ?_⟩
    intro B hB C hC k hk hk'
    simp at hC; subst hC
    have h1 := B.lt (h.all B hB) k hk
    have h2 := hn k hk'
    omega
theorem Own.cast {w0 w : World} {l l' : List Ast} (h : Own w0 w l) (e : l = l') : Own w0 w l' := e ▸ h
theorem Own.pop {w0 w : World} {l l' : List Ast} (h : Own w0 w (l ++ l')) : Own w0 w l :=
  ⟨h.below, fun A hA => h.all A (List.mem_append_left _ hA), fun A hA => h.own A (List.mem_append_left _ hA), (List.pairwise_append.1 h.sep).1⟩
/-- Two pieces of the list share no block. -/
theorem Own.apart {w0 w : World} {l : List Ast} (h : Own w0 w l) (i j : Nat) (hij : i < j) {A B : Ast} (hi : l[i]? = some A) (hj : l[j]? = some B) : ∀ k, A.F k → ¬ B.F k := by
  obtain ⟨hil, rfl⟩ := List.getElem?_eq_some_iff.1 hi
  obtain ⟨hjl, rfl⟩ := List.getElem?_eq_some_iff.1 hj
  exact List.pairwise_iff_getElem.1 h.sep i j hil hjl hij
/-- A slice of one's own. -/
def rowA (e : TypeId) (size : Nat) (v : Value) (n : Nat) (xs : List Value) : Ast where
  F k := v.ownBlock = some k
  hold w := Row w e size v n xs
  loc h hb := h.same fun k hk => hb k hk
  lt h k hk := h.lt hk
theorem Row.setc {w : World} {e : TypeId} {size : Nat} {ad : Addr} {n cap : Nat} {xs : List Value} (h : Row w e size (.slice (some ad) n cap) n xs) (j : Nat) (u : Value) : Row (w.setCell (ad.add j) u) e size (.slice (some ad) n cap) n (xs.set j u) := by
  refine ⟨by rw [List.length_set]; exact h.1, ?_⟩
  rcases h.2 with ⟨h0, _⟩ | ⟨g, off, cap', cur, fr, hv, hh, h1, h2, h3, h4, h5⟩
  · simp at h0
  · simp only [Value.slice.injEq, Option.some.injEq] at hv
    obtain ⟨rfl, _, rfl⟩ := hv
    refine .inr ⟨g, off, cap, cur.setIfInBounds (off + j) u, fr, rfl, ?_, h1, h2, by simpa using h3, h4, fun i hi => ?_⟩
    · rw [Addr.add_lit]; exact set_at hh _ _
    · have hlen := h.1
      have hm := Nat.mul_le_mul_right size h1
      by_cases hij : j = i
      · subst hij
        rw [Array.getElem?_setIfInBounds, if_pos rfl, if_pos (by omega), List.getElem?_set_self (by omega)]
      · rw [Array.getElem?_setIfInBounds, if_neg (by omega), List.getElem?_set_ne hij, h5 i hi]
theorem Row.free {w : World} {e : TypeId} {size : Nat} {ad : Addr} {n cap : Nat} {xs : List Value} (h : Row w e size (.slice (some ad) n cap) n xs) {j : Nat} (hj : j < n * size) : w.frozen? (ad.add j) = false := by
  rcases h.2 with ⟨h0, _⟩ | ⟨g, off, cap', cur, fr, hv, hh, h1, h2, h3, h4, h5⟩
  · simp at h0
  · simp only [Value.slice.injEq, Option.some.injEq] at hv
    obtain ⟨rfl, _, rfl⟩ := hv
    have hm := Nat.mul_le_mul_right size h1
    have := h4 j (by omega)
    rw [Addr.add_lit]
    obtain ⟨lo, hi⟩ := fr
    unfold World.frozen?; simp only [hh]
    simp at this ⊢; omega
theorem Row.moves {w : World} {e : TypeId} {size : Nat} {ad : Addr} {n cap : Nat} {xs : List Value} (h : Row w e size (.slice (some ad) n cap) n xs) (j : Nat) (u : Value) : Moves (rowA e size (.slice (some ad) n cap) n xs) (rowA e size (.slice (some ad) n cap) n (xs.set j u)) w (w.setCell (ad.add j) u) := by
  refine ⟨h.setc j u, ?_, fun k hk => .inl hk⟩
  rcases h.2 with ⟨h0, _⟩ | ⟨g, off, cap', cur, fr, hv, hh, h1, h2, h3, h4, h5⟩
  · simp at h0
  · simp only [Value.slice.injEq, Option.some.injEq] at hv
    obtain ⟨rfl, _, rfl⟩ := hv
    rw [Addr.add_lit]
    exact (Touch.refl (rowA e size (.slice (some ⟨g, off, none⟩) n cap) n xs).F w).setCell (p := ⟨g, off + j, none⟩) (.inr rfl) u
/-- A store into a row of the list. -/
theorem Own.set {w0 w : World} {l : List Ast} (h : Own w0 w l) (i : Nat) {e : TypeId} {size : Nat} {ad : Addr} {n cap : Nat} {xs : List Value} (hi : l[i]? = some (rowA e size (.slice (some ad) n cap) n xs)) (j : Nat) (u : Value) : Own w0 (w.setCell (ad.add j) u) (l.set i (rowA e size (.slice (some ad) n cap) n (xs.set j u))) :=
  h.move i hi ((h.at i hi : Row w e size _ n xs).moves j u)
theorem Own.row {w0 w : World} {l : List Ast} (h : Own w0 w l) (i : Nat) {e : TypeId} {size : Nat} {v : Value} {n : Nat} {xs : List Value} (hi : l[i]? = some (rowA e size v n xs)) : Row w e size v n xs := h.at i hi
theorem Moves.of_append {w w' : World} {e : TypeId} {size : Nat} {v v' : Value} {n n' : Nat} {xs xs' : List Value} (hr : Row w' e size v' n' xs') (ht : Touch (fun k => v.ownBlock = some k) w w') (hf : ∀ k, v'.ownBlock = some k → v.ownBlock = some k ∨ w.heap.size ≤ k) : Moves (rowA e size v n xs) (rowA e size v' n' xs') w w' := ⟨hr, ht, hf⟩
end
section
open Go.RowKit
def intsA (b n : Nat) (ms : List Int) : Ast := rowA 3 1 (.slice (some ⟨b, 0, none⟩) n n) n (ms.map (.int .i64))
theorem Own.ints_get {w0 w : World} {l : List Ast} (h : Own w0 w l) (i : Nat) {b n : Nat} {ms : List Int} (hi : l[i]? = some (intsA b n ms)) {j : Nat} (hj : j < ms.length) : w.cell? ⟨b, j, none⟩ = some (.int .i64 (ms.getD j 0)) := by
  have hr : Row w 3 1 (.slice (some ⟨b, 0, none⟩) n n) n (ms.map (.int .i64)) := h.at i hi
  have := hr.cells ⟨b, 0, none⟩ rfl j (.int .i64 (ms.getD j 0)) (by rw [List.getElem?_map, List.getElem?_eq_getElem hj, List.getD_eq_getElem?_getD, List.getElem?_eq_getElem hj]; rfl)
  rwa [Addr.add_lit, Nat.zero_add] at this
theorem Own.ints_free {w0 w : World} {l : List Ast} (h : Own w0 w l) (i : Nat) {b n : Nat} {ms : List Int} (hi : l[i]? = some (intsA b n ms)) {j : Nat} (hj : j < n) : w.frozen? ⟨b, j, none⟩ = false := by
  have hr : Row w 3 1 (.slice (some ⟨b, 0, none⟩) n n) n (ms.map (.int .i64)) := h.at i hi
  have := hr.free (j := j) (by omega)
  rwa [Addr.add_lit, Nat.zero_add] at this
theorem Own.ints_set {w0 w : World} {l : List Ast} (h : Own w0 w l) (i : Nat) {b n : Nat} {ms ms' : List Int} (hi : l[i]? = some (intsA b n ms)) (j : Nat) (x : Int) (hm : ms.set j x = ms') : Own w0 (w.setCell ⟨b, j, none⟩ (.int .i64 x)) (l.set i (intsA b n ms')) := by
  subst hm
  have := h.set i hi j (.int .i64 x)
  rw [Addr.add_lit, Nat.zero_add, ← List.map_set] at this
  exact this
theorem Own.ints_lies {w0 w : World} {l : List Ast} (h : Own w0 w l) (i : Nat) {b n : Nat} {ms : List Int} (hi : l[i]? = some (intsA b n ms)) (hn : n = ms.length) : Lies w (some ⟨b, 0, none⟩) n ms := Lies.of_row (h.at i hi) hn
/-- 'make([]int, n)', just made. -/
theorem Own.ints_made {w0 w : World} {l : List Ast} (h : Own w0 w l) (cs : Array Value) (n : Nat) (hcs : cs = (List.replicate n (.int .i64 0)).toArray) (hn : n ≤ maxLen) : Own w0 (w.alloc (.cells cs 3)) (l ++ [intsA w.heap.size n (List.replicate n 0)]) := by
  subst hcs
  refine h.push (by go_grown) (intsA w.heap.size n (List.replicate n 0)) ?_ (fun k hk => ?_)
  · have := Row.lit w 3 1 (List.replicate n (.int .i64 0)).toArray n hn (by simp)
    show Row _ _ _ _ _ _
    simpa using this
  · simp [intsA, rowA, Value.ownBlock] at hk; omega
end
section
open Go.RowKit
def takeOk (ops : Array Oper) (listed : List Bool) (i : Nat) : Bool := (Region.ready .any ops listed.toArray).contains i && Region.free .any ops listed.toArray i
def soleOk (ops : Array Oper) (listed : List Bool) (i : Nat) : Bool := Region.ready .any ops listed.toArray == [i]
def numbered : Nat → List Oper → List (Nat × Oper)
  | _, [] => []
  | i, o :: l => (i, o) :: numbered (i + 1) l
theorem numbered_get : ∀ (l : List Oper) (i : Nat), ∀ p ∈ numbered i l, i ≤ p.1 ∧ l[p.1 - i]? = some p.2
  | [], _, p, h => by cases h
  | o :: l, i, p, h => by
    rcases List.mem_cons.1 h with rfl | h
    · simp
    · obtain ⟨h1, h2⟩ := numbered_get l (i + 1) p h
      refine ⟨by omega, ?_⟩
      rw [show p.1 - i = (p.1 - (i + 1)) + 1 by omega]
      simpa using h2
theorem numbered_length : ∀ (l : List Oper) (i : Nat), (numbered i l).length = l.length
  | [], _ => rfl
  | o :: l, i => by simp [numbered, numbered_length l]
/-- These operations are still to come up. -/
def wpLin (P : Program) (ops : Array Oper) (Q : Exit → Act → World → Prop) (S : World → Prop) (listed : List Bool) (rest : List (Nat × Oper)) (a : Act) (w : World) : Prop :=
  (∀ p ∈ rest, ops[p.1]? = some p.2) → wpAnyH P .any ops Q S rest.length listed.toArray a w
section
variable {P : Program} {ops : Array Oper} {Q : Exit → Act → World → Prop} {S : World → Prop} {listed : List Bool} {i : Nat} {o : Oper} {rest : List (Nat × Oper)} {a : Act} {w : World}
theorem lin_rot {x : Nat × Oper} (h : wpLin P ops Q S listed (rest ++ [x]) a w) : wpLin P ops Q S listed (x :: rest) a w := by
  intro hd
  have := h fun p hp => hd p (by
    rcases List.mem_append.1 hp with hp | hp
    · exact List.mem_cons_of_mem _ hp
    · simp at hp; subst hp; exact List.mem_cons_self)
  simpa using this
theorem lin_take {v : Value} (hf : takeOk ops listed i = true) (hs : Region.noSelect ops = true) (hQ : ∀ c a w, Q (.panic c) (a.put o.dst v) w → Q (.panic c) a w)
    (hy : YieldsIf P ops S o v a) (hS : S w) (h : wpLin P ops Q S (listed.set i true) rest (a.put o.dst v) w) : wpLin P ops Q S listed ((i, o) :: rest) a w := by
  intro hd
  unfold takeOk at hf
  rw [Bool.and_eq_true] at hf
  have := h fun p hp => hd p (List.mem_cons_of_mem _ hp)
  rw [List.length_cons]
  refine wpAnyH_take (hd (i, o) List.mem_cons_self) hs hf.2 hf.1 hQ hy hS ?_
  rw [List.setIfInBounds_toArray]
  exact this
theorem lin_sole (hr : soleOk ops listed i = true)
    (h : ∀ K : Act → World → Prop, Shut (∀ a w, S w → (S w → wpLin P ops Q S (listed.set i true) rest a w) → K a w) → if Region.wanted o (yielded ops a.tmps) = true then Oper.wp P o a w K Q else K (a.put o.dst undef) w) :
    wpLin P ops Q S listed ((i, o) :: rest) a w := by
  intro hd
  unfold soleOk at hr
  rw [beq_iff_eq] at hr
  rw [List.length_cons]
  refine wpAnyH_ready hr (by simp) (AllReadyH.cons (hd (i, o) List.mem_cons_self) (fun K hK => ?_) AllReadyH.nil)
  refine h K (fun a w hS hW => hK a w hS fun hS => ?_)
  have := hW hS fun p hp => hd p (List.mem_cons_of_mem _ hp)
  rw [List.setIfInBounds_toArray]
  exact this
theorem lin_done (hr : Region.ready .any ops listed.toArray = []) (h : Q .normal a w) : wpLin P ops Q S listed [] a w :=
  fun _ => wpAnyH_done hr h _
theorem lin_start {id : Nat} (hm : P.follows .mixedOrders = true) (n : Nat) (hn : ops.size = n) (hS : S w.drew) (h : wpLin P ops Q S (List.replicate n false) (numbered 0 ops.toList) a w.drew) : (Code.region id ops true).wp P Q a w := by
  subst hn
  refine wp_region_held (S := S) hm ?_
  have := h fun p hp => by simpa using (numbered_get ops.toList 0 p hp).2
  rw [numbered_length, Array.length_toList] at this
  simpa using this
end
end
section
open Go.RowKit
/-- A block of known cells. -/
def cellsA (b : Nat) (cs : Array Value) (t : TypeId) : Ast where
  F k := k = b
  hold w := w.heap[b]? = some (.cells cs t (0, 0))
  loc h hb := (hb b rfl).trans h
  lt h k hk := by subst hk; exact lt_at h
theorem Own.box {w0 w : World} {l : List Ast} (h : Own w0 w l) (cs : Array Value) (t : TypeId) : Own w0 (w.alloc (.cells cs t)) (l ++ [cellsA w.heap.size cs t]) :=
  h.push (by go_grown) (cellsA w.heap.size cs t) (alloc_new _ _) (fun k hk => by cases hk; exact Nat.le_refl _)
theorem Own.cset {w0 w : World} {l : List Ast} (h : Own w0 w l) (i : Nat) {b : Nat} {cs : Array Value} {t : TypeId} (hi : l[i]? = some (cellsA b cs t)) (j : Nat) (v : Value) : Own w0 (w.setCell ⟨b, j, none⟩ v) (l.set i (cellsA b (cs.setIfInBounds j v) t)) :=
  h.move i hi ⟨set_at (h.at i hi) j v, (Touch.refl (cellsA b cs t).F w).setCell (p := ⟨b, j, none⟩) (.inr rfl) v, fun k hk => .inl hk⟩
theorem Own.cget {w0 w : World} {l : List Ast} (h : Own w0 w l) (i : Nat) {b : Nat} {cs : Array Value} {t : TypeId} (hi : l[i]? = some (cellsA b cs t)) (j : Nat) : w.cell? ⟨b, j, none⟩ = cs[j]? ∧ w.frozen? ⟨b, j, none⟩ = false :=
  ⟨cell_at (h.at i hi) j, free_at (h.at i hi) j⟩
theorem Own.clast {w0 w : World} {l : List Ast} {b : Nat} {cs : Array Value} {t : TypeId} (h : Own w0 w (l ++ [cellsA b cs t])) (j : Nat) (v : Value) : Own w0 (w.setCell ⟨b, j, none⟩ v) (l ++ [cellsA b (cs.setIfInBounds j v) t]) := by
  have := h.cset l.length (List.getElem?_concat_length) j v
  simpa using this
theorem Own.lastAt {w0 w : World} {l : List Ast} {b : Nat} {cs : Array Value} {t : TypeId} (h : Own w0 w (l ++ [cellsA b cs t])) : w.heap[b]? = some (.cells cs t (0, 0)) := h.at l.length (List.getElem?_concat_length)
theorem at_app {l l' : List Ast} {i : Nat} {A : Ast} (h : l[i]? = some A) : (l ++ l')[i]? = some A := by
  rw [List.getElem?_append_left (List.getElem?_eq_some_iff.1 h).1]; exact h
theorem set_app {l l' : List Ast} {i : Nat} {A B : Ast} (h : l[i]? = some A) : (l ++ l').set i B = l.set i B ++ l' := List.set_append_left _ _ (List.getElem?_eq_some_iff.1 h).1
/-- Pieces picked out of the list by their places. -/
theorem Own.sel {w0 w : World} {l : List Ast} (h : Own w0 w l) (f : List Nat) (hf : f.Nodup) : Own w0 w (f.filterMap fun i => l[i]?) := by
  refine ⟨h.below, fun A hA => ?_, fun A hA => ?_, ?_⟩
  · obtain ⟨i, _, hi⟩ := List.mem_filterMap.1 hA
    exact h.at i hi
  · obtain ⟨i, _, hi⟩ := List.mem_filterMap.1 hA
    exact h.own A (List.mem_of_getElem? hi)
  · refine List.Pairwise.filterMap (R := (· ≠ ·)) _ ?_ hf
    intro a b hab A hA B hB k hk hk'
    rcases Nat.lt_or_gt_of_ne hab with hh | hh
    · exact h.apart a b hh hA hB k hk hk'
    · exact h.apart b a hh hB hA k hk' hk
theorem Own.sub {w0 w : World} {l l' : List Ast} (h : Own w0 w l) (hs : l'.Sublist l) : Own w0 w l' :=
  ⟨h.below, fun A hA => h.all A (hs.subset hA), fun A hA => h.own A (hs.subset hA), h.sep.sublist hs⟩
theorem set_same {l : List Ast} {i : Nat} {A : Ast} (hi : l[i]? = some A) : l.set i A = l := by
  refine List.ext_getElem? fun j => ?_
  by_cases hj : i = j
  · subst hj
    rw [List.getElem?_set_self (List.getElem?_eq_some_iff.1 hi).1, hi]
  · rw [List.getElem?_set_ne hj]
theorem Own.row_get {w0 w : World} {l : List Ast} (h : Own w0 w l) (i : Nat) {e : TypeId} {size b n c : Nat} {xs : List Value} (hi : l[i]? = some (rowA e size (.slice (some ⟨b, 0, none⟩) n c) n xs)) {j : Nat} {u : Value} (hj : xs[j]? = some u) : w.cell? ⟨b, j, none⟩ = some u := by
  have := (h.row i hi).cells ⟨b, 0, none⟩ rfl j u hj
  rwa [Addr.add_lit, Nat.zero_add] at this
theorem Own.row_free {w0 w : World} {l : List Ast} (h : Own w0 w l) (i : Nat) {e : TypeId} {size b n c : Nat} {xs : List Value} (hi : l[i]? = some (rowA e size (.slice (some ⟨b, 0, none⟩) n c) n xs)) {j : Nat} (hj : j < n * size) : w.frozen? ⟨b, j, none⟩ = false := by
  have := (h.row i hi).free (j := j) hj
  rwa [Addr.add_lit, Nat.zero_add] at this
theorem Own.row_set {w0 w : World} {l : List Ast} (h : Own w0 w l) (i : Nat) {e : TypeId} {size b n c : Nat} {xs xs' : List Value} (hi : l[i]? = some (rowA e size (.slice (some ⟨b, 0, none⟩) n c) n xs)) (j : Nat) (u : Value) (hx : xs.set j u = xs') : Own w0 (w.setCell ⟨b, j, none⟩ u) (l.set i (rowA e size (.slice (some ⟨b, 0, none⟩) n c) n xs')) := by
  subst hx
  have := h.set i hi j u
  rwa [Addr.add_lit, Nat.zero_add] at this
theorem Own.row_made {w0 w : World} {l : List Ast} (h : Own w0 w l) (e : TypeId) (size : Nat) (cs : Array Value) (n : Nat) (hn : n ≤ maxLen) (hs : cs.size = n * size) : Own w0 (w.alloc (.cells cs e)) (l ++ [rowA e size (.slice (some ⟨w.heap.size, 0, none⟩) n n) n cs.toList]) :=
  h.push (by go_grown) (rowA e size (.slice (some ⟨w.heap.size, 0, none⟩) n n) n cs.toList) (Row.lit w e size cs n hn hs) (fun k hk => by simp [rowA, Value.ownBlock] at hk; omega)
theorem Own.rowset {w0 w : World} {l : List Ast} (h : Own w0 w l) (i : Nat) {e : TypeId} {size g off n c : Nat} {xs xs' : List Value} (hi : l[i]? = some (rowA e size (.slice (some ⟨g, off, none⟩) n c) n xs)) (j : Nat) (u : Value) (hx : xs.set j u = xs') : Own w0 (w.setCell ⟨g, off + j, none⟩ u) (l.set i (rowA e size (.slice (some ⟨g, off, none⟩) n c) n xs')) := by
  subst hx
  have := h.set i hi j u
  rwa [Addr.add_lit] at this
theorem getD_map {ms : List Int} {a : Nat} (ha : a < ms.length) : (ms.map (Value.int .i64))[a]? = some (.int .i64 (ms.getD a 0)) := by
  rw [List.getElem?_map, List.getElem?_eq_getElem ha, List.getD_eq_getElem?_getD, List.getElem?_eq_getElem ha]; rfl
theorem map_set_i {ms : List Int} {k : Nat} {n : Int} : (ms.map (Value.int .i64)).set k (.int .i64 n) = (ms.set k n).map (.int .i64) := by rw [List.map_set]
theorem wpList_append_copy' {P : Program} (w : World) {ops : Array Oper} {rest : List Oper} {o : Oper} {a : Act} {Q : Exit → Act → World → Prop}
    (hg : o.guard = none) (s x : Operand) (t : TypeId) (hop : o.op = Op.call { callee := Callee.builtin Builtin.append, args := #[s, x], argTypes := #[t, t] })
    (e : TypeId) (i : TypeInfo) (z : Value) (size bytes : Nat) (h1 : P.underlying t = some (.slice e)) (h2 : P.info? e = some i) (h3 : i.zero = some z) (h4 : i.size = size) (h5 : i.bytes = bytes) (h6 : z.cells.size = size) (h7 : 0 < size)
    (N : Nat) (hN : N = w.heap.size) (hs : a.eval s = .slice (some ⟨N, 0, none⟩) 0 0)
    (ao : Option Addr) (m c : Nat) (news : List Value) (hx : a.eval x = .slice ao m c) (hsrc : Src w ao m c size news) (h1c : ∀ u ∈ news, u.oneCell' = true)
    (b1 : m ≤ maxLen) (b2 : m * bytes ≤ 140737488355328)
    (hK : ∀ ao' cap' w', Row w' e size (.slice ao' m cap') m news → Below w.heap.size w w' → (∀ k, Value.ownBlock (.slice ao' m cap') = some k → w.heap.size ≤ k) → wpList P ops Q rest (a.put o.dst (.slice ao' m cap')) w') :
    wpList P ops Q (o :: rest) a (w.alloc (.cells #[] e)) := by
  subst hN
  exact wpList_append_copy w hg s x t hop e i z size bytes h1 h2 h3 h4 h5 h6 h7 hs ao m c news hx hsrc h1c b1 b2 hK
theorem Own.row_at {w0 w : World} {l : List Ast} (h : Own w0 w l) (i : Nat) {e : TypeId} {size g off n c : Nat} {xs : List Value} (hi : l[i]? = some (rowA e size (.slice (some ⟨g, off, none⟩) n c) n xs)) {j : Nat} {u : Value} (hj : xs[j]? = some u) : w.cell? ⟨g, off + j, none⟩ = some u := by
  have := (h.row i hi).cells ⟨g, off, none⟩ rfl j u hj
  rwa [Addr.add_lit] at this
/-- The same, where the new element's place is told in other words. -/
theorem wpList_append_lit' {P : Program} (w : World) {ops : Array Oper} {rest : List Oper} {o : Oper} {a : Act} {Q : Exit → Act → World → Prop}
    (hg : o.guard = none) (s x : Operand) (t : TypeId) (hop : o.op = Op.call { callee := Callee.builtin Builtin.append, args := #[s, x], argTypes := #[t, t] })
    (e : TypeId) (i : TypeInfo) (z : Value) (size bytes : Nat) (h1 : P.underlying t = some (.slice e)) (h2 : P.info? e = some i) (h3 : i.zero = some z) (h4 : i.size = size) (h5 : i.bytes = bytes) (h6 : z.cells.size = size) (h7 : 0 < size)
    (v : Value) (n : Nat) (xs : List Value) (hs : a.eval s = v) (hrow : Row w e size v n xs)
    (cs : Array Value) (e' : TypeId) (m N : Nat) (hN : N = w.heap.size) (hx : a.eval x = .slice (some ⟨N, 0, none⟩) m m) (hn : cs.size = m * size) (h1c : ∀ u ∈ cs.toList, u.oneCell' = true)
    (b1 : n + m ≤ maxLen) (b2 : (n + m) * bytes ≤ 140737488355328)
    (hK : ∀ ao' cap' w', Row w' e size (.slice ao' (n + m) cap') (n + m) (xs ++ cs.toList) → Touch (fun k => v.ownBlock = some k) w w' → (∀ k, Value.ownBlock (.slice ao' (n + m) cap') = some k → v.ownBlock = some k ∨ w.heap.size ≤ k) → wpList P ops Q rest (a.put o.dst (.slice ao' (n + m) cap')) w') :
    wpList P ops Q (o :: rest) a (w.alloc (.cells cs e')) := by
  subst hN
  exact wpList_append_lit w hg s x t hop e i z size bytes h1 h2 h3 h4 h5 h6 h7 v n xs hs hrow cs e' m hx hn h1c b1 b2 hK
theorem map_take_snoc {l : List Int} {n : Nat} (h : n < l.length) {x : Int} (hx : l.getD n 0 = x) : (l.take n).map (Value.int .i64) ++ [.int .i64 x] = (l.take (n + 1)).map (.int .i64) := by
  rw [List.take_succ_eq_append_getElem h, List.map_append]
  rw [List.getD_eq_getElem?_getD, List.getElem?_eq_getElem h] at hx
  simp at hx
  simp [hx]
theorem getD_set_self {l : List Int} {i : Nat} (h : i < l.length) (x : Int) : (l.set i x).getD i 0 = x := by
  rw [List.getD_eq_getElem?_getD, List.getElem?_set_self h]; rfl
theorem getD_set_other {l : List Int} {i j : Nat} (h : i ≠ j) (x : Int) : (l.set i x).getD j 0 = l.getD j 0 := by
  rw [List.getD_eq_getElem?_getD, List.getElem?_set_ne h, ← List.getD_eq_getElem?_getD]
theorem getD_app {l : List Int} {n : Nat} (h : n < l.length) (x : Int) : (l ++ [x]).getD n 0 = l.getD n 0 := by
  rw [List.getD_eq_getElem?_getD, List.getElem?_append_left h, ← List.getD_eq_getElem?_getD]
theorem Row.src' {w : World} {e : TypeId} {size : Nat} {ao : Option Addr} {n cap : Nat} {xs : List Value} (h : Row w e size (.slice ao n cap) n xs) : Src w ao n cap size xs := by
  refine ⟨h.1, fun h0 => ?_, h.cells⟩
  obtain ⟨ao', cap', hv, _, _, hno⟩ := h.shape
  simp only [Value.slice.injEq] at hv
  obtain ⟨rfl, _, rfl⟩ := hv
  exact hno h0
theorem Try.infoIntK : (Try.prog.info? 3).map (fun i => (i.zero, i.size, i.bytes)) = some (some (.int .i64 0), 1, 8) := by kernel_rfl
theorem madeK_one (v : Value) (m : Nat) : madeCells #[v] m = (List.replicate m v).toArray := by
  refine Array.ext (by simp [madeCells]) fun i h1 h2 => ?_
  simp [madeCells, Nat.mod_one]
/-- 'make([]T, n)'. -/
theorem wpList_make_any {P : Program} (w : World) {ops : Array Oper} {rest : List Oper} {o : Oper} {a : Act} {Q : Exit → Act → World → Prop}
    (hg : o.guard = none) (l c : Operand) (t : TypeId) (hop : o.op = Op.makeSlice t l c)
    (e : TypeId) (i : TypeInfo) (z : Value) (size bytes : Nat) (ht : P.underlying t = some (.slice e)) (hi : P.info? e = some i) (hz : i.zero = some z) (hsize : i.size = size) (hbs : i.bytes = bytes)
    (kl kc : IntKind) (n m : Int) (hl : a.eval l = .int kl n) (hc : a.eval c = .int kc m) (h0 : 0 ≤ n) (hnm : n ≤ m) (h1 : m ≤ 4294967296) (hb : bytes ≤ 256)
    (hK : wpList P ops Q rest (a.put o.dst (.slice (some ⟨w.heap.size, 0, none⟩) n.toNat m.toNat)) (w.alloc (.cells (madeCells z.cells (m.toNat * size)) e))) :
    wpList P ops Q (o :: rest) a w := by
  refine wpList_plain hg fun K hK' => ?_
  have hm : (i.bytes : Int) * m ≤ 281474976710656 := by
    rw [hbs]
    have := Int.mul_le_mul (a := (bytes : Int)) (b := m) (c := 256) (d := 4294967296) (by omega) h1 (by omega) (by omega)
    omega
  have hrun := run_make (P := P) w t e i z ht hi hz kl kc n m h0 hnm hm (by omega)
  rw [hsize] at hrun
  unfold Oper.wp
  simp [execOp, hop, hl, hc, hrun, Result.andThen]
  exact hK' _ _ hK
end
section
open Go.RowKit
theorem wp_of_normal {P : Program} {o : Oper} {a : Act} {w : World} {K : Act → World → Prop} {Q : Exit → Act → World → Prop}
    (h : o.wp P a w (fun a w => Exit.normal = Exit.normal ∧ K a w) (fun e a w => e = Exit.normal ∧ K a w)) : o.wp P a w K Q := by
  unfold Oper.wp at h ⊢
  generalize (execOp a.eval o).run P w = r at h ⊢
  cases r with
  | ok n w' =>
    cases n with
    | value v => exact h.2
    | skip => exact h.2
    | defer d => exact h.2
    | enter f args =>
      refine Calls.mono h fun e w'' he => ?_
      cases e with
      | returned v => exact he.2
      | panicked chain => cases he.1
      | outgrown => obtain ⟨a, w, h0, _⟩ := he; cases h0
    | row row args => exact Rows.mono h fun v w'' he => he.2
    | _ => exact h.elim
  | halt hh w' =>
    cases hh with
    | panic v => cases h.1
    | _ => exact h.elim
theorem oper_of_list {P : Program} {ops : Array Oper} {o : Oper} {a : Act} {w : World} {K : Act → World → Prop} {Q : Exit → Act → World → Prop} (hg : o.guard = none)
    (h : wpList P ops (fun e a w => e = Exit.normal ∧ K a w) [o] a w) : o.wp P a w K Q := by
  unfold wpList at h
  rw [if_pos (by simp [Region.wanted, hg])] at h
  rcases h with h | ⟨_, a, w, h0, _⟩
  · exact wp_of_normal h
  · cases h0
theorem wp_weak {P : Program} {ops : Array Oper} {o : Oper} {a : Act} {w : World} {Q Q' : Exit → Act → World → Prop} (h : o.wp P a w (wpList P ops Q []) Q) (hq : ∀ e a w, Q e a w → Q' e a w) : o.wp P a w (wpList P ops Q' []) Q' := by
  unfold Oper.wp at h ⊢
  generalize (execOp a.eval o).run P w = r at h ⊢
  cases r with
  | ok n w' =>
    cases n with
    | value v => exact hq _ _ _ h
    | skip => exact hq _ _ _ h
    | defer d => exact hq _ _ _ h
    | enter f args =>
      refine Calls.mono h fun e w'' he => ?_
      cases e with
      | returned v => exact hq _ _ _ he
      | panicked chain => exact hq _ _ _ he
      | outgrown => obtain ⟨a, w, h0⟩ := he; exact ⟨a, w, hq _ _ _ h0⟩
    | row row args => exact Rows.mono h fun v w'' he => hq _ _ _ he
    | _ => exact h.elim
  | halt hh w' =>
    cases hh with
    | panic v => exact hq _ _ _ h
    | _ => exact h.elim
theorem wpList_weak {P : Program} {ops : Array Oper} {Q Q' : Exit → Act → World → Prop} {o : Oper} {a : Act} {w : World} (h : wpList P ops Q [o] a w) (hq : ∀ e a w, Q e a w → Q' e a w) : wpList P ops Q' [o] a w := by
  unfold wpList at h ⊢
  split
  · rename_i hw
    rw [if_pos hw] at h
    rcases h with h | ⟨h, a, w, h0⟩
    · exact .inl (wp_weak h hq)
    · exact .inr ⟨h, a, w, hq _ _ _ h0⟩
  · rename_i hw
    rw [if_neg hw] at h
    exact hq _ _ _ h
/-- The next operation alone is ready, and a law of lists tells what it does. -/
theorem lin_law {P : Program} {ops : Array Oper} {Q : Exit → Act → World → Prop} {S : World → Prop} {listed : List Bool} {i : Nat} {o : Oper} {rest : List (Nat × Oper)} {a : Act} {w : World}
    (hr : soleOk ops listed i = true) (hg : o.guard = none)
    (h : wpList P ops (fun e a w => e = Exit.normal ∧ (S w ∧ (S w → wpLin P ops Q S (listed.set i true) rest a w))) [o] a w) :
    wpLin P ops Q S listed ((i, o) :: rest) a w := by
  refine lin_sole hr fun K hK => ?_
  rw [if_pos (by simp [Region.wanted, hg])]
  refine oper_of_list (ops := ops) hg ?_
  refine wpList_weak h fun e a w ⟨he, hS, hW⟩ => ⟨he, hK.out _ _ hS hW⟩
end
section
open Go.RowKit
def pairOk (ops : Array Oper) (listed : List Bool) (i j : Nat) : Bool := Region.ready .any ops listed.toArray == [i, j] || Region.ready .any ops listed.toArray == [j, i]
section
variable {P : Program} {ops : Array Oper} {Q : Exit → Act → World → Prop} {S : World → Prop} {listed : List Bool} {i j : Nat} {oi oj o : Oper} {rest : List (Nat × Oper)} {a : Act} {w : World}
/-- What an operation that has come up is to bring about. -/
def Comes (P : Program) (ops : Array Oper) (Q : Exit → Act → World → Prop) (S : World → Prop) (o : Oper) (W : Act → World → Prop) (a : Act) (w : World) : Prop :=
  ∀ K : Act → World → Prop, Shut (∀ a w, S w → (S w → W a w) → K a w) → if Region.wanted o (yielded ops a.tmps) = true then Oper.wp P o a w K Q else K (a.put o.dst undef) w
theorem lin_pair (hr : pairOk ops listed i j = true) (h1 : Comes P ops Q S oi (wpLin P ops Q S (listed.set i true) ((j, oj) :: rest)) a w) (h2 : Comes P ops Q S oj (wpLin P ops Q S (listed.set j true) ((i, oi) :: rest)) a w) :
    wpLin P ops Q S listed ((i, oi) :: (j, oj) :: rest) a w := by
  intro hd
  have di := hd (i, oi) (by simp)
  have dj := hd (j, oj) (by simp)
  have g1 : ∀ K : Act → World → Prop, (∀ a' w', S w' → (S w' → wpAnyH P .any ops Q S ((j, oj) :: rest).length (listed.set i true).toArray a' w') → K a' w') → if Region.wanted oi (yielded ops a.tmps) = true then Oper.wp P oi a w K Q else K (a.put oi.dst undef) w := fun K hK =>
    h1 K (Lib.hid (fun a' w' hS hW => hK a' w' hS fun hS => hW hS fun p hp => hd p (by simp only [List.mem_cons] at hp ⊢; rcases hp with hp | hp <;> simp [hp])))
  have g2 : ∀ K : Act → World → Prop, (∀ a' w', S w' → (S w' → wpAnyH P .any ops Q S ((i, oi) :: rest).length (listed.set j true).toArray a' w') → K a' w') → if Region.wanted oj (yielded ops a.tmps) = true then Oper.wp P oj a w K Q else K (a.put oj.dst undef) w := fun K hK =>
    h2 K (Lib.hid (fun a' w' hS hW => hK a' w' hS fun hS => hW hS fun p hp => hd p (by simp only [List.mem_cons] at hp ⊢; rcases hp with hp | hp <;> simp [hp])))
  have c1 := fun K hK => g1 K hK
  have c2 := fun K hK => g2 K hK
  rw [List.length_cons]
  unfold pairOk at hr
  rw [Bool.or_eq_true, beq_iff_eq, beq_iff_eq] at hr
  rcases hr with hr | hr
  · refine wpAnyH_ready hr (by simp) (AllReadyH.cons di (fun K hK => ?_) (AllReadyH.cons dj (fun K hK => ?_) AllReadyH.nil))
    · refine g1 K (fun a' w' hS hW => hK.out a' w' hS fun hS => ?_)
      rw [List.setIfInBounds_toArray]; exact hW hS
    · refine g2 K (fun a' w' hS hW => hK.out a' w' hS fun hS => ?_)
      rw [List.setIfInBounds_toArray]; exact hW hS
  · refine wpAnyH_ready hr (by simp) (AllReadyH.cons dj (fun K hK => ?_) (AllReadyH.cons di (fun K hK => ?_) AllReadyH.nil))
    · refine g2 K (fun a' w' hS hW => hK.out a' w' hS fun hS => ?_)
      rw [List.setIfInBounds_toArray]; exact hW hS
    · refine g1 K (fun a' w' hS hW => hK.out a' w' hS fun hS => ?_)
      rw [List.setIfInBounds_toArray]; exact hW hS
theorem comes_law {W : Act → World → Prop} (hg : o.guard = none) (h : wpList P ops (fun e a w => e = Exit.normal ∧ (S w ∧ (S w → W a w))) [o] a w) : Comes P ops Q S o W a w := by
  intro K hK
  rw [if_pos (by simp [Region.wanted, hg])]
  refine oper_of_list (ops := ops) hg ?_
  exact wpList_weak h fun e a w ⟨he, hS, hW⟩ => ⟨he, hK.out _ _ hS hW⟩
theorem lin_swap {x y : Nat × Oper} (h : wpLin P ops Q S listed (y :: x :: rest) a w) : wpLin P ops Q S listed (x :: y :: rest) a w := by
  intro hd
  have := h fun p hp => hd p (by simp only [List.mem_cons] at hp ⊢; rcases hp with hp | hp | hp <;> simp [hp])
  simpa using this
end
theorem Own.base {w0 w : World} {l : List Ast} (h : Own w0 w l) (e : TypeId) (size : Nat) : Own w0 (w.alloc (.cells #[] e)) (l ++ [rowA e size (.slice (some ⟨w.heap.size, 0, none⟩) 0 0) 0 []]) :=
  h.row_made e size #[] 0 (by decide) (by simp)
theorem Own.lit1 {w0 w : World} {l : List Ast} (h : Own w0 w l) (e : TypeId) (v : Value) : Own w0 (w.alloc (.cells #[v] e)) (l ++ [rowA e 1 (.slice (some ⟨w.heap.size, 0, none⟩) 1 1) 1 [v]]) :=
  h.row_made e 1 #[v] 1 (by decide) (by simp)
end
section
open Go.RowKit
section
variable {P : Program} {md : Region.Mode} {ops : Array Oper} {Q : Exit → Act → World → Prop} {S : World → Prop} {z : Nat}
/-- Whatever order is picked, and S holds behind every operation that is carried out, but behind number z. -/
def wpAnyZ (P : Program) (md : Region.Mode) (ops : Array Oper) (Q : Exit → Act → World → Prop) (S : World → Prop) (z : Nat) : Nat → Array Bool → Act → World → Prop
  | 0, listed, a, w => Region.ready md ops listed = [] ∧ Q .normal a w
  | fuel + 1, listed, a, w =>
    (Region.ready md ops listed = [] → Q .normal a w) ∧
    ∀ i ∈ Region.ready md ops listed, wpOp P ops Q i (fun a' w' => (i = z ∨ S w') ∧ wpAnyZ P md ops Q S z fuel (listed.setIfInBounds i true) a' w') a w
theorem wpAny_of_z : ∀ (fuel : Nat) (listed : Array Bool) (a : Act) (w : World), wpAnyZ P md ops Q S z fuel listed a w → wpAny P md ops Q fuel listed a w
  | 0, _, _, _, h => h
  | fuel + 1, _, _, _, h => ⟨h.1, fun i hi => wpOp_mono (fun a' w' h' => wpAny_of_z fuel _ a' w' h'.2) (h.2 i hi)⟩
/-- z cannot come up before i. -/
def Blocked (md : Region.Mode) (ops : Array Oper) (listed : Array Bool) (i z : Nat) : Prop :=
  ∃ C : Nat → Prop, ¬ C z ∧ (∀ k, listed.getD k false = true → C k) ∧ ∀ j oj, ops[j]? = some oj → j ≠ i → (∀ e ∈ oj.after, Region.binds md e = true → C e.on) → C j
theorem wpAnyZ_first {i : Nat} {oi : Oper} {v : Value} (hi : ops[i]? = some oi) (hsel : ∀ (j : Nat) (o : Oper) cs b, ops[j]? = some o → o.op ≠ .select cs b)
    (hQ : ∀ c a w, Q (.panic c) (a.put oi.dst v) w → Q (.panic c) a w) :
    ∀ (fuel : Nat) (listed : Array Bool) (a : Act) (w : World),
      (∀ j oj, ops[j]? = some oj → j ≠ i → listed.getD j true = false → (∀ e ∈ oj.after, Region.binds md e = true → e.on ≠ i) → oi.apart ops oj = true) → Blocked md ops listed i z →
      i ∈ Region.ready md ops listed → YieldsIf P ops S oi v a → S w →
      wpAnyZ P md ops Q S z fuel (listed.setIfInBounds i true) (a.put oi.dst v) w → wpAnyZ P md ops Q S z (fuel + 1) listed a w := by
  intro fuel
  induction fuel with
  | zero =>
    intro listed a w _ _ hr hy hS H
    refine ⟨fun h => (by rw [h] at hr; cases hr), fun j hj => ?_⟩
    by_cases hji : j = i
    · subst hji; exact hy.wpOp hi hS ⟨.inr hS, H⟩
    · have := ready_mono hj hji
      rw [H.1] at this
      cases this
  | succ fuel ih =>
    intro listed a w hfree hbl hr hy hS H
    refine ⟨fun h => (by rw [h] at hr; cases hr), fun j hj => ?_⟩
    by_cases hji : j = i
    · subst hji; exact hy.wpOp hi hS ⟨.inr hS, H⟩
    · have h1 := H.2 j (ready_mono hj hji)
      obtain ⟨hjun, oj, hoj, hall⟩ := mem_ready.1 hj
      obtain ⟨C, hCz, hCl, hCc⟩ := hbl
      have hCj : C j := hCc j oj hoj hji fun e he hb => hCl _ (hall e he hb)
      have hjz : j ≠ z := by rintro rfl; exact hCz hCj
      have hnot : ∀ e ∈ oj.after, Region.binds md e = true → e.on ≠ i := fun e he hb heq => by
        have h1 := hall e he hb
        have h0 := (mem_ready.1 hr).1
        rw [heq] at h1
        rcases Nat.lt_or_ge i listed.size with h' | h'
        · simp [h'] at h0 h1; rw [h0] at h1; cases h1
        · simp [Array.getElem?_eq_none h'] at h1
      have h2 := wpOp_putIf hoj (hfree j oj hoj hji hjun hnot) (fun cs b => hsel i oi cs b hi) (fun cs b => hsel j oj cs b hoj) hQ hy h1
      have hfree' : ∀ k ok, ops[k]? = some ok → k ≠ i → (listed.setIfInBounds j true).getD k true = false →
          (∀ e ∈ ok.after, Region.binds md e = true → e.on ≠ i) → oi.apart ops ok = true := fun k ok hk hki hun hno => by
        refine hfree k ok hk hki ?_ hno
        by_cases hjk : j = k
        · subst hjk; exact hjun
        · rw [getD_set_ne true hjk] at hun; exact hun
      have hbl' : Blocked md ops (listed.setIfInBounds j true) i z := ⟨C, hCz, fun k hk => by
        by_cases hjk : j = k
        · subst hjk; exact hCj
        · rw [getD_set_ne false hjk] at hk; exact hCl k hk, hCc⟩
      refine wpOp_mono (fun a' w' h3 => ?_) h2
      have hS' := h3.2.1.resolve_left hjz
      refine ⟨.inr hS', ih (listed.setIfInBounds j true) a' w' hfree' hbl' (ready_mono hr (Ne.symm hji)) h3.1 hS' ?_⟩
      rw [Array.setIfInBounds_comm _ _ hji]
      exact h3.2.2
def depsIn (md : Region.Mode) (o : Oper) (c : List Bool) : Bool := o.after.all fun e => !Region.binds md e || c.getD e.on false
def stepC (md : Region.Mode) (ops : List Oper) (i : Nat) (c : List Bool) : List Bool := (List.range ops.length).map fun j => c.getD j false || (j != i && match ops[j]? with | some o => depsIn md o c | none => false)
def cloC (md : Region.Mode) (ops : List Oper) (i : Nat) : Nat → List Bool → List Bool
  | 0, c => c
  | n + 1, c => cloC md ops i n (stepC md ops i c)
def blockedB (md : Region.Mode) (ops : Array Oper) (listed : List Bool) (i z : Nat) : Bool :=
  let c := cloC md ops.toList i ops.size listed
  !c.getD z false && (List.range listed.length).all (fun k => !listed.getD k false || c.getD k false) && (List.range ops.size).all (fun j => j == i || c.getD j false || match ops[j]? with | some o => !depsIn md o c | none => true)
theorem blocked_of {listed : List Bool} {i z : Nat} (h : blockedB md ops listed i z = true) : Blocked md ops listed.toArray i z := by
  unfold blockedB at h
  generalize cloC md ops.toList i ops.size listed = c at h
  simp only [Bool.and_eq_true, Bool.not_eq_true', List.all_eq_true, List.mem_range, Bool.or_eq_true] at h
  obtain ⟨⟨h1, h2⟩, h3⟩ := h
  refine ⟨fun k => c.getD k false = true, by show ¬ (c.getD z false = true); rw [h1]; simp, fun k hk => ?_, fun j oj hj hji hd => ?_⟩
  · have hl : k < listed.length := by
      rcases Nat.lt_or_ge k listed.length with h' | h'
      · exact h'
      · simp [List.getElem?_eq_none h'] at hk
    rcases h2 k hl with h | h
    · have hk' : listed.getD k false = true := by simpa using hk
      rw [hk'] at h; cases h
    · exact h
  · have hl : j < ops.size := (Array.getElem?_eq_some_iff.1 hj).1
    rcases h3 j hl with (h | h) | h
    · simp at h; exact absurd h hji
    · exact h
    · rw [hj] at h
      simp only [Bool.not_eq_true'] at h
      have hd' : depsIn md oj c = true := by
        unfold depsIn
        rw [Array.all_eq_true_iff_forall_mem]
        intro e he
        cases hb : Region.binds md e with
        | false => rfl
        | true => simpa using hd e he hb
      rw [hd'] at h; cases h
/-- These operations are still to come up. -/
def wpLz (P : Program) (ops : Array Oper) (Q : Exit → Act → World → Prop) (S : World → Prop) (z : Nat) (listed : List Bool) (rest : List (Nat × Oper)) (a : Act) (w : World) : Prop :=
  (∀ p ∈ rest, ops[p.1]? = some p.2) → wpAnyZ P .any ops Q S z rest.length listed.toArray a w
variable {listed : List Bool} {i : Nat} {o : Oper} {rest : List (Nat × Oper)} {a : Act} {w : World}
theorem lz_rot {x : Nat × Oper} (h : wpLz P ops Q S z listed (rest ++ [x]) a w) : wpLz P ops Q S z listed (x :: rest) a w := by
  intro hd
  have := h fun p hp => hd p (by
    rcases List.mem_append.1 hp with hp | hp
    · exact List.mem_cons_of_mem _ hp
    · simp at hp; subst hp; exact List.mem_cons_self)
  simpa using this
theorem lz_take {v : Value} (hf : takeOk ops listed i = true) (hb : blockedB .any ops listed i z = true) (hs : Region.noSelect ops = true) (hQ : ∀ c a w, Q (.panic c) (a.put o.dst v) w → Q (.panic c) a w)
    (hy : YieldsIf P ops S o v a) (hS : S w) (h : wpLz P ops Q S z (listed.set i true) rest (a.put o.dst v) w) : wpLz P ops Q S z listed ((i, o) :: rest) a w := by
  intro hd
  unfold takeOk at hf
  rw [Bool.and_eq_true] at hf
  have := h fun p hp => hd p (List.mem_cons_of_mem _ hp)
  rw [List.length_cons]
  have hi := hd (i, o) List.mem_cons_self
  refine wpAnyZ_first hi (Region.noSelect_spec hs) hQ rest.length listed.toArray a w (Region.free_spec hi hf.2) (blocked_of hb) (by simpa using hf.1) hy hS ?_
  rw [List.setIfInBounds_toArray]
  exact this
theorem lz_sole (hr : soleOk ops listed i = true)
    (h : ∀ K : Act → World → Prop, Shut (∀ a w, (i = z ∨ S w) → ((i = z ∨ S w) → wpLz P ops Q S z (listed.set i true) rest a w) → K a w) → if Region.wanted o (yielded ops a.tmps) = true then Oper.wp P o a w K Q else K (a.put o.dst undef) w) :
    wpLz P ops Q S z listed ((i, o) :: rest) a w := by
  intro hd
  unfold soleOk at hr
  rw [beq_iff_eq] at hr
  rw [List.length_cons]
  refine ⟨fun h0 => (by rw [hr] at h0; cases h0), fun j hj => ?_⟩
  rw [hr] at hj
  simp at hj
  subst hj
  have hi := hd (j, o) List.mem_cons_self
  unfold Go.wpOp
  simp only [hi]
  have hh := h (fun a' w' => (j = z ∨ S w') ∧ wpAnyZ P .any ops Q S z rest.length (listed.toArray.setIfInBounds j true) a' w') (fun a w hS hW => ⟨hS, by
    have := hW hS fun p hp => hd p (List.mem_cons_of_mem _ hp)
    rw [List.setIfInBounds_toArray]
    exact this⟩)
  split at hh
  · rename_i hw; rw [if_pos hw]; exact .inl hh
  · rename_i hw; rw [if_neg hw]; exact hh
theorem lz_done (hr : Region.ready .any ops listed.toArray = []) (h : Q .normal a w) : wpLz P ops Q S z listed [] a w :=
  fun _ => ⟨hr, h⟩
theorem lz_start {id : Nat} (hm : P.follows .mixedOrders = true) (z n : Nat) (hn : ops.size = n) (hS : S w.drew) (h : wpLz P ops Q S z (List.replicate n false) (numbered 0 ops.toList) a w.drew) : (Code.region id ops true).wp P Q a w := by
  subst hn
  refine wp_region_any hm (wpAny_of_z (S := S) (z := z) _ _ _ _ ?_)
  have := h fun p hp => by simpa using (numbered_get ops.toList 0 p hp).2
  rw [numbered_length, Array.length_toList] at this
  simpa using this
theorem lz_law (hr : soleOk ops listed i = true) (hg : o.guard = none)
    (h : wpList P ops (fun e a w => e = Exit.normal ∧ (S w ∧ (S w → wpLz P ops Q S z (listed.set i true) rest a w))) [o] a w) :
    wpLz P ops Q S z listed ((i, o) :: rest) a w := by
  refine lz_sole hr fun K hK => ?_
  rw [if_pos (by simp [Region.wanted, hg])]
  refine oper_of_list (ops := ops) hg ?_
  refine wpList_weak h fun e a w ⟨he, hS, hW⟩ => ⟨he, hK.out _ _ (.inr hS) (fun _ => hW hS)⟩
end
end
end Go.Proofs.Ytcegncbnanbenaa
