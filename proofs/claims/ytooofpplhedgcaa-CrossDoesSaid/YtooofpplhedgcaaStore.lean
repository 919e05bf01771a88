/- Package store: its object, and what each of its functions does. -/
import Derived.Test.YtooofpplhedgcaaLies
set_option linter.unusedVariables false
set_option linter.unusedSimpArgs false
namespace Go.Proofs.Ytooofpplhedgcaa
open Go.RowKit
theorem Try.infoIntS : (Try.prog.info? 3).map (fun i => (i.zero, i.size, i.bytes)) = some (some (.int .i64 0), 1, 8) := by kernel_rfl
/-- Blocks g and b are a store of the words ms, with the hook hk. -/
def StoreIs (w : World) (g b : Nat) (ms : List Int) (hk : Value) : Prop :=
  g ≠ b ∧ ms.length ≤ 1048576 ∧ w.heap[g]? = some (.cells #[.slice (some ⟨b, 0, none⟩) ms.length ms.length, hk] 93 (0, 0)) ∧ w.heap[b]? = some (.cells (ms.map (Value.int .i64)).toArray 3 (0, 0))
theorem StoreIs.set {w : World} {g b : Nat} {ms : List Int} {hk : Value} (h : StoreIs w g b ms hk) (k : Nat) (n : Int) : StoreIs (w.setCell ⟨b, k, none⟩ (.int .i64 n)) g b (ms.set k n) hk := by
  obtain ⟨h1, h2, h3, h4⟩ := h
  refine ⟨h1, by simpa using h2, ?_, ?_⟩
  · rw [set_else h1, List.length_set]; exact h3
  · rw [set_at h4, List.setIfInBounds_toArray, List.map_set]
theorem StoreIs.same {w w' : World} {g b : Nat} {ms : List Int} {hk : Value} (h : StoreIs w g b ms hk) (hg : w'.heap[g]? = w.heap[g]?) (hb : w'.heap[b]? = w.heap[b]?) : StoreIs w' g b ms hk :=
  ⟨h.1, h.2.1, hg.trans h.2.2.1, hb.trans h.2.2.2⟩
theorem StoreIs.ltg {w : World} {g b : Nat} {ms : List Int} {hk : Value} (h : StoreIs w g b ms hk) : g < w.heap.size := lt_at h.2.2.1
theorem StoreIs.ltb {w : World} {g b : Nat} {ms : List Int} {hk : Value} (h : StoreIs w g b ms hk) : b < w.heap.size := lt_at h.2.2.2
theorem StoreIs.below {w w' : World} {g b : Nat} {ms : List Int} {hk : Value} (h : StoreIs w g b ms hk) (hb : Below w.heap.size w w') : StoreIs w' g b ms hk :=
  h.same (hb.block g h.ltg) (hb.block b h.ltb)
theorem StoreIs.alloc {w : World} {g b : Nat} {ms : List Int} {hk : Value} (h : StoreIs w g b ms hk) (o : Obj) : StoreIs (w.alloc o) g b ms hk :=
  h.same (Below.heap_alloc _ _ _ h.ltg) (Below.heap_alloc _ _ _ h.ltb)
theorem StoreIs.touch {S : Nat → Prop} {w w' : World} {g b : Nat} {ms : List Int} {hk : Value} (h : StoreIs w g b ms hk) (t : Touch S w w') (hg : ¬ S g) (hb : ¬ S b) : StoreIs w' g b ms hk :=
  h.same (t.block g h.ltg hg) (t.block b h.ltb hb)
theorem StoreIs.drewN {w : World} {g b : Nat} {ms : List Int} {hk : Value} (h : StoreIs w g b ms hk) (n : Nat) : StoreIs (w.drewN n) g b ms hk := h
theorem StoreIs.setCell {w : World} {g b : Nat} {ms : List Int} {hk : Value} (h : StoreIs w g b ms hk) {k i : Nat} (hg : g ≠ k) (hb : b ≠ k) (u : Value) : StoreIs (w.setCell ⟨k, i, none⟩ u) g b ms hk :=
  h.same (set_else hg i u) (set_else hb i u)
theorem StoreIs.word {w : World} {g b : Nat} {ms : List Int} {hk : Value} (h : StoreIs w g b ms hk) {k : Nat} (hl : k < ms.length) : w.cell? ⟨b, k, none⟩ = some (.int .i64 (ms.getD k 0)) := by
  rw [cell_at h.2.2.2]; simp [hl]
theorem StoreIs.free {w : World} {g b : Nat} {ms : List Int} {hk : Value} (h : StoreIs w g b ms hk) (k : Nat) : w.frozen? ⟨b, k, none⟩ = false := free_at h.2.2.2 k
theorem StoreIs.c0 {w : World} {g b : Nat} {ms : List Int} {hk : Value} (h : StoreIs w g b ms hk) : w.cell? ⟨g, 0, none⟩ = some (.slice (some ⟨b, 0, none⟩) ms.length ms.length) := by
  rw [cell_at h.2.2.1]; rfl
theorem StoreIs.c1 {w : World} {g b : Nat} {ms : List Int} {hk : Value} (h : StoreIs w g b ms hk) : w.cell? ⟨g, 1, none⟩ = some hk := by
  rw [cell_at h.2.2.1]; rfl
theorem StoreIs.src {w : World} {g b : Nat} {ms : List Int} {hk : Value} (h : StoreIs w g b ms hk) : Src w (some ⟨b, 0, none⟩) ms.length ms.length 1 (ms.map (Value.int .i64)) := by
  refine ⟨by simp, by simp, ?_⟩
  rintro ad had j u hu
  cases had
  have hj : j < ms.length := by have := (List.getElem?_eq_some_iff.1 hu).1; simpa using this
  rw [Addr.add_lit, Nat.zero_add, h.word hj]
  simp [hj] at hu ⊢; exact hu
set_option maxHeartbeats 1000000
set_option maxRecDepth 100000
theorem madeCells_one (v : Value) (m : Nat) : madeCells #[v] m = (List.replicate m v).toArray := by
  refine Array.ext (by simp [madeCells]) fun i h1 h2 => ?_
  simp [madeCells, Nat.mod_one]
/-- 'make([]T, n)' of one-celled elements. -/
theorem wpList_make_int {P : Program} (w : World) {ops : Array Oper} {rest : List Oper} {o : Oper} {a : Act} {Q : Exit → Act → World → Prop}
    (hg : o.guard = none) (l c : Operand) (t : TypeId) (hop : o.op = Op.makeSlice t l c)
    (e : TypeId) (i : TypeInfo) (z : Value) (bytes : Nat) (ht : P.underlying t = some (.slice e)) (hi : P.info? e = some i) (hz : i.zero = some z) (hsize : i.size = 1) (hbs : i.bytes = bytes) (hz1 : z.cells = #[z])
    (kl kc : IntKind) (n : Int) (hl : a.eval l = .int kl n) (hc : a.eval c = .int kc n) (h0 : 0 ≤ n) (h1 : n ≤ 4294967296) (hb : bytes ≤ 256)
    (hK : wpList P ops Q rest (a.put o.dst (.slice (some ⟨w.heap.size, 0, none⟩) n.toNat n.toNat)) (w.alloc (.cells (List.replicate n.toNat z).toArray e))) :
    wpList P ops Q (o :: rest) a w := by
  refine wpList_plain hg fun K hK' => ?_
  have hm : (i.bytes : Int) * n ≤ 281474976710656 := by
    rw [hbs]
    have := Int.mul_le_mul (a := (bytes : Int)) (b := n) (c := 256) (d := 4294967296) (by omega) h1 h0 (by omega)
    omega
  have hrun := run_make (P := P) w t e i z ht hi hz kl kc n n h0 (Int.le_refl _) hm (by omega)
  rw [hsize, Nat.mul_one, hz1, madeCells_one] at hrun
  unfold Oper.wp
  simp [execOp, hop, hl, hc, hrun, Result.andThen]
  exact hK' _ _ hK
theorem new_store (w : World) (cs : Array Value) (m : Nat) (M : Int) (hcs : cs = (List.replicate m (.int .i64 0)).toArray) (h : m = M.toNat) (h1 : m ≤ 1048576) : StoreIs ((w.alloc (.cells cs 3)).alloc (.cells #[.slice (some ⟨w.heap.size, 0, none⟩) m m, .nilFunc] 93)) (w.heap.size + 1) w.heap.size (List.replicate M.toNat 0) .nilFunc := by
  subst h hcs
  have e := alloc_new (w.alloc (.cells (List.replicate M.toNat (.int .i64 0)).toArray 3)) (.cells #[.slice (some ⟨w.heap.size, 0, none⟩) M.toNat M.toNat, .nilFunc] 93)
  rw [World.size_alloc] at e
  refine ⟨by omega, by simp; omega, by simpa using e, ?_⟩
  rw [alloc_at (alloc_new _ _)]
  simp
theorem new_any (n : Int) (w : World) : Calls Try.prog 11 #[.int .i64 n] w fun e w' => e = .returned (.pointer (some ⟨w.heap.size + 1, 0, none⟩)) ∧ StoreIs w' (w.heap.size + 1) w.heap.size (List.replicate (min (max n 0) 1048576).toNat 0) .nilFunc ∧ Below w.heap.size w w' := by
  obtain ⟨i0, hi, hz0, hz1', hz2'⟩ := info_parts' Try.infoIntS
  go_enter Try.func11, Try.ntmps11
  go_wp2_with (first | (refine wpList_make_int _ rfl _ _ 67 rfl 3 i0 (.int .i64 0) 8 Try.underlying67 hi hz0 hz1' hz2' rfl .i64 .i64 _ rfl rfl ?_ ?_ (by decide) ?_; all_goals (try omega)))
  all_goals go_ret
  all_goals exact ⟨rfl, new_store w _ _ _ (by first | rfl | (rw [List.toArray_replicate]) | simp) (by omega) (by omega), by go_grown⟩
theorem size_any {w : World} {g b : Nat} {ms : List Int} {hk : Value} (h : StoreIs w g b ms hk) : Calls Try.prog 85 #[.pointer (some ⟨g, 0, none⟩)] w fun e w' => e = .returned (.int .i64 ms.length) ∧ w = w' := by
  have c0 := h.c0
  clear h
  go_enter Try.func85, Try.ntmps85
  go_wp2
  go_ret
  exact ⟨rfl, rfl⟩
theorem size_none (w : World) : Calls Try.prog 85 #[.pointer none] w fun e w' => e = .returned (.int .i64 0) ∧ w = w' := by
  go_enter Try.func85, Try.ntmps85
  go_wp2
  go_ret
  exact ⟨rfl, rfl⟩
theorem nilHook : ∀ w, Sem.run Try.prog (binOp BinOp.neq 91 Value.nilFunc Value.nilFunc) w = .ok (.bool false) w := fun w => by kernel_rfl
theorem word_in {w : World} {g b : Nat} {ms : List Int} (h : StoreIs w g b ms .nilFunc) {k : Nat} (hl : k < ms.length) (wr : Bool) : Calls Try.prog 70 #[.pointer (some ⟨g, 0, none⟩), .int .i64 k, .bool wr] w fun e w' => e = .returned (.pointer (some ⟨b, k, none⟩)) ∧ w = w' := by
  have hs := Lib.hid (size_any h)
  have c0 := h.c0
  have c1 := h.c1
  have h2 := h.2.1
  clear h
  have g1 : decide ((k : Int) < 0) = false := by simp
  have g2 : decide ((ms.length : Int) ≤ (k : Int)) = false := by simp; omega
  have hrun := nilHook
  go_enter Try.func70, Try.ntmps70
  go_wp2_with (first | (go_at_call 85; refine hs.out.mono ?_; rintro e w1 ⟨rfl, rfl⟩))
  go_ret
  exact ⟨rfl, rfl⟩
theorem word_out {w : World} {g b : Nat} {ms : List Int} {hk : Value} (h : StoreIs w g b ms hk) {k : Int} (hl : k < 0 ∨ (ms.length : Int) ≤ k) (wr : Bool) : Calls Try.prog 70 #[.pointer (some ⟨g, 0, none⟩), .int .i64 k, .bool wr] w fun e w' => e = .returned (.pointer none) ∧ w = w' := by
  have hs := Lib.hid (size_any h)
  clear h
  rcases hl with hl | hl
  · have g1 : decide (k < 0) = true := by simp; omega
    go_enter Try.func70, Try.ntmps70
    go_wp2
    go_ret
    exact ⟨rfl, rfl⟩
  · have g1 : decide (k < 0) = false := by simp; omega
    have g2 : decide ((ms.length : Int) ≤ k) = true := by simp; omega
    go_enter Try.func70, Try.ntmps70
    go_wp2_with (first | (go_at_call 85; refine hs.out.mono ?_; rintro e w1 ⟨rfl, rfl⟩))
    go_ret
    exact ⟨rfl, rfl⟩
theorem load_in {w : World} {g b : Nat} {ms : List Int} (h : StoreIs w g b ms .nilFunc) {k : Nat} (hl : k < ms.length) : Calls Try.prog 60 #[.pointer (some ⟨g, 0, none⟩), .int .i64 k] w fun e w' => e = .returned (.tuple #[.int .i64 (ms.getD k 0), .bool true]) ∧ w = w' := by
  have hs := Lib.hid (word_in h hl false)
  have hw := h.word hl
  clear h
  generalize ms.getD k 0 = X at *
  go_enter Try.func60, Try.ntmps60
  go_wp2_with (first | (go_at_call 70; refine hs.out.mono ?_; rintro e w1 ⟨rfl, rfl⟩))
  go_ret2
  exact ⟨rfl, rfl⟩
theorem load_out {w : World} {g b : Nat} {ms : List Int} {hk : Value} (h : StoreIs w g b ms hk) {k : Int} (hl : k < 0 ∨ (ms.length : Int) ≤ k) : Calls Try.prog 60 #[.pointer (some ⟨g, 0, none⟩), .int .i64 k] w fun e w' => e = .returned (.tuple #[.int .i64 0, .bool false]) ∧ w = w' := by
  have hs := Lib.hid (word_out h hl false)
  clear h
  go_enter Try.func60, Try.ntmps60
  go_wp2_with (first | (go_at_call 70; refine hs.out.mono ?_; rintro e w1 ⟨rfl, rfl⟩))
  go_ret2
  exact ⟨rfl, rfl⟩
theorem store_in {w : World} {g b : Nat} {ms : List Int} (h : StoreIs w g b ms .nilFunc) {k : Nat} (hl : k < ms.length) (n : Int) : Calls Try.prog 42 #[.pointer (some ⟨g, 0, none⟩), .int .i64 k, .int .i64 n] w fun e w' => e = .returned (.bool true) ∧ w.setCell ⟨b, k, none⟩ (.int .i64 n) = w' := by
  have hs := Lib.hid (word_in h hl true)
  have hw := h.word hl
  have hf := h.free k
  clear h
  go_enter Try.func42, Try.ntmps42
  go_wp2_with (first | (go_at_call 70; refine hs.out.mono ?_; rintro e w1 ⟨rfl, rfl⟩))
  go_ret
  exact ⟨rfl, rfl⟩
theorem store_out {w : World} {g b : Nat} {ms : List Int} {hk : Value} (h : StoreIs w g b ms hk) {k : Int} (hl : k < 0 ∨ (ms.length : Int) ≤ k) (n : Int) : Calls Try.prog 42 #[.pointer (some ⟨g, 0, none⟩), .int .i64 k, .int .i64 n] w fun e w' => e = .returned (.bool false) ∧ w = w' := by
  have hs := Lib.hid (word_out h hl true)
  clear h
  go_enter Try.func42, Try.ntmps42
  go_wp2_with (first | (go_at_call 70; refine hs.out.mono ?_; rintro e w1 ⟨rfl, rfl⟩))
  go_ret
  exact ⟨rfl, rfl⟩
theorem swap_yes {w : World} {g b : Nat} {ms : List Int} (h : StoreIs w g b ms .nilFunc) {k : Nat} (hl : k < ms.length) (n : Int) : Calls Try.prog 81 #[.pointer (some ⟨g, 0, none⟩), .int .i64 k, .int .i64 (ms.getD k 0), .int .i64 n] w fun e w' => e = .returned (.tuple #[.int .i64 (ms.getD k 0), .bool true]) ∧ w.setCell ⟨b, k, none⟩ (.int .i64 n) = w' := by
  have hs := Lib.hid (word_in h hl true)
  have hw := h.word hl
  have hf := h.free k
  clear h
  generalize ms.getD k 0 = X at *
  go_enter Try.func81, Try.ntmps81
  go_wp2_with (first | (go_at_call 70; refine hs.out.mono ?_; rintro e w1 ⟨rfl, rfl⟩))
  go_ret2
  exact ⟨rfl, rfl⟩
theorem swap_no {w : World} {g b : Nat} {ms : List Int} (h : StoreIs w g b ms .nilFunc) {k : Nat} (hl : k < ms.length) (o n : Int) (hne : ms.getD k 0 ≠ o) : Calls Try.prog 81 #[.pointer (some ⟨g, 0, none⟩), .int .i64 k, .int .i64 o, .int .i64 n] w fun e w' => e = .returned (.tuple #[.int .i64 (ms.getD k 0), .bool true]) ∧ w = w' := by
  have hs := Lib.hid (word_in h hl true)
  have hw := h.word hl
  have hf := h.free k
  clear h
  generalize ms.getD k 0 = X at *
  have hq : (X == o) = false := by simp [hne]
  go_enter Try.func81, Try.ntmps81
  go_wp2_with (first | (go_at_call 70; refine hs.out.mono ?_; rintro e w1 ⟨rfl, rfl⟩))
  go_ret2
  exact ⟨rfl, rfl⟩
theorem swap_out {w : World} {g b : Nat} {ms : List Int} {hk : Value} (h : StoreIs w g b ms hk) {k : Int} (hl : k < 0 ∨ (ms.length : Int) ≤ k) (o n : Int) : Calls Try.prog 81 #[.pointer (some ⟨g, 0, none⟩), .int .i64 k, .int .i64 o, .int .i64 n] w fun e w' => e = .returned (.tuple #[.int .i64 0, .bool false]) ∧ w = w' := by
  have hs := Lib.hid (word_out h hl true)
  clear h
  go_enter Try.func81, Try.ntmps81
  go_wp2_with (first | (go_at_call 70; refine hs.out.mono ?_; rintro e w1 ⟨rfl, rfl⟩))
  go_ret2
  exact ⟨rfl, rfl⟩
theorem clone_any {ao : Option Addr} {cap : Nat} {zs : List Int} {w : World} (hsrc : Src w ao zs.length cap 1 (zs.map (.int .i64))) (hl : zs.length ≤ 1048576) : Calls Try.prog 74 #[.slice ao zs.length cap] w fun e w' => ∃ ao' cap', e = .returned (.slice ao' zs.length cap') ∧ Row w' 3 1 (.slice ao' zs.length cap') zs.length (zs.map (.int .i64)) ∧ (∀ k, Value.ownBlock (.slice ao' zs.length cap') = some k → w.heap.size ≤ k) ∧ Below w.heap.size w w' := by
  obtain ⟨i0, hi, hz0, hz1', hz2'⟩ := info_parts' Try.infoIntS
  have hnil := fun (w : World) (a : Option Addr) (n c n' c' : Nat) => Lib.run_eql_slice_nil (P := Try.prog) w 67 3 a n c n' c' Try.underlying67
  cases ao with
  | none =>
    obtain ⟨h0, h1⟩ := hsrc.2.1 rfl
    have hn : zs = [] := List.eq_nil_of_length_eq_zero h0
    subst hn h1
    clear hsrc
    go_enter Try.func74, Try.ntmps74
    go_wp2
    go_ret
    exact ⟨none, 0, rfl, Row.nil _ _ _, by simp [Value.ownBlock], by go_grown⟩
  | some ad =>
    go_enter Try.func74, Try.ntmps74
    go_wp2_with (at_builtin; go_must (refine wpList_append_copy _ rfl _ _ 67 rfl 3 i0 (.int .i64 0) 1 8 Try.underlying67 hi hz0 hz1' hz2' rfl (by decide) rfl (some ad) zs.length cap (zs.map (Value.int .i64)) rfl hsrc (by simp [Value.oneCell']) (by unfold maxLen; omega) (by omega) ?_); intro ao2 cap2 w2 hrow hb2 hf2)
    go_ret
    exact ⟨ao2, cap2, rfl, hrow, hf2, hb2⟩
theorem all_any {w : World} {g b : Nat} {ms : List Int} {hk : Value} (h : StoreIs w g b ms hk) : Calls Try.prog 49 #[.pointer (some ⟨g, 0, none⟩)] w fun e w' => ∃ ao' cap', e = .returned (.slice ao' ms.length cap') ∧ Row w' 3 1 (.slice ao' ms.length cap') ms.length (ms.map (.int .i64)) ∧ (∀ k, Value.ownBlock (.slice ao' ms.length cap') = some k → w.heap.size ≤ k) ∧ Below w.heap.size w w' := by
  have c0 := h.c0
  have hsrc := h.src
  have hl := h.2.1
  clear h
  go_enter Try.func49, Try.ntmps49
  go_wp2_with (first | (go_at_call 74; refine (clone_any hsrc hl).mono ?_; rintro e w1 ⟨ao2, cap2, rfl, hrow, hf2, hb2⟩))
  go_ret
  exact ⟨ao2, cap2, rfl, hrow, hf2, hb2⟩
end Go.Proofs.Ytooofpplhedgcaa
