/- The document's answer for a step: forebayref09.Do and Size. -/
import Derived.Test.YtpijgjalabocpaaStoreNone
import Derived.Lib.MinMax
set_option linter.unusedVariables false
set_option linter.unusedSimpArgs false
namespace Go.Proofs.Ytpijgjalabocpaa
open Go.RowKit
set_option maxHeartbeats 4000000
set_option maxRecDepth 100000
theorem refSize_any (n : Int) (w : World) : Calls Try.prog 24 #[.int .i64 n] w fun e w' => e = .returned (.int .i64 (min (max n 0) 1048576)) ∧ w = w' := by
  go_enter Try.func24, Try.ntmps24
  go_wp2
  go_ret
  exact ⟨rfl, rfl⟩
theorem getD_map {ms : List Int} {a : Nat} (ha : a < ms.length) : (ms.map (Value.int .i64))[a]? = some (.int .i64 (ms.getD a 0)) := by
  rw [List.getElem?_map, List.getElem?_eq_getElem ha, List.getD_eq_getElem?_getD, List.getElem?_eq_getElem ha]; rfl
theorem Own.rowset {w0 w : World} {l : List Ast} (h : Own w0 w l) (i : Nat) {e : TypeId} {size g off n c : Nat} {xs xs' : List Value} (hi : l[i]? = some (rowA e size (.slice (some ⟨g, off, none⟩) n c) n xs)) (j : Nat) (u : Value) (hx : xs.set j u = xs') : Own w0 (w.setCell ⟨g, off + j, none⟩ u) (l.set i (rowA e size (.slice (some ⟨g, off, none⟩) n c) n xs')) := by
  subst hx
  have := h.set i hi j u
  rwa [Addr.add_lit] at this
theorem wpList_append_copy' {P : Program} (w : World) {ops : Array Oper} {rest : List Oper} {o : Oper} {a : Act} {Q : Exit → Act → World → Prop}
    (hg : o.guard = none) (s x : Operand) (t : TypeId) (hop : o.op = Op.call { callee := Callee.builtin Builtin.append, args := #[s, x], argTypes := #[t, t] })
    (e : TypeId) (i : TypeInfo) (z : Value) (size bytes : Nat) (h1 : P.underlying t = some (.slice e)) (h2 : P.info? e = some i) (h3 : i.zero = some z) (h4 : i.size = size) (h5 : i.bytes = bytes) (h6 : z.cells.size = size) (h7 : 0 < size)
    (N : Nat) (hN : N = w.heap.size) (hs : a.eval s = .slice (some ⟨N, 0, none⟩) 0 0)
    (ao : Option Addr) (m c : Nat) (news : List Value) (hx : a.eval x = .slice ao m c) (hsrc : Src w ao m c size news) (h1c : ∀ u ∈ news, u.oneCell' = true)
    (b1 : m ≤ maxLen) (b2 : m * bytes ≤ 140737488355328)
    (hK : ∀ ao' cap' w', Row w' e size (.slice ao' m cap') m news → Below w.heap.size w w' → (∀ k, Value.ownBlock (.slice ao' m cap') = some k → w.heap.size ≤ k) → wpList P ops Q rest (a.put o.dst (.slice ao' m cap')) w') :
    wpList P ops Q (o :: rest) a (w.alloc (.cells #[] e)) := by
  subst hN
  exact wpList_append_copy w hg s x t hop e i z size bytes h1 h2 h3 h4 h5 h6 h7 hs ao m c news hx hsrc h1c b1 b2 hK
theorem fill_next {ms : List Int} {A M n : Int} {k : Nat} (hk : k < ms.length) (t : Bool) (h : t = true ↔ (0 ≤ A ∧ A ≤ k ∧ (k : Int) - A < M)) : fillL ms A M n (k + 1) = if t = true then (fillL ms A M n k).set k n else fillL ms A M n k := by
  by_cases c : t = true
  · rw [if_pos c, fillL_yes hk (h.1 c)]
  · rw [if_neg c, fillL_no (fun q => c (h.2 q))]
theorem map_set_i {ms : List Int} {k : Nat} {n : Int} : (ms.map (Value.int .i64)).set k (.int .i64 n) = (ms.set k n).map (.int .i64) := by rw [List.map_set]
/-- What a step of the document answers. -/
def RefDone (ms' : List Int) (x : Int) (t : Bool) (len : Nat) (w : World) (e : Ending) (w' : World) : Prop :=
  ∃ ao' cap', e = .returned (.tuple #[.slice ao' len cap', .int .i64 x, .bool t]) ∧ Row w' 3 1 (.slice ao' len cap') len (ms'.map (.int .i64)) ∧ (∀ k, Value.ownBlock (.slice ao' len cap') = some k → w.heap.size ≤ k) ∧ Below w.heap.size w w'
theorem refFill_any {ao : Option Addr} {cap : Nat} {ms : List Int} {w : World} (hsrc : Src w ao ms.length cap 1 (ms.map (.int .i64))) (hl : ms.length ≤ 1048576) (at_ n old : Int) (h0 : -9223372036854775808 ≤ at_ ∧ at_ ≤ 9223372036854775807) (h1 : -9223372036854775808 ≤ n ∧ n ≤ 9223372036854775807) :
    Calls Try.prog 25 #[.slice ao ms.length cap, .agg #[.int .i64 4, .int .i64 at_, .int .i64 n, .int .i64 old]] w (RefDone (fillL ms (fillA at_ n) (fillM at_ n) old ms.length) 0 true ms.length w) := by
  obtain ⟨i1, hi1, hw0, hw1', hw2'⟩ := info_parts' Try.infoIntS
  have hB : Own w (w.alloc (.cells #[.int .i64 4, .int .i64 at_, .int .i64 n, .int .i64 old] 46)) [cellsA w.heap.size #[.int .i64 4, .int .i64 at_, .int .i64 n, .int .i64 old] 46] := (Own.nil (Below.refl w.heap.size w)).box #[.int .i64 4, .int .i64 at_, .int .i64 n, .int .i64 old] 46
  have hsrc2 := hsrc.alloc (.cells #[.int .i64 4, .int .i64 at_, .int .i64 n, .int .i64 old] 46)
  have hcase := fill_case at_ n
  have hz := Lib.hid (fillL_zero ms (fillA at_ n) (fillM at_ n) old)
  have hnx := fun (k : Nat) (hk : k < ms.length) (t : Bool) h => fill_next (ms := ms) (A := fillA at_ n) (M := fillM at_ n) (n := old) hk t h
  have hlen := Lib.hid (fun k => fillL_length ms (fillA at_ n) (fillM at_ n) old k)
  generalize fillA at_ n = A at *
  generalize fillM at_ n = M at *
  replace hnx := Lib.hid hnx
  have hcase2 := Lib.hid hcase
  clear hcase hsrc
  go_enter Try.func25, Try.ntmps25
  go_wp2_with (at_builtin; go_must (refine wpList_append_copy' _ rfl _ _ 22 rfl 3 i1 (.int .i64 0) 1 8 Try.underlying22 hi1 hw0 hw1' hw2' rfl (by decide) _ (by simp) rfl ao ms.length cap (ms.map (Value.int .i64)) rfl hsrc2 (by simp [Value.oneCell']) (by unfold maxLen; omega) (by omega) ?_); intro ao2 cap2 w2 hrow hb2 hf2; have hO2 := hB.push hb2 (rowA 3 1 (.slice ao2 ms.length cap2) ms.length (ms.map (.int .i64))) hrow hf2; have c0 := (hO2.cget 0 rfl 0).1; simp at c0)
  generalize w.heap.size = bk at *
  go_loopw [8] (fun i wr => ∃ k : Nat, k ≤ ms.length ∧ i = .int .i64 k ∧ Own w wr [cellsA bk #[.int .i64 4, .int .i64 at_, .int .i64 n, .int .i64 old] 46, rowA 3 1 (.slice ao2 ms.length cap2) ms.length ((fillL ms A M old k).map (.int .i64))]) (fun i _ => (ms.length - intOf i).toNat)
  case atStart => exact ⟨0, by omega, rfl, by rw [hz.out]; exact hO2⟩
  case round =>
    clear hO2 c0 hz
    obtain ⟨k, hk, rfl, hO⟩ := hrel
    have c1 := (hO.cget 0 rfl 1).1
    have c2 := (hO.cget 0 rfl 2).1
    have c3 := (hO.cget 0 rfl 3).1
    simp at c1 c2 c3
    by_cases hlt : k < ms.length
    · obtain ⟨g3, off3, cap3, hv3, q1, q2, q3, q4⟩ := (hO.row 1 rfl).addr (by omega)
      simp only [Value.slice.injEq] at hv3
      obtain ⟨rfl, _, rfl⟩ := hv3
      have x0 := q3 k (by omega)
      have xf := q4 k (by omega)
      rw [List.getElem?_map, List.getElem?_eq_getElem (by rw [hlen.out]; exact hlt)] at x0
      simp only [Option.map_some] at x0
      obtain ⟨X0, hX0⟩ : ∃ X0, wr.cell? ⟨g3, off3 + k, none⟩ = some (.int .i64 X0) := ⟨_, x0⟩
      clear x0
      clear q3 q4
      have hY := Lib.hid (fun (q : 0 ≤ A ∧ A ≤ (k : Int) ∧ (k : Int) - A < M) => (hO.rowset 1 rfl k (.int .i64 old) rfl).cast (l' := [cellsA bk #[.int .i64 4, .int .i64 at_, .int .i64 n, .int .i64 old] 46, rowA 3 1 (.slice (some ⟨g3, off3, none⟩) ms.length cap2) ms.length ((fillL ms A M old (k + 1)).map (.int .i64))]) (by rw [map_set_i, show fillL ms A M old (k + 1) = (fillL ms A M old k).set k old from (hnx.out k hlt true (by simpa using q)).trans (if_pos rfl)]; rfl))
      have hN := Lib.hid (fun (q : ¬ (0 ≤ A ∧ A ≤ (k : Int) ∧ (k : Int) - A < M)) => hO.cast (l' := [cellsA bk #[.int .i64 4, .int .i64 at_, .int .i64 n, .int .i64 old] 46, rowA 3 1 (.slice (some ⟨g3, off3, none⟩) ms.length cap2) ms.length ((fillL ms A M old (k + 1)).map (.int .i64))]) (by rw [show fillL ms A M old (k + 1) = fillL ms A M old k from (hnx.out k hlt false (by simpa using q)).trans (if_neg (by simp))]))
      clear hnx
      by_cases hp : 0 ≤ at_
      · by_cases hp1 : at_ ≤ (k : Int)
        · by_cases hp2 : (k : Int) - at_ < n
          · go_wp2
            go_roundw
            case rel => exact ⟨k + 1, by omega, by go_num, hY.out (by have := hcase2.out; omega)⟩
            case measure => simp [intOf]; omega
          · have d0 : ¬ at_ < 0 := by omega
            go_wp2
            go_roundw
            case rel => exact ⟨k + 1, by omega, by go_num, hN.out (by have := hcase2.out; omega)⟩
            case measure => simp [intOf]; omega
        · have d0 : ¬ at_ < 0 := by omega
          go_wp2
          go_roundw
          case rel => exact ⟨k + 1, by omega, by go_num, hN.out (by have := hcase2.out; omega)⟩
          case measure => simp [intOf]; omega
      · by_cases hp1 : 0 < n
        · have hs : wrap64 (at_ + n) = at_ + n := IntWalk.wrap64_in _ (by omega)
          by_cases hp2 : (k : Int) < at_ + n
          · go_wp2
            go_roundw
            case rel => exact ⟨k + 1, by omega, by go_num, hY.out (by have := hcase2.out; omega)⟩
            case measure => simp [intOf]; omega
          · go_wp2
            go_roundw
            case rel => exact ⟨k + 1, by omega, by go_num, hN.out (by have := hcase2.out; omega)⟩
            case measure => simp [intOf]; omega
        · go_wp2
          go_roundw
          case rel => exact ⟨k + 1, by omega, by go_num, hN.out (by have := hcase2.out; omega)⟩
          case measure => simp [intOf]; omega
    · obtain rfl : k = ms.length := by omega
      have hE : RefDone (fillL ms A M old ms.length) 0 true ms.length w (.returned (.tuple #[.slice ao2 ms.length cap2, .int .i64 0, .bool true])) wr := ⟨ao2, cap2, rfl, hO.row 1 rfl, hO.own _ (List.mem_of_getElem? (i := 1) rfl), hO.below⟩
      replace hE := Lib.hid hE
      clear hlen hnx
      go_wp2
      exact bodyPost_ret (v := .tuple #[.slice ao2 ms.length cap2, .int .i64 0, .bool true]) (by simp [results, Try.results25, go_sem]) rfl hE.out
end Go.Proofs.Ytpijgjalabocpaa
