/- Strings and bytes: what the two conversions give, as rows. No program in sight. -/
import Derived.Test.YtboiogjklecpaaaRow
set_option linter.unusedVariables false
set_option linter.unusedSimpArgs false
namespace Go.Proofs.Ytboiogjklecpaaa
open Go.RowKit

/-- Bytes as cells. -/
def bytesV (l : List UInt8) : List Value := l.map fun b => .int .u8 (b.toNat : Int)
theorem bytesV_append (a b : List UInt8) : bytesV (a ++ b) = bytesV a ++ bytesV b := by simp [bytesV]
theorem bytesV_length (a : List UInt8) : (bytesV a).length = a.length := by simp [bytesV]
theorem str_of (s : ByteArray) : ∃ l : List UInt8, s = ⟨l.toArray⟩ := ⟨s.data.toList, by cases s; simp⟩

theorem heap_new (w : World) (o : Obj) : (w.alloc o).heap[w.heap.size]? = some o := by show (w.heap.push _)[_]? = _; simp

/-- []byte(s) -/
theorem wpList_bytes_row {P : Program} (w : World) {ops : Array Oper} {rest : List Oper} {o : Oper} {a : Act} {Q : Exit → Act → World → Prop}
    (hg : o.guard = none) (src dst : TypeId) (x : Operand) (hop : o.op = Op.convert src dst x) (e : TypeId) (hs : P.underlying src = some .string) (hd : P.underlying dst = some (.slice e)) (he : P.underlying e = some (.int .u8))
    (l : List UInt8) (hx : a.eval x = .string ⟨l.toArray⟩) (hl : l.length ≤ maxLen)
    (hK : ∀ v' w', Row w' e 1 v' l.length (bytesV l) → Below w.heap.size w w' → (∀ k, v'.ownBlock = some k → w.heap.size ≤ k) → wpList P ops Q rest (a.put o.dst v') w') :
    wpList P ops Q (o :: rest) a w := by
  refine wpList_plain hg fun K hK' => ?_
  have hrun := run_bytes_of_string (P := P) w src dst e ⟨l.toArray⟩ hs hd he
  unfold Oper.wp
  simp [execOp, hop, hx, hrun, Result.andThen]
  refine hK' _ _ (hK _ _ ?_ ((Below.refl _ _).drew.alloc (Nat.le_refl _) _) (fun k hk => by simp [Value.ownBlock] at hk; omega))
  have hsz : (ByteArray.mk l.toArray).size = l.length := by simp [ByteArray.size]
  have hge := grownCap_ge w l.length 0 e
  rw [hsz]
  have hcs : (bytesRow ⟨l.toArray⟩ (grownCap w l.length 0 e)).size = grownCap w l.length 0 e := by simp [bytesRow, hsz]; omega
  refine ⟨by simp [bytesV], .inr ⟨w.heap.size, 0, _, _, _, rfl, heap_new w.drew _, hge, grownCap_le_maxLen w _ _ _ hl, ?_, ?_, fun j hj => ?_⟩⟩
  · rw [hcs]; omega
  · intro j hj; rw [hcs]; omega
  · have hj' : j < l.length := by omega
    simp [bytesRow, bytesV, Array.getElem?_append, hj']

/-- string(b) -/
theorem wpList_string_row {P : Program} (w : World) {ops : Array Oper} {rest : List Oper} {o : Oper} {a : Act} {Q : Exit → Act → World → Prop}
    (hg : o.guard = none) (src dst : TypeId) (x : Operand) (hop : o.op = Op.convert src dst x) (e : TypeId) (hs : P.underlying src = some (.slice e)) (he : P.underlying e = some (.int .u8)) (hd : P.underlying dst = some .string)
    (v : Value) (l : List UInt8) (hx : a.eval x = v) (hrow : Row w e 1 v l.length (bytesV l))
    (hK : wpList P ops Q rest (a.put o.dst (.string ⟨l.toArray⟩)) w) :
    wpList P ops Q (o :: rest) a w := by
  refine wpList_plain hg fun K hK' => ?_
  obtain ⟨ao, cap, rfl, _, _, hno⟩ := hrow.shape
  have hrun : (convert src dst (.slice ao l.length cap)).run P w = .ok (.string ⟨l.toArray⟩) w := by
    cases ao with
    | none =>
      obtain ⟨h0, rfl⟩ := hno rfl
      obtain rfl : l = [] := List.eq_nil_of_length_eq_zero h0
      have h1 := run_convert_bytes_string (P := P) w src dst e none 0 0 hs he hd
      rw [show ([] : List UInt8).length = 0 from rfl, h1]
      simp [Conv.bytesToString]
      rfl
    | some ad =>
      refine run_convert_bytes_back (P := P) w src dst e ad cap l hs he hd fun j hj => hrow.cells ad rfl j _ ?_
      simp [bytesV, hj]
  unfold Oper.wp
  simp [execOp, hop, hx, hrun, Result.andThen]
  exact hK' _ _ hK

/-- string([]byte{..}) -/
theorem wpList_string_lit {P : Program} (w : World) {ops : Array Oper} {rest : List Oper} {o : Oper} {a : Act} {Q : Exit → Act → World → Prop}
    (hg : o.guard = none) (src dst : TypeId) (x : Operand) (hop : o.op = Op.convert src dst x) (e : TypeId) (hs : P.underlying src = some (.slice e)) (he : P.underlying e = some (.int .u8)) (hd : P.underlying dst = some .string)
    (cs : Array Value) (l : List UInt8) (hx : a.eval x = .slice (some ⟨w.heap.size, 0, none⟩) l.length l.length) (hl : l.length ≤ maxLen) (hcs : cs.toList = bytesV l)
    (hK : wpList P ops Q rest (a.put o.dst (.string ⟨l.toArray⟩)) (w.alloc (.cells cs e))) :
    wpList P ops Q (o :: rest) a (w.alloc (.cells cs e)) := by
  refine wpList_string_row _ hg src dst x hop e hs he hd _ l hx ?_ hK
  have h1 : cs.size = l.length * 1 := by have := congrArg List.length hcs; simpa [bytesV] using this
  exact (Row.lit w e 1 cs l.length hl h1).cast rfl hcs
end Go.Proofs.Ytboiogjklecpaaa
