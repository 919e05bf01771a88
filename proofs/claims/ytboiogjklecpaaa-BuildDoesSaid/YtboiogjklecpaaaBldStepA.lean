/- Package build: a step of the document's, done on a builder. -/
import Derived.Test.YtboiogjklecpaaaBldEnd
set_option linter.unusedVariables false
set_option linter.unusedSimpArgs false
namespace Go.Proofs.Ytboiogjklecpaaa
open Go.RowKit
set_option maxRecDepth 100000
set_option maxHeartbeats 400000
theorem BOwn.grow {w0 w w' : World} {bb : Nat} {mem : Int} {B : List BF} {l : List Ast} (h : BOwn w0 w bb mem B l) (hb : Below w.heap.size w w') : BOwn w0 w' bb mem B l := by
  obtain ⟨lv, Ms, hM, hO⟩ := h
  exact ⟨lv, Ms, hM, hO.grow hb⟩
/-- There is none that began last, now and later. -/
def NoLasts (p : Value) (w : World) : Prop := ∀ w', Below w.heap.size w w' → NoLast p w'
theorem nolasts_nil (w : World) : NoLasts (.pointer none) w := fun w' _ => blast_nil w'
theorem BOwn.nolasts {w0 w : World} {bb : Nat} {mem : Int} {l : List Ast} (h : BOwn w0 w bb mem [] l) : NoLasts (.pointer (some ⟨bb, 0, none⟩)) w := fun w' hb => blast_none (h.grow hb)
theorem bgoto_none {p : Value} {w : World} (h : NoLasts p w) (nm : ByteArray) : Calls Try.prog 43 #[p, .string nm] w fun e w' => e = .returned (.tuple #[]) ∧ Below w.heap.size w w' := by
  have LA := Lib.hid (bleads_none (18, 0, 0, 0) nm (h (w.alloc (.cells #[.int .i64 18, .int .i64 0, .int .i64 0, .int .i64 0] 30)) (by go_grown)))
  clear h
  go_enter Try.func43, Try.ntmps43
  go_wp2_with (go_at_call 69; refine LA.out.mono ?_; rintro e w2 ⟨rfl, hB⟩; replace hB := Lib.hid hB)
  go_end0
  exact ⟨rfl, hB.out⟩
theorem bzero_none {p : Value} {w : World} (h : NoLasts p w) (reg : Int) (nm : ByteArray) : Calls Try.prog 49 #[p, .int .i64 reg, .string nm] w fun e w' => e = .returned (.tuple #[]) ∧ Below w.heap.size w w' := by
  have LA := Lib.hid (bleads_none (19, reg, 0, 0) nm (h (w.alloc (.cells #[.int .i64 19, .int .i64 reg, .int .i64 0, .int .i64 0] 30)) (by go_grown)))
  clear h
  go_enter Try.func49, Try.ntmps49
  go_wp2_with (go_at_call 69; refine LA.out.mono ?_; rintro e w2 ⟨rfl, hB⟩; replace hB := Lib.hid hB)
  go_end0
  exact ⟨rfl, hB.out⟩
theorem liesI_lit (w : World) (x : I4) : LiesI (w.alloc (.cells #[.int .i64 x.1, .int .i64 x.2.1, .int .i64 x.2.2.1, .int .i64 x.2.2.2] 30)) (some ⟨w.heap.size, 0, none⟩) 1 [x] :=
  Row.liesI (l := [x]) (Row.lit w 30 4 #[.int .i64 x.1, .int .i64 x.2.1, .int .i64 x.2.2.1, .int .i64 x.2.2.2] 1 (by simp [maxLen]) rfl)
theorem st_func {p : Value} {w : World} {reg : Int} {nm : ByteArray} {x : I4} {R : World → Prop} {v : Int} (h : Calls Try.prog 40 #[p] (w.alloc (.cells #[.int .i64 0, .int .i64 reg, .string nm, .int .i64 x.1, .int .i64 x.2.1, .int .i64 x.2.2.1, .int .i64 x.2.2.2] 68)) fun e w' => e = .returned (.int .i64 v) ∧ R w') :
    Calls Try.prog 47 #[p, .agg #[.int .i64 0, .int .i64 reg, .string nm, .int .i64 x.1, .int .i64 x.2.1, .int .i64 x.2.2.1, .int .i64 x.2.2.2]] w fun e w' => e = .returned (.int .i64 v) ∧ R w' := by
  have hbx := (Own.nil (Below.refl _ w)).box #[.int .i64 0, .int .i64 reg, .string nm, .int .i64 x.1, .int .i64 x.2.1, .int .i64 x.2.2.1, .int .i64 x.2.2.2] 68
  have c0 : (w.alloc (.cells #[.int .i64 0, .int .i64 reg, .string nm, .int .i64 x.1, .int .i64 x.2.1, .int .i64 x.2.2.1, .int .i64 x.2.2.2] 68)).cell? ⟨w.heap.size, 0, none⟩ = some (.int .i64 0) := (hbx.cget 0 rfl 0).1
  clear hbx
  replace h := Lib.hid h
  go_enter Try.func47, Try.ntmps47
  go_wp2_with (go_at_call 40; refine h.out.mono ?_; rintro e w2 ⟨rfl, hb⟩; replace hb := Lib.hid hb)
  go_ret
  exact ⟨rfl, hb.out⟩
theorem st_add {p : Value} {w : World} {reg : Int} {nm : ByteArray} {x : I4} {R : World → Prop} {v : Int} (h : Calls Try.prog 42 #[p, .slice (some ⟨w.heap.size + 1, 0, none⟩) 1 1] ((w.alloc (.cells #[.int .i64 1, .int .i64 reg, .string nm, .int .i64 x.1, .int .i64 x.2.1, .int .i64 x.2.2.1, .int .i64 x.2.2.2] 68)).alloc (.cells #[.int .i64 x.1, .int .i64 x.2.1, .int .i64 x.2.2.1, .int .i64 x.2.2.2] 30)) fun e w' => e = .returned (.int .i64 v) ∧ R w') :
    Calls Try.prog 47 #[p, .agg #[.int .i64 1, .int .i64 reg, .string nm, .int .i64 x.1, .int .i64 x.2.1, .int .i64 x.2.2.1, .int .i64 x.2.2.2]] w fun e w' => e = .returned (.int .i64 v) ∧ R w' := by
  have hbx := (Own.nil (Below.refl _ w)).box #[.int .i64 1, .int .i64 reg, .string nm, .int .i64 x.1, .int .i64 x.2.1, .int .i64 x.2.2.1, .int .i64 x.2.2.2] 68
  have c0 : (w.alloc (.cells #[.int .i64 1, .int .i64 reg, .string nm, .int .i64 x.1, .int .i64 x.2.1, .int .i64 x.2.2.1, .int .i64 x.2.2.2] 68)).cell? ⟨w.heap.size, 0, none⟩ = some (.int .i64 1) := (hbx.cget 0 rfl 0).1
  have c3 : (w.alloc (.cells #[.int .i64 1, .int .i64 reg, .string nm, .int .i64 x.1, .int .i64 x.2.1, .int .i64 x.2.2.1, .int .i64 x.2.2.2] 68)).cell? ⟨w.heap.size, 3, none⟩ = some (.int .i64 x.1) := (hbx.cget 0 rfl 3).1
  have c4 : (w.alloc (.cells #[.int .i64 1, .int .i64 reg, .string nm, .int .i64 x.1, .int .i64 x.2.1, .int .i64 x.2.2.1, .int .i64 x.2.2.2] 68)).cell? ⟨w.heap.size, 4, none⟩ = some (.int .i64 x.2.1) := (hbx.cget 0 rfl 4).1
  have c5 : (w.alloc (.cells #[.int .i64 1, .int .i64 reg, .string nm, .int .i64 x.1, .int .i64 x.2.1, .int .i64 x.2.2.1, .int .i64 x.2.2.2] 68)).cell? ⟨w.heap.size, 5, none⟩ = some (.int .i64 x.2.2.1) := (hbx.cget 0 rfl 5).1
  have c6 : (w.alloc (.cells #[.int .i64 1, .int .i64 reg, .string nm, .int .i64 x.1, .int .i64 x.2.1, .int .i64 x.2.2.1, .int .i64 x.2.2.2] 68)).cell? ⟨w.heap.size, 6, none⟩ = some (.int .i64 x.2.2.2) := (hbx.cget 0 rfl 6).1
  clear hbx
  replace h := Lib.hid h
  go_enter Try.func47, Try.ntmps47
  go_wp2_with (go_at_call 42; refine h.out.mono ?_; rintro e w2 ⟨rfl, hb⟩; replace hb := Lib.hid hb)
  go_ret
  exact ⟨rfl, hb.out⟩
theorem st_label {p : Value} {w : World} {reg : Int} {nm : ByteArray} {x : I4} {R : World → Prop} (h : Calls Try.prog 41 #[p, .string nm] (w.alloc (.cells #[.int .i64 2, .int .i64 reg, .string nm, .int .i64 x.1, .int .i64 x.2.1, .int .i64 x.2.2.1, .int .i64 x.2.2.2] 68)) fun e w' => e = .returned (.int .i64 0) ∧ R w') :
    Calls Try.prog 47 #[p, .agg #[.int .i64 2, .int .i64 reg, .string nm, .int .i64 x.1, .int .i64 x.2.1, .int .i64 x.2.2.1, .int .i64 x.2.2.2]] w fun e w' => e = .returned (.int .i64 (-2)) ∧ R w' := by
  have hbx := (Own.nil (Below.refl _ w)).box #[.int .i64 2, .int .i64 reg, .string nm, .int .i64 x.1, .int .i64 x.2.1, .int .i64 x.2.2.1, .int .i64 x.2.2.2] 68
  have c0 : (w.alloc (.cells #[.int .i64 2, .int .i64 reg, .string nm, .int .i64 x.1, .int .i64 x.2.1, .int .i64 x.2.2.1, .int .i64 x.2.2.2] 68)).cell? ⟨w.heap.size, 0, none⟩ = some (.int .i64 2) := (hbx.cget 0 rfl 0).1
  have c2 : (w.alloc (.cells #[.int .i64 2, .int .i64 reg, .string nm, .int .i64 x.1, .int .i64 x.2.1, .int .i64 x.2.2.1, .int .i64 x.2.2.2] 68)).cell? ⟨w.heap.size, 2, none⟩ = some (.string nm) := (hbx.cget 0 rfl 2).1
  clear hbx
  replace h := Lib.hid h
  go_enter Try.func47, Try.ntmps47
  go_wp2_with (go_at_call 41; refine h.out.mono ?_; rintro e w2 ⟨rfl, hb⟩; replace hb := Lib.hid hb)
  go_ret
  exact ⟨rfl, hb.out⟩
theorem st_twice {p : Value} {w : World} {reg : Int} {nm : ByteArray} {x : I4} {R : World → Prop} (h : Calls Try.prog 41 #[p, .string nm] (w.alloc (.cells #[.int .i64 2, .int .i64 reg, .string nm, .int .i64 x.1, .int .i64 x.2.1, .int .i64 x.2.2.1, .int .i64 x.2.2.2] 68)) fun e w' => e = .returned (.int .i64 10) ∧ R w') :
    Calls Try.prog 47 #[p, .agg #[.int .i64 2, .int .i64 reg, .string nm, .int .i64 x.1, .int .i64 x.2.1, .int .i64 x.2.2.1, .int .i64 x.2.2.2]] w fun e w' => e = .returned (.int .i64 (-3)) ∧ R w' := by
  have hbx := (Own.nil (Below.refl _ w)).box #[.int .i64 2, .int .i64 reg, .string nm, .int .i64 x.1, .int .i64 x.2.1, .int .i64 x.2.2.1, .int .i64 x.2.2.2] 68
  have c0 : (w.alloc (.cells #[.int .i64 2, .int .i64 reg, .string nm, .int .i64 x.1, .int .i64 x.2.1, .int .i64 x.2.2.1, .int .i64 x.2.2.2] 68)).cell? ⟨w.heap.size, 0, none⟩ = some (.int .i64 2) := (hbx.cget 0 rfl 0).1
  have c2 : (w.alloc (.cells #[.int .i64 2, .int .i64 reg, .string nm, .int .i64 x.1, .int .i64 x.2.1, .int .i64 x.2.2.1, .int .i64 x.2.2.2] 68)).cell? ⟨w.heap.size, 2, none⟩ = some (.string nm) := (hbx.cget 0 rfl 2).1
  clear hbx
  replace h := Lib.hid h
  go_enter Try.func47, Try.ntmps47
  go_wp2_with (go_at_call 41; refine h.out.mono ?_; rintro e w2 ⟨rfl, hb⟩; replace hb := Lib.hid hb)
  go_ret
  exact ⟨rfl, hb.out⟩
theorem st_state {p : Value} {w : World} {reg : Int} {nm : ByteArray} {x : I4} {R : World → Prop} (h : Calls Try.prog 41 #[p, .string nm] (w.alloc (.cells #[.int .i64 2, .int .i64 reg, .string nm, .int .i64 x.1, .int .i64 x.2.1, .int .i64 x.2.2.1, .int .i64 x.2.2.2] 68)) fun e w' => e = .returned (.int .i64 8) ∧ R w') :
    Calls Try.prog 47 #[p, .agg #[.int .i64 2, .int .i64 reg, .string nm, .int .i64 x.1, .int .i64 x.2.1, .int .i64 x.2.2.1, .int .i64 x.2.2.2]] w fun e w' => e = .returned (.int .i64 (-4)) ∧ R w' := by
  have hbx := (Own.nil (Below.refl _ w)).box #[.int .i64 2, .int .i64 reg, .string nm, .int .i64 x.1, .int .i64 x.2.1, .int .i64 x.2.2.1, .int .i64 x.2.2.2] 68
  have c0 : (w.alloc (.cells #[.int .i64 2, .int .i64 reg, .string nm, .int .i64 x.1, .int .i64 x.2.1, .int .i64 x.2.2.1, .int .i64 x.2.2.2] 68)).cell? ⟨w.heap.size, 0, none⟩ = some (.int .i64 2) := (hbx.cget 0 rfl 0).1
  have c2 : (w.alloc (.cells #[.int .i64 2, .int .i64 reg, .string nm, .int .i64 x.1, .int .i64 x.2.1, .int .i64 x.2.2.1, .int .i64 x.2.2.2] 68)).cell? ⟨w.heap.size, 2, none⟩ = some (.string nm) := (hbx.cget 0 rfl 2).1
  clear hbx
  replace h := Lib.hid h
  go_enter Try.func47, Try.ntmps47
  go_wp2_with (go_at_call 41; refine h.out.mono ?_; rintro e w2 ⟨rfl, hb⟩; replace hb := Lib.hid hb)
  go_ret
  exact ⟨rfl, hb.out⟩
theorem st_goto {p : Value} {w : World} {reg : Int} {nm : ByteArray} {x : I4} {R : World → Prop} (h : Calls Try.prog 43 #[p, .string nm] (w.alloc (.cells #[.int .i64 3, .int .i64 reg, .string nm, .int .i64 x.1, .int .i64 x.2.1, .int .i64 x.2.2.1, .int .i64 x.2.2.2] 68)) fun e w' => e = .returned (.tuple #[]) ∧ R w') :
    Calls Try.prog 47 #[p, .agg #[.int .i64 3, .int .i64 reg, .string nm, .int .i64 x.1, .int .i64 x.2.1, .int .i64 x.2.2.1, .int .i64 x.2.2.2]] w fun e w' => e = .returned (.int .i64 0) ∧ R w' := by
  have hbx := (Own.nil (Below.refl _ w)).box #[.int .i64 3, .int .i64 reg, .string nm, .int .i64 x.1, .int .i64 x.2.1, .int .i64 x.2.2.1, .int .i64 x.2.2.2] 68
  have c0 : (w.alloc (.cells #[.int .i64 3, .int .i64 reg, .string nm, .int .i64 x.1, .int .i64 x.2.1, .int .i64 x.2.2.1, .int .i64 x.2.2.2] 68)).cell? ⟨w.heap.size, 0, none⟩ = some (.int .i64 3) := (hbx.cget 0 rfl 0).1
  have c2 : (w.alloc (.cells #[.int .i64 3, .int .i64 reg, .string nm, .int .i64 x.1, .int .i64 x.2.1, .int .i64 x.2.2.1, .int .i64 x.2.2.2] 68)).cell? ⟨w.heap.size, 2, none⟩ = some (.string nm) := (hbx.cget 0 rfl 2).1
  clear hbx
  replace h := Lib.hid h
  go_enter Try.func47, Try.ntmps47
  go_wp2_with (go_at_call 43; refine h.out.mono ?_; rintro e w2 ⟨rfl, hb⟩; replace hb := Lib.hid hb)
  go_ret
  exact ⟨rfl, hb.out⟩
theorem st_zero {p : Value} {w : World} {reg : Int} {nm : ByteArray} {x : I4} {R : World → Prop} (h : Calls Try.prog 49 #[p, .int .i64 reg, .string nm] (w.alloc (.cells #[.int .i64 4, .int .i64 reg, .string nm, .int .i64 x.1, .int .i64 x.2.1, .int .i64 x.2.2.1, .int .i64 x.2.2.2] 68)) fun e w' => e = .returned (.tuple #[]) ∧ R w') :
    Calls Try.prog 47 #[p, .agg #[.int .i64 4, .int .i64 reg, .string nm, .int .i64 x.1, .int .i64 x.2.1, .int .i64 x.2.2.1, .int .i64 x.2.2.2]] w fun e w' => e = .returned (.int .i64 0) ∧ R w' := by
  have hbx := (Own.nil (Below.refl _ w)).box #[.int .i64 4, .int .i64 reg, .string nm, .int .i64 x.1, .int .i64 x.2.1, .int .i64 x.2.2.1, .int .i64 x.2.2.2] 68
  have c0 : (w.alloc (.cells #[.int .i64 4, .int .i64 reg, .string nm, .int .i64 x.1, .int .i64 x.2.1, .int .i64 x.2.2.1, .int .i64 x.2.2.2] 68)).cell? ⟨w.heap.size, 0, none⟩ = some (.int .i64 4) := (hbx.cget 0 rfl 0).1
  have c1 : (w.alloc (.cells #[.int .i64 4, .int .i64 reg, .string nm, .int .i64 x.1, .int .i64 x.2.1, .int .i64 x.2.2.1, .int .i64 x.2.2.2] 68)).cell? ⟨w.heap.size, 1, none⟩ = some (.int .i64 reg) := (hbx.cget 0 rfl 1).1
  have c2 : (w.alloc (.cells #[.int .i64 4, .int .i64 reg, .string nm, .int .i64 x.1, .int .i64 x.2.1, .int .i64 x.2.2.1, .int .i64 x.2.2.2] 68)).cell? ⟨w.heap.size, 2, none⟩ = some (.string nm) := (hbx.cget 0 rfl 2).1
  clear hbx
  replace h := Lib.hid h
  go_enter Try.func47, Try.ntmps47
  go_wp2_with (go_at_call 49; refine h.out.mono ?_; rintro e w2 ⟨rfl, hb⟩; replace hb := Lib.hid hb)
  go_ret
  exact ⟨rfl, hb.out⟩
end Go.Proofs.Ytboiogjklecpaaa
