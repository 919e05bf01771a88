/- CrossDoes: the switch: what it leaves. -/
import Derived.Test.YtooofpplhedgcaaCrMem
import Derived.Test.YtooofpplhedgcaaPair
import Derived.Deep.Cut
import Derived.Deep.CutRange
import Derived.Deep.CutBlock
set_option linter.unusedVariables false
set_option linter.unusedSimpArgs false
namespace Go.Proofs.Ytooofpplhedgcaa
open Go.RowKit
set_option maxRecDepth 1000000
set_option maxHeartbeats 8000000
/-- A block of a function's code, by its number. -/
def blockNo (n : Nat) : Code → Option Code
  | .block k c => if k = n then some (.block k c) else blockNo n c
  | .seq a b => match blockNo n a with
    | some c => some c
    | none => blockNo n b
  | .cond _ a b => match blockNo n a with
    | some c => some c
    | none => blockNo n b
  | .loop c => blockNo n c
  | .scope c => blockNo n c
  | _ => none
noncomputable def SW19 : Code := ((Try.f8.body.bind (blockNo 2)).getD .skip)
/-- What the switch leaves. -/
def SwOut (w w' : World) (g sb pb qb rb kb fb K : Nat) (Rv Pv : Nat → Value) (F : Nat → Nat → Value) (ex : List Ast) (mv : Value) : Prop :=
  ∃ (mo' : Option Addr) (mc' : Nat) (m' : List Int) (Rv' Pv' : Nat → Value) (F' : Nat → Nat → Value) (A : Ast), mv = .slice mo' 61 mc' ∧ m'.length = 61 ∧ (∀ i, i ≠ K → Rv' i = Rv i) ∧ (∀ i, i ≠ K → Pv' i = Pv i) ∧ (∀ i, i ≠ K → F' i = F i) ∧ CWD (Rv' K) (Pv' K) A (F' K) ∧ Own w w' (storeA g sb m' :: A :: CB pb qb rb kb fb Rv' Pv' F' (.slice mo' 61 mc') m' ex)
theorem oc19 {w : World} {g sb pb qb rb kb fb ob xb : Nat} {ex : List Ast} {kd who se it n : Int} (hOB : (cellsA ob #[.int .i64 kd, .int .i64 who, .int .i64 se, .int .i64 it, .int .i64 n] 72) ∈ ex) (hXB : (cellsA xb #[.int .i64 1, .int .i64 3, .int .i64 3, .int .i64 3, .int .i64 2, .int .i64 se] 32) ∈ ex) (w1 : World) (m1 m2 : List Int) (A : Ast) (Rv1 Pv1 : Nat → Value) (F1 : Nat → Nat → Value) (mv : Value) (l : List Ast) (h : Own w w1 (storeA g sb m1 :: A :: CB pb qb rb kb fb Rv1 Pv1 F1 mv m2 (ex ++ l))) : (w1.cell? ⟨ob, 0, none⟩ = some (.int .i64 kd) ∧ w1.cell? ⟨ob, 2, none⟩ = some (.int .i64 se) ∧ w1.cell? ⟨ob, 3, none⟩ = some (.int .i64 it) ∧ w1.cell? ⟨ob, 4, none⟩ = some (.int .i64 n)) ∧ (w1.cell? ⟨xb, 0, none⟩ = some (.int .i64 1) ∧ w1.cell? ⟨xb, 1, none⟩ = some (.int .i64 3) ∧ w1.cell? ⟨xb, 2, none⟩ = some (.int .i64 3) ∧ w1.cell? ⟨xb, 3, none⟩ = some (.int .i64 3) ∧ w1.cell? ⟨xb, 4, none⟩ = some (.int .i64 2) ∧ w1.cell? ⟨xb, 5, none⟩ = some (.int .i64 se)) :=
  ⟨⟨CB.get h (List.mem_append_left _ hOB) 0, CB.get h (List.mem_append_left _ hOB) 2, CB.get h (List.mem_append_left _ hOB) 3, CB.get h (List.mem_append_left _ hOB) 4⟩, CB.get h (List.mem_append_left _ hXB) 0, CB.get h (List.mem_append_left _ hXB) 1, CB.get h (List.mem_append_left _ hXB) 2, CB.get h (List.mem_append_left _ hXB) 3, CB.get h (List.mem_append_left _ hXB) 4, CB.get h (List.mem_append_left _ hXB) 5⟩
end Go.Proofs.Ytooofpplhedgcaa
