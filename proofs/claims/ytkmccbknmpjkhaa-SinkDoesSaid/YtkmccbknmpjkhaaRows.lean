/-
  No cell of these rows narrows 'for every input' (looked for: loops, veiled, ifaces, maps, wideKeys, modest, calm, conditions, laid).
  DERIVED. THE GIVEN ROWS OF THIS SEAT. 9 by the template 'for every input the law returns true; each argument reads behind the call as it read before'; 0 by the template 'total and deterministic' (their statements: YtkmccbknmpjkhaaTotals.lean).
  GIVEN WITH THE SEED: the statements are not yours to turn. If you find one false, say at which input.
  Laid BY PROGRAM, IN A SANDBOX (cutbox-rows.mjs): the forced cells as the released guide's own fill.sh prints them over the translation d7353456f5d7c3b9… (all of the seat's roots in one cut). By AI agents, Wed Nov 11 2026. No macro, syntax, notation, axiom, sorry.
-/
import Derived.Test.YtkmccbknmpjkhaaChecked
import GoSem.Claim
import GoSem.ClaimJoined
import GoSem.ClaimMapViews
import Derived.JoinedTies
import Derived.KernelRfl
namespace Go.Proofs.Ytkmccbknmpjkhaa
/- THE CELL 'sum', in the pinned program and in every row, IS THE sha256 OF THE DUMP (.gsa) THAT YtkmccbknmpjkhaaProg.lean LOADS. Nothing in Lean hashes anything: it is a label: what it is worth is what the hold of that sum in a sandbox is worth. -/
noncomputable def Try.pinned : Pinned := { name := "ytkmccbknmpjkhaa", sum := "d7353456f5d7c3b9061517f431a489f3dac9db901cc6c9f054c614f3d5277e75", checked := Try.checked }
namespace Rows
def none {H : Type} : Left H := { results := [], args := [] }

/-- 'forebaylaw02.BitsReads': WHATEVER THE INPUT: true; the input reads as it did. -/
def bitsReadsSpec : ChangeSpec := { name := "bitsReads", fn := fun _ => fun
  | [d1, d2] => { results := [.lit (.bool true)], args := [d1, d2] }
  | _ => none }
def bitsReadsRow : OpenClaim := { program := "ytkmccbknmpjkhaa", sum := "d7353456f5d7c3b9061517f431a489f3dac9db901cc6c9f054c614f3d5277e75", func := "forebay/forebaylaw02.BitsReads", spec := "bitsReads", apart := false }
def BitsReadsSaid : Prop := bitsReadsRow.holds Try.pinned (OpenSpec.ofChange bitsReadsSpec)

/-- ITS FALSE NEIGHBOUR: 'it returns false'. Refute it at one input. -/
def bitsReadsWrong : ChangeSpec := { name := "bitsReads", fn := fun _ => fun
  | [d1, d2] => { results := [.lit (.bool false)], args := [d1, d2] }
  | _ => none }
def BitsReadsWrongFalsely : Prop := bitsReadsRow.holds Try.pinned (OpenSpec.ofChange bitsReadsWrong)

/-- 'forebaylaw02.BitsTells': WHATEVER THE INPUT: true; the input reads as it did. -/
def bitsTellsSpec : ChangeSpec := { name := "bitsTells", fn := fun _ => fun
  | [d1, d2, d3] => { results := [.lit (.bool true)], args := [d1, d2, d3] }
  | _ => none }
def bitsTellsRow : OpenClaim := { program := "ytkmccbknmpjkhaa", sum := "d7353456f5d7c3b9061517f431a489f3dac9db901cc6c9f054c614f3d5277e75", func := "forebay/forebaylaw02.BitsTells", spec := "bitsTells", apart := false }
def BitsTellsSaid : Prop := bitsTellsRow.holds Try.pinned (OpenSpec.ofChange bitsTellsSpec)

/-- ITS FALSE NEIGHBOUR: 'it returns false'. Refute it at one input. -/
def bitsTellsWrong : ChangeSpec := { name := "bitsTells", fn := fun _ => fun
  | [d1, d2, d3] => { results := [.lit (.bool false)], args := [d1, d2, d3] }
  | _ => none }
def BitsTellsWrongFalsely : Prop := bitsTellsRow.holds Try.pinned (OpenSpec.ofChange bitsTellsWrong)

/-- 'forebaylaw02.BitsBack': WHATEVER THE INPUT: true; the input reads as it did. -/
def bitsBackSpec : ChangeSpec := { name := "bitsBack", fn := fun _ => fun
  | [d1, d2, d3] => { results := [.lit (.bool true)], args := [d1, d2, d3] }
  | _ => none }
def bitsBackRow : OpenClaim := { program := "ytkmccbknmpjkhaa", sum := "d7353456f5d7c3b9061517f431a489f3dac9db901cc6c9f054c614f3d5277e75", func := "forebay/forebaylaw02.BitsBack", spec := "bitsBack", apart := false }
def BitsBackSaid : Prop := bitsBackRow.holds Try.pinned (OpenSpec.ofChange bitsBackSpec)

/-- ITS FALSE NEIGHBOUR: 'it returns false'. Refute it at one input. -/
def bitsBackWrong : ChangeSpec := { name := "bitsBack", fn := fun _ => fun
  | [d1, d2, d3] => { results := [.lit (.bool false)], args := [d1, d2, d3] }
  | _ => none }
def BitsBackWrongFalsely : Prop := bitsBackRow.holds Try.pinned (OpenSpec.ofChange bitsBackWrong)

/-- 'forebaylaw02.BitsOrder': WHATEVER THE INPUT: true; the input reads as it did. -/
def bitsOrderSpec : ChangeSpec := { name := "bitsOrder", fn := fun _ => fun
  | [d1, d2] => { results := [.lit (.bool true)], args := [d1, d2] }
  | _ => none }
def bitsOrderRow : OpenClaim := { program := "ytkmccbknmpjkhaa", sum := "d7353456f5d7c3b9061517f431a489f3dac9db901cc6c9f054c614f3d5277e75", func := "forebay/forebaylaw02.BitsOrder", spec := "bitsOrder", apart := false }
def BitsOrderSaid : Prop := bitsOrderRow.holds Try.pinned (OpenSpec.ofChange bitsOrderSpec)

/-- ITS FALSE NEIGHBOUR: 'it returns false'. Refute it at one input. -/
def bitsOrderWrong : ChangeSpec := { name := "bitsOrder", fn := fun _ => fun
  | [d1, d2] => { results := [.lit (.bool false)], args := [d1, d2] }
  | _ => none }
def BitsOrderWrongFalsely : Prop := bitsOrderRow.holds Try.pinned (OpenSpec.ofChange bitsOrderWrong)

/-- 'forebaylaw35.BoundNumbers': WHATEVER THE INPUT: true; the input reads as it did. -/
def boundNumbersSpec : ChangeSpec := { name := "boundNumbers", fn := fun _ => fun
  | [d1, d2, d3, d4, d5, d6] => { results := [.lit (.bool true)], args := [d1, d2, d3, d4, d5, d6] }
  | _ => none }
def boundNumbersRow : OpenClaim := { program := "ytkmccbknmpjkhaa", sum := "d7353456f5d7c3b9061517f431a489f3dac9db901cc6c9f054c614f3d5277e75", func := "forebay/forebaylaw35.BoundNumbers", spec := "boundNumbers", apart := false }
def BoundNumbersSaid : Prop := boundNumbersRow.holds Try.pinned (OpenSpec.ofChange boundNumbersSpec)

/-- ITS FALSE NEIGHBOUR: 'it returns false'. Refute it at one input. -/
def boundNumbersWrong : ChangeSpec := { name := "boundNumbers", fn := fun _ => fun
  | [d1, d2, d3, d4, d5, d6] => { results := [.lit (.bool false)], args := [d1, d2, d3, d4, d5, d6] }
  | _ => none }
def BoundNumbersWrongFalsely : Prop := boundNumbersRow.holds Try.pinned (OpenSpec.ofChange boundNumbersWrong)

/-- 'forebaylaw35.BoundMore': WHATEVER THE INPUT: true; the input reads as it did. -/
def boundMoreSpec : ChangeSpec := { name := "boundMore", fn := fun _ => fun
  | [d1, d2, d3] => { results := [.lit (.bool true)], args := [d1, d2, d3] }
  | _ => none }
def boundMoreRow : OpenClaim := { program := "ytkmccbknmpjkhaa", sum := "d7353456f5d7c3b9061517f431a489f3dac9db901cc6c9f054c614f3d5277e75", func := "forebay/forebaylaw35.BoundMore", spec := "boundMore", apart := false }
def BoundMoreSaid : Prop := boundMoreRow.holds Try.pinned (OpenSpec.ofChange boundMoreSpec)

/-- ITS FALSE NEIGHBOUR: 'it returns false'. Refute it at one input. -/
def boundMoreWrong : ChangeSpec := { name := "boundMore", fn := fun _ => fun
  | [d1, d2, d3] => { results := [.lit (.bool false)], args := [d1, d2, d3] }
  | _ => none }
def BoundMoreWrongFalsely : Prop := boundMoreRow.holds Try.pinned (OpenSpec.ofChange boundMoreWrong)

/-- 'forebaylaw22.SinkDiffers': WHATEVER THE INPUT: true; the input reads as it did. -/
def sinkDiffersSpec : ChangeSpec := { name := "sinkDiffers", fn := fun _ => fun
  | [d1, d2] => { results := [.lit (.bool true)], args := [d1, d2] }
  | _ => none }
def sinkDiffersRow : OpenClaim := { program := "ytkmccbknmpjkhaa", sum := "d7353456f5d7c3b9061517f431a489f3dac9db901cc6c9f054c614f3d5277e75", func := "forebay/forebaylaw22.SinkDiffers", spec := "sinkDiffers", apart := false }
def SinkDiffersSaid : Prop := sinkDiffersRow.holds Try.pinned (OpenSpec.ofChange sinkDiffersSpec)

/-- ITS FALSE NEIGHBOUR: 'it returns false'. Refute it at one input. -/
def sinkDiffersWrong : ChangeSpec := { name := "sinkDiffers", fn := fun _ => fun
  | [d1, d2] => { results := [.lit (.bool false)], args := [d1, d2] }
  | _ => none }
def SinkDiffersWrongFalsely : Prop := sinkDiffersRow.holds Try.pinned (OpenSpec.ofChange sinkDiffersWrong)

/-- 'forebaylaw22.SinkOrder': WHATEVER THE INPUT: true; the input reads as it did. -/
def sinkOrderSpec : ChangeSpec := { name := "sinkOrder", fn := fun _ => fun
  | [d1, d2, d3] => { results := [.lit (.bool true)], args := [d1, d2, d3] }
  | _ => none }
def sinkOrderRow : OpenClaim := { program := "ytkmccbknmpjkhaa", sum := "d7353456f5d7c3b9061517f431a489f3dac9db901cc6c9f054c614f3d5277e75", func := "forebay/forebaylaw22.SinkOrder", spec := "sinkOrder", apart := false }
def SinkOrderSaid : Prop := sinkOrderRow.holds Try.pinned (OpenSpec.ofChange sinkOrderSpec)

/-- ITS FALSE NEIGHBOUR: 'it returns false'. Refute it at one input. -/
def sinkOrderWrong : ChangeSpec := { name := "sinkOrder", fn := fun _ => fun
  | [d1, d2, d3] => { results := [.lit (.bool false)], args := [d1, d2, d3] }
  | _ => none }
def SinkOrderWrongFalsely : Prop := sinkOrderRow.holds Try.pinned (OpenSpec.ofChange sinkOrderWrong)

/-- 'forebaylaw22.SinkDoes': WHATEVER THE INPUT: true; the input reads as it did. -/
def sinkDoesSpec : ChangeSpec := { name := "sinkDoes", fn := fun _ => fun
  | [d1, d2] => { results := [.lit (.bool true)], args := [d1, d2] }
  | _ => none }
def sinkDoesRow : OpenClaim := { program := "ytkmccbknmpjkhaa", sum := "d7353456f5d7c3b9061517f431a489f3dac9db901cc6c9f054c614f3d5277e75", func := "forebay/forebaylaw22.SinkDoes", spec := "sinkDoes", apart := false }
def SinkDoesSaid : Prop := sinkDoesRow.holds Try.pinned (OpenSpec.ofChange sinkDoesSpec)

/-- ITS FALSE NEIGHBOUR: 'it returns false'. Refute it at one input. -/
def sinkDoesWrong : ChangeSpec := { name := "sinkDoes", fn := fun _ => fun
  | [d1, d2] => { results := [.lit (.bool false)], args := [d1, d2] }
  | _ => none }
def SinkDoesWrongFalsely : Prop := sinkDoesRow.holds Try.pinned (OpenSpec.ofChange sinkDoesWrong)

/- THE SECOND FORM. 'bulk': how many values and letters a reading holds, each counted each time it is reached (what is shared counts as often as it is met; a slice's spare places count too). A statement '..UptoSaid' is the law's where the arguments, and the package variables that the reading takes, are together of bulk at most 1048576: NARROWER than '..Said'. Prove '..Said' where nothing that the law and all that it calls make is longer than what came in: it says more and counts as full. Else prove '..UptoSaid'. A law counts once. -/
mutual
def uptoBulk {H : Type} : DataW H → Nat
  | .lit (.string bytes) => bytes.length + 1
  | .lit _ => 1
  | .nil => 1
  | .ptr d => uptoBulk d + 1
  | .slice elems spare => uptoBulkAll elems + uptoBulkAll spare + 1
  | .agg parts => uptoBulkAll parts + 1
  | .iface _ d => uptoBulk d + 1
  | .map entries => uptoBulkEntries entries + 1
  | .held _ => 1
def uptoBulkAll {H : Type} : List (DataW H) → Nat
  | [] => 0
  | d :: r => uptoBulk d + uptoBulkAll r
def uptoBulkEntries {H : Type} : List (Lit × DataW H) → Nat
  | [] => 0
  | x :: r => uptoBulkEntry x + uptoBulkEntries r
def uptoBulkEntry {H : Type} : Lit × DataW H → Nat
  | (.string bytes, d) => bytes.length + uptoBulk d + 1
  | (_, d) => uptoBulk d + 1
 end
def uptoSmall : (H : Type) → List (DataW H) → Bool := fun _ ds => decide (uptoBulkAll ds ≤ 1048576)
def OpenSpec.upto (s : _root_.Go.ChangeSpec) : _root_.Go.OpenSpec := { _root_.Go.OpenSpec.ofChange s with cond := some uptoSmall }

/-- 'forebaylaw02.BitsReads', WHERE WHAT IT READS IS OF BULK AT MOST 1048576: true; the input reads as it did. -/
def bitsReadsUptoRow : OpenClaim := { program := "ytkmccbknmpjkhaa", sum := "d7353456f5d7c3b9061517f431a489f3dac9db901cc6c9f054c614f3d5277e75", func := "forebay/forebaylaw02.BitsReads", spec := "bitsReads", apart := false, narrowed := true }
def BitsReadsUptoSaid : Prop := bitsReadsUptoRow.holds Try.pinned (OpenSpec.upto bitsReadsSpec)

/-- 'forebaylaw02.BitsTells', WHERE WHAT IT READS IS OF BULK AT MOST 1048576: true; the input reads as it did. -/
def bitsTellsUptoRow : OpenClaim := { program := "ytkmccbknmpjkhaa", sum := "d7353456f5d7c3b9061517f431a489f3dac9db901cc6c9f054c614f3d5277e75", func := "forebay/forebaylaw02.BitsTells", spec := "bitsTells", apart := false, narrowed := true }
def BitsTellsUptoSaid : Prop := bitsTellsUptoRow.holds Try.pinned (OpenSpec.upto bitsTellsSpec)

/-- 'forebaylaw02.BitsBack', WHERE WHAT IT READS IS OF BULK AT MOST 1048576: true; the input reads as it did. -/
def bitsBackUptoRow : OpenClaim := { program := "ytkmccbknmpjkhaa", sum := "d7353456f5d7c3b9061517f431a489f3dac9db901cc6c9f054c614f3d5277e75", func := "forebay/forebaylaw02.BitsBack", spec := "bitsBack", apart := false, narrowed := true }
def BitsBackUptoSaid : Prop := bitsBackUptoRow.holds Try.pinned (OpenSpec.upto bitsBackSpec)

/-- 'forebaylaw02.BitsOrder', WHERE WHAT IT READS IS OF BULK AT MOST 1048576: true; the input reads as it did. -/
def bitsOrderUptoRow : OpenClaim := { program := "ytkmccbknmpjkhaa", sum := "d7353456f5d7c3b9061517f431a489f3dac9db901cc6c9f054c614f3d5277e75", func := "forebay/forebaylaw02.BitsOrder", spec := "bitsOrder", apart := false, narrowed := true }
def BitsOrderUptoSaid : Prop := bitsOrderUptoRow.holds Try.pinned (OpenSpec.upto bitsOrderSpec)

/-- 'forebaylaw35.BoundNumbers', WHERE WHAT IT READS IS OF BULK AT MOST 1048576: true; the input reads as it did. -/
def boundNumbersUptoRow : OpenClaim := { program := "ytkmccbknmpjkhaa", sum := "d7353456f5d7c3b9061517f431a489f3dac9db901cc6c9f054c614f3d5277e75", func := "forebay/forebaylaw35.BoundNumbers", spec := "boundNumbers", apart := false, narrowed := true }
def BoundNumbersUptoSaid : Prop := boundNumbersUptoRow.holds Try.pinned (OpenSpec.upto boundNumbersSpec)

/-- 'forebaylaw35.BoundMore', WHERE WHAT IT READS IS OF BULK AT MOST 1048576: true; the input reads as it did. -/
def boundMoreUptoRow : OpenClaim := { program := "ytkmccbknmpjkhaa", sum := "d7353456f5d7c3b9061517f431a489f3dac9db901cc6c9f054c614f3d5277e75", func := "forebay/forebaylaw35.BoundMore", spec := "boundMore", apart := false, narrowed := true }
def BoundMoreUptoSaid : Prop := boundMoreUptoRow.holds Try.pinned (OpenSpec.upto boundMoreSpec)

/-- 'forebaylaw22.SinkDiffers', WHERE WHAT IT READS IS OF BULK AT MOST 1048576: true; the input reads as it did. -/
def sinkDiffersUptoRow : OpenClaim := { program := "ytkmccbknmpjkhaa", sum := "d7353456f5d7c3b9061517f431a489f3dac9db901cc6c9f054c614f3d5277e75", func := "forebay/forebaylaw22.SinkDiffers", spec := "sinkDiffers", apart := false, narrowed := true }
def SinkDiffersUptoSaid : Prop := sinkDiffersUptoRow.holds Try.pinned (OpenSpec.upto sinkDiffersSpec)

/-- 'forebaylaw22.SinkOrder', WHERE WHAT IT READS IS OF BULK AT MOST 1048576: true; the input reads as it did. -/
def sinkOrderUptoRow : OpenClaim := { program := "ytkmccbknmpjkhaa", sum := "d7353456f5d7c3b9061517f431a489f3dac9db901cc6c9f054c614f3d5277e75", func := "forebay/forebaylaw22.SinkOrder", spec := "sinkOrder", apart := false, narrowed := true }
def SinkOrderUptoSaid : Prop := sinkOrderUptoRow.holds Try.pinned (OpenSpec.upto sinkOrderSpec)

/-- 'forebaylaw22.SinkDoes', WHERE WHAT IT READS IS OF BULK AT MOST 1048576: true; the input reads as it did. -/
def sinkDoesUptoRow : OpenClaim := { program := "ytkmccbknmpjkhaa", sum := "d7353456f5d7c3b9061517f431a489f3dac9db901cc6c9f054c614f3d5277e75", func := "forebay/forebaylaw22.SinkDoes", spec := "sinkDoes", apart := false, narrowed := true }
def SinkDoesUptoSaid : Prop := sinkDoesUptoRow.holds Try.pinned (OpenSpec.upto sinkDoesSpec)

end Rows
end Go.Proofs.Ytkmccbknmpjkhaa
