/-
  No cell of these rows narrows 'for every input' (looked for: loops, veiled, ifaces, maps, wideKeys, modest, calm, conditions, laid).
  DERIVED. THE GIVEN ROWS OF THIS SEAT. 12 by the template 'for every input the law returns true; each argument reads behind the call as it read before'; 0 by the template 'total and deterministic' (their statements: YtboiogjklecpaaaTotals.lean).
  GIVEN WITH THE SEED: the statements are not yours to turn. If you find one false, say at which input.
  Laid BY PROGRAM, IN A SANDBOX (cutbox-rows.mjs): the forced cells as the released guide's own fill.sh prints them over the translation e8d38a4a5f7113e0… (all of the seat's roots in one cut). By AI agents, Wed Nov 11 2026. No macro, syntax, notation, axiom, sorry.
-/
import Derived.Test.YtboiogjklecpaaaChecked
import GoSem.Claim
import GoSem.ClaimJoined
import GoSem.ClaimMapViews
import Derived.JoinedTies
import Derived.KernelRfl
namespace Go.Proofs.Ytboiogjklecpaaa
/- THE CELL 'sum', in the pinned program and in every row, IS THE sha256 OF THE DUMP (.gsa) THAT YtboiogjklecpaaaProg.lean LOADS. Nothing in Lean hashes anything: it is a label: what it is worth is what the hold of that sum in a sandbox is worth. -/
noncomputable def Try.pinned : Pinned := { name := "ytboiogjklecpaaa", sum := "e8d38a4a5f7113e03f938911f865cd4c07931ff40bce3feae882e54151926a59", checked := Try.checked }
namespace Rows
def none {H : Type} : Left H := { results := [], args := [] }

/-- 'forebaylaw03.InsNames': WHATEVER THE INPUT: true; the input reads as it did. -/
def insNamesSpec : ChangeSpec := { name := "insNames", fn := fun _ => fun
  | [d1, d2] => { results := [.lit (.bool true)], args := [d1, d2] }
  | _ => none }
def insNamesRow : OpenClaim := { program := "ytboiogjklecpaaa", sum := "e8d38a4a5f7113e03f938911f865cd4c07931ff40bce3feae882e54151926a59", func := "forebay/forebaylaw03.InsNames", spec := "insNames", apart := false }
def InsNamesSaid : Prop := insNamesRow.holds Try.pinned (OpenSpec.ofChange insNamesSpec)

/-- ITS FALSE NEIGHBOUR: 'it returns false'. Refute it at one input. -/
def insNamesWrong : ChangeSpec := { name := "insNames", fn := fun _ => fun
  | [d1, d2] => { results := [.lit (.bool false)], args := [d1, d2] }
  | _ => none }
def InsNamesWrongFalsely : Prop := insNamesRow.holds Try.pinned (OpenSpec.ofChange insNamesWrong)

/-- 'forebaylaw03.InsPuts': WHATEVER THE INPUT: true; the input reads as it did. -/
def insPutsSpec : ChangeSpec := { name := "insPuts", fn := fun _ => fun
  | [d] => { results := [.lit (.bool true)], args := [d] }
  | _ => none }
def insPutsRow : OpenClaim := { program := "ytboiogjklecpaaa", sum := "e8d38a4a5f7113e03f938911f865cd4c07931ff40bce3feae882e54151926a59", func := "forebay/forebaylaw03.InsPuts", spec := "insPuts", apart := false }
def InsPutsSaid : Prop := insPutsRow.holds Try.pinned (OpenSpec.ofChange insPutsSpec)

/-- ITS FALSE NEIGHBOUR: 'it returns false'. Refute it at one input. -/
def insPutsWrong : ChangeSpec := { name := "insPuts", fn := fun _ => fun
  | [d] => { results := [.lit (.bool false)], args := [d] }
  | _ => none }
def InsPutsWrongFalsely : Prop := insPutsRow.holds Try.pinned (OpenSpec.ofChange insPutsWrong)

/-- 'forebaylaw03.InsGets': WHATEVER THE INPUT: true; the input reads as it did. -/
def insGetsSpec : ChangeSpec := { name := "insGets", fn := fun _ => fun
  | [d] => { results := [.lit (.bool true)], args := [d] }
  | _ => none }
def insGetsRow : OpenClaim := { program := "ytboiogjklecpaaa", sum := "e8d38a4a5f7113e03f938911f865cd4c07931ff40bce3feae882e54151926a59", func := "forebay/forebaylaw03.InsGets", spec := "insGets", apart := false }
def InsGetsSaid : Prop := insGetsRow.holds Try.pinned (OpenSpec.ofChange insGetsSpec)

/-- ITS FALSE NEIGHBOUR: 'it returns false'. Refute it at one input. -/
def insGetsWrong : ChangeSpec := { name := "insGets", fn := fun _ => fun
  | [d] => { results := [.lit (.bool false)], args := [d] }
  | _ => none }
def InsGetsWrongFalsely : Prop := insGetsRow.holds Try.pinned (OpenSpec.ofChange insGetsWrong)

/-- 'forebaylaw03.InsOnce': WHATEVER THE INPUT: true; the input reads as it did. -/
def insOnceSpec : ChangeSpec := { name := "insOnce", fn := fun _ => fun
  | [d1, d2] => { results := [.lit (.bool true)], args := [d1, d2] }
  | _ => none }
def insOnceRow : OpenClaim := { program := "ytboiogjklecpaaa", sum := "e8d38a4a5f7113e03f938911f865cd4c07931ff40bce3feae882e54151926a59", func := "forebay/forebaylaw03.InsOnce", spec := "insOnce", apart := false }
def InsOnceSaid : Prop := insOnceRow.holds Try.pinned (OpenSpec.ofChange insOnceSpec)

/-- ITS FALSE NEIGHBOUR: 'it returns false'. Refute it at one input. -/
def insOnceWrong : ChangeSpec := { name := "insOnce", fn := fun _ => fun
  | [d1, d2] => { results := [.lit (.bool false)], args := [d1, d2] }
  | _ => none }
def InsOnceWrongFalsely : Prop := insOnceRow.holds Try.pinned (OpenSpec.ofChange insOnceWrong)

/-- 'forebaylaw04.ProgPuts': WHATEVER THE INPUT: true; the input reads as it did. -/
def progPutsSpec : ChangeSpec := { name := "progPuts", fn := fun _ => fun
  | [d] => { results := [.lit (.bool true)], args := [d] }
  | _ => none }
def progPutsRow : OpenClaim := { program := "ytboiogjklecpaaa", sum := "e8d38a4a5f7113e03f938911f865cd4c07931ff40bce3feae882e54151926a59", func := "forebay/forebaylaw04.ProgPuts", spec := "progPuts", apart := false }
def ProgPutsSaid : Prop := progPutsRow.holds Try.pinned (OpenSpec.ofChange progPutsSpec)

/-- ITS FALSE NEIGHBOUR: 'it returns false'. Refute it at one input. -/
def progPutsWrong : ChangeSpec := { name := "progPuts", fn := fun _ => fun
  | [d] => { results := [.lit (.bool false)], args := [d] }
  | _ => none }
def ProgPutsWrongFalsely : Prop := progPutsRow.holds Try.pinned (OpenSpec.ofChange progPutsWrong)

/-- 'forebaylaw04.ProgGets': WHATEVER THE INPUT: true; the input reads as it did. -/
def progGetsSpec : ChangeSpec := { name := "progGets", fn := fun _ => fun
  | [d] => { results := [.lit (.bool true)], args := [d] }
  | _ => none }
def progGetsRow : OpenClaim := { program := "ytboiogjklecpaaa", sum := "e8d38a4a5f7113e03f938911f865cd4c07931ff40bce3feae882e54151926a59", func := "forebay/forebaylaw04.ProgGets", spec := "progGets", apart := false }
def ProgGetsSaid : Prop := progGetsRow.holds Try.pinned (OpenSpec.ofChange progGetsSpec)

/-- ITS FALSE NEIGHBOUR: 'it returns false'. Refute it at one input. -/
def progGetsWrong : ChangeSpec := { name := "progGets", fn := fun _ => fun
  | [d] => { results := [.lit (.bool false)], args := [d] }
  | _ => none }
def ProgGetsWrongFalsely : Prop := progGetsRow.holds Try.pinned (OpenSpec.ofChange progGetsWrong)

/-- 'forebaylaw04.ProgGrammar': WHATEVER THE INPUT: true; the input reads as it did. -/
def progGrammarSpec : ChangeSpec := { name := "progGrammar", fn := fun _ => fun
  | [d] => { results := [.lit (.bool true)], args := [d] }
  | _ => none }
def progGrammarRow : OpenClaim := { program := "ytboiogjklecpaaa", sum := "e8d38a4a5f7113e03f938911f865cd4c07931ff40bce3feae882e54151926a59", func := "forebay/forebaylaw04.ProgGrammar", spec := "progGrammar", apart := false }
def ProgGrammarSaid : Prop := progGrammarRow.holds Try.pinned (OpenSpec.ofChange progGrammarSpec)

/-- ITS FALSE NEIGHBOUR: 'it returns false'. Refute it at one input. -/
def progGrammarWrong : ChangeSpec := { name := "progGrammar", fn := fun _ => fun
  | [d] => { results := [.lit (.bool false)], args := [d] }
  | _ => none }
def ProgGrammarWrongFalsely : Prop := progGrammarRow.holds Try.pinned (OpenSpec.ofChange progGrammarWrong)

/-- 'forebaylaw04.ProgOnce': WHATEVER THE INPUT: true; the input reads as it did. -/
def progOnceSpec : ChangeSpec := { name := "progOnce", fn := fun _ => fun
  | [d1, d2] => { results := [.lit (.bool true)], args := [d1, d2] }
  | _ => none }
def progOnceRow : OpenClaim := { program := "ytboiogjklecpaaa", sum := "e8d38a4a5f7113e03f938911f865cd4c07931ff40bce3feae882e54151926a59", func := "forebay/forebaylaw04.ProgOnce", spec := "progOnce", apart := false }
def ProgOnceSaid : Prop := progOnceRow.holds Try.pinned (OpenSpec.ofChange progOnceSpec)

/-- ITS FALSE NEIGHBOUR: 'it returns false'. Refute it at one input. -/
def progOnceWrong : ChangeSpec := { name := "progOnce", fn := fun _ => fun
  | [d1, d2] => { results := [.lit (.bool false)], args := [d1, d2] }
  | _ => none }
def ProgOnceWrongFalsely : Prop := progOnceRow.holds Try.pinned (OpenSpec.ofChange progOnceWrong)

/-- 'forebaylaw04.ProgSizes': WHATEVER THE INPUT: true; the input reads as it did. -/
def progSizesSpec : ChangeSpec := { name := "progSizes", fn := fun _ => fun
  | [d] => { results := [.lit (.bool true)], args := [d] }
  | _ => none }
def progSizesRow : OpenClaim := { program := "ytboiogjklecpaaa", sum := "e8d38a4a5f7113e03f938911f865cd4c07931ff40bce3feae882e54151926a59", func := "forebay/forebaylaw04.ProgSizes", spec := "progSizes", apart := false }
def ProgSizesSaid : Prop := progSizesRow.holds Try.pinned (OpenSpec.ofChange progSizesSpec)

/-- ITS FALSE NEIGHBOUR: 'it returns false'. Refute it at one input. -/
def progSizesWrong : ChangeSpec := { name := "progSizes", fn := fun _ => fun
  | [d] => { results := [.lit (.bool false)], args := [d] }
  | _ => none }
def ProgSizesWrongFalsely : Prop := progSizesRow.holds Try.pinned (OpenSpec.ofChange progSizesWrong)

/-- 'forebaylaw07.BuildApart': WHATEVER THE INPUT: true; the input reads as it did. -/
def buildApartSpec : ChangeSpec := { name := "buildApart", fn := fun _ => fun
  | [d] => { results := [.lit (.bool true)], args := [d] }
  | _ => none }
def buildApartRow : OpenClaim := { program := "ytboiogjklecpaaa", sum := "e8d38a4a5f7113e03f938911f865cd4c07931ff40bce3feae882e54151926a59", func := "forebay/forebaylaw07.BuildApart", spec := "buildApart", apart := false }
def BuildApartSaid : Prop := buildApartRow.holds Try.pinned (OpenSpec.ofChange buildApartSpec)

/-- ITS FALSE NEIGHBOUR: 'it returns false'. Refute it at one input. -/
def buildApartWrong : ChangeSpec := { name := "buildApart", fn := fun _ => fun
  | [d] => { results := [.lit (.bool false)], args := [d] }
  | _ => none }
def BuildApartWrongFalsely : Prop := buildApartRow.holds Try.pinned (OpenSpec.ofChange buildApartWrong)

/-- 'forebaylaw07.BuildDoes': WHATEVER THE INPUT: true; the input reads as it did. -/
def buildDoesSpec : ChangeSpec := { name := "buildDoes", fn := fun _ => fun
  | [d1, d2] => { results := [.lit (.bool true)], args := [d1, d2] }
  | _ => none }
def buildDoesRow : OpenClaim := { program := "ytboiogjklecpaaa", sum := "e8d38a4a5f7113e03f938911f865cd4c07931ff40bce3feae882e54151926a59", func := "forebay/forebaylaw07.BuildDoes", spec := "buildDoes", apart := false }
def BuildDoesSaid : Prop := buildDoesRow.holds Try.pinned (OpenSpec.ofChange buildDoesSpec)

/-- ITS FALSE NEIGHBOUR: 'it returns false'. Refute it at one input. -/
def buildDoesWrong : ChangeSpec := { name := "buildDoes", fn := fun _ => fun
  | [d1, d2] => { results := [.lit (.bool false)], args := [d1, d2] }
  | _ => none }
def BuildDoesWrongFalsely : Prop := buildDoesRow.holds Try.pinned (OpenSpec.ofChange buildDoesWrong)

/-- 'forebaylaw07.BuildJumps': WHATEVER THE INPUT: true; the input reads as it did. -/
def buildJumpsSpec : ChangeSpec := { name := "buildJumps", fn := fun _ => fun
  | [d1, d2, d3] => { results := [.lit (.bool true)], args := [d1, d2, d3] }
  | _ => none }
def buildJumpsRow : OpenClaim := { program := "ytboiogjklecpaaa", sum := "e8d38a4a5f7113e03f938911f865cd4c07931ff40bce3feae882e54151926a59", func := "forebay/forebaylaw07.BuildJumps", spec := "buildJumps", apart := false }
def BuildJumpsSaid : Prop := buildJumpsRow.holds Try.pinned (OpenSpec.ofChange buildJumpsSpec)

/-- ITS FALSE NEIGHBOUR: 'it returns false'. Refute it at one input. -/
def buildJumpsWrong : ChangeSpec := { name := "buildJumps", fn := fun _ => fun
  | [d1, d2, d3] => { results := [.lit (.bool false)], args := [d1, d2, d3] }
  | _ => none }
def BuildJumpsWrongFalsely : Prop := buildJumpsRow.holds Try.pinned (OpenSpec.ofChange buildJumpsWrong)

/- THE SECOND FORM. 'bulk': how many values and letters a reading holds, each counted each time it is reached (what is shared counts as often as it is met; a slice's spare places count too). A statement '..UptoSaid' is the law's where the arguments, and the package variables that the reading takes, are together of bulk at most 1048576: NARROWER than '..Said'. Prove '..Said' where nothing that the law and all that it calls make is longer than what came in: it says more and counts as full. Else prove '..UptoSaid'. A law counts once. -/
mutual
def uptoBulk {H : Type} : DataW H → Nat
  | .lit (.string bytes) => bytes.length + 1
  | .lit _ => 1
  | .nil => 1
  | .ptr d => uptoBulk d + 1
  | .slice elems spare => uptoBulkAll elems + uptoBulkAll spare + 1
  | .agg parts => uptoBulkAll parts + 1
  | .iface _ d => uptoBulk d + 1
  | .map entries => uptoBulkEntries entries + 1
  | .held _ => 1
def uptoBulkAll {H : Type} : List (DataW H) → Nat
  | [] => 0
  | d :: r => uptoBulk d + uptoBulkAll r
def uptoBulkEntries {H : Type} : List (Lit × DataW H) → Nat
  | [] => 0
  | x :: r => uptoBulkEntry x + uptoBulkEntries r
def uptoBulkEntry {H : Type} : Lit × DataW H → Nat
  | (.string bytes, d) => bytes.length + uptoBulk d + 1
  | (_, d) => uptoBulk d + 1
 end
def uptoSmall : (H : Type) → List (DataW H) → Bool := fun _ ds => decide (uptoBulkAll ds ≤ 1048576)
def OpenSpec.upto (s : _root_.Go.ChangeSpec) : _root_.Go.OpenSpec := { _root_.Go.OpenSpec.ofChange s with cond := some uptoSmall }

/-- 'forebaylaw03.InsNames', WHERE WHAT IT READS IS OF BULK AT MOST 1048576: true; the input reads as it did. -/
def insNamesUptoRow : OpenClaim := { program := "ytboiogjklecpaaa", sum := "e8d38a4a5f7113e03f938911f865cd4c07931ff40bce3feae882e54151926a59", func := "forebay/forebaylaw03.InsNames", spec := "insNames", apart := false, narrowed := true }
def InsNamesUptoSaid : Prop := insNamesUptoRow.holds Try.pinned (OpenSpec.upto insNamesSpec)

/-- 'forebaylaw03.InsPuts', WHERE WHAT IT READS IS OF BULK AT MOST 1048576: true; the input reads as it did. -/
def insPutsUptoRow : OpenClaim := { program := "ytboiogjklecpaaa", sum := "e8d38a4a5f7113e03f938911f865cd4c07931ff40bce3feae882e54151926a59", func := "forebay/forebaylaw03.InsPuts", spec := "insPuts", apart := false, narrowed := true }
def InsPutsUptoSaid : Prop := insPutsUptoRow.holds Try.pinned (OpenSpec.upto insPutsSpec)

/-- 'forebaylaw03.InsGets', WHERE WHAT IT READS IS OF BULK AT MOST 1048576: true; the input reads as it did. -/
def insGetsUptoRow : OpenClaim := { program := "ytboiogjklecpaaa", sum := "e8d38a4a5f7113e03f938911f865cd4c07931ff40bce3feae882e54151926a59", func := "forebay/forebaylaw03.InsGets", spec := "insGets", apart := false, narrowed := true }
def InsGetsUptoSaid : Prop := insGetsUptoRow.holds Try.pinned (OpenSpec.upto insGetsSpec)

/-- 'forebaylaw03.InsOnce', WHERE WHAT IT READS IS OF BULK AT MOST 1048576: true; the input reads as it did. -/
def insOnceUptoRow : OpenClaim := { program := "ytboiogjklecpaaa", sum := "e8d38a4a5f7113e03f938911f865cd4c07931ff40bce3feae882e54151926a59", func := "forebay/forebaylaw03.InsOnce", spec := "insOnce", apart := false, narrowed := true }
def InsOnceUptoSaid : Prop := insOnceUptoRow.holds Try.pinned (OpenSpec.upto insOnceSpec)

/-- 'forebaylaw04.ProgPuts', WHERE WHAT IT READS IS OF BULK AT MOST 1048576: true; the input reads as it did. -/
def progPutsUptoRow : OpenClaim := { program := "ytboiogjklecpaaa", sum := "e8d38a4a5f7113e03f938911f865cd4c07931ff40bce3feae882e54151926a59", func := "forebay/forebaylaw04.ProgPuts", spec := "progPuts", apart := false, narrowed := true }
def ProgPutsUptoSaid : Prop := progPutsUptoRow.holds Try.pinned (OpenSpec.upto progPutsSpec)

/-- 'forebaylaw04.ProgGets', WHERE WHAT IT READS IS OF BULK AT MOST 1048576: true; the input reads as it did. -/
def progGetsUptoRow : OpenClaim := { program := "ytboiogjklecpaaa", sum := "e8d38a4a5f7113e03f938911f865cd4c07931ff40bce3feae882e54151926a59", func := "forebay/forebaylaw04.ProgGets", spec := "progGets", apart := false, narrowed := true }
def ProgGetsUptoSaid : Prop := progGetsUptoRow.holds Try.pinned (OpenSpec.upto progGetsSpec)

/-- 'forebaylaw04.ProgGrammar', WHERE WHAT IT READS IS OF BULK AT MOST 1048576: true; the input reads as it did. -/
def progGrammarUptoRow : OpenClaim := { program := "ytboiogjklecpaaa", sum := "e8d38a4a5f7113e03f938911f865cd4c07931ff40bce3feae882e54151926a59", func := "forebay/forebaylaw04.ProgGrammar", spec := "progGrammar", apart := false, narrowed := true }
def ProgGrammarUptoSaid : Prop := progGrammarUptoRow.holds Try.pinned (OpenSpec.upto progGrammarSpec)

/-- 'forebaylaw04.ProgOnce', WHERE WHAT IT READS IS OF BULK AT MOST 1048576: true; the input reads as it did. -/
def progOnceUptoRow : OpenClaim := { program := "ytboiogjklecpaaa", sum := "e8d38a4a5f7113e03f938911f865cd4c07931ff40bce3feae882e54151926a59", func := "forebay/forebaylaw04.ProgOnce", spec := "progOnce", apart := false, narrowed := true }
def ProgOnceUptoSaid : Prop := progOnceUptoRow.holds Try.pinned (OpenSpec.upto progOnceSpec)

/-- 'forebaylaw04.ProgSizes', WHERE WHAT IT READS IS OF BULK AT MOST 1048576: true; the input reads as it did. -/
def progSizesUptoRow : OpenClaim := { program := "ytboiogjklecpaaa", sum := "e8d38a4a5f7113e03f938911f865cd4c07931ff40bce3feae882e54151926a59", func := "forebay/forebaylaw04.ProgSizes", spec := "progSizes", apart := false, narrowed := true }
def ProgSizesUptoSaid : Prop := progSizesUptoRow.holds Try.pinned (OpenSpec.upto progSizesSpec)

/-- 'forebaylaw07.BuildApart', WHERE WHAT IT READS IS OF BULK AT MOST 1048576: true; the input reads as it did. -/
def buildApartUptoRow : OpenClaim := { program := "ytboiogjklecpaaa", sum := "e8d38a4a5f7113e03f938911f865cd4c07931ff40bce3feae882e54151926a59", func := "forebay/forebaylaw07.BuildApart", spec := "buildApart", apart := false, narrowed := true }
def BuildApartUptoSaid : Prop := buildApartUptoRow.holds Try.pinned (OpenSpec.upto buildApartSpec)

/-- 'forebaylaw07.BuildDoes', WHERE WHAT IT READS IS OF BULK AT MOST 1048576: true; the input reads as it did. -/
def buildDoesUptoRow : OpenClaim := { program := "ytboiogjklecpaaa", sum := "e8d38a4a5f7113e03f938911f865cd4c07931ff40bce3feae882e54151926a59", func := "forebay/forebaylaw07.BuildDoes", spec := "buildDoes", apart := false, narrowed := true }
def BuildDoesUptoSaid : Prop := buildDoesUptoRow.holds Try.pinned (OpenSpec.upto buildDoesSpec)

/-- 'forebaylaw07.BuildJumps', WHERE WHAT IT READS IS OF BULK AT MOST 1048576: true; the input reads as it did. -/
def buildJumpsUptoRow : OpenClaim := { program := "ytboiogjklecpaaa", sum := "e8d38a4a5f7113e03f938911f865cd4c07931ff40bce3feae882e54151926a59", func := "forebay/forebaylaw07.BuildJumps", spec := "buildJumps", apart := false, narrowed := true }
def BuildJumpsUptoSaid : Prop := buildJumpsUptoRow.holds Try.pinned (OpenSpec.upto buildJumpsSpec)

end Rows
end Go.Proofs.Ytboiogjklecpaaa
