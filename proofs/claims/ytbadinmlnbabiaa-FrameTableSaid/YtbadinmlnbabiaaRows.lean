/-
  No cell of these rows narrows 'for every input' (looked for: loops, veiled, ifaces, maps, wideKeys, modest, calm, conditions, laid).
  DERIVED. THE GIVEN ROWS OF THIS SEAT. 10 by the template 'for every input the law returns true; each argument reads behind the call as it read before'; 0 by the template 'total and deterministic' (their statements: YtbadinmlnbabiaaTotals.lean).
  GIVEN WITH THE SEED: the statements are not yours to turn. If you find one false, say at which input.
  Laid BY PROGRAM, IN A SANDBOX (cutbox-rows.mjs): the forced cells as the released guide's own fill.sh prints them over the translation 8090cc98092346f3… (all of the seat's roots in one cut). By AI agents, Wed Nov 11 2026. No macro, syntax, notation, axiom, sorry.
-/
import Derived.Test.YtbadinmlnbabiaaChecked
import GoSem.Claim
import GoSem.ClaimJoined
import GoSem.ClaimMapViews
import Derived.JoinedTies
import Derived.KernelRfl
namespace Go.Proofs.Ytbadinmlnbabiaa
/- THE CELL 'sum', in the pinned program and in every row, IS THE sha256 OF THE DUMP (.gsa) THAT YtbadinmlnbabiaaProg.lean LOADS. Nothing in Lean hashes anything: it is a label: what it is worth is what the hold of that sum in a sandbox is worth. -/
noncomputable def Try.pinned : Pinned := { name := "ytbadinmlnbabiaa", sum := "8090cc98092346f31a6a51a1dd6f7333b8862e9d0bbfd82d1455ab2c95f8be68", checked := Try.checked }
namespace Rows
def none {H : Type} : Left H := { results := [], args := [] }

/-- 'forebaylaw11.LayoutGrows': WHATEVER THE INPUT: true; the input reads as it did. -/
def layoutGrowsSpec : ChangeSpec := { name := "layoutGrows", fn := fun _ => fun
  | [d1, d2, d3, d4] => { results := [.lit (.bool true)], args := [d1, d2, d3, d4] }
  | _ => none }
def layoutGrowsRow : OpenClaim := { program := "ytbadinmlnbabiaa", sum := "8090cc98092346f31a6a51a1dd6f7333b8862e9d0bbfd82d1455ab2c95f8be68", func := "forebay/forebaylaw11.LayoutGrows", spec := "layoutGrows", apart := false }
def LayoutGrowsSaid : Prop := layoutGrowsRow.holds Try.pinned (OpenSpec.ofChange layoutGrowsSpec)

/-- ITS FALSE NEIGHBOUR: 'it returns false'. Refute it at one input. -/
def layoutGrowsWrong : ChangeSpec := { name := "layoutGrows", fn := fun _ => fun
  | [d1, d2, d3, d4] => { results := [.lit (.bool false)], args := [d1, d2, d3, d4] }
  | _ => none }
def LayoutGrowsWrongFalsely : Prop := layoutGrowsRow.holds Try.pinned (OpenSpec.ofChange layoutGrowsWrong)

/-- 'forebaylaw11.LayoutRound': WHATEVER THE INPUT: true; the input reads as it did. -/
def layoutRoundSpec : ChangeSpec := { name := "layoutRound", fn := fun _ => fun
  | [d1, d2, d3, d4] => { results := [.lit (.bool true)], args := [d1, d2, d3, d4] }
  | _ => none }
def layoutRoundRow : OpenClaim := { program := "ytbadinmlnbabiaa", sum := "8090cc98092346f31a6a51a1dd6f7333b8862e9d0bbfd82d1455ab2c95f8be68", func := "forebay/forebaylaw11.LayoutRound", spec := "layoutRound", apart := false }
def LayoutRoundSaid : Prop := layoutRoundRow.holds Try.pinned (OpenSpec.ofChange layoutRoundSpec)

/-- ITS FALSE NEIGHBOUR: 'it returns false'. Refute it at one input. -/
def layoutRoundWrong : ChangeSpec := { name := "layoutRound", fn := fun _ => fun
  | [d1, d2, d3, d4] => { results := [.lit (.bool false)], args := [d1, d2, d3, d4] }
  | _ => none }
def LayoutRoundWrongFalsely : Prop := layoutRoundRow.holds Try.pinned (OpenSpec.ofChange layoutRoundWrong)

/-- 'forebaylaw11.LayoutTells': WHATEVER THE INPUT: true; the input reads as it did. -/
def layoutTellsSpec : ChangeSpec := { name := "layoutTells", fn := fun _ => fun
  | [d1, d2, d3, d4, d5] => { results := [.lit (.bool true)], args := [d1, d2, d3, d4, d5] }
  | _ => none }
def layoutTellsRow : OpenClaim := { program := "ytbadinmlnbabiaa", sum := "8090cc98092346f31a6a51a1dd6f7333b8862e9d0bbfd82d1455ab2c95f8be68", func := "forebay/forebaylaw11.LayoutTells", spec := "layoutTells", apart := false }
def LayoutTellsSaid : Prop := layoutTellsRow.holds Try.pinned (OpenSpec.ofChange layoutTellsSpec)

/-- ITS FALSE NEIGHBOUR: 'it returns false'. Refute it at one input. -/
def layoutTellsWrong : ChangeSpec := { name := "layoutTells", fn := fun _ => fun
  | [d1, d2, d3, d4, d5] => { results := [.lit (.bool false)], args := [d1, d2, d3, d4, d5] }
  | _ => none }
def LayoutTellsWrongFalsely : Prop := layoutTellsRow.holds Try.pinned (OpenSpec.ofChange layoutTellsWrong)

/-- 'forebaylaw11.LayoutApart': WHATEVER THE INPUT: true; the input reads as it did. -/
def layoutApartSpec : ChangeSpec := { name := "layoutApart", fn := fun _ => fun
  | [d1, d2, d3, d4] => { results := [.lit (.bool true)], args := [d1, d2, d3, d4] }
  | _ => none }
def layoutApartRow : OpenClaim := { program := "ytbadinmlnbabiaa", sum := "8090cc98092346f31a6a51a1dd6f7333b8862e9d0bbfd82d1455ab2c95f8be68", func := "forebay/forebaylaw11.LayoutApart", spec := "layoutApart", apart := false }
def LayoutApartSaid : Prop := layoutApartRow.holds Try.pinned (OpenSpec.ofChange layoutApartSpec)

/-- ITS FALSE NEIGHBOUR: 'it returns false'. Refute it at one input. -/
def layoutApartWrong : ChangeSpec := { name := "layoutApart", fn := fun _ => fun
  | [d1, d2, d3, d4] => { results := [.lit (.bool false)], args := [d1, d2, d3, d4] }
  | _ => none }
def LayoutApartWrongFalsely : Prop := layoutApartRow.holds Try.pinned (OpenSpec.ofChange layoutApartWrong)

/-- 'forebaylaw10.ArenaDoes': WHATEVER THE INPUT: true; the input reads as it did. -/
def arenaDoesSpec : ChangeSpec := { name := "arenaDoes", fn := fun _ => fun
  | [d1, d2, d3] => { results := [.lit (.bool true)], args := [d1, d2, d3] }
  | _ => none }
def arenaDoesRow : OpenClaim := { program := "ytbadinmlnbabiaa", sum := "8090cc98092346f31a6a51a1dd6f7333b8862e9d0bbfd82d1455ab2c95f8be68", func := "forebay/forebaylaw10.ArenaDoes", spec := "arenaDoes", unfollowed := true, recurses := true, apart := false }
def ArenaDoesSaid : Prop := arenaDoesRow.holds Try.pinned (OpenSpec.ofChange arenaDoesSpec)

/-- ITS FALSE NEIGHBOUR: 'it returns false'. Refute it at one input. -/
def arenaDoesWrong : ChangeSpec := { name := "arenaDoes", fn := fun _ => fun
  | [d1, d2, d3] => { results := [.lit (.bool false)], args := [d1, d2, d3] }
  | _ => none }
def ArenaDoesWrongFalsely : Prop := arenaDoesRow.holds Try.pinned (OpenSpec.ofChange arenaDoesWrong)

/-- 'forebaylaw10.ArenaOnce': WHATEVER THE INPUT: true; the input reads as it did. -/
def arenaOnceSpec : ChangeSpec := { name := "arenaOnce", fn := fun _ => fun
  | [d1, d2] => { results := [.lit (.bool true)], args := [d1, d2] }
  | _ => none }
def arenaOnceRow : OpenClaim := { program := "ytbadinmlnbabiaa", sum := "8090cc98092346f31a6a51a1dd6f7333b8862e9d0bbfd82d1455ab2c95f8be68", func := "forebay/forebaylaw10.ArenaOnce", spec := "arenaOnce", unfollowed := true, recurses := true, apart := false }
def ArenaOnceSaid : Prop := arenaOnceRow.holds Try.pinned (OpenSpec.ofChange arenaOnceSpec)

/-- ITS FALSE NEIGHBOUR: 'it returns false'. Refute it at one input. -/
def arenaOnceWrong : ChangeSpec := { name := "arenaOnce", fn := fun _ => fun
  | [d1, d2] => { results := [.lit (.bool false)], args := [d1, d2] }
  | _ => none }
def ArenaOnceWrongFalsely : Prop := arenaOnceRow.holds Try.pinned (OpenSpec.ofChange arenaOnceWrong)

/-- 'forebaylaw10.ArenaLast': WHATEVER THE INPUT: true; the input reads as it did. -/
def arenaLastSpec : ChangeSpec := { name := "arenaLast", fn := fun _ => fun
  | [d1, d2] => { results := [.lit (.bool true)], args := [d1, d2] }
  | _ => none }
def arenaLastRow : OpenClaim := { program := "ytbadinmlnbabiaa", sum := "8090cc98092346f31a6a51a1dd6f7333b8862e9d0bbfd82d1455ab2c95f8be68", func := "forebay/forebaylaw10.ArenaLast", spec := "arenaLast", unfollowed := true, recurses := true, apart := false }
def ArenaLastSaid : Prop := arenaLastRow.holds Try.pinned (OpenSpec.ofChange arenaLastSpec)

/-- ITS FALSE NEIGHBOUR: 'it returns false'. Refute it at one input. -/
def arenaLastWrong : ChangeSpec := { name := "arenaLast", fn := fun _ => fun
  | [d1, d2] => { results := [.lit (.bool false)], args := [d1, d2] }
  | _ => none }
def ArenaLastWrongFalsely : Prop := arenaLastRow.holds Try.pinned (OpenSpec.ofChange arenaLastWrong)

/-- 'forebaylaw16.FrameMakes': WHATEVER THE INPUT: true; the input reads as it did. -/
def frameMakesSpec : ChangeSpec := { name := "frameMakes", fn := fun _ => fun
  | [d1, d2, d3, d4] => { results := [.lit (.bool true)], args := [d1, d2, d3, d4] }
  | _ => none }
def frameMakesRow : OpenClaim := { program := "ytbadinmlnbabiaa", sum := "8090cc98092346f31a6a51a1dd6f7333b8862e9d0bbfd82d1455ab2c95f8be68", func := "forebay/forebaylaw16.FrameMakes", spec := "frameMakes", unfollowed := true, recurses := true, apart := false }
def FrameMakesSaid : Prop := frameMakesRow.holds Try.pinned (OpenSpec.ofChange frameMakesSpec)

/-- ITS FALSE NEIGHBOUR: 'it returns false'. Refute it at one input. -/
def frameMakesWrong : ChangeSpec := { name := "frameMakes", fn := fun _ => fun
  | [d1, d2, d3, d4] => { results := [.lit (.bool false)], args := [d1, d2, d3, d4] }
  | _ => none }
def FrameMakesWrongFalsely : Prop := frameMakesRow.holds Try.pinned (OpenSpec.ofChange frameMakesWrong)

/-- 'forebaylaw16.FrameNone': WHATEVER THE INPUT: true; the input reads as it did. -/
def frameNoneSpec : ChangeSpec := { name := "frameNone", fn := fun _ => fun
  | [d] => { results := [.lit (.bool true)], args := [d] }
  | _ => none }
def frameNoneRow : OpenClaim := { program := "ytbadinmlnbabiaa", sum := "8090cc98092346f31a6a51a1dd6f7333b8862e9d0bbfd82d1455ab2c95f8be68", func := "forebay/forebaylaw16.FrameNone", spec := "frameNone", unfollowed := true, recurses := true, apart := false }
def FrameNoneSaid : Prop := frameNoneRow.holds Try.pinned (OpenSpec.ofChange frameNoneSpec)

/-- ITS FALSE NEIGHBOUR: 'it returns false'. Refute it at one input. -/
def frameNoneWrong : ChangeSpec := { name := "frameNone", fn := fun _ => fun
  | [d] => { results := [.lit (.bool false)], args := [d] }
  | _ => none }
def FrameNoneWrongFalsely : Prop := frameNoneRow.holds Try.pinned (OpenSpec.ofChange frameNoneWrong)

/-- 'forebaylaw16.FrameTable': WHATEVER THE INPUT: true; the input reads as it did. -/
def frameTableSpec : ChangeSpec := { name := "frameTable", fn := fun _ => fun
  | [d1, d2] => { results := [.lit (.bool true)], args := [d1, d2] }
  | _ => none }
def frameTableRow : OpenClaim := { program := "ytbadinmlnbabiaa", sum := "8090cc98092346f31a6a51a1dd6f7333b8862e9d0bbfd82d1455ab2c95f8be68", func := "forebay/forebaylaw16.FrameTable", spec := "frameTable", unfollowed := true, recurses := true, apart := false }
def FrameTableSaid : Prop := frameTableRow.holds Try.pinned (OpenSpec.ofChange frameTableSpec)

/-- ITS FALSE NEIGHBOUR: 'it returns false'. Refute it at one input. -/
def frameTableWrong : ChangeSpec := { name := "frameTable", fn := fun _ => fun
  | [d1, d2] => { results := [.lit (.bool false)], args := [d1, d2] }
  | _ => none }
def FrameTableWrongFalsely : Prop := frameTableRow.holds Try.pinned (OpenSpec.ofChange frameTableWrong)

/- THE SECOND FORM. 'bulk': how many values and letters a reading holds, each counted each time it is reached (what is shared counts as often as it is met; a slice's spare places count too). A statement '..UptoSaid' is the law's where the arguments, and the package variables that the reading takes, are together of bulk at most 1048576: NARROWER than '..Said'. Prove '..Said' where nothing that the law and all that it calls make is longer than what came in: it says more and counts as full. Else prove '..UptoSaid'. A law counts once. -/
mutual
def uptoBulk {H : Type} : DataW H → Nat
  | .lit (.string bytes) => bytes.length + 1
  | .lit _ => 1
  | .nil => 1
  | .ptr d => uptoBulk d + 1
  | .slice elems spare => uptoBulkAll elems + uptoBulkAll spare + 1
  | .agg parts => uptoBulkAll parts + 1
  | .iface _ d => uptoBulk d + 1
  | .map entries => uptoBulkEntries entries + 1
  | .held _ => 1
def uptoBulkAll {H : Type} : List (DataW H) → Nat
  | [] => 0
  | d :: r => uptoBulk d + uptoBulkAll r
def uptoBulkEntries {H : Type} : List (Lit × DataW H) → Nat
  | [] => 0
  | x :: r => uptoBulkEntry x + uptoBulkEntries r
def uptoBulkEntry {H : Type} : Lit × DataW H → Nat
  | (.string bytes, d) => bytes.length + uptoBulk d + 1
  | (_, d) => uptoBulk d + 1
 end
def uptoSmall : (H : Type) → List (DataW H) → Bool := fun _ ds => decide (uptoBulkAll ds ≤ 1048576)
def OpenSpec.upto (s : _root_.Go.ChangeSpec) : _root_.Go.OpenSpec := { _root_.Go.OpenSpec.ofChange s with cond := some uptoSmall }

/-- 'forebaylaw11.LayoutGrows', WHERE WHAT IT READS IS OF BULK AT MOST 1048576: true; the input reads as it did. -/
def layoutGrowsUptoRow : OpenClaim := { program := "ytbadinmlnbabiaa", sum := "8090cc98092346f31a6a51a1dd6f7333b8862e9d0bbfd82d1455ab2c95f8be68", func := "forebay/forebaylaw11.LayoutGrows", spec := "layoutGrows", apart := false, narrowed := true }
def LayoutGrowsUptoSaid : Prop := layoutGrowsUptoRow.holds Try.pinned (OpenSpec.upto layoutGrowsSpec)

/-- 'forebaylaw11.LayoutRound', WHERE WHAT IT READS IS OF BULK AT MOST 1048576: true; the input reads as it did. -/
def layoutRoundUptoRow : OpenClaim := { program := "ytbadinmlnbabiaa", sum := "8090cc98092346f31a6a51a1dd6f7333b8862e9d0bbfd82d1455ab2c95f8be68", func := "forebay/forebaylaw11.LayoutRound", spec := "layoutRound", apart := false, narrowed := true }
def LayoutRoundUptoSaid : Prop := layoutRoundUptoRow.holds Try.pinned (OpenSpec.upto layoutRoundSpec)

/-- 'forebaylaw11.LayoutTells', WHERE WHAT IT READS IS OF BULK AT MOST 1048576: true; the input reads as it did. -/
def layoutTellsUptoRow : OpenClaim := { program := "ytbadinmlnbabiaa", sum := "8090cc98092346f31a6a51a1dd6f7333b8862e9d0bbfd82d1455ab2c95f8be68", func := "forebay/forebaylaw11.LayoutTells", spec := "layoutTells", apart := false, narrowed := true }
def LayoutTellsUptoSaid : Prop := layoutTellsUptoRow.holds Try.pinned (OpenSpec.upto layoutTellsSpec)

/-- 'forebaylaw11.LayoutApart', WHERE WHAT IT READS IS OF BULK AT MOST 1048576: true; the input reads as it did. -/
def layoutApartUptoRow : OpenClaim := { program := "ytbadinmlnbabiaa", sum := "8090cc98092346f31a6a51a1dd6f7333b8862e9d0bbfd82d1455ab2c95f8be68", func := "forebay/forebaylaw11.LayoutApart", spec := "layoutApart", apart := false, narrowed := true }
def LayoutApartUptoSaid : Prop := layoutApartUptoRow.holds Try.pinned (OpenSpec.upto layoutApartSpec)

/-- 'forebaylaw10.ArenaDoes', WHERE WHAT IT READS IS OF BULK AT MOST 1048576: true; the input reads as it did. -/
def arenaDoesUptoRow : OpenClaim := { program := "ytbadinmlnbabiaa", sum := "8090cc98092346f31a6a51a1dd6f7333b8862e9d0bbfd82d1455ab2c95f8be68", func := "forebay/forebaylaw10.ArenaDoes", spec := "arenaDoes", unfollowed := true, recurses := true, apart := false, narrowed := true }
def ArenaDoesUptoSaid : Prop := arenaDoesUptoRow.holds Try.pinned (OpenSpec.upto arenaDoesSpec)

/-- 'forebaylaw10.ArenaOnce', WHERE WHAT IT READS IS OF BULK AT MOST 1048576: true; the input reads as it did. -/
def arenaOnceUptoRow : OpenClaim := { program := "ytbadinmlnbabiaa", sum := "8090cc98092346f31a6a51a1dd6f7333b8862e9d0bbfd82d1455ab2c95f8be68", func := "forebay/forebaylaw10.ArenaOnce", spec := "arenaOnce", unfollowed := true, recurses := true, apart := false, narrowed := true }
def ArenaOnceUptoSaid : Prop := arenaOnceUptoRow.holds Try.pinned (OpenSpec.upto arenaOnceSpec)

/-- 'forebaylaw10.ArenaLast', WHERE WHAT IT READS IS OF BULK AT MOST 1048576: true; the input reads as it did. -/
def arenaLastUptoRow : OpenClaim := { program := "ytbadinmlnbabiaa", sum := "8090cc98092346f31a6a51a1dd6f7333b8862e9d0bbfd82d1455ab2c95f8be68", func := "forebay/forebaylaw10.ArenaLast", spec := "arenaLast", unfollowed := true, recurses := true, apart := false, narrowed := true }
def ArenaLastUptoSaid : Prop := arenaLastUptoRow.holds Try.pinned (OpenSpec.upto arenaLastSpec)

/-- 'forebaylaw16.FrameMakes', WHERE WHAT IT READS IS OF BULK AT MOST 1048576: true; the input reads as it did. -/
def frameMakesUptoRow : OpenClaim := { program := "ytbadinmlnbabiaa", sum := "8090cc98092346f31a6a51a1dd6f7333b8862e9d0bbfd82d1455ab2c95f8be68", func := "forebay/forebaylaw16.FrameMakes", spec := "frameMakes", unfollowed := true, recurses := true, apart := false, narrowed := true }
def FrameMakesUptoSaid : Prop := frameMakesUptoRow.holds Try.pinned (OpenSpec.upto frameMakesSpec)

/-- 'forebaylaw16.FrameNone', WHERE WHAT IT READS IS OF BULK AT MOST 1048576: true; the input reads as it did. -/
def frameNoneUptoRow : OpenClaim := { program := "ytbadinmlnbabiaa", sum := "8090cc98092346f31a6a51a1dd6f7333b8862e9d0bbfd82d1455ab2c95f8be68", func := "forebay/forebaylaw16.FrameNone", spec := "frameNone", unfollowed := true, recurses := true, apart := false, narrowed := true }
def FrameNoneUptoSaid : Prop := frameNoneUptoRow.holds Try.pinned (OpenSpec.upto frameNoneSpec)

/-- 'forebaylaw16.FrameTable', WHERE WHAT IT READS IS OF BULK AT MOST 1048576: true; the input reads as it did. -/
def frameTableUptoRow : OpenClaim := { program := "ytbadinmlnbabiaa", sum := "8090cc98092346f31a6a51a1dd6f7333b8862e9d0bbfd82d1455ab2c95f8be68", func := "forebay/forebaylaw16.FrameTable", spec := "frameTable", unfollowed := true, recurses := true, apart := false, narrowed := true }
def FrameTableUptoSaid : Prop := frameTableUptoRow.holds Try.pinned (OpenSpec.upto frameTableSpec)

end Rows
end Go.Proofs.Ytbadinmlnbabiaa
