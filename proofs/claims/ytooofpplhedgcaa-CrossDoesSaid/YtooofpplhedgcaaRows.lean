/-
  No cell of these rows narrows 'for every input' (looked for: loops, veiled, ifaces, maps, wideKeys, modest, calm, conditions, laid).
  DERIVED. THE GIVEN ROWS OF THIS SEAT. 6 by the template 'for every input the law returns true; each argument reads behind the call as it read before'; 0 by the template 'total and deterministic' (their statements: YtooofpplhedgcaaTotals.lean).
  GIVEN WITH THE SEED: the statements are not yours to turn. If you find one false, say at which input.
  Laid BY PROGRAM, IN A SANDBOX (cutbox-rows.mjs): the forced cells as the released guide's own fill.sh prints them over the translation 58a0cdf3c5e09299… (all of the seat's roots in one cut). By AI agents, Wed Nov 11 2026. No macro, syntax, notation, axiom, sorry.
-/
import Derived.Test.YtooofpplhedgcaaChecked
import GoSem.Claim
import GoSem.ClaimJoined
import GoSem.ClaimMapViews
import Derived.JoinedTies
import Derived.KernelRfl
namespace Go.Proofs.Ytooofpplhedgcaa
/- THE CELL 'sum', in the pinned program and in every row, IS THE sha256 OF THE DUMP (.gsa) THAT YtooofpplhedgcaaProg.lean LOADS. Nothing in Lean hashes anything: it is a label: what it is worth is what the hold of that sum in a sandbox is worth. -/
noncomputable def Try.pinned : Pinned := { name := "ytooofpplhedgcaa", sum := "58a0cdf3c5e09299299d52766987b8f7dfd816c71716217d146e9004f31913a4", checked := Try.checked }
namespace Rows
def none {H : Type} : Left H := { results := [], args := [] }

/-- 'forebaylaw17.RingOwn': WHATEVER THE INPUT: true; the input reads as it did. -/
def ringOwnSpec : ChangeSpec := { name := "ringOwn", fn := fun _ => fun
  | [d1, d2] => { results := [.lit (.bool true)], args := [d1, d2] }
  | _ => none }
def ringOwnRow : OpenClaim := { program := "ytooofpplhedgcaa", sum := "58a0cdf3c5e09299299d52766987b8f7dfd816c71716217d146e9004f31913a4", func := "forebay/forebaylaw17.RingOwn", spec := "ringOwn", unfollowed := true, recurses := true, apart := false }
def RingOwnSaid : Prop := ringOwnRow.holds Try.pinned (OpenSpec.ofChange ringOwnSpec)

/-- ITS FALSE NEIGHBOUR: 'it returns false'. Refute it at one input. -/
def ringOwnWrong : ChangeSpec := { name := "ringOwn", fn := fun _ => fun
  | [d1, d2] => { results := [.lit (.bool false)], args := [d1, d2] }
  | _ => none }
def RingOwnWrongFalsely : Prop := ringOwnRow.holds Try.pinned (OpenSpec.ofChange ringOwnWrong)

/-- 'forebaylaw17.RingMay': WHATEVER THE INPUT: true; the input reads as it did. -/
def ringMaySpec : ChangeSpec := { name := "ringMay", fn := fun _ => fun
  | [d1, d2, d3, d4] => { results := [.lit (.bool true)], args := [d1, d2, d3, d4] }
  | _ => none }
def ringMayRow : OpenClaim := { program := "ytooofpplhedgcaa", sum := "58a0cdf3c5e09299299d52766987b8f7dfd816c71716217d146e9004f31913a4", func := "forebay/forebaylaw17.RingMay", spec := "ringMay", unfollowed := true, recurses := true, apart := false }
def RingMaySaid : Prop := ringMayRow.holds Try.pinned (OpenSpec.ofChange ringMaySpec)

/-- ITS FALSE NEIGHBOUR: 'it returns false'. Refute it at one input. -/
def ringMayWrong : ChangeSpec := { name := "ringMay", fn := fun _ => fun
  | [d1, d2, d3, d4] => { results := [.lit (.bool false)], args := [d1, d2, d3, d4] }
  | _ => none }
def RingMayWrongFalsely : Prop := ringMayRow.holds Try.pinned (OpenSpec.ofChange ringMayWrong)

/-- 'forebaylaw20.ThrottleOnce': WHATEVER THE INPUT: true; the input reads as it did. -/
def throttleOnceSpec : ChangeSpec := { name := "throttleOnce", fn := fun _ => fun
  | [d1, d2] => { results := [.lit (.bool true)], args := [d1, d2] }
  | _ => none }
def throttleOnceRow : OpenClaim := { program := "ytooofpplhedgcaa", sum := "58a0cdf3c5e09299299d52766987b8f7dfd816c71716217d146e9004f31913a4", func := "forebay/forebaylaw20.ThrottleOnce", spec := "throttleOnce", unfollowed := true, recurses := true, apart := false }
def ThrottleOnceSaid : Prop := throttleOnceRow.holds Try.pinned (OpenSpec.ofChange throttleOnceSpec)

/-- ITS FALSE NEIGHBOUR: 'it returns false'. Refute it at one input. -/
def throttleOnceWrong : ChangeSpec := { name := "throttleOnce", fn := fun _ => fun
  | [d1, d2] => { results := [.lit (.bool false)], args := [d1, d2] }
  | _ => none }
def ThrottleOnceWrongFalsely : Prop := throttleOnceRow.holds Try.pinned (OpenSpec.ofChange throttleOnceWrong)

/-- 'forebaylaw20.ThrottleMay': WHATEVER THE INPUT: true; the input reads as it did. -/
def throttleMaySpec : ChangeSpec := { name := "throttleMay", fn := fun _ => fun
  | [d1, d2] => { results := [.lit (.bool true)], args := [d1, d2] }
  | _ => none }
def throttleMayRow : OpenClaim := { program := "ytooofpplhedgcaa", sum := "58a0cdf3c5e09299299d52766987b8f7dfd816c71716217d146e9004f31913a4", func := "forebay/forebaylaw20.ThrottleMay", spec := "throttleMay", unfollowed := true, recurses := true, apart := false }
def ThrottleMaySaid : Prop := throttleMayRow.holds Try.pinned (OpenSpec.ofChange throttleMaySpec)

/-- ITS FALSE NEIGHBOUR: 'it returns false'. Refute it at one input. -/
def throttleMayWrong : ChangeSpec := { name := "throttleMay", fn := fun _ => fun
  | [d1, d2] => { results := [.lit (.bool false)], args := [d1, d2] }
  | _ => none }
def ThrottleMayWrongFalsely : Prop := throttleMayRow.holds Try.pinned (OpenSpec.ofChange throttleMayWrong)

/-- 'forebaylaw19.CrossOnce': WHATEVER THE INPUT: true; the input reads as it did. -/
def crossOnceSpec : ChangeSpec := { name := "crossOnce", fn := fun _ => fun
  | [d1, d2, d3] => { results := [.lit (.bool true)], args := [d1, d2, d3] }
  | _ => none }
def crossOnceRow : OpenClaim := { program := "ytooofpplhedgcaa", sum := "58a0cdf3c5e09299299d52766987b8f7dfd816c71716217d146e9004f31913a4", func := "forebay/forebaylaw19.CrossOnce", spec := "crossOnce", unfollowed := true, recurses := true, apart := false }
def CrossOnceSaid : Prop := crossOnceRow.holds Try.pinned (OpenSpec.ofChange crossOnceSpec)

/-- ITS FALSE NEIGHBOUR: 'it returns false'. Refute it at one input. -/
def crossOnceWrong : ChangeSpec := { name := "crossOnce", fn := fun _ => fun
  | [d1, d2, d3] => { results := [.lit (.bool false)], args := [d1, d2, d3] }
  | _ => none }
def CrossOnceWrongFalsely : Prop := crossOnceRow.holds Try.pinned (OpenSpec.ofChange crossOnceWrong)

/-- 'forebaylaw19.CrossDoes': WHATEVER THE INPUT: true; the input reads as it did. -/
def crossDoesSpec : ChangeSpec := { name := "crossDoes", fn := fun _ => fun
  | [d] => { results := [.lit (.bool true)], args := [d] }
  | _ => none }
def crossDoesRow : OpenClaim := { program := "ytooofpplhedgcaa", sum := "58a0cdf3c5e09299299d52766987b8f7dfd816c71716217d146e9004f31913a4", func := "forebay/forebaylaw19.CrossDoes", spec := "crossDoes", unfollowed := true, recurses := true, apart := false }
def CrossDoesSaid : Prop := crossDoesRow.holds Try.pinned (OpenSpec.ofChange crossDoesSpec)

/-- ITS FALSE NEIGHBOUR: 'it returns false'. Refute it at one input. -/
def crossDoesWrong : ChangeSpec := { name := "crossDoes", fn := fun _ => fun
  | [d] => { results := [.lit (.bool false)], args := [d] }
  | _ => none }
def CrossDoesWrongFalsely : Prop := crossDoesRow.holds Try.pinned (OpenSpec.ofChange crossDoesWrong)

/- THE SECOND FORM. 'bulk': how many values and letters a reading holds, each counted each time it is reached (what is shared counts as often as it is met; a slice's spare places count too). A statement '..UptoSaid' is the law's where the arguments, and the package variables that the reading takes, are together of bulk at most 1048576: NARROWER than '..Said'. Prove '..Said' where nothing that the law and all that it calls make is longer than what came in: it says more and counts as full. Else prove '..UptoSaid'. A law counts once. -/
mutual
def uptoBulk {H : Type} : DataW H → Nat
  | .lit (.string bytes) => bytes.length + 1
  | .lit _ => 1
  | .nil => 1
  | .ptr d => uptoBulk d + 1
  | .slice elems spare => uptoBulkAll elems + uptoBulkAll spare + 1
  | .agg parts => uptoBulkAll parts + 1
  | .iface _ d => uptoBulk d + 1
  | .map entries => uptoBulkEntries entries + 1
  | .held _ => 1
def uptoBulkAll {H : Type} : List (DataW H) → Nat
  | [] => 0
  | d :: r => uptoBulk d + uptoBulkAll r
def uptoBulkEntries {H : Type} : List (Lit × DataW H) → Nat
  | [] => 0
  | x :: r => uptoBulkEntry x + uptoBulkEntries r
def uptoBulkEntry {H : Type} : Lit × DataW H → Nat
  | (.string bytes, d) => bytes.length + uptoBulk d + 1
  | (_, d) => uptoBulk d + 1
 end
def uptoSmall : (H : Type) → List (DataW H) → Bool := fun _ ds => decide (uptoBulkAll ds ≤ 1048576)
def OpenSpec.upto (s : _root_.Go.ChangeSpec) : _root_.Go.OpenSpec := { _root_.Go.OpenSpec.ofChange s with cond := some uptoSmall }

/-- 'forebaylaw17.RingOwn', WHERE WHAT IT READS IS OF BULK AT MOST 1048576: true; the input reads as it did. -/
def ringOwnUptoRow : OpenClaim := { program := "ytooofpplhedgcaa", sum := "58a0cdf3c5e09299299d52766987b8f7dfd816c71716217d146e9004f31913a4", func := "forebay/forebaylaw17.RingOwn", spec := "ringOwn", unfollowed := true, recurses := true, apart := false, narrowed := true }
def RingOwnUptoSaid : Prop := ringOwnUptoRow.holds Try.pinned (OpenSpec.upto ringOwnSpec)

/-- 'forebaylaw17.RingMay', WHERE WHAT IT READS IS OF BULK AT MOST 1048576: true; the input reads as it did. -/
def ringMayUptoRow : OpenClaim := { program := "ytooofpplhedgcaa", sum := "58a0cdf3c5e09299299d52766987b8f7dfd816c71716217d146e9004f31913a4", func := "forebay/forebaylaw17.RingMay", spec := "ringMay", unfollowed := true, recurses := true, apart := false, narrowed := true }
def RingMayUptoSaid : Prop := ringMayUptoRow.holds Try.pinned (OpenSpec.upto ringMaySpec)

/-- 'forebaylaw20.ThrottleOnce', WHERE WHAT IT READS IS OF BULK AT MOST 1048576: true; the input reads as it did. -/
def throttleOnceUptoRow : OpenClaim := { program := "ytooofpplhedgcaa", sum := "58a0cdf3c5e09299299d52766987b8f7dfd816c71716217d146e9004f31913a4", func := "forebay/forebaylaw20.ThrottleOnce", spec := "throttleOnce", unfollowed := true, recurses := true, apart := false, narrowed := true }
def ThrottleOnceUptoSaid : Prop := throttleOnceUptoRow.holds Try.pinned (OpenSpec.upto throttleOnceSpec)

/-- 'forebaylaw20.ThrottleMay', WHERE WHAT IT READS IS OF BULK AT MOST 1048576: true; the input reads as it did. -/
def throttleMayUptoRow : OpenClaim := { program := "ytooofpplhedgcaa", sum := "58a0cdf3c5e09299299d52766987b8f7dfd816c71716217d146e9004f31913a4", func := "forebay/forebaylaw20.ThrottleMay", spec := "throttleMay", unfollowed := true, recurses := true, apart := false, narrowed := true }
def ThrottleMayUptoSaid : Prop := throttleMayUptoRow.holds Try.pinned (OpenSpec.upto throttleMaySpec)

/-- 'forebaylaw19.CrossOnce', WHERE WHAT IT READS IS OF BULK AT MOST 1048576: true; the input reads as it did. -/
def crossOnceUptoRow : OpenClaim := { program := "ytooofpplhedgcaa", sum := "58a0cdf3c5e09299299d52766987b8f7dfd816c71716217d146e9004f31913a4", func := "forebay/forebaylaw19.CrossOnce", spec := "crossOnce", unfollowed := true, recurses := true, apart := false, narrowed := true }
def CrossOnceUptoSaid : Prop := crossOnceUptoRow.holds Try.pinned (OpenSpec.upto crossOnceSpec)

/-- 'forebaylaw19.CrossDoes', WHERE WHAT IT READS IS OF BULK AT MOST 1048576: true; the input reads as it did. -/
def crossDoesUptoRow : OpenClaim := { program := "ytooofpplhedgcaa", sum := "58a0cdf3c5e09299299d52766987b8f7dfd816c71716217d146e9004f31913a4", func := "forebay/forebaylaw19.CrossDoes", spec := "crossDoes", unfollowed := true, recurses := true, apart := false, narrowed := true }
def CrossDoesUptoSaid : Prop := crossDoesUptoRow.holds Try.pinned (OpenSpec.upto crossDoesSpec)

end Rows
end Go.Proofs.Ytooofpplhedgcaa
