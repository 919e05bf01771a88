/-
  No cell of these rows narrows 'for every input' (looked for: loops, veiled, ifaces, maps, wideKeys, modest, calm, conditions, laid).
  DERIVED. THE GIVEN ROWS OF THIS SEAT. 11 by the template 'for every input the law returns true; each argument reads behind the call as it read before'; 0 by the template 'total and deterministic' (their statements: YtpijgjalabocpaaTotals.lean).
  GIVEN WITH THE SEED: the statements are not yours to turn. If you find one false, say at which input.
  Laid BY PROGRAM, IN A SANDBOX (cutbox-rows.mjs): the forced cells as the released guide's own fill.sh prints them over the translation d7f8f1d147012f7d… (all of the seat's roots in one cut). By AI agents, Wed Nov 11 2026. No macro, syntax, notation, axiom, sorry.
-/
import Derived.Test.YtpijgjalabocpaaChecked
import GoSem.Claim
import GoSem.ClaimJoined
import GoSem.ClaimMapViews
import Derived.JoinedTies
import Derived.KernelRfl
namespace Go.Proofs.Ytpijgjalabocpaa
/- THE CELL 'sum', in the pinned program and in every row, IS THE sha256 OF THE DUMP (.gsa) THAT YtpijgjalabocpaaProg.lean LOADS. Nothing in Lean hashes anything: it is a label: what it is worth is what the hold of that sum in a sandbox is worth. -/
noncomputable def Try.pinned : Pinned := { name := "ytpijgjalabocpaa", sum := "d7f8f1d147012f7dddae620b825b1f95db732349497b07dae111c88bd8ca2324", checked := Try.checked }
namespace Rows
def none {H : Type} : Left H := { results := [], args := [] }

/-- 'forebaylaw09.StoreTurns': WHATEVER THE INPUT: true; the input reads as it did. -/
def storeTurnsSpec : ChangeSpec := { name := "storeTurns", fn := fun _ => fun
  | [d1, d2] => { results := [.lit (.bool true)], args := [d1, d2] }
  | _ => none }
def storeTurnsRow : OpenClaim := { program := "ytpijgjalabocpaa", sum := "d7f8f1d147012f7dddae620b825b1f95db732349497b07dae111c88bd8ca2324", func := "forebay/forebaylaw09.StoreTurns", spec := "storeTurns", unfollowed := true, recurses := true, apart := false }
def StoreTurnsSaid : Prop := storeTurnsRow.holds Try.pinned (OpenSpec.ofChange storeTurnsSpec)

/-- ITS FALSE NEIGHBOUR: 'it returns false'. Refute it at one input. -/
def storeTurnsWrong : ChangeSpec := { name := "storeTurns", fn := fun _ => fun
  | [d1, d2] => { results := [.lit (.bool false)], args := [d1, d2] }
  | _ => none }
def StoreTurnsWrongFalsely : Prop := storeTurnsRow.holds Try.pinned (OpenSpec.ofChange storeTurnsWrong)

/-- 'forebaylaw09.StoreLast': WHATEVER THE INPUT: true; the input reads as it did. -/
def storeLastSpec : ChangeSpec := { name := "storeLast", fn := fun _ => fun
  | [d1, d2] => { results := [.lit (.bool true)], args := [d1, d2] }
  | _ => none }
def storeLastRow : OpenClaim := { program := "ytpijgjalabocpaa", sum := "d7f8f1d147012f7dddae620b825b1f95db732349497b07dae111c88bd8ca2324", func := "forebay/forebaylaw09.StoreLast", spec := "storeLast", unfollowed := true, recurses := true, apart := false }
def StoreLastSaid : Prop := storeLastRow.holds Try.pinned (OpenSpec.ofChange storeLastSpec)

/-- ITS FALSE NEIGHBOUR: 'it returns false'. Refute it at one input. -/
def storeLastWrong : ChangeSpec := { name := "storeLast", fn := fun _ => fun
  | [d1, d2] => { results := [.lit (.bool false)], args := [d1, d2] }
  | _ => none }
def StoreLastWrongFalsely : Prop := storeLastRow.holds Try.pinned (OpenSpec.ofChange storeLastWrong)

/-- 'forebaylaw09.StoreFills': WHATEVER THE INPUT: true; the input reads as it did. -/
def storeFillsSpec : ChangeSpec := { name := "storeFills", fn := fun _ => fun
  | [d1, d2, d3, d4, d5] => { results := [.lit (.bool true)], args := [d1, d2, d3, d4, d5] }
  | _ => none }
def storeFillsRow : OpenClaim := { program := "ytpijgjalabocpaa", sum := "d7f8f1d147012f7dddae620b825b1f95db732349497b07dae111c88bd8ca2324", func := "forebay/forebaylaw09.StoreFills", spec := "storeFills", unfollowed := true, recurses := true, apart := false }
def StoreFillsSaid : Prop := storeFillsRow.holds Try.pinned (OpenSpec.ofChange storeFillsSpec)

/-- ITS FALSE NEIGHBOUR: 'it returns false'. Refute it at one input. -/
def storeFillsWrong : ChangeSpec := { name := "storeFills", fn := fun _ => fun
  | [d1, d2, d3, d4, d5] => { results := [.lit (.bool false)], args := [d1, d2, d3, d4, d5] }
  | _ => none }
def StoreFillsWrongFalsely : Prop := storeFillsRow.holds Try.pinned (OpenSpec.ofChange storeFillsWrong)

/-- 'forebaylaw09.StoreDoes': WHATEVER THE INPUT: true; the input reads as it did. -/
def storeDoesSpec : ChangeSpec := { name := "storeDoes", fn := fun _ => fun
  | [d1, d2] => { results := [.lit (.bool true)], args := [d1, d2] }
  | _ => none }
def storeDoesRow : OpenClaim := { program := "ytpijgjalabocpaa", sum := "d7f8f1d147012f7dddae620b825b1f95db732349497b07dae111c88bd8ca2324", func := "forebay/forebaylaw09.StoreDoes", spec := "storeDoes", unfollowed := true, recurses := true, apart := false }
def StoreDoesSaid : Prop := storeDoesRow.holds Try.pinned (OpenSpec.ofChange storeDoesSpec)

/-- ITS FALSE NEIGHBOUR: 'it returns false'. Refute it at one input. -/
def storeDoesWrong : ChangeSpec := { name := "storeDoes", fn := fun _ => fun
  | [d1, d2] => { results := [.lit (.bool false)], args := [d1, d2] }
  | _ => none }
def StoreDoesWrongFalsely : Prop := storeDoesRow.holds Try.pinned (OpenSpec.ofChange storeDoesWrong)

/-- 'forebaylaw09.StoreSeen': WHATEVER THE INPUT: true; the input reads as it did. -/
def storeSeenSpec : ChangeSpec := { name := "storeSeen", fn := fun _ => fun
  | [d1, d2] => { results := [.lit (.bool true)], args := [d1, d2] }
  | _ => none }
def storeSeenRow : OpenClaim := { program := "ytpijgjalabocpaa", sum := "d7f8f1d147012f7dddae620b825b1f95db732349497b07dae111c88bd8ca2324", func := "forebay/forebaylaw09.StoreSeen", spec := "storeSeen", unfollowed := true, recurses := true, apart := false }
def StoreSeenSaid : Prop := storeSeenRow.holds Try.pinned (OpenSpec.ofChange storeSeenSpec)

/-- ITS FALSE NEIGHBOUR: 'it returns false'. Refute it at one input. -/
def storeSeenWrong : ChangeSpec := { name := "storeSeen", fn := fun _ => fun
  | [d1, d2] => { results := [.lit (.bool false)], args := [d1, d2] }
  | _ => none }
def StoreSeenWrongFalsely : Prop := storeSeenRow.holds Try.pinned (OpenSpec.ofChange storeSeenWrong)

/-- 'forebaylaw12.TicketOrder': WHATEVER THE INPUT: true; the input reads as it did. -/
def ticketOrderSpec : ChangeSpec := { name := "ticketOrder", fn := fun _ => fun
  | [d] => { results := [.lit (.bool true)], args := [d] }
  | _ => none }
def ticketOrderRow : OpenClaim := { program := "ytpijgjalabocpaa", sum := "d7f8f1d147012f7dddae620b825b1f95db732349497b07dae111c88bd8ca2324", func := "forebay/forebaylaw12.TicketOrder", spec := "ticketOrder", unfollowed := true, recurses := true, apart := false }
def TicketOrderSaid : Prop := ticketOrderRow.holds Try.pinned (OpenSpec.ofChange ticketOrderSpec)

/-- ITS FALSE NEIGHBOUR: 'it returns false'. Refute it at one input. -/
def ticketOrderWrong : ChangeSpec := { name := "ticketOrder", fn := fun _ => fun
  | [d] => { results := [.lit (.bool false)], args := [d] }
  | _ => none }
def TicketOrderWrongFalsely : Prop := ticketOrderRow.holds Try.pinned (OpenSpec.ofChange ticketOrderWrong)

/-- 'forebaylaw12.TicketComes': WHATEVER THE INPUT: true; the input reads as it did. -/
def ticketComesSpec : ChangeSpec := { name := "ticketComes", fn := fun _ => fun
  | [d1, d2] => { results := [.lit (.bool true)], args := [d1, d2] }
  | _ => none }
def ticketComesRow : OpenClaim := { program := "ytpijgjalabocpaa", sum := "d7f8f1d147012f7dddae620b825b1f95db732349497b07dae111c88bd8ca2324", func := "forebay/forebaylaw12.TicketComes", spec := "ticketComes", unfollowed := true, recurses := true, apart := false }
def TicketComesSaid : Prop := ticketComesRow.holds Try.pinned (OpenSpec.ofChange ticketComesSpec)

/-- ITS FALSE NEIGHBOUR: 'it returns false'. Refute it at one input. -/
def ticketComesWrong : ChangeSpec := { name := "ticketComes", fn := fun _ => fun
  | [d1, d2] => { results := [.lit (.bool false)], args := [d1, d2] }
  | _ => none }
def TicketComesWrongFalsely : Prop := ticketComesRow.holds Try.pinned (OpenSpec.ofChange ticketComesWrong)

/-- 'forebaylaw12.TicketDoes': WHATEVER THE INPUT: true; the input reads as it did. -/
def ticketDoesSpec : ChangeSpec := { name := "ticketDoes", fn := fun _ => fun
  | [d1, d2] => { results := [.lit (.bool true)], args := [d1, d2] }
  | _ => none }
def ticketDoesRow : OpenClaim := { program := "ytpijgjalabocpaa", sum := "d7f8f1d147012f7dddae620b825b1f95db732349497b07dae111c88bd8ca2324", func := "forebay/forebaylaw12.TicketDoes", spec := "ticketDoes", unfollowed := true, recurses := true, apart := false }
def TicketDoesSaid : Prop := ticketDoesRow.holds Try.pinned (OpenSpec.ofChange ticketDoesSpec)

/-- ITS FALSE NEIGHBOUR: 'it returns false'. Refute it at one input. -/
def ticketDoesWrong : ChangeSpec := { name := "ticketDoes", fn := fun _ => fun
  | [d1, d2] => { results := [.lit (.bool false)], args := [d1, d2] }
  | _ => none }
def TicketDoesWrongFalsely : Prop := ticketDoesRow.holds Try.pinned (OpenSpec.ofChange ticketDoesWrong)

/-- 'forebaylaw18.JoinLast': WHATEVER THE INPUT: true; the input reads as it did. -/
def joinLastSpec : ChangeSpec := { name := "joinLast", fn := fun _ => fun
  | [d1, d2] => { results := [.lit (.bool true)], args := [d1, d2] }
  | _ => none }
def joinLastRow : OpenClaim := { program := "ytpijgjalabocpaa", sum := "d7f8f1d147012f7dddae620b825b1f95db732349497b07dae111c88bd8ca2324", func := "forebay/forebaylaw18.JoinLast", spec := "joinLast", unfollowed := true, recurses := true, apart := false }
def JoinLastSaid : Prop := joinLastRow.holds Try.pinned (OpenSpec.ofChange joinLastSpec)

/-- ITS FALSE NEIGHBOUR: 'it returns false'. Refute it at one input. -/
def joinLastWrong : ChangeSpec := { name := "joinLast", fn := fun _ => fun
  | [d1, d2] => { results := [.lit (.bool false)], args := [d1, d2] }
  | _ => none }
def JoinLastWrongFalsely : Prop := joinLastRow.holds Try.pinned (OpenSpec.ofChange joinLastWrong)

/-- 'forebaylaw18.JoinSums': WHATEVER THE INPUT: true; the input reads as it did. -/
def joinSumsSpec : ChangeSpec := { name := "joinSums", fn := fun _ => fun
  | [d1, d2] => { results := [.lit (.bool true)], args := [d1, d2] }
  | _ => none }
def joinSumsRow : OpenClaim := { program := "ytpijgjalabocpaa", sum := "d7f8f1d147012f7dddae620b825b1f95db732349497b07dae111c88bd8ca2324", func := "forebay/forebaylaw18.JoinSums", spec := "joinSums", unfollowed := true, recurses := true, apart := false }
def JoinSumsSaid : Prop := joinSumsRow.holds Try.pinned (OpenSpec.ofChange joinSumsSpec)

/-- ITS FALSE NEIGHBOUR: 'it returns false'. Refute it at one input. -/
def joinSumsWrong : ChangeSpec := { name := "joinSums", fn := fun _ => fun
  | [d1, d2] => { results := [.lit (.bool false)], args := [d1, d2] }
  | _ => none }
def JoinSumsWrongFalsely : Prop := joinSumsRow.holds Try.pinned (OpenSpec.ofChange joinSumsWrong)

/-- 'forebaylaw18.JoinDoes': WHATEVER THE INPUT: true; the input reads as it did. -/
def joinDoesSpec : ChangeSpec := { name := "joinDoes", fn := fun _ => fun
  | [d1, d2, d3] => { results := [.lit (.bool true)], args := [d1, d2, d3] }
  | _ => none }
def joinDoesRow : OpenClaim := { program := "ytpijgjalabocpaa", sum := "d7f8f1d147012f7dddae620b825b1f95db732349497b07dae111c88bd8ca2324", func := "forebay/forebaylaw18.JoinDoes", spec := "joinDoes", unfollowed := true, recurses := true, apart := false }
def JoinDoesSaid : Prop := joinDoesRow.holds Try.pinned (OpenSpec.ofChange joinDoesSpec)

/-- ITS FALSE NEIGHBOUR: 'it returns false'. Refute it at one input. -/
def joinDoesWrong : ChangeSpec := { name := "joinDoes", fn := fun _ => fun
  | [d1, d2, d3] => { results := [.lit (.bool false)], args := [d1, d2, d3] }
  | _ => none }
def JoinDoesWrongFalsely : Prop := joinDoesRow.holds Try.pinned (OpenSpec.ofChange joinDoesWrong)

/- THE SECOND FORM. 'bulk': how many values and letters a reading holds, each counted each time it is reached (what is shared counts as often as it is met; a slice's spare places count too). A statement '..UptoSaid' is the law's where the arguments, and the package variables that the reading takes, are together of bulk at most 1048576: NARROWER than '..Said'. Prove '..Said' where nothing that the law and all that it calls make is longer than what came in: it says more and counts as full. Else prove '..UptoSaid'. A law counts once. -/
mutual
def uptoBulk {H : Type} : DataW H → Nat
  | .lit (.string bytes) => bytes.length + 1
  | .lit _ => 1
  | .nil => 1
  | .ptr d => uptoBulk d + 1
  | .slice elems spare => uptoBulkAll elems + uptoBulkAll spare + 1
  | .agg parts => uptoBulkAll parts + 1
  | .iface _ d => uptoBulk d + 1
  | .map entries => uptoBulkEntries entries + 1
  | .held _ => 1
def uptoBulkAll {H : Type} : List (DataW H) → Nat
  | [] => 0
  | d :: r => uptoBulk d + uptoBulkAll r
def uptoBulkEntries {H : Type} : List (Lit × DataW H) → Nat
  | [] => 0
  | x :: r => uptoBulkEntry x + uptoBulkEntries r
def uptoBulkEntry {H : Type} : Lit × DataW H → Nat
  | (.string bytes, d) => bytes.length + uptoBulk d + 1
  | (_, d) => uptoBulk d + 1
 end
def uptoSmall : (H : Type) → List (DataW H) → Bool := fun _ ds => decide (uptoBulkAll ds ≤ 1048576)
def OpenSpec.upto (s : _root_.Go.ChangeSpec) : _root_.Go.OpenSpec := { _root_.Go.OpenSpec.ofChange s with cond := some uptoSmall }

/-- 'forebaylaw09.StoreTurns', WHERE WHAT IT READS IS OF BULK AT MOST 1048576: true; the input reads as it did. -/
def storeTurnsUptoRow : OpenClaim := { program := "ytpijgjalabocpaa", sum := "d7f8f1d147012f7dddae620b825b1f95db732349497b07dae111c88bd8ca2324", func := "forebay/forebaylaw09.StoreTurns", spec := "storeTurns", unfollowed := true, recurses := true, apart := false, narrowed := true }
def StoreTurnsUptoSaid : Prop := storeTurnsUptoRow.holds Try.pinned (OpenSpec.upto storeTurnsSpec)

/-- 'forebaylaw09.StoreLast', WHERE WHAT IT READS IS OF BULK AT MOST 1048576: true; the input reads as it did. -/
def storeLastUptoRow : OpenClaim := { program := "ytpijgjalabocpaa", sum := "d7f8f1d147012f7dddae620b825b1f95db732349497b07dae111c88bd8ca2324", func := "forebay/forebaylaw09.StoreLast", spec := "storeLast", unfollowed := true, recurses := true, apart := false, narrowed := true }
def StoreLastUptoSaid : Prop := storeLastUptoRow.holds Try.pinned (OpenSpec.upto storeLastSpec)

/-- 'forebaylaw09.StoreFills', WHERE WHAT IT READS IS OF BULK AT MOST 1048576: true; the input reads as it did. -/
def storeFillsUptoRow : OpenClaim := { program := "ytpijgjalabocpaa", sum := "d7f8f1d147012f7dddae620b825b1f95db732349497b07dae111c88bd8ca2324", func := "forebay/forebaylaw09.StoreFills", spec := "storeFills", unfollowed := true, recurses := true, apart := false, narrowed := true }
def StoreFillsUptoSaid : Prop := storeFillsUptoRow.holds Try.pinned (OpenSpec.upto storeFillsSpec)

/-- 'forebaylaw09.StoreDoes', WHERE WHAT IT READS IS OF BULK AT MOST 1048576: true; the input reads as it did. -/
def storeDoesUptoRow : OpenClaim := { program := "ytpijgjalabocpaa", sum := "d7f8f1d147012f7dddae620b825b1f95db732349497b07dae111c88bd8ca2324", func := "forebay/forebaylaw09.StoreDoes", spec := "storeDoes", unfollowed := true, recurses := true, apart := false, narrowed := true }
def StoreDoesUptoSaid : Prop := storeDoesUptoRow.holds Try.pinned (OpenSpec.upto storeDoesSpec)

/-- 'forebaylaw09.StoreSeen', WHERE WHAT IT READS IS OF BULK AT MOST 1048576: true; the input reads as it did. -/
def storeSeenUptoRow : OpenClaim := { program := "ytpijgjalabocpaa", sum := "d7f8f1d147012f7dddae620b825b1f95db732349497b07dae111c88bd8ca2324", func := "forebay/forebaylaw09.StoreSeen", spec := "storeSeen", unfollowed := true, recurses := true, apart := false, narrowed := true }
def StoreSeenUptoSaid : Prop := storeSeenUptoRow.holds Try.pinned (OpenSpec.upto storeSeenSpec)

/-- 'forebaylaw12.TicketOrder', WHERE WHAT IT READS IS OF BULK AT MOST 1048576: true; the input reads as it did. -/
def ticketOrderUptoRow : OpenClaim := { program := "ytpijgjalabocpaa", sum := "d7f8f1d147012f7dddae620b825b1f95db732349497b07dae111c88bd8ca2324", func := "forebay/forebaylaw12.TicketOrder", spec := "ticketOrder", unfollowed := true, recurses := true, apart := false, narrowed := true }
def TicketOrderUptoSaid : Prop := ticketOrderUptoRow.holds Try.pinned (OpenSpec.upto ticketOrderSpec)

/-- 'forebaylaw12.TicketComes', WHERE WHAT IT READS IS OF BULK AT MOST 1048576: true; the input reads as it did. -/
def ticketComesUptoRow : OpenClaim := { program := "ytpijgjalabocpaa", sum := "d7f8f1d147012f7dddae620b825b1f95db732349497b07dae111c88bd8ca2324", func := "forebay/forebaylaw12.TicketComes", spec := "ticketComes", unfollowed := true, recurses := true, apart := false, narrowed := true }
def TicketComesUptoSaid : Prop := ticketComesUptoRow.holds Try.pinned (OpenSpec.upto ticketComesSpec)

/-- 'forebaylaw12.TicketDoes', WHERE WHAT IT READS IS OF BULK AT MOST 1048576: true; the input reads as it did. -/
def ticketDoesUptoRow : OpenClaim := { program := "ytpijgjalabocpaa", sum := "d7f8f1d147012f7dddae620b825b1f95db732349497b07dae111c88bd8ca2324", func := "forebay/forebaylaw12.TicketDoes", spec := "ticketDoes", unfollowed := true, recurses := true, apart := false, narrowed := true }
def TicketDoesUptoSaid : Prop := ticketDoesUptoRow.holds Try.pinned (OpenSpec.upto ticketDoesSpec)

/-- 'forebaylaw18.JoinLast', WHERE WHAT IT READS IS OF BULK AT MOST 1048576: true; the input reads as it did. -/
def joinLastUptoRow : OpenClaim := { program := "ytpijgjalabocpaa", sum := "d7f8f1d147012f7dddae620b825b1f95db732349497b07dae111c88bd8ca2324", func := "forebay/forebaylaw18.JoinLast", spec := "joinLast", unfollowed := true, recurses := true, apart := false, narrowed := true }
def JoinLastUptoSaid : Prop := joinLastUptoRow.holds Try.pinned (OpenSpec.upto joinLastSpec)

/-- 'forebaylaw18.JoinSums', WHERE WHAT IT READS IS OF BULK AT MOST 1048576: true; the input reads as it did. -/
def joinSumsUptoRow : OpenClaim := { program := "ytpijgjalabocpaa", sum := "d7f8f1d147012f7dddae620b825b1f95db732349497b07dae111c88bd8ca2324", func := "forebay/forebaylaw18.JoinSums", spec := "joinSums", unfollowed := true, recurses := true, apart := false, narrowed := true }
def JoinSumsUptoSaid : Prop := joinSumsUptoRow.holds Try.pinned (OpenSpec.upto joinSumsSpec)

/-- 'forebaylaw18.JoinDoes', WHERE WHAT IT READS IS OF BULK AT MOST 1048576: true; the input reads as it did. -/
def joinDoesUptoRow : OpenClaim := { program := "ytpijgjalabocpaa", sum := "d7f8f1d147012f7dddae620b825b1f95db732349497b07dae111c88bd8ca2324", func := "forebay/forebaylaw18.JoinDoes", spec := "joinDoes", unfollowed := true, recurses := true, apart := false, narrowed := true }
def JoinDoesUptoSaid : Prop := joinDoesUptoRow.holds Try.pinned (OpenSpec.upto joinDoesSpec)

end Rows
end Go.Proofs.Ytpijgjalabocpaa
