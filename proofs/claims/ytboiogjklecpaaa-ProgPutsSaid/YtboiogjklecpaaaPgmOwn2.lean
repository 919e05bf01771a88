/- A program of one's own, told as functions that lie in memory. -/
import Derived.Test.YtboiogjklecpaaaPgmOwn
import Derived.Test.YtboiogjklecpaaaPgmSame
set_option linter.unusedVariables false
set_option linter.unusedSimpArgs false
namespace Go.Proofs.Ytboiogjklecpaaa
open Go.RowKit
set_option maxRecDepth 100000
set_option maxHeartbeats 8000000
/-- A program of one's own, made since. -/
theorem own_any' (mem : Int) (fs : List (List I4)) (ao : Option Addr) (cap : Nat) (w0 w : World) (h : LiesF w0 ao cap fs) (hs : Small fs) (hb : Below w0.heap.size w0 w) :
    Calls Try.prog 30 #[.agg #[.int .i64 mem, .slice ao fs.length cap]] w fun e w' => ∃ oa oc, e = .returned (.agg #[.int .i64 mem, .slice oa fs.length oc]) ∧ LiesF w' oa oc fs ∧ Below w.heap.size w w' :=
  (own_any mem fs ao cap w (h.below hb) hs.1 hs.2).mono fun e w' ⟨oa, oc, ps, he, hps, hO⟩ => ⟨oa, oc, he, by
    have := liesF_of (hO.row 0 rfl) (hO.at 1 rfl) (by rw [← hps.out, List.length_map])
    rwa [hps.out] at this, hO.below⟩
end Go.Proofs.Ytboiogjklecpaaa
