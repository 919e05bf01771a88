/- frame.Table.Free, and a table that is none. -/
import Derived.Test.YtbadinmlnbabiaaRoot
set_option linter.unusedVariables false
set_option linter.unusedSimpArgs false
namespace Go.Proofs.Ytbadinmlnbabiaa
open Go.RowKit
set_option maxRecDepth 100000
set_option maxHeartbeats 8000000
theorem tfree_yes {w0 w : World} {tb gs sb ag hb rb n : Nat} {a b c d : Int} {ms : List Int} {xs : List Value} {hs : List Bool} {bs : List Int} {fr : Nat} {pk : Int} {l : List Ast} (h : TOwn w0 w tb gs sb ag hb rb n a b c d ms xs hs bs fr pk l) (hl : hs.length ≤ 4096) (hbl : bs.length ≤ 100000) (id : Nat) (ht : heldB hs id = true) (hs' : List Bool) (hh : hs.set id false = hs') :
    Calls Try.prog 55 #[.pointer (some ⟨tb, 0, none⟩), .int .i64 id] w fun e w' => e = .returned (.bool true) ∧ TOwn w0 w' tb gs sb ag hb rb n a b c d ms xs hs' (bs ++ [(id : Int)]) fr pk l := by
  have G := Lib.hid (give_yes h hl hbl id ht hs' hh)
  obtain ⟨t5, t6⟩ := tcells h
  clear h ht t6 hh
  go_enter Try.func55, Try.ntmps55
  go_wp2_with (first | (go_at_call 34; refine G.out.mono ?_; rintro e w5 ⟨rfl, h5⟩; clear t5))
  go_ret
  exact ⟨rfl, h5⟩
theorem tfree_no {w0 w : World} {tb gs sb ag hb rb n : Nat} {a b c d : Int} {ms : List Int} {xs : List Value} {hs : List Bool} {bs : List Int} {fr : Nat} {pk : Int} {l : List Ast} (h : TOwn w0 w tb gs sb ag hb rb n a b c d ms xs hs bs fr pk l) (hl : hs.length ≤ 4096) (id : Int) (ht : heldB hs id = false) :
    Calls Try.prog 55 #[.pointer (some ⟨tb, 0, none⟩), .int .i64 id] w fun e w' => e = .returned (.bool false) ∧ w = w' := by
  have G := Lib.hid (give_no h hl id ht)
  obtain ⟨t5, t6⟩ := tcells h
  clear h ht t6
  go_enter Try.func55, Try.ntmps55
  go_wp2_with (first | (go_at_call 34; refine G.out.mono ?_; rintro e w5 ⟨rfl, rfl⟩))
  go_ret
  exact ⟨rfl, rfl⟩
theorem free_nil (id : Int) (w : World) : Calls Try.prog 55 #[.pointer none, .int .i64 id] w fun e w' => e = .returned (.bool false) ∧ w = w' := by
  go_enter Try.func55, Try.ntmps55
  go_wp2
  go_ret
  exact ⟨rfl, rfl⟩
theorem at_nil (id : Int) (w : World) : Calls Try.prog 51 #[.pointer none, .int .i64 id] w fun e w' => e = .returned (.pointer none) ∧ w = w' := by
  go_enter Try.func51, Try.ntmps51
  go_wp2
  go_ret
  exact ⟨rfl, rfl⟩
theorem tused_nil (w : World) : Calls Try.prog 52 #[.pointer none] w fun e w' => e = .returned (.int .i64 0) ∧ w = w' := by
  go_enter Try.func52, Try.ntmps52
  go_wp2
  go_ret
  exact ⟨rfl, rfl⟩
theorem tpeak_nil (w : World) : Calls Try.prog 53 #[.pointer none] w fun e w' => e = .returned (.int .i64 0) ∧ w = w' := by
  go_enter Try.func53, Try.ntmps53
  go_wp2
  go_ret
  exact ⟨rfl, rfl⟩
theorem make_nil (FV : Array Value) (w : World) : Calls Try.prog 50 #[.pointer none, .agg FV] w fun e w' => e = .returned (.tuple #[.int .i64 0, .bool false]) ∧ Below w.heap.size w w' := by
  go_enter Try.func50, Try.ntmps50
  go_wp2
  go_ret2
  exact ⟨rfl, by go_grown⟩
end Go.Proofs.Ytbadinmlnbabiaa
