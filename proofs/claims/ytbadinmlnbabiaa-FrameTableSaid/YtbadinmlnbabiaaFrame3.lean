/- Package frame: the frame of a number, and the small ones. -/
import Derived.Test.YtbadinmlnbabiaaFrame2
set_option linter.unusedVariables false
set_option linter.unusedSimpArgs false
namespace Go.Proofs.Ytbadinmlnbabiaa
open Go.RowKit
set_option maxRecDepth 100000
set_option maxHeartbeats 8000000
theorem tcells {w0 w : World} {tb gs sb ag hb rb n : Nat} {a b c d : Int} {ms : List Int} {xs : List Value} {hs : List Bool} {bs : List Int} {fr : Nat} {pk : Int} {l : List Ast} (h : TOwn w0 w tb gs sb ag hb rb n a b c d ms xs hs bs fr pk l) :
    w.cell? ⟨tb, 5, none⟩ = some (.pointer (some ⟨ag, 0, none⟩)) ∧ w.cell? ⟨tb, 6, none⟩ = some (.slice (some ⟨rb, 0, none⟩) n n) := by
  obtain ⟨bv, hO⟩ := h
  exact ⟨(hO.cget 3 rfl 5).1, (hO.cget 3 rfl 6).1⟩
theorem at_yes {w0 w : World} {tb gs sb ag hb rb n : Nat} {a b c d : Int} {ms : List Int} {xs : List Value} {hs : List Bool} {bs : List Int} {fr : Nat} {pk : Int} {l : List Ast} (h : TOwn w0 w tb gs sb ag hb rb n a b c d ms xs hs bs fr pk l) (hl : hs.length ≤ 4096) (id : Nat) (hid : id < n) (ht : heldB hs id = true) :
    Calls Try.prog 51 #[.pointer (some ⟨tb, 0, none⟩), .int .i64 id] w fun e w' => e = .returned (.pointer (some ⟨rb, id * 19, none⟩)) ∧ w = w' := by
  have H := Lib.hid (held_own h hl id true ht)
  obtain ⟨t5, t6⟩ := tcells h
  clear h ht
  go_enter Try.func51, Try.ntmps51
  go_wp2_with (first | (go_at_call 38; refine H.out.mono ?_; rintro e w5 ⟨rfl, rfl⟩))
  go_ret
  exact ⟨rfl, rfl⟩
theorem at_no {w0 w : World} {tb gs sb ag hb rb n : Nat} {a b c d : Int} {ms : List Int} {xs : List Value} {hs : List Bool} {bs : List Int} {fr : Nat} {pk : Int} {l : List Ast} (h : TOwn w0 w tb gs sb ag hb rb n a b c d ms xs hs bs fr pk l) (hl : hs.length ≤ 4096) (id : Int) (ht : heldB hs id = false) :
    Calls Try.prog 51 #[.pointer (some ⟨tb, 0, none⟩), .int .i64 id] w fun e w' => e = .returned (.pointer none) ∧ w = w' := by
  have H := Lib.hid (held_own h hl id false ht)
  obtain ⟨t5, t6⟩ := tcells h
  clear h ht
  go_enter Try.func51, Try.ntmps51
  go_wp2_with (first | (go_at_call 38; refine H.out.mono ?_; rintro e w5 ⟨rfl, rfl⟩))
  go_ret
  exact ⟨rfl, rfl⟩
theorem make_no {w0 w : World} {tb gs sb ag hb rb n : Nat} {a b c d : Int} {ms : List Int} {xs : List Value} {hs : List Bool} {bs : List Int} {fr : Nat} {pk : Int} {l : List Ast} (h : TOwn w0 w tb gs sb ag hb rb n a b c d ms xs hs bs fr pk l) (hl : hs.length ≤ 4096) (hfr : fr ≤ 4096) (hn : nextA hs bs fr = none) (FV : Array Value) :
    Calls Try.prog 50 #[.pointer (some ⟨tb, 0, none⟩), .agg FV] w fun e w' => e = .returned (.tuple #[.int .i64 0, .bool false]) ∧ TOwn w0 w' tb gs sb ag hb rb n a b c d ms xs hs bs fr pk l := by
  have hB := h.boxed FV 65
  clear h
  have TK := Lib.hid (take_no hB hl hfr hn)
  obtain ⟨t0, t1, t2, t3, t4, t5, t6⟩ := tab_keep hB
  clear hn hB t0 t1 t2 t3 t4 t6
  go_enter Try.func50, Try.ntmps50
  go_wp2_with (first | (go_at_call 32; refine TK.out.mono ?_; rintro e w1 ⟨rfl, h1⟩; clear t5))
  go_ret2
  exact ⟨rfl, h1.drop⟩
theorem tused {w0 w : World} {tb gs sb ag hb rb n : Nat} {a b c d : Int} {ms : List Int} {xs : List Value} {hs : List Bool} {bs : List Int} {fr : Nat} {pk : Int} {l : List Ast} (h : TOwn w0 w tb gs sb ag hb rb n a b c d ms xs hs bs fr pk l) (hl : hs.length ≤ 4096) :
    Calls Try.prog 52 #[.pointer (some ⟨tb, 0, none⟩)] w fun e w' => e = .returned (.int .i64 (cnt hs)) ∧ TOwn w0 w' tb gs sb ag hb rb n a b c d ms xs hs bs fr pk l := by
  have U := Lib.hid (used_own h hl)
  obtain ⟨t5, t6⟩ := tcells h
  clear h t6
  generalize cnt hs = C at *
  go_enter Try.func52, Try.ntmps52
  go_wp2_with (first | (go_at_call 36; refine U.out.mono ?_; rintro e w5 ⟨rfl, h5⟩))
  go_ret
  exact ⟨rfl, h5⟩
theorem tpeak {w0 w : World} {tb gs sb ag hb rb n : Nat} {a b c d : Int} {ms : List Int} {xs : List Value} {hs : List Bool} {bs : List Int} {fr : Nat} {pk : Int} {l : List Ast} (h : TOwn w0 w tb gs sb ag hb rb n a b c d ms xs hs bs fr pk l) :
    Calls Try.prog 53 #[.pointer (some ⟨tb, 0, none⟩)] w fun e w' => e = .returned (.int .i64 pk) ∧ w = w' := by
  have U := Lib.hid (peak_own h)
  obtain ⟨t5, t6⟩ := tcells h
  clear h t6
  go_enter Try.func53, Try.ntmps53
  go_wp2_with (first | (go_at_call 37; refine U.out.mono ?_; rintro e w5 ⟨rfl, rfl⟩))
  go_ret
  exact ⟨rfl, rfl⟩
end Go.Proofs.Ytbadinmlnbabiaa
