/- Package model: a plain deque of integers. -/
import Derived.Test.YtofnjapgacgdlaaKit
import Derived.Test.YtofnjapgacgdlaaLies
import Derived.Lib.MinMax
set_option linter.unusedVariables false
set_option linter.unusedSimpArgs false
namespace Go.Proofs.Ytofnjapgacgdlaa
open Go.RowKit
set_option maxRecDepth 100000
set_option maxHeartbeats 8000000
theorem Try.infoIntM : (Try.prog.info? 3).map (fun i => (i.zero, i.size, i.bytes)) = some (some (.int .i64 0), 1, 8) := by kernel_rfl
theorem Own.pmm {w0 w : World} {l l' : List Ast} (h : Own w0 w l) (hp : l.Perm l') : Own w0 w l' :=
  ⟨h.below, fun A hA => h.all A (hp.mem_iff.2 hA), fun A hA => h.own A (hp.mem_iff.2 hA), hp.pairwise h.sep (fun hab k hk hk' => hab k hk' hk)⟩
/-- The nil row. -/
def nilA : Ast := rowA 3 1 (.slice none 0 0) 0 []
theorem Own.nils {w0 w : World} {l : List Ast} (h : Own w0 w l) : Own w0 w (l ++ [nilA]) := h.push (Below.refl _ _) nilA (Row.nil _ _ _) (by simp [nilA, rowA, Value.ownBlock])
/-- A deque: its two cells, and the row of what is in it. -/
def dqL (db : Nat) (bv : Value) (M : Int) (xs : List Int) (l : List Ast) : List Ast :=
  cellsA db #[bv, .int .i64 M] 76 :: rowA 3 1 bv xs.length (xs.map (.int .i64)) :: l
def DOwn (w0 w : World) (db : Nat) (M : Int) (xs : List Int) (l : List Ast) : Prop := ∃ bv, Own w0 w (dqL db bv M xs l)
theorem DOwn.old {w0 w : World} {db : Nat} {M : Int} {xs : List Int} {l : List Ast} (h : DOwn w0 w db M xs l) {p : Addr} {v : Value} (hp : w0.cell? p = some v) : w.cell? p = some v := h.elim fun bv h => h.old hp
theorem DOwn.below {w0 w : World} {db : Nat} {M : Int} {xs : List Int} {l : List Ast} (h : DOwn w0 w db M xs l) : Below w0.heap.size w0 w := h.elim fun bv h => h.below
theorem DOwn.drewN {w0 w : World} {db : Nat} {M : Int} {xs : List Int} {l : List Ast} (h : DOwn w0 w db M xs l) (n : Nat) : DOwn w0 (w.drewN n) db M xs l := h.elim fun bv h => ⟨bv, h.drewN n⟩
theorem dNew_any (n M : Int) (hM : min (max n 0) 1000 = M) {w0 w : World} {l : List Ast} (h : Own w0 w l) : Calls Try.prog 13 #[.int .i64 n] w fun e w' => ∃ db, e = .returned (.pointer (some ⟨db, 0, none⟩)) ∧ DOwn w0 w' db M [] l := by
  have h1 := (h.box #[.slice none 0 0, .int .i64 M] 76).nils
  subst hM
  go_enter Try.func13, Try.ntmps13
  go_wp2
  go_ret
  refine ⟨_, rfl, .slice none 0 0, h1.pmm ?_⟩
  simp only [dqL, List.append_assoc]
  exact List.perm_append_comm (l₁ := l) (l₂ := [_, _])
theorem dLen {w0 w : World} {db : Nat} {M : Int} {xs : List Int} {l : List Ast} (h : DOwn w0 w db M xs l) : Calls Try.prog 17 #[.pointer (some ⟨db, 0, none⟩)] w fun e w' => e = .returned (.int .i64 xs.length) ∧ w = w' := by
  obtain ⟨bv, hO⟩ := h
  obtain ⟨bo, bc, rfl, b1, b2, _⟩ := (hO.row 1 rfl).shape
  unfold maxLen at b2
  have c0 := (hO.cget 0 rfl 0).1
  simp at c0
  clear hO
  go_enter Try.func17, Try.ntmps17
  go_wp2
  go_ret
  exact ⟨rfl, rfl⟩
theorem dLen_none (w : World) : Calls Try.prog 17 #[.pointer none] w fun e w' => e = .returned (.int .i64 0) ∧ w = w' := by
  go_enter Try.func17, Try.ntmps17
  go_wp2
  go_ret
  exact ⟨rfl, rfl⟩
theorem dPush_no {w0 w : World} {db : Nat} {M : Int} {xs : List Int} {l : List Ast} (h : DOwn w0 w db M xs l) (x : Int) (hge : M ≤ (xs.length : Int)) : Calls Try.prog 16 #[.pointer (some ⟨db, 0, none⟩), .int .i64 x] w fun e w' => e = .returned (.bool false) ∧ DOwn w0 w' db M xs l := by
  have hE := Lib.hid (fun m => h.drewN m)
  obtain ⟨bv, hO⟩ := h
  obtain ⟨bo, bc, rfl, b1, b2, _⟩ := (hO.row 1 rfl).shape
  unfold maxLen at b2
  have c0 := (hO.cget 0 rfl 0).1
  have c1 := (hO.cget 0 rfl 1).1
  simp at c0 c1
  have hd : decide (M ≤ (xs.length : Int)) = true := by simp; omega
  clear hO
  go_enter Try.func16, Try.ntmps16
  go_wp2_with fail
  go_quiet (fail)
  go_wp2_with fail
  go_ret
  exact ⟨rfl, hE.out _⟩
theorem dPush_none (x : Int) (w : World) : Calls Try.prog 16 #[.pointer none, .int .i64 x] w fun e w' => e = .returned (.bool false) ∧ ∃ m, w' = w.drewN m := by
  go_enter Try.func16, Try.ntmps16
  go_wp2_with fail
  go_quiet (fail)
  go_wp2_with fail
  go_ret
  exact ⟨rfl, _, rfl⟩
theorem dPush_yes {w0 w : World} {db : Nat} {M : Int} {xs : List Int} {l : List Ast} (h : DOwn w0 w db M xs l) (x : Int) (hlt : (xs.length : Int) < M) (hM : M ≤ 1000) : Calls Try.prog 16 #[.pointer (some ⟨db, 0, none⟩), .int .i64 x] w fun e w' => e = .returned (.bool true) ∧ DOwn w0 w' db M (xs ++ [x]) l := by
  obtain ⟨i1, hi1, hw0, hw1', hw2'⟩ := info_parts' Try.infoIntM
  obtain ⟨bv, hO⟩ := h
  obtain ⟨bo, bc, rfl, b1, b2, _⟩ := (hO.row 1 rfl).shape
  unfold maxLen at b2
  have c0 := (hO.cget 0 rfl 0).1
  have c1 := (hO.cget 0 rfl 1).1
  simp at c0 c1
  have hd : decide (M ≤ (xs.length : Int)) = false := by simp; omega
  have hD := Lib.hid (fun m => hO.drewN m)
  clear hO
  go_enter Try.func16, Try.ntmps16
  go_wp2_with fail
  go_quiet (fail)
  have hO2 := hD.out nq
  clear c0 c1
  generalize w.drewN nq = u at *
  have c0 := (hO2.cget 0 rfl 0).1
  have f0 := (hO2.cget 0 rfl 0).2
  simp at c0
  have hr2 := hO2.row 1 rfl
  have hE := Lib.hid (fun (w2 : World) (ao2 : Option Addr) (cap2 : Nat) (hr : Row w2 3 1 (.slice ao2 (xs.length + 1) cap2) (xs.length + 1) (xs.map (.int .i64) ++ [.int .i64 x])) (ht2 : Touch (fun k => Value.ownBlock (.slice bo xs.length bc) = some k) u w2) (hf2 : ∀ k, Value.ownBlock (.slice ao2 (xs.length + 1) cap2) = some k → Value.ownBlock (.slice bo xs.length bc) = some k ∨ u.heap.size ≤ k) =>
    show (∃ v, w2.cell? ⟨db, 0, none⟩ = some v) ∧ w2.frozen? ⟨db, 0, none⟩ = false ∧ DOwn w0 (w2.setCell ⟨db, 0, none⟩ (.slice ao2 (xs.length + 1) cap2)) db M (xs ++ [x]) l by
      have q := hO2.move 1 rfl (Moves.of_append hr ht2 hf2)
      refine ⟨⟨_, (q.cget 0 rfl 0).1⟩, (q.cget 0 rfl 0).2, .slice ao2 (xs.length + 1) cap2, (q.cset 0 rfl 0 (.slice ao2 (xs.length + 1) cap2)).cast ?_⟩
      simp [dqL])
  clear hO2 hD
  go_wp2_with (first | (at_builtin; refine wpList_append_lit' _ rfl (.tmp 23) (.tmp 25) 26 rfl 3 i1 (.int .i64 0) 1 8 Try.underlying26 hi1 hw0 hw1' hw2' rfl (by decide) (.slice bo xs.length bc) xs.length (xs.map (.int .i64)) rfl hr2 #[.int .i64 x] _ 1 _ (by simp) rfl rfl (by simp [Value.oneCell']) (by unfold maxLen; omega) (by omega) ?_; intro ao2 cap2 wz hr3 ht3 hf3; obtain ⟨⟨v, g1⟩, g2, hE2⟩ := hE.out _ _ _ hr3 ht3 hf3))
  go_ret
  exact ⟨rfl, hE2⟩
end Go.Proofs.Ytofnjapgacgdlaa
