/- Package ins: names of operations. -/
import Derived.Test.YtboiogjklecpaaaInsCheck
import Derived.Deep.WholeRow
set_option linter.unusedVariables false
set_option linter.unusedSimpArgs false
namespace Go.Proofs.Ytboiogjklecpaaa
open Go.RowKit
set_option maxRecDepth 100000
set_option maxHeartbeats 8000000
def namesL : List (List UInt8) := [[114, 101, 116], [115, 101, 116], [109, 111, 118, 101], [97, 100, 100], [115, 117, 98], [109, 117, 108], [100, 105, 118], [109, 111, 100], [108, 101, 115, 115], [115, 97, 109, 101], [97, 110, 100], [111, 114], [120, 111, 114], [108, 111, 97, 100], [115, 116, 111, 114, 101], [102, 101, 116, 99, 104], [115, 119, 97, 112], [101, 109, 105, 116], [106, 117, 109, 112], [122, 101, 114, 111], [115, 112, 97, 119, 110], [115, 121, 110, 99], [112, 105, 112, 101], [119, 97, 105, 116], [99, 111, 110, 116], [98, 114, 101, 97, 107]]
def nameL (op : Int) : List UInt8 := if 0 ≤ op ∧ op ≤ 25 then namesL.getD op.toNat [] else []
/-- A whole array into the block that was made last. -/
theorem wpList_store_new {P : Program} (w : World) {ops : Array Oper} {rest : List Oper} {o : Oper} {a : Act} {Q : Exit → Act → World → Prop}
    (hg : o.guard = none) (t : TypeId) (p v : Operand) (hop : o.op = Op.store t p v) (c c' : Array Value) (N : Nat) (hN : N = w.heap.size) (hp : a.eval p = .pointer (some ⟨N, 0, none⟩)) (hv : a.eval v = .agg c')
    (hi : (P.info? t).map (·.size) = some c'.size) (ho : c.size = c'.size) (h1 : c'.all (·.oneCell') = true) (hK : wpList P ops Q rest (a.put o.dst undef) (w.alloc (.cells c' t))) : wpList P ops Q (o :: rest) a (w.alloc (.cells c t)) := by
  subst hN
  refine wpList_plain hg fun K hK' => ?_
  have hrun := run_storeAt_new (P := P) w t c c' hi ho h1
  unfold Oper.wp
  simp [execOp, hop, hp, hv, hrun, Result.andThen]
  exact hK' _ _ hK
theorem wpList_run {P : Program} {w w' : World} {ops : Array Oper} {rest : List Oper} {o : Oper} {a : Act} {Q : Exit → Act → World → Prop} {v : Value} (hg : o.guard = none) (hrun : (execOp a.eval o).run P w = .ok (.value v) w') (hK : wpList P ops Q rest (a.put o.dst v) w') : wpList P ops Q (o :: rest) a w := by
  refine wpList_plain hg fun K hK' => ?_
  unfold Oper.wp
  rw [hrun]
  exact hK' _ _ hK
def namesA : Array Value := #[.string ⟨#[114, 101, 116]⟩, .string ⟨#[115, 101, 116]⟩, .string ⟨#[109, 111, 118, 101]⟩, .string ⟨#[97, 100, 100]⟩, .string ⟨#[115, 117, 98]⟩, .string ⟨#[109, 117, 108]⟩, .string ⟨#[100, 105, 118]⟩, .string ⟨#[109, 111, 100]⟩, .string ⟨#[108, 101, 115, 115]⟩, .string ⟨#[115, 97, 109, 101]⟩, .string ⟨#[97, 110, 100]⟩, .string ⟨#[111, 114]⟩, .string ⟨#[120, 111, 114]⟩, .string ⟨#[108, 111, 97, 100]⟩, .string ⟨#[115, 116, 111, 114, 101]⟩, .string ⟨#[102, 101, 116, 99, 104]⟩, .string ⟨#[115, 119, 97, 112]⟩, .string ⟨#[101, 109, 105, 116]⟩, .string ⟨#[106, 117, 109, 112]⟩, .string ⟨#[122, 101, 114, 111]⟩, .string ⟨#[115, 112, 97, 119, 110]⟩, .string ⟨#[115, 121, 110, 99]⟩, .string ⟨#[112, 105, 112, 101]⟩, .string ⟨#[119, 97, 105, 116]⟩, .string ⟨#[99, 111, 110, 116]⟩, .string ⟨#[98, 114, 101, 97, 107]⟩]
def blanksA : Array Value := #[.string ⟨#[]⟩, .string ⟨#[]⟩, .string ⟨#[]⟩, .string ⟨#[]⟩, .string ⟨#[]⟩, .string ⟨#[]⟩, .string ⟨#[]⟩, .string ⟨#[]⟩, .string ⟨#[]⟩, .string ⟨#[]⟩, .string ⟨#[]⟩, .string ⟨#[]⟩, .string ⟨#[]⟩, .string ⟨#[]⟩, .string ⟨#[]⟩, .string ⟨#[]⟩, .string ⟨#[]⟩, .string ⟨#[]⟩, .string ⟨#[]⟩, .string ⟨#[]⟩, .string ⟨#[]⟩, .string ⟨#[]⟩, .string ⟨#[]⟩, .string ⟨#[]⟩, .string ⟨#[]⟩, .string ⟨#[]⟩]
theorem name_any (op : Int) (w : World) : Calls Try.prog 17 #[.int .i64 op] w fun e w' => e = .returned (.string ⟨(nameL op).toArray⟩) ∧ Below w.heap.size w w' := by
  by_cases hr : 0 ≤ op ∧ op ≤ 25
  · have h1 : Own w (w.alloc (.cells namesA 73)) [cellsA w.heap.size namesA 73] := (Own.nil (Below.refl _ w)).box namesA 73
    generalize hN : nameL op = NM
    go_enter Try.func17, Try.ntmps17
    go_upto_region 1 with fail
    refine wp_region_list ?_
    refine wpList_run (v := .agg namesA) (w' := w) rfl (by kernel_rfl) ?_
    refine wpList_run (v := .pointer (some ⟨w.heap.size, 0, none⟩)) (w' := w.alloc (.cells blanksA 73)) rfl (by kernel_rfl) ?_
    refine wpList_store_new w rfl 73 _ _ rfl blanksA namesA _ rfl rfl rfl (by kernel_rfl) rfl (by kernel_rfl) ?_
    refine wpList_nil ?_
    generalize w.alloc (.cells namesA 73) = u at *
    generalize w.heap.size = nb at *
    have hBl := h1.below
    obtain ⟨k, rfl⟩ : ∃ k : Nat, op = k := ⟨op.toNat, by omega⟩
    have hk : k < 26 := by omega
    clear hr
    rcases (show k = 0 ∨ k = 1 ∨ k = 2 ∨ k = 3 ∨ k = 4 ∨ k = 5 ∨ k = 6 ∨ k = 7 ∨ k = 8 ∨ k = 9 ∨ k = 10 ∨ k = 11 ∨ k = 12 ∨ k = 13 ∨ k = 14 ∨ k = 15 ∨ k = 16 ∨ k = 17 ∨ k = 18 ∨ k = 19 ∨ k = 20 ∨ k = 21 ∨ k = 22 ∨ k = 23 ∨ k = 24 ∨ k = 25 by omega) with rfl | rfl | rfl | rfl | rfl | rfl | rfl | rfl | rfl | rfl | rfl | rfl | rfl | rfl | rfl | rfl | rfl | rfl | rfl | rfl | rfl | rfl | rfl | rfl | rfl | rfl
    · have x : u.cell? ⟨nb, 0, none⟩ = some (.string ⟨#[114, 101, 116]⟩) := (h1.cget 0 rfl 0).1
      rw [show nameL ((0 : Nat) : Int) = [114, 101, 116] from rfl] at hN
      subst hN
      clear h1
      go_wp2_with fail
      go_ret
      exact ⟨rfl, hBl⟩
    · have x : u.cell? ⟨nb, 1, none⟩ = some (.string ⟨#[115, 101, 116]⟩) := (h1.cget 0 rfl 1).1
      rw [show nameL ((1 : Nat) : Int) = [115, 101, 116] from rfl] at hN
      subst hN
      clear h1
      go_wp2_with fail
      go_ret
      exact ⟨rfl, hBl⟩
    · have x : u.cell? ⟨nb, 2, none⟩ = some (.string ⟨#[109, 111, 118, 101]⟩) := (h1.cget 0 rfl 2).1
      rw [show nameL ((2 : Nat) : Int) = [109, 111, 118, 101] from rfl] at hN
      subst hN
      clear h1
      go_wp2_with fail
      go_ret
      exact ⟨rfl, hBl⟩
    · have x : u.cell? ⟨nb, 3, none⟩ = some (.string ⟨#[97, 100, 100]⟩) := (h1.cget 0 rfl 3).1
      rw [show nameL ((3 : Nat) : Int) = [97, 100, 100] from rfl] at hN
      subst hN
      clear h1
      go_wp2_with fail
      go_ret
      exact ⟨rfl, hBl⟩
    · have x : u.cell? ⟨nb, 4, none⟩ = some (.string ⟨#[115, 117, 98]⟩) := (h1.cget 0 rfl 4).1
      rw [show nameL ((4 : Nat) : Int) = [115, 117, 98] from rfl] at hN
      subst hN
      clear h1
      go_wp2_with fail
      go_ret
      exact ⟨rfl, hBl⟩
    · have x : u.cell? ⟨nb, 5, none⟩ = some (.string ⟨#[109, 117, 108]⟩) := (h1.cget 0 rfl 5).1
      rw [show nameL ((5 : Nat) : Int) = [109, 117, 108] from rfl] at hN
      subst hN
      clear h1
      go_wp2_with fail
      go_ret
      exact ⟨rfl, hBl⟩
    · have x : u.cell? ⟨nb, 6, none⟩ = some (.string ⟨#[100, 105, 118]⟩) := (h1.cget 0 rfl 6).1
      rw [show nameL ((6 : Nat) : Int) = [100, 105, 118] from rfl] at hN
      subst hN
      clear h1
      go_wp2_with fail
      go_ret
      exact ⟨rfl, hBl⟩
    · have x : u.cell? ⟨nb, 7, none⟩ = some (.string ⟨#[109, 111, 100]⟩) := (h1.cget 0 rfl 7).1
      rw [show nameL ((7 : Nat) : Int) = [109, 111, 100] from rfl] at hN
      subst hN
      clear h1
      go_wp2_with fail
      go_ret
      exact ⟨rfl, hBl⟩
    · have x : u.cell? ⟨nb, 8, none⟩ = some (.string ⟨#[108, 101, 115, 115]⟩) := (h1.cget 0 rfl 8).1
      rw [show nameL ((8 : Nat) : Int) = [108, 101, 115, 115] from rfl] at hN
      subst hN
      clear h1
      go_wp2_with fail
      go_ret
      exact ⟨rfl, hBl⟩
    · have x : u.cell? ⟨nb, 9, none⟩ = some (.string ⟨#[115, 97, 109, 101]⟩) := (h1.cget 0 rfl 9).1
      rw [show nameL ((9 : Nat) : Int) = [115, 97, 109, 101] from rfl] at hN
      subst hN
      clear h1
      go_wp2_with fail
      go_ret
      exact ⟨rfl, hBl⟩
    · have x : u.cell? ⟨nb, 10, none⟩ = some (.string ⟨#[97, 110, 100]⟩) := (h1.cget 0 rfl 10).1
      rw [show nameL ((10 : Nat) : Int) = [97, 110, 100] from rfl] at hN
      subst hN
      clear h1
      go_wp2_with fail
      go_ret
      exact ⟨rfl, hBl⟩
    · have x : u.cell? ⟨nb, 11, none⟩ = some (.string ⟨#[111, 114]⟩) := (h1.cget 0 rfl 11).1
      rw [show nameL ((11 : Nat) : Int) = [111, 114] from rfl] at hN
      subst hN
      clear h1
      go_wp2_with fail
      go_ret
      exact ⟨rfl, hBl⟩
    · have x : u.cell? ⟨nb, 12, none⟩ = some (.string ⟨#[120, 111, 114]⟩) := (h1.cget 0 rfl 12).1
      rw [show nameL ((12 : Nat) : Int) = [120, 111, 114] from rfl] at hN
      subst hN
      clear h1
      go_wp2_with fail
      go_ret
      exact ⟨rfl, hBl⟩
    · have x : u.cell? ⟨nb, 13, none⟩ = some (.string ⟨#[108, 111, 97, 100]⟩) := (h1.cget 0 rfl 13).1
      rw [show nameL ((13 : Nat) : Int) = [108, 111, 97, 100] from rfl] at hN
      subst hN
      clear h1
      go_wp2_with fail
      go_ret
      exact ⟨rfl, hBl⟩
    · have x : u.cell? ⟨nb, 14, none⟩ = some (.string ⟨#[115, 116, 111, 114, 101]⟩) := (h1.cget 0 rfl 14).1
      rw [show nameL ((14 : Nat) : Int) = [115, 116, 111, 114, 101] from rfl] at hN
      subst hN
      clear h1
      go_wp2_with fail
      go_ret
      exact ⟨rfl, hBl⟩
    · have x : u.cell? ⟨nb, 15, none⟩ = some (.string ⟨#[102, 101, 116, 99, 104]⟩) := (h1.cget 0 rfl 15).1
      rw [show nameL ((15 : Nat) : Int) = [102, 101, 116, 99, 104] from rfl] at hN
      subst hN
      clear h1
      go_wp2_with fail
      go_ret
      exact ⟨rfl, hBl⟩
    · have x : u.cell? ⟨nb, 16, none⟩ = some (.string ⟨#[115, 119, 97, 112]⟩) := (h1.cget 0 rfl 16).1
      rw [show nameL ((16 : Nat) : Int) = [115, 119, 97, 112] from rfl] at hN
      subst hN
      clear h1
      go_wp2_with fail
      go_ret
      exact ⟨rfl, hBl⟩
    · have x : u.cell? ⟨nb, 17, none⟩ = some (.string ⟨#[101, 109, 105, 116]⟩) := (h1.cget 0 rfl 17).1
      rw [show nameL ((17 : Nat) : Int) = [101, 109, 105, 116] from rfl] at hN
      subst hN
      clear h1
      go_wp2_with fail
      go_ret
      exact ⟨rfl, hBl⟩
    · have x : u.cell? ⟨nb, 18, none⟩ = some (.string ⟨#[106, 117, 109, 112]⟩) := (h1.cget 0 rfl 18).1
      rw [show nameL ((18 : Nat) : Int) = [106, 117, 109, 112] from rfl] at hN
      subst hN
      clear h1
      go_wp2_with fail
      go_ret
      exact ⟨rfl, hBl⟩
    · have x : u.cell? ⟨nb, 19, none⟩ = some (.string ⟨#[122, 101, 114, 111]⟩) := (h1.cget 0 rfl 19).1
      rw [show nameL ((19 : Nat) : Int) = [122, 101, 114, 111] from rfl] at hN
      subst hN
      clear h1
      go_wp2_with fail
      go_ret
      exact ⟨rfl, hBl⟩
    · have x : u.cell? ⟨nb, 20, none⟩ = some (.string ⟨#[115, 112, 97, 119, 110]⟩) := (h1.cget 0 rfl 20).1
      rw [show nameL ((20 : Nat) : Int) = [115, 112, 97, 119, 110] from rfl] at hN
      subst hN
      clear h1
      go_wp2_with fail
      go_ret
      exact ⟨rfl, hBl⟩
    · have x : u.cell? ⟨nb, 21, none⟩ = some (.string ⟨#[115, 121, 110, 99]⟩) := (h1.cget 0 rfl 21).1
      rw [show nameL ((21 : Nat) : Int) = [115, 121, 110, 99] from rfl] at hN
      subst hN
      clear h1
      go_wp2_with fail
      go_ret
      exact ⟨rfl, hBl⟩
    · have x : u.cell? ⟨nb, 22, none⟩ = some (.string ⟨#[112, 105, 112, 101]⟩) := (h1.cget 0 rfl 22).1
      rw [show nameL ((22 : Nat) : Int) = [112, 105, 112, 101] from rfl] at hN
      subst hN
      clear h1
      go_wp2_with fail
      go_ret
      exact ⟨rfl, hBl⟩
    · have x : u.cell? ⟨nb, 23, none⟩ = some (.string ⟨#[119, 97, 105, 116]⟩) := (h1.cget 0 rfl 23).1
      rw [show nameL ((23 : Nat) : Int) = [119, 97, 105, 116] from rfl] at hN
      subst hN
      clear h1
      go_wp2_with fail
      go_ret
      exact ⟨rfl, hBl⟩
    · have x : u.cell? ⟨nb, 24, none⟩ = some (.string ⟨#[99, 111, 110, 116]⟩) := (h1.cget 0 rfl 24).1
      rw [show nameL ((24 : Nat) : Int) = [99, 111, 110, 116] from rfl] at hN
      subst hN
      clear h1
      go_wp2_with fail
      go_ret
      exact ⟨rfl, hBl⟩
    · have x : u.cell? ⟨nb, 25, none⟩ = some (.string ⟨#[98, 114, 101, 97, 107]⟩) := (h1.cget 0 rfl 25).1
      rw [show nameL ((25 : Nat) : Int) = [98, 114, 101, 97, 107] from rfl] at hN
      subst hN
      clear h1
      go_wp2_with fail
      go_ret
      exact ⟨rfl, hBl⟩
  · have hv : nameL op = [] := by unfold nameL; rw [if_neg hr]
    rw [hv]
    have h1 : Own w (w.alloc (.cells namesA 73)) [cellsA w.heap.size namesA 73] := (Own.nil (Below.refl _ w)).box namesA 73
    have hr2 : op < 0 ∨ 25 < op := by omega
    rcases hr2 with hr2 | hr2
    all_goals
      go_enter Try.func17, Try.ntmps17
      go_upto_region 1 with fail
      refine wp_region_list ?_
      refine wpList_run (v := .agg namesA) (w' := w) rfl (by kernel_rfl) ?_
      refine wpList_run (v := .pointer (some ⟨w.heap.size, 0, none⟩)) (w' := w.alloc (.cells blanksA 73)) rfl (by kernel_rfl) ?_
      refine wpList_store_new w rfl 73 _ _ rfl blanksA namesA _ rfl rfl rfl (by kernel_rfl) rfl (by kernel_rfl) ?_
      refine wpList_nil ?_
      generalize w.alloc (.cells namesA 73) = u at *
      generalize w.heap.size = nb at *
      go_wp2_with fail
      go_ret
      exact ⟨rfl, h1.below⟩
theorem name_len (k : Nat) : (nameL k).length ≤ 5 := by
  unfold nameL
  split
  · rename_i h
    rcases (show k = 0 ∨ k = 1 ∨ k = 2 ∨ k = 3 ∨ k = 4 ∨ k = 5 ∨ k = 6 ∨ k = 7 ∨ k = 8 ∨ k = 9 ∨ k = 10 ∨ k = 11 ∨ k = 12 ∨ k = 13 ∨ k = 14 ∨ k = 15 ∨ k = 16 ∨ k = 17 ∨ k = 18 ∨ k = 19 ∨ k = 20 ∨ k = 21 ∨ k = 22 ∨ k = 23 ∨ k = 24 ∨ k = 25 by omega) with rfl | rfl | rfl | rfl | rfl | rfl | rfl | rfl | rfl | rfl | rfl | rfl | rfl | rfl | rfl | rfl | rfl | rfl | rfl | rfl | rfl | rfl | rfl | rfl | rfl | rfl <;> decide
  · simp
/-- The first operation of a name from k on. -/
def ofN (s : List UInt8) : Nat → Nat → Option Nat
  | 0, _ => none
  | n + 1, k => if nameL (k : Int) = s then some k else ofN s n (k + 1)
theorem of_core (s : List UInt8) (hs : s.length ≤ maxLen) (w : World) : Calls Try.prog 20 #[.string ⟨s.toArray⟩] w fun e w' => e = .returned (.tuple #[.int .i64 ((ofN s 26 0).getD 0 : Nat), .bool (ofN s 26 0).isSome]) ∧ Below w.heap.size w w' := by
  unfold maxLen at hs
  have NM := Lib.hid (fun k w => name_any k w)
  go_enter Try.func20, Try.ntmps20
  go_wp2_with fail
  go_loopw [5] (fun kv wr => ∃ k n : Nat, k + n = 26 ∧ kv = .int .i64 k ∧ Hid (ofN s 26 0 = ofN s n k) ∧ Below w.heap.size w wr) (fun kv _ => (26 - intOf kv).toNat)
  case atStart => exact ⟨0, 26, by omega, rfl, Lib.hid rfl, Below.refl _ _⟩
  case round =>
    obtain ⟨k, n, hk, rfl, hq, hb⟩ := hrel
    by_cases hlt : k < 26
    · obtain ⟨n, rfl⟩ : ∃ m, n = m + 1 := ⟨n - 1, by omega⟩
      have N0 := NM.out (k : Int) wr
      by_cases he : nameL (k : Int) = s
      · have hr : ofN s 26 0 = some k := by rw [hq.out]; simp [ofN, he]
        rw [he] at N0
        replace N0 := Lib.hid N0
        replace hr := Lib.hid hr
        clear hq he
        go_wp2_with (go_at_call 17; refine N0.out.mono ?_; rintro e w2 ⟨rfl, hb2⟩)
        go_ret2
        exact ⟨by rw [hr.out]; simp [results], below_chain hb hb2⟩
      · have hr := Lib.hid (show ofN s 26 0 = ofN s n (k + 1) by rw [hq.out]; simp [ofN, he])
        generalize nameL (k : Int) = nm at *
        have hne : (nm == s) = false := beq_eq_false_iff_ne.2 he
        replace N0 := Lib.hid N0
        clear hq
        go_wp2_with (go_at_call 17; refine N0.out.mono ?_; rintro e w2 ⟨rfl, hb2⟩)
        go_roundw
        case rel => exact ⟨k + 1, n, by omega, by go_num, hr, below_chain hb hb2⟩
        case measure => simp [intOf]; omega
    · obtain rfl : k = 26 := by omega
      obtain rfl : n = 0 := by omega
      have hr := Lib.hid (show ofN s 26 0 = none by rw [hq.out]; rfl)
      clear hq
      go_wp2_with fail
      go_ret2
      exact ⟨by rw [hr.out]; simp [results], hb⟩
end Go.Proofs.Ytboiogjklecpaaa
