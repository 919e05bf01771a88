/- The walk through the law StoreDoes. -/
import Derived.Test.YtpijgjalabocpaaStoreRef2
set_option linter.unusedVariables false
set_option linter.unusedSimpArgs false
namespace Go.Proofs.Ytpijgjalabocpaa
open Go.RowKit
set_option maxHeartbeats 8000000
set_option maxRecDepth 100000
theorem Row.src' {w : World} {e : TypeId} {size : Nat} {ao : Option Addr} {n cap : Nat} {xs : List Value} (h : Row w e size (.slice ao n cap) n xs) : Src w ao n cap size xs := by
  refine ⟨h.1, fun h0 => ?_, h.cells⟩
  obtain ⟨ao', cap', hv, _, _, hno⟩ := h.shape
  simp only [Value.slice.injEq] at hv
  obtain ⟨rfl, _, rfl⟩ := hv
  exact hno h0
theorem sdoes_core (sz : Int) (M : Nat) (hM : (min (max sz 0) 1048576).toNat = M) (ls : List (List Int)) (lo : Option Addr) (lc : Nat) (w : World) (hsz : sz ≤ 300) (hl1 : ls.length ≤ lc) (hl2 : lc ≤ maxLen) (hll : ls.length ≤ 200)
    (g2 off : Nat) (hl : ∀ i, i < ls.length → lo = some ⟨g2, off, none⟩ ∧ ∀ j, j < 4 → w.cell? ⟨g2, off + i * 4 + j, none⟩ = some (.int .i64 ((ls.getD i []).getD j 0)))
    (hwf : ∀ i, i < ls.length → ∀ j, j < 4 → -9223372036854775808 ≤ (ls.getD i []).getD j 0 ∧ (ls.getD i []).getD j 0 ≤ 9223372036854775807) :
    Calls Try.prog 6 #[.int .i64 sz, .slice lo ls.length lc] w fun e w' => e = .returned (.bool true) ∧ Below w.heap.size w w' := by
  obtain ⟨i1, hi1, hw0, hw1', hw2'⟩ := info_parts' Try.infoIntS
  unfold maxLen at hl2
  replace hl := Lib.hid hl
  replace hwf := Lib.hid hwf
  have hMl : M ≤ 300 := by omega
  have hMi := Lib.hid (show min (max sz 0) 1048576 = (M : Int) by omega)
  have N := Lib.hid (fun (w1 : World) (h : Below w.heap.size w w1) => own_new (Own.nil h) sz (List.replicate M 0) (by rw [hM]))
  have RS := Lib.hid (fun (w1 : World) => show Calls Try.prog 24 #[.int .i64 sz] w1 fun e w' => e = .returned (.int .i64 M) ∧ w1 = w' from hMi.out ▸ refSize_any sz w1)
  clear hM
  go_enter Try.func6, Try.ntmps6
  go_wp2_with (go_at_call 14; refine (works09_any _).mono ?_; rintro e w1 ⟨rfl, hb1⟩)
  go_at_call 15
  refine (N.out _ hb1).mono ?_
  rintro e w2 ⟨rfl, hO0⟩
  clear hb1 N
  go_wp2_with (first | (go_at_call 24; refine (RS.out _).mono ?_; rintro e w3 ⟨rfl, rfl⟩) | (refine wpList_make_int _ rfl _ _ 22 rfl 3 i1 (.int .i64 0) 8 Try.underlying22 hi1 hw0 hw1' hw2' rfl .i64 .i64 _ rfl rfl ?_ ?_ (by decide) ?_; all_goals (try omega)))
  have hO1 := hO0.ints_made (Array.replicate M (.int .i64 0)) M (by simp) (by unfold maxLen; omega)
  have hO2 : Own w (w2.alloc (.cells (Array.replicate M (.int .i64 0)) 3)) [storeA (w1.heap.size + 1) w1.heap.size (List.replicate M 0), rowA 3 1 (.slice (some ⟨w2.heap.size, 0, none⟩) M M) M ((List.replicate M (0 : Int)).map (.int .i64))] := hO1
  have hml0 : (List.replicate M (0 : Int)).length = M := by simp
  clear hO0 hO1 RS hMi
  generalize List.replicate M (0 : Int) = ms0 at *
  generalize w2.alloc (.cells (Array.replicate M (.int .i64 0)) 3) = u at *
  generalize w2.heap.size = bm at *
  generalize w1.heap.size = b at *
  replace hml0 := Lib.hid hml0
  go_loopw [6, 8] (fun v i wr => ∃ (k : Nat) (ms : List Int) (mo : Option Addr) (mcap : Nat), k ≤ ls.length ∧ i = .int .i64 k ∧ v = .slice mo M mcap ∧ Hid (ms.length = M) ∧ Own w wr [storeA (b + 1) b ms, rowA 3 1 (.slice mo M mcap) M (ms.map (.int .i64))]) (fun _ i _ => (ls.length - intOf i).toNat)
  case atStart => exact ⟨0, ms0, _, _, by omega, rfl, rfl, hml0, hO2⟩
  case round =>
    clear hO2 hml0
    obtain ⟨k, ms, mo, mcap, hk, rfl, rfl, hml, hO⟩ := hrel
    by_cases hlt : k < ls.length
    · obtain ⟨rfl, hx⟩ := hl.out k hlt
      have hw := hwf.out k hlt
      have x0 := hx 0 (by omega)
      have x1 := hx 1 (by omega)
      have x2 := hx 2 (by omega)
      have x3 := hx 3 (by omega)
      obtain ⟨v1a, v1b⟩ := hw 1 (by omega)
      obtain ⟨v2a, v2b⟩ := hw 2 (by omega)
      generalize (ls.getD k []).getD 0 0 = kd at *
      generalize (ls.getD k []).getD 1 0 = at_ at *
      generalize (ls.getD k []).getD 2 0 = nn at *
      generalize (ls.getD k []).getD 3 0 = old at *
      rw [Nat.add_zero] at x0
      have z0 := hO.old x0
      have z1 := hO.old x1
      have z2 := hO.old x2
      have z3 := hO.old x3
      clear x0 x1 x2 x3 hx hw
      go_wp2_with fail
      go_at_call 25
      have hK : 0 ≤ min (max kd 0) 4 ∧ min (max kd 0) 4 ≤ 4 := by omega
      generalize min (max kd 0) 4 = K at *
      have hB : Own w (wr.alloc (.cells #[.int .i64 K, .int .i64 at_, .int .i64 nn, .int .i64 old] 43)) [storeA (b + 1) b ms, rowA 3 1 (.slice mo M mcap) M (ms.map (.int .i64)), cellsA wr.heap.size #[.int .i64 K, .int .i64 at_, .int .i64 nn, .int .i64 old] 43] := hO.box #[.int .i64 K, .int .i64 at_, .int .i64 nn, .int .i64 old] 43
      obtain ⟨ms', x, t, hr⟩ : ∃ ms' x t, stepD K at_ nn old ms = (ms', x, t) := ⟨_, _, _, rfl⟩
      have hlen' := Lib.hid (show ms'.length = M by have := stepD_length K at_ nn old ms; rw [hr] at this; rw [this, hml.out])
      generalize wr.alloc (.cells #[.int .i64 K, .int .i64 at_, .int .i64 nn, .int .i64 old] 43) = u1 at *
      generalize wr.heap.size = ob at *
      have R := refDo_any (w := u1) (ao := mo) (cap := mcap) (ms := ms) (by rw [hml.out]; exact (hB.row 1 rfl).src') (by rw [hml.out]; omega) K at_ nn old hK ⟨v1a, v1b⟩ ⟨v2a, v2b⟩ ms' x t hr
      rw [hml.out] at R
      replace R := Lib.hid R
      have D := Lib.hid (fun (w5 : World) (l : List Ast) (h : Own w w5 (storeA (b + 1) b ms :: l)) => own_do h 0 rfl K at_ nn old hK ⟨v1a, v1b⟩ ⟨v2a, v2b⟩ ms' x t hr)
      obtain ⟨kb, hkb⟩ : ∃ kb, (K == 4) = kb := ⟨_, rfl⟩
      have Z := Lib.hid (fun (w5 : World) (l : List Ast) (h : Own w w5 l) => do_none h K at_ nn old hK kb hkb)
      replace hr := Lib.hid hr
      clear hO z0 z1 z2 z3
      refine R.out.mono ?_
      rintro e w5 ⟨ao5, cap5, rfl, hr5, hf5, hb5⟩
      have hO5 := hB.push hb5 (rowA 3 1 (.slice ao5 M cap5) M (ms'.map (.int .i64))) hr5 hf5
      obtain ⟨y0, y1, y2, y3⟩ := And.intro (hO5.cget 2 rfl 0).1 (And.intro (hO5.cget 2 rfl 1).1 (And.intro (hO5.cget 2 rfl 2).1 (hO5.cget 2 rfl 3).1))
      simp at y0 y1 y2 y3
      clear R hr5 hf5 hb5
      go_wp2_with fail
      go_at_call 26
      refine (D.out _ _ hO5).mono ?_
      rintro e w6 ⟨rfl, hO6⟩
      clear y0 y1 y2 y3
      obtain ⟨y0, y1, y2, y3⟩ := And.intro (hO6.cget 2 rfl 0).1 (And.intro (hO6.cget 2 rfl 1).1 (And.intro (hO6.cget 2 rfl 2).1 (hO6.cget 2 rfl 3).1))
      simp at y0 y1 y2 y3
      clear D
      go_wp2_with fail
      go_at_call 26
      refine (Z.out _ _ hO6).mono ?_
      rintro e w7 ⟨rfl, hO7⟩
      clear y0 y1 y2 y3
      obtain ⟨y0, y1, y2, y3⟩ := And.intro (hO7.cget 2 rfl 0).1 (And.intro (hO7.cget 2 rfl 1).1 (And.intro (hO7.cget 2 rfl 2).1 (hO7.cget 2 rfl 3).1))
      simp at y0 y1 y2 y3
      clear Z hO5 hO6 hB
      have A := own_all hO7 0 rfl
      have I := fun (w8 : World) (ao8 : Option Addr) (cap8 : Nat) (h : Lies w8 ao8 cap8 ms') (h' : Lies w8 ao5 cap5 ms') => ints_any ao8 ao5 cap8 cap5 ms' ms' w8 h h'
      rw [show (ms' == ms') = true by simp] at I
      rw [hlen'.out] at A I
      have hL := Lib.hid (fun (w8 : World) (h : Own w w8 ([storeA (b + 1) b ms, rowA 3 1 (.slice mo M mcap) M (ms.map (.int .i64)), cellsA ob #[.int .i64 K, .int .i64 at_, .int .i64 nn, .int .i64 old] 43, rowA 3 1 (.slice ao5 M cap5) M (ms'.map (.int .i64))].set 0 (storeA (b + 1) b ms'))) => Lies.of_row (h.row 3 rfl) hlen'.out.symm)
      replace A := Lib.hid A
      replace I := Lib.hid I
      have hx0 : (x != x) = false := by simp
      have ht0 : (t != t) = false := by simp
      have hk0 : (kb != kb) = false := by simp
      go_wp2_with (first | (go_at_call 18; refine A.out.mono ?_; rintro e w8 ⟨ao8, cap8, rfl, hO8, hL8, _, _, _⟩) | (go_at_call 23; refine (I.out _ _ _ hL8 (hL.out _ hO8)).mono ?_; rintro e w9 ⟨rfl, m9, hw9⟩; have hO9 := hO8.drewN m9; rw [← hw9] at hO9; clear hw9))
      go_roundw
      case rel => exact ⟨k + 1, ms', ao5, cap5, by omega, by go_num, rfl, hlen', hO9.sub (List.Sublist.cons_cons _ (List.Sublist.cons _ (List.Sublist.cons _ (List.Sublist.cons_cons _ .slnil))))⟩
      case measure => simp [intOf]; omega
    · obtain rfl : k = ls.length := by omega
      have S := size_any (hO.st 0 rfl)
      rw [hml.out] at S
      replace S := Lib.hid S
      go_wp2_with (first | (go_at_call 21; refine (hook_none _ _).mono ?_; rintro e w8 ⟨rfl, rfl⟩) | (go_at_call 27; refine (size_none _).mono ?_; rintro e w8 ⟨rfl, rfl⟩) | (go_at_call 27; refine S.out.mono ?_; rintro e w8 ⟨rfl, rfl⟩) | (go_at_call 18; refine (all_none _).mono ?_; rintro e w8 ⟨rfl, rfl⟩))
      go_ret
      exact ⟨rfl, hO.below⟩
theorem walkStoreDoes (v0 v1 : Value) (w : World) (h0 : Arg Try.prog w 3 v0) (h1 : Arg Try.prog w 40 v1) :
    Calls Try.prog 6 #[v0, v1] w fun e w' => e = .returned (.bool true) ∧ Below w.heap.size w w' := by
  obtain ⟨sz, rfl, hs⟩ := h0.int Try.underlying3
  obtain ⟨lo, lc, ls, rfl, p1, p2, p3, g2, off, p4⟩ := h1.structs' 4 Try.underlying40 (by kernel_rfl) Try.underlying3 (by kernel_rfl) (by kernel_rfl) (by decide)
  by_cases hl : ls.length ≤ 200
  · by_cases hz : sz ≤ 300
    · exact sdoes_core sz _ rfl ls lo lc w hz p1 p2 hl g2 off p4 (fun i hi j hj => by
        have := p3 i hi j hj
        simp [Lit.wf, IntKind.min, IntKind.max, IntKind.signed, IntKind.bits] at this
        exact this)
    · unfold maxLen at p2
      clear p4 p3
      go_enter Try.func6, Try.ntmps6
      go_wp2_with (go_at_call 14; refine (works09_any _).mono ?_; rintro e w1 ⟨rfl, hb1⟩)
      go_ret
      exact ⟨rfl, hb1⟩
  · unfold maxLen at p2
    clear p4 p3
    have hl2 : 200 < ls.length := by omega
    go_enter Try.func6, Try.ntmps6
    go_wp2_with (go_at_call 14; refine (works09_any _).mono ?_; rintro e w1 ⟨rfl, hb1⟩)
    go_ret
    exact ⟨rfl, hb1⟩
end Go.Proofs.Ytpijgjalabocpaa
