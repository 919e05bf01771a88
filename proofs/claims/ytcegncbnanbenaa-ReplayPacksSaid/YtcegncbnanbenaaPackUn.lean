/- replay.Unpack. -/
import Derived.Test.YtcegncbnanbenaaPackPack
import Derived.Test.YtcegncbnanbenaaCut
set_option linter.unusedVariables false
set_option linter.unusedSimpArgs false
namespace Go.Proofs.Ytcegncbnanbenaa
open Go.RowKit
set_option maxRecDepth 100000
set_option maxHeartbeats 8000000
theorem own_cut {w0 w : World} {L : List Ast} (h : Own w0 w L) (l : List UInt8) : Calls Try.prog 71 #[.string ⟨l.toArray⟩] w fun e w' => ∃ cb, e = .returned (.pointer (some ⟨cb, 0, none⟩)) ∧ Own w0 w' (L ++ [cellsA cb #[.string ⟨l.toArray⟩, .bool false] 144]) := by
  refine (new_any l w).mono ?_
  rintro e w' ⟨rfl, hc, ht, hz⟩
  exact ⟨_, rfl, h.push ⟨ht.os, ht.tape, ht.output, ht.size, fun k hk => ht.block k hk (fun h => h)⟩ (cellsA w.heap.size #[.string ⟨l.toArray⟩, .bool false] 144) hc (fun k hk => by cases hk; exact Nat.le_refl _)⟩
theorem own_num1 {w0 w : World} {L : List Ast} (h : Own w0 w L) (i : Nat) {cb : Nat} {a : UInt8} {l : List UInt8} (hi : L[i]? = some (cellsA cb #[.string ⟨(a :: l).toArray⟩, .bool false] 144)) (hm : (a :: l).length ≤ 100000) : Calls Try.prog 73 #[.pointer (some ⟨cb, 0, none⟩), .int .i64 1] w fun e w' => e = .returned (.int .i64 a.toNat) ∧ Own w0 w' (L.set i (cellsA cb #[.string ⟨l.toArray⟩, .bool false] 144)) := by
  have hc : CutIs w cb (a :: l) false := h.at i hi
  have := num_any cb (a :: l) false 1 w hc (by omega)
  rw [show hs 1 = 1 by decide, numOf_fits (a :: l) 1 (by simp)] at this
  refine this.mono ?_
  rintro e w' ⟨rfl, hc', ht, hz⟩
  exact ⟨by simp [ofB], h.move i hi ⟨hc', ht, fun k hk => .inl hk⟩⟩
theorem own_left {w0 w : World} {L : List Ast} (h : Own w0 w L) (i : Nat) {cb : Nat} {l : List UInt8} (hi : L[i]? = some (cellsA cb #[.string ⟨l.toArray⟩, .bool false] 144)) : Calls Try.prog 72 #[.pointer (some ⟨cb, 0, none⟩)] w fun e w' => e = .returned (.int .i64 l.length) ∧ w = w' :=
  left_any cb l false w (h.at i hi)
theorem Try.infoPick : (Try.prog.info? 124).map (fun i => (i.zero, i.size, i.bytes)) = some (some (.agg #[.int .i64 0, .int .i64 0]), 2, 16) := by kernel_rfl
theorem pksC_app (l r : List Pk) : pksC (l ++ r) = pksC l ++ pksC r := by simp [pksC]
theorem pksC_len (l : List Pk) : (pksC l).length = l.length * 2 := by
  induction l with
  | nil => rfl
  | cons x l ih =>
    have e : pksC (x :: l) = pkC x ++ pksC l := by simp [pksC, List.flatMap_cons]
    rw [e, List.length_append, ih, List.length_cons]; simp [pkC]; omega
theorem pksC_get {l : List Pk} {i : Nat} {x : Pk} (h : l[i]? = some x) (j : Nat) (hj : j < 2) : (pksC l)[i * 2 + j]? = (pkC x)[j]? := by
  induction l generalizing i with
  | nil => simp at h
  | cons y l ih =>
    have e : pksC (y :: l) = pkC y ++ pksC l := by simp [pksC, List.flatMap_cons]
    have hy : (pkC y).length = 2 := rfl
    rw [e]
    cases i with
    | zero =>
      simp at h
      subst h
      rw [Nat.zero_mul, Nat.zero_add, List.getElem?_append_left (by omega)]
    | succ i =>
      simp at h
      rw [List.getElem?_append_right (by omega), hy, ← ih h]
      congr 1; omega
theorem Row.liesP {w : World} {ao : Option Addr} {c n : Nat} {l : List Pk} (h : Row w 124 2 (.slice ao n c) n (pksC l)) (hn : n = l.length) : LiesP w ao c l := by
  obtain ⟨ao', c', hv, h1, h2, h3⟩ := h.shape
  simp only [Value.slice.injEq] at hv
  obtain ⟨rfl, _, rfl⟩ := hv
  refine ⟨by omega, h2, fun h => (h3 h).2, fun i x hx => ?_⟩
  have hi := (List.getElem?_eq_some_iff.1 hx).1
  obtain ⟨g, off, cap, hv, _, _, hc, _⟩ := h.addr (by omega)
  simp only [Value.slice.injEq] at hv
  obtain ⟨rfl, _, rfl⟩ := hv
  have q : ∀ j, j < 2 → w.cell? ⟨g, off + (i * 2 + j), none⟩ = (pkC x)[j]? := fun j hj => by rw [hc _ (by omega), pksC_get hx j hj]
  exact ⟨g, off, rfl, by simpa [pkC] using q 0 (by omega), by simpa [pkC, Nat.add_assoc] using q 1 (by omega)⟩
def unP (s : List UInt8) : List Pk := if s.length % 3 = 0 then decP s else []
def unE (s : List UInt8) : Int := if s.length % 3 = 0 then 0 else 1
theorem rep_next (L : List Pk) (x : Pk) (q : Nat) : L ++ List.replicate (q + 1) x = (L ++ List.replicate q x) ++ [x] := by rw [List.replicate_succ']; simp
theorem un_any (s : List UInt8) (w : World) (hs : s.length ≤ 10000) : Calls Try.prog 40 #[.string ⟨s.toArray⟩] w fun e w' => ∃ ao c, e = .returned (.tuple #[.slice ao (unP s).length c, .int .i64 (unE s)]) ∧ LiesP w' ao c (unP s) ∧ Below w.heap.size w w' := by
  by_cases h3 : s.length % 3 = 0
  rotate_left
  · have b1 : ((s.length : Int) % 3 != 0) = true := by rw [bne_iff_ne]; omega
    have hU : unP s = [] := by unfold unP; rw [if_neg h3]
    have hE : unE s = 1 := by unfold unE; rw [if_neg h3]
    rw [hU, hE]
    go_enter Try.func40, Try.ntmps40
    go_wp2
    refine bodyPost_ret (v := .tuple #[.slice none 0 0, .int .i64 1]) (by simp [results, Try.results40, go_sem]) rfl ⟨none, 0, rfl, ⟨by simp, by simp [maxLen], by simp, by simp⟩, Below.refl _ _⟩
  have b1 : ((s.length : Int) % 3 != 0) = false := by rw [bne_eq_false_iff_eq]; omega
  have hU : unP s = decP s := by unfold unP; rw [if_pos h3]
  have hE : unE s = 0 := by unfold unE; rw [if_pos h3]
  rw [hU, hE]
  obtain ⟨i1, hi1, hw0, hw1', hw2'⟩ := info_parts' Try.infoPick
  obtain ⟨M, hM⟩ : ∃ M, s.length = M := ⟨_, rfl⟩
  obtain ⟨D, hD⟩ : ∃ D, decP s = D := ⟨_, rfl⟩
  have h3' : Hid (M % 3 = 0) := Lib.hid (by rw [← hM]; exact h3)
  rw [hM] at b1 hs
  clear hU hE h3
  have NC := Lib.hid (fun (w1 : World) (h : Own w w1 []) => own_cut h s)
  replace hM := Lib.hid hM
  rw [hD]
  replace hD := Lib.hid hD
  have hlen : ∀ (t : List UInt8), (⟨t.toArray⟩ : ByteArray).size = t.length := fun t => by show t.toArray.size = _; simp
  go_enter Try.func40, Try.ntmps40
  have hsz := hM.out
  go_wp2_with fail
  go_at_call 71
  refine (NC.out _ (Own.nil (Below.refl _ w))).mono ?_
  rintro e w1 ⟨cb, rfl, hO0⟩
  have hO1 : Own w w1 [cellsA cb #[.string ⟨s.toArray⟩, .bool false] 144, rowA 124 2 (.slice none 0 0) 0 (pksC [])] := hO0.push (Below.refl _ _) (rowA 124 2 (.slice none 0 0) 0 []) (Row.nil _ _ _) (by simp [rowA, Value.ownBlock])
  replace hsz := Lib.hid hsz
  clear hO0 NC hlen
  go_wp2_with fail
  go_loopw [4] (fun v wr => ∃ (T : List UInt8) (L : List Pk) (lo : Option Addr) (lc n : Nat), v = .slice lo n lc ∧ Hid (n = L.length) ∧ Hid (T.length % 3 = 0) ∧ Hid (n + 256 * T.length ≤ 256 * M) ∧ Hid (D = L ++ decP T) ∧ Own w wr [cellsA cb #[.string ⟨T.toArray⟩, .bool false] 144, rowA 124 2 (.slice lo n lc) n (pksC L)]) (fun v _ => 256 * M - slLen v)
  case atStart => exact ⟨s, [], none, 0, 0, rfl, Lib.hid rfl, Lib.hid (by rw [hsz.out]; exact h3'.out), Lib.hid (by rw [hsz.out]; omega), Lib.hid (by rw [hD.out]; simp), hO1⟩
  case round =>
    clear hO1
    obtain ⟨T, L, lo, lc, n, rfl, hn, hT3, hnM, hDL, hO⟩ := hrel
    have LF := own_left hO 0 rfl
    cases T with
    | nil =>
      have hDL2 : Hid (D = L) := Lib.hid (by rw [hDL.out]; simp [decP])
      clear hDL
      go_wp2_with fail
      go_at_call 72
      refine LF.mono ?_
      rintro e w2 ⟨rfl, rfl⟩
      go_wp2
      refine bodyPost_ret (v := .tuple #[.slice lo n lc, .int .i64 0]) (by simp [results, Try.results40, go_sem]) rfl ⟨lo, lc, by rw [hDL2.out, ← hn.out], by rw [hDL2.out]; exact (hO.row 1 rfl).liesP hn.out, hO.below⟩
    | cons a T =>
      obtain ⟨b, c, T2, rfl⟩ : ∃ b c T2, T = b :: c :: T2 := by
        match T, hT3.out with
        | b :: c :: T2, _ => exact ⟨b, c, T2, rfl⟩
        | [], h => simp at h
        | [_], h => simp at h
      have hTl : (a :: b :: c :: T2).length ≤ 10000 := by have := hnM.out; omega
      have hT3' : Hid (T2.length % 3 = 0) := Lib.hid (by have := hT3.out; simp at this; omega)
      have hDL2 : Hid (D = (L ++ List.replicate (c.toNat + 1) ((a.toNat : Int), (b.toNat : Int))) ++ decP T2) := Lib.hid (by rw [hDL.out, decP]; simp)
      have N1 := own_num1 hO 0 rfl (by omega)
      have hTpos : (0 : Int) < ((a :: b :: c :: T2).length : Int) := by simp; omega
      obtain ⟨Z, hZ⟩ : ∃ Z, (a :: b :: c :: T2).length = Z := ⟨_, rfl⟩
      rw [hZ] at LF hTpos
      have hnM2 : Hid (n + 256 * 3 + 256 * T2.length ≤ 256 * M) := Lib.hid (by have := hnM.out; simp at this; omega)
      have hT2l : T2.length ≤ 10000 := by simp at hTl; omega
      replace hZ := Lib.hid hZ
      have la := a.toNat_lt
      have lb := b.toNat_lt
      have lc' := c.toNat_lt
      obtain ⟨C, hC⟩ : ∃ C, c.toNat = C := ⟨_, rfl⟩
      clear hTl hDL
      go_wp2_with fail
      go_at_call 72
      refine LF.mono ?_
      rintro e w2 ⟨rfl, rfl⟩
      go_wp2_with fail
      go_at_call 73
      refine N1.mono ?_
      rintro e w3 ⟨rfl, hO3⟩
      clear N1 LF hO
      go_wp2_with fail
      go_at_call 73
      refine (own_num1 hO3 0 rfl (by simp; omega)).mono ?_
      rintro e w4 ⟨rfl, hO4⟩
      clear hO3
      have hO5 := hO4.box #[.int .i64 a.toNat, .int .i64 b.toNat] 124
      go_upto_region 7 with fail
      replace hO5 : Own w (w4.alloc (.cells #[.int .i64 a.toNat, .int .i64 b.toNat] 124)) [cellsA cb #[.string ⟨(c :: T2).toArray⟩, .bool false] 144, rowA 124 2 (.slice lo n lc) n (pksC L), cellsA w4.heap.size #[.int .i64 a.toNat, .int .i64 b.toNat] 124] := hO5
      generalize w4.alloc (.cells #[.int .i64 a.toNat, .int .i64 b.toNat] 124) = w5 at *
      generalize w4.heap.size = xb at *
      clear hO4
      obtain ⟨A, hA⟩ : ∃ A, a.toNat = A := ⟨_, rfl⟩
      obtain ⟨B, hB⟩ : ∃ B, b.toNat = B := ⟨_, rfl⟩
      rw [hA, hB, hC] at hDL2
      rw [hA, hB] at hO5
      rw [hA] at la
      rw [hB] at lb
      rw [hC] at lc'
      go_wp2_with fail
      go_at_call 73
      refine (own_num1 hO5 0 rfl (by simp; omega)).mono ?_
      rw [hC]
      rintro e w6 ⟨rfl, hO6⟩
      clear hO5
      replace hA := Lib.hid hA
      replace hB := Lib.hid hB
      replace hC := Lib.hid hC
      replace hO6 : Own w w6 [cellsA cb #[.string ⟨T2.toArray⟩, .bool false] 144, rowA 124 2 (.slice lo n lc) n (pksC L), cellsA xb #[.int .i64 A, .int .i64 B] 124] := hO6
      have e1 : IntKind.i64.wrap ((C : Int) + 1) = (C : Int) + 1 := IntWalk.i64_in _ (by omega)
      go_wp2_with fail
      go_loopw [4, 24] (fun v i wr => ∃ (q n2 : Nat) (lo : Option Addr) (lc : Nat), q ≤ C + 1 ∧ i = .int .i64 q ∧ v = .slice lo n2 lc ∧ Hid (n2 = n + q) ∧ Own w wr [cellsA cb #[.string ⟨T2.toArray⟩, .bool false] 144, rowA 124 2 (.slice lo n2 lc) n2 (pksC (L ++ List.replicate q ((A : Int), (B : Int)))), cellsA xb #[.int .i64 A, .int .i64 B] 124]) (fun _ i _ => (C + 1 - intOf i).toNat)
      case atStart => exact ⟨0, n, lo, lc, by omega, rfl, rfl, Lib.hid rfl, by simpa using hO6⟩
      case round =>
        clear hO6
        obtain ⟨q, n2, lo, lc, hq, rfl, rfl, hn2, hO⟩ := hrel
        have y0 : wr.cell? ⟨xb, 0, none⟩ = some (.int .i64 A) := (hO.cget 2 rfl 0).1
        have y1 : wr.cell? ⟨xb, 1, none⟩ = some (.int .i64 B) := (hO.cget 2 rfl 1).1
        have hn2l : n2 ≤ 3000000 := by have := hn2.out; have := hnM2.out; omega
        by_cases hqC : q < C + 1
        · have hrow := hO.row 1 rfl
          have e2 : (q : Int) < (C : Int) + 1 := by omega
          obtain ⟨LL, hLL⟩ : ∃ LL, L ++ List.replicate q ((A : Int), (B : Int)) = LL := ⟨_, rfl⟩
          have hLn : L ++ List.replicate (q + 1) ((A : Int), (B : Int)) = LL ++ [((A : Int), (B : Int))] := by rw [rep_next, hLL]
          rw [hLL] at hrow hO
          go_wp2_with (first | (at_builtin; refine wpList_append_lit' _ rfl (.tmp 26) (.tmp 28) 85 rfl 124 i1 (.agg #[.int .i64 0, .int .i64 0]) 2 16 Try.underlying85 hi1 hw0 hw1' hw2' rfl (by decide) (.slice lo n2 lc) n2 (pksC LL) rfl hrow #[.int .i64 A, .int .i64 B] _ 1 _ rfl rfl rfl (by simp [Value.oneCell']) (by unfold maxLen; omega) (by omega) ?_; intro ao2 cap2 wz hr2 ht2 hf2))
          have hO2 := hO.move 1 rfl (Moves.of_append hr2 ht2 hf2)
          have hO3 : Own w wz [cellsA cb #[.string ⟨T2.toArray⟩, .bool false] 144, rowA 124 2 (.slice ao2 (n2 + 1) cap2) (n2 + 1) (pksC (L ++ List.replicate (q + 1) ((A : Int), (B : Int)))), cellsA xb #[.int .i64 A, .int .i64 B] 124] := by
            rw [hLn, pksC_app]; exact hO2
          go_roundw
          case rel => exact ⟨q + 1, n2 + 1, ao2, cap2, by omega, by go_num, rfl, Lib.hid (by have := hn2.out; omega), hO3⟩
          case measure => simp [intOf]; omega
        · obtain rfl : q = C + 1 := by omega
          have e2 : ¬ ((C + 1 : Nat) : Int) < (C : Int) + 1 := by omega
          go_wp2_with fail
          go_round
          case rel => exact ⟨T2, L ++ List.replicate (C + 1) ((A : Int), (B : Int)), lo, lc, n2, rfl, Lib.hid (by rw [List.length_append, List.length_replicate, ← hn.out]; exact hn2.out), hT3', Lib.hid (by have := hn2.out; have := hnM2.out; omega), hDL2, hO.sel [0, 1] (by decide)⟩
          case measure => have := hn2.out; have := hnM2.out; simp [slLen]; omega
end Go.Proofs.Ytcegncbnanbenaa
