/- The document's bytes of a single instruction. -/
import Derived.Test.YtboiogjklecpaaaInsPut
import Derived.Test.YtboiogjklecpaaaInsGet
import Derived.Test.YtboiogjklecpaaaInsRef2
import Derived.Test.YtboiogjklecpaaaInsBack
set_option linter.unusedVariables false
set_option linter.unusedSimpArgs false
namespace Go.Proofs.Ytboiogjklecpaaa
open Go.RowKit
set_option maxRecDepth 100000
set_option maxHeartbeats 8000000
theorem rput_as (s : List UInt8) (n k : Int) (w : World) (hl : s.length ≤ 1000000000) (n0 : -9223372036854775808 ≤ n) (n1 : n ≤ 9223372036854775807) (j : Nat) (hj : hs k = j) : Calls Try.prog 54 #[.string ⟨s.toArray⟩, .int .i64 n, .int .i64 k] w fun e w' => ∃ s1 : List UInt8, e = .returned (.string ⟨s1.toArray⟩) ∧ Hid (s1 = s ++ low n j) ∧ s1.length = s.length + j ∧ Below w.heap.size w w' := by
  subst hj
  refine (rput_any s n k w hl n0 n1).mono ?_
  rintro e w' ⟨rfl, hb⟩
  exact ⟨_, rfl, Lib.hid rfl, by simp [low_len], hb⟩
theorem rputi_bad (op a b c : Int) (e0 : Int) (he : checkI op a b c = e0) (h0 : e0 ≠ 0) (w : World) : Calls Try.prog 22 #[.agg #[.int .i64 op, .int .i64 a, .int .i64 b, .int .i64 c]] w fun e w' => e = .returned (.tuple #[.string ⟨#[]⟩, .int .i64 e0]) ∧ Below w.heap.size w w' := by
  have hO := (Own.nil (Below.refl _ w)).box #[.int .i64 op, .int .i64 a, .int .i64 b, .int .i64 c] 30
  have C := Lib.hid (Own.lift (rcheck_any op a b c _) hO _ rfl)
  rw [he] at C
  have hne : (e0 != 0) = true := by simpa using h0
  clear hO he
  go_enter Try.func22, Try.ntmps22
  go_wp2_with (first | (go_at_call 26; refine C.out.mono ?_; rintro e w1 ⟨rfl, h1⟩))
  go_ret2
  exact ⟨by simp, h1.below⟩
theorem rputi_rrr (op a b c : Int) (hF : formL op = [114, 114, 114]) (h0 : checkI op a b c = 0) (w : World) (ba : -9223372036854775808 ≤ a ∧ a ≤ 9223372036854775807) (bb : -9223372036854775808 ≤ b ∧ b ≤ 9223372036854775807) (bc : -9223372036854775808 ≤ c ∧ c ≤ 9223372036854775807) : Calls Try.prog 22 #[.agg #[.int .i64 op, .int .i64 a, .int .i64 b, .int .i64 c]] w fun e w' => e = .returned (.tuple #[.string ⟨(putI op a b c).toArray⟩, .int .i64 0]) ∧ Below w.heap.size w w' := by
  have hO := (Own.nil (Below.refl _ w)).box #[.int .i64 op, .int .i64 a, .int .i64 b, .int .i64 c] 30
  have C := Lib.hid (Own.lift (rcheck_any op a b c _) hO _ rfl)
  rw [h0] at C
  obtain ⟨o1, o2, _⟩ := check_ok h0
  have FM := Lib.hid (fun (w1 : World) (h : Own w w1 [cellsA w.heap.size #[.int .i64 op, .int .i64 a, .int .i64 b, .int .i64 c] 30]) => Own.lift (rform_any op w1) h (.string ⟨([114, 114, 114] : List UInt8).toArray⟩) (by rw [hF]))
  have hFo := Lib.hid hF
  clear hF hO h0
  go_enter Try.func22, Try.ntmps22
  go_upto_region 5 with (first | (go_at_call 26; refine C.out.mono ?_; rintro e u0 ⟨rfl, hO⟩; obtain ⟨⟨x0, _⟩, ⟨x1, _⟩, ⟨x2, _⟩, ⟨x3, _⟩⟩ := cells4f 0 hO rfl) | (go_at_call 19; refine (FM.out _ hO).mono ?_; rintro e u ⟨rfl, hU⟩))
  clear x0 x1 x2 x3 hO C FM
  generalize hxb : w.heap.size = xb at *
  obtain ⟨⟨x0, _⟩, ⟨x1, _⟩, ⟨x2, _⟩, ⟨x3, _⟩⟩ := cells4f 0 hU rfl
  go_upto_region 6 with fail
  have hB := hU.box #[.int .i64 a, .int .i64 b, .int .i64 c] 3
  clear x0 x1 x2 x3 hU
  generalize u.alloc (.cells #[.int .i64 a, .int .i64 b, .int .i64 c] 3) = v at *
  generalize u.heap.size = B at *
  replace hB : Own w v [cellsA xb #[.int .i64 op, .int .i64 a, .int .i64 b, .int .i64 c] 30, cellsA B #[.int .i64 a, .int .i64 b, .int .i64 c] 3] := hB
  obtain ⟨⟨x0, _⟩, _⟩ := cells4f 0 hB rfl
  go_upto_region 7 with (first | (with_reducible show wpList _ _ _ (Oper.mk _ (Op.convert 50 9 _) _ _ _ _ :: _) _ _; go_must (refine wpList_string_lit _ rfl 50 9 _ rfl 5 Try.underlying50 Try.underlying5 Try.underlying9 _ [UInt8.ofNat (op % 256).toNat] rfl (by simp [maxLen]) ?_ ?_)))
  · simp [bytesV]
    omega
  have hO0 := hB.alloc (.cells #[.int .u8 op] 5)
  generalize v.alloc (.cells #[.int .u8 op] 5) = v0 at *
  rw [show (⟨#[UInt8.ofNat (op % 256).toNat]⟩ : ByteArray) = ⟨([UInt8.ofNat (op % 256).toNat] : List UInt8).toArray⟩ from rfl]
  generalize hq0 : ([UInt8.ofNat (op % 256).toNat] : List UInt8) = s0
  have l0 : s0.length = 1 := by rw [← hq0]; rfl
  replace hq0 := Lib.hid hq0
  clear x0 hB
  go_wp2_with fail
  refine wp_loop_rounds 4 ?_
  rw [rounds_succ]
  have y := (hO0.cget 1 rfl 0).1
  simp at y
  go_wp2_with (go_at_call 54; refine (rput_as s0 a 1 _ (by omega) ba.1 ba.2 1 (by decide)).mono ?_; rintro e v1 ⟨s1, rfl, q1, l1, hb1⟩)
  have hO1 := hO0.grow hb1
  replace l1 : s1.length = 2 := by omega
  clear y hO0 hb1
  rw [rounds_succ]
  have y := (hO1.cget 1 rfl 1).1
  simp at y
  go_wp2_with (go_at_call 54; refine (rput_as s1 b 1 _ (by omega) bb.1 bb.2 1 (by decide)).mono ?_; rintro e v2 ⟨s2, rfl, q2, l2, hb2⟩)
  have hO2 := hO1.grow hb2
  replace l2 : s2.length = 3 := by omega
  clear y hO1 hb2
  rw [rounds_succ]
  have y := (hO2.cget 1 rfl 2).1
  simp at y
  go_wp2_with (go_at_call 54; refine (rput_as s2 c 1 _ (by omega) bc.1 bc.2 1 (by decide)).mono ?_; rintro e v3 ⟨s3, rfl, q3, l3, hb3⟩)
  have hO3 := hO2.grow hb3
  replace l3 : s3.length = 4 := by omega
  clear y hO2 hb3
  rw [rounds_succ]
  go_wp2_with fail
  refine wp_loop_rounds 1 ?_
  repeat (rw [rounds_succ]; go_wp2_with fail)
  have hp : putI op a b c = s3 := by
    unfold putI
    rw [hFo.out]
    simp [putF, wideL, low_len, low_one, q3.out, q2.out, q1.out, ← hq0.out]
  go_ret2
  exact ⟨by rw [hp]; simp [results, ba_app], hO3.below⟩
theorem rputi_rr (op a b c : Int) (hF : formL op = [114, 114]) (h0 : checkI op a b c = 0) (w : World) (ba : -9223372036854775808 ≤ a ∧ a ≤ 9223372036854775807) (bb : -9223372036854775808 ≤ b ∧ b ≤ 9223372036854775807) (bc : -9223372036854775808 ≤ c ∧ c ≤ 9223372036854775807) : Calls Try.prog 22 #[.agg #[.int .i64 op, .int .i64 a, .int .i64 b, .int .i64 c]] w fun e w' => e = .returned (.tuple #[.string ⟨(putI op a b c).toArray⟩, .int .i64 0]) ∧ Below w.heap.size w w' := by
  have hO := (Own.nil (Below.refl _ w)).box #[.int .i64 op, .int .i64 a, .int .i64 b, .int .i64 c] 30
  have C := Lib.hid (Own.lift (rcheck_any op a b c _) hO _ rfl)
  rw [h0] at C
  obtain ⟨o1, o2, _⟩ := check_ok h0
  have FM := Lib.hid (fun (w1 : World) (h : Own w w1 [cellsA w.heap.size #[.int .i64 op, .int .i64 a, .int .i64 b, .int .i64 c] 30]) => Own.lift (rform_any op w1) h (.string ⟨([114, 114] : List UInt8).toArray⟩) (by rw [hF]))
  have hFo := Lib.hid hF
  clear hF hO h0
  go_enter Try.func22, Try.ntmps22
  go_upto_region 5 with (first | (go_at_call 26; refine C.out.mono ?_; rintro e u0 ⟨rfl, hO⟩; obtain ⟨⟨x0, _⟩, ⟨x1, _⟩, ⟨x2, _⟩, ⟨x3, _⟩⟩ := cells4f 0 hO rfl) | (go_at_call 19; refine (FM.out _ hO).mono ?_; rintro e u ⟨rfl, hU⟩))
  clear x0 x1 x2 x3 hO C FM
  generalize hxb : w.heap.size = xb at *
  obtain ⟨⟨x0, _⟩, ⟨x1, _⟩, ⟨x2, _⟩, ⟨x3, _⟩⟩ := cells4f 0 hU rfl
  go_upto_region 6 with fail
  have hB := hU.box #[.int .i64 a, .int .i64 b, .int .i64 c] 3
  clear x0 x1 x2 x3 hU
  generalize u.alloc (.cells #[.int .i64 a, .int .i64 b, .int .i64 c] 3) = v at *
  generalize u.heap.size = B at *
  replace hB : Own w v [cellsA xb #[.int .i64 op, .int .i64 a, .int .i64 b, .int .i64 c] 30, cellsA B #[.int .i64 a, .int .i64 b, .int .i64 c] 3] := hB
  obtain ⟨⟨x0, _⟩, _⟩ := cells4f 0 hB rfl
  go_upto_region 7 with (first | (with_reducible show wpList _ _ _ (Oper.mk _ (Op.convert 50 9 _) _ _ _ _ :: _) _ _; go_must (refine wpList_string_lit _ rfl 50 9 _ rfl 5 Try.underlying50 Try.underlying5 Try.underlying9 _ [UInt8.ofNat (op % 256).toNat] rfl (by simp [maxLen]) ?_ ?_)))
  · simp [bytesV]
    omega
  have hO0 := hB.alloc (.cells #[.int .u8 op] 5)
  generalize v.alloc (.cells #[.int .u8 op] 5) = v0 at *
  rw [show (⟨#[UInt8.ofNat (op % 256).toNat]⟩ : ByteArray) = ⟨([UInt8.ofNat (op % 256).toNat] : List UInt8).toArray⟩ from rfl]
  generalize hq0 : ([UInt8.ofNat (op % 256).toNat] : List UInt8) = s0
  have l0 : s0.length = 1 := by rw [← hq0]; rfl
  replace hq0 := Lib.hid hq0
  clear x0 hB
  go_wp2_with fail
  refine wp_loop_rounds 3 ?_
  rw [rounds_succ]
  have y := (hO0.cget 1 rfl 0).1
  simp at y
  go_wp2_with (go_at_call 54; refine (rput_as s0 a 1 _ (by omega) ba.1 ba.2 1 (by decide)).mono ?_; rintro e v1 ⟨s1, rfl, q1, l1, hb1⟩)
  have hO1 := hO0.grow hb1
  replace l1 : s1.length = 2 := by omega
  clear y hO0 hb1
  rw [rounds_succ]
  have y := (hO1.cget 1 rfl 1).1
  simp at y
  go_wp2_with (go_at_call 54; refine (rput_as s1 b 1 _ (by omega) bb.1 bb.2 1 (by decide)).mono ?_; rintro e v2 ⟨s2, rfl, q2, l2, hb2⟩)
  have hO2 := hO1.grow hb2
  replace l2 : s2.length = 3 := by omega
  clear y hO1 hb2
  rw [rounds_succ]
  go_wp2_with fail
  refine wp_loop_rounds 2 ?_
  repeat (rw [rounds_succ]; go_wp2_with fail)
  have hp : putI op a b c = s2 ++ [0] := by
    unfold putI
    rw [hFo.out]
    simp [putF, wideL, low_len, low_one, q2.out, q1.out, ← hq0.out]
  go_ret2
  exact ⟨by rw [hp]; simp [results, ba_app], hO2.below⟩
theorem rputi_r (op a b c : Int) (hF : formL op = [114]) (h0 : checkI op a b c = 0) (w : World) (ba : -9223372036854775808 ≤ a ∧ a ≤ 9223372036854775807) (bb : -9223372036854775808 ≤ b ∧ b ≤ 9223372036854775807) (bc : -9223372036854775808 ≤ c ∧ c ≤ 9223372036854775807) : Calls Try.prog 22 #[.agg #[.int .i64 op, .int .i64 a, .int .i64 b, .int .i64 c]] w fun e w' => e = .returned (.tuple #[.string ⟨(putI op a b c).toArray⟩, .int .i64 0]) ∧ Below w.heap.size w w' := by
  have hO := (Own.nil (Below.refl _ w)).box #[.int .i64 op, .int .i64 a, .int .i64 b, .int .i64 c] 30
  have C := Lib.hid (Own.lift (rcheck_any op a b c _) hO _ rfl)
  rw [h0] at C
  obtain ⟨o1, o2, _⟩ := check_ok h0
  have FM := Lib.hid (fun (w1 : World) (h : Own w w1 [cellsA w.heap.size #[.int .i64 op, .int .i64 a, .int .i64 b, .int .i64 c] 30]) => Own.lift (rform_any op w1) h (.string ⟨([114] : List UInt8).toArray⟩) (by rw [hF]))
  have hFo := Lib.hid hF
  clear hF hO h0
  go_enter Try.func22, Try.ntmps22
  go_upto_region 5 with (first | (go_at_call 26; refine C.out.mono ?_; rintro e u0 ⟨rfl, hO⟩; obtain ⟨⟨x0, _⟩, ⟨x1, _⟩, ⟨x2, _⟩, ⟨x3, _⟩⟩ := cells4f 0 hO rfl) | (go_at_call 19; refine (FM.out _ hO).mono ?_; rintro e u ⟨rfl, hU⟩))
  clear x0 x1 x2 x3 hO C FM
  generalize hxb : w.heap.size = xb at *
  obtain ⟨⟨x0, _⟩, ⟨x1, _⟩, ⟨x2, _⟩, ⟨x3, _⟩⟩ := cells4f 0 hU rfl
  go_upto_region 6 with fail
  have hB := hU.box #[.int .i64 a, .int .i64 b, .int .i64 c] 3
  clear x0 x1 x2 x3 hU
  generalize u.alloc (.cells #[.int .i64 a, .int .i64 b, .int .i64 c] 3) = v at *
  generalize u.heap.size = B at *
  replace hB : Own w v [cellsA xb #[.int .i64 op, .int .i64 a, .int .i64 b, .int .i64 c] 30, cellsA B #[.int .i64 a, .int .i64 b, .int .i64 c] 3] := hB
  obtain ⟨⟨x0, _⟩, _⟩ := cells4f 0 hB rfl
  go_upto_region 7 with (first | (with_reducible show wpList _ _ _ (Oper.mk _ (Op.convert 50 9 _) _ _ _ _ :: _) _ _; go_must (refine wpList_string_lit _ rfl 50 9 _ rfl 5 Try.underlying50 Try.underlying5 Try.underlying9 _ [UInt8.ofNat (op % 256).toNat] rfl (by simp [maxLen]) ?_ ?_)))
  · simp [bytesV]
    omega
  have hO0 := hB.alloc (.cells #[.int .u8 op] 5)
  generalize v.alloc (.cells #[.int .u8 op] 5) = v0 at *
  rw [show (⟨#[UInt8.ofNat (op % 256).toNat]⟩ : ByteArray) = ⟨([UInt8.ofNat (op % 256).toNat] : List UInt8).toArray⟩ from rfl]
  generalize hq0 : ([UInt8.ofNat (op % 256).toNat] : List UInt8) = s0
  have l0 : s0.length = 1 := by rw [← hq0]; rfl
  replace hq0 := Lib.hid hq0
  clear x0 hB
  go_wp2_with fail
  refine wp_loop_rounds 2 ?_
  rw [rounds_succ]
  have y := (hO0.cget 1 rfl 0).1
  simp at y
  go_wp2_with (go_at_call 54; refine (rput_as s0 a 1 _ (by omega) ba.1 ba.2 1 (by decide)).mono ?_; rintro e v1 ⟨s1, rfl, q1, l1, hb1⟩)
  have hO1 := hO0.grow hb1
  replace l1 : s1.length = 2 := by omega
  clear y hO0 hb1
  rw [rounds_succ]
  go_wp2_with fail
  refine wp_loop_rounds 3 ?_
  repeat (rw [rounds_succ]; go_wp2_with fail)
  have hp : putI op a b c = s1 ++ [0, 0] := by
    unfold putI
    rw [hFo.out]
    simp [putF, wideL, low_len, low_one, q1.out, ← hq0.out]
  go_ret2
  exact ⟨by rw [hp]; simp [results, ba_app], hO1.below⟩
theorem rputi_rn (op a b c : Int) (hF : formL op = [114, 110]) (h0 : checkI op a b c = 0) (w : World) (ba : -9223372036854775808 ≤ a ∧ a ≤ 9223372036854775807) (bb : -9223372036854775808 ≤ b ∧ b ≤ 9223372036854775807) (bc : -9223372036854775808 ≤ c ∧ c ≤ 9223372036854775807) : Calls Try.prog 22 #[.agg #[.int .i64 op, .int .i64 a, .int .i64 b, .int .i64 c]] w fun e w' => e = .returned (.tuple #[.string ⟨(putI op a b c).toArray⟩, .int .i64 0]) ∧ Below w.heap.size w w' := by
  have hO := (Own.nil (Below.refl _ w)).box #[.int .i64 op, .int .i64 a, .int .i64 b, .int .i64 c] 30
  have C := Lib.hid (Own.lift (rcheck_any op a b c _) hO _ rfl)
  rw [h0] at C
  obtain ⟨o1, o2, _⟩ := check_ok h0
  have FM := Lib.hid (fun (w1 : World) (h : Own w w1 [cellsA w.heap.size #[.int .i64 op, .int .i64 a, .int .i64 b, .int .i64 c] 30]) => Own.lift (rform_any op w1) h (.string ⟨([114, 110] : List UInt8).toArray⟩) (by rw [hF]))
  have hFo := Lib.hid hF
  clear hF hO h0
  go_enter Try.func22, Try.ntmps22
  go_upto_region 5 with (first | (go_at_call 26; refine C.out.mono ?_; rintro e u0 ⟨rfl, hO⟩; obtain ⟨⟨x0, _⟩, ⟨x1, _⟩, ⟨x2, _⟩, ⟨x3, _⟩⟩ := cells4f 0 hO rfl) | (go_at_call 19; refine (FM.out _ hO).mono ?_; rintro e u ⟨rfl, hU⟩))
  clear x0 x1 x2 x3 hO C FM
  generalize hxb : w.heap.size = xb at *
  obtain ⟨⟨x0, _⟩, ⟨x1, _⟩, ⟨x2, _⟩, ⟨x3, _⟩⟩ := cells4f 0 hU rfl
  go_upto_region 6 with fail
  have hB := hU.box #[.int .i64 a, .int .i64 b, .int .i64 c] 3
  clear x0 x1 x2 x3 hU
  generalize u.alloc (.cells #[.int .i64 a, .int .i64 b, .int .i64 c] 3) = v at *
  generalize u.heap.size = B at *
  replace hB : Own w v [cellsA xb #[.int .i64 op, .int .i64 a, .int .i64 b, .int .i64 c] 30, cellsA B #[.int .i64 a, .int .i64 b, .int .i64 c] 3] := hB
  obtain ⟨⟨x0, _⟩, _⟩ := cells4f 0 hB rfl
  go_upto_region 7 with (first | (with_reducible show wpList _ _ _ (Oper.mk _ (Op.convert 50 9 _) _ _ _ _ :: _) _ _; go_must (refine wpList_string_lit _ rfl 50 9 _ rfl 5 Try.underlying50 Try.underlying5 Try.underlying9 _ [UInt8.ofNat (op % 256).toNat] rfl (by simp [maxLen]) ?_ ?_)))
  · simp [bytesV]
    omega
  have hO0 := hB.alloc (.cells #[.int .u8 op] 5)
  generalize v.alloc (.cells #[.int .u8 op] 5) = v0 at *
  rw [show (⟨#[UInt8.ofNat (op % 256).toNat]⟩ : ByteArray) = ⟨([UInt8.ofNat (op % 256).toNat] : List UInt8).toArray⟩ from rfl]
  generalize hq0 : ([UInt8.ofNat (op % 256).toNat] : List UInt8) = s0
  have l0 : s0.length = 1 := by rw [← hq0]; rfl
  replace hq0 := Lib.hid hq0
  clear x0 hB
  go_wp2_with fail
  refine wp_loop_rounds 3 ?_
  rw [rounds_succ]
  have y := (hO0.cget 1 rfl 0).1
  simp at y
  go_wp2_with (go_at_call 54; refine (rput_as s0 a 1 _ (by omega) ba.1 ba.2 1 (by decide)).mono ?_; rintro e v1 ⟨s1, rfl, q1, l1, hb1⟩)
  have hO1 := hO0.grow hb1
  replace l1 : s1.length = 2 := by omega
  clear y hO0 hb1
  rw [rounds_succ]
  have y := (hO1.cget 1 rfl 1).1
  simp at y
  go_wp2_with (go_at_call 54; refine (rput_as s1 b 2 _ (by omega) bb.1 bb.2 2 (by decide)).mono ?_; rintro e v2 ⟨s2, rfl, q2, l2, hb2⟩)
  have hO2 := hO1.grow hb2
  replace l2 : s2.length = 4 := by omega
  clear y hO1 hb2
  rw [rounds_succ]
  go_wp2_with fail
  refine wp_loop_rounds 1 ?_
  repeat (rw [rounds_succ]; go_wp2_with fail)
  have hp : putI op a b c = s2 := by
    unfold putI
    rw [hFo.out]
    simp [putF, wideL, low_len, low_one, q2.out, q1.out, ← hq0.out]
  go_ret2
  exact ⟨by rw [hp]; simp [results, ba_app], hO2.below⟩
theorem rputi_rt (op a b c : Int) (hF : formL op = [114, 116]) (h0 : checkI op a b c = 0) (w : World) (ba : -9223372036854775808 ≤ a ∧ a ≤ 9223372036854775807) (bb : -9223372036854775808 ≤ b ∧ b ≤ 9223372036854775807) (bc : -9223372036854775808 ≤ c ∧ c ≤ 9223372036854775807) : Calls Try.prog 22 #[.agg #[.int .i64 op, .int .i64 a, .int .i64 b, .int .i64 c]] w fun e w' => e = .returned (.tuple #[.string ⟨(putI op a b c).toArray⟩, .int .i64 0]) ∧ Below w.heap.size w w' := by
  have hO := (Own.nil (Below.refl _ w)).box #[.int .i64 op, .int .i64 a, .int .i64 b, .int .i64 c] 30
  have C := Lib.hid (Own.lift (rcheck_any op a b c _) hO _ rfl)
  rw [h0] at C
  obtain ⟨o1, o2, _⟩ := check_ok h0
  have FM := Lib.hid (fun (w1 : World) (h : Own w w1 [cellsA w.heap.size #[.int .i64 op, .int .i64 a, .int .i64 b, .int .i64 c] 30]) => Own.lift (rform_any op w1) h (.string ⟨([114, 116] : List UInt8).toArray⟩) (by rw [hF]))
  have hFo := Lib.hid hF
  clear hF hO h0
  go_enter Try.func22, Try.ntmps22
  go_upto_region 5 with (first | (go_at_call 26; refine C.out.mono ?_; rintro e u0 ⟨rfl, hO⟩; obtain ⟨⟨x0, _⟩, ⟨x1, _⟩, ⟨x2, _⟩, ⟨x3, _⟩⟩ := cells4f 0 hO rfl) | (go_at_call 19; refine (FM.out _ hO).mono ?_; rintro e u ⟨rfl, hU⟩))
  clear x0 x1 x2 x3 hO C FM
  generalize hxb : w.heap.size = xb at *
  obtain ⟨⟨x0, _⟩, ⟨x1, _⟩, ⟨x2, _⟩, ⟨x3, _⟩⟩ := cells4f 0 hU rfl
  go_upto_region 6 with fail
  have hB := hU.box #[.int .i64 a, .int .i64 b, .int .i64 c] 3
  clear x0 x1 x2 x3 hU
  generalize u.alloc (.cells #[.int .i64 a, .int .i64 b, .int .i64 c] 3) = v at *
  generalize u.heap.size = B at *
  replace hB : Own w v [cellsA xb #[.int .i64 op, .int .i64 a, .int .i64 b, .int .i64 c] 30, cellsA B #[.int .i64 a, .int .i64 b, .int .i64 c] 3] := hB
  obtain ⟨⟨x0, _⟩, _⟩ := cells4f 0 hB rfl
  go_upto_region 7 with (first | (with_reducible show wpList _ _ _ (Oper.mk _ (Op.convert 50 9 _) _ _ _ _ :: _) _ _; go_must (refine wpList_string_lit _ rfl 50 9 _ rfl 5 Try.underlying50 Try.underlying5 Try.underlying9 _ [UInt8.ofNat (op % 256).toNat] rfl (by simp [maxLen]) ?_ ?_)))
  · simp [bytesV]
    omega
  have hO0 := hB.alloc (.cells #[.int .u8 op] 5)
  generalize v.alloc (.cells #[.int .u8 op] 5) = v0 at *
  rw [show (⟨#[UInt8.ofNat (op % 256).toNat]⟩ : ByteArray) = ⟨([UInt8.ofNat (op % 256).toNat] : List UInt8).toArray⟩ from rfl]
  generalize hq0 : ([UInt8.ofNat (op % 256).toNat] : List UInt8) = s0
  have l0 : s0.length = 1 := by rw [← hq0]; rfl
  replace hq0 := Lib.hid hq0
  clear x0 hB
  go_wp2_with fail
  refine wp_loop_rounds 3 ?_
  rw [rounds_succ]
  have y := (hO0.cget 1 rfl 0).1
  simp at y
  go_wp2_with (go_at_call 54; refine (rput_as s0 a 1 _ (by omega) ba.1 ba.2 1 (by decide)).mono ?_; rintro e v1 ⟨s1, rfl, q1, l1, hb1⟩)
  have hO1 := hO0.grow hb1
  replace l1 : s1.length = 2 := by omega
  clear y hO0 hb1
  rw [rounds_succ]
  have y := (hO1.cget 1 rfl 1).1
  simp at y
  go_wp2_with (go_at_call 54; refine (rput_as s1 b 2 _ (by omega) bb.1 bb.2 2 (by decide)).mono ?_; rintro e v2 ⟨s2, rfl, q2, l2, hb2⟩)
  have hO2 := hO1.grow hb2
  replace l2 : s2.length = 4 := by omega
  clear y hO1 hb2
  rw [rounds_succ]
  go_wp2_with fail
  refine wp_loop_rounds 1 ?_
  repeat (rw [rounds_succ]; go_wp2_with fail)
  have hp : putI op a b c = s2 := by
    unfold putI
    rw [hFo.out]
    simp [putF, wideL, low_len, low_one, q2.out, q1.out, ← hq0.out]
  go_ret2
  exact ⟨by rw [hp]; simp [results, ba_app], hO2.below⟩
theorem rputi_t (op a b c : Int) (hF : formL op = [116]) (h0 : checkI op a b c = 0) (w : World) (ba : -9223372036854775808 ≤ a ∧ a ≤ 9223372036854775807) (bb : -9223372036854775808 ≤ b ∧ b ≤ 9223372036854775807) (bc : -9223372036854775808 ≤ c ∧ c ≤ 9223372036854775807) : Calls Try.prog 22 #[.agg #[.int .i64 op, .int .i64 a, .int .i64 b, .int .i64 c]] w fun e w' => e = .returned (.tuple #[.string ⟨(putI op a b c).toArray⟩, .int .i64 0]) ∧ Below w.heap.size w w' := by
  have hO := (Own.nil (Below.refl _ w)).box #[.int .i64 op, .int .i64 a, .int .i64 b, .int .i64 c] 30
  have C := Lib.hid (Own.lift (rcheck_any op a b c _) hO _ rfl)
  rw [h0] at C
  obtain ⟨o1, o2, _⟩ := check_ok h0
  have FM := Lib.hid (fun (w1 : World) (h : Own w w1 [cellsA w.heap.size #[.int .i64 op, .int .i64 a, .int .i64 b, .int .i64 c] 30]) => Own.lift (rform_any op w1) h (.string ⟨([116] : List UInt8).toArray⟩) (by rw [hF]))
  have hFo := Lib.hid hF
  clear hF hO h0
  go_enter Try.func22, Try.ntmps22
  go_upto_region 5 with (first | (go_at_call 26; refine C.out.mono ?_; rintro e u0 ⟨rfl, hO⟩; obtain ⟨⟨x0, _⟩, ⟨x1, _⟩, ⟨x2, _⟩, ⟨x3, _⟩⟩ := cells4f 0 hO rfl) | (go_at_call 19; refine (FM.out _ hO).mono ?_; rintro e u ⟨rfl, hU⟩))
  clear x0 x1 x2 x3 hO C FM
  generalize hxb : w.heap.size = xb at *
  obtain ⟨⟨x0, _⟩, ⟨x1, _⟩, ⟨x2, _⟩, ⟨x3, _⟩⟩ := cells4f 0 hU rfl
  go_upto_region 6 with fail
  have hB := hU.box #[.int .i64 a, .int .i64 b, .int .i64 c] 3
  clear x0 x1 x2 x3 hU
  generalize u.alloc (.cells #[.int .i64 a, .int .i64 b, .int .i64 c] 3) = v at *
  generalize u.heap.size = B at *
  replace hB : Own w v [cellsA xb #[.int .i64 op, .int .i64 a, .int .i64 b, .int .i64 c] 30, cellsA B #[.int .i64 a, .int .i64 b, .int .i64 c] 3] := hB
  obtain ⟨⟨x0, _⟩, _⟩ := cells4f 0 hB rfl
  go_upto_region 7 with (first | (with_reducible show wpList _ _ _ (Oper.mk _ (Op.convert 50 9 _) _ _ _ _ :: _) _ _; go_must (refine wpList_string_lit _ rfl 50 9 _ rfl 5 Try.underlying50 Try.underlying5 Try.underlying9 _ [UInt8.ofNat (op % 256).toNat] rfl (by simp [maxLen]) ?_ ?_)))
  · simp [bytesV]
    omega
  have hO0 := hB.alloc (.cells #[.int .u8 op] 5)
  generalize v.alloc (.cells #[.int .u8 op] 5) = v0 at *
  rw [show (⟨#[UInt8.ofNat (op % 256).toNat]⟩ : ByteArray) = ⟨([UInt8.ofNat (op % 256).toNat] : List UInt8).toArray⟩ from rfl]
  generalize hq0 : ([UInt8.ofNat (op % 256).toNat] : List UInt8) = s0
  have l0 : s0.length = 1 := by rw [← hq0]; rfl
  replace hq0 := Lib.hid hq0
  clear x0 hB
  go_wp2_with fail
  refine wp_loop_rounds 2 ?_
  rw [rounds_succ]
  have y := (hO0.cget 1 rfl 0).1
  simp at y
  go_wp2_with (go_at_call 54; refine (rput_as s0 a 2 _ (by omega) ba.1 ba.2 2 (by decide)).mono ?_; rintro e v1 ⟨s1, rfl, q1, l1, hb1⟩)
  have hO1 := hO0.grow hb1
  replace l1 : s1.length = 3 := by omega
  clear y hO0 hb1
  rw [rounds_succ]
  go_wp2_with fail
  refine wp_loop_rounds 2 ?_
  repeat (rw [rounds_succ]; go_wp2_with fail)
  have hp : putI op a b c = s1 ++ [0] := by
    unfold putI
    rw [hFo.out]
    simp [putF, wideL, low_len, low_one, q1.out, ← hq0.out]
  go_ret2
  exact ⟨by rw [hp]; simp [results, ba_app], hO1.below⟩
theorem rputi_f (op a b c : Int) (hF : formL op = [102]) (h0 : checkI op a b c = 0) (w : World) (ba : -9223372036854775808 ≤ a ∧ a ≤ 9223372036854775807) (bb : -9223372036854775808 ≤ b ∧ b ≤ 9223372036854775807) (bc : -9223372036854775808 ≤ c ∧ c ≤ 9223372036854775807) : Calls Try.prog 22 #[.agg #[.int .i64 op, .int .i64 a, .int .i64 b, .int .i64 c]] w fun e w' => e = .returned (.tuple #[.string ⟨(putI op a b c).toArray⟩, .int .i64 0]) ∧ Below w.heap.size w w' := by
  have hO := (Own.nil (Below.refl _ w)).box #[.int .i64 op, .int .i64 a, .int .i64 b, .int .i64 c] 30
  have C := Lib.hid (Own.lift (rcheck_any op a b c _) hO _ rfl)
  rw [h0] at C
  obtain ⟨o1, o2, _⟩ := check_ok h0
  have FM := Lib.hid (fun (w1 : World) (h : Own w w1 [cellsA w.heap.size #[.int .i64 op, .int .i64 a, .int .i64 b, .int .i64 c] 30]) => Own.lift (rform_any op w1) h (.string ⟨([102] : List UInt8).toArray⟩) (by rw [hF]))
  have hFo := Lib.hid hF
  clear hF hO h0
  go_enter Try.func22, Try.ntmps22
  go_upto_region 5 with (first | (go_at_call 26; refine C.out.mono ?_; rintro e u0 ⟨rfl, hO⟩; obtain ⟨⟨x0, _⟩, ⟨x1, _⟩, ⟨x2, _⟩, ⟨x3, _⟩⟩ := cells4f 0 hO rfl) | (go_at_call 19; refine (FM.out _ hO).mono ?_; rintro e u ⟨rfl, hU⟩))
  clear x0 x1 x2 x3 hO C FM
  generalize hxb : w.heap.size = xb at *
  obtain ⟨⟨x0, _⟩, ⟨x1, _⟩, ⟨x2, _⟩, ⟨x3, _⟩⟩ := cells4f 0 hU rfl
  go_upto_region 6 with fail
  have hB := hU.box #[.int .i64 a, .int .i64 b, .int .i64 c] 3
  clear x0 x1 x2 x3 hU
  generalize u.alloc (.cells #[.int .i64 a, .int .i64 b, .int .i64 c] 3) = v at *
  generalize u.heap.size = B at *
  replace hB : Own w v [cellsA xb #[.int .i64 op, .int .i64 a, .int .i64 b, .int .i64 c] 30, cellsA B #[.int .i64 a, .int .i64 b, .int .i64 c] 3] := hB
  obtain ⟨⟨x0, _⟩, _⟩ := cells4f 0 hB rfl
  go_upto_region 7 with (first | (with_reducible show wpList _ _ _ (Oper.mk _ (Op.convert 50 9 _) _ _ _ _ :: _) _ _; go_must (refine wpList_string_lit _ rfl 50 9 _ rfl 5 Try.underlying50 Try.underlying5 Try.underlying9 _ [UInt8.ofNat (op % 256).toNat] rfl (by simp [maxLen]) ?_ ?_)))
  · simp [bytesV]
    omega
  have hO0 := hB.alloc (.cells #[.int .u8 op] 5)
  generalize v.alloc (.cells #[.int .u8 op] 5) = v0 at *
  rw [show (⟨#[UInt8.ofNat (op % 256).toNat]⟩ : ByteArray) = ⟨([UInt8.ofNat (op % 256).toNat] : List UInt8).toArray⟩ from rfl]
  generalize hq0 : ([UInt8.ofNat (op % 256).toNat] : List UInt8) = s0
  have l0 : s0.length = 1 := by rw [← hq0]; rfl
  replace hq0 := Lib.hid hq0
  clear x0 hB
  go_wp2_with fail
  refine wp_loop_rounds 2 ?_
  rw [rounds_succ]
  have y := (hO0.cget 1 rfl 0).1
  simp at y
  go_wp2_with (go_at_call 54; refine (rput_as s0 a 1 _ (by omega) ba.1 ba.2 1 (by decide)).mono ?_; rintro e v1 ⟨s1, rfl, q1, l1, hb1⟩)
  have hO1 := hO0.grow hb1
  replace l1 : s1.length = 2 := by omega
  clear y hO0 hb1
  rw [rounds_succ]
  go_wp2_with fail
  refine wp_loop_rounds 3 ?_
  repeat (rw [rounds_succ]; go_wp2_with fail)
  have hp : putI op a b c = s1 ++ [0, 0] := by
    unfold putI
    rw [hFo.out]
    simp [putF, wideL, low_len, low_one, q1.out, ← hq0.out]
  go_ret2
  exact ⟨by rw [hp]; simp [results, ba_app], hO1.below⟩
theorem rputi_z (op a b c : Int) (hF : formL op = []) (h0 : checkI op a b c = 0) (w : World) (ba : -9223372036854775808 ≤ a ∧ a ≤ 9223372036854775807) (bb : -9223372036854775808 ≤ b ∧ b ≤ 9223372036854775807) (bc : -9223372036854775808 ≤ c ∧ c ≤ 9223372036854775807) : Calls Try.prog 22 #[.agg #[.int .i64 op, .int .i64 a, .int .i64 b, .int .i64 c]] w fun e w' => e = .returned (.tuple #[.string ⟨(putI op a b c).toArray⟩, .int .i64 0]) ∧ Below w.heap.size w w' := by
  have hO := (Own.nil (Below.refl _ w)).box #[.int .i64 op, .int .i64 a, .int .i64 b, .int .i64 c] 30
  have C := Lib.hid (Own.lift (rcheck_any op a b c _) hO _ rfl)
  rw [h0] at C
  obtain ⟨o1, o2, _⟩ := check_ok h0
  have FM := Lib.hid (fun (w1 : World) (h : Own w w1 [cellsA w.heap.size #[.int .i64 op, .int .i64 a, .int .i64 b, .int .i64 c] 30]) => Own.lift (rform_any op w1) h (.string ⟨([] : List UInt8).toArray⟩) (by rw [hF]))
  have hFo := Lib.hid hF
  clear hF hO h0
  go_enter Try.func22, Try.ntmps22
  go_upto_region 5 with (first | (go_at_call 26; refine C.out.mono ?_; rintro e u0 ⟨rfl, hO⟩; obtain ⟨⟨x0, _⟩, ⟨x1, _⟩, ⟨x2, _⟩, ⟨x3, _⟩⟩ := cells4f 0 hO rfl) | (go_at_call 19; refine (FM.out _ hO).mono ?_; rintro e u ⟨rfl, hU⟩))
  clear x0 x1 x2 x3 hO C FM
  generalize hxb : w.heap.size = xb at *
  obtain ⟨⟨x0, _⟩, ⟨x1, _⟩, ⟨x2, _⟩, ⟨x3, _⟩⟩ := cells4f 0 hU rfl
  go_upto_region 6 with fail
  have hB := hU.box #[.int .i64 a, .int .i64 b, .int .i64 c] 3
  clear x0 x1 x2 x3 hU
  generalize u.alloc (.cells #[.int .i64 a, .int .i64 b, .int .i64 c] 3) = v at *
  generalize u.heap.size = B at *
  replace hB : Own w v [cellsA xb #[.int .i64 op, .int .i64 a, .int .i64 b, .int .i64 c] 30, cellsA B #[.int .i64 a, .int .i64 b, .int .i64 c] 3] := hB
  obtain ⟨⟨x0, _⟩, _⟩ := cells4f 0 hB rfl
  go_upto_region 7 with (first | (with_reducible show wpList _ _ _ (Oper.mk _ (Op.convert 50 9 _) _ _ _ _ :: _) _ _; go_must (refine wpList_string_lit _ rfl 50 9 _ rfl 5 Try.underlying50 Try.underlying5 Try.underlying9 _ [UInt8.ofNat (op % 256).toNat] rfl (by simp [maxLen]) ?_ ?_)))
  · simp [bytesV]
    omega
  have hO0 := hB.alloc (.cells #[.int .u8 op] 5)
  generalize v.alloc (.cells #[.int .u8 op] 5) = v0 at *
  rw [show (⟨#[UInt8.ofNat (op % 256).toNat]⟩ : ByteArray) = ⟨([UInt8.ofNat (op % 256).toNat] : List UInt8).toArray⟩ from rfl]
  generalize hq0 : ([UInt8.ofNat (op % 256).toNat] : List UInt8) = s0
  have l0 : s0.length = 1 := by rw [← hq0]; rfl
  replace hq0 := Lib.hid hq0
  clear x0 hB
  go_wp2_with fail
  refine wp_loop_rounds 1 ?_
  rw [rounds_succ]
  go_wp2_with fail
  refine wp_loop_rounds 4 ?_
  repeat (rw [rounds_succ]; go_wp2_with fail)
  have hp : putI op a b c = s0 ++ [0, 0, 0] := by
    unfold putI
    rw [hFo.out]
    simp [putF, wideL, low_len, low_one, ← hq0.out]
  go_ret2
  exact ⟨by rw [hp]; simp [results, ba_app], hO0.below⟩
theorem rputi_ok (op a b c : Int) (h0 : checkI op a b c = 0) (w : World) (ba : -9223372036854775808 ≤ a ∧ a ≤ 9223372036854775807) (bb : -9223372036854775808 ≤ b ∧ b ≤ 9223372036854775807) (bc : -9223372036854775808 ≤ c ∧ c ≤ 9223372036854775807) : Calls Try.prog 22 #[.agg #[.int .i64 op, .int .i64 a, .int .i64 b, .int .i64 c]] w fun e w' => e = .returned (.tuple #[.string ⟨(putI op a b c).toArray⟩, .int .i64 0]) ∧ Below w.heap.size w w' := by
  rcases form_cases op with h | h | h | h | h | h | h | h
  · exact rputi_rrr op a b c h.1 h0 w ba bb bc
  · exact rputi_rr op a b c h.1 h0 w ba bb bc
  · exact rputi_r op a b c h.1 h0 w ba bb bc
  · exact rputi_rn op a b c h.1 h0 w ba bb bc
  · exact rputi_rt op a b c h.1 h0 w ba bb bc
  · exact rputi_t op a b c h.1 h0 w ba bb bc
  · exact rputi_f op a b c h.1 h0 w ba bb bc
  · exact rputi_z op a b c h.1 h0 w ba bb bc
end Go.Proofs.Ytboiogjklecpaaa
