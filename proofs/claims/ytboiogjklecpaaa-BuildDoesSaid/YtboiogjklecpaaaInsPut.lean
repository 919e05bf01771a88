/- Package ins: an instruction as bytes. -/
import Derived.Test.YtboiogjklecpaaaInsCheck
set_option linter.unusedVariables false
set_option linter.unusedSimpArgs false
namespace Go.Proofs.Ytboiogjklecpaaa
open Go.RowKit
set_option maxRecDepth 100000
set_option maxHeartbeats 8000000
theorem wide_r (w : World) : Calls Try.prog 53 #[.int .u8 114] w fun e w' => e = .returned (.int .i64 1) ∧ w = w' := by
  go_enter Try.func53, Try.ntmps53
  go_wp2
  go_ret
  exact ⟨rfl, rfl⟩
theorem wide_f (w : World) : Calls Try.prog 53 #[.int .u8 102] w fun e w' => e = .returned (.int .i64 1) ∧ w = w' := by
  go_enter Try.func53, Try.ntmps53
  go_wp2
  go_ret
  exact ⟨rfl, rfl⟩
theorem wide_n (w : World) : Calls Try.prog 53 #[.int .u8 110] w fun e w' => e = .returned (.int .i64 2) ∧ w = w' := by
  go_enter Try.func53, Try.ntmps53
  go_wp2
  go_ret
  exact ⟨rfl, rfl⟩
theorem wide_t (w : World) : Calls Try.prog 53 #[.int .u8 116] w fun e w' => e = .returned (.int .i64 2) ∧ w = w' := by
  go_enter Try.func53, Try.ntmps53
  go_wp2
  go_ret
  exact ⟨rfl, rfl⟩
theorem put_as (s : List UInt8) (n k : Int) (w : World) (hl : s.length ≤ 1000000000) (j : Nat) (hj : hs k = j) : Calls Try.prog 52 #[.string ⟨s.toArray⟩, .int .i64 n, .int .i64 k] w fun e w' => ∃ s1 : List UInt8, e = .returned (.string ⟨s1.toArray⟩) ∧ Hid (s1 = s ++ low n j) ∧ s1.length = s.length + j ∧ Below w.heap.size w w' := by
  subst hj
  refine (put_any s n k w hl).mono ?_
  rintro e w' ⟨rfl, hb⟩
  exact ⟨_, rfl, Lib.hid rfl, by simp [low_len], hb⟩
theorem put_bad (op a b c : Int) (e0 : Int) (he : checkI op a b c = e0) (h0 : e0 ≠ 0) (w : World) : Calls Try.prog 21 #[.agg #[.int .i64 op, .int .i64 a, .int .i64 b, .int .i64 c]] w fun e w' => e = .returned (.tuple #[.string ⟨#[]⟩, .int .i64 e0]) ∧ Below w.heap.size w w' := by
  have hO := (Own.nil (Below.refl _ w)).box #[.int .i64 op, .int .i64 a, .int .i64 b, .int .i64 c] 30
  have C := Lib.hid (Own.lift (check_any op a b c _) hO _ rfl)
  rw [he] at C
  have hne : (e0 != 0) = true := by simpa using h0
  clear hO he
  go_enter Try.func21, Try.ntmps21
  go_wp2_with (first | (go_at_call 24; refine C.out.mono ?_; rintro e w1 ⟨rfl, h1⟩))
  go_ret2
  exact ⟨by simp, h1.below⟩
theorem ba_app (x : List UInt8) (y : Array UInt8) : ((⟨x.toArray⟩ : ByteArray) ++ (⟨y⟩ : ByteArray)) = ⟨(x ++ y.toList).toArray⟩ := by
  apply ByteArray.ext
  simp [ByteArray.data_append]
theorem put_rrr (op a b c : Int) (hF : formL op = [114, 114, 114]) (h0 : checkI op a b c = 0) (w : World) : Calls Try.prog 21 #[.agg #[.int .i64 op, .int .i64 a, .int .i64 b, .int .i64 c]] w fun e w' => e = .returned (.tuple #[.string ⟨(putI op a b c).toArray⟩, .int .i64 0]) ∧ Below w.heap.size w w' := by
  have hO := (Own.nil (Below.refl _ w)).box #[.int .i64 op, .int .i64 a, .int .i64 b, .int .i64 c] 30
  have C := Lib.hid (Own.lift (check_any op a b c _) hO _ rfl)
  rw [h0] at C
  have FM := fun w1 => form_any op w1
  rw [hF] at FM
  replace FM := Lib.hid FM
  have hFo := Lib.hid hF
  clear hF hO h0
  go_enter Try.func21, Try.ntmps21
  go_upto_region 4 with (first | (go_at_call 24; refine C.out.mono ?_; rintro e u ⟨rfl, hO⟩))
  generalize w.heap.size = xb at *
  have hU : Own w u.drew _ := hO.drewN 1
  clear hO C
  go_cut [5, 6] from 14 to 18 (fun f l wx => ∃ B : Nat, f = .string ⟨([114, 114, 114] : List UInt8).toArray⟩ ∧ l = .pointer (some ⟨B, 0, none⟩) ∧ Own w wx [cellsA xb #[.int .i64 op, .int .i64 a, .int .i64 b, .int .i64 c] 30, cellsA B #[.int .i64 a, .int .i64 b, .int .i64 c] 74])
  case first =>
    refine lin_start (S := (fun w' : World => w'.cell? ⟨xb, 0, none⟩ = some (.int .i64 op) ∧ w'.cell? ⟨xb, 1, none⟩ = some (.int .i64 a) ∧ w'.cell? ⟨xb, 2, none⟩ = some (.int .i64 b) ∧ w'.cell? ⟨xb, 3, none⟩ = some (.int .i64 c))) rfl 8 rfl ((show (fun w' : World => w'.cell? ⟨xb, 0, none⟩ = some (.int .i64 op) ∧ w'.cell? ⟨xb, 1, none⟩ = some (.int .i64 a) ∧ w'.cell? ⟨xb, 2, none⟩ = some (.int .i64 b) ∧ w'.cell? ⟨xb, 3, none⟩ = some (.int .i64 c)) _ from ⟨(hU.cget 0 rfl 0).1, (hU.cget 0 rfl 1).1, (hU.cget 0 rfl 2).1, (hU.cget 0 rfl 3).1⟩)) ?_
    simp only [numbered, Nat.zero_add, Nat.reduceAdd]
    generalize u.drew = u0 at *
    have hHeld := (show (fun w' : World => w'.cell? ⟨xb, 0, none⟩ = some (.int .i64 op) ∧ w'.cell? ⟨xb, 1, none⟩ = some (.int .i64 a) ∧ w'.cell? ⟨xb, 2, none⟩ = some (.int .i64 b) ∧ w'.cell? ⟨xb, 3, none⟩ = some (.int .i64 c)) _ from ⟨(hU.cget 0 rfl 0).1, (hU.cget 0 rfl 1).1, (hU.cget 0 rfl 2).1, (hU.cget 0 rfl 3).1⟩)
    refine lin_take (v := ?_) (by kernel_rfl) (by kernel_rfl) (fun _ _ _ h => h) (Or.inl ⟨by rfl, ?_⟩) (by assumption) ?_; (rotate_left; (intro wS hSw; (try dsimp only at hSw); go_simp; (try with_reducible rfl)); rotate_left); simp only [Act.put, List.setIfInBounds_toArray, List.set_cons_zero, List.set_cons_succ]
    refine lin_take (v := ?_) (by kernel_rfl) (by kernel_rfl) (fun _ _ _ h => h) (Or.inl ⟨by rfl, ?_⟩) (by assumption) ?_; (rotate_left; (intro wS hSw; (try dsimp only at hSw); go_simp; (try with_reducible rfl)); rotate_left); simp only [Act.put, List.setIfInBounds_toArray, List.set_cons_zero, List.set_cons_succ]
    refine lin_rot ?_; simp only [List.cons_append, List.nil_append]
    refine lin_take (v := ?_) (by kernel_rfl) (by kernel_rfl) (fun _ _ _ h => h) (Or.inl ⟨by rfl, ?_⟩) (by assumption) ?_; (rotate_left; (intro wS hSw; (try dsimp only at hSw); go_simp; (try with_reducible rfl)); rotate_left); simp only [Act.put, List.setIfInBounds_toArray, List.set_cons_zero, List.set_cons_succ]
    refine lin_rot ?_; simp only [List.cons_append, List.nil_append]
    refine lin_rot ?_; simp only [List.cons_append, List.nil_append]
    refine lin_rot ?_; simp only [List.cons_append, List.nil_append]
    refine lin_rot ?_; simp only [List.cons_append, List.nil_append]
    refine lin_rot ?_; simp only [List.cons_append, List.nil_append]
    refine lin_rot ?_; simp only [List.cons_append, List.nil_append]
    refine lin_rot ?_; simp only [List.cons_append, List.nil_append]
    refine lin_rot ?_; simp only [List.cons_append, List.nil_append]
    refine lin_rot ?_; simp only [List.cons_append, List.nil_append]
    refine lin_rot ?_; simp only [List.cons_append, List.nil_append]
    refine lin_swap ?_
    refine lin_rot ?_; simp only [List.cons_append, List.nil_append]
    refine lin_rot ?_; simp only [List.cons_append, List.nil_append]
    refine lin_rot ?_; simp only [List.cons_append, List.nil_append]
    refine lin_rot ?_; simp only [List.cons_append, List.nil_append]
    refine lin_pair (by kernel_rfl) ?pone ?ptwo
    case' pone =>
      intro K hK
      go_simp
      refine (FM.out _).mono ?_; rintro e w1 ⟨rfl, rfl⟩
      refine hK.out _ _ ((show (fun w' : World => w'.cell? ⟨xb, 0, none⟩ = some (.int .i64 op) ∧ w'.cell? ⟨xb, 1, none⟩ = some (.int .i64 a) ∧ w'.cell? ⟨xb, 2, none⟩ = some (.int .i64 b) ∧ w'.cell? ⟨xb, 3, none⟩ = some (.int .i64 c)) _ from ⟨(hU.cget 0 rfl 0).1, (hU.cget 0 rfl 1).1, (hU.cget 0 rfl 2).1, (hU.cget 0 rfl 3).1⟩)) (fun hHeld => ?_)
      try simp only [Act.put, List.setIfInBounds_toArray, List.set_cons_zero, List.set_cons_succ]
      clear hK
      refine lin_pair (by kernel_rfl) ?pthree ?pfour
      case' pthree =>
        intro K hK
        go_simp
        have hB := hU.box #[.int .i64 0, .int .i64 0, .int .i64 0] 74
        refine hK.out _ _ ((show (fun w' : World => w'.cell? ⟨xb, 0, none⟩ = some (.int .i64 op) ∧ w'.cell? ⟨xb, 1, none⟩ = some (.int .i64 a) ∧ w'.cell? ⟨xb, 2, none⟩ = some (.int .i64 b) ∧ w'.cell? ⟨xb, 3, none⟩ = some (.int .i64 c)) _ from ⟨(hB.cget 0 rfl 0).1, (hB.cget 0 rfl 1).1, (hB.cget 0 rfl 2).1, (hB.cget 0 rfl 3).1⟩)) (fun hHeld => ?_)
        try simp only [Act.put, List.setIfInBounds_toArray, List.set_cons_zero, List.set_cons_succ]
        clear hK hHeld hU; generalize u0.alloc (.cells #[.int .i64 0, .int .i64 0, .int .i64 0] 74) = u1 at *; generalize u0.heap.size = bb0 at *; have hHeld := (show (fun w' : World => w'.cell? ⟨xb, 0, none⟩ = some (.int .i64 op) ∧ w'.cell? ⟨xb, 1, none⟩ = some (.int .i64 a) ∧ w'.cell? ⟨xb, 2, none⟩ = some (.int .i64 b) ∧ w'.cell? ⟨xb, 3, none⟩ = some (.int .i64 c)) _ from ⟨(hB.cget 0 rfl 0).1, (hB.cget 0 rfl 1).1, (hB.cget 0 rfl 2).1, (hB.cget 0 rfl 3).1⟩)
        refine lin_sole (by kernel_rfl) (fun K hK => ?_)
        go_simp
        refine (Own.lift (fields_any op a b c _) hB _ rfl).mono ?_; rintro e u2 ⟨rfl, hC⟩
        refine hK.out _ _ ((show (fun w' : World => w'.cell? ⟨xb, 0, none⟩ = some (.int .i64 op) ∧ w'.cell? ⟨xb, 1, none⟩ = some (.int .i64 a) ∧ w'.cell? ⟨xb, 2, none⟩ = some (.int .i64 b) ∧ w'.cell? ⟨xb, 3, none⟩ = some (.int .i64 c)) _ from ⟨(hC.cget 0 rfl 0).1, (hC.cget 0 rfl 1).1, (hC.cget 0 rfl 2).1, (hC.cget 0 rfl 3).1⟩)) (fun hHeld => ?_)
        try simp only [Act.put, List.setIfInBounds_toArray, List.set_cons_zero, List.set_cons_succ]
        clear hK hB; have hHeld := (show (fun w' : World => w'.cell? ⟨xb, 0, none⟩ = some (.int .i64 op) ∧ w'.cell? ⟨xb, 1, none⟩ = some (.int .i64 a) ∧ w'.cell? ⟨xb, 2, none⟩ = some (.int .i64 b) ∧ w'.cell? ⟨xb, 3, none⟩ = some (.int .i64 c)) _ from ⟨(hC.cget 0 rfl 0).1, (hC.cget 0 rfl 1).1, (hC.cget 0 rfl 2).1, (hC.cget 0 rfl 3).1⟩)
        refine lin_take (v := ?_) (by kernel_rfl) (by kernel_rfl) (fun _ _ _ h => h) (Or.inl ⟨by rfl, ?_⟩) (by assumption) ?_; (rotate_left; (intro wS hSw; (try dsimp only at hSw); go_simp; (try with_reducible rfl)); rotate_left); simp only [Act.put, List.setIfInBounds_toArray, List.set_cons_zero, List.set_cons_succ]
        obtain ⟨d0, k0⟩ := hC.cget 1 rfl 0
        obtain ⟨d1, k1⟩ := hC.cget 1 rfl 1
        obtain ⟨d2, k2⟩ := hC.cget 1 rfl 2
        simp at d0 d1 d2
        have hF := (((hC.cset 1 rfl 0 (.int .i64 a)).cset 1 rfl 1 (.int .i64 b)).cset 1 rfl 2 (.int .i64 c))
        refine lin_sole (by kernel_rfl) (fun K hK => ?_)
        go_simp
        refine hK.out _ _ ((show (fun w' : World => w'.cell? ⟨xb, 0, none⟩ = some (.int .i64 op) ∧ w'.cell? ⟨xb, 1, none⟩ = some (.int .i64 a) ∧ w'.cell? ⟨xb, 2, none⟩ = some (.int .i64 b) ∧ w'.cell? ⟨xb, 3, none⟩ = some (.int .i64 c)) _ from ⟨(hF.cget 0 rfl 0).1, (hF.cget 0 rfl 1).1, (hF.cget 0 rfl 2).1, (hF.cget 0 rfl 3).1⟩)) (fun hHeld => ?_)
        try simp only [Act.put, List.setIfInBounds_toArray, List.set_cons_zero, List.set_cons_succ]
        clear hK
        refine lin_done (by kernel_rfl) ?_
      case' pfour =>
        intro K hK
        go_simp
        refine (Own.lift (fields_any op a b c _) hU _ rfl).mono ?_; rintro e u1 ⟨rfl, hB⟩
        refine hK.out _ _ ((show (fun w' : World => w'.cell? ⟨xb, 0, none⟩ = some (.int .i64 op) ∧ w'.cell? ⟨xb, 1, none⟩ = some (.int .i64 a) ∧ w'.cell? ⟨xb, 2, none⟩ = some (.int .i64 b) ∧ w'.cell? ⟨xb, 3, none⟩ = some (.int .i64 c)) _ from ⟨(hB.cget 0 rfl 0).1, (hB.cget 0 rfl 1).1, (hB.cget 0 rfl 2).1, (hB.cget 0 rfl 3).1⟩)) (fun hHeld => ?_)
        try simp only [Act.put, List.setIfInBounds_toArray, List.set_cons_zero, List.set_cons_succ]
        clear hK hU; have hHeld := (show (fun w' : World => w'.cell? ⟨xb, 0, none⟩ = some (.int .i64 op) ∧ w'.cell? ⟨xb, 1, none⟩ = some (.int .i64 a) ∧ w'.cell? ⟨xb, 2, none⟩ = some (.int .i64 b) ∧ w'.cell? ⟨xb, 3, none⟩ = some (.int .i64 c)) _ from ⟨(hB.cget 0 rfl 0).1, (hB.cget 0 rfl 1).1, (hB.cget 0 rfl 2).1, (hB.cget 0 rfl 3).1⟩)
        refine lin_sole (by kernel_rfl) (fun K hK => ?_)
        go_simp
        have hC := hB.box #[.int .i64 0, .int .i64 0, .int .i64 0] 74
        refine hK.out _ _ ((show (fun w' : World => w'.cell? ⟨xb, 0, none⟩ = some (.int .i64 op) ∧ w'.cell? ⟨xb, 1, none⟩ = some (.int .i64 a) ∧ w'.cell? ⟨xb, 2, none⟩ = some (.int .i64 b) ∧ w'.cell? ⟨xb, 3, none⟩ = some (.int .i64 c)) _ from ⟨(hC.cget 0 rfl 0).1, (hC.cget 0 rfl 1).1, (hC.cget 0 rfl 2).1, (hC.cget 0 rfl 3).1⟩)) (fun hHeld => ?_)
        try simp only [Act.put, List.setIfInBounds_toArray, List.set_cons_zero, List.set_cons_succ]
        clear hK hHeld hB; generalize u1.alloc (.cells #[.int .i64 0, .int .i64 0, .int .i64 0] 74) = u2 at *; generalize u1.heap.size = bb0 at *; have hHeld := (show (fun w' : World => w'.cell? ⟨xb, 0, none⟩ = some (.int .i64 op) ∧ w'.cell? ⟨xb, 1, none⟩ = some (.int .i64 a) ∧ w'.cell? ⟨xb, 2, none⟩ = some (.int .i64 b) ∧ w'.cell? ⟨xb, 3, none⟩ = some (.int .i64 c)) _ from ⟨(hC.cget 0 rfl 0).1, (hC.cget 0 rfl 1).1, (hC.cget 0 rfl 2).1, (hC.cget 0 rfl 3).1⟩)
        refine lin_take (v := ?_) (by kernel_rfl) (by kernel_rfl) (fun _ _ _ h => h) (Or.inl ⟨by rfl, ?_⟩) (by assumption) ?_; (rotate_left; (intro wS hSw; (try dsimp only at hSw); go_simp; (try with_reducible rfl)); rotate_left); simp only [Act.put, List.setIfInBounds_toArray, List.set_cons_zero, List.set_cons_succ]
        obtain ⟨d0, k0⟩ := hC.cget 1 rfl 0
        obtain ⟨d1, k1⟩ := hC.cget 1 rfl 1
        obtain ⟨d2, k2⟩ := hC.cget 1 rfl 2
        simp at d0 d1 d2
        have hF := (((hC.cset 1 rfl 0 (.int .i64 a)).cset 1 rfl 1 (.int .i64 b)).cset 1 rfl 2 (.int .i64 c))
        refine lin_sole (by kernel_rfl) (fun K hK => ?_)
        go_simp
        refine hK.out _ _ ((show (fun w' : World => w'.cell? ⟨xb, 0, none⟩ = some (.int .i64 op) ∧ w'.cell? ⟨xb, 1, none⟩ = some (.int .i64 a) ∧ w'.cell? ⟨xb, 2, none⟩ = some (.int .i64 b) ∧ w'.cell? ⟨xb, 3, none⟩ = some (.int .i64 c)) _ from ⟨(hF.cget 0 rfl 0).1, (hF.cget 0 rfl 1).1, (hF.cget 0 rfl 2).1, (hF.cget 0 rfl 3).1⟩)) (fun hHeld => ?_)
        try simp only [Act.put, List.setIfInBounds_toArray, List.set_cons_zero, List.set_cons_succ]
        clear hK
        refine lin_done (by kernel_rfl) ?_
    case' ptwo =>
      intro K hK
      go_simp
      have hB := hU.box #[.int .i64 0, .int .i64 0, .int .i64 0] 74
      refine hK.out _ _ ((show (fun w' : World => w'.cell? ⟨xb, 0, none⟩ = some (.int .i64 op) ∧ w'.cell? ⟨xb, 1, none⟩ = some (.int .i64 a) ∧ w'.cell? ⟨xb, 2, none⟩ = some (.int .i64 b) ∧ w'.cell? ⟨xb, 3, none⟩ = some (.int .i64 c)) _ from ⟨(hB.cget 0 rfl 0).1, (hB.cget 0 rfl 1).1, (hB.cget 0 rfl 2).1, (hB.cget 0 rfl 3).1⟩)) (fun hHeld => ?_)
      try simp only [Act.put, List.setIfInBounds_toArray, List.set_cons_zero, List.set_cons_succ]
      clear hK hHeld hU; generalize u0.alloc (.cells #[.int .i64 0, .int .i64 0, .int .i64 0] 74) = u1 at *; generalize u0.heap.size = bb0 at *; have hHeld := (show (fun w' : World => w'.cell? ⟨xb, 0, none⟩ = some (.int .i64 op) ∧ w'.cell? ⟨xb, 1, none⟩ = some (.int .i64 a) ∧ w'.cell? ⟨xb, 2, none⟩ = some (.int .i64 b) ∧ w'.cell? ⟨xb, 3, none⟩ = some (.int .i64 c)) _ from ⟨(hB.cget 0 rfl 0).1, (hB.cget 0 rfl 1).1, (hB.cget 0 rfl 2).1, (hB.cget 0 rfl 3).1⟩)
      refine lin_sole (by kernel_rfl) (fun K hK => ?_)
      go_simp
      refine (FM.out _).mono ?_; rintro e w1 ⟨rfl, rfl⟩
      refine hK.out _ _ ((show (fun w' : World => w'.cell? ⟨xb, 0, none⟩ = some (.int .i64 op) ∧ w'.cell? ⟨xb, 1, none⟩ = some (.int .i64 a) ∧ w'.cell? ⟨xb, 2, none⟩ = some (.int .i64 b) ∧ w'.cell? ⟨xb, 3, none⟩ = some (.int .i64 c)) _ from ⟨(hB.cget 0 rfl 0).1, (hB.cget 0 rfl 1).1, (hB.cget 0 rfl 2).1, (hB.cget 0 rfl 3).1⟩)) (fun hHeld => ?_)
      try simp only [Act.put, List.setIfInBounds_toArray, List.set_cons_zero, List.set_cons_succ]
      clear hK
      refine lin_sole (by kernel_rfl) (fun K hK => ?_)
      go_simp
      refine (Own.lift (fields_any op a b c _) hB _ rfl).mono ?_; rintro e u2 ⟨rfl, hC⟩
      refine hK.out _ _ ((show (fun w' : World => w'.cell? ⟨xb, 0, none⟩ = some (.int .i64 op) ∧ w'.cell? ⟨xb, 1, none⟩ = some (.int .i64 a) ∧ w'.cell? ⟨xb, 2, none⟩ = some (.int .i64 b) ∧ w'.cell? ⟨xb, 3, none⟩ = some (.int .i64 c)) _ from ⟨(hC.cget 0 rfl 0).1, (hC.cget 0 rfl 1).1, (hC.cget 0 rfl 2).1, (hC.cget 0 rfl 3).1⟩)) (fun hHeld => ?_)
      try simp only [Act.put, List.setIfInBounds_toArray, List.set_cons_zero, List.set_cons_succ]
      clear hK hB; have hHeld := (show (fun w' : World => w'.cell? ⟨xb, 0, none⟩ = some (.int .i64 op) ∧ w'.cell? ⟨xb, 1, none⟩ = some (.int .i64 a) ∧ w'.cell? ⟨xb, 2, none⟩ = some (.int .i64 b) ∧ w'.cell? ⟨xb, 3, none⟩ = some (.int .i64 c)) _ from ⟨(hC.cget 0 rfl 0).1, (hC.cget 0 rfl 1).1, (hC.cget 0 rfl 2).1, (hC.cget 0 rfl 3).1⟩)
      refine lin_take (v := ?_) (by kernel_rfl) (by kernel_rfl) (fun _ _ _ h => h) (Or.inl ⟨by rfl, ?_⟩) (by assumption) ?_; (rotate_left; (intro wS hSw; (try dsimp only at hSw); go_simp; (try with_reducible rfl)); rotate_left); simp only [Act.put, List.setIfInBounds_toArray, List.set_cons_zero, List.set_cons_succ]
      obtain ⟨d0, k0⟩ := hC.cget 1 rfl 0
      obtain ⟨d1, k1⟩ := hC.cget 1 rfl 1
      obtain ⟨d2, k2⟩ := hC.cget 1 rfl 2
      simp at d0 d1 d2
      have hF := (((hC.cset 1 rfl 0 (.int .i64 a)).cset 1 rfl 1 (.int .i64 b)).cset 1 rfl 2 (.int .i64 c))
      refine lin_sole (by kernel_rfl) (fun K hK => ?_)
      go_simp
      refine hK.out _ _ ((show (fun w' : World => w'.cell? ⟨xb, 0, none⟩ = some (.int .i64 op) ∧ w'.cell? ⟨xb, 1, none⟩ = some (.int .i64 a) ∧ w'.cell? ⟨xb, 2, none⟩ = some (.int .i64 b) ∧ w'.cell? ⟨xb, 3, none⟩ = some (.int .i64 c)) _ from ⟨(hF.cget 0 rfl 0).1, (hF.cget 0 rfl 1).1, (hF.cget 0 rfl 2).1, (hF.cget 0 rfl 3).1⟩)) (fun hHeld => ?_)
      try simp only [Act.put, List.setIfInBounds_toArray, List.set_cons_zero, List.set_cons_succ]
      clear hK
      refine lin_done (by kernel_rfl) ?_
    all_goals
      go_wp2_with fail
      go_meet
      exact ⟨_, rfl, rfl, hF⟩
  case rest =>
    clear hU
    obtain ⟨B, rfl, rfl, hO⟩ := hcut
    have x0 := (hO.cget 0 rfl 0).1
    simp at x0
    go_wp2_with (first | (go_at_call 52; refine (put_as [] op 1 _ (by simp) 1 (by decide)).mono ?_; rintro e v0 ⟨s0, rfl, q0, l0, hb0⟩))
    have hO0 := hO.grow hb0
    replace l0 : s0.length = 1 := by simpa using l0
    clear hO hb0 x0
    refine wp_loop_rounds 4 ?_
    rw [rounds_succ]
    go_upto_region 9 with fail
    have hO0' := hO0.drewN 1
    have hSS := (show (fun w' : World => w'.cell? ⟨B, 0, none⟩ = some (.int .i64 a)) v0.drew from (hO0'.cget 1 rfl 0).1)
    refine lin_start (S := (fun w' : World => w'.cell? ⟨B, 0, none⟩ = some (.int .i64 a))) rfl 10 rfl hSS ?_
    simp only [numbered, Nat.zero_add, Nat.reduceAdd]
    refine lin_take (v := ?_) (by kernel_rfl) (by kernel_rfl) (fun _ _ _ h => h) (Or.inl ⟨by rfl, ?_⟩) (by assumption) ?_; (rotate_left; (intro wS hSw; (try dsimp only at hSw); go_simp; (try with_reducible rfl)); rotate_left); simp only [Act.put, List.setIfInBounds_toArray, List.set_cons_zero, List.set_cons_succ]
    refine lin_take (v := ?_) (by kernel_rfl) (by kernel_rfl) (fun _ _ _ h => h) (Or.inl ⟨by rfl, ?_⟩) (by assumption) ?_; (rotate_left; (intro wS hSw; (try dsimp only at hSw); go_simp; (try with_reducible rfl)); rotate_left); simp only [Act.put, List.setIfInBounds_toArray, List.set_cons_zero, List.set_cons_succ]
    refine lin_take (v := ?_) (by kernel_rfl) (by kernel_rfl) (fun _ _ _ h => h) (Or.inl ⟨by rfl, ?_⟩) (by assumption) ?_; (rotate_left; (intro wS hSw; (try dsimp only at hSw); go_simp; (try with_reducible rfl)); rotate_left); simp only [Act.put, List.setIfInBounds_toArray, List.set_cons_zero, List.set_cons_succ]
    refine lin_take (v := ?_) (by kernel_rfl) (by kernel_rfl) (fun _ _ _ h => h) (Or.inl ⟨by rfl, ?_⟩) (by assumption) ?_; (rotate_left; (intro wS hSw; (try dsimp only at hSw); go_simp; (try with_reducible rfl)); rotate_left); simp only [Act.put, List.setIfInBounds_toArray, List.set_cons_zero, List.set_cons_succ]
    refine lin_take (v := ?_) (by kernel_rfl) (by kernel_rfl) (fun _ _ _ h => h) (Or.inl ⟨by rfl, ?_⟩) (by assumption) ?_; (rotate_left; (intro wS hSw; (try dsimp only at hSw); go_simp; (try with_reducible rfl)); rotate_left); simp only [Act.put, List.setIfInBounds_toArray, List.set_cons_zero, List.set_cons_succ]
    refine lin_take (v := ?_) (by kernel_rfl) (by kernel_rfl) (fun _ _ _ h => h) (Or.inl ⟨by rfl, ?_⟩) (by assumption) ?_; (rotate_left; (intro wS hSw; (try dsimp only at hSw); go_simp; (try with_reducible rfl)); rotate_left); simp only [Act.put, List.setIfInBounds_toArray, List.set_cons_zero, List.set_cons_succ]
    refine lin_take (v := ?_) (by kernel_rfl) (by kernel_rfl) (fun _ _ _ h => h) (Or.inl ⟨by rfl, ?_⟩) (by assumption) ?_; (rotate_left; (intro wS hSw; (try dsimp only at hSw); go_simp; (try with_reducible rfl)); rotate_left); simp only [Act.put, List.setIfInBounds_toArray, List.set_cons_zero, List.set_cons_succ]
    refine lin_sole (by kernel_rfl) (fun K hK => ?_)
    go_simp
    refine (wide_r _).mono ?_; rintro e w1 ⟨rfl, rfl⟩
    refine hK.out _ _ hSS (fun hHeld => ?_)
    try simp only [Act.put, List.setIfInBounds_toArray, List.set_cons_zero, List.set_cons_succ]
    refine lin_sole (by kernel_rfl) (fun K hK => ?_)
    go_simp
    refine (put_as s0 a 1 _ (by omega) 1 (by decide)).mono ?_; rintro e v1 ⟨s1, rfl, q1, l1, hb1⟩
    have hO1 := hO0'.grow hb1
    refine hK.out _ _ (hO1.cget 1 rfl 0).1 (fun hHeld => ?_)
    try simp only [Act.put, List.setIfInBounds_toArray, List.set_cons_zero, List.set_cons_succ]
    refine lin_take (v := ?_) (by kernel_rfl) (by kernel_rfl) (fun _ _ _ h => h) (Or.inl ⟨by rfl, ?_⟩) (by assumption) ?_; (rotate_left; (intro wS hSw; (try dsimp only at hSw); go_simp; (try with_reducible rfl)); rotate_left); simp only [Act.put, List.setIfInBounds_toArray, List.set_cons_zero, List.set_cons_succ]
    refine lin_done (by kernel_rfl) ?_
    clear hSS hO0 hO0' hb1
    replace l1 : s1.length = 2 := by omega
    go_wp2_with fail
    rw [rounds_succ]
    go_upto_region 9 with fail
    have hO1' := hO1.drewN 1
    have hSS := (show (fun w' : World => w'.cell? ⟨B, 1, none⟩ = some (.int .i64 b)) v1.drew from (hO1'.cget 1 rfl 1).1)
    refine lin_start (S := (fun w' : World => w'.cell? ⟨B, 1, none⟩ = some (.int .i64 b))) rfl 10 rfl hSS ?_
    simp only [numbered, Nat.zero_add, Nat.reduceAdd]
    refine lin_take (v := ?_) (by kernel_rfl) (by kernel_rfl) (fun _ _ _ h => h) (Or.inl ⟨by rfl, ?_⟩) (by assumption) ?_; (rotate_left; (intro wS hSw; (try dsimp only at hSw); go_simp; (try with_reducible rfl)); rotate_left); simp only [Act.put, List.setIfInBounds_toArray, List.set_cons_zero, List.set_cons_succ]
    refine lin_take (v := ?_) (by kernel_rfl) (by kernel_rfl) (fun _ _ _ h => h) (Or.inl ⟨by rfl, ?_⟩) (by assumption) ?_; (rotate_left; (intro wS hSw; (try dsimp only at hSw); go_simp; (try with_reducible rfl)); rotate_left); simp only [Act.put, List.setIfInBounds_toArray, List.set_cons_zero, List.set_cons_succ]
    refine lin_take (v := ?_) (by kernel_rfl) (by kernel_rfl) (fun _ _ _ h => h) (Or.inl ⟨by rfl, ?_⟩) (by assumption) ?_; (rotate_left; (intro wS hSw; (try dsimp only at hSw); go_simp; (try with_reducible rfl)); rotate_left); simp only [Act.put, List.setIfInBounds_toArray, List.set_cons_zero, List.set_cons_succ]
    refine lin_take (v := ?_) (by kernel_rfl) (by kernel_rfl) (fun _ _ _ h => h) (Or.inl ⟨by rfl, ?_⟩) (by assumption) ?_; (rotate_left; (intro wS hSw; (try dsimp only at hSw); go_simp; (try with_reducible rfl)); rotate_left); simp only [Act.put, List.setIfInBounds_toArray, List.set_cons_zero, List.set_cons_succ]
    refine lin_take (v := ?_) (by kernel_rfl) (by kernel_rfl) (fun _ _ _ h => h) (Or.inl ⟨by rfl, ?_⟩) (by assumption) ?_; (rotate_left; (intro wS hSw; (try dsimp only at hSw); go_simp; (try with_reducible rfl)); rotate_left); simp only [Act.put, List.setIfInBounds_toArray, List.set_cons_zero, List.set_cons_succ]
    refine lin_take (v := ?_) (by kernel_rfl) (by kernel_rfl) (fun _ _ _ h => h) (Or.inl ⟨by rfl, ?_⟩) (by assumption) ?_; (rotate_left; (intro wS hSw; (try dsimp only at hSw); go_simp; (try with_reducible rfl)); rotate_left); simp only [Act.put, List.setIfInBounds_toArray, List.set_cons_zero, List.set_cons_succ]
    refine lin_take (v := ?_) (by kernel_rfl) (by kernel_rfl) (fun _ _ _ h => h) (Or.inl ⟨by rfl, ?_⟩) (by assumption) ?_; (rotate_left; (intro wS hSw; (try dsimp only at hSw); go_simp; (try with_reducible rfl)); rotate_left); simp only [Act.put, List.setIfInBounds_toArray, List.set_cons_zero, List.set_cons_succ]
    refine lin_sole (by kernel_rfl) (fun K hK => ?_)
    go_simp
    refine (wide_r _).mono ?_; rintro e w1 ⟨rfl, rfl⟩
    refine hK.out _ _ hSS (fun hHeld => ?_)
    try simp only [Act.put, List.setIfInBounds_toArray, List.set_cons_zero, List.set_cons_succ]
    refine lin_sole (by kernel_rfl) (fun K hK => ?_)
    go_simp
    refine (put_as s1 b 1 _ (by omega) 1 (by decide)).mono ?_; rintro e v2 ⟨s2, rfl, q2, l2, hb2⟩
    have hO2 := hO1'.grow hb2
    refine hK.out _ _ (hO2.cget 1 rfl 1).1 (fun hHeld => ?_)
    try simp only [Act.put, List.setIfInBounds_toArray, List.set_cons_zero, List.set_cons_succ]
    refine lin_take (v := ?_) (by kernel_rfl) (by kernel_rfl) (fun _ _ _ h => h) (Or.inl ⟨by rfl, ?_⟩) (by assumption) ?_; (rotate_left; (intro wS hSw; (try dsimp only at hSw); go_simp; (try with_reducible rfl)); rotate_left); simp only [Act.put, List.setIfInBounds_toArray, List.set_cons_zero, List.set_cons_succ]
    refine lin_done (by kernel_rfl) ?_
    clear hSS hO1 hO1' hb2
    replace l2 : s2.length = 3 := by omega
    go_wp2_with fail
    rw [rounds_succ]
    go_upto_region 9 with fail
    have hO2' := hO2.drewN 1
    have hSS := (show (fun w' : World => w'.cell? ⟨B, 2, none⟩ = some (.int .i64 c)) v2.drew from (hO2'.cget 1 rfl 2).1)
    refine lin_start (S := (fun w' : World => w'.cell? ⟨B, 2, none⟩ = some (.int .i64 c))) rfl 10 rfl hSS ?_
    simp only [numbered, Nat.zero_add, Nat.reduceAdd]
    refine lin_take (v := ?_) (by kernel_rfl) (by kernel_rfl) (fun _ _ _ h => h) (Or.inl ⟨by rfl, ?_⟩) (by assumption) ?_; (rotate_left; (intro wS hSw; (try dsimp only at hSw); go_simp; (try with_reducible rfl)); rotate_left); simp only [Act.put, List.setIfInBounds_toArray, List.set_cons_zero, List.set_cons_succ]
    refine lin_take (v := ?_) (by kernel_rfl) (by kernel_rfl) (fun _ _ _ h => h) (Or.inl ⟨by rfl, ?_⟩) (by assumption) ?_; (rotate_left; (intro wS hSw; (try dsimp only at hSw); go_simp; (try with_reducible rfl)); rotate_left); simp only [Act.put, List.setIfInBounds_toArray, List.set_cons_zero, List.set_cons_succ]
    refine lin_take (v := ?_) (by kernel_rfl) (by kernel_rfl) (fun _ _ _ h => h) (Or.inl ⟨by rfl, ?_⟩) (by assumption) ?_; (rotate_left; (intro wS hSw; (try dsimp only at hSw); go_simp; (try with_reducible rfl)); rotate_left); simp only [Act.put, List.setIfInBounds_toArray, List.set_cons_zero, List.set_cons_succ]
    refine lin_take (v := ?_) (by kernel_rfl) (by kernel_rfl) (fun _ _ _ h => h) (Or.inl ⟨by rfl, ?_⟩) (by assumption) ?_; (rotate_left; (intro wS hSw; (try dsimp only at hSw); go_simp; (try with_reducible rfl)); rotate_left); simp only [Act.put, List.setIfInBounds_toArray, List.set_cons_zero, List.set_cons_succ]
    refine lin_take (v := ?_) (by kernel_rfl) (by kernel_rfl) (fun _ _ _ h => h) (Or.inl ⟨by rfl, ?_⟩) (by assumption) ?_; (rotate_left; (intro wS hSw; (try dsimp only at hSw); go_simp; (try with_reducible rfl)); rotate_left); simp only [Act.put, List.setIfInBounds_toArray, List.set_cons_zero, List.set_cons_succ]
    refine lin_take (v := ?_) (by kernel_rfl) (by kernel_rfl) (fun _ _ _ h => h) (Or.inl ⟨by rfl, ?_⟩) (by assumption) ?_; (rotate_left; (intro wS hSw; (try dsimp only at hSw); go_simp; (try with_reducible rfl)); rotate_left); simp only [Act.put, List.setIfInBounds_toArray, List.set_cons_zero, List.set_cons_succ]
    refine lin_take (v := ?_) (by kernel_rfl) (by kernel_rfl) (fun _ _ _ h => h) (Or.inl ⟨by rfl, ?_⟩) (by assumption) ?_; (rotate_left; (intro wS hSw; (try dsimp only at hSw); go_simp; (try with_reducible rfl)); rotate_left); simp only [Act.put, List.setIfInBounds_toArray, List.set_cons_zero, List.set_cons_succ]
    refine lin_sole (by kernel_rfl) (fun K hK => ?_)
    go_simp
    refine (wide_r _).mono ?_; rintro e w1 ⟨rfl, rfl⟩
    refine hK.out _ _ hSS (fun hHeld => ?_)
    try simp only [Act.put, List.setIfInBounds_toArray, List.set_cons_zero, List.set_cons_succ]
    refine lin_sole (by kernel_rfl) (fun K hK => ?_)
    go_simp
    refine (put_as s2 c 1 _ (by omega) 1 (by decide)).mono ?_; rintro e v3 ⟨s3, rfl, q3, l3, hb3⟩
    have hO3 := hO2'.grow hb3
    refine hK.out _ _ (hO3.cget 1 rfl 2).1 (fun hHeld => ?_)
    try simp only [Act.put, List.setIfInBounds_toArray, List.set_cons_zero, List.set_cons_succ]
    refine lin_take (v := ?_) (by kernel_rfl) (by kernel_rfl) (fun _ _ _ h => h) (Or.inl ⟨by rfl, ?_⟩) (by assumption) ?_; (rotate_left; (intro wS hSw; (try dsimp only at hSw); go_simp; (try with_reducible rfl)); rotate_left); simp only [Act.put, List.setIfInBounds_toArray, List.set_cons_zero, List.set_cons_succ]
    refine lin_done (by kernel_rfl) ?_
    clear hSS hO2 hO2' hb3
    replace l3 : s3.length = 4 := by omega
    go_wp2_with fail
    rw [rounds_succ]
    go_wp2_with fail
    refine wp_loop_rounds 1 ?_
    repeat (rw [rounds_succ]; go_wp2_with fail)
    have hp : putI op a b c = s3 := by
      unfold putI
      rw [hFo.out]
      simp [putF, wideL, low_len, q3.out, q2.out, q1.out, q0.out]
    go_ret2
    exact ⟨by rw [hp]; simp [results, ba_app], hO3.below⟩
theorem put_rr (op a b c : Int) (hF : formL op = [114, 114]) (h0 : checkI op a b c = 0) (w : World) : Calls Try.prog 21 #[.agg #[.int .i64 op, .int .i64 a, .int .i64 b, .int .i64 c]] w fun e w' => e = .returned (.tuple #[.string ⟨(putI op a b c).toArray⟩, .int .i64 0]) ∧ Below w.heap.size w w' := by
  have hO := (Own.nil (Below.refl _ w)).box #[.int .i64 op, .int .i64 a, .int .i64 b, .int .i64 c] 30
  have C := Lib.hid (Own.lift (check_any op a b c _) hO _ rfl)
  rw [h0] at C
  have FM := fun w1 => form_any op w1
  rw [hF] at FM
  replace FM := Lib.hid FM
  have hFo := Lib.hid hF
  clear hF hO h0
  go_enter Try.func21, Try.ntmps21
  go_upto_region 4 with (first | (go_at_call 24; refine C.out.mono ?_; rintro e u ⟨rfl, hO⟩))
  generalize w.heap.size = xb at *
  have hU : Own w u.drew _ := hO.drewN 1
  clear hO C
  go_cut [5, 6] from 14 to 18 (fun f l wx => ∃ B : Nat, f = .string ⟨([114, 114] : List UInt8).toArray⟩ ∧ l = .pointer (some ⟨B, 0, none⟩) ∧ Own w wx [cellsA xb #[.int .i64 op, .int .i64 a, .int .i64 b, .int .i64 c] 30, cellsA B #[.int .i64 a, .int .i64 b, .int .i64 c] 74])
  case first =>
    refine lin_start (S := (fun w' : World => w'.cell? ⟨xb, 0, none⟩ = some (.int .i64 op) ∧ w'.cell? ⟨xb, 1, none⟩ = some (.int .i64 a) ∧ w'.cell? ⟨xb, 2, none⟩ = some (.int .i64 b) ∧ w'.cell? ⟨xb, 3, none⟩ = some (.int .i64 c))) rfl 8 rfl ((show (fun w' : World => w'.cell? ⟨xb, 0, none⟩ = some (.int .i64 op) ∧ w'.cell? ⟨xb, 1, none⟩ = some (.int .i64 a) ∧ w'.cell? ⟨xb, 2, none⟩ = some (.int .i64 b) ∧ w'.cell? ⟨xb, 3, none⟩ = some (.int .i64 c)) _ from ⟨(hU.cget 0 rfl 0).1, (hU.cget 0 rfl 1).1, (hU.cget 0 rfl 2).1, (hU.cget 0 rfl 3).1⟩)) ?_
    simp only [numbered, Nat.zero_add, Nat.reduceAdd]
    generalize u.drew = u0 at *
    have hHeld := (show (fun w' : World => w'.cell? ⟨xb, 0, none⟩ = some (.int .i64 op) ∧ w'.cell? ⟨xb, 1, none⟩ = some (.int .i64 a) ∧ w'.cell? ⟨xb, 2, none⟩ = some (.int .i64 b) ∧ w'.cell? ⟨xb, 3, none⟩ = some (.int .i64 c)) _ from ⟨(hU.cget 0 rfl 0).1, (hU.cget 0 rfl 1).1, (hU.cget 0 rfl 2).1, (hU.cget 0 rfl 3).1⟩)
    refine lin_take (v := ?_) (by kernel_rfl) (by kernel_rfl) (fun _ _ _ h => h) (Or.inl ⟨by rfl, ?_⟩) (by assumption) ?_; (rotate_left; (intro wS hSw; (try dsimp only at hSw); go_simp; (try with_reducible rfl)); rotate_left); simp only [Act.put, List.setIfInBounds_toArray, List.set_cons_zero, List.set_cons_succ]
    refine lin_take (v := ?_) (by kernel_rfl) (by kernel_rfl) (fun _ _ _ h => h) (Or.inl ⟨by rfl, ?_⟩) (by assumption) ?_; (rotate_left; (intro wS hSw; (try dsimp only at hSw); go_simp; (try with_reducible rfl)); rotate_left); simp only [Act.put, List.setIfInBounds_toArray, List.set_cons_zero, List.set_cons_succ]
    refine lin_rot ?_; simp only [List.cons_append, List.nil_append]
    refine lin_take (v := ?_) (by kernel_rfl) (by kernel_rfl) (fun _ _ _ h => h) (Or.inl ⟨by rfl, ?_⟩) (by assumption) ?_; (rotate_left; (intro wS hSw; (try dsimp only at hSw); go_simp; (try with_reducible rfl)); rotate_left); simp only [Act.put, List.setIfInBounds_toArray, List.set_cons_zero, List.set_cons_succ]
    refine lin_rot ?_; simp only [List.cons_append, List.nil_append]
    refine lin_rot ?_; simp only [List.cons_append, List.nil_append]
    refine lin_rot ?_; simp only [List.cons_append, List.nil_append]
    refine lin_rot ?_; simp only [List.cons_append, List.nil_append]
    refine lin_rot ?_; simp only [List.cons_append, List.nil_append]
    refine lin_rot ?_; simp only [List.cons_append, List.nil_append]
    refine lin_rot ?_; simp only [List.cons_append, List.nil_append]
    refine lin_rot ?_; simp only [List.cons_append, List.nil_append]
    refine lin_rot ?_; simp only [List.cons_append, List.nil_append]
    refine lin_rot ?_; simp only [List.cons_append, List.nil_append]
    refine lin_swap ?_
    refine lin_rot ?_; simp only [List.cons_append, List.nil_append]
    refine lin_rot ?_; simp only [List.cons_append, List.nil_append]
    refine lin_rot ?_; simp only [List.cons_append, List.nil_append]
    refine lin_rot ?_; simp only [List.cons_append, List.nil_append]
    refine lin_pair (by kernel_rfl) ?pone ?ptwo
    case' pone =>
      intro K hK
      go_simp
      refine (FM.out _).mono ?_; rintro e w1 ⟨rfl, rfl⟩
      refine hK.out _ _ ((show (fun w' : World => w'.cell? ⟨xb, 0, none⟩ = some (.int .i64 op) ∧ w'.cell? ⟨xb, 1, none⟩ = some (.int .i64 a) ∧ w'.cell? ⟨xb, 2, none⟩ = some (.int .i64 b) ∧ w'.cell? ⟨xb, 3, none⟩ = some (.int .i64 c)) _ from ⟨(hU.cget 0 rfl 0).1, (hU.cget 0 rfl 1).1, (hU.cget 0 rfl 2).1, (hU.cget 0 rfl 3).1⟩)) (fun hHeld => ?_)
      try simp only [Act.put, List.setIfInBounds_toArray, List.set_cons_zero, List.set_cons_succ]
      clear hK
      refine lin_pair (by kernel_rfl) ?pthree ?pfour
      case' pthree =>
        intro K hK
        go_simp
        have hB := hU.box #[.int .i64 0, .int .i64 0, .int .i64 0] 74
        refine hK.out _ _ ((show (fun w' : World => w'.cell? ⟨xb, 0, none⟩ = some (.int .i64 op) ∧ w'.cell? ⟨xb, 1, none⟩ = some (.int .i64 a) ∧ w'.cell? ⟨xb, 2, none⟩ = some (.int .i64 b) ∧ w'.cell? ⟨xb, 3, none⟩ = some (.int .i64 c)) _ from ⟨(hB.cget 0 rfl 0).1, (hB.cget 0 rfl 1).1, (hB.cget 0 rfl 2).1, (hB.cget 0 rfl 3).1⟩)) (fun hHeld => ?_)
        try simp only [Act.put, List.setIfInBounds_toArray, List.set_cons_zero, List.set_cons_succ]
        clear hK hHeld hU; generalize u0.alloc (.cells #[.int .i64 0, .int .i64 0, .int .i64 0] 74) = u1 at *; generalize u0.heap.size = bb0 at *; have hHeld := (show (fun w' : World => w'.cell? ⟨xb, 0, none⟩ = some (.int .i64 op) ∧ w'.cell? ⟨xb, 1, none⟩ = some (.int .i64 a) ∧ w'.cell? ⟨xb, 2, none⟩ = some (.int .i64 b) ∧ w'.cell? ⟨xb, 3, none⟩ = some (.int .i64 c)) _ from ⟨(hB.cget 0 rfl 0).1, (hB.cget 0 rfl 1).1, (hB.cget 0 rfl 2).1, (hB.cget 0 rfl 3).1⟩)
        refine lin_sole (by kernel_rfl) (fun K hK => ?_)
        go_simp
        refine (Own.lift (fields_any op a b c _) hB _ rfl).mono ?_; rintro e u2 ⟨rfl, hC⟩
        refine hK.out _ _ ((show (fun w' : World => w'.cell? ⟨xb, 0, none⟩ = some (.int .i64 op) ∧ w'.cell? ⟨xb, 1, none⟩ = some (.int .i64 a) ∧ w'.cell? ⟨xb, 2, none⟩ = some (.int .i64 b) ∧ w'.cell? ⟨xb, 3, none⟩ = some (.int .i64 c)) _ from ⟨(hC.cget 0 rfl 0).1, (hC.cget 0 rfl 1).1, (hC.cget 0 rfl 2).1, (hC.cget 0 rfl 3).1⟩)) (fun hHeld => ?_)
        try simp only [Act.put, List.setIfInBounds_toArray, List.set_cons_zero, List.set_cons_succ]
        clear hK hB; have hHeld := (show (fun w' : World => w'.cell? ⟨xb, 0, none⟩ = some (.int .i64 op) ∧ w'.cell? ⟨xb, 1, none⟩ = some (.int .i64 a) ∧ w'.cell? ⟨xb, 2, none⟩ = some (.int .i64 b) ∧ w'.cell? ⟨xb, 3, none⟩ = some (.int .i64 c)) _ from ⟨(hC.cget 0 rfl 0).1, (hC.cget 0 rfl 1).1, (hC.cget 0 rfl 2).1, (hC.cget 0 rfl 3).1⟩)
        refine lin_take (v := ?_) (by kernel_rfl) (by kernel_rfl) (fun _ _ _ h => h) (Or.inl ⟨by rfl, ?_⟩) (by assumption) ?_; (rotate_left; (intro wS hSw; (try dsimp only at hSw); go_simp; (try with_reducible rfl)); rotate_left); simp only [Act.put, List.setIfInBounds_toArray, List.set_cons_zero, List.set_cons_succ]
        obtain ⟨d0, k0⟩ := hC.cget 1 rfl 0
        obtain ⟨d1, k1⟩ := hC.cget 1 rfl 1
        obtain ⟨d2, k2⟩ := hC.cget 1 rfl 2
        simp at d0 d1 d2
        have hF := (((hC.cset 1 rfl 0 (.int .i64 a)).cset 1 rfl 1 (.int .i64 b)).cset 1 rfl 2 (.int .i64 c))
        refine lin_sole (by kernel_rfl) (fun K hK => ?_)
        go_simp
        refine hK.out _ _ ((show (fun w' : World => w'.cell? ⟨xb, 0, none⟩ = some (.int .i64 op) ∧ w'.cell? ⟨xb, 1, none⟩ = some (.int .i64 a) ∧ w'.cell? ⟨xb, 2, none⟩ = some (.int .i64 b) ∧ w'.cell? ⟨xb, 3, none⟩ = some (.int .i64 c)) _ from ⟨(hF.cget 0 rfl 0).1, (hF.cget 0 rfl 1).1, (hF.cget 0 rfl 2).1, (hF.cget 0 rfl 3).1⟩)) (fun hHeld => ?_)
        try simp only [Act.put, List.setIfInBounds_toArray, List.set_cons_zero, List.set_cons_succ]
        clear hK
        refine lin_done (by kernel_rfl) ?_
      case' pfour =>
        intro K hK
        go_simp
        refine (Own.lift (fields_any op a b c _) hU _ rfl).mono ?_; rintro e u1 ⟨rfl, hB⟩
        refine hK.out _ _ ((show (fun w' : World => w'.cell? ⟨xb, 0, none⟩ = some (.int .i64 op) ∧ w'.cell? ⟨xb, 1, none⟩ = some (.int .i64 a) ∧ w'.cell? ⟨xb, 2, none⟩ = some (.int .i64 b) ∧ w'.cell? ⟨xb, 3, none⟩ = some (.int .i64 c)) _ from ⟨(hB.cget 0 rfl 0).1, (hB.cget 0 rfl 1).1, (hB.cget 0 rfl 2).1, (hB.cget 0 rfl 3).1⟩)) (fun hHeld => ?_)
        try simp only [Act.put, List.setIfInBounds_toArray, List.set_cons_zero, List.set_cons_succ]
        clear hK hU; have hHeld := (show (fun w' : World => w'.cell? ⟨xb, 0, none⟩ = some (.int .i64 op) ∧ w'.cell? ⟨xb, 1, none⟩ = some (.int .i64 a) ∧ w'.cell? ⟨xb, 2, none⟩ = some (.int .i64 b) ∧ w'.cell? ⟨xb, 3, none⟩ = some (.int .i64 c)) _ from ⟨(hB.cget 0 rfl 0).1, (hB.cget 0 rfl 1).1, (hB.cget 0 rfl 2).1, (hB.cget 0 rfl 3).1⟩)
        refine lin_sole (by kernel_rfl) (fun K hK => ?_)
        go_simp
        have hC := hB.box #[.int .i64 0, .int .i64 0, .int .i64 0] 74
        refine hK.out _ _ ((show (fun w' : World => w'.cell? ⟨xb, 0, none⟩ = some (.int .i64 op) ∧ w'.cell? ⟨xb, 1, none⟩ = some (.int .i64 a) ∧ w'.cell? ⟨xb, 2, none⟩ = some (.int .i64 b) ∧ w'.cell? ⟨xb, 3, none⟩ = some (.int .i64 c)) _ from ⟨(hC.cget 0 rfl 0).1, (hC.cget 0 rfl 1).1, (hC.cget 0 rfl 2).1, (hC.cget 0 rfl 3).1⟩)) (fun hHeld => ?_)
        try simp only [Act.put, List.setIfInBounds_toArray, List.set_cons_zero, List.set_cons_succ]
        clear hK hHeld hB; generalize u1.alloc (.cells #[.int .i64 0, .int .i64 0, .int .i64 0] 74) = u2 at *; generalize u1.heap.size = bb0 at *; have hHeld := (show (fun w' : World => w'.cell? ⟨xb, 0, none⟩ = some (.int .i64 op) ∧ w'.cell? ⟨xb, 1, none⟩ = some (.int .i64 a) ∧ w'.cell? ⟨xb, 2, none⟩ = some (.int .i64 b) ∧ w'.cell? ⟨xb, 3, none⟩ = some (.int .i64 c)) _ from ⟨(hC.cget 0 rfl 0).1, (hC.cget 0 rfl 1).1, (hC.cget 0 rfl 2).1, (hC.cget 0 rfl 3).1⟩)
        refine lin_take (v := ?_) (by kernel_rfl) (by kernel_rfl) (fun _ _ _ h => h) (Or.inl ⟨by rfl, ?_⟩) (by assumption) ?_; (rotate_left; (intro wS hSw; (try dsimp only at hSw); go_simp; (try with_reducible rfl)); rotate_left); simp only [Act.put, List.setIfInBounds_toArray, List.set_cons_zero, List.set_cons_succ]
        obtain ⟨d0, k0⟩ := hC.cget 1 rfl 0
        obtain ⟨d1, k1⟩ := hC.cget 1 rfl 1
        obtain ⟨d2, k2⟩ := hC.cget 1 rfl 2
        simp at d0 d1 d2
        have hF := (((hC.cset 1 rfl 0 (.int .i64 a)).cset 1 rfl 1 (.int .i64 b)).cset 1 rfl 2 (.int .i64 c))
        refine lin_sole (by kernel_rfl) (fun K hK => ?_)
        go_simp
        refine hK.out _ _ ((show (fun w' : World => w'.cell? ⟨xb, 0, none⟩ = some (.int .i64 op) ∧ w'.cell? ⟨xb, 1, none⟩ = some (.int .i64 a) ∧ w'.cell? ⟨xb, 2, none⟩ = some (.int .i64 b) ∧ w'.cell? ⟨xb, 3, none⟩ = some (.int .i64 c)) _ from ⟨(hF.cget 0 rfl 0).1, (hF.cget 0 rfl 1).1, (hF.cget 0 rfl 2).1, (hF.cget 0 rfl 3).1⟩)) (fun hHeld => ?_)
        try simp only [Act.put, List.setIfInBounds_toArray, List.set_cons_zero, List.set_cons_succ]
        clear hK
        refine lin_done (by kernel_rfl) ?_
    case' ptwo =>
      intro K hK
      go_simp
      have hB := hU.box #[.int .i64 0, .int .i64 0, .int .i64 0] 74
      refine hK.out _ _ ((show (fun w' : World => w'.cell? ⟨xb, 0, none⟩ = some (.int .i64 op) ∧ w'.cell? ⟨xb, 1, none⟩ = some (.int .i64 a) ∧ w'.cell? ⟨xb, 2, none⟩ = some (.int .i64 b) ∧ w'.cell? ⟨xb, 3, none⟩ = some (.int .i64 c)) _ from ⟨(hB.cget 0 rfl 0).1, (hB.cget 0 rfl 1).1, (hB.cget 0 rfl 2).1, (hB.cget 0 rfl 3).1⟩)) (fun hHeld => ?_)
      try simp only [Act.put, List.setIfInBounds_toArray, List.set_cons_zero, List.set_cons_succ]
      clear hK hHeld hU; generalize u0.alloc (.cells #[.int .i64 0, .int .i64 0, .int .i64 0] 74) = u1 at *; generalize u0.heap.size = bb0 at *; have hHeld := (show (fun w' : World => w'.cell? ⟨xb, 0, none⟩ = some (.int .i64 op) ∧ w'.cell? ⟨xb, 1, none⟩ = some (.int .i64 a) ∧ w'.cell? ⟨xb, 2, none⟩ = some (.int .i64 b) ∧ w'.cell? ⟨xb, 3, none⟩ = some (.int .i64 c)) _ from ⟨(hB.cget 0 rfl 0).1, (hB.cget 0 rfl 1).1, (hB.cget 0 rfl 2).1, (hB.cget 0 rfl 3).1⟩)
      refine lin_sole (by kernel_rfl) (fun K hK => ?_)
      go_simp
      refine (FM.out _).mono ?_; rintro e w1 ⟨rfl, rfl⟩
      refine hK.out _ _ ((show (fun w' : World => w'.cell? ⟨xb, 0, none⟩ = some (.int .i64 op) ∧ w'.cell? ⟨xb, 1, none⟩ = some (.int .i64 a) ∧ w'.cell? ⟨xb, 2, none⟩ = some (.int .i64 b) ∧ w'.cell? ⟨xb, 3, none⟩ = some (.int .i64 c)) _ from ⟨(hB.cget 0 rfl 0).1, (hB.cget 0 rfl 1).1, (hB.cget 0 rfl 2).1, (hB.cget 0 rfl 3).1⟩)) (fun hHeld => ?_)
      try simp only [Act.put, List.setIfInBounds_toArray, List.set_cons_zero, List.set_cons_succ]
      clear hK
      refine lin_sole (by kernel_rfl) (fun K hK => ?_)
      go_simp
      refine (Own.lift (fields_any op a b c _) hB _ rfl).mono ?_; rintro e u2 ⟨rfl, hC⟩
      refine hK.out _ _ ((show (fun w' : World => w'.cell? ⟨xb, 0, none⟩ = some (.int .i64 op) ∧ w'.cell? ⟨xb, 1, none⟩ = some (.int .i64 a) ∧ w'.cell? ⟨xb, 2, none⟩ = some (.int .i64 b) ∧ w'.cell? ⟨xb, 3, none⟩ = some (.int .i64 c)) _ from ⟨(hC.cget 0 rfl 0).1, (hC.cget 0 rfl 1).1, (hC.cget 0 rfl 2).1, (hC.cget 0 rfl 3).1⟩)) (fun hHeld => ?_)
      try simp only [Act.put, List.setIfInBounds_toArray, List.set_cons_zero, List.set_cons_succ]
      clear hK hB; have hHeld := (show (fun w' : World => w'.cell? ⟨xb, 0, none⟩ = some (.int .i64 op) ∧ w'.cell? ⟨xb, 1, none⟩ = some (.int .i64 a) ∧ w'.cell? ⟨xb, 2, none⟩ = some (.int .i64 b) ∧ w'.cell? ⟨xb, 3, none⟩ = some (.int .i64 c)) _ from ⟨(hC.cget 0 rfl 0).1, (hC.cget 0 rfl 1).1, (hC.cget 0 rfl 2).1, (hC.cget 0 rfl 3).1⟩)
      refine lin_take (v := ?_) (by kernel_rfl) (by kernel_rfl) (fun _ _ _ h => h) (Or.inl ⟨by rfl, ?_⟩) (by assumption) ?_; (rotate_left; (intro wS hSw; (try dsimp only at hSw); go_simp; (try with_reducible rfl)); rotate_left); simp only [Act.put, List.setIfInBounds_toArray, List.set_cons_zero, List.set_cons_succ]
      obtain ⟨d0, k0⟩ := hC.cget 1 rfl 0
      obtain ⟨d1, k1⟩ := hC.cget 1 rfl 1
      obtain ⟨d2, k2⟩ := hC.cget 1 rfl 2
      simp at d0 d1 d2
      have hF := (((hC.cset 1 rfl 0 (.int .i64 a)).cset 1 rfl 1 (.int .i64 b)).cset 1 rfl 2 (.int .i64 c))
      refine lin_sole (by kernel_rfl) (fun K hK => ?_)
      go_simp
      refine hK.out _ _ ((show (fun w' : World => w'.cell? ⟨xb, 0, none⟩ = some (.int .i64 op) ∧ w'.cell? ⟨xb, 1, none⟩ = some (.int .i64 a) ∧ w'.cell? ⟨xb, 2, none⟩ = some (.int .i64 b) ∧ w'.cell? ⟨xb, 3, none⟩ = some (.int .i64 c)) _ from ⟨(hF.cget 0 rfl 0).1, (hF.cget 0 rfl 1).1, (hF.cget 0 rfl 2).1, (hF.cget 0 rfl 3).1⟩)) (fun hHeld => ?_)
      try simp only [Act.put, List.setIfInBounds_toArray, List.set_cons_zero, List.set_cons_succ]
      clear hK
      refine lin_done (by kernel_rfl) ?_
    all_goals
      go_wp2_with fail
      go_meet
      exact ⟨_, rfl, rfl, hF⟩
  case rest =>
    clear hU
    obtain ⟨B, rfl, rfl, hO⟩ := hcut
    have x0 := (hO.cget 0 rfl 0).1
    simp at x0
    go_wp2_with (first | (go_at_call 52; refine (put_as [] op 1 _ (by simp) 1 (by decide)).mono ?_; rintro e v0 ⟨s0, rfl, q0, l0, hb0⟩))
    have hO0 := hO.grow hb0
    replace l0 : s0.length = 1 := by simpa using l0
    clear hO hb0 x0
    refine wp_loop_rounds 3 ?_
    rw [rounds_succ]
    go_upto_region 9 with fail
    have hO0' := hO0.drewN 1
    have hSS := (show (fun w' : World => w'.cell? ⟨B, 0, none⟩ = some (.int .i64 a)) v0.drew from (hO0'.cget 1 rfl 0).1)
    refine lin_start (S := (fun w' : World => w'.cell? ⟨B, 0, none⟩ = some (.int .i64 a))) rfl 10 rfl hSS ?_
    simp only [numbered, Nat.zero_add, Nat.reduceAdd]
    refine lin_take (v := ?_) (by kernel_rfl) (by kernel_rfl) (fun _ _ _ h => h) (Or.inl ⟨by rfl, ?_⟩) (by assumption) ?_; (rotate_left; (intro wS hSw; (try dsimp only at hSw); go_simp; (try with_reducible rfl)); rotate_left); simp only [Act.put, List.setIfInBounds_toArray, List.set_cons_zero, List.set_cons_succ]
    refine lin_take (v := ?_) (by kernel_rfl) (by kernel_rfl) (fun _ _ _ h => h) (Or.inl ⟨by rfl, ?_⟩) (by assumption) ?_; (rotate_left; (intro wS hSw; (try dsimp only at hSw); go_simp; (try with_reducible rfl)); rotate_left); simp only [Act.put, List.setIfInBounds_toArray, List.set_cons_zero, List.set_cons_succ]
    refine lin_take (v := ?_) (by kernel_rfl) (by kernel_rfl) (fun _ _ _ h => h) (Or.inl ⟨by rfl, ?_⟩) (by assumption) ?_; (rotate_left; (intro wS hSw; (try dsimp only at hSw); go_simp; (try with_reducible rfl)); rotate_left); simp only [Act.put, List.setIfInBounds_toArray, List.set_cons_zero, List.set_cons_succ]
    refine lin_take (v := ?_) (by kernel_rfl) (by kernel_rfl) (fun _ _ _ h => h) (Or.inl ⟨by rfl, ?_⟩) (by assumption) ?_; (rotate_left; (intro wS hSw; (try dsimp only at hSw); go_simp; (try with_reducible rfl)); rotate_left); simp only [Act.put, List.setIfInBounds_toArray, List.set_cons_zero, List.set_cons_succ]
    refine lin_take (v := ?_) (by kernel_rfl) (by kernel_rfl) (fun _ _ _ h => h) (Or.inl ⟨by rfl, ?_⟩) (by assumption) ?_; (rotate_left; (intro wS hSw; (try dsimp only at hSw); go_simp; (try with_reducible rfl)); rotate_left); simp only [Act.put, List.setIfInBounds_toArray, List.set_cons_zero, List.set_cons_succ]
    refine lin_take (v := ?_) (by kernel_rfl) (by kernel_rfl) (fun _ _ _ h => h) (Or.inl ⟨by rfl, ?_⟩) (by assumption) ?_; (rotate_left; (intro wS hSw; (try dsimp only at hSw); go_simp; (try with_reducible rfl)); rotate_left); simp only [Act.put, List.setIfInBounds_toArray, List.set_cons_zero, List.set_cons_succ]
    refine lin_take (v := ?_) (by kernel_rfl) (by kernel_rfl) (fun _ _ _ h => h) (Or.inl ⟨by rfl, ?_⟩) (by assumption) ?_; (rotate_left; (intro wS hSw; (try dsimp only at hSw); go_simp; (try with_reducible rfl)); rotate_left); simp only [Act.put, List.setIfInBounds_toArray, List.set_cons_zero, List.set_cons_succ]
    refine lin_sole (by kernel_rfl) (fun K hK => ?_)
    go_simp
    refine (wide_r _).mono ?_; rintro e w1 ⟨rfl, rfl⟩
    refine hK.out _ _ hSS (fun hHeld => ?_)
    try simp only [Act.put, List.setIfInBounds_toArray, List.set_cons_zero, List.set_cons_succ]
    refine lin_sole (by kernel_rfl) (fun K hK => ?_)
    go_simp
    refine (put_as s0 a 1 _ (by omega) 1 (by decide)).mono ?_; rintro e v1 ⟨s1, rfl, q1, l1, hb1⟩
    have hO1 := hO0'.grow hb1
    refine hK.out _ _ (hO1.cget 1 rfl 0).1 (fun hHeld => ?_)
    try simp only [Act.put, List.setIfInBounds_toArray, List.set_cons_zero, List.set_cons_succ]
    refine lin_take (v := ?_) (by kernel_rfl) (by kernel_rfl) (fun _ _ _ h => h) (Or.inl ⟨by rfl, ?_⟩) (by assumption) ?_; (rotate_left; (intro wS hSw; (try dsimp only at hSw); go_simp; (try with_reducible rfl)); rotate_left); simp only [Act.put, List.setIfInBounds_toArray, List.set_cons_zero, List.set_cons_succ]
    refine lin_done (by kernel_rfl) ?_
    clear hSS hO0 hO0' hb1
    replace l1 : s1.length = 2 := by omega
    go_wp2_with fail
    rw [rounds_succ]
    go_upto_region 9 with fail
    have hO1' := hO1.drewN 1
    have hSS := (show (fun w' : World => w'.cell? ⟨B, 1, none⟩ = some (.int .i64 b)) v1.drew from (hO1'.cget 1 rfl 1).1)
    refine lin_start (S := (fun w' : World => w'.cell? ⟨B, 1, none⟩ = some (.int .i64 b))) rfl 10 rfl hSS ?_
    simp only [numbered, Nat.zero_add, Nat.reduceAdd]
    refine lin_take (v := ?_) (by kernel_rfl) (by kernel_rfl) (fun _ _ _ h => h) (Or.inl ⟨by rfl, ?_⟩) (by assumption) ?_; (rotate_left; (intro wS hSw; (try dsimp only at hSw); go_simp; (try with_reducible rfl)); rotate_left); simp only [Act.put, List.setIfInBounds_toArray, List.set_cons_zero, List.set_cons_succ]
    refine lin_take (v := ?_) (by kernel_rfl) (by kernel_rfl) (fun _ _ _ h => h) (Or.inl ⟨by rfl, ?_⟩) (by assumption) ?_; (rotate_left; (intro wS hSw; (try dsimp only at hSw); go_simp; (try with_reducible rfl)); rotate_left); simp only [Act.put, List.setIfInBounds_toArray, List.set_cons_zero, List.set_cons_succ]
    refine lin_take (v := ?_) (by kernel_rfl) (by kernel_rfl) (fun _ _ _ h => h) (Or.inl ⟨by rfl, ?_⟩) (by assumption) ?_; (rotate_left; (intro wS hSw; (try dsimp only at hSw); go_simp; (try with_reducible rfl)); rotate_left); simp only [Act.put, List.setIfInBounds_toArray, List.set_cons_zero, List.set_cons_succ]
    refine lin_take (v := ?_) (by kernel_rfl) (by kernel_rfl) (fun _ _ _ h => h) (Or.inl ⟨by rfl, ?_⟩) (by assumption) ?_; (rotate_left; (intro wS hSw; (try dsimp only at hSw); go_simp; (try with_reducible rfl)); rotate_left); simp only [Act.put, List.setIfInBounds_toArray, List.set_cons_zero, List.set_cons_succ]
    refine lin_take (v := ?_) (by kernel_rfl) (by kernel_rfl) (fun _ _ _ h => h) (Or.inl ⟨by rfl, ?_⟩) (by assumption) ?_; (rotate_left; (intro wS hSw; (try dsimp only at hSw); go_simp; (try with_reducible rfl)); rotate_left); simp only [Act.put, List.setIfInBounds_toArray, List.set_cons_zero, List.set_cons_succ]
    refine lin_take (v := ?_) (by kernel_rfl) (by kernel_rfl) (fun _ _ _ h => h) (Or.inl ⟨by rfl, ?_⟩) (by assumption) ?_; (rotate_left; (intro wS hSw; (try dsimp only at hSw); go_simp; (try with_reducible rfl)); rotate_left); simp only [Act.put, List.setIfInBounds_toArray, List.set_cons_zero, List.set_cons_succ]
    refine lin_take (v := ?_) (by kernel_rfl) (by kernel_rfl) (fun _ _ _ h => h) (Or.inl ⟨by rfl, ?_⟩) (by assumption) ?_; (rotate_left; (intro wS hSw; (try dsimp only at hSw); go_simp; (try with_reducible rfl)); rotate_left); simp only [Act.put, List.setIfInBounds_toArray, List.set_cons_zero, List.set_cons_succ]
    refine lin_sole (by kernel_rfl) (fun K hK => ?_)
    go_simp
    refine (wide_r _).mono ?_; rintro e w1 ⟨rfl, rfl⟩
    refine hK.out _ _ hSS (fun hHeld => ?_)
    try simp only [Act.put, List.setIfInBounds_toArray, List.set_cons_zero, List.set_cons_succ]
    refine lin_sole (by kernel_rfl) (fun K hK => ?_)
    go_simp
    refine (put_as s1 b 1 _ (by omega) 1 (by decide)).mono ?_; rintro e v2 ⟨s2, rfl, q2, l2, hb2⟩
    have hO2 := hO1'.grow hb2
    refine hK.out _ _ (hO2.cget 1 rfl 1).1 (fun hHeld => ?_)
    try simp only [Act.put, List.setIfInBounds_toArray, List.set_cons_zero, List.set_cons_succ]
    refine lin_take (v := ?_) (by kernel_rfl) (by kernel_rfl) (fun _ _ _ h => h) (Or.inl ⟨by rfl, ?_⟩) (by assumption) ?_; (rotate_left; (intro wS hSw; (try dsimp only at hSw); go_simp; (try with_reducible rfl)); rotate_left); simp only [Act.put, List.setIfInBounds_toArray, List.set_cons_zero, List.set_cons_succ]
    refine lin_done (by kernel_rfl) ?_
    clear hSS hO1 hO1' hb2
    replace l2 : s2.length = 3 := by omega
    go_wp2_with fail
    rw [rounds_succ]
    go_wp2_with fail
    refine wp_loop_rounds 2 ?_
    repeat (rw [rounds_succ]; go_wp2_with fail)
    have hp : putI op a b c = s2 ++ [0] := by
      unfold putI
      rw [hFo.out]
      simp [putF, wideL, low_len, q2.out, q1.out, q0.out]
    go_ret2
    exact ⟨by rw [hp]; simp [results, ba_app], hO2.below⟩
theorem put_r (op a b c : Int) (hF : formL op = [114]) (h0 : checkI op a b c = 0) (w : World) : Calls Try.prog 21 #[.agg #[.int .i64 op, .int .i64 a, .int .i64 b, .int .i64 c]] w fun e w' => e = .returned (.tuple #[.string ⟨(putI op a b c).toArray⟩, .int .i64 0]) ∧ Below w.heap.size w w' := by
  have hO := (Own.nil (Below.refl _ w)).box #[.int .i64 op, .int .i64 a, .int .i64 b, .int .i64 c] 30
  have C := Lib.hid (Own.lift (check_any op a b c _) hO _ rfl)
  rw [h0] at C
  have FM := fun w1 => form_any op w1
  rw [hF] at FM
  replace FM := Lib.hid FM
  have hFo := Lib.hid hF
  clear hF hO h0
  go_enter Try.func21, Try.ntmps21
  go_upto_region 4 with (first | (go_at_call 24; refine C.out.mono ?_; rintro e u ⟨rfl, hO⟩))
  generalize w.heap.size = xb at *
  have hU : Own w u.drew _ := hO.drewN 1
  clear hO C
  go_cut [5, 6] from 14 to 18 (fun f l wx => ∃ B : Nat, f = .string ⟨([114] : List UInt8).toArray⟩ ∧ l = .pointer (some ⟨B, 0, none⟩) ∧ Own w wx [cellsA xb #[.int .i64 op, .int .i64 a, .int .i64 b, .int .i64 c] 30, cellsA B #[.int .i64 a, .int .i64 b, .int .i64 c] 74])
  case first =>
    refine lin_start (S := (fun w' : World => w'.cell? ⟨xb, 0, none⟩ = some (.int .i64 op) ∧ w'.cell? ⟨xb, 1, none⟩ = some (.int .i64 a) ∧ w'.cell? ⟨xb, 2, none⟩ = some (.int .i64 b) ∧ w'.cell? ⟨xb, 3, none⟩ = some (.int .i64 c))) rfl 8 rfl ((show (fun w' : World => w'.cell? ⟨xb, 0, none⟩ = some (.int .i64 op) ∧ w'.cell? ⟨xb, 1, none⟩ = some (.int .i64 a) ∧ w'.cell? ⟨xb, 2, none⟩ = some (.int .i64 b) ∧ w'.cell? ⟨xb, 3, none⟩ = some (.int .i64 c)) _ from ⟨(hU.cget 0 rfl 0).1, (hU.cget 0 rfl 1).1, (hU.cget 0 rfl 2).1, (hU.cget 0 rfl 3).1⟩)) ?_
    simp only [numbered, Nat.zero_add, Nat.reduceAdd]
    generalize u.drew = u0 at *
    have hHeld := (show (fun w' : World => w'.cell? ⟨xb, 0, none⟩ = some (.int .i64 op) ∧ w'.cell? ⟨xb, 1, none⟩ = some (.int .i64 a) ∧ w'.cell? ⟨xb, 2, none⟩ = some (.int .i64 b) ∧ w'.cell? ⟨xb, 3, none⟩ = some (.int .i64 c)) _ from ⟨(hU.cget 0 rfl 0).1, (hU.cget 0 rfl 1).1, (hU.cget 0 rfl 2).1, (hU.cget 0 rfl 3).1⟩)
    refine lin_take (v := ?_) (by kernel_rfl) (by kernel_rfl) (fun _ _ _ h => h) (Or.inl ⟨by rfl, ?_⟩) (by assumption) ?_; (rotate_left; (intro wS hSw; (try dsimp only at hSw); go_simp; (try with_reducible rfl)); rotate_left); simp only [Act.put, List.setIfInBounds_toArray, List.set_cons_zero, List.set_cons_succ]
    refine lin_take (v := ?_) (by kernel_rfl) (by kernel_rfl) (fun _ _ _ h => h) (Or.inl ⟨by rfl, ?_⟩) (by assumption) ?_; (rotate_left; (intro wS hSw; (try dsimp only at hSw); go_simp; (try with_reducible rfl)); rotate_left); simp only [Act.put, List.setIfInBounds_toArray, List.set_cons_zero, List.set_cons_succ]
    refine lin_rot ?_; simp only [List.cons_append, List.nil_append]
    refine lin_take (v := ?_) (by kernel_rfl) (by kernel_rfl) (fun _ _ _ h => h) (Or.inl ⟨by rfl, ?_⟩) (by assumption) ?_; (rotate_left; (intro wS hSw; (try dsimp only at hSw); go_simp; (try with_reducible rfl)); rotate_left); simp only [Act.put, List.setIfInBounds_toArray, List.set_cons_zero, List.set_cons_succ]
    refine lin_rot ?_; simp only [List.cons_append, List.nil_append]
    refine lin_rot ?_; simp only [List.cons_append, List.nil_append]
    refine lin_rot ?_; simp only [List.cons_append, List.nil_append]
    refine lin_rot ?_; simp only [List.cons_append, List.nil_append]
    refine lin_rot ?_; simp only [List.cons_append, List.nil_append]
    refine lin_rot ?_; simp only [List.cons_append, List.nil_append]
    refine lin_rot ?_; simp only [List.cons_append, List.nil_append]
    refine lin_rot ?_; simp only [List.cons_append, List.nil_append]
    refine lin_rot ?_; simp only [List.cons_append, List.nil_append]
    refine lin_rot ?_; simp only [List.cons_append, List.nil_append]
    refine lin_swap ?_
    refine lin_rot ?_; simp only [List.cons_append, List.nil_append]
    refine lin_rot ?_; simp only [List.cons_append, List.nil_append]
    refine lin_rot ?_; simp only [List.cons_append, List.nil_append]
    refine lin_rot ?_; simp only [List.cons_append, List.nil_append]
    refine lin_pair (by kernel_rfl) ?pone ?ptwo
    case' pone =>
      intro K hK
      go_simp
      refine (FM.out _).mono ?_; rintro e w1 ⟨rfl, rfl⟩
      refine hK.out _ _ ((show (fun w' : World => w'.cell? ⟨xb, 0, none⟩ = some (.int .i64 op) ∧ w'.cell? ⟨xb, 1, none⟩ = some (.int .i64 a) ∧ w'.cell? ⟨xb, 2, none⟩ = some (.int .i64 b) ∧ w'.cell? ⟨xb, 3, none⟩ = some (.int .i64 c)) _ from ⟨(hU.cget 0 rfl 0).1, (hU.cget 0 rfl 1).1, (hU.cget 0 rfl 2).1, (hU.cget 0 rfl 3).1⟩)) (fun hHeld => ?_)
      try simp only [Act.put, List.setIfInBounds_toArray, List.set_cons_zero, List.set_cons_succ]
      clear hK
      refine lin_pair (by kernel_rfl) ?pthree ?pfour
      case' pthree =>
        intro K hK
        go_simp
        have hB := hU.box #[.int .i64 0, .int .i64 0, .int .i64 0] 74
        refine hK.out _ _ ((show (fun w' : World => w'.cell? ⟨xb, 0, none⟩ = some (.int .i64 op) ∧ w'.cell? ⟨xb, 1, none⟩ = some (.int .i64 a) ∧ w'.cell? ⟨xb, 2, none⟩ = some (.int .i64 b) ∧ w'.cell? ⟨xb, 3, none⟩ = some (.int .i64 c)) _ from ⟨(hB.cget 0 rfl 0).1, (hB.cget 0 rfl 1).1, (hB.cget 0 rfl 2).1, (hB.cget 0 rfl 3).1⟩)) (fun hHeld => ?_)
        try simp only [Act.put, List.setIfInBounds_toArray, List.set_cons_zero, List.set_cons_succ]
        clear hK hHeld hU; generalize u0.alloc (.cells #[.int .i64 0, .int .i64 0, .int .i64 0] 74) = u1 at *; generalize u0.heap.size = bb0 at *; have hHeld := (show (fun w' : World => w'.cell? ⟨xb, 0, none⟩ = some (.int .i64 op) ∧ w'.cell? ⟨xb, 1, none⟩ = some (.int .i64 a) ∧ w'.cell? ⟨xb, 2, none⟩ = some (.int .i64 b) ∧ w'.cell? ⟨xb, 3, none⟩ = some (.int .i64 c)) _ from ⟨(hB.cget 0 rfl 0).1, (hB.cget 0 rfl 1).1, (hB.cget 0 rfl 2).1, (hB.cget 0 rfl 3).1⟩)
        refine lin_sole (by kernel_rfl) (fun K hK => ?_)
        go_simp
        refine (Own.lift (fields_any op a b c _) hB _ rfl).mono ?_; rintro e u2 ⟨rfl, hC⟩
        refine hK.out _ _ ((show (fun w' : World => w'.cell? ⟨xb, 0, none⟩ = some (.int .i64 op) ∧ w'.cell? ⟨xb, 1, none⟩ = some (.int .i64 a) ∧ w'.cell? ⟨xb, 2, none⟩ = some (.int .i64 b) ∧ w'.cell? ⟨xb, 3, none⟩ = some (.int .i64 c)) _ from ⟨(hC.cget 0 rfl 0).1, (hC.cget 0 rfl 1).1, (hC.cget 0 rfl 2).1, (hC.cget 0 rfl 3).1⟩)) (fun hHeld => ?_)
        try simp only [Act.put, List.setIfInBounds_toArray, List.set_cons_zero, List.set_cons_succ]
        clear hK hB; have hHeld := (show (fun w' : World => w'.cell? ⟨xb, 0, none⟩ = some (.int .i64 op) ∧ w'.cell? ⟨xb, 1, none⟩ = some (.int .i64 a) ∧ w'.cell? ⟨xb, 2, none⟩ = some (.int .i64 b) ∧ w'.cell? ⟨xb, 3, none⟩ = some (.int .i64 c)) _ from ⟨(hC.cget 0 rfl 0).1, (hC.cget 0 rfl 1).1, (hC.cget 0 rfl 2).1, (hC.cget 0 rfl 3).1⟩)
        refine lin_take (v := ?_) (by kernel_rfl) (by kernel_rfl) (fun _ _ _ h => h) (Or.inl ⟨by rfl, ?_⟩) (by assumption) ?_; (rotate_left; (intro wS hSw; (try dsimp only at hSw); go_simp; (try with_reducible rfl)); rotate_left); simp only [Act.put, List.setIfInBounds_toArray, List.set_cons_zero, List.set_cons_succ]
        obtain ⟨d0, k0⟩ := hC.cget 1 rfl 0
        obtain ⟨d1, k1⟩ := hC.cget 1 rfl 1
        obtain ⟨d2, k2⟩ := hC.cget 1 rfl 2
        simp at d0 d1 d2
        have hF := (((hC.cset 1 rfl 0 (.int .i64 a)).cset 1 rfl 1 (.int .i64 b)).cset 1 rfl 2 (.int .i64 c))
        refine lin_sole (by kernel_rfl) (fun K hK => ?_)
        go_simp
        refine hK.out _ _ ((show (fun w' : World => w'.cell? ⟨xb, 0, none⟩ = some (.int .i64 op) ∧ w'.cell? ⟨xb, 1, none⟩ = some (.int .i64 a) ∧ w'.cell? ⟨xb, 2, none⟩ = some (.int .i64 b) ∧ w'.cell? ⟨xb, 3, none⟩ = some (.int .i64 c)) _ from ⟨(hF.cget 0 rfl 0).1, (hF.cget 0 rfl 1).1, (hF.cget 0 rfl 2).1, (hF.cget 0 rfl 3).1⟩)) (fun hHeld => ?_)
        try simp only [Act.put, List.setIfInBounds_toArray, List.set_cons_zero, List.set_cons_succ]
        clear hK
        refine lin_done (by kernel_rfl) ?_
      case' pfour =>
        intro K hK
        go_simp
        refine (Own.lift (fields_any op a b c _) hU _ rfl).mono ?_; rintro e u1 ⟨rfl, hB⟩
        refine hK.out _ _ ((show (fun w' : World => w'.cell? ⟨xb, 0, none⟩ = some (.int .i64 op) ∧ w'.cell? ⟨xb, 1, none⟩ = some (.int .i64 a) ∧ w'.cell? ⟨xb, 2, none⟩ = some (.int .i64 b) ∧ w'.cell? ⟨xb, 3, none⟩ = some (.int .i64 c)) _ from ⟨(hB.cget 0 rfl 0).1, (hB.cget 0 rfl 1).1, (hB.cget 0 rfl 2).1, (hB.cget 0 rfl 3).1⟩)) (fun hHeld => ?_)
        try simp only [Act.put, List.setIfInBounds_toArray, List.set_cons_zero, List.set_cons_succ]
        clear hK hU; have hHeld := (show (fun w' : World => w'.cell? ⟨xb, 0, none⟩ = some (.int .i64 op) ∧ w'.cell? ⟨xb, 1, none⟩ = some (.int .i64 a) ∧ w'.cell? ⟨xb, 2, none⟩ = some (.int .i64 b) ∧ w'.cell? ⟨xb, 3, none⟩ = some (.int .i64 c)) _ from ⟨(hB.cget 0 rfl 0).1, (hB.cget 0 rfl 1).1, (hB.cget 0 rfl 2).1, (hB.cget 0 rfl 3).1⟩)
        refine lin_sole (by kernel_rfl) (fun K hK => ?_)
        go_simp
        have hC := hB.box #[.int .i64 0, .int .i64 0, .int .i64 0] 74
        refine hK.out _ _ ((show (fun w' : World => w'.cell? ⟨xb, 0, none⟩ = some (.int .i64 op) ∧ w'.cell? ⟨xb, 1, none⟩ = some (.int .i64 a) ∧ w'.cell? ⟨xb, 2, none⟩ = some (.int .i64 b) ∧ w'.cell? ⟨xb, 3, none⟩ = some (.int .i64 c)) _ from ⟨(hC.cget 0 rfl 0).1, (hC.cget 0 rfl 1).1, (hC.cget 0 rfl 2).1, (hC.cget 0 rfl 3).1⟩)) (fun hHeld => ?_)
        try simp only [Act.put, List.setIfInBounds_toArray, List.set_cons_zero, List.set_cons_succ]
        clear hK hHeld hB; generalize u1.alloc (.cells #[.int .i64 0, .int .i64 0, .int .i64 0] 74) = u2 at *; generalize u1.heap.size = bb0 at *; have hHeld := (show (fun w' : World => w'.cell? ⟨xb, 0, none⟩ = some (.int .i64 op) ∧ w'.cell? ⟨xb, 1, none⟩ = some (.int .i64 a) ∧ w'.cell? ⟨xb, 2, none⟩ = some (.int .i64 b) ∧ w'.cell? ⟨xb, 3, none⟩ = some (.int .i64 c)) _ from ⟨(hC.cget 0 rfl 0).1, (hC.cget 0 rfl 1).1, (hC.cget 0 rfl 2).1, (hC.cget 0 rfl 3).1⟩)
        refine lin_take (v := ?_) (by kernel_rfl) (by kernel_rfl) (fun _ _ _ h => h) (Or.inl ⟨by rfl, ?_⟩) (by assumption) ?_; (rotate_left; (intro wS hSw; (try dsimp only at hSw); go_simp; (try with_reducible rfl)); rotate_left); simp only [Act.put, List.setIfInBounds_toArray, List.set_cons_zero, List.set_cons_succ]
        obtain ⟨d0, k0⟩ := hC.cget 1 rfl 0
        obtain ⟨d1, k1⟩ := hC.cget 1 rfl 1
        obtain ⟨d2, k2⟩ := hC.cget 1 rfl 2
        simp at d0 d1 d2
        have hF := (((hC.cset 1 rfl 0 (.int .i64 a)).cset 1 rfl 1 (.int .i64 b)).cset 1 rfl 2 (.int .i64 c))
        refine lin_sole (by kernel_rfl) (fun K hK => ?_)
        go_simp
        refine hK.out _ _ ((show (fun w' : World => w'.cell? ⟨xb, 0, none⟩ = some (.int .i64 op) ∧ w'.cell? ⟨xb, 1, none⟩ = some (.int .i64 a) ∧ w'.cell? ⟨xb, 2, none⟩ = some (.int .i64 b) ∧ w'.cell? ⟨xb, 3, none⟩ = some (.int .i64 c)) _ from ⟨(hF.cget 0 rfl 0).1, (hF.cget 0 rfl 1).1, (hF.cget 0 rfl 2).1, (hF.cget 0 rfl 3).1⟩)) (fun hHeld => ?_)
        try simp only [Act.put, List.setIfInBounds_toArray, List.set_cons_zero, List.set_cons_succ]
        clear hK
        refine lin_done (by kernel_rfl) ?_
    case' ptwo =>
      intro K hK
      go_simp
      have hB := hU.box #[.int .i64 0, .int .i64 0, .int .i64 0] 74
      refine hK.out _ _ ((show (fun w' : World => w'.cell? ⟨xb, 0, none⟩ = some (.int .i64 op) ∧ w'.cell? ⟨xb, 1, none⟩ = some (.int .i64 a) ∧ w'.cell? ⟨xb, 2, none⟩ = some (.int .i64 b) ∧ w'.cell? ⟨xb, 3, none⟩ = some (.int .i64 c)) _ from ⟨(hB.cget 0 rfl 0).1, (hB.cget 0 rfl 1).1, (hB.cget 0 rfl 2).1, (hB.cget 0 rfl 3).1⟩)) (fun hHeld => ?_)
      try simp only [Act.put, List.setIfInBounds_toArray, List.set_cons_zero, List.set_cons_succ]
      clear hK hHeld hU; generalize u0.alloc (.cells #[.int .i64 0, .int .i64 0, .int .i64 0] 74) = u1 at *; generalize u0.heap.size = bb0 at *; have hHeld := (show (fun w' : World => w'.cell? ⟨xb, 0, none⟩ = some (.int .i64 op) ∧ w'.cell? ⟨xb, 1, none⟩ = some (.int .i64 a) ∧ w'.cell? ⟨xb, 2, none⟩ = some (.int .i64 b) ∧ w'.cell? ⟨xb, 3, none⟩ = some (.int .i64 c)) _ from ⟨(hB.cget 0 rfl 0).1, (hB.cget 0 rfl 1).1, (hB.cget 0 rfl 2).1, (hB.cget 0 rfl 3).1⟩)
      refine lin_sole (by kernel_rfl) (fun K hK => ?_)
      go_simp
      refine (FM.out _).mono ?_; rintro e w1 ⟨rfl, rfl⟩
      refine hK.out _ _ ((show (fun w' : World => w'.cell? ⟨xb, 0, none⟩ = some (.int .i64 op) ∧ w'.cell? ⟨xb, 1, none⟩ = some (.int .i64 a) ∧ w'.cell? ⟨xb, 2, none⟩ = some (.int .i64 b) ∧ w'.cell? ⟨xb, 3, none⟩ = some (.int .i64 c)) _ from ⟨(hB.cget 0 rfl 0).1, (hB.cget 0 rfl 1).1, (hB.cget 0 rfl 2).1, (hB.cget 0 rfl 3).1⟩)) (fun hHeld => ?_)
      try simp only [Act.put, List.setIfInBounds_toArray, List.set_cons_zero, List.set_cons_succ]
      clear hK
      refine lin_sole (by kernel_rfl) (fun K hK => ?_)
      go_simp
      refine (Own.lift (fields_any op a b c _) hB _ rfl).mono ?_; rintro e u2 ⟨rfl, hC⟩
      refine hK.out _ _ ((show (fun w' : World => w'.cell? ⟨xb, 0, none⟩ = some (.int .i64 op) ∧ w'.cell? ⟨xb, 1, none⟩ = some (.int .i64 a) ∧ w'.cell? ⟨xb, 2, none⟩ = some (.int .i64 b) ∧ w'.cell? ⟨xb, 3, none⟩ = some (.int .i64 c)) _ from ⟨(hC.cget 0 rfl 0).1, (hC.cget 0 rfl 1).1, (hC.cget 0 rfl 2).1, (hC.cget 0 rfl 3).1⟩)) (fun hHeld => ?_)
      try simp only [Act.put, List.setIfInBounds_toArray, List.set_cons_zero, List.set_cons_succ]
      clear hK hB; have hHeld := (show (fun w' : World => w'.cell? ⟨xb, 0, none⟩ = some (.int .i64 op) ∧ w'.cell? ⟨xb, 1, none⟩ = some (.int .i64 a) ∧ w'.cell? ⟨xb, 2, none⟩ = some (.int .i64 b) ∧ w'.cell? ⟨xb, 3, none⟩ = some (.int .i64 c)) _ from ⟨(hC.cget 0 rfl 0).1, (hC.cget 0 rfl 1).1, (hC.cget 0 rfl 2).1, (hC.cget 0 rfl 3).1⟩)
      refine lin_take (v := ?_) (by kernel_rfl) (by kernel_rfl) (fun _ _ _ h => h) (Or.inl ⟨by rfl, ?_⟩) (by assumption) ?_; (rotate_left; (intro wS hSw; (try dsimp only at hSw); go_simp; (try with_reducible rfl)); rotate_left); simp only [Act.put, List.setIfInBounds_toArray, List.set_cons_zero, List.set_cons_succ]
      obtain ⟨d0, k0⟩ := hC.cget 1 rfl 0
      obtain ⟨d1, k1⟩ := hC.cget 1 rfl 1
      obtain ⟨d2, k2⟩ := hC.cget 1 rfl 2
      simp at d0 d1 d2
      have hF := (((hC.cset 1 rfl 0 (.int .i64 a)).cset 1 rfl 1 (.int .i64 b)).cset 1 rfl 2 (.int .i64 c))
      refine lin_sole (by kernel_rfl) (fun K hK => ?_)
      go_simp
      refine hK.out _ _ ((show (fun w' : World => w'.cell? ⟨xb, 0, none⟩ = some (.int .i64 op) ∧ w'.cell? ⟨xb, 1, none⟩ = some (.int .i64 a) ∧ w'.cell? ⟨xb, 2, none⟩ = some (.int .i64 b) ∧ w'.cell? ⟨xb, 3, none⟩ = some (.int .i64 c)) _ from ⟨(hF.cget 0 rfl 0).1, (hF.cget 0 rfl 1).1, (hF.cget 0 rfl 2).1, (hF.cget 0 rfl 3).1⟩)) (fun hHeld => ?_)
      try simp only [Act.put, List.setIfInBounds_toArray, List.set_cons_zero, List.set_cons_succ]
      clear hK
      refine lin_done (by kernel_rfl) ?_
    all_goals
      go_wp2_with fail
      go_meet
      exact ⟨_, rfl, rfl, hF⟩
  case rest =>
    clear hU
    obtain ⟨B, rfl, rfl, hO⟩ := hcut
    have x0 := (hO.cget 0 rfl 0).1
    simp at x0
    go_wp2_with (first | (go_at_call 52; refine (put_as [] op 1 _ (by simp) 1 (by decide)).mono ?_; rintro e v0 ⟨s0, rfl, q0, l0, hb0⟩))
    have hO0 := hO.grow hb0
    replace l0 : s0.length = 1 := by simpa using l0
    clear hO hb0 x0
    refine wp_loop_rounds 2 ?_
    rw [rounds_succ]
    go_upto_region 9 with fail
    have hO0' := hO0.drewN 1
    have hSS := (show (fun w' : World => w'.cell? ⟨B, 0, none⟩ = some (.int .i64 a)) v0.drew from (hO0'.cget 1 rfl 0).1)
    refine lin_start (S := (fun w' : World => w'.cell? ⟨B, 0, none⟩ = some (.int .i64 a))) rfl 10 rfl hSS ?_
    simp only [numbered, Nat.zero_add, Nat.reduceAdd]
    refine lin_take (v := ?_) (by kernel_rfl) (by kernel_rfl) (fun _ _ _ h => h) (Or.inl ⟨by rfl, ?_⟩) (by assumption) ?_; (rotate_left; (intro wS hSw; (try dsimp only at hSw); go_simp; (try with_reducible rfl)); rotate_left); simp only [Act.put, List.setIfInBounds_toArray, List.set_cons_zero, List.set_cons_succ]
    refine lin_take (v := ?_) (by kernel_rfl) (by kernel_rfl) (fun _ _ _ h => h) (Or.inl ⟨by rfl, ?_⟩) (by assumption) ?_; (rotate_left; (intro wS hSw; (try dsimp only at hSw); go_simp; (try with_reducible rfl)); rotate_left); simp only [Act.put, List.setIfInBounds_toArray, List.set_cons_zero, List.set_cons_succ]
    refine lin_take (v := ?_) (by kernel_rfl) (by kernel_rfl) (fun _ _ _ h => h) (Or.inl ⟨by rfl, ?_⟩) (by assumption) ?_; (rotate_left; (intro wS hSw; (try dsimp only at hSw); go_simp; (try with_reducible rfl)); rotate_left); simp only [Act.put, List.setIfInBounds_toArray, List.set_cons_zero, List.set_cons_succ]
    refine lin_take (v := ?_) (by kernel_rfl) (by kernel_rfl) (fun _ _ _ h => h) (Or.inl ⟨by rfl, ?_⟩) (by assumption) ?_; (rotate_left; (intro wS hSw; (try dsimp only at hSw); go_simp; (try with_reducible rfl)); rotate_left); simp only [Act.put, List.setIfInBounds_toArray, List.set_cons_zero, List.set_cons_succ]
    refine lin_take (v := ?_) (by kernel_rfl) (by kernel_rfl) (fun _ _ _ h => h) (Or.inl ⟨by rfl, ?_⟩) (by assumption) ?_; (rotate_left; (intro wS hSw; (try dsimp only at hSw); go_simp; (try with_reducible rfl)); rotate_left); simp only [Act.put, List.setIfInBounds_toArray, List.set_cons_zero, List.set_cons_succ]
    refine lin_take (v := ?_) (by kernel_rfl) (by kernel_rfl) (fun _ _ _ h => h) (Or.inl ⟨by rfl, ?_⟩) (by assumption) ?_; (rotate_left; (intro wS hSw; (try dsimp only at hSw); go_simp; (try with_reducible rfl)); rotate_left); simp only [Act.put, List.setIfInBounds_toArray, List.set_cons_zero, List.set_cons_succ]
    refine lin_take (v := ?_) (by kernel_rfl) (by kernel_rfl) (fun _ _ _ h => h) (Or.inl ⟨by rfl, ?_⟩) (by assumption) ?_; (rotate_left; (intro wS hSw; (try dsimp only at hSw); go_simp; (try with_reducible rfl)); rotate_left); simp only [Act.put, List.setIfInBounds_toArray, List.set_cons_zero, List.set_cons_succ]
    refine lin_sole (by kernel_rfl) (fun K hK => ?_)
    go_simp
    refine (wide_r _).mono ?_; rintro e w1 ⟨rfl, rfl⟩
    refine hK.out _ _ hSS (fun hHeld => ?_)
    try simp only [Act.put, List.setIfInBounds_toArray, List.set_cons_zero, List.set_cons_succ]
    refine lin_sole (by kernel_rfl) (fun K hK => ?_)
    go_simp
    refine (put_as s0 a 1 _ (by omega) 1 (by decide)).mono ?_; rintro e v1 ⟨s1, rfl, q1, l1, hb1⟩
    have hO1 := hO0'.grow hb1
    refine hK.out _ _ (hO1.cget 1 rfl 0).1 (fun hHeld => ?_)
    try simp only [Act.put, List.setIfInBounds_toArray, List.set_cons_zero, List.set_cons_succ]
    refine lin_take (v := ?_) (by kernel_rfl) (by kernel_rfl) (fun _ _ _ h => h) (Or.inl ⟨by rfl, ?_⟩) (by assumption) ?_; (rotate_left; (intro wS hSw; (try dsimp only at hSw); go_simp; (try with_reducible rfl)); rotate_left); simp only [Act.put, List.setIfInBounds_toArray, List.set_cons_zero, List.set_cons_succ]
    refine lin_done (by kernel_rfl) ?_
    clear hSS hO0 hO0' hb1
    replace l1 : s1.length = 2 := by omega
    go_wp2_with fail
    rw [rounds_succ]
    go_wp2_with fail
    refine wp_loop_rounds 3 ?_
    repeat (rw [rounds_succ]; go_wp2_with fail)
    have hp : putI op a b c = s1 ++ [0, 0] := by
      unfold putI
      rw [hFo.out]
      simp [putF, wideL, low_len, q1.out, q0.out]
    go_ret2
    exact ⟨by rw [hp]; simp [results, ba_app], hO1.below⟩
theorem put_rn (op a b c : Int) (hF : formL op = [114, 110]) (h0 : checkI op a b c = 0) (w : World) : Calls Try.prog 21 #[.agg #[.int .i64 op, .int .i64 a, .int .i64 b, .int .i64 c]] w fun e w' => e = .returned (.tuple #[.string ⟨(putI op a b c).toArray⟩, .int .i64 0]) ∧ Below w.heap.size w w' := by
  have hO := (Own.nil (Below.refl _ w)).box #[.int .i64 op, .int .i64 a, .int .i64 b, .int .i64 c] 30
  have C := Lib.hid (Own.lift (check_any op a b c _) hO _ rfl)
  rw [h0] at C
  have FM := fun w1 => form_any op w1
  rw [hF] at FM
  replace FM := Lib.hid FM
  have hFo := Lib.hid hF
  clear hF hO h0
  go_enter Try.func21, Try.ntmps21
  go_upto_region 4 with (first | (go_at_call 24; refine C.out.mono ?_; rintro e u ⟨rfl, hO⟩))
  generalize w.heap.size = xb at *
  have hU : Own w u.drew _ := hO.drewN 1
  clear hO C
  go_cut [5, 6] from 14 to 18 (fun f l wx => ∃ B : Nat, f = .string ⟨([114, 110] : List UInt8).toArray⟩ ∧ l = .pointer (some ⟨B, 0, none⟩) ∧ Own w wx [cellsA xb #[.int .i64 op, .int .i64 a, .int .i64 b, .int .i64 c] 30, cellsA B #[.int .i64 a, .int .i64 b, .int .i64 c] 74])
  case first =>
    refine lin_start (S := (fun w' : World => w'.cell? ⟨xb, 0, none⟩ = some (.int .i64 op) ∧ w'.cell? ⟨xb, 1, none⟩ = some (.int .i64 a) ∧ w'.cell? ⟨xb, 2, none⟩ = some (.int .i64 b) ∧ w'.cell? ⟨xb, 3, none⟩ = some (.int .i64 c))) rfl 8 rfl ((show (fun w' : World => w'.cell? ⟨xb, 0, none⟩ = some (.int .i64 op) ∧ w'.cell? ⟨xb, 1, none⟩ = some (.int .i64 a) ∧ w'.cell? ⟨xb, 2, none⟩ = some (.int .i64 b) ∧ w'.cell? ⟨xb, 3, none⟩ = some (.int .i64 c)) _ from ⟨(hU.cget 0 rfl 0).1, (hU.cget 0 rfl 1).1, (hU.cget 0 rfl 2).1, (hU.cget 0 rfl 3).1⟩)) ?_
    simp only [numbered, Nat.zero_add, Nat.reduceAdd]
    generalize u.drew = u0 at *
    have hHeld := (show (fun w' : World => w'.cell? ⟨xb, 0, none⟩ = some (.int .i64 op) ∧ w'.cell? ⟨xb, 1, none⟩ = some (.int .i64 a) ∧ w'.cell? ⟨xb, 2, none⟩ = some (.int .i64 b) ∧ w'.cell? ⟨xb, 3, none⟩ = some (.int .i64 c)) _ from ⟨(hU.cget 0 rfl 0).1, (hU.cget 0 rfl 1).1, (hU.cget 0 rfl 2).1, (hU.cget 0 rfl 3).1⟩)
    refine lin_take (v := ?_) (by kernel_rfl) (by kernel_rfl) (fun _ _ _ h => h) (Or.inl ⟨by rfl, ?_⟩) (by assumption) ?_; (rotate_left; (intro wS hSw; (try dsimp only at hSw); go_simp; (try with_reducible rfl)); rotate_left); simp only [Act.put, List.setIfInBounds_toArray, List.set_cons_zero, List.set_cons_succ]
    refine lin_take (v := ?_) (by kernel_rfl) (by kernel_rfl) (fun _ _ _ h => h) (Or.inl ⟨by rfl, ?_⟩) (by assumption) ?_; (rotate_left; (intro wS hSw; (try dsimp only at hSw); go_simp; (try with_reducible rfl)); rotate_left); simp only [Act.put, List.setIfInBounds_toArray, List.set_cons_zero, List.set_cons_succ]
    refine lin_rot ?_; simp only [List.cons_append, List.nil_append]
    refine lin_take (v := ?_) (by kernel_rfl) (by kernel_rfl) (fun _ _ _ h => h) (Or.inl ⟨by rfl, ?_⟩) (by assumption) ?_; (rotate_left; (intro wS hSw; (try dsimp only at hSw); go_simp; (try with_reducible rfl)); rotate_left); simp only [Act.put, List.setIfInBounds_toArray, List.set_cons_zero, List.set_cons_succ]
    refine lin_rot ?_; simp only [List.cons_append, List.nil_append]
    refine lin_rot ?_; simp only [List.cons_append, List.nil_append]
    refine lin_rot ?_; simp only [List.cons_append, List.nil_append]
    refine lin_rot ?_; simp only [List.cons_append, List.nil_append]
    refine lin_rot ?_; simp only [List.cons_append, List.nil_append]
    refine lin_rot ?_; simp only [List.cons_append, List.nil_append]
    refine lin_rot ?_; simp only [List.cons_append, List.nil_append]
    refine lin_rot ?_; simp only [List.cons_append, List.nil_append]
    refine lin_rot ?_; simp only [List.cons_append, List.nil_append]
    refine lin_rot ?_; simp only [List.cons_append, List.nil_append]
    refine lin_swap ?_
    refine lin_rot ?_; simp only [List.cons_append, List.nil_append]
    refine lin_rot ?_; simp only [List.cons_append, List.nil_append]
    refine lin_rot ?_; simp only [List.cons_append, List.nil_append]
    refine lin_rot ?_; simp only [List.cons_append, List.nil_append]
    refine lin_pair (by kernel_rfl) ?pone ?ptwo
    case' pone =>
      intro K hK
      go_simp
      refine (FM.out _).mono ?_; rintro e w1 ⟨rfl, rfl⟩
      refine hK.out _ _ ((show (fun w' : World => w'.cell? ⟨xb, 0, none⟩ = some (.int .i64 op) ∧ w'.cell? ⟨xb, 1, none⟩ = some (.int .i64 a) ∧ w'.cell? ⟨xb, 2, none⟩ = some (.int .i64 b) ∧ w'.cell? ⟨xb, 3, none⟩ = some (.int .i64 c)) _ from ⟨(hU.cget 0 rfl 0).1, (hU.cget 0 rfl 1).1, (hU.cget 0 rfl 2).1, (hU.cget 0 rfl 3).1⟩)) (fun hHeld => ?_)
      try simp only [Act.put, List.setIfInBounds_toArray, List.set_cons_zero, List.set_cons_succ]
      clear hK
      refine lin_pair (by kernel_rfl) ?pthree ?pfour
      case' pthree =>
        intro K hK
        go_simp
        have hB := hU.box #[.int .i64 0, .int .i64 0, .int .i64 0] 74
        refine hK.out _ _ ((show (fun w' : World => w'.cell? ⟨xb, 0, none⟩ = some (.int .i64 op) ∧ w'.cell? ⟨xb, 1, none⟩ = some (.int .i64 a) ∧ w'.cell? ⟨xb, 2, none⟩ = some (.int .i64 b) ∧ w'.cell? ⟨xb, 3, none⟩ = some (.int .i64 c)) _ from ⟨(hB.cget 0 rfl 0).1, (hB.cget 0 rfl 1).1, (hB.cget 0 rfl 2).1, (hB.cget 0 rfl 3).1⟩)) (fun hHeld => ?_)
        try simp only [Act.put, List.setIfInBounds_toArray, List.set_cons_zero, List.set_cons_succ]
        clear hK hHeld hU; generalize u0.alloc (.cells #[.int .i64 0, .int .i64 0, .int .i64 0] 74) = u1 at *; generalize u0.heap.size = bb0 at *; have hHeld := (show (fun w' : World => w'.cell? ⟨xb, 0, none⟩ = some (.int .i64 op) ∧ w'.cell? ⟨xb, 1, none⟩ = some (.int .i64 a) ∧ w'.cell? ⟨xb, 2, none⟩ = some (.int .i64 b) ∧ w'.cell? ⟨xb, 3, none⟩ = some (.int .i64 c)) _ from ⟨(hB.cget 0 rfl 0).1, (hB.cget 0 rfl 1).1, (hB.cget 0 rfl 2).1, (hB.cget 0 rfl 3).1⟩)
        refine lin_sole (by kernel_rfl) (fun K hK => ?_)
        go_simp
        refine (Own.lift (fields_any op a b c _) hB _ rfl).mono ?_; rintro e u2 ⟨rfl, hC⟩
        refine hK.out _ _ ((show (fun w' : World => w'.cell? ⟨xb, 0, none⟩ = some (.int .i64 op) ∧ w'.cell? ⟨xb, 1, none⟩ = some (.int .i64 a) ∧ w'.cell? ⟨xb, 2, none⟩ = some (.int .i64 b) ∧ w'.cell? ⟨xb, 3, none⟩ = some (.int .i64 c)) _ from ⟨(hC.cget 0 rfl 0).1, (hC.cget 0 rfl 1).1, (hC.cget 0 rfl 2).1, (hC.cget 0 rfl 3).1⟩)) (fun hHeld => ?_)
        try simp only [Act.put, List.setIfInBounds_toArray, List.set_cons_zero, List.set_cons_succ]
        clear hK hB; have hHeld := (show (fun w' : World => w'.cell? ⟨xb, 0, none⟩ = some (.int .i64 op) ∧ w'.cell? ⟨xb, 1, none⟩ = some (.int .i64 a) ∧ w'.cell? ⟨xb, 2, none⟩ = some (.int .i64 b) ∧ w'.cell? ⟨xb, 3, none⟩ = some (.int .i64 c)) _ from ⟨(hC.cget 0 rfl 0).1, (hC.cget 0 rfl 1).1, (hC.cget 0 rfl 2).1, (hC.cget 0 rfl 3).1⟩)
        refine lin_take (v := ?_) (by kernel_rfl) (by kernel_rfl) (fun _ _ _ h => h) (Or.inl ⟨by rfl, ?_⟩) (by assumption) ?_; (rotate_left; (intro wS hSw; (try dsimp only at hSw); go_simp; (try with_reducible rfl)); rotate_left); simp only [Act.put, List.setIfInBounds_toArray, List.set_cons_zero, List.set_cons_succ]
        obtain ⟨d0, k0⟩ := hC.cget 1 rfl 0
        obtain ⟨d1, k1⟩ := hC.cget 1 rfl 1
        obtain ⟨d2, k2⟩ := hC.cget 1 rfl 2
        simp at d0 d1 d2
        have hF := (((hC.cset 1 rfl 0 (.int .i64 a)).cset 1 rfl 1 (.int .i64 b)).cset 1 rfl 2 (.int .i64 c))
        refine lin_sole (by kernel_rfl) (fun K hK => ?_)
        go_simp
        refine hK.out _ _ ((show (fun w' : World => w'.cell? ⟨xb, 0, none⟩ = some (.int .i64 op) ∧ w'.cell? ⟨xb, 1, none⟩ = some (.int .i64 a) ∧ w'.cell? ⟨xb, 2, none⟩ = some (.int .i64 b) ∧ w'.cell? ⟨xb, 3, none⟩ = some (.int .i64 c)) _ from ⟨(hF.cget 0 rfl 0).1, (hF.cget 0 rfl 1).1, (hF.cget 0 rfl 2).1, (hF.cget 0 rfl 3).1⟩)) (fun hHeld => ?_)
        try simp only [Act.put, List.setIfInBounds_toArray, List.set_cons_zero, List.set_cons_succ]
        clear hK
        refine lin_done (by kernel_rfl) ?_
      case' pfour =>
        intro K hK
        go_simp
        refine (Own.lift (fields_any op a b c _) hU _ rfl).mono ?_; rintro e u1 ⟨rfl, hB⟩
        refine hK.out _ _ ((show (fun w' : World => w'.cell? ⟨xb, 0, none⟩ = some (.int .i64 op) ∧ w'.cell? ⟨xb, 1, none⟩ = some (.int .i64 a) ∧ w'.cell? ⟨xb, 2, none⟩ = some (.int .i64 b) ∧ w'.cell? ⟨xb, 3, none⟩ = some (.int .i64 c)) _ from ⟨(hB.cget 0 rfl 0).1, (hB.cget 0 rfl 1).1, (hB.cget 0 rfl 2).1, (hB.cget 0 rfl 3).1⟩)) (fun hHeld => ?_)
        try simp only [Act.put, List.setIfInBounds_toArray, List.set_cons_zero, List.set_cons_succ]
        clear hK hU; have hHeld := (show (fun w' : World => w'.cell? ⟨xb, 0, none⟩ = some (.int .i64 op) ∧ w'.cell? ⟨xb, 1, none⟩ = some (.int .i64 a) ∧ w'.cell? ⟨xb, 2, none⟩ = some (.int .i64 b) ∧ w'.cell? ⟨xb, 3, none⟩ = some (.int .i64 c)) _ from ⟨(hB.cget 0 rfl 0).1, (hB.cget 0 rfl 1).1, (hB.cget 0 rfl 2).1, (hB.cget 0 rfl 3).1⟩)
        refine lin_sole (by kernel_rfl) (fun K hK => ?_)
        go_simp
        have hC := hB.box #[.int .i64 0, .int .i64 0, .int .i64 0] 74
        refine hK.out _ _ ((show (fun w' : World => w'.cell? ⟨xb, 0, none⟩ = some (.int .i64 op) ∧ w'.cell? ⟨xb, 1, none⟩ = some (.int .i64 a) ∧ w'.cell? ⟨xb, 2, none⟩ = some (.int .i64 b) ∧ w'.cell? ⟨xb, 3, none⟩ = some (.int .i64 c)) _ from ⟨(hC.cget 0 rfl 0).1, (hC.cget 0 rfl 1).1, (hC.cget 0 rfl 2).1, (hC.cget 0 rfl 3).1⟩)) (fun hHeld => ?_)
        try simp only [Act.put, List.setIfInBounds_toArray, List.set_cons_zero, List.set_cons_succ]
        clear hK hHeld hB; generalize u1.alloc (.cells #[.int .i64 0, .int .i64 0, .int .i64 0] 74) = u2 at *; generalize u1.heap.size = bb0 at *; have hHeld := (show (fun w' : World => w'.cell? ⟨xb, 0, none⟩ = some (.int .i64 op) ∧ w'.cell? ⟨xb, 1, none⟩ = some (.int .i64 a) ∧ w'.cell? ⟨xb, 2, none⟩ = some (.int .i64 b) ∧ w'.cell? ⟨xb, 3, none⟩ = some (.int .i64 c)) _ from ⟨(hC.cget 0 rfl 0).1, (hC.cget 0 rfl 1).1, (hC.cget 0 rfl 2).1, (hC.cget 0 rfl 3).1⟩)
        refine lin_take (v := ?_) (by kernel_rfl) (by kernel_rfl) (fun _ _ _ h => h) (Or.inl ⟨by rfl, ?_⟩) (by assumption) ?_; (rotate_left; (intro wS hSw; (try dsimp only at hSw); go_simp; (try with_reducible rfl)); rotate_left); simp only [Act.put, List.setIfInBounds_toArray, List.set_cons_zero, List.set_cons_succ]
        obtain ⟨d0, k0⟩ := hC.cget 1 rfl 0
        obtain ⟨d1, k1⟩ := hC.cget 1 rfl 1
        obtain ⟨d2, k2⟩ := hC.cget 1 rfl 2
        simp at d0 d1 d2
        have hF := (((hC.cset 1 rfl 0 (.int .i64 a)).cset 1 rfl 1 (.int .i64 b)).cset 1 rfl 2 (.int .i64 c))
        refine lin_sole (by kernel_rfl) (fun K hK => ?_)
        go_simp
        refine hK.out _ _ ((show (fun w' : World => w'.cell? ⟨xb, 0, none⟩ = some (.int .i64 op) ∧ w'.cell? ⟨xb, 1, none⟩ = some (.int .i64 a) ∧ w'.cell? ⟨xb, 2, none⟩ = some (.int .i64 b) ∧ w'.cell? ⟨xb, 3, none⟩ = some (.int .i64 c)) _ from ⟨(hF.cget 0 rfl 0).1, (hF.cget 0 rfl 1).1, (hF.cget 0 rfl 2).1, (hF.cget 0 rfl 3).1⟩)) (fun hHeld => ?_)
        try simp only [Act.put, List.setIfInBounds_toArray, List.set_cons_zero, List.set_cons_succ]
        clear hK
        refine lin_done (by kernel_rfl) ?_
    case' ptwo =>
      intro K hK
      go_simp
      have hB := hU.box #[.int .i64 0, .int .i64 0, .int .i64 0] 74
      refine hK.out _ _ ((show (fun w' : World => w'.cell? ⟨xb, 0, none⟩ = some (.int .i64 op) ∧ w'.cell? ⟨xb, 1, none⟩ = some (.int .i64 a) ∧ w'.cell? ⟨xb, 2, none⟩ = some (.int .i64 b) ∧ w'.cell? ⟨xb, 3, none⟩ = some (.int .i64 c)) _ from ⟨(hB.cget 0 rfl 0).1, (hB.cget 0 rfl 1).1, (hB.cget 0 rfl 2).1, (hB.cget 0 rfl 3).1⟩)) (fun hHeld => ?_)
      try simp only [Act.put, List.setIfInBounds_toArray, List.set_cons_zero, List.set_cons_succ]
      clear hK hHeld hU; generalize u0.alloc (.cells #[.int .i64 0, .int .i64 0, .int .i64 0] 74) = u1 at *; generalize u0.heap.size = bb0 at *; have hHeld := (show (fun w' : World => w'.cell? ⟨xb, 0, none⟩ = some (.int .i64 op) ∧ w'.cell? ⟨xb, 1, none⟩ = some (.int .i64 a) ∧ w'.cell? ⟨xb, 2, none⟩ = some (.int .i64 b) ∧ w'.cell? ⟨xb, 3, none⟩ = some (.int .i64 c)) _ from ⟨(hB.cget 0 rfl 0).1, (hB.cget 0 rfl 1).1, (hB.cget 0 rfl 2).1, (hB.cget 0 rfl 3).1⟩)
      refine lin_sole (by kernel_rfl) (fun K hK => ?_)
      go_simp
      refine (FM.out _).mono ?_; rintro e w1 ⟨rfl, rfl⟩
      refine hK.out _ _ ((show (fun w' : World => w'.cell? ⟨xb, 0, none⟩ = some (.int .i64 op) ∧ w'.cell? ⟨xb, 1, none⟩ = some (.int .i64 a) ∧ w'.cell? ⟨xb, 2, none⟩ = some (.int .i64 b) ∧ w'.cell? ⟨xb, 3, none⟩ = some (.int .i64 c)) _ from ⟨(hB.cget 0 rfl 0).1, (hB.cget 0 rfl 1).1, (hB.cget 0 rfl 2).1, (hB.cget 0 rfl 3).1⟩)) (fun hHeld => ?_)
      try simp only [Act.put, List.setIfInBounds_toArray, List.set_cons_zero, List.set_cons_succ]
      clear hK
      refine lin_sole (by kernel_rfl) (fun K hK => ?_)
      go_simp
      refine (Own.lift (fields_any op a b c _) hB _ rfl).mono ?_; rintro e u2 ⟨rfl, hC⟩
      refine hK.out _ _ ((show (fun w' : World => w'.cell? ⟨xb, 0, none⟩ = some (.int .i64 op) ∧ w'.cell? ⟨xb, 1, none⟩ = some (.int .i64 a) ∧ w'.cell? ⟨xb, 2, none⟩ = some (.int .i64 b) ∧ w'.cell? ⟨xb, 3, none⟩ = some (.int .i64 c)) _ from ⟨(hC.cget 0 rfl 0).1, (hC.cget 0 rfl 1).1, (hC.cget 0 rfl 2).1, (hC.cget 0 rfl 3).1⟩)) (fun hHeld => ?_)
      try simp only [Act.put, List.setIfInBounds_toArray, List.set_cons_zero, List.set_cons_succ]
      clear hK hB; have hHeld := (show (fun w' : World => w'.cell? ⟨xb, 0, none⟩ = some (.int .i64 op) ∧ w'.cell? ⟨xb, 1, none⟩ = some (.int .i64 a) ∧ w'.cell? ⟨xb, 2, none⟩ = some (.int .i64 b) ∧ w'.cell? ⟨xb, 3, none⟩ = some (.int .i64 c)) _ from ⟨(hC.cget 0 rfl 0).1, (hC.cget 0 rfl 1).1, (hC.cget 0 rfl 2).1, (hC.cget 0 rfl 3).1⟩)
      refine lin_take (v := ?_) (by kernel_rfl) (by kernel_rfl) (fun _ _ _ h => h) (Or.inl ⟨by rfl, ?_⟩) (by assumption) ?_; (rotate_left; (intro wS hSw; (try dsimp only at hSw); go_simp; (try with_reducible rfl)); rotate_left); simp only [Act.put, List.setIfInBounds_toArray, List.set_cons_zero, List.set_cons_succ]
      obtain ⟨d0, k0⟩ := hC.cget 1 rfl 0
      obtain ⟨d1, k1⟩ := hC.cget 1 rfl 1
      obtain ⟨d2, k2⟩ := hC.cget 1 rfl 2
      simp at d0 d1 d2
      have hF := (((hC.cset 1 rfl 0 (.int .i64 a)).cset 1 rfl 1 (.int .i64 b)).cset 1 rfl 2 (.int .i64 c))
      refine lin_sole (by kernel_rfl) (fun K hK => ?_)
      go_simp
      refine hK.out _ _ ((show (fun w' : World => w'.cell? ⟨xb, 0, none⟩ = some (.int .i64 op) ∧ w'.cell? ⟨xb, 1, none⟩ = some (.int .i64 a) ∧ w'.cell? ⟨xb, 2, none⟩ = some (.int .i64 b) ∧ w'.cell? ⟨xb, 3, none⟩ = some (.int .i64 c)) _ from ⟨(hF.cget 0 rfl 0).1, (hF.cget 0 rfl 1).1, (hF.cget 0 rfl 2).1, (hF.cget 0 rfl 3).1⟩)) (fun hHeld => ?_)
      try simp only [Act.put, List.setIfInBounds_toArray, List.set_cons_zero, List.set_cons_succ]
      clear hK
      refine lin_done (by kernel_rfl) ?_
    all_goals
      go_wp2_with fail
      go_meet
      exact ⟨_, rfl, rfl, hF⟩
  case rest =>
    clear hU
    obtain ⟨B, rfl, rfl, hO⟩ := hcut
    have x0 := (hO.cget 0 rfl 0).1
    simp at x0
    go_wp2_with (first | (go_at_call 52; refine (put_as [] op 1 _ (by simp) 1 (by decide)).mono ?_; rintro e v0 ⟨s0, rfl, q0, l0, hb0⟩))
    have hO0 := hO.grow hb0
    replace l0 : s0.length = 1 := by simpa using l0
    clear hO hb0 x0
    refine wp_loop_rounds 3 ?_
    rw [rounds_succ]
    go_upto_region 9 with fail
    have hO0' := hO0.drewN 1
    have hSS := (show (fun w' : World => w'.cell? ⟨B, 0, none⟩ = some (.int .i64 a)) v0.drew from (hO0'.cget 1 rfl 0).1)
    refine lin_start (S := (fun w' : World => w'.cell? ⟨B, 0, none⟩ = some (.int .i64 a))) rfl 10 rfl hSS ?_
    simp only [numbered, Nat.zero_add, Nat.reduceAdd]
    refine lin_take (v := ?_) (by kernel_rfl) (by kernel_rfl) (fun _ _ _ h => h) (Or.inl ⟨by rfl, ?_⟩) (by assumption) ?_; (rotate_left; (intro wS hSw; (try dsimp only at hSw); go_simp; (try with_reducible rfl)); rotate_left); simp only [Act.put, List.setIfInBounds_toArray, List.set_cons_zero, List.set_cons_succ]
    refine lin_take (v := ?_) (by kernel_rfl) (by kernel_rfl) (fun _ _ _ h => h) (Or.inl ⟨by rfl, ?_⟩) (by assumption) ?_; (rotate_left; (intro wS hSw; (try dsimp only at hSw); go_simp; (try with_reducible rfl)); rotate_left); simp only [Act.put, List.setIfInBounds_toArray, List.set_cons_zero, List.set_cons_succ]
    refine lin_take (v := ?_) (by kernel_rfl) (by kernel_rfl) (fun _ _ _ h => h) (Or.inl ⟨by rfl, ?_⟩) (by assumption) ?_; (rotate_left; (intro wS hSw; (try dsimp only at hSw); go_simp; (try with_reducible rfl)); rotate_left); simp only [Act.put, List.setIfInBounds_toArray, List.set_cons_zero, List.set_cons_succ]
    refine lin_take (v := ?_) (by kernel_rfl) (by kernel_rfl) (fun _ _ _ h => h) (Or.inl ⟨by rfl, ?_⟩) (by assumption) ?_; (rotate_left; (intro wS hSw; (try dsimp only at hSw); go_simp; (try with_reducible rfl)); rotate_left); simp only [Act.put, List.setIfInBounds_toArray, List.set_cons_zero, List.set_cons_succ]
    refine lin_take (v := ?_) (by kernel_rfl) (by kernel_rfl) (fun _ _ _ h => h) (Or.inl ⟨by rfl, ?_⟩) (by assumption) ?_; (rotate_left; (intro wS hSw; (try dsimp only at hSw); go_simp; (try with_reducible rfl)); rotate_left); simp only [Act.put, List.setIfInBounds_toArray, List.set_cons_zero, List.set_cons_succ]
    refine lin_take (v := ?_) (by kernel_rfl) (by kernel_rfl) (fun _ _ _ h => h) (Or.inl ⟨by rfl, ?_⟩) (by assumption) ?_; (rotate_left; (intro wS hSw; (try dsimp only at hSw); go_simp; (try with_reducible rfl)); rotate_left); simp only [Act.put, List.setIfInBounds_toArray, List.set_cons_zero, List.set_cons_succ]
    refine lin_take (v := ?_) (by kernel_rfl) (by kernel_rfl) (fun _ _ _ h => h) (Or.inl ⟨by rfl, ?_⟩) (by assumption) ?_; (rotate_left; (intro wS hSw; (try dsimp only at hSw); go_simp; (try with_reducible rfl)); rotate_left); simp only [Act.put, List.setIfInBounds_toArray, List.set_cons_zero, List.set_cons_succ]
    refine lin_sole (by kernel_rfl) (fun K hK => ?_)
    go_simp
    refine (wide_r _).mono ?_; rintro e w1 ⟨rfl, rfl⟩
    refine hK.out _ _ hSS (fun hHeld => ?_)
    try simp only [Act.put, List.setIfInBounds_toArray, List.set_cons_zero, List.set_cons_succ]
    refine lin_sole (by kernel_rfl) (fun K hK => ?_)
    go_simp
    refine (put_as s0 a 1 _ (by omega) 1 (by decide)).mono ?_; rintro e v1 ⟨s1, rfl, q1, l1, hb1⟩
    have hO1 := hO0'.grow hb1
    refine hK.out _ _ (hO1.cget 1 rfl 0).1 (fun hHeld => ?_)
    try simp only [Act.put, List.setIfInBounds_toArray, List.set_cons_zero, List.set_cons_succ]
    refine lin_take (v := ?_) (by kernel_rfl) (by kernel_rfl) (fun _ _ _ h => h) (Or.inl ⟨by rfl, ?_⟩) (by assumption) ?_; (rotate_left; (intro wS hSw; (try dsimp only at hSw); go_simp; (try with_reducible rfl)); rotate_left); simp only [Act.put, List.setIfInBounds_toArray, List.set_cons_zero, List.set_cons_succ]
    refine lin_done (by kernel_rfl) ?_
    clear hSS hO0 hO0' hb1
    replace l1 : s1.length = 2 := by omega
    go_wp2_with fail
    rw [rounds_succ]
    go_upto_region 9 with fail
    have hO1' := hO1.drewN 1
    have hSS := (show (fun w' : World => w'.cell? ⟨B, 1, none⟩ = some (.int .i64 b)) v1.drew from (hO1'.cget 1 rfl 1).1)
    refine lin_start (S := (fun w' : World => w'.cell? ⟨B, 1, none⟩ = some (.int .i64 b))) rfl 10 rfl hSS ?_
    simp only [numbered, Nat.zero_add, Nat.reduceAdd]
    refine lin_take (v := ?_) (by kernel_rfl) (by kernel_rfl) (fun _ _ _ h => h) (Or.inl ⟨by rfl, ?_⟩) (by assumption) ?_; (rotate_left; (intro wS hSw; (try dsimp only at hSw); go_simp; (try with_reducible rfl)); rotate_left); simp only [Act.put, List.setIfInBounds_toArray, List.set_cons_zero, List.set_cons_succ]
    refine lin_take (v := ?_) (by kernel_rfl) (by kernel_rfl) (fun _ _ _ h => h) (Or.inl ⟨by rfl, ?_⟩) (by assumption) ?_; (rotate_left; (intro wS hSw; (try dsimp only at hSw); go_simp; (try with_reducible rfl)); rotate_left); simp only [Act.put, List.setIfInBounds_toArray, List.set_cons_zero, List.set_cons_succ]
    refine lin_take (v := ?_) (by kernel_rfl) (by kernel_rfl) (fun _ _ _ h => h) (Or.inl ⟨by rfl, ?_⟩) (by assumption) ?_; (rotate_left; (intro wS hSw; (try dsimp only at hSw); go_simp; (try with_reducible rfl)); rotate_left); simp only [Act.put, List.setIfInBounds_toArray, List.set_cons_zero, List.set_cons_succ]
    refine lin_take (v := ?_) (by kernel_rfl) (by kernel_rfl) (fun _ _ _ h => h) (Or.inl ⟨by rfl, ?_⟩) (by assumption) ?_; (rotate_left; (intro wS hSw; (try dsimp only at hSw); go_simp; (try with_reducible rfl)); rotate_left); simp only [Act.put, List.setIfInBounds_toArray, List.set_cons_zero, List.set_cons_succ]
    refine lin_take (v := ?_) (by kernel_rfl) (by kernel_rfl) (fun _ _ _ h => h) (Or.inl ⟨by rfl, ?_⟩) (by assumption) ?_; (rotate_left; (intro wS hSw; (try dsimp only at hSw); go_simp; (try with_reducible rfl)); rotate_left); simp only [Act.put, List.setIfInBounds_toArray, List.set_cons_zero, List.set_cons_succ]
    refine lin_take (v := ?_) (by kernel_rfl) (by kernel_rfl) (fun _ _ _ h => h) (Or.inl ⟨by rfl, ?_⟩) (by assumption) ?_; (rotate_left; (intro wS hSw; (try dsimp only at hSw); go_simp; (try with_reducible rfl)); rotate_left); simp only [Act.put, List.setIfInBounds_toArray, List.set_cons_zero, List.set_cons_succ]
    refine lin_take (v := ?_) (by kernel_rfl) (by kernel_rfl) (fun _ _ _ h => h) (Or.inl ⟨by rfl, ?_⟩) (by assumption) ?_; (rotate_left; (intro wS hSw; (try dsimp only at hSw); go_simp; (try with_reducible rfl)); rotate_left); simp only [Act.put, List.setIfInBounds_toArray, List.set_cons_zero, List.set_cons_succ]
    refine lin_sole (by kernel_rfl) (fun K hK => ?_)
    go_simp
    refine (wide_n _).mono ?_; rintro e w1 ⟨rfl, rfl⟩
    refine hK.out _ _ hSS (fun hHeld => ?_)
    try simp only [Act.put, List.setIfInBounds_toArray, List.set_cons_zero, List.set_cons_succ]
    refine lin_sole (by kernel_rfl) (fun K hK => ?_)
    go_simp
    refine (put_as s1 b 2 _ (by omega) 2 (by decide)).mono ?_; rintro e v2 ⟨s2, rfl, q2, l2, hb2⟩
    have hO2 := hO1'.grow hb2
    refine hK.out _ _ (hO2.cget 1 rfl 1).1 (fun hHeld => ?_)
    try simp only [Act.put, List.setIfInBounds_toArray, List.set_cons_zero, List.set_cons_succ]
    refine lin_take (v := ?_) (by kernel_rfl) (by kernel_rfl) (fun _ _ _ h => h) (Or.inl ⟨by rfl, ?_⟩) (by assumption) ?_; (rotate_left; (intro wS hSw; (try dsimp only at hSw); go_simp; (try with_reducible rfl)); rotate_left); simp only [Act.put, List.setIfInBounds_toArray, List.set_cons_zero, List.set_cons_succ]
    refine lin_done (by kernel_rfl) ?_
    clear hSS hO1 hO1' hb2
    replace l2 : s2.length = 4 := by omega
    go_wp2_with fail
    rw [rounds_succ]
    go_wp2_with fail
    refine wp_loop_rounds 1 ?_
    repeat (rw [rounds_succ]; go_wp2_with fail)
    have hp : putI op a b c = s2 := by
      unfold putI
      rw [hFo.out]
      simp [putF, wideL, low_len, q2.out, q1.out, q0.out]
    go_ret2
    exact ⟨by rw [hp]; simp [results, ba_app], hO2.below⟩
theorem put_rt (op a b c : Int) (hF : formL op = [114, 116]) (h0 : checkI op a b c = 0) (w : World) : Calls Try.prog 21 #[.agg #[.int .i64 op, .int .i64 a, .int .i64 b, .int .i64 c]] w fun e w' => e = .returned (.tuple #[.string ⟨(putI op a b c).toArray⟩, .int .i64 0]) ∧ Below w.heap.size w w' := by
  have hO := (Own.nil (Below.refl _ w)).box #[.int .i64 op, .int .i64 a, .int .i64 b, .int .i64 c] 30
  have C := Lib.hid (Own.lift (check_any op a b c _) hO _ rfl)
  rw [h0] at C
  have FM := fun w1 => form_any op w1
  rw [hF] at FM
  replace FM := Lib.hid FM
  have hFo := Lib.hid hF
  clear hF hO h0
  go_enter Try.func21, Try.ntmps21
  go_upto_region 4 with (first | (go_at_call 24; refine C.out.mono ?_; rintro e u ⟨rfl, hO⟩))
  generalize w.heap.size = xb at *
  have hU : Own w u.drew _ := hO.drewN 1
  clear hO C
  go_cut [5, 6] from 14 to 18 (fun f l wx => ∃ B : Nat, f = .string ⟨([114, 116] : List UInt8).toArray⟩ ∧ l = .pointer (some ⟨B, 0, none⟩) ∧ Own w wx [cellsA xb #[.int .i64 op, .int .i64 a, .int .i64 b, .int .i64 c] 30, cellsA B #[.int .i64 a, .int .i64 b, .int .i64 c] 74])
  case first =>
    refine lin_start (S := (fun w' : World => w'.cell? ⟨xb, 0, none⟩ = some (.int .i64 op) ∧ w'.cell? ⟨xb, 1, none⟩ = some (.int .i64 a) ∧ w'.cell? ⟨xb, 2, none⟩ = some (.int .i64 b) ∧ w'.cell? ⟨xb, 3, none⟩ = some (.int .i64 c))) rfl 8 rfl ((show (fun w' : World => w'.cell? ⟨xb, 0, none⟩ = some (.int .i64 op) ∧ w'.cell? ⟨xb, 1, none⟩ = some (.int .i64 a) ∧ w'.cell? ⟨xb, 2, none⟩ = some (.int .i64 b) ∧ w'.cell? ⟨xb, 3, none⟩ = some (.int .i64 c)) _ from ⟨(hU.cget 0 rfl 0).1, (hU.cget 0 rfl 1).1, (hU.cget 0 rfl 2).1, (hU.cget 0 rfl 3).1⟩)) ?_
    simp only [numbered, Nat.zero_add, Nat.reduceAdd]
    generalize u.drew = u0 at *
    have hHeld := (show (fun w' : World => w'.cell? ⟨xb, 0, none⟩ = some (.int .i64 op) ∧ w'.cell? ⟨xb, 1, none⟩ = some (.int .i64 a) ∧ w'.cell? ⟨xb, 2, none⟩ = some (.int .i64 b) ∧ w'.cell? ⟨xb, 3, none⟩ = some (.int .i64 c)) _ from ⟨(hU.cget 0 rfl 0).1, (hU.cget 0 rfl 1).1, (hU.cget 0 rfl 2).1, (hU.cget 0 rfl 3).1⟩)
    refine lin_take (v := ?_) (by kernel_rfl) (by kernel_rfl) (fun _ _ _ h => h) (Or.inl ⟨by rfl, ?_⟩) (by assumption) ?_; (rotate_left; (intro wS hSw; (try dsimp only at hSw); go_simp; (try with_reducible rfl)); rotate_left); simp only [Act.put, List.setIfInBounds_toArray, List.set_cons_zero, List.set_cons_succ]
    refine lin_take (v := ?_) (by kernel_rfl) (by kernel_rfl) (fun _ _ _ h => h) (Or.inl ⟨by rfl, ?_⟩) (by assumption) ?_; (rotate_left; (intro wS hSw; (try dsimp only at hSw); go_simp; (try with_reducible rfl)); rotate_left); simp only [Act.put, List.setIfInBounds_toArray, List.set_cons_zero, List.set_cons_succ]
    refine lin_rot ?_; simp only [List.cons_append, List.nil_append]
    refine lin_take (v := ?_) (by kernel_rfl) (by kernel_rfl) (fun _ _ _ h => h) (Or.inl ⟨by rfl, ?_⟩) (by assumption) ?_; (rotate_left; (intro wS hSw; (try dsimp only at hSw); go_simp; (try with_reducible rfl)); rotate_left); simp only [Act.put, List.setIfInBounds_toArray, List.set_cons_zero, List.set_cons_succ]
    refine lin_rot ?_; simp only [List.cons_append, List.nil_append]
    refine lin_rot ?_; simp only [List.cons_append, List.nil_append]
    refine lin_rot ?_; simp only [List.cons_append, List.nil_append]
    refine lin_rot ?_; simp only [List.cons_append, List.nil_append]
    refine lin_rot ?_; simp only [List.cons_append, List.nil_append]
    refine lin_rot ?_; simp only [List.cons_append, List.nil_append]
    refine lin_rot ?_; simp only [List.cons_append, List.nil_append]
    refine lin_rot ?_; simp only [List.cons_append, List.nil_append]
    refine lin_rot ?_; simp only [List.cons_append, List.nil_append]
    refine lin_rot ?_; simp only [List.cons_append, List.nil_append]
    refine lin_swap ?_
    refine lin_rot ?_; simp only [List.cons_append, List.nil_append]
    refine lin_rot ?_; simp only [List.cons_append, List.nil_append]
    refine lin_rot ?_; simp only [List.cons_append, List.nil_append]
    refine lin_rot ?_; simp only [List.cons_append, List.nil_append]
    refine lin_pair (by kernel_rfl) ?pone ?ptwo
    case' pone =>
      intro K hK
      go_simp
      refine (FM.out _).mono ?_; rintro e w1 ⟨rfl, rfl⟩
      refine hK.out _ _ ((show (fun w' : World => w'.cell? ⟨xb, 0, none⟩ = some (.int .i64 op) ∧ w'.cell? ⟨xb, 1, none⟩ = some (.int .i64 a) ∧ w'.cell? ⟨xb, 2, none⟩ = some (.int .i64 b) ∧ w'.cell? ⟨xb, 3, none⟩ = some (.int .i64 c)) _ from ⟨(hU.cget 0 rfl 0).1, (hU.cget 0 rfl 1).1, (hU.cget 0 rfl 2).1, (hU.cget 0 rfl 3).1⟩)) (fun hHeld => ?_)
      try simp only [Act.put, List.setIfInBounds_toArray, List.set_cons_zero, List.set_cons_succ]
      clear hK
      refine lin_pair (by kernel_rfl) ?pthree ?pfour
      case' pthree =>
        intro K hK
        go_simp
        have hB := hU.box #[.int .i64 0, .int .i64 0, .int .i64 0] 74
        refine hK.out _ _ ((show (fun w' : World => w'.cell? ⟨xb, 0, none⟩ = some (.int .i64 op) ∧ w'.cell? ⟨xb, 1, none⟩ = some (.int .i64 a) ∧ w'.cell? ⟨xb, 2, none⟩ = some (.int .i64 b) ∧ w'.cell? ⟨xb, 3, none⟩ = some (.int .i64 c)) _ from ⟨(hB.cget 0 rfl 0).1, (hB.cget 0 rfl 1).1, (hB.cget 0 rfl 2).1, (hB.cget 0 rfl 3).1⟩)) (fun hHeld => ?_)
        try simp only [Act.put, List.setIfInBounds_toArray, List.set_cons_zero, List.set_cons_succ]
        clear hK hHeld hU; generalize u0.alloc (.cells #[.int .i64 0, .int .i64 0, .int .i64 0] 74) = u1 at *; generalize u0.heap.size = bb0 at *; have hHeld := (show (fun w' : World => w'.cell? ⟨xb, 0, none⟩ = some (.int .i64 op) ∧ w'.cell? ⟨xb, 1, none⟩ = some (.int .i64 a) ∧ w'.cell? ⟨xb, 2, none⟩ = some (.int .i64 b) ∧ w'.cell? ⟨xb, 3, none⟩ = some (.int .i64 c)) _ from ⟨(hB.cget 0 rfl 0).1, (hB.cget 0 rfl 1).1, (hB.cget 0 rfl 2).1, (hB.cget 0 rfl 3).1⟩)
        refine lin_sole (by kernel_rfl) (fun K hK => ?_)
        go_simp
        refine (Own.lift (fields_any op a b c _) hB _ rfl).mono ?_; rintro e u2 ⟨rfl, hC⟩
        refine hK.out _ _ ((show (fun w' : World => w'.cell? ⟨xb, 0, none⟩ = some (.int .i64 op) ∧ w'.cell? ⟨xb, 1, none⟩ = some (.int .i64 a) ∧ w'.cell? ⟨xb, 2, none⟩ = some (.int .i64 b) ∧ w'.cell? ⟨xb, 3, none⟩ = some (.int .i64 c)) _ from ⟨(hC.cget 0 rfl 0).1, (hC.cget 0 rfl 1).1, (hC.cget 0 rfl 2).1, (hC.cget 0 rfl 3).1⟩)) (fun hHeld => ?_)
        try simp only [Act.put, List.setIfInBounds_toArray, List.set_cons_zero, List.set_cons_succ]
        clear hK hB; have hHeld := (show (fun w' : World => w'.cell? ⟨xb, 0, none⟩ = some (.int .i64 op) ∧ w'.cell? ⟨xb, 1, none⟩ = some (.int .i64 a) ∧ w'.cell? ⟨xb, 2, none⟩ = some (.int .i64 b) ∧ w'.cell? ⟨xb, 3, none⟩ = some (.int .i64 c)) _ from ⟨(hC.cget 0 rfl 0).1, (hC.cget 0 rfl 1).1, (hC.cget 0 rfl 2).1, (hC.cget 0 rfl 3).1⟩)
        refine lin_take (v := ?_) (by kernel_rfl) (by kernel_rfl) (fun _ _ _ h => h) (Or.inl ⟨by rfl, ?_⟩) (by assumption) ?_; (rotate_left; (intro wS hSw; (try dsimp only at hSw); go_simp; (try with_reducible rfl)); rotate_left); simp only [Act.put, List.setIfInBounds_toArray, List.set_cons_zero, List.set_cons_succ]
        obtain ⟨d0, k0⟩ := hC.cget 1 rfl 0
        obtain ⟨d1, k1⟩ := hC.cget 1 rfl 1
        obtain ⟨d2, k2⟩ := hC.cget 1 rfl 2
        simp at d0 d1 d2
        have hF := (((hC.cset 1 rfl 0 (.int .i64 a)).cset 1 rfl 1 (.int .i64 b)).cset 1 rfl 2 (.int .i64 c))
        refine lin_sole (by kernel_rfl) (fun K hK => ?_)
        go_simp
        refine hK.out _ _ ((show (fun w' : World => w'.cell? ⟨xb, 0, none⟩ = some (.int .i64 op) ∧ w'.cell? ⟨xb, 1, none⟩ = some (.int .i64 a) ∧ w'.cell? ⟨xb, 2, none⟩ = some (.int .i64 b) ∧ w'.cell? ⟨xb, 3, none⟩ = some (.int .i64 c)) _ from ⟨(hF.cget 0 rfl 0).1, (hF.cget 0 rfl 1).1, (hF.cget 0 rfl 2).1, (hF.cget 0 rfl 3).1⟩)) (fun hHeld => ?_)
        try simp only [Act.put, List.setIfInBounds_toArray, List.set_cons_zero, List.set_cons_succ]
        clear hK
        refine lin_done (by kernel_rfl) ?_
      case' pfour =>
        intro K hK
        go_simp
        refine (Own.lift (fields_any op a b c _) hU _ rfl).mono ?_; rintro e u1 ⟨rfl, hB⟩
        refine hK.out _ _ ((show (fun w' : World => w'.cell? ⟨xb, 0, none⟩ = some (.int .i64 op) ∧ w'.cell? ⟨xb, 1, none⟩ = some (.int .i64 a) ∧ w'.cell? ⟨xb, 2, none⟩ = some (.int .i64 b) ∧ w'.cell? ⟨xb, 3, none⟩ = some (.int .i64 c)) _ from ⟨(hB.cget 0 rfl 0).1, (hB.cget 0 rfl 1).1, (hB.cget 0 rfl 2).1, (hB.cget 0 rfl 3).1⟩)) (fun hHeld => ?_)
        try simp only [Act.put, List.setIfInBounds_toArray, List.set_cons_zero, List.set_cons_succ]
        clear hK hU; have hHeld := (show (fun w' : World => w'.cell? ⟨xb, 0, none⟩ = some (.int .i64 op) ∧ w'.cell? ⟨xb, 1, none⟩ = some (.int .i64 a) ∧ w'.cell? ⟨xb, 2, none⟩ = some (.int .i64 b) ∧ w'.cell? ⟨xb, 3, none⟩ = some (.int .i64 c)) _ from ⟨(hB.cget 0 rfl 0).1, (hB.cget 0 rfl 1).1, (hB.cget 0 rfl 2).1, (hB.cget 0 rfl 3).1⟩)
        refine lin_sole (by kernel_rfl) (fun K hK => ?_)
        go_simp
        have hC := hB.box #[.int .i64 0, .int .i64 0, .int .i64 0] 74
        refine hK.out _ _ ((show (fun w' : World => w'.cell? ⟨xb, 0, none⟩ = some (.int .i64 op) ∧ w'.cell? ⟨xb, 1, none⟩ = some (.int .i64 a) ∧ w'.cell? ⟨xb, 2, none⟩ = some (.int .i64 b) ∧ w'.cell? ⟨xb, 3, none⟩ = some (.int .i64 c)) _ from ⟨(hC.cget 0 rfl 0).1, (hC.cget 0 rfl 1).1, (hC.cget 0 rfl 2).1, (hC.cget 0 rfl 3).1⟩)) (fun hHeld => ?_)
        try simp only [Act.put, List.setIfInBounds_toArray, List.set_cons_zero, List.set_cons_succ]
        clear hK hHeld hB; generalize u1.alloc (.cells #[.int .i64 0, .int .i64 0, .int .i64 0] 74) = u2 at *; generalize u1.heap.size = bb0 at *; have hHeld := (show (fun w' : World => w'.cell? ⟨xb, 0, none⟩ = some (.int .i64 op) ∧ w'.cell? ⟨xb, 1, none⟩ = some (.int .i64 a) ∧ w'.cell? ⟨xb, 2, none⟩ = some (.int .i64 b) ∧ w'.cell? ⟨xb, 3, none⟩ = some (.int .i64 c)) _ from ⟨(hC.cget 0 rfl 0).1, (hC.cget 0 rfl 1).1, (hC.cget 0 rfl 2).1, (hC.cget 0 rfl 3).1⟩)
        refine lin_take (v := ?_) (by kernel_rfl) (by kernel_rfl) (fun _ _ _ h => h) (Or.inl ⟨by rfl, ?_⟩) (by assumption) ?_; (rotate_left; (intro wS hSw; (try dsimp only at hSw); go_simp; (try with_reducible rfl)); rotate_left); simp only [Act.put, List.setIfInBounds_toArray, List.set_cons_zero, List.set_cons_succ]
        obtain ⟨d0, k0⟩ := hC.cget 1 rfl 0
        obtain ⟨d1, k1⟩ := hC.cget 1 rfl 1
        obtain ⟨d2, k2⟩ := hC.cget 1 rfl 2
        simp at d0 d1 d2
        have hF := (((hC.cset 1 rfl 0 (.int .i64 a)).cset 1 rfl 1 (.int .i64 b)).cset 1 rfl 2 (.int .i64 c))
        refine lin_sole (by kernel_rfl) (fun K hK => ?_)
        go_simp
        refine hK.out _ _ ((show (fun w' : World => w'.cell? ⟨xb, 0, none⟩ = some (.int .i64 op) ∧ w'.cell? ⟨xb, 1, none⟩ = some (.int .i64 a) ∧ w'.cell? ⟨xb, 2, none⟩ = some (.int .i64 b) ∧ w'.cell? ⟨xb, 3, none⟩ = some (.int .i64 c)) _ from ⟨(hF.cget 0 rfl 0).1, (hF.cget 0 rfl 1).1, (hF.cget 0 rfl 2).1, (hF.cget 0 rfl 3).1⟩)) (fun hHeld => ?_)
        try simp only [Act.put, List.setIfInBounds_toArray, List.set_cons_zero, List.set_cons_succ]
        clear hK
        refine lin_done (by kernel_rfl) ?_
    case' ptwo =>
      intro K hK
      go_simp
      have hB := hU.box #[.int .i64 0, .int .i64 0, .int .i64 0] 74
      refine hK.out _ _ ((show (fun w' : World => w'.cell? ⟨xb, 0, none⟩ = some (.int .i64 op) ∧ w'.cell? ⟨xb, 1, none⟩ = some (.int .i64 a) ∧ w'.cell? ⟨xb, 2, none⟩ = some (.int .i64 b) ∧ w'.cell? ⟨xb, 3, none⟩ = some (.int .i64 c)) _ from ⟨(hB.cget 0 rfl 0).1, (hB.cget 0 rfl 1).1, (hB.cget 0 rfl 2).1, (hB.cget 0 rfl 3).1⟩)) (fun hHeld => ?_)
      try simp only [Act.put, List.setIfInBounds_toArray, List.set_cons_zero, List.set_cons_succ]
      clear hK hHeld hU; generalize u0.alloc (.cells #[.int .i64 0, .int .i64 0, .int .i64 0] 74) = u1 at *; generalize u0.heap.size = bb0 at *; have hHeld := (show (fun w' : World => w'.cell? ⟨xb, 0, none⟩ = some (.int .i64 op) ∧ w'.cell? ⟨xb, 1, none⟩ = some (.int .i64 a) ∧ w'.cell? ⟨xb, 2, none⟩ = some (.int .i64 b) ∧ w'.cell? ⟨xb, 3, none⟩ = some (.int .i64 c)) _ from ⟨(hB.cget 0 rfl 0).1, (hB.cget 0 rfl 1).1, (hB.cget 0 rfl 2).1, (hB.cget 0 rfl 3).1⟩)
      refine lin_sole (by kernel_rfl) (fun K hK => ?_)
      go_simp
      refine (FM.out _).mono ?_; rintro e w1 ⟨rfl, rfl⟩
      refine hK.out _ _ ((show (fun w' : World => w'.cell? ⟨xb, 0, none⟩ = some (.int .i64 op) ∧ w'.cell? ⟨xb, 1, none⟩ = some (.int .i64 a) ∧ w'.cell? ⟨xb, 2, none⟩ = some (.int .i64 b) ∧ w'.cell? ⟨xb, 3, none⟩ = some (.int .i64 c)) _ from ⟨(hB.cget 0 rfl 0).1, (hB.cget 0 rfl 1).1, (hB.cget 0 rfl 2).1, (hB.cget 0 rfl 3).1⟩)) (fun hHeld => ?_)
      try simp only [Act.put, List.setIfInBounds_toArray, List.set_cons_zero, List.set_cons_succ]
      clear hK
      refine lin_sole (by kernel_rfl) (fun K hK => ?_)
      go_simp
      refine (Own.lift (fields_any op a b c _) hB _ rfl).mono ?_; rintro e u2 ⟨rfl, hC⟩
      refine hK.out _ _ ((show (fun w' : World => w'.cell? ⟨xb, 0, none⟩ = some (.int .i64 op) ∧ w'.cell? ⟨xb, 1, none⟩ = some (.int .i64 a) ∧ w'.cell? ⟨xb, 2, none⟩ = some (.int .i64 b) ∧ w'.cell? ⟨xb, 3, none⟩ = some (.int .i64 c)) _ from ⟨(hC.cget 0 rfl 0).1, (hC.cget 0 rfl 1).1, (hC.cget 0 rfl 2).1, (hC.cget 0 rfl 3).1⟩)) (fun hHeld => ?_)
      try simp only [Act.put, List.setIfInBounds_toArray, List.set_cons_zero, List.set_cons_succ]
      clear hK hB; have hHeld := (show (fun w' : World => w'.cell? ⟨xb, 0, none⟩ = some (.int .i64 op) ∧ w'.cell? ⟨xb, 1, none⟩ = some (.int .i64 a) ∧ w'.cell? ⟨xb, 2, none⟩ = some (.int .i64 b) ∧ w'.cell? ⟨xb, 3, none⟩ = some (.int .i64 c)) _ from ⟨(hC.cget 0 rfl 0).1, (hC.cget 0 rfl 1).1, (hC.cget 0 rfl 2).1, (hC.cget 0 rfl 3).1⟩)
      refine lin_take (v := ?_) (by kernel_rfl) (by kernel_rfl) (fun _ _ _ h => h) (Or.inl ⟨by rfl, ?_⟩) (by assumption) ?_; (rotate_left; (intro wS hSw; (try dsimp only at hSw); go_simp; (try with_reducible rfl)); rotate_left); simp only [Act.put, List.setIfInBounds_toArray, List.set_cons_zero, List.set_cons_succ]
      obtain ⟨d0, k0⟩ := hC.cget 1 rfl 0
      obtain ⟨d1, k1⟩ := hC.cget 1 rfl 1
      obtain ⟨d2, k2⟩ := hC.cget 1 rfl 2
      simp at d0 d1 d2
      have hF := (((hC.cset 1 rfl 0 (.int .i64 a)).cset 1 rfl 1 (.int .i64 b)).cset 1 rfl 2 (.int .i64 c))
      refine lin_sole (by kernel_rfl) (fun K hK => ?_)
      go_simp
      refine hK.out _ _ ((show (fun w' : World => w'.cell? ⟨xb, 0, none⟩ = some (.int .i64 op) ∧ w'.cell? ⟨xb, 1, none⟩ = some (.int .i64 a) ∧ w'.cell? ⟨xb, 2, none⟩ = some (.int .i64 b) ∧ w'.cell? ⟨xb, 3, none⟩ = some (.int .i64 c)) _ from ⟨(hF.cget 0 rfl 0).1, (hF.cget 0 rfl 1).1, (hF.cget 0 rfl 2).1, (hF.cget 0 rfl 3).1⟩)) (fun hHeld => ?_)
      try simp only [Act.put, List.setIfInBounds_toArray, List.set_cons_zero, List.set_cons_succ]
      clear hK
      refine lin_done (by kernel_rfl) ?_
    all_goals
      go_wp2_with fail
      go_meet
      exact ⟨_, rfl, rfl, hF⟩
  case rest =>
    clear hU
    obtain ⟨B, rfl, rfl, hO⟩ := hcut
    have x0 := (hO.cget 0 rfl 0).1
    simp at x0
    go_wp2_with (first | (go_at_call 52; refine (put_as [] op 1 _ (by simp) 1 (by decide)).mono ?_; rintro e v0 ⟨s0, rfl, q0, l0, hb0⟩))
    have hO0 := hO.grow hb0
    replace l0 : s0.length = 1 := by simpa using l0
    clear hO hb0 x0
    refine wp_loop_rounds 3 ?_
    rw [rounds_succ]
    go_upto_region 9 with fail
    have hO0' := hO0.drewN 1
    have hSS := (show (fun w' : World => w'.cell? ⟨B, 0, none⟩ = some (.int .i64 a)) v0.drew from (hO0'.cget 1 rfl 0).1)
    refine lin_start (S := (fun w' : World => w'.cell? ⟨B, 0, none⟩ = some (.int .i64 a))) rfl 10 rfl hSS ?_
    simp only [numbered, Nat.zero_add, Nat.reduceAdd]
    refine lin_take (v := ?_) (by kernel_rfl) (by kernel_rfl) (fun _ _ _ h => h) (Or.inl ⟨by rfl, ?_⟩) (by assumption) ?_; (rotate_left; (intro wS hSw; (try dsimp only at hSw); go_simp; (try with_reducible rfl)); rotate_left); simp only [Act.put, List.setIfInBounds_toArray, List.set_cons_zero, List.set_cons_succ]
    refine lin_take (v := ?_) (by kernel_rfl) (by kernel_rfl) (fun _ _ _ h => h) (Or.inl ⟨by rfl, ?_⟩) (by assumption) ?_; (rotate_left; (intro wS hSw; (try dsimp only at hSw); go_simp; (try with_reducible rfl)); rotate_left); simp only [Act.put, List.setIfInBounds_toArray, List.set_cons_zero, List.set_cons_succ]
    refine lin_take (v := ?_) (by kernel_rfl) (by kernel_rfl) (fun _ _ _ h => h) (Or.inl ⟨by rfl, ?_⟩) (by assumption) ?_; (rotate_left; (intro wS hSw; (try dsimp only at hSw); go_simp; (try with_reducible rfl)); rotate_left); simp only [Act.put, List.setIfInBounds_toArray, List.set_cons_zero, List.set_cons_succ]
    refine lin_take (v := ?_) (by kernel_rfl) (by kernel_rfl) (fun _ _ _ h => h) (Or.inl ⟨by rfl, ?_⟩) (by assumption) ?_; (rotate_left; (intro wS hSw; (try dsimp only at hSw); go_simp; (try with_reducible rfl)); rotate_left); simp only [Act.put, List.setIfInBounds_toArray, List.set_cons_zero, List.set_cons_succ]
    refine lin_take (v := ?_) (by kernel_rfl) (by kernel_rfl) (fun _ _ _ h => h) (Or.inl ⟨by rfl, ?_⟩) (by assumption) ?_; (rotate_left; (intro wS hSw; (try dsimp only at hSw); go_simp; (try with_reducible rfl)); rotate_left); simp only [Act.put, List.setIfInBounds_toArray, List.set_cons_zero, List.set_cons_succ]
    refine lin_take (v := ?_) (by kernel_rfl) (by kernel_rfl) (fun _ _ _ h => h) (Or.inl ⟨by rfl, ?_⟩) (by assumption) ?_; (rotate_left; (intro wS hSw; (try dsimp only at hSw); go_simp; (try with_reducible rfl)); rotate_left); simp only [Act.put, List.setIfInBounds_toArray, List.set_cons_zero, List.set_cons_succ]
    refine lin_take (v := ?_) (by kernel_rfl) (by kernel_rfl) (fun _ _ _ h => h) (Or.inl ⟨by rfl, ?_⟩) (by assumption) ?_; (rotate_left; (intro wS hSw; (try dsimp only at hSw); go_simp; (try with_reducible rfl)); rotate_left); simp only [Act.put, List.setIfInBounds_toArray, List.set_cons_zero, List.set_cons_succ]
    refine lin_sole (by kernel_rfl) (fun K hK => ?_)
    go_simp
    refine (wide_r _).mono ?_; rintro e w1 ⟨rfl, rfl⟩
    refine hK.out _ _ hSS (fun hHeld => ?_)
    try simp only [Act.put, List.setIfInBounds_toArray, List.set_cons_zero, List.set_cons_succ]
    refine lin_sole (by kernel_rfl) (fun K hK => ?_)
    go_simp
    refine (put_as s0 a 1 _ (by omega) 1 (by decide)).mono ?_; rintro e v1 ⟨s1, rfl, q1, l1, hb1⟩
    have hO1 := hO0'.grow hb1
    refine hK.out _ _ (hO1.cget 1 rfl 0).1 (fun hHeld => ?_)
    try simp only [Act.put, List.setIfInBounds_toArray, List.set_cons_zero, List.set_cons_succ]
    refine lin_take (v := ?_) (by kernel_rfl) (by kernel_rfl) (fun _ _ _ h => h) (Or.inl ⟨by rfl, ?_⟩) (by assumption) ?_; (rotate_left; (intro wS hSw; (try dsimp only at hSw); go_simp; (try with_reducible rfl)); rotate_left); simp only [Act.put, List.setIfInBounds_toArray, List.set_cons_zero, List.set_cons_succ]
    refine lin_done (by kernel_rfl) ?_
    clear hSS hO0 hO0' hb1
    replace l1 : s1.length = 2 := by omega
    go_wp2_with fail
    rw [rounds_succ]
    go_upto_region 9 with fail
    have hO1' := hO1.drewN 1
    have hSS := (show (fun w' : World => w'.cell? ⟨B, 1, none⟩ = some (.int .i64 b)) v1.drew from (hO1'.cget 1 rfl 1).1)
    refine lin_start (S := (fun w' : World => w'.cell? ⟨B, 1, none⟩ = some (.int .i64 b))) rfl 10 rfl hSS ?_
    simp only [numbered, Nat.zero_add, Nat.reduceAdd]
    refine lin_take (v := ?_) (by kernel_rfl) (by kernel_rfl) (fun _ _ _ h => h) (Or.inl ⟨by rfl, ?_⟩) (by assumption) ?_; (rotate_left; (intro wS hSw; (try dsimp only at hSw); go_simp; (try with_reducible rfl)); rotate_left); simp only [Act.put, List.setIfInBounds_toArray, List.set_cons_zero, List.set_cons_succ]
    refine lin_take (v := ?_) (by kernel_rfl) (by kernel_rfl) (fun _ _ _ h => h) (Or.inl ⟨by rfl, ?_⟩) (by assumption) ?_; (rotate_left; (intro wS hSw; (try dsimp only at hSw); go_simp; (try with_reducible rfl)); rotate_left); simp only [Act.put, List.setIfInBounds_toArray, List.set_cons_zero, List.set_cons_succ]
    refine lin_take (v := ?_) (by kernel_rfl) (by kernel_rfl) (fun _ _ _ h => h) (Or.inl ⟨by rfl, ?_⟩) (by assumption) ?_; (rotate_left; (intro wS hSw; (try dsimp only at hSw); go_simp; (try with_reducible rfl)); rotate_left); simp only [Act.put, List.setIfInBounds_toArray, List.set_cons_zero, List.set_cons_succ]
    refine lin_take (v := ?_) (by kernel_rfl) (by kernel_rfl) (fun _ _ _ h => h) (Or.inl ⟨by rfl, ?_⟩) (by assumption) ?_; (rotate_left; (intro wS hSw; (try dsimp only at hSw); go_simp; (try with_reducible rfl)); rotate_left); simp only [Act.put, List.setIfInBounds_toArray, List.set_cons_zero, List.set_cons_succ]
    refine lin_take (v := ?_) (by kernel_rfl) (by kernel_rfl) (fun _ _ _ h => h) (Or.inl ⟨by rfl, ?_⟩) (by assumption) ?_; (rotate_left; (intro wS hSw; (try dsimp only at hSw); go_simp; (try with_reducible rfl)); rotate_left); simp only [Act.put, List.setIfInBounds_toArray, List.set_cons_zero, List.set_cons_succ]
    refine lin_take (v := ?_) (by kernel_rfl) (by kernel_rfl) (fun _ _ _ h => h) (Or.inl ⟨by rfl, ?_⟩) (by assumption) ?_; (rotate_left; (intro wS hSw; (try dsimp only at hSw); go_simp; (try with_reducible rfl)); rotate_left); simp only [Act.put, List.setIfInBounds_toArray, List.set_cons_zero, List.set_cons_succ]
    refine lin_take (v := ?_) (by kernel_rfl) (by kernel_rfl) (fun _ _ _ h => h) (Or.inl ⟨by rfl, ?_⟩) (by assumption) ?_; (rotate_left; (intro wS hSw; (try dsimp only at hSw); go_simp; (try with_reducible rfl)); rotate_left); simp only [Act.put, List.setIfInBounds_toArray, List.set_cons_zero, List.set_cons_succ]
    refine lin_sole (by kernel_rfl) (fun K hK => ?_)
    go_simp
    refine (wide_t _).mono ?_; rintro e w1 ⟨rfl, rfl⟩
    refine hK.out _ _ hSS (fun hHeld => ?_)
    try simp only [Act.put, List.setIfInBounds_toArray, List.set_cons_zero, List.set_cons_succ]
    refine lin_sole (by kernel_rfl) (fun K hK => ?_)
    go_simp
    refine (put_as s1 b 2 _ (by omega) 2 (by decide)).mono ?_; rintro e v2 ⟨s2, rfl, q2, l2, hb2⟩
    have hO2 := hO1'.grow hb2
    refine hK.out _ _ (hO2.cget 1 rfl 1).1 (fun hHeld => ?_)
    try simp only [Act.put, List.setIfInBounds_toArray, List.set_cons_zero, List.set_cons_succ]
    refine lin_take (v := ?_) (by kernel_rfl) (by kernel_rfl) (fun _ _ _ h => h) (Or.inl ⟨by rfl, ?_⟩) (by assumption) ?_; (rotate_left; (intro wS hSw; (try dsimp only at hSw); go_simp; (try with_reducible rfl)); rotate_left); simp only [Act.put, List.setIfInBounds_toArray, List.set_cons_zero, List.set_cons_succ]
    refine lin_done (by kernel_rfl) ?_
    clear hSS hO1 hO1' hb2
    replace l2 : s2.length = 4 := by omega
    go_wp2_with fail
    rw [rounds_succ]
    go_wp2_with fail
    refine wp_loop_rounds 1 ?_
    repeat (rw [rounds_succ]; go_wp2_with fail)
    have hp : putI op a b c = s2 := by
      unfold putI
      rw [hFo.out]
      simp [putF, wideL, low_len, q2.out, q1.out, q0.out]
    go_ret2
    exact ⟨by rw [hp]; simp [results, ba_app], hO2.below⟩
theorem put_t (op a b c : Int) (hF : formL op = [116]) (h0 : checkI op a b c = 0) (w : World) : Calls Try.prog 21 #[.agg #[.int .i64 op, .int .i64 a, .int .i64 b, .int .i64 c]] w fun e w' => e = .returned (.tuple #[.string ⟨(putI op a b c).toArray⟩, .int .i64 0]) ∧ Below w.heap.size w w' := by
  have hO := (Own.nil (Below.refl _ w)).box #[.int .i64 op, .int .i64 a, .int .i64 b, .int .i64 c] 30
  have C := Lib.hid (Own.lift (check_any op a b c _) hO _ rfl)
  rw [h0] at C
  have FM := fun w1 => form_any op w1
  rw [hF] at FM
  replace FM := Lib.hid FM
  have hFo := Lib.hid hF
  clear hF hO h0
  go_enter Try.func21, Try.ntmps21
  go_upto_region 4 with (first | (go_at_call 24; refine C.out.mono ?_; rintro e u ⟨rfl, hO⟩))
  generalize w.heap.size = xb at *
  have hU : Own w u.drew _ := hO.drewN 1
  clear hO C
  go_cut [5, 6] from 14 to 18 (fun f l wx => ∃ B : Nat, f = .string ⟨([116] : List UInt8).toArray⟩ ∧ l = .pointer (some ⟨B, 0, none⟩) ∧ Own w wx [cellsA xb #[.int .i64 op, .int .i64 a, .int .i64 b, .int .i64 c] 30, cellsA B #[.int .i64 a, .int .i64 b, .int .i64 c] 74])
  case first =>
    refine lin_start (S := (fun w' : World => w'.cell? ⟨xb, 0, none⟩ = some (.int .i64 op) ∧ w'.cell? ⟨xb, 1, none⟩ = some (.int .i64 a) ∧ w'.cell? ⟨xb, 2, none⟩ = some (.int .i64 b) ∧ w'.cell? ⟨xb, 3, none⟩ = some (.int .i64 c))) rfl 8 rfl ((show (fun w' : World => w'.cell? ⟨xb, 0, none⟩ = some (.int .i64 op) ∧ w'.cell? ⟨xb, 1, none⟩ = some (.int .i64 a) ∧ w'.cell? ⟨xb, 2, none⟩ = some (.int .i64 b) ∧ w'.cell? ⟨xb, 3, none⟩ = some (.int .i64 c)) _ from ⟨(hU.cget 0 rfl 0).1, (hU.cget 0 rfl 1).1, (hU.cget 0 rfl 2).1, (hU.cget 0 rfl 3).1⟩)) ?_
    simp only [numbered, Nat.zero_add, Nat.reduceAdd]
    generalize u.drew = u0 at *
    have hHeld := (show (fun w' : World => w'.cell? ⟨xb, 0, none⟩ = some (.int .i64 op) ∧ w'.cell? ⟨xb, 1, none⟩ = some (.int .i64 a) ∧ w'.cell? ⟨xb, 2, none⟩ = some (.int .i64 b) ∧ w'.cell? ⟨xb, 3, none⟩ = some (.int .i64 c)) _ from ⟨(hU.cget 0 rfl 0).1, (hU.cget 0 rfl 1).1, (hU.cget 0 rfl 2).1, (hU.cget 0 rfl 3).1⟩)
    refine lin_take (v := ?_) (by kernel_rfl) (by kernel_rfl) (fun _ _ _ h => h) (Or.inl ⟨by rfl, ?_⟩) (by assumption) ?_; (rotate_left; (intro wS hSw; (try dsimp only at hSw); go_simp; (try with_reducible rfl)); rotate_left); simp only [Act.put, List.setIfInBounds_toArray, List.set_cons_zero, List.set_cons_succ]
    refine lin_take (v := ?_) (by kernel_rfl) (by kernel_rfl) (fun _ _ _ h => h) (Or.inl ⟨by rfl, ?_⟩) (by assumption) ?_; (rotate_left; (intro wS hSw; (try dsimp only at hSw); go_simp; (try with_reducible rfl)); rotate_left); simp only [Act.put, List.setIfInBounds_toArray, List.set_cons_zero, List.set_cons_succ]
    refine lin_rot ?_; simp only [List.cons_append, List.nil_append]
    refine lin_take (v := ?_) (by kernel_rfl) (by kernel_rfl) (fun _ _ _ h => h) (Or.inl ⟨by rfl, ?_⟩) (by assumption) ?_; (rotate_left; (intro wS hSw; (try dsimp only at hSw); go_simp; (try with_reducible rfl)); rotate_left); simp only [Act.put, List.setIfInBounds_toArray, List.set_cons_zero, List.set_cons_succ]
    refine lin_rot ?_; simp only [List.cons_append, List.nil_append]
    refine lin_rot ?_; simp only [List.cons_append, List.nil_append]
    refine lin_rot ?_; simp only [List.cons_append, List.nil_append]
    refine lin_rot ?_; simp only [List.cons_append, List.nil_append]
    refine lin_rot ?_; simp only [List.cons_append, List.nil_append]
    refine lin_rot ?_; simp only [List.cons_append, List.nil_append]
    refine lin_rot ?_; simp only [List.cons_append, List.nil_append]
    refine lin_rot ?_; simp only [List.cons_append, List.nil_append]
    refine lin_rot ?_; simp only [List.cons_append, List.nil_append]
    refine lin_rot ?_; simp only [List.cons_append, List.nil_append]
    refine lin_swap ?_
    refine lin_rot ?_; simp only [List.cons_append, List.nil_append]
    refine lin_rot ?_; simp only [List.cons_append, List.nil_append]
    refine lin_rot ?_; simp only [List.cons_append, List.nil_append]
    refine lin_rot ?_; simp only [List.cons_append, List.nil_append]
    refine lin_pair (by kernel_rfl) ?pone ?ptwo
    case' pone =>
      intro K hK
      go_simp
      refine (FM.out _).mono ?_; rintro e w1 ⟨rfl, rfl⟩
      refine hK.out _ _ ((show (fun w' : World => w'.cell? ⟨xb, 0, none⟩ = some (.int .i64 op) ∧ w'.cell? ⟨xb, 1, none⟩ = some (.int .i64 a) ∧ w'.cell? ⟨xb, 2, none⟩ = some (.int .i64 b) ∧ w'.cell? ⟨xb, 3, none⟩ = some (.int .i64 c)) _ from ⟨(hU.cget 0 rfl 0).1, (hU.cget 0 rfl 1).1, (hU.cget 0 rfl 2).1, (hU.cget 0 rfl 3).1⟩)) (fun hHeld => ?_)
      try simp only [Act.put, List.setIfInBounds_toArray, List.set_cons_zero, List.set_cons_succ]
      clear hK
      refine lin_pair (by kernel_rfl) ?pthree ?pfour
      case' pthree =>
        intro K hK
        go_simp
        have hB := hU.box #[.int .i64 0, .int .i64 0, .int .i64 0] 74
        refine hK.out _ _ ((show (fun w' : World => w'.cell? ⟨xb, 0, none⟩ = some (.int .i64 op) ∧ w'.cell? ⟨xb, 1, none⟩ = some (.int .i64 a) ∧ w'.cell? ⟨xb, 2, none⟩ = some (.int .i64 b) ∧ w'.cell? ⟨xb, 3, none⟩ = some (.int .i64 c)) _ from ⟨(hB.cget 0 rfl 0).1, (hB.cget 0 rfl 1).1, (hB.cget 0 rfl 2).1, (hB.cget 0 rfl 3).1⟩)) (fun hHeld => ?_)
        try simp only [Act.put, List.setIfInBounds_toArray, List.set_cons_zero, List.set_cons_succ]
        clear hK hHeld hU; generalize u0.alloc (.cells #[.int .i64 0, .int .i64 0, .int .i64 0] 74) = u1 at *; generalize u0.heap.size = bb0 at *; have hHeld := (show (fun w' : World => w'.cell? ⟨xb, 0, none⟩ = some (.int .i64 op) ∧ w'.cell? ⟨xb, 1, none⟩ = some (.int .i64 a) ∧ w'.cell? ⟨xb, 2, none⟩ = some (.int .i64 b) ∧ w'.cell? ⟨xb, 3, none⟩ = some (.int .i64 c)) _ from ⟨(hB.cget 0 rfl 0).1, (hB.cget 0 rfl 1).1, (hB.cget 0 rfl 2).1, (hB.cget 0 rfl 3).1⟩)
        refine lin_sole (by kernel_rfl) (fun K hK => ?_)
        go_simp
        refine (Own.lift (fields_any op a b c _) hB _ rfl).mono ?_; rintro e u2 ⟨rfl, hC⟩
        refine hK.out _ _ ((show (fun w' : World => w'.cell? ⟨xb, 0, none⟩ = some (.int .i64 op) ∧ w'.cell? ⟨xb, 1, none⟩ = some (.int .i64 a) ∧ w'.cell? ⟨xb, 2, none⟩ = some (.int .i64 b) ∧ w'.cell? ⟨xb, 3, none⟩ = some (.int .i64 c)) _ from ⟨(hC.cget 0 rfl 0).1, (hC.cget 0 rfl 1).1, (hC.cget 0 rfl 2).1, (hC.cget 0 rfl 3).1⟩)) (fun hHeld => ?_)
        try simp only [Act.put, List.setIfInBounds_toArray, List.set_cons_zero, List.set_cons_succ]
        clear hK hB; have hHeld := (show (fun w' : World => w'.cell? ⟨xb, 0, none⟩ = some (.int .i64 op) ∧ w'.cell? ⟨xb, 1, none⟩ = some (.int .i64 a) ∧ w'.cell? ⟨xb, 2, none⟩ = some (.int .i64 b) ∧ w'.cell? ⟨xb, 3, none⟩ = some (.int .i64 c)) _ from ⟨(hC.cget 0 rfl 0).1, (hC.cget 0 rfl 1).1, (hC.cget 0 rfl 2).1, (hC.cget 0 rfl 3).1⟩)
        refine lin_take (v := ?_) (by kernel_rfl) (by kernel_rfl) (fun _ _ _ h => h) (Or.inl ⟨by rfl, ?_⟩) (by assumption) ?_; (rotate_left; (intro wS hSw; (try dsimp only at hSw); go_simp; (try with_reducible rfl)); rotate_left); simp only [Act.put, List.setIfInBounds_toArray, List.set_cons_zero, List.set_cons_succ]
        obtain ⟨d0, k0⟩ := hC.cget 1 rfl 0
        obtain ⟨d1, k1⟩ := hC.cget 1 rfl 1
        obtain ⟨d2, k2⟩ := hC.cget 1 rfl 2
        simp at d0 d1 d2
        have hF := (((hC.cset 1 rfl 0 (.int .i64 a)).cset 1 rfl 1 (.int .i64 b)).cset 1 rfl 2 (.int .i64 c))
        refine lin_sole (by kernel_rfl) (fun K hK => ?_)
        go_simp
        refine hK.out _ _ ((show (fun w' : World => w'.cell? ⟨xb, 0, none⟩ = some (.int .i64 op) ∧ w'.cell? ⟨xb, 1, none⟩ = some (.int .i64 a) ∧ w'.cell? ⟨xb, 2, none⟩ = some (.int .i64 b) ∧ w'.cell? ⟨xb, 3, none⟩ = some (.int .i64 c)) _ from ⟨(hF.cget 0 rfl 0).1, (hF.cget 0 rfl 1).1, (hF.cget 0 rfl 2).1, (hF.cget 0 rfl 3).1⟩)) (fun hHeld => ?_)
        try simp only [Act.put, List.setIfInBounds_toArray, List.set_cons_zero, List.set_cons_succ]
        clear hK
        refine lin_done (by kernel_rfl) ?_
      case' pfour =>
        intro K hK
        go_simp
        refine (Own.lift (fields_any op a b c _) hU _ rfl).mono ?_; rintro e u1 ⟨rfl, hB⟩
        refine hK.out _ _ ((show (fun w' : World => w'.cell? ⟨xb, 0, none⟩ = some (.int .i64 op) ∧ w'.cell? ⟨xb, 1, none⟩ = some (.int .i64 a) ∧ w'.cell? ⟨xb, 2, none⟩ = some (.int .i64 b) ∧ w'.cell? ⟨xb, 3, none⟩ = some (.int .i64 c)) _ from ⟨(hB.cget 0 rfl 0).1, (hB.cget 0 rfl 1).1, (hB.cget 0 rfl 2).1, (hB.cget 0 rfl 3).1⟩)) (fun hHeld => ?_)
        try simp only [Act.put, List.setIfInBounds_toArray, List.set_cons_zero, List.set_cons_succ]
        clear hK hU; have hHeld := (show (fun w' : World => w'.cell? ⟨xb, 0, none⟩ = some (.int .i64 op) ∧ w'.cell? ⟨xb, 1, none⟩ = some (.int .i64 a) ∧ w'.cell? ⟨xb, 2, none⟩ = some (.int .i64 b) ∧ w'.cell? ⟨xb, 3, none⟩ = some (.int .i64 c)) _ from ⟨(hB.cget 0 rfl 0).1, (hB.cget 0 rfl 1).1, (hB.cget 0 rfl 2).1, (hB.cget 0 rfl 3).1⟩)
        refine lin_sole (by kernel_rfl) (fun K hK => ?_)
        go_simp
        have hC := hB.box #[.int .i64 0, .int .i64 0, .int .i64 0] 74
        refine hK.out _ _ ((show (fun w' : World => w'.cell? ⟨xb, 0, none⟩ = some (.int .i64 op) ∧ w'.cell? ⟨xb, 1, none⟩ = some (.int .i64 a) ∧ w'.cell? ⟨xb, 2, none⟩ = some (.int .i64 b) ∧ w'.cell? ⟨xb, 3, none⟩ = some (.int .i64 c)) _ from ⟨(hC.cget 0 rfl 0).1, (hC.cget 0 rfl 1).1, (hC.cget 0 rfl 2).1, (hC.cget 0 rfl 3).1⟩)) (fun hHeld => ?_)
        try simp only [Act.put, List.setIfInBounds_toArray, List.set_cons_zero, List.set_cons_succ]
        clear hK hHeld hB; generalize u1.alloc (.cells #[.int .i64 0, .int .i64 0, .int .i64 0] 74) = u2 at *; generalize u1.heap.size = bb0 at *; have hHeld := (show (fun w' : World => w'.cell? ⟨xb, 0, none⟩ = some (.int .i64 op) ∧ w'.cell? ⟨xb, 1, none⟩ = some (.int .i64 a) ∧ w'.cell? ⟨xb, 2, none⟩ = some (.int .i64 b) ∧ w'.cell? ⟨xb, 3, none⟩ = some (.int .i64 c)) _ from ⟨(hC.cget 0 rfl 0).1, (hC.cget 0 rfl 1).1, (hC.cget 0 rfl 2).1, (hC.cget 0 rfl 3).1⟩)
        refine lin_take (v := ?_) (by kernel_rfl) (by kernel_rfl) (fun _ _ _ h => h) (Or.inl ⟨by rfl, ?_⟩) (by assumption) ?_; (rotate_left; (intro wS hSw; (try dsimp only at hSw); go_simp; (try with_reducible rfl)); rotate_left); simp only [Act.put, List.setIfInBounds_toArray, List.set_cons_zero, List.set_cons_succ]
        obtain ⟨d0, k0⟩ := hC.cget 1 rfl 0
        obtain ⟨d1, k1⟩ := hC.cget 1 rfl 1
        obtain ⟨d2, k2⟩ := hC.cget 1 rfl 2
        simp at d0 d1 d2
        have hF := (((hC.cset 1 rfl 0 (.int .i64 a)).cset 1 rfl 1 (.int .i64 b)).cset 1 rfl 2 (.int .i64 c))
        refine lin_sole (by kernel_rfl) (fun K hK => ?_)
        go_simp
        refine hK.out _ _ ((show (fun w' : World => w'.cell? ⟨xb, 0, none⟩ = some (.int .i64 op) ∧ w'.cell? ⟨xb, 1, none⟩ = some (.int .i64 a) ∧ w'.cell? ⟨xb, 2, none⟩ = some (.int .i64 b) ∧ w'.cell? ⟨xb, 3, none⟩ = some (.int .i64 c)) _ from ⟨(hF.cget 0 rfl 0).1, (hF.cget 0 rfl 1).1, (hF.cget 0 rfl 2).1, (hF.cget 0 rfl 3).1⟩)) (fun hHeld => ?_)
        try simp only [Act.put, List.setIfInBounds_toArray, List.set_cons_zero, List.set_cons_succ]
        clear hK
        refine lin_done (by kernel_rfl) ?_
    case' ptwo =>
      intro K hK
      go_simp
      have hB := hU.box #[.int .i64 0, .int .i64 0, .int .i64 0] 74
      refine hK.out _ _ ((show (fun w' : World => w'.cell? ⟨xb, 0, none⟩ = some (.int .i64 op) ∧ w'.cell? ⟨xb, 1, none⟩ = some (.int .i64 a) ∧ w'.cell? ⟨xb, 2, none⟩ = some (.int .i64 b) ∧ w'.cell? ⟨xb, 3, none⟩ = some (.int .i64 c)) _ from ⟨(hB.cget 0 rfl 0).1, (hB.cget 0 rfl 1).1, (hB.cget 0 rfl 2).1, (hB.cget 0 rfl 3).1⟩)) (fun hHeld => ?_)
      try simp only [Act.put, List.setIfInBounds_toArray, List.set_cons_zero, List.set_cons_succ]
      clear hK hHeld hU; generalize u0.alloc (.cells #[.int .i64 0, .int .i64 0, .int .i64 0] 74) = u1 at *; generalize u0.heap.size = bb0 at *; have hHeld := (show (fun w' : World => w'.cell? ⟨xb, 0, none⟩ = some (.int .i64 op) ∧ w'.cell? ⟨xb, 1, none⟩ = some (.int .i64 a) ∧ w'.cell? ⟨xb, 2, none⟩ = some (.int .i64 b) ∧ w'.cell? ⟨xb, 3, none⟩ = some (.int .i64 c)) _ from ⟨(hB.cget 0 rfl 0).1, (hB.cget 0 rfl 1).1, (hB.cget 0 rfl 2).1, (hB.cget 0 rfl 3).1⟩)
      refine lin_sole (by kernel_rfl) (fun K hK => ?_)
      go_simp
      refine (FM.out _).mono ?_; rintro e w1 ⟨rfl, rfl⟩
      refine hK.out _ _ ((show (fun w' : World => w'.cell? ⟨xb, 0, none⟩ = some (.int .i64 op) ∧ w'.cell? ⟨xb, 1, none⟩ = some (.int .i64 a) ∧ w'.cell? ⟨xb, 2, none⟩ = some (.int .i64 b) ∧ w'.cell? ⟨xb, 3, none⟩ = some (.int .i64 c)) _ from ⟨(hB.cget 0 rfl 0).1, (hB.cget 0 rfl 1).1, (hB.cget 0 rfl 2).1, (hB.cget 0 rfl 3).1⟩)) (fun hHeld => ?_)
      try simp only [Act.put, List.setIfInBounds_toArray, List.set_cons_zero, List.set_cons_succ]
      clear hK
      refine lin_sole (by kernel_rfl) (fun K hK => ?_)
      go_simp
      refine (Own.lift (fields_any op a b c _) hB _ rfl).mono ?_; rintro e u2 ⟨rfl, hC⟩
      refine hK.out _ _ ((show (fun w' : World => w'.cell? ⟨xb, 0, none⟩ = some (.int .i64 op) ∧ w'.cell? ⟨xb, 1, none⟩ = some (.int .i64 a) ∧ w'.cell? ⟨xb, 2, none⟩ = some (.int .i64 b) ∧ w'.cell? ⟨xb, 3, none⟩ = some (.int .i64 c)) _ from ⟨(hC.cget 0 rfl 0).1, (hC.cget 0 rfl 1).1, (hC.cget 0 rfl 2).1, (hC.cget 0 rfl 3).1⟩)) (fun hHeld => ?_)
      try simp only [Act.put, List.setIfInBounds_toArray, List.set_cons_zero, List.set_cons_succ]
      clear hK hB; have hHeld := (show (fun w' : World => w'.cell? ⟨xb, 0, none⟩ = some (.int .i64 op) ∧ w'.cell? ⟨xb, 1, none⟩ = some (.int .i64 a) ∧ w'.cell? ⟨xb, 2, none⟩ = some (.int .i64 b) ∧ w'.cell? ⟨xb, 3, none⟩ = some (.int .i64 c)) _ from ⟨(hC.cget 0 rfl 0).1, (hC.cget 0 rfl 1).1, (hC.cget 0 rfl 2).1, (hC.cget 0 rfl 3).1⟩)
      refine lin_take (v := ?_) (by kernel_rfl) (by kernel_rfl) (fun _ _ _ h => h) (Or.inl ⟨by rfl, ?_⟩) (by assumption) ?_; (rotate_left; (intro wS hSw; (try dsimp only at hSw); go_simp; (try with_reducible rfl)); rotate_left); simp only [Act.put, List.setIfInBounds_toArray, List.set_cons_zero, List.set_cons_succ]
      obtain ⟨d0, k0⟩ := hC.cget 1 rfl 0
      obtain ⟨d1, k1⟩ := hC.cget 1 rfl 1
      obtain ⟨d2, k2⟩ := hC.cget 1 rfl 2
      simp at d0 d1 d2
      have hF := (((hC.cset 1 rfl 0 (.int .i64 a)).cset 1 rfl 1 (.int .i64 b)).cset 1 rfl 2 (.int .i64 c))
      refine lin_sole (by kernel_rfl) (fun K hK => ?_)
      go_simp
      refine hK.out _ _ ((show (fun w' : World => w'.cell? ⟨xb, 0, none⟩ = some (.int .i64 op) ∧ w'.cell? ⟨xb, 1, none⟩ = some (.int .i64 a) ∧ w'.cell? ⟨xb, 2, none⟩ = some (.int .i64 b) ∧ w'.cell? ⟨xb, 3, none⟩ = some (.int .i64 c)) _ from ⟨(hF.cget 0 rfl 0).1, (hF.cget 0 rfl 1).1, (hF.cget 0 rfl 2).1, (hF.cget 0 rfl 3).1⟩)) (fun hHeld => ?_)
      try simp only [Act.put, List.setIfInBounds_toArray, List.set_cons_zero, List.set_cons_succ]
      clear hK
      refine lin_done (by kernel_rfl) ?_
    all_goals
      go_wp2_with fail
      go_meet
      exact ⟨_, rfl, rfl, hF⟩
  case rest =>
    clear hU
    obtain ⟨B, rfl, rfl, hO⟩ := hcut
    have x0 := (hO.cget 0 rfl 0).1
    simp at x0
    go_wp2_with (first | (go_at_call 52; refine (put_as [] op 1 _ (by simp) 1 (by decide)).mono ?_; rintro e v0 ⟨s0, rfl, q0, l0, hb0⟩))
    have hO0 := hO.grow hb0
    replace l0 : s0.length = 1 := by simpa using l0
    clear hO hb0 x0
    refine wp_loop_rounds 2 ?_
    rw [rounds_succ]
    go_upto_region 9 with fail
    have hO0' := hO0.drewN 1
    have hSS := (show (fun w' : World => w'.cell? ⟨B, 0, none⟩ = some (.int .i64 a)) v0.drew from (hO0'.cget 1 rfl 0).1)
    refine lin_start (S := (fun w' : World => w'.cell? ⟨B, 0, none⟩ = some (.int .i64 a))) rfl 10 rfl hSS ?_
    simp only [numbered, Nat.zero_add, Nat.reduceAdd]
    refine lin_take (v := ?_) (by kernel_rfl) (by kernel_rfl) (fun _ _ _ h => h) (Or.inl ⟨by rfl, ?_⟩) (by assumption) ?_; (rotate_left; (intro wS hSw; (try dsimp only at hSw); go_simp; (try with_reducible rfl)); rotate_left); simp only [Act.put, List.setIfInBounds_toArray, List.set_cons_zero, List.set_cons_succ]
    refine lin_take (v := ?_) (by kernel_rfl) (by kernel_rfl) (fun _ _ _ h => h) (Or.inl ⟨by rfl, ?_⟩) (by assumption) ?_; (rotate_left; (intro wS hSw; (try dsimp only at hSw); go_simp; (try with_reducible rfl)); rotate_left); simp only [Act.put, List.setIfInBounds_toArray, List.set_cons_zero, List.set_cons_succ]
    refine lin_take (v := ?_) (by kernel_rfl) (by kernel_rfl) (fun _ _ _ h => h) (Or.inl ⟨by rfl, ?_⟩) (by assumption) ?_; (rotate_left; (intro wS hSw; (try dsimp only at hSw); go_simp; (try with_reducible rfl)); rotate_left); simp only [Act.put, List.setIfInBounds_toArray, List.set_cons_zero, List.set_cons_succ]
    refine lin_take (v := ?_) (by kernel_rfl) (by kernel_rfl) (fun _ _ _ h => h) (Or.inl ⟨by rfl, ?_⟩) (by assumption) ?_; (rotate_left; (intro wS hSw; (try dsimp only at hSw); go_simp; (try with_reducible rfl)); rotate_left); simp only [Act.put, List.setIfInBounds_toArray, List.set_cons_zero, List.set_cons_succ]
    refine lin_take (v := ?_) (by kernel_rfl) (by kernel_rfl) (fun _ _ _ h => h) (Or.inl ⟨by rfl, ?_⟩) (by assumption) ?_; (rotate_left; (intro wS hSw; (try dsimp only at hSw); go_simp; (try with_reducible rfl)); rotate_left); simp only [Act.put, List.setIfInBounds_toArray, List.set_cons_zero, List.set_cons_succ]
    refine lin_take (v := ?_) (by kernel_rfl) (by kernel_rfl) (fun _ _ _ h => h) (Or.inl ⟨by rfl, ?_⟩) (by assumption) ?_; (rotate_left; (intro wS hSw; (try dsimp only at hSw); go_simp; (try with_reducible rfl)); rotate_left); simp only [Act.put, List.setIfInBounds_toArray, List.set_cons_zero, List.set_cons_succ]
    refine lin_take (v := ?_) (by kernel_rfl) (by kernel_rfl) (fun _ _ _ h => h) (Or.inl ⟨by rfl, ?_⟩) (by assumption) ?_; (rotate_left; (intro wS hSw; (try dsimp only at hSw); go_simp; (try with_reducible rfl)); rotate_left); simp only [Act.put, List.setIfInBounds_toArray, List.set_cons_zero, List.set_cons_succ]
    refine lin_sole (by kernel_rfl) (fun K hK => ?_)
    go_simp
    refine (wide_t _).mono ?_; rintro e w1 ⟨rfl, rfl⟩
    refine hK.out _ _ hSS (fun hHeld => ?_)
    try simp only [Act.put, List.setIfInBounds_toArray, List.set_cons_zero, List.set_cons_succ]
    refine lin_sole (by kernel_rfl) (fun K hK => ?_)
    go_simp
    refine (put_as s0 a 2 _ (by omega) 2 (by decide)).mono ?_; rintro e v1 ⟨s1, rfl, q1, l1, hb1⟩
    have hO1 := hO0'.grow hb1
    refine hK.out _ _ (hO1.cget 1 rfl 0).1 (fun hHeld => ?_)
    try simp only [Act.put, List.setIfInBounds_toArray, List.set_cons_zero, List.set_cons_succ]
    refine lin_take (v := ?_) (by kernel_rfl) (by kernel_rfl) (fun _ _ _ h => h) (Or.inl ⟨by rfl, ?_⟩) (by assumption) ?_; (rotate_left; (intro wS hSw; (try dsimp only at hSw); go_simp; (try with_reducible rfl)); rotate_left); simp only [Act.put, List.setIfInBounds_toArray, List.set_cons_zero, List.set_cons_succ]
    refine lin_done (by kernel_rfl) ?_
    clear hSS hO0 hO0' hb1
    replace l1 : s1.length = 3 := by omega
    go_wp2_with fail
    rw [rounds_succ]
    go_wp2_with fail
    refine wp_loop_rounds 2 ?_
    repeat (rw [rounds_succ]; go_wp2_with fail)
    have hp : putI op a b c = s1 ++ [0] := by
      unfold putI
      rw [hFo.out]
      simp [putF, wideL, low_len, q1.out, q0.out]
    go_ret2
    exact ⟨by rw [hp]; simp [results, ba_app], hO1.below⟩
theorem put_f (op a b c : Int) (hF : formL op = [102]) (h0 : checkI op a b c = 0) (w : World) : Calls Try.prog 21 #[.agg #[.int .i64 op, .int .i64 a, .int .i64 b, .int .i64 c]] w fun e w' => e = .returned (.tuple #[.string ⟨(putI op a b c).toArray⟩, .int .i64 0]) ∧ Below w.heap.size w w' := by
  have hO := (Own.nil (Below.refl _ w)).box #[.int .i64 op, .int .i64 a, .int .i64 b, .int .i64 c] 30
  have C := Lib.hid (Own.lift (check_any op a b c _) hO _ rfl)
  rw [h0] at C
  have FM := fun w1 => form_any op w1
  rw [hF] at FM
  replace FM := Lib.hid FM
  have hFo := Lib.hid hF
  clear hF hO h0
  go_enter Try.func21, Try.ntmps21
  go_upto_region 4 with (first | (go_at_call 24; refine C.out.mono ?_; rintro e u ⟨rfl, hO⟩))
  generalize w.heap.size = xb at *
  have hU : Own w u.drew _ := hO.drewN 1
  clear hO C
  go_cut [5, 6] from 14 to 18 (fun f l wx => ∃ B : Nat, f = .string ⟨([102] : List UInt8).toArray⟩ ∧ l = .pointer (some ⟨B, 0, none⟩) ∧ Own w wx [cellsA xb #[.int .i64 op, .int .i64 a, .int .i64 b, .int .i64 c] 30, cellsA B #[.int .i64 a, .int .i64 b, .int .i64 c] 74])
  case first =>
    refine lin_start (S := (fun w' : World => w'.cell? ⟨xb, 0, none⟩ = some (.int .i64 op) ∧ w'.cell? ⟨xb, 1, none⟩ = some (.int .i64 a) ∧ w'.cell? ⟨xb, 2, none⟩ = some (.int .i64 b) ∧ w'.cell? ⟨xb, 3, none⟩ = some (.int .i64 c))) rfl 8 rfl ((show (fun w' : World => w'.cell? ⟨xb, 0, none⟩ = some (.int .i64 op) ∧ w'.cell? ⟨xb, 1, none⟩ = some (.int .i64 a) ∧ w'.cell? ⟨xb, 2, none⟩ = some (.int .i64 b) ∧ w'.cell? ⟨xb, 3, none⟩ = some (.int .i64 c)) _ from ⟨(hU.cget 0 rfl 0).1, (hU.cget 0 rfl 1).1, (hU.cget 0 rfl 2).1, (hU.cget 0 rfl 3).1⟩)) ?_
    simp only [numbered, Nat.zero_add, Nat.reduceAdd]
    generalize u.drew = u0 at *
    have hHeld := (show (fun w' : World => w'.cell? ⟨xb, 0, none⟩ = some (.int .i64 op) ∧ w'.cell? ⟨xb, 1, none⟩ = some (.int .i64 a) ∧ w'.cell? ⟨xb, 2, none⟩ = some (.int .i64 b) ∧ w'.cell? ⟨xb, 3, none⟩ = some (.int .i64 c)) _ from ⟨(hU.cget 0 rfl 0).1, (hU.cget 0 rfl 1).1, (hU.cget 0 rfl 2).1, (hU.cget 0 rfl 3).1⟩)
    refine lin_take (v := ?_) (by kernel_rfl) (by kernel_rfl) (fun _ _ _ h => h) (Or.inl ⟨by rfl, ?_⟩) (by assumption) ?_; (rotate_left; (intro wS hSw; (try dsimp only at hSw); go_simp; (try with_reducible rfl)); rotate_left); simp only [Act.put, List.setIfInBounds_toArray, List.set_cons_zero, List.set_cons_succ]
    refine lin_take (v := ?_) (by kernel_rfl) (by kernel_rfl) (fun _ _ _ h => h) (Or.inl ⟨by rfl, ?_⟩) (by assumption) ?_; (rotate_left; (intro wS hSw; (try dsimp only at hSw); go_simp; (try with_reducible rfl)); rotate_left); simp only [Act.put, List.setIfInBounds_toArray, List.set_cons_zero, List.set_cons_succ]
    refine lin_rot ?_; simp only [List.cons_append, List.nil_append]
    refine lin_take (v := ?_) (by kernel_rfl) (by kernel_rfl) (fun _ _ _ h => h) (Or.inl ⟨by rfl, ?_⟩) (by assumption) ?_; (rotate_left; (intro wS hSw; (try dsimp only at hSw); go_simp; (try with_reducible rfl)); rotate_left); simp only [Act.put, List.setIfInBounds_toArray, List.set_cons_zero, List.set_cons_succ]
    refine lin_rot ?_; simp only [List.cons_append, List.nil_append]
    refine lin_rot ?_; simp only [List.cons_append, List.nil_append]
    refine lin_rot ?_; simp only [List.cons_append, List.nil_append]
    refine lin_rot ?_; simp only [List.cons_append, List.nil_append]
    refine lin_rot ?_; simp only [List.cons_append, List.nil_append]
    refine lin_rot ?_; simp only [List.cons_append, List.nil_append]
    refine lin_rot ?_; simp only [List.cons_append, List.nil_append]
    refine lin_rot ?_; simp only [List.cons_append, List.nil_append]
    refine lin_rot ?_; simp only [List.cons_append, List.nil_append]
    refine lin_rot ?_; simp only [List.cons_append, List.nil_append]
    refine lin_swap ?_
    refine lin_rot ?_; simp only [List.cons_append, List.nil_append]
    refine lin_rot ?_; simp only [List.cons_append, List.nil_append]
    refine lin_rot ?_; simp only [List.cons_append, List.nil_append]
    refine lin_rot ?_; simp only [List.cons_append, List.nil_append]
    refine lin_pair (by kernel_rfl) ?pone ?ptwo
    case' pone =>
      intro K hK
      go_simp
      refine (FM.out _).mono ?_; rintro e w1 ⟨rfl, rfl⟩
      refine hK.out _ _ ((show (fun w' : World => w'.cell? ⟨xb, 0, none⟩ = some (.int .i64 op) ∧ w'.cell? ⟨xb, 1, none⟩ = some (.int .i64 a) ∧ w'.cell? ⟨xb, 2, none⟩ = some (.int .i64 b) ∧ w'.cell? ⟨xb, 3, none⟩ = some (.int .i64 c)) _ from ⟨(hU.cget 0 rfl 0).1, (hU.cget 0 rfl 1).1, (hU.cget 0 rfl 2).1, (hU.cget 0 rfl 3).1⟩)) (fun hHeld => ?_)
      try simp only [Act.put, List.setIfInBounds_toArray, List.set_cons_zero, List.set_cons_succ]
      clear hK
      refine lin_pair (by kernel_rfl) ?pthree ?pfour
      case' pthree =>
        intro K hK
        go_simp
        have hB := hU.box #[.int .i64 0, .int .i64 0, .int .i64 0] 74
        refine hK.out _ _ ((show (fun w' : World => w'.cell? ⟨xb, 0, none⟩ = some (.int .i64 op) ∧ w'.cell? ⟨xb, 1, none⟩ = some (.int .i64 a) ∧ w'.cell? ⟨xb, 2, none⟩ = some (.int .i64 b) ∧ w'.cell? ⟨xb, 3, none⟩ = some (.int .i64 c)) _ from ⟨(hB.cget 0 rfl 0).1, (hB.cget 0 rfl 1).1, (hB.cget 0 rfl 2).1, (hB.cget 0 rfl 3).1⟩)) (fun hHeld => ?_)
        try simp only [Act.put, List.setIfInBounds_toArray, List.set_cons_zero, List.set_cons_succ]
        clear hK hHeld hU; generalize u0.alloc (.cells #[.int .i64 0, .int .i64 0, .int .i64 0] 74) = u1 at *; generalize u0.heap.size = bb0 at *; have hHeld := (show (fun w' : World => w'.cell? ⟨xb, 0, none⟩ = some (.int .i64 op) ∧ w'.cell? ⟨xb, 1, none⟩ = some (.int .i64 a) ∧ w'.cell? ⟨xb, 2, none⟩ = some (.int .i64 b) ∧ w'.cell? ⟨xb, 3, none⟩ = some (.int .i64 c)) _ from ⟨(hB.cget 0 rfl 0).1, (hB.cget 0 rfl 1).1, (hB.cget 0 rfl 2).1, (hB.cget 0 rfl 3).1⟩)
        refine lin_sole (by kernel_rfl) (fun K hK => ?_)
        go_simp
        refine (Own.lift (fields_any op a b c _) hB _ rfl).mono ?_; rintro e u2 ⟨rfl, hC⟩
        refine hK.out _ _ ((show (fun w' : World => w'.cell? ⟨xb, 0, none⟩ = some (.int .i64 op) ∧ w'.cell? ⟨xb, 1, none⟩ = some (.int .i64 a) ∧ w'.cell? ⟨xb, 2, none⟩ = some (.int .i64 b) ∧ w'.cell? ⟨xb, 3, none⟩ = some (.int .i64 c)) _ from ⟨(hC.cget 0 rfl 0).1, (hC.cget 0 rfl 1).1, (hC.cget 0 rfl 2).1, (hC.cget 0 rfl 3).1⟩)) (fun hHeld => ?_)
        try simp only [Act.put, List.setIfInBounds_toArray, List.set_cons_zero, List.set_cons_succ]
        clear hK hB; have hHeld := (show (fun w' : World => w'.cell? ⟨xb, 0, none⟩ = some (.int .i64 op) ∧ w'.cell? ⟨xb, 1, none⟩ = some (.int .i64 a) ∧ w'.cell? ⟨xb, 2, none⟩ = some (.int .i64 b) ∧ w'.cell? ⟨xb, 3, none⟩ = some (.int .i64 c)) _ from ⟨(hC.cget 0 rfl 0).1, (hC.cget 0 rfl 1).1, (hC.cget 0 rfl 2).1, (hC.cget 0 rfl 3).1⟩)
        refine lin_take (v := ?_) (by kernel_rfl) (by kernel_rfl) (fun _ _ _ h => h) (Or.inl ⟨by rfl, ?_⟩) (by assumption) ?_; (rotate_left; (intro wS hSw; (try dsimp only at hSw); go_simp; (try with_reducible rfl)); rotate_left); simp only [Act.put, List.setIfInBounds_toArray, List.set_cons_zero, List.set_cons_succ]
        obtain ⟨d0, k0⟩ := hC.cget 1 rfl 0
        obtain ⟨d1, k1⟩ := hC.cget 1 rfl 1
        obtain ⟨d2, k2⟩ := hC.cget 1 rfl 2
        simp at d0 d1 d2
        have hF := (((hC.cset 1 rfl 0 (.int .i64 a)).cset 1 rfl 1 (.int .i64 b)).cset 1 rfl 2 (.int .i64 c))
        refine lin_sole (by kernel_rfl) (fun K hK => ?_)
        go_simp
        refine hK.out _ _ ((show (fun w' : World => w'.cell? ⟨xb, 0, none⟩ = some (.int .i64 op) ∧ w'.cell? ⟨xb, 1, none⟩ = some (.int .i64 a) ∧ w'.cell? ⟨xb, 2, none⟩ = some (.int .i64 b) ∧ w'.cell? ⟨xb, 3, none⟩ = some (.int .i64 c)) _ from ⟨(hF.cget 0 rfl 0).1, (hF.cget 0 rfl 1).1, (hF.cget 0 rfl 2).1, (hF.cget 0 rfl 3).1⟩)) (fun hHeld => ?_)
        try simp only [Act.put, List.setIfInBounds_toArray, List.set_cons_zero, List.set_cons_succ]
        clear hK
        refine lin_done (by kernel_rfl) ?_
      case' pfour =>
        intro K hK
        go_simp
        refine (Own.lift (fields_any op a b c _) hU _ rfl).mono ?_; rintro e u1 ⟨rfl, hB⟩
        refine hK.out _ _ ((show (fun w' : World => w'.cell? ⟨xb, 0, none⟩ = some (.int .i64 op) ∧ w'.cell? ⟨xb, 1, none⟩ = some (.int .i64 a) ∧ w'.cell? ⟨xb, 2, none⟩ = some (.int .i64 b) ∧ w'.cell? ⟨xb, 3, none⟩ = some (.int .i64 c)) _ from ⟨(hB.cget 0 rfl 0).1, (hB.cget 0 rfl 1).1, (hB.cget 0 rfl 2).1, (hB.cget 0 rfl 3).1⟩)) (fun hHeld => ?_)
        try simp only [Act.put, List.setIfInBounds_toArray, List.set_cons_zero, List.set_cons_succ]
        clear hK hU; have hHeld := (show (fun w' : World => w'.cell? ⟨xb, 0, none⟩ = some (.int .i64 op) ∧ w'.cell? ⟨xb, 1, none⟩ = some (.int .i64 a) ∧ w'.cell? ⟨xb, 2, none⟩ = some (.int .i64 b) ∧ w'.cell? ⟨xb, 3, none⟩ = some (.int .i64 c)) _ from ⟨(hB.cget 0 rfl 0).1, (hB.cget 0 rfl 1).1, (hB.cget 0 rfl 2).1, (hB.cget 0 rfl 3).1⟩)
        refine lin_sole (by kernel_rfl) (fun K hK => ?_)
        go_simp
        have hC := hB.box #[.int .i64 0, .int .i64 0, .int .i64 0] 74
        refine hK.out _ _ ((show (fun w' : World => w'.cell? ⟨xb, 0, none⟩ = some (.int .i64 op) ∧ w'.cell? ⟨xb, 1, none⟩ = some (.int .i64 a) ∧ w'.cell? ⟨xb, 2, none⟩ = some (.int .i64 b) ∧ w'.cell? ⟨xb, 3, none⟩ = some (.int .i64 c)) _ from ⟨(hC.cget 0 rfl 0).1, (hC.cget 0 rfl 1).1, (hC.cget 0 rfl 2).1, (hC.cget 0 rfl 3).1⟩)) (fun hHeld => ?_)
        try simp only [Act.put, List.setIfInBounds_toArray, List.set_cons_zero, List.set_cons_succ]
        clear hK hHeld hB; generalize u1.alloc (.cells #[.int .i64 0, .int .i64 0, .int .i64 0] 74) = u2 at *; generalize u1.heap.size = bb0 at *; have hHeld := (show (fun w' : World => w'.cell? ⟨xb, 0, none⟩ = some (.int .i64 op) ∧ w'.cell? ⟨xb, 1, none⟩ = some (.int .i64 a) ∧ w'.cell? ⟨xb, 2, none⟩ = some (.int .i64 b) ∧ w'.cell? ⟨xb, 3, none⟩ = some (.int .i64 c)) _ from ⟨(hC.cget 0 rfl 0).1, (hC.cget 0 rfl 1).1, (hC.cget 0 rfl 2).1, (hC.cget 0 rfl 3).1⟩)
        refine lin_take (v := ?_) (by kernel_rfl) (by kernel_rfl) (fun _ _ _ h => h) (Or.inl ⟨by rfl, ?_⟩) (by assumption) ?_; (rotate_left; (intro wS hSw; (try dsimp only at hSw); go_simp; (try with_reducible rfl)); rotate_left); simp only [Act.put, List.setIfInBounds_toArray, List.set_cons_zero, List.set_cons_succ]
        obtain ⟨d0, k0⟩ := hC.cget 1 rfl 0
        obtain ⟨d1, k1⟩ := hC.cget 1 rfl 1
        obtain ⟨d2, k2⟩ := hC.cget 1 rfl 2
        simp at d0 d1 d2
        have hF := (((hC.cset 1 rfl 0 (.int .i64 a)).cset 1 rfl 1 (.int .i64 b)).cset 1 rfl 2 (.int .i64 c))
        refine lin_sole (by kernel_rfl) (fun K hK => ?_)
        go_simp
        refine hK.out _ _ ((show (fun w' : World => w'.cell? ⟨xb, 0, none⟩ = some (.int .i64 op) ∧ w'.cell? ⟨xb, 1, none⟩ = some (.int .i64 a) ∧ w'.cell? ⟨xb, 2, none⟩ = some (.int .i64 b) ∧ w'.cell? ⟨xb, 3, none⟩ = some (.int .i64 c)) _ from ⟨(hF.cget 0 rfl 0).1, (hF.cget 0 rfl 1).1, (hF.cget 0 rfl 2).1, (hF.cget 0 rfl 3).1⟩)) (fun hHeld => ?_)
        try simp only [Act.put, List.setIfInBounds_toArray, List.set_cons_zero, List.set_cons_succ]
        clear hK
        refine lin_done (by kernel_rfl) ?_
    case' ptwo =>
      intro K hK
      go_simp
      have hB := hU.box #[.int .i64 0, .int .i64 0, .int .i64 0] 74
      refine hK.out _ _ ((show (fun w' : World => w'.cell? ⟨xb, 0, none⟩ = some (.int .i64 op) ∧ w'.cell? ⟨xb, 1, none⟩ = some (.int .i64 a) ∧ w'.cell? ⟨xb, 2, none⟩ = some (.int .i64 b) ∧ w'.cell? ⟨xb, 3, none⟩ = some (.int .i64 c)) _ from ⟨(hB.cget 0 rfl 0).1, (hB.cget 0 rfl 1).1, (hB.cget 0 rfl 2).1, (hB.cget 0 rfl 3).1⟩)) (fun hHeld => ?_)
      try simp only [Act.put, List.setIfInBounds_toArray, List.set_cons_zero, List.set_cons_succ]
      clear hK hHeld hU; generalize u0.alloc (.cells #[.int .i64 0, .int .i64 0, .int .i64 0] 74) = u1 at *; generalize u0.heap.size = bb0 at *; have hHeld := (show (fun w' : World => w'.cell? ⟨xb, 0, none⟩ = some (.int .i64 op) ∧ w'.cell? ⟨xb, 1, none⟩ = some (.int .i64 a) ∧ w'.cell? ⟨xb, 2, none⟩ = some (.int .i64 b) ∧ w'.cell? ⟨xb, 3, none⟩ = some (.int .i64 c)) _ from ⟨(hB.cget 0 rfl 0).1, (hB.cget 0 rfl 1).1, (hB.cget 0 rfl 2).1, (hB.cget 0 rfl 3).1⟩)
      refine lin_sole (by kernel_rfl) (fun K hK => ?_)
      go_simp
      refine (FM.out _).mono ?_; rintro e w1 ⟨rfl, rfl⟩
      refine hK.out _ _ ((show (fun w' : World => w'.cell? ⟨xb, 0, none⟩ = some (.int .i64 op) ∧ w'.cell? ⟨xb, 1, none⟩ = some (.int .i64 a) ∧ w'.cell? ⟨xb, 2, none⟩ = some (.int .i64 b) ∧ w'.cell? ⟨xb, 3, none⟩ = some (.int .i64 c)) _ from ⟨(hB.cget 0 rfl 0).1, (hB.cget 0 rfl 1).1, (hB.cget 0 rfl 2).1, (hB.cget 0 rfl 3).1⟩)) (fun hHeld => ?_)
      try simp only [Act.put, List.setIfInBounds_toArray, List.set_cons_zero, List.set_cons_succ]
      clear hK
      refine lin_sole (by kernel_rfl) (fun K hK => ?_)
      go_simp
      refine (Own.lift (fields_any op a b c _) hB _ rfl).mono ?_; rintro e u2 ⟨rfl, hC⟩
      refine hK.out _ _ ((show (fun w' : World => w'.cell? ⟨xb, 0, none⟩ = some (.int .i64 op) ∧ w'.cell? ⟨xb, 1, none⟩ = some (.int .i64 a) ∧ w'.cell? ⟨xb, 2, none⟩ = some (.int .i64 b) ∧ w'.cell? ⟨xb, 3, none⟩ = some (.int .i64 c)) _ from ⟨(hC.cget 0 rfl 0).1, (hC.cget 0 rfl 1).1, (hC.cget 0 rfl 2).1, (hC.cget 0 rfl 3).1⟩)) (fun hHeld => ?_)
      try simp only [Act.put, List.setIfInBounds_toArray, List.set_cons_zero, List.set_cons_succ]
      clear hK hB; have hHeld := (show (fun w' : World => w'.cell? ⟨xb, 0, none⟩ = some (.int .i64 op) ∧ w'.cell? ⟨xb, 1, none⟩ = some (.int .i64 a) ∧ w'.cell? ⟨xb, 2, none⟩ = some (.int .i64 b) ∧ w'.cell? ⟨xb, 3, none⟩ = some (.int .i64 c)) _ from ⟨(hC.cget 0 rfl 0).1, (hC.cget 0 rfl 1).1, (hC.cget 0 rfl 2).1, (hC.cget 0 rfl 3).1⟩)
      refine lin_take (v := ?_) (by kernel_rfl) (by kernel_rfl) (fun _ _ _ h => h) (Or.inl ⟨by rfl, ?_⟩) (by assumption) ?_; (rotate_left; (intro wS hSw; (try dsimp only at hSw); go_simp; (try with_reducible rfl)); rotate_left); simp only [Act.put, List.setIfInBounds_toArray, List.set_cons_zero, List.set_cons_succ]
      obtain ⟨d0, k0⟩ := hC.cget 1 rfl 0
      obtain ⟨d1, k1⟩ := hC.cget 1 rfl 1
      obtain ⟨d2, k2⟩ := hC.cget 1 rfl 2
      simp at d0 d1 d2
      have hF := (((hC.cset 1 rfl 0 (.int .i64 a)).cset 1 rfl 1 (.int .i64 b)).cset 1 rfl 2 (.int .i64 c))
      refine lin_sole (by kernel_rfl) (fun K hK => ?_)
      go_simp
      refine hK.out _ _ ((show (fun w' : World => w'.cell? ⟨xb, 0, none⟩ = some (.int .i64 op) ∧ w'.cell? ⟨xb, 1, none⟩ = some (.int .i64 a) ∧ w'.cell? ⟨xb, 2, none⟩ = some (.int .i64 b) ∧ w'.cell? ⟨xb, 3, none⟩ = some (.int .i64 c)) _ from ⟨(hF.cget 0 rfl 0).1, (hF.cget 0 rfl 1).1, (hF.cget 0 rfl 2).1, (hF.cget 0 rfl 3).1⟩)) (fun hHeld => ?_)
      try simp only [Act.put, List.setIfInBounds_toArray, List.set_cons_zero, List.set_cons_succ]
      clear hK
      refine lin_done (by kernel_rfl) ?_
    all_goals
      go_wp2_with fail
      go_meet
      exact ⟨_, rfl, rfl, hF⟩
  case rest =>
    clear hU
    obtain ⟨B, rfl, rfl, hO⟩ := hcut
    have x0 := (hO.cget 0 rfl 0).1
    simp at x0
    go_wp2_with (first | (go_at_call 52; refine (put_as [] op 1 _ (by simp) 1 (by decide)).mono ?_; rintro e v0 ⟨s0, rfl, q0, l0, hb0⟩))
    have hO0 := hO.grow hb0
    replace l0 : s0.length = 1 := by simpa using l0
    clear hO hb0 x0
    refine wp_loop_rounds 2 ?_
    rw [rounds_succ]
    go_upto_region 9 with fail
    have hO0' := hO0.drewN 1
    have hSS := (show (fun w' : World => w'.cell? ⟨B, 0, none⟩ = some (.int .i64 a)) v0.drew from (hO0'.cget 1 rfl 0).1)
    refine lin_start (S := (fun w' : World => w'.cell? ⟨B, 0, none⟩ = some (.int .i64 a))) rfl 10 rfl hSS ?_
    simp only [numbered, Nat.zero_add, Nat.reduceAdd]
    refine lin_take (v := ?_) (by kernel_rfl) (by kernel_rfl) (fun _ _ _ h => h) (Or.inl ⟨by rfl, ?_⟩) (by assumption) ?_; (rotate_left; (intro wS hSw; (try dsimp only at hSw); go_simp; (try with_reducible rfl)); rotate_left); simp only [Act.put, List.setIfInBounds_toArray, List.set_cons_zero, List.set_cons_succ]
    refine lin_take (v := ?_) (by kernel_rfl) (by kernel_rfl) (fun _ _ _ h => h) (Or.inl ⟨by rfl, ?_⟩) (by assumption) ?_; (rotate_left; (intro wS hSw; (try dsimp only at hSw); go_simp; (try with_reducible rfl)); rotate_left); simp only [Act.put, List.setIfInBounds_toArray, List.set_cons_zero, List.set_cons_succ]
    refine lin_take (v := ?_) (by kernel_rfl) (by kernel_rfl) (fun _ _ _ h => h) (Or.inl ⟨by rfl, ?_⟩) (by assumption) ?_; (rotate_left; (intro wS hSw; (try dsimp only at hSw); go_simp; (try with_reducible rfl)); rotate_left); simp only [Act.put, List.setIfInBounds_toArray, List.set_cons_zero, List.set_cons_succ]
    refine lin_take (v := ?_) (by kernel_rfl) (by kernel_rfl) (fun _ _ _ h => h) (Or.inl ⟨by rfl, ?_⟩) (by assumption) ?_; (rotate_left; (intro wS hSw; (try dsimp only at hSw); go_simp; (try with_reducible rfl)); rotate_left); simp only [Act.put, List.setIfInBounds_toArray, List.set_cons_zero, List.set_cons_succ]
    refine lin_take (v := ?_) (by kernel_rfl) (by kernel_rfl) (fun _ _ _ h => h) (Or.inl ⟨by rfl, ?_⟩) (by assumption) ?_; (rotate_left; (intro wS hSw; (try dsimp only at hSw); go_simp; (try with_reducible rfl)); rotate_left); simp only [Act.put, List.setIfInBounds_toArray, List.set_cons_zero, List.set_cons_succ]
    refine lin_take (v := ?_) (by kernel_rfl) (by kernel_rfl) (fun _ _ _ h => h) (Or.inl ⟨by rfl, ?_⟩) (by assumption) ?_; (rotate_left; (intro wS hSw; (try dsimp only at hSw); go_simp; (try with_reducible rfl)); rotate_left); simp only [Act.put, List.setIfInBounds_toArray, List.set_cons_zero, List.set_cons_succ]
    refine lin_take (v := ?_) (by kernel_rfl) (by kernel_rfl) (fun _ _ _ h => h) (Or.inl ⟨by rfl, ?_⟩) (by assumption) ?_; (rotate_left; (intro wS hSw; (try dsimp only at hSw); go_simp; (try with_reducible rfl)); rotate_left); simp only [Act.put, List.setIfInBounds_toArray, List.set_cons_zero, List.set_cons_succ]
    refine lin_sole (by kernel_rfl) (fun K hK => ?_)
    go_simp
    refine (wide_f _).mono ?_; rintro e w1 ⟨rfl, rfl⟩
    refine hK.out _ _ hSS (fun hHeld => ?_)
    try simp only [Act.put, List.setIfInBounds_toArray, List.set_cons_zero, List.set_cons_succ]
    refine lin_sole (by kernel_rfl) (fun K hK => ?_)
    go_simp
    refine (put_as s0 a 1 _ (by omega) 1 (by decide)).mono ?_; rintro e v1 ⟨s1, rfl, q1, l1, hb1⟩
    have hO1 := hO0'.grow hb1
    refine hK.out _ _ (hO1.cget 1 rfl 0).1 (fun hHeld => ?_)
    try simp only [Act.put, List.setIfInBounds_toArray, List.set_cons_zero, List.set_cons_succ]
    refine lin_take (v := ?_) (by kernel_rfl) (by kernel_rfl) (fun _ _ _ h => h) (Or.inl ⟨by rfl, ?_⟩) (by assumption) ?_; (rotate_left; (intro wS hSw; (try dsimp only at hSw); go_simp; (try with_reducible rfl)); rotate_left); simp only [Act.put, List.setIfInBounds_toArray, List.set_cons_zero, List.set_cons_succ]
    refine lin_done (by kernel_rfl) ?_
    clear hSS hO0 hO0' hb1
    replace l1 : s1.length = 2 := by omega
    go_wp2_with fail
    rw [rounds_succ]
    go_wp2_with fail
    refine wp_loop_rounds 3 ?_
    repeat (rw [rounds_succ]; go_wp2_with fail)
    have hp : putI op a b c = s1 ++ [0, 0] := by
      unfold putI
      rw [hFo.out]
      simp [putF, wideL, low_len, q1.out, q0.out]
    go_ret2
    exact ⟨by rw [hp]; simp [results, ba_app], hO1.below⟩
theorem put_z (op a b c : Int) (hF : formL op = []) (h0 : checkI op a b c = 0) (w : World) : Calls Try.prog 21 #[.agg #[.int .i64 op, .int .i64 a, .int .i64 b, .int .i64 c]] w fun e w' => e = .returned (.tuple #[.string ⟨(putI op a b c).toArray⟩, .int .i64 0]) ∧ Below w.heap.size w w' := by
  have hO := (Own.nil (Below.refl _ w)).box #[.int .i64 op, .int .i64 a, .int .i64 b, .int .i64 c] 30
  have C := Lib.hid (Own.lift (check_any op a b c _) hO _ rfl)
  rw [h0] at C
  have FM := fun w1 => form_any op w1
  rw [hF] at FM
  replace FM := Lib.hid FM
  have hFo := Lib.hid hF
  clear hF hO h0
  go_enter Try.func21, Try.ntmps21
  go_upto_region 4 with (first | (go_at_call 24; refine C.out.mono ?_; rintro e u ⟨rfl, hO⟩))
  generalize w.heap.size = xb at *
  have hU : Own w u.drew _ := hO.drewN 1
  clear hO C
  go_cut [5, 6] from 14 to 18 (fun f l wx => ∃ B : Nat, f = .string ⟨([] : List UInt8).toArray⟩ ∧ l = .pointer (some ⟨B, 0, none⟩) ∧ Own w wx [cellsA xb #[.int .i64 op, .int .i64 a, .int .i64 b, .int .i64 c] 30, cellsA B #[.int .i64 a, .int .i64 b, .int .i64 c] 74])
  case first =>
    refine lin_start (S := (fun w' : World => w'.cell? ⟨xb, 0, none⟩ = some (.int .i64 op) ∧ w'.cell? ⟨xb, 1, none⟩ = some (.int .i64 a) ∧ w'.cell? ⟨xb, 2, none⟩ = some (.int .i64 b) ∧ w'.cell? ⟨xb, 3, none⟩ = some (.int .i64 c))) rfl 8 rfl ((show (fun w' : World => w'.cell? ⟨xb, 0, none⟩ = some (.int .i64 op) ∧ w'.cell? ⟨xb, 1, none⟩ = some (.int .i64 a) ∧ w'.cell? ⟨xb, 2, none⟩ = some (.int .i64 b) ∧ w'.cell? ⟨xb, 3, none⟩ = some (.int .i64 c)) _ from ⟨(hU.cget 0 rfl 0).1, (hU.cget 0 rfl 1).1, (hU.cget 0 rfl 2).1, (hU.cget 0 rfl 3).1⟩)) ?_
    simp only [numbered, Nat.zero_add, Nat.reduceAdd]
    generalize u.drew = u0 at *
    have hHeld := (show (fun w' : World => w'.cell? ⟨xb, 0, none⟩ = some (.int .i64 op) ∧ w'.cell? ⟨xb, 1, none⟩ = some (.int .i64 a) ∧ w'.cell? ⟨xb, 2, none⟩ = some (.int .i64 b) ∧ w'.cell? ⟨xb, 3, none⟩ = some (.int .i64 c)) _ from ⟨(hU.cget 0 rfl 0).1, (hU.cget 0 rfl 1).1, (hU.cget 0 rfl 2).1, (hU.cget 0 rfl 3).1⟩)
    refine lin_take (v := ?_) (by kernel_rfl) (by kernel_rfl) (fun _ _ _ h => h) (Or.inl ⟨by rfl, ?_⟩) (by assumption) ?_; (rotate_left; (intro wS hSw; (try dsimp only at hSw); go_simp; (try with_reducible rfl)); rotate_left); simp only [Act.put, List.setIfInBounds_toArray, List.set_cons_zero, List.set_cons_succ]
    refine lin_take (v := ?_) (by kernel_rfl) (by kernel_rfl) (fun _ _ _ h => h) (Or.inl ⟨by rfl, ?_⟩) (by assumption) ?_; (rotate_left; (intro wS hSw; (try dsimp only at hSw); go_simp; (try with_reducible rfl)); rotate_left); simp only [Act.put, List.setIfInBounds_toArray, List.set_cons_zero, List.set_cons_succ]
    refine lin_rot ?_; simp only [List.cons_append, List.nil_append]
    refine lin_take (v := ?_) (by kernel_rfl) (by kernel_rfl) (fun _ _ _ h => h) (Or.inl ⟨by rfl, ?_⟩) (by assumption) ?_; (rotate_left; (intro wS hSw; (try dsimp only at hSw); go_simp; (try with_reducible rfl)); rotate_left); simp only [Act.put, List.setIfInBounds_toArray, List.set_cons_zero, List.set_cons_succ]
    refine lin_rot ?_; simp only [List.cons_append, List.nil_append]
    refine lin_rot ?_; simp only [List.cons_append, List.nil_append]
    refine lin_rot ?_; simp only [List.cons_append, List.nil_append]
    refine lin_rot ?_; simp only [List.cons_append, List.nil_append]
    refine lin_rot ?_; simp only [List.cons_append, List.nil_append]
    refine lin_rot ?_; simp only [List.cons_append, List.nil_append]
    refine lin_rot ?_; simp only [List.cons_append, List.nil_append]
    refine lin_rot ?_; simp only [List.cons_append, List.nil_append]
    refine lin_rot ?_; simp only [List.cons_append, List.nil_append]
    refine lin_rot ?_; simp only [List.cons_append, List.nil_append]
    refine lin_swap ?_
    refine lin_rot ?_; simp only [List.cons_append, List.nil_append]
    refine lin_rot ?_; simp only [List.cons_append, List.nil_append]
    refine lin_rot ?_; simp only [List.cons_append, List.nil_append]
    refine lin_rot ?_; simp only [List.cons_append, List.nil_append]
    refine lin_pair (by kernel_rfl) ?pone ?ptwo
    case' pone =>
      intro K hK
      go_simp
      refine (FM.out _).mono ?_; rintro e w1 ⟨rfl, rfl⟩
      refine hK.out _ _ ((show (fun w' : World => w'.cell? ⟨xb, 0, none⟩ = some (.int .i64 op) ∧ w'.cell? ⟨xb, 1, none⟩ = some (.int .i64 a) ∧ w'.cell? ⟨xb, 2, none⟩ = some (.int .i64 b) ∧ w'.cell? ⟨xb, 3, none⟩ = some (.int .i64 c)) _ from ⟨(hU.cget 0 rfl 0).1, (hU.cget 0 rfl 1).1, (hU.cget 0 rfl 2).1, (hU.cget 0 rfl 3).1⟩)) (fun hHeld => ?_)
      try simp only [Act.put, List.setIfInBounds_toArray, List.set_cons_zero, List.set_cons_succ]
      clear hK
      refine lin_pair (by kernel_rfl) ?pthree ?pfour
      case' pthree =>
        intro K hK
        go_simp
        have hB := hU.box #[.int .i64 0, .int .i64 0, .int .i64 0] 74
        refine hK.out _ _ ((show (fun w' : World => w'.cell? ⟨xb, 0, none⟩ = some (.int .i64 op) ∧ w'.cell? ⟨xb, 1, none⟩ = some (.int .i64 a) ∧ w'.cell? ⟨xb, 2, none⟩ = some (.int .i64 b) ∧ w'.cell? ⟨xb, 3, none⟩ = some (.int .i64 c)) _ from ⟨(hB.cget 0 rfl 0).1, (hB.cget 0 rfl 1).1, (hB.cget 0 rfl 2).1, (hB.cget 0 rfl 3).1⟩)) (fun hHeld => ?_)
        try simp only [Act.put, List.setIfInBounds_toArray, List.set_cons_zero, List.set_cons_succ]
        clear hK hHeld hU; generalize u0.alloc (.cells #[.int .i64 0, .int .i64 0, .int .i64 0] 74) = u1 at *; generalize u0.heap.size = bb0 at *; have hHeld := (show (fun w' : World => w'.cell? ⟨xb, 0, none⟩ = some (.int .i64 op) ∧ w'.cell? ⟨xb, 1, none⟩ = some (.int .i64 a) ∧ w'.cell? ⟨xb, 2, none⟩ = some (.int .i64 b) ∧ w'.cell? ⟨xb, 3, none⟩ = some (.int .i64 c)) _ from ⟨(hB.cget 0 rfl 0).1, (hB.cget 0 rfl 1).1, (hB.cget 0 rfl 2).1, (hB.cget 0 rfl 3).1⟩)
        refine lin_sole (by kernel_rfl) (fun K hK => ?_)
        go_simp
        refine (Own.lift (fields_any op a b c _) hB _ rfl).mono ?_; rintro e u2 ⟨rfl, hC⟩
        refine hK.out _ _ ((show (fun w' : World => w'.cell? ⟨xb, 0, none⟩ = some (.int .i64 op) ∧ w'.cell? ⟨xb, 1, none⟩ = some (.int .i64 a) ∧ w'.cell? ⟨xb, 2, none⟩ = some (.int .i64 b) ∧ w'.cell? ⟨xb, 3, none⟩ = some (.int .i64 c)) _ from ⟨(hC.cget 0 rfl 0).1, (hC.cget 0 rfl 1).1, (hC.cget 0 rfl 2).1, (hC.cget 0 rfl 3).1⟩)) (fun hHeld => ?_)
        try simp only [Act.put, List.setIfInBounds_toArray, List.set_cons_zero, List.set_cons_succ]
        clear hK hB; have hHeld := (show (fun w' : World => w'.cell? ⟨xb, 0, none⟩ = some (.int .i64 op) ∧ w'.cell? ⟨xb, 1, none⟩ = some (.int .i64 a) ∧ w'.cell? ⟨xb, 2, none⟩ = some (.int .i64 b) ∧ w'.cell? ⟨xb, 3, none⟩ = some (.int .i64 c)) _ from ⟨(hC.cget 0 rfl 0).1, (hC.cget 0 rfl 1).1, (hC.cget 0 rfl 2).1, (hC.cget 0 rfl 3).1⟩)
        refine lin_take (v := ?_) (by kernel_rfl) (by kernel_rfl) (fun _ _ _ h => h) (Or.inl ⟨by rfl, ?_⟩) (by assumption) ?_; (rotate_left; (intro wS hSw; (try dsimp only at hSw); go_simp; (try with_reducible rfl)); rotate_left); simp only [Act.put, List.setIfInBounds_toArray, List.set_cons_zero, List.set_cons_succ]
        obtain ⟨d0, k0⟩ := hC.cget 1 rfl 0
        obtain ⟨d1, k1⟩ := hC.cget 1 rfl 1
        obtain ⟨d2, k2⟩ := hC.cget 1 rfl 2
        simp at d0 d1 d2
        have hF := (((hC.cset 1 rfl 0 (.int .i64 a)).cset 1 rfl 1 (.int .i64 b)).cset 1 rfl 2 (.int .i64 c))
        refine lin_sole (by kernel_rfl) (fun K hK => ?_)
        go_simp
        refine hK.out _ _ ((show (fun w' : World => w'.cell? ⟨xb, 0, none⟩ = some (.int .i64 op) ∧ w'.cell? ⟨xb, 1, none⟩ = some (.int .i64 a) ∧ w'.cell? ⟨xb, 2, none⟩ = some (.int .i64 b) ∧ w'.cell? ⟨xb, 3, none⟩ = some (.int .i64 c)) _ from ⟨(hF.cget 0 rfl 0).1, (hF.cget 0 rfl 1).1, (hF.cget 0 rfl 2).1, (hF.cget 0 rfl 3).1⟩)) (fun hHeld => ?_)
        try simp only [Act.put, List.setIfInBounds_toArray, List.set_cons_zero, List.set_cons_succ]
        clear hK
        refine lin_done (by kernel_rfl) ?_
      case' pfour =>
        intro K hK
        go_simp
        refine (Own.lift (fields_any op a b c _) hU _ rfl).mono ?_; rintro e u1 ⟨rfl, hB⟩
        refine hK.out _ _ ((show (fun w' : World => w'.cell? ⟨xb, 0, none⟩ = some (.int .i64 op) ∧ w'.cell? ⟨xb, 1, none⟩ = some (.int .i64 a) ∧ w'.cell? ⟨xb, 2, none⟩ = some (.int .i64 b) ∧ w'.cell? ⟨xb, 3, none⟩ = some (.int .i64 c)) _ from ⟨(hB.cget 0 rfl 0).1, (hB.cget 0 rfl 1).1, (hB.cget 0 rfl 2).1, (hB.cget 0 rfl 3).1⟩)) (fun hHeld => ?_)
        try simp only [Act.put, List.setIfInBounds_toArray, List.set_cons_zero, List.set_cons_succ]
        clear hK hU; have hHeld := (show (fun w' : World => w'.cell? ⟨xb, 0, none⟩ = some (.int .i64 op) ∧ w'.cell? ⟨xb, 1, none⟩ = some (.int .i64 a) ∧ w'.cell? ⟨xb, 2, none⟩ = some (.int .i64 b) ∧ w'.cell? ⟨xb, 3, none⟩ = some (.int .i64 c)) _ from ⟨(hB.cget 0 rfl 0).1, (hB.cget 0 rfl 1).1, (hB.cget 0 rfl 2).1, (hB.cget 0 rfl 3).1⟩)
        refine lin_sole (by kernel_rfl) (fun K hK => ?_)
        go_simp
        have hC := hB.box #[.int .i64 0, .int .i64 0, .int .i64 0] 74
        refine hK.out _ _ ((show (fun w' : World => w'.cell? ⟨xb, 0, none⟩ = some (.int .i64 op) ∧ w'.cell? ⟨xb, 1, none⟩ = some (.int .i64 a) ∧ w'.cell? ⟨xb, 2, none⟩ = some (.int .i64 b) ∧ w'.cell? ⟨xb, 3, none⟩ = some (.int .i64 c)) _ from ⟨(hC.cget 0 rfl 0).1, (hC.cget 0 rfl 1).1, (hC.cget 0 rfl 2).1, (hC.cget 0 rfl 3).1⟩)) (fun hHeld => ?_)
        try simp only [Act.put, List.setIfInBounds_toArray, List.set_cons_zero, List.set_cons_succ]
        clear hK hHeld hB; generalize u1.alloc (.cells #[.int .i64 0, .int .i64 0, .int .i64 0] 74) = u2 at *; generalize u1.heap.size = bb0 at *; have hHeld := (show (fun w' : World => w'.cell? ⟨xb, 0, none⟩ = some (.int .i64 op) ∧ w'.cell? ⟨xb, 1, none⟩ = some (.int .i64 a) ∧ w'.cell? ⟨xb, 2, none⟩ = some (.int .i64 b) ∧ w'.cell? ⟨xb, 3, none⟩ = some (.int .i64 c)) _ from ⟨(hC.cget 0 rfl 0).1, (hC.cget 0 rfl 1).1, (hC.cget 0 rfl 2).1, (hC.cget 0 rfl 3).1⟩)
        refine lin_take (v := ?_) (by kernel_rfl) (by kernel_rfl) (fun _ _ _ h => h) (Or.inl ⟨by rfl, ?_⟩) (by assumption) ?_; (rotate_left; (intro wS hSw; (try dsimp only at hSw); go_simp; (try with_reducible rfl)); rotate_left); simp only [Act.put, List.setIfInBounds_toArray, List.set_cons_zero, List.set_cons_succ]
        obtain ⟨d0, k0⟩ := hC.cget 1 rfl 0
        obtain ⟨d1, k1⟩ := hC.cget 1 rfl 1
        obtain ⟨d2, k2⟩ := hC.cget 1 rfl 2
        simp at d0 d1 d2
        have hF := (((hC.cset 1 rfl 0 (.int .i64 a)).cset 1 rfl 1 (.int .i64 b)).cset 1 rfl 2 (.int .i64 c))
        refine lin_sole (by kernel_rfl) (fun K hK => ?_)
        go_simp
        refine hK.out _ _ ((show (fun w' : World => w'.cell? ⟨xb, 0, none⟩ = some (.int .i64 op) ∧ w'.cell? ⟨xb, 1, none⟩ = some (.int .i64 a) ∧ w'.cell? ⟨xb, 2, none⟩ = some (.int .i64 b) ∧ w'.cell? ⟨xb, 3, none⟩ = some (.int .i64 c)) _ from ⟨(hF.cget 0 rfl 0).1, (hF.cget 0 rfl 1).1, (hF.cget 0 rfl 2).1, (hF.cget 0 rfl 3).1⟩)) (fun hHeld => ?_)
        try simp only [Act.put, List.setIfInBounds_toArray, List.set_cons_zero, List.set_cons_succ]
        clear hK
        refine lin_done (by kernel_rfl) ?_
    case' ptwo =>
      intro K hK
      go_simp
      have hB := hU.box #[.int .i64 0, .int .i64 0, .int .i64 0] 74
      refine hK.out _ _ ((show (fun w' : World => w'.cell? ⟨xb, 0, none⟩ = some (.int .i64 op) ∧ w'.cell? ⟨xb, 1, none⟩ = some (.int .i64 a) ∧ w'.cell? ⟨xb, 2, none⟩ = some (.int .i64 b) ∧ w'.cell? ⟨xb, 3, none⟩ = some (.int .i64 c)) _ from ⟨(hB.cget 0 rfl 0).1, (hB.cget 0 rfl 1).1, (hB.cget 0 rfl 2).1, (hB.cget 0 rfl 3).1⟩)) (fun hHeld => ?_)
      try simp only [Act.put, List.setIfInBounds_toArray, List.set_cons_zero, List.set_cons_succ]
      clear hK hHeld hU; generalize u0.alloc (.cells #[.int .i64 0, .int .i64 0, .int .i64 0] 74) = u1 at *; generalize u0.heap.size = bb0 at *; have hHeld := (show (fun w' : World => w'.cell? ⟨xb, 0, none⟩ = some (.int .i64 op) ∧ w'.cell? ⟨xb, 1, none⟩ = some (.int .i64 a) ∧ w'.cell? ⟨xb, 2, none⟩ = some (.int .i64 b) ∧ w'.cell? ⟨xb, 3, none⟩ = some (.int .i64 c)) _ from ⟨(hB.cget 0 rfl 0).1, (hB.cget 0 rfl 1).1, (hB.cget 0 rfl 2).1, (hB.cget 0 rfl 3).1⟩)
      refine lin_sole (by kernel_rfl) (fun K hK => ?_)
      go_simp
      refine (FM.out _).mono ?_; rintro e w1 ⟨rfl, rfl⟩
      refine hK.out _ _ ((show (fun w' : World => w'.cell? ⟨xb, 0, none⟩ = some (.int .i64 op) ∧ w'.cell? ⟨xb, 1, none⟩ = some (.int .i64 a) ∧ w'.cell? ⟨xb, 2, none⟩ = some (.int .i64 b) ∧ w'.cell? ⟨xb, 3, none⟩ = some (.int .i64 c)) _ from ⟨(hB.cget 0 rfl 0).1, (hB.cget 0 rfl 1).1, (hB.cget 0 rfl 2).1, (hB.cget 0 rfl 3).1⟩)) (fun hHeld => ?_)
      try simp only [Act.put, List.setIfInBounds_toArray, List.set_cons_zero, List.set_cons_succ]
      clear hK
      refine lin_sole (by kernel_rfl) (fun K hK => ?_)
      go_simp
      refine (Own.lift (fields_any op a b c _) hB _ rfl).mono ?_; rintro e u2 ⟨rfl, hC⟩
      refine hK.out _ _ ((show (fun w' : World => w'.cell? ⟨xb, 0, none⟩ = some (.int .i64 op) ∧ w'.cell? ⟨xb, 1, none⟩ = some (.int .i64 a) ∧ w'.cell? ⟨xb, 2, none⟩ = some (.int .i64 b) ∧ w'.cell? ⟨xb, 3, none⟩ = some (.int .i64 c)) _ from ⟨(hC.cget 0 rfl 0).1, (hC.cget 0 rfl 1).1, (hC.cget 0 rfl 2).1, (hC.cget 0 rfl 3).1⟩)) (fun hHeld => ?_)
      try simp only [Act.put, List.setIfInBounds_toArray, List.set_cons_zero, List.set_cons_succ]
      clear hK hB; have hHeld := (show (fun w' : World => w'.cell? ⟨xb, 0, none⟩ = some (.int .i64 op) ∧ w'.cell? ⟨xb, 1, none⟩ = some (.int .i64 a) ∧ w'.cell? ⟨xb, 2, none⟩ = some (.int .i64 b) ∧ w'.cell? ⟨xb, 3, none⟩ = some (.int .i64 c)) _ from ⟨(hC.cget 0 rfl 0).1, (hC.cget 0 rfl 1).1, (hC.cget 0 rfl 2).1, (hC.cget 0 rfl 3).1⟩)
      refine lin_take (v := ?_) (by kernel_rfl) (by kernel_rfl) (fun _ _ _ h => h) (Or.inl ⟨by rfl, ?_⟩) (by assumption) ?_; (rotate_left; (intro wS hSw; (try dsimp only at hSw); go_simp; (try with_reducible rfl)); rotate_left); simp only [Act.put, List.setIfInBounds_toArray, List.set_cons_zero, List.set_cons_succ]
      obtain ⟨d0, k0⟩ := hC.cget 1 rfl 0
      obtain ⟨d1, k1⟩ := hC.cget 1 rfl 1
      obtain ⟨d2, k2⟩ := hC.cget 1 rfl 2
      simp at d0 d1 d2
      have hF := (((hC.cset 1 rfl 0 (.int .i64 a)).cset 1 rfl 1 (.int .i64 b)).cset 1 rfl 2 (.int .i64 c))
      refine lin_sole (by kernel_rfl) (fun K hK => ?_)
      go_simp
      refine hK.out _ _ ((show (fun w' : World => w'.cell? ⟨xb, 0, none⟩ = some (.int .i64 op) ∧ w'.cell? ⟨xb, 1, none⟩ = some (.int .i64 a) ∧ w'.cell? ⟨xb, 2, none⟩ = some (.int .i64 b) ∧ w'.cell? ⟨xb, 3, none⟩ = some (.int .i64 c)) _ from ⟨(hF.cget 0 rfl 0).1, (hF.cget 0 rfl 1).1, (hF.cget 0 rfl 2).1, (hF.cget 0 rfl 3).1⟩)) (fun hHeld => ?_)
      try simp only [Act.put, List.setIfInBounds_toArray, List.set_cons_zero, List.set_cons_succ]
      clear hK
      refine lin_done (by kernel_rfl) ?_
    all_goals
      go_wp2_with fail
      go_meet
      exact ⟨_, rfl, rfl, hF⟩
  case rest =>
    clear hU
    obtain ⟨B, rfl, rfl, hO⟩ := hcut
    have x0 := (hO.cget 0 rfl 0).1
    simp at x0
    go_wp2_with (first | (go_at_call 52; refine (put_as [] op 1 _ (by simp) 1 (by decide)).mono ?_; rintro e v0 ⟨s0, rfl, q0, l0, hb0⟩))
    have hO0 := hO.grow hb0
    replace l0 : s0.length = 1 := by simpa using l0
    clear hO hb0 x0
    refine wp_loop_rounds 1 ?_
    rw [rounds_succ]
    go_wp2_with fail
    refine wp_loop_rounds 4 ?_
    repeat (rw [rounds_succ]; go_wp2_with fail)
    have hp : putI op a b c = s0 ++ [0, 0, 0] := by
      unfold putI
      rw [hFo.out]
      simp [putF, wideL, low_len, q0.out]
    go_ret2
    exact ⟨by rw [hp]; simp [results, ba_app], hO0.below⟩
theorem put_ok (op a b c : Int) (h0 : checkI op a b c = 0) (w : World) : Calls Try.prog 21 #[.agg #[.int .i64 op, .int .i64 a, .int .i64 b, .int .i64 c]] w fun e w' => e = .returned (.tuple #[.string ⟨(putI op a b c).toArray⟩, .int .i64 0]) ∧ Below w.heap.size w w' := by
  rcases form_cases op with h | h | h | h | h | h | h | h
  · exact put_rrr op a b c h.1 h0 w
  · exact put_rr op a b c h.1 h0 w
  · exact put_r op a b c h.1 h0 w
  · exact put_rn op a b c h.1 h0 w
  · exact put_rt op a b c h.1 h0 w
  · exact put_t op a b c h.1 h0 w
  · exact put_f op a b c h.1 h0 w
  · exact put_z op a b c h.1 h0 w
end Go.Proofs.Ytboiogjklecpaaa
