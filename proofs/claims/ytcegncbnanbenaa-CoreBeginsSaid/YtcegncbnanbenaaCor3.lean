/- Package core: the getters, what memory answers, serial numbers, how a run ends, its instructions. -/
import Derived.Test.YtcegncbnanbenaaCor2
set_option linter.unusedVariables false
set_option linter.unusedSimpArgs false
namespace Go.Proofs.Ytcegncbnanbenaa
open Go.RowKit
set_option maxRecDepth 100000
set_option maxHeartbeats 2000000
theorem cwords {w : World} {cb : Nat} {v : Value} (h : w.cell? ⟨cb, 8, none⟩ = some v) : Calls Try.prog 18 #[.pointer (some ⟨cb, 0, none⟩)] w fun e w' => e = .returned v ∧ w = w' := by
  go_enter Try.func18, Try.ntmps18
  go_wp2
  go_ret
  exact ⟨rfl, rfl⟩
theorem cwords_nil (w : World) : Calls Try.prog 18 #[.pointer none] w fun e w' => e = .returned (.pointer none) ∧ w = w' := by
  go_enter Try.func18, Try.ntmps18
  go_wp2
  go_ret
  exact ⟨rfl, rfl⟩
theorem cdata {w : World} {cb : Nat} {v : Value} (h : w.cell? ⟨cb, 9, none⟩ = some v) : Calls Try.prog 12 #[.pointer (some ⟨cb, 0, none⟩)] w fun e w' => e = .returned v ∧ w = w' := by
  go_enter Try.func12, Try.ntmps12
  go_wp2
  go_ret
  exact ⟨rfl, rfl⟩
theorem cdata_nil (w : World) : Calls Try.prog 12 #[.pointer none] w fun e w' => e = .returned (.pointer none) ∧ w = w' := by
  go_enter Try.func12, Try.ntmps12
  go_wp2
  go_ret
  exact ⟨rfl, rfl⟩
theorem cframes {w : World} {cb : Nat} {v : Value} (h : w.cell? ⟨cb, 10, none⟩ = some v) : Calls Try.prog 19 #[.pointer (some ⟨cb, 0, none⟩)] w fun e w' => e = .returned v ∧ w = w' := by
  go_enter Try.func19, Try.ntmps19
  go_wp2
  go_ret
  exact ⟨rfl, rfl⟩
theorem cframes_nil (w : World) : Calls Try.prog 19 #[.pointer none] w fun e w' => e = .returned (.pointer none) ∧ w = w' := by
  go_enter Try.func19, Try.ntmps19
  go_wp2
  go_ret
  exact ⟨rfl, rfl⟩
theorem cout {w : World} {cb : Nat} {v : Value} (h : w.cell? ⟨cb, 11, none⟩ = some v) : Calls Try.prog 20 #[.pointer (some ⟨cb, 0, none⟩)] w fun e w' => e = .returned v ∧ w = w' := by
  go_enter Try.func20, Try.ntmps20
  go_wp2
  go_ret
  exact ⟨rfl, rfl⟩
theorem cout_nil (w : World) : Calls Try.prog 20 #[.pointer none] w fun e w' => e = .returned (.pointer none) ∧ w = w' := by
  go_enter Try.func20, Try.ntmps20
  go_wp2
  go_ret
  exact ⟨rfl, rfl⟩
theorem clog {w : World} {cb : Nat} {v : Value} (h : w.cell? ⟨cb, 12, none⟩ = some v) : Calls Try.prog 21 #[.pointer (some ⟨cb, 0, none⟩)] w fun e w' => e = .returned v ∧ w = w' := by
  go_enter Try.func21, Try.ntmps21
  go_wp2
  go_ret
  exact ⟨rfl, rfl⟩
theorem clog_nil (w : World) : Calls Try.prog 21 #[.pointer none] w fun e w' => e = .returned (.pointer none) ∧ w = w' := by
  go_enter Try.func21, Try.ntmps21
  go_wp2
  go_ret
  exact ⟨rfl, rfl⟩
theorem cstats (w : World) (cb : Nat) : Calls Try.prog 22 #[.pointer (some ⟨cb, 0, none⟩)] w fun e w' => e = .returned (.pointer (some ⟨cb, 13, none⟩)) ∧ w = w' := by
  go_enter Try.func22, Try.ntmps22
  go_wp2
  go_ret
  exact ⟨rfl, rfl⟩
theorem cstats_nil (w : World) : Calls Try.prog 22 #[.pointer none] w fun e w' => e = .returned (.pointer none) ∧ w = w' := by
  go_enter Try.func22, Try.ntmps22
  go_wp2
  go_ret
  exact ⟨rfl, rfl⟩
theorem Own.lastAt' {w0 w : World} {l : List Ast} {b : Nat} {cs : Array Value} {t : TypeId} (h : Own w0 w (l ++ [cellsA b cs t])) (j : Nat) : w.cell? ⟨b, j, none⟩ = cs[j]? := cell_at h.lastAt j
theorem ask_1 {w0 w : World} {L L' : List Ast} (h : Own w0 w L) (p gp : Value) (a v o z : Int) (n : Int) (b : Bool)
    (hD : ∀ w', Own w0 w' (L ++ [cellsA w.heap.size #[.int .i64 1, .int .i64 a, .int .i64 v, .int .i64 o, .int .i64 z] 39]) → Calls Try.prog 12 #[p] w' fun e w2 => e = .returned gp ∧ w' = w2)
    (hC : ∀ w', Own w0 w' (L ++ [cellsA w.heap.size #[.int .i64 1, .int .i64 a, .int .i64 v, .int .i64 o, .int .i64 z] 39]) → Calls Try.prog 54 #[gp, .int .i64 a] w' fun e w2 => e = .returned (.tuple #[.int .i64 n, .bool b]) ∧ Own w0 w2 (L' ++ [cellsA w.heap.size #[.int .i64 1, .int .i64 a, .int .i64 v, .int .i64 o, .int .i64 z] 39])) :
    Calls Try.prog 9 #[p, .agg #[.int .i64 1, .int .i64 a, .int .i64 v, .int .i64 o, .int .i64 z]] w fun e w' => e = .returned (.tuple #[.int .i64 n, .bool b]) ∧ Own w0 w' L' := by
  have hB := h.box #[.int .i64 1, .int .i64 a, .int .i64 v, .int .i64 o, .int .i64 z] 39
  have hB2 := hB.drewN 1
  obtain ⟨xb, hxb⟩ : ∃ xb, w.heap.size = xb := ⟨_, rfl⟩
  have hD := Lib.hid (hD _ hB2)
  have hC := Lib.hid (hC _ hB2)
  rw [hxb] at hB hC hB2
  clear hB2
  go_enter Try.func9, Try.ntmps9
  go_upto_region 3 with fail
  try simp only [hxb]
  have hD : Hid (Calls Try.prog 12 #[p] (w.alloc (.cells #[.int .i64 1, .int .i64 a, .int .i64 v, .int .i64 o, .int .i64 z] 39)).drew fun e w2 => e = .returned gp ∧ (w.alloc (.cells #[.int .i64 1, .int .i64 a, .int .i64 v, .int .i64 o, .int .i64 z] 39)).drew = w2) := hD
  have hC : Hid (Calls Try.prog 54 #[gp, .int .i64 a] (w.alloc (.cells #[.int .i64 1, .int .i64 a, .int .i64 v, .int .i64 o, .int .i64 z] 39)).drew fun e w2 => e = .returned (.tuple #[.int .i64 n, .bool b]) ∧ Own w0 w2 (L' ++ [cellsA xb #[.int .i64 1, .int .i64 a, .int .i64 v, .int .i64 o, .int .i64 z] 39])) := hC
  clear hxb h
  generalize (w.alloc (.cells #[.int .i64 1, .int .i64 a, .int .i64 v, .int .i64 o, .int .i64 z] 39)) = u at *
  have KB := Lib.hid (show (fun w' : World => w'.cell? ⟨xb, 0, none⟩ = some (.int .i64 1) ∧ w'.cell? ⟨xb, 1, none⟩ = some (.int .i64 a) ∧ w'.cell? ⟨xb, 2, none⟩ = some (.int .i64 v) ∧ w'.cell? ⟨xb, 3, none⟩ = some (.int .i64 o)) u.drew from ⟨hB.lastAt' 0, hB.lastAt' 1, hB.lastAt' 2, hB.lastAt' 3⟩)
  clear hB
  refine lin_start (S := (fun w' : World => w'.cell? ⟨xb, 0, none⟩ = some (.int .i64 1) ∧ w'.cell? ⟨xb, 1, none⟩ = some (.int .i64 a) ∧ w'.cell? ⟨xb, 2, none⟩ = some (.int .i64 v) ∧ w'.cell? ⟨xb, 3, none⟩ = some (.int .i64 o))) rfl 9 rfl KB.out ?_
  simp only [numbered, Nat.zero_add, Nat.reduceAdd]
  refine lin_take (v := ?_) (by kernel_rfl) (by kernel_rfl) (fun _ _ _ h => h) (Or.inl ⟨by rfl, ?_⟩) (by assumption) ?_; (rotate_left; (intro wS hSw; (try dsimp only at hSw); go_simp; (try with_reducible rfl)); rotate_left); simp only [Act.put, List.setIfInBounds_toArray, List.set_cons_zero, List.set_cons_succ]
  refine lin_rot ?_; simp only [List.cons_append, List.nil_append]
  refine lin_take (v := ?_) (by kernel_rfl) (by kernel_rfl) (fun _ _ _ h => h) (Or.inl ⟨by rfl, ?_⟩) (by assumption) ?_; (rotate_left; (intro wS hSw; (try dsimp only at hSw); go_simp; (try with_reducible rfl)); rotate_left); simp only [Act.put, List.setIfInBounds_toArray, List.set_cons_zero, List.set_cons_succ]
  refine lin_take (v := ?_) (by kernel_rfl) (by kernel_rfl) (fun _ _ _ h => h) (Or.inl ⟨by rfl, ?_⟩) (by assumption) ?_; (rotate_left; (intro wS hSw; (try dsimp only at hSw); go_simp; (try with_reducible rfl)); rotate_left); simp only [Act.put, List.setIfInBounds_toArray, List.set_cons_zero, List.set_cons_succ]
  refine lin_rot ?_; simp only [List.cons_append, List.nil_append]
  refine lin_rot ?_; simp only [List.cons_append, List.nil_append]
  refine lin_rot ?_; simp only [List.cons_append, List.nil_append]
  refine lin_rot ?_; simp only [List.cons_append, List.nil_append]
  refine lin_rot ?_; simp only [List.cons_append, List.nil_append]
  refine lin_sole (by kernel_rfl) (fun K hK => ?_)
  go_simp
  go_at_call 12; refine hD.out.mono ?_
  rintro e u1 ⟨rfl, rfl⟩
  refine hK.out _ _ ?_ (fun hHeld => ?_)
  · exact KB.out
  try simp only [Act.put, List.setIfInBounds_toArray, List.set_cons_zero, List.set_cons_succ]
  clear hK hHeld
  refine lin_sole (by kernel_rfl) (fun K hK => ?_)
  go_simp
  go_at_call 54; refine hC.out.mono ?_
  rintro e u2 ⟨rfl, hO2⟩
  have KC := Lib.hid (show (fun w' : World => w'.cell? ⟨xb, 0, none⟩ = some (.int .i64 1) ∧ w'.cell? ⟨xb, 1, none⟩ = some (.int .i64 a) ∧ w'.cell? ⟨xb, 2, none⟩ = some (.int .i64 v) ∧ w'.cell? ⟨xb, 3, none⟩ = some (.int .i64 o)) u2 from ⟨(hO2.lastAt' 0), (hO2.lastAt' 1), (hO2.lastAt' 2), (hO2.lastAt' 3)⟩)
  refine hK.out _ _ ?_ (fun hHeld => ?_)
  · exact KC.out
  try simp only [Act.put, List.setIfInBounds_toArray, List.set_cons_zero, List.set_cons_succ]
  clear hK
  refine lin_take (v := ?_) (by kernel_rfl) (by kernel_rfl) (fun _ _ _ h => h) (Or.inl ⟨by rfl, ?_⟩) (by assumption) ?_; (rotate_left; (intro wS hSw; (try dsimp only at hSw); go_simp; (try with_reducible rfl)); rotate_left); simp only [Act.put, List.setIfInBounds_toArray, List.set_cons_zero, List.set_cons_succ]
  refine lin_take (v := ?_) (by kernel_rfl) (by kernel_rfl) (fun _ _ _ h => h) (Or.inl ⟨by rfl, ?_⟩) (by assumption) ?_; (rotate_left; (intro wS hSw; (try dsimp only at hSw); go_simp; (try with_reducible rfl)); rotate_left); simp only [Act.put, List.setIfInBounds_toArray, List.set_cons_zero, List.set_cons_succ]
  refine lin_take (v := ?_) (by kernel_rfl) (by kernel_rfl) (fun _ _ _ h => h) (Or.inl ⟨by rfl, ?_⟩) (by assumption) ?_; (rotate_left; (intro wS hSw; (try dsimp only at hSw); go_simp; (try with_reducible rfl)); rotate_left); simp only [Act.put, List.setIfInBounds_toArray, List.set_cons_zero, List.set_cons_succ]
  refine lin_take (v := ?_) (by kernel_rfl) (by kernel_rfl) (fun _ _ _ h => h) (Or.inl ⟨by rfl, ?_⟩) (by assumption) ?_; (rotate_left; (intro wS hSw; (try dsimp only at hSw); go_simp; (try with_reducible rfl)); rotate_left); simp only [Act.put, List.setIfInBounds_toArray, List.set_cons_zero, List.set_cons_succ]
  refine lin_done (by kernel_rfl) ?_
  go_wp2_with fail
  go_ret2
  exact ⟨rfl, hO2.pop⟩
theorem ask_2 {w0 w : World} {L L' : List Ast} (h : Own w0 w L) (p gp : Value) (a v o z : Int) (b : Bool)
    (hD : ∀ w', Own w0 w' (L ++ [cellsA w.heap.size #[.int .i64 2, .int .i64 a, .int .i64 v, .int .i64 o, .int .i64 z] 39]) → Calls Try.prog 12 #[p] w' fun e w2 => e = .returned gp ∧ w' = w2)
    (hC : ∀ w', Own w0 w' (L ++ [cellsA w.heap.size #[.int .i64 2, .int .i64 a, .int .i64 v, .int .i64 o, .int .i64 z] 39]) → Calls Try.prog 51 #[gp, .int .i64 a, .int .i64 v] w' fun e w2 => e = .returned (.bool b) ∧ Own w0 w2 (L' ++ [cellsA w.heap.size #[.int .i64 2, .int .i64 a, .int .i64 v, .int .i64 o, .int .i64 z] 39])) :
    Calls Try.prog 9 #[p, .agg #[.int .i64 2, .int .i64 a, .int .i64 v, .int .i64 o, .int .i64 z]] w fun e w' => e = .returned (.tuple #[.int .i64 0, .bool b]) ∧ Own w0 w' L' := by
  have hB := h.box #[.int .i64 2, .int .i64 a, .int .i64 v, .int .i64 o, .int .i64 z] 39
  have hB2 := hB.drewN 1
  obtain ⟨xb, hxb⟩ : ∃ xb, w.heap.size = xb := ⟨_, rfl⟩
  have hD := Lib.hid (hD _ hB2)
  have hC := Lib.hid (hC _ hB2)
  rw [hxb] at hB hC hB2
  clear hB2
  go_enter Try.func9, Try.ntmps9
  go_upto_region 5 with fail
  try simp only [hxb]
  have hD : Hid (Calls Try.prog 12 #[p] (w.alloc (.cells #[.int .i64 2, .int .i64 a, .int .i64 v, .int .i64 o, .int .i64 z] 39)).drew fun e w2 => e = .returned gp ∧ (w.alloc (.cells #[.int .i64 2, .int .i64 a, .int .i64 v, .int .i64 o, .int .i64 z] 39)).drew = w2) := hD
  have hC : Hid (Calls Try.prog 51 #[gp, .int .i64 a, .int .i64 v] (w.alloc (.cells #[.int .i64 2, .int .i64 a, .int .i64 v, .int .i64 o, .int .i64 z] 39)).drew fun e w2 => e = .returned (.bool b) ∧ Own w0 w2 (L' ++ [cellsA xb #[.int .i64 2, .int .i64 a, .int .i64 v, .int .i64 o, .int .i64 z] 39])) := hC
  clear hxb h
  generalize (w.alloc (.cells #[.int .i64 2, .int .i64 a, .int .i64 v, .int .i64 o, .int .i64 z] 39)) = u at *
  have KB := Lib.hid (show (fun w' : World => w'.cell? ⟨xb, 0, none⟩ = some (.int .i64 2) ∧ w'.cell? ⟨xb, 1, none⟩ = some (.int .i64 a) ∧ w'.cell? ⟨xb, 2, none⟩ = some (.int .i64 v) ∧ w'.cell? ⟨xb, 3, none⟩ = some (.int .i64 o)) u.drew from ⟨hB.lastAt' 0, hB.lastAt' 1, hB.lastAt' 2, hB.lastAt' 3⟩)
  clear hB
  refine lin_start (S := (fun w' : World => w'.cell? ⟨xb, 0, none⟩ = some (.int .i64 2) ∧ w'.cell? ⟨xb, 1, none⟩ = some (.int .i64 a) ∧ w'.cell? ⟨xb, 2, none⟩ = some (.int .i64 v) ∧ w'.cell? ⟨xb, 3, none⟩ = some (.int .i64 o))) rfl 9 rfl KB.out ?_
  simp only [numbered, Nat.zero_add, Nat.reduceAdd]
  refine lin_take (v := ?_) (by kernel_rfl) (by kernel_rfl) (fun _ _ _ h => h) (Or.inl ⟨by rfl, ?_⟩) (by assumption) ?_; (rotate_left; (intro wS hSw; (try dsimp only at hSw); go_simp; (try with_reducible rfl)); rotate_left); simp only [Act.put, List.setIfInBounds_toArray, List.set_cons_zero, List.set_cons_succ]
  refine lin_rot ?_; simp only [List.cons_append, List.nil_append]
  refine lin_take (v := ?_) (by kernel_rfl) (by kernel_rfl) (fun _ _ _ h => h) (Or.inl ⟨by rfl, ?_⟩) (by assumption) ?_; (rotate_left; (intro wS hSw; (try dsimp only at hSw); go_simp; (try with_reducible rfl)); rotate_left); simp only [Act.put, List.setIfInBounds_toArray, List.set_cons_zero, List.set_cons_succ]
  refine lin_take (v := ?_) (by kernel_rfl) (by kernel_rfl) (fun _ _ _ h => h) (Or.inl ⟨by rfl, ?_⟩) (by assumption) ?_; (rotate_left; (intro wS hSw; (try dsimp only at hSw); go_simp; (try with_reducible rfl)); rotate_left); simp only [Act.put, List.setIfInBounds_toArray, List.set_cons_zero, List.set_cons_succ]
  refine lin_take (v := ?_) (by kernel_rfl) (by kernel_rfl) (fun _ _ _ h => h) (Or.inl ⟨by rfl, ?_⟩) (by assumption) ?_; (rotate_left; (intro wS hSw; (try dsimp only at hSw); go_simp; (try with_reducible rfl)); rotate_left); simp only [Act.put, List.setIfInBounds_toArray, List.set_cons_zero, List.set_cons_succ]
  refine lin_take (v := ?_) (by kernel_rfl) (by kernel_rfl) (fun _ _ _ h => h) (Or.inl ⟨by rfl, ?_⟩) (by assumption) ?_; (rotate_left; (intro wS hSw; (try dsimp only at hSw); go_simp; (try with_reducible rfl)); rotate_left); simp only [Act.put, List.setIfInBounds_toArray, List.set_cons_zero, List.set_cons_succ]
  refine lin_rot ?_; simp only [List.cons_append, List.nil_append]
  refine lin_rot ?_; simp only [List.cons_append, List.nil_append]
  refine lin_rot ?_; simp only [List.cons_append, List.nil_append]
  refine lin_sole (by kernel_rfl) (fun K hK => ?_)
  go_simp
  go_at_call 12; refine hD.out.mono ?_
  rintro e u1 ⟨rfl, rfl⟩
  refine hK.out _ _ ?_ (fun hHeld => ?_)
  · exact KB.out
  try simp only [Act.put, List.setIfInBounds_toArray, List.set_cons_zero, List.set_cons_succ]
  clear hK hHeld
  refine lin_sole (by kernel_rfl) (fun K hK => ?_)
  go_simp
  go_at_call 51; refine hC.out.mono ?_
  rintro e u2 ⟨rfl, hO2⟩
  have KC := Lib.hid (show (fun w' : World => w'.cell? ⟨xb, 0, none⟩ = some (.int .i64 2) ∧ w'.cell? ⟨xb, 1, none⟩ = some (.int .i64 a) ∧ w'.cell? ⟨xb, 2, none⟩ = some (.int .i64 v) ∧ w'.cell? ⟨xb, 3, none⟩ = some (.int .i64 o)) u2 from ⟨(hO2.lastAt' 0), (hO2.lastAt' 1), (hO2.lastAt' 2), (hO2.lastAt' 3)⟩)
  refine hK.out _ _ ?_ (fun hHeld => ?_)
  · exact KC.out
  try simp only [Act.put, List.setIfInBounds_toArray, List.set_cons_zero, List.set_cons_succ]
  clear hK
  refine lin_take (v := ?_) (by kernel_rfl) (by kernel_rfl) (fun _ _ _ h => h) (Or.inl ⟨by rfl, ?_⟩) (by assumption) ?_; (rotate_left; (intro wS hSw; (try dsimp only at hSw); go_simp; (try with_reducible rfl)); rotate_left); simp only [Act.put, List.setIfInBounds_toArray, List.set_cons_zero, List.set_cons_succ]
  refine lin_take (v := ?_) (by kernel_rfl) (by kernel_rfl) (fun _ _ _ h => h) (Or.inl ⟨by rfl, ?_⟩) (by assumption) ?_; (rotate_left; (intro wS hSw; (try dsimp only at hSw); go_simp; (try with_reducible rfl)); rotate_left); simp only [Act.put, List.setIfInBounds_toArray, List.set_cons_zero, List.set_cons_succ]
  refine lin_done (by kernel_rfl) ?_
  go_wp2_with fail
  go_ret2
  exact ⟨rfl, hO2.pop⟩
theorem ask_3 {w0 w : World} {L L' : List Ast} (h : Own w0 w L) (p gp : Value) (a v o z : Int) (n : Int) (b : Bool)
    (hD : ∀ w', Own w0 w' (L ++ [cellsA w.heap.size #[.int .i64 3, .int .i64 a, .int .i64 v, .int .i64 o, .int .i64 z] 39]) → Calls Try.prog 12 #[p] w' fun e w2 => e = .returned gp ∧ w' = w2)
    (hC : ∀ w', Own w0 w' (L ++ [cellsA w.heap.size #[.int .i64 3, .int .i64 a, .int .i64 v, .int .i64 o, .int .i64 z] 39]) → Calls Try.prog 55 #[gp, .int .i64 a, .int .i64 v] w' fun e w2 => e = .returned (.tuple #[.int .i64 n, .bool b]) ∧ Own w0 w2 (L' ++ [cellsA w.heap.size #[.int .i64 3, .int .i64 a, .int .i64 v, .int .i64 o, .int .i64 z] 39])) :
    Calls Try.prog 9 #[p, .agg #[.int .i64 3, .int .i64 a, .int .i64 v, .int .i64 o, .int .i64 z]] w fun e w' => e = .returned (.tuple #[.int .i64 n, .bool b]) ∧ Own w0 w' L' := by
  have hB := h.box #[.int .i64 3, .int .i64 a, .int .i64 v, .int .i64 o, .int .i64 z] 39
  have hB2 := hB.drewN 1
  obtain ⟨xb, hxb⟩ : ∃ xb, w.heap.size = xb := ⟨_, rfl⟩
  have hD := Lib.hid (hD _ hB2)
  have hC := Lib.hid (hC _ hB2)
  rw [hxb] at hB hC hB2
  clear hB2
  go_enter Try.func9, Try.ntmps9
  go_upto_region 7 with fail
  try simp only [hxb]
  have hD : Hid (Calls Try.prog 12 #[p] (w.alloc (.cells #[.int .i64 3, .int .i64 a, .int .i64 v, .int .i64 o, .int .i64 z] 39)).drew fun e w2 => e = .returned gp ∧ (w.alloc (.cells #[.int .i64 3, .int .i64 a, .int .i64 v, .int .i64 o, .int .i64 z] 39)).drew = w2) := hD
  have hC : Hid (Calls Try.prog 55 #[gp, .int .i64 a, .int .i64 v] (w.alloc (.cells #[.int .i64 3, .int .i64 a, .int .i64 v, .int .i64 o, .int .i64 z] 39)).drew fun e w2 => e = .returned (.tuple #[.int .i64 n, .bool b]) ∧ Own w0 w2 (L' ++ [cellsA xb #[.int .i64 3, .int .i64 a, .int .i64 v, .int .i64 o, .int .i64 z] 39])) := hC
  clear hxb h
  generalize (w.alloc (.cells #[.int .i64 3, .int .i64 a, .int .i64 v, .int .i64 o, .int .i64 z] 39)) = u at *
  have KB := Lib.hid (show (fun w' : World => w'.cell? ⟨xb, 0, none⟩ = some (.int .i64 3) ∧ w'.cell? ⟨xb, 1, none⟩ = some (.int .i64 a) ∧ w'.cell? ⟨xb, 2, none⟩ = some (.int .i64 v) ∧ w'.cell? ⟨xb, 3, none⟩ = some (.int .i64 o)) u.drew from ⟨hB.lastAt' 0, hB.lastAt' 1, hB.lastAt' 2, hB.lastAt' 3⟩)
  clear hB
  refine lin_start (S := (fun w' : World => w'.cell? ⟨xb, 0, none⟩ = some (.int .i64 3) ∧ w'.cell? ⟨xb, 1, none⟩ = some (.int .i64 a) ∧ w'.cell? ⟨xb, 2, none⟩ = some (.int .i64 v) ∧ w'.cell? ⟨xb, 3, none⟩ = some (.int .i64 o))) rfl 11 rfl KB.out ?_
  simp only [numbered, Nat.zero_add, Nat.reduceAdd]
  refine lin_take (v := ?_) (by kernel_rfl) (by kernel_rfl) (fun _ _ _ h => h) (Or.inl ⟨by rfl, ?_⟩) (by assumption) ?_; (rotate_left; (intro wS hSw; (try dsimp only at hSw); go_simp; (try with_reducible rfl)); rotate_left); simp only [Act.put, List.setIfInBounds_toArray, List.set_cons_zero, List.set_cons_succ]
  refine lin_rot ?_; simp only [List.cons_append, List.nil_append]
  refine lin_take (v := ?_) (by kernel_rfl) (by kernel_rfl) (fun _ _ _ h => h) (Or.inl ⟨by rfl, ?_⟩) (by assumption) ?_; (rotate_left; (intro wS hSw; (try dsimp only at hSw); go_simp; (try with_reducible rfl)); rotate_left); simp only [Act.put, List.setIfInBounds_toArray, List.set_cons_zero, List.set_cons_succ]
  refine lin_take (v := ?_) (by kernel_rfl) (by kernel_rfl) (fun _ _ _ h => h) (Or.inl ⟨by rfl, ?_⟩) (by assumption) ?_; (rotate_left; (intro wS hSw; (try dsimp only at hSw); go_simp; (try with_reducible rfl)); rotate_left); simp only [Act.put, List.setIfInBounds_toArray, List.set_cons_zero, List.set_cons_succ]
  refine lin_take (v := ?_) (by kernel_rfl) (by kernel_rfl) (fun _ _ _ h => h) (Or.inl ⟨by rfl, ?_⟩) (by assumption) ?_; (rotate_left; (intro wS hSw; (try dsimp only at hSw); go_simp; (try with_reducible rfl)); rotate_left); simp only [Act.put, List.setIfInBounds_toArray, List.set_cons_zero, List.set_cons_succ]
  refine lin_take (v := ?_) (by kernel_rfl) (by kernel_rfl) (fun _ _ _ h => h) (Or.inl ⟨by rfl, ?_⟩) (by assumption) ?_; (rotate_left; (intro wS hSw; (try dsimp only at hSw); go_simp; (try with_reducible rfl)); rotate_left); simp only [Act.put, List.setIfInBounds_toArray, List.set_cons_zero, List.set_cons_succ]
  refine lin_rot ?_; simp only [List.cons_append, List.nil_append]
  refine lin_rot ?_; simp only [List.cons_append, List.nil_append]
  refine lin_rot ?_; simp only [List.cons_append, List.nil_append]
  refine lin_rot ?_; simp only [List.cons_append, List.nil_append]
  refine lin_rot ?_; simp only [List.cons_append, List.nil_append]
  refine lin_sole (by kernel_rfl) (fun K hK => ?_)
  go_simp
  go_at_call 12; refine hD.out.mono ?_
  rintro e u1 ⟨rfl, rfl⟩
  refine hK.out _ _ ?_ (fun hHeld => ?_)
  · exact KB.out
  try simp only [Act.put, List.setIfInBounds_toArray, List.set_cons_zero, List.set_cons_succ]
  clear hK hHeld
  refine lin_sole (by kernel_rfl) (fun K hK => ?_)
  go_simp
  go_at_call 55; refine hC.out.mono ?_
  rintro e u2 ⟨rfl, hO2⟩
  have KC := Lib.hid (show (fun w' : World => w'.cell? ⟨xb, 0, none⟩ = some (.int .i64 3) ∧ w'.cell? ⟨xb, 1, none⟩ = some (.int .i64 a) ∧ w'.cell? ⟨xb, 2, none⟩ = some (.int .i64 v) ∧ w'.cell? ⟨xb, 3, none⟩ = some (.int .i64 o)) u2 from ⟨(hO2.lastAt' 0), (hO2.lastAt' 1), (hO2.lastAt' 2), (hO2.lastAt' 3)⟩)
  refine hK.out _ _ ?_ (fun hHeld => ?_)
  · exact KC.out
  try simp only [Act.put, List.setIfInBounds_toArray, List.set_cons_zero, List.set_cons_succ]
  clear hK
  refine lin_take (v := ?_) (by kernel_rfl) (by kernel_rfl) (fun _ _ _ h => h) (Or.inl ⟨by rfl, ?_⟩) (by assumption) ?_; (rotate_left; (intro wS hSw; (try dsimp only at hSw); go_simp; (try with_reducible rfl)); rotate_left); simp only [Act.put, List.setIfInBounds_toArray, List.set_cons_zero, List.set_cons_succ]
  refine lin_take (v := ?_) (by kernel_rfl) (by kernel_rfl) (fun _ _ _ h => h) (Or.inl ⟨by rfl, ?_⟩) (by assumption) ?_; (rotate_left; (intro wS hSw; (try dsimp only at hSw); go_simp; (try with_reducible rfl)); rotate_left); simp only [Act.put, List.setIfInBounds_toArray, List.set_cons_zero, List.set_cons_succ]
  refine lin_take (v := ?_) (by kernel_rfl) (by kernel_rfl) (fun _ _ _ h => h) (Or.inl ⟨by rfl, ?_⟩) (by assumption) ?_; (rotate_left; (intro wS hSw; (try dsimp only at hSw); go_simp; (try with_reducible rfl)); rotate_left); simp only [Act.put, List.setIfInBounds_toArray, List.set_cons_zero, List.set_cons_succ]
  refine lin_take (v := ?_) (by kernel_rfl) (by kernel_rfl) (fun _ _ _ h => h) (Or.inl ⟨by rfl, ?_⟩) (by assumption) ?_; (rotate_left; (intro wS hSw; (try dsimp only at hSw); go_simp; (try with_reducible rfl)); rotate_left); simp only [Act.put, List.setIfInBounds_toArray, List.set_cons_zero, List.set_cons_succ]
  refine lin_done (by kernel_rfl) ?_
  go_wp2_with fail
  go_ret2
  exact ⟨rfl, hO2.pop⟩
theorem ask_4 {w0 w : World} {L L' : List Ast} (h : Own w0 w L) (p gp : Value) (a v o z : Int) (n : Int) (b : Bool)
    (hD : ∀ w', Own w0 w' (L ++ [cellsA w.heap.size #[.int .i64 4, .int .i64 a, .int .i64 v, .int .i64 o, .int .i64 z] 39]) → Calls Try.prog 12 #[p] w' fun e w2 => e = .returned gp ∧ w' = w2)
    (hC : ∀ w', Own w0 w' (L ++ [cellsA w.heap.size #[.int .i64 4, .int .i64 a, .int .i64 v, .int .i64 o, .int .i64 z] 39]) → Calls Try.prog 56 #[gp, .int .i64 a, .int .i64 v, .int .i64 o] w' fun e w2 => e = .returned (.tuple #[.int .i64 n, .bool b]) ∧ Own w0 w2 (L' ++ [cellsA w.heap.size #[.int .i64 4, .int .i64 a, .int .i64 v, .int .i64 o, .int .i64 z] 39])) :
    Calls Try.prog 9 #[p, .agg #[.int .i64 4, .int .i64 a, .int .i64 v, .int .i64 o, .int .i64 z]] w fun e w' => e = .returned (.tuple #[.int .i64 n, .bool b]) ∧ Own w0 w' L' := by
  have hB := h.box #[.int .i64 4, .int .i64 a, .int .i64 v, .int .i64 o, .int .i64 z] 39
  have hB2 := hB.drewN 1
  obtain ⟨xb, hxb⟩ : ∃ xb, w.heap.size = xb := ⟨_, rfl⟩
  have hD := Lib.hid (hD _ hB2)
  have hC := Lib.hid (hC _ hB2)
  rw [hxb] at hB hC hB2
  clear hB2
  go_enter Try.func9, Try.ntmps9
  go_upto_region 9 with fail
  try simp only [hxb]
  have hD : Hid (Calls Try.prog 12 #[p] (w.alloc (.cells #[.int .i64 4, .int .i64 a, .int .i64 v, .int .i64 o, .int .i64 z] 39)).drew fun e w2 => e = .returned gp ∧ (w.alloc (.cells #[.int .i64 4, .int .i64 a, .int .i64 v, .int .i64 o, .int .i64 z] 39)).drew = w2) := hD
  have hC : Hid (Calls Try.prog 56 #[gp, .int .i64 a, .int .i64 v, .int .i64 o] (w.alloc (.cells #[.int .i64 4, .int .i64 a, .int .i64 v, .int .i64 o, .int .i64 z] 39)).drew fun e w2 => e = .returned (.tuple #[.int .i64 n, .bool b]) ∧ Own w0 w2 (L' ++ [cellsA xb #[.int .i64 4, .int .i64 a, .int .i64 v, .int .i64 o, .int .i64 z] 39])) := hC
  clear hxb h
  generalize (w.alloc (.cells #[.int .i64 4, .int .i64 a, .int .i64 v, .int .i64 o, .int .i64 z] 39)) = u at *
  have KB := Lib.hid (show (fun w' : World => w'.cell? ⟨xb, 0, none⟩ = some (.int .i64 4) ∧ w'.cell? ⟨xb, 1, none⟩ = some (.int .i64 a) ∧ w'.cell? ⟨xb, 2, none⟩ = some (.int .i64 v) ∧ w'.cell? ⟨xb, 3, none⟩ = some (.int .i64 o)) u.drew from ⟨hB.lastAt' 0, hB.lastAt' 1, hB.lastAt' 2, hB.lastAt' 3⟩)
  clear hB
  refine lin_start (S := (fun w' : World => w'.cell? ⟨xb, 0, none⟩ = some (.int .i64 4) ∧ w'.cell? ⟨xb, 1, none⟩ = some (.int .i64 a) ∧ w'.cell? ⟨xb, 2, none⟩ = some (.int .i64 v) ∧ w'.cell? ⟨xb, 3, none⟩ = some (.int .i64 o))) rfl 13 rfl KB.out ?_
  simp only [numbered, Nat.zero_add, Nat.reduceAdd]
  refine lin_take (v := ?_) (by kernel_rfl) (by kernel_rfl) (fun _ _ _ h => h) (Or.inl ⟨by rfl, ?_⟩) (by assumption) ?_; (rotate_left; (intro wS hSw; (try dsimp only at hSw); go_simp; (try with_reducible rfl)); rotate_left); simp only [Act.put, List.setIfInBounds_toArray, List.set_cons_zero, List.set_cons_succ]
  refine lin_rot ?_; simp only [List.cons_append, List.nil_append]
  refine lin_take (v := ?_) (by kernel_rfl) (by kernel_rfl) (fun _ _ _ h => h) (Or.inl ⟨by rfl, ?_⟩) (by assumption) ?_; (rotate_left; (intro wS hSw; (try dsimp only at hSw); go_simp; (try with_reducible rfl)); rotate_left); simp only [Act.put, List.setIfInBounds_toArray, List.set_cons_zero, List.set_cons_succ]
  refine lin_take (v := ?_) (by kernel_rfl) (by kernel_rfl) (fun _ _ _ h => h) (Or.inl ⟨by rfl, ?_⟩) (by assumption) ?_; (rotate_left; (intro wS hSw; (try dsimp only at hSw); go_simp; (try with_reducible rfl)); rotate_left); simp only [Act.put, List.setIfInBounds_toArray, List.set_cons_zero, List.set_cons_succ]
  refine lin_take (v := ?_) (by kernel_rfl) (by kernel_rfl) (fun _ _ _ h => h) (Or.inl ⟨by rfl, ?_⟩) (by assumption) ?_; (rotate_left; (intro wS hSw; (try dsimp only at hSw); go_simp; (try with_reducible rfl)); rotate_left); simp only [Act.put, List.setIfInBounds_toArray, List.set_cons_zero, List.set_cons_succ]
  refine lin_take (v := ?_) (by kernel_rfl) (by kernel_rfl) (fun _ _ _ h => h) (Or.inl ⟨by rfl, ?_⟩) (by assumption) ?_; (rotate_left; (intro wS hSw; (try dsimp only at hSw); go_simp; (try with_reducible rfl)); rotate_left); simp only [Act.put, List.setIfInBounds_toArray, List.set_cons_zero, List.set_cons_succ]
  refine lin_take (v := ?_) (by kernel_rfl) (by kernel_rfl) (fun _ _ _ h => h) (Or.inl ⟨by rfl, ?_⟩) (by assumption) ?_; (rotate_left; (intro wS hSw; (try dsimp only at hSw); go_simp; (try with_reducible rfl)); rotate_left); simp only [Act.put, List.setIfInBounds_toArray, List.set_cons_zero, List.set_cons_succ]
  refine lin_take (v := ?_) (by kernel_rfl) (by kernel_rfl) (fun _ _ _ h => h) (Or.inl ⟨by rfl, ?_⟩) (by assumption) ?_; (rotate_left; (intro wS hSw; (try dsimp only at hSw); go_simp; (try with_reducible rfl)); rotate_left); simp only [Act.put, List.setIfInBounds_toArray, List.set_cons_zero, List.set_cons_succ]
  refine lin_rot ?_; simp only [List.cons_append, List.nil_append]
  refine lin_rot ?_; simp only [List.cons_append, List.nil_append]
  refine lin_rot ?_; simp only [List.cons_append, List.nil_append]
  refine lin_rot ?_; simp only [List.cons_append, List.nil_append]
  refine lin_rot ?_; simp only [List.cons_append, List.nil_append]
  refine lin_sole (by kernel_rfl) (fun K hK => ?_)
  go_simp
  go_at_call 12; refine hD.out.mono ?_
  rintro e u1 ⟨rfl, rfl⟩
  refine hK.out _ _ ?_ (fun hHeld => ?_)
  · exact KB.out
  try simp only [Act.put, List.setIfInBounds_toArray, List.set_cons_zero, List.set_cons_succ]
  clear hK hHeld
  refine lin_sole (by kernel_rfl) (fun K hK => ?_)
  go_simp
  go_at_call 56; refine hC.out.mono ?_
  rintro e u2 ⟨rfl, hO2⟩
  have KC := Lib.hid (show (fun w' : World => w'.cell? ⟨xb, 0, none⟩ = some (.int .i64 4) ∧ w'.cell? ⟨xb, 1, none⟩ = some (.int .i64 a) ∧ w'.cell? ⟨xb, 2, none⟩ = some (.int .i64 v) ∧ w'.cell? ⟨xb, 3, none⟩ = some (.int .i64 o)) u2 from ⟨(hO2.lastAt' 0), (hO2.lastAt' 1), (hO2.lastAt' 2), (hO2.lastAt' 3)⟩)
  refine hK.out _ _ ?_ (fun hHeld => ?_)
  · exact KC.out
  try simp only [Act.put, List.setIfInBounds_toArray, List.set_cons_zero, List.set_cons_succ]
  clear hK
  refine lin_take (v := ?_) (by kernel_rfl) (by kernel_rfl) (fun _ _ _ h => h) (Or.inl ⟨by rfl, ?_⟩) (by assumption) ?_; (rotate_left; (intro wS hSw; (try dsimp only at hSw); go_simp; (try with_reducible rfl)); rotate_left); simp only [Act.put, List.setIfInBounds_toArray, List.set_cons_zero, List.set_cons_succ]
  refine lin_take (v := ?_) (by kernel_rfl) (by kernel_rfl) (fun _ _ _ h => h) (Or.inl ⟨by rfl, ?_⟩) (by assumption) ?_; (rotate_left; (intro wS hSw; (try dsimp only at hSw); go_simp; (try with_reducible rfl)); rotate_left); simp only [Act.put, List.setIfInBounds_toArray, List.set_cons_zero, List.set_cons_succ]
  refine lin_take (v := ?_) (by kernel_rfl) (by kernel_rfl) (fun _ _ _ h => h) (Or.inl ⟨by rfl, ?_⟩) (by assumption) ?_; (rotate_left; (intro wS hSw; (try dsimp only at hSw); go_simp; (try with_reducible rfl)); rotate_left); simp only [Act.put, List.setIfInBounds_toArray, List.set_cons_zero, List.set_cons_succ]
  refine lin_take (v := ?_) (by kernel_rfl) (by kernel_rfl) (fun _ _ _ h => h) (Or.inl ⟨by rfl, ?_⟩) (by assumption) ?_; (rotate_left; (intro wS hSw; (try dsimp only at hSw); go_simp; (try with_reducible rfl)); rotate_left); simp only [Act.put, List.setIfInBounds_toArray, List.set_cons_zero, List.set_cons_succ]
  refine lin_done (by kernel_rfl) ?_
  go_wp2_with fail
  go_ret2
  exact ⟨rfl, hO2.pop⟩
theorem ask_no {w0 w : World} {L : List Ast} (h : Own w0 w L) (p : Value) (k a v o z : Int) (hk : k < 1 ∨ 4 < k) : Calls Try.prog 9 #[p, .agg #[.int .i64 k, .int .i64 a, .int .i64 v, .int .i64 o, .int .i64 z]] w fun e w' => e = .returned (.tuple #[.int .i64 0, .bool false]) ∧ Own w0 w' L := by
  have hA := Lib.hid (h.alloc (.cells #[.int .i64 k, .int .i64 a, .int .i64 v, .int .i64 o, .int .i64 z] 39))
  have e1 : (k == 1) = false := by simp; omega
  have e2 : (k == 2) = false := by simp; omega
  have e3 : (k == 3) = false := by simp; omega
  have e4 : (k == 4) = false := by simp; omega
  have f1 : ¬ k = 1 := by omega
  have f2 : ¬ k = 2 := by omega
  have f3 : ¬ k = 3 := by omega
  have f4 : ¬ k = 4 := by omega
  clear h hk
  go_enter Try.func9, Try.ntmps9
  go_wp2
  go_ret2
  exact ⟨rfl, hA.out⟩
/-- What memory answers. -/
def askD (k a v o : Int) (ms : List Int) : List Int × Int × Bool := if 1 ≤ k ∧ k ≤ 4 then stepD (k - 1) a (if k = 4 then o else v) (if k = 4 then v else 0) ms else (ms, 0, false)
theorem askD_length (k a v o : Int) (ms : List Int) : (askD k a v o ms).1.length = ms.length := by
  unfold askD; split
  · exact stepD_length _ _ _ _ _
  · rfl
theorem cask {w0 w : World} {L : List Ast} (h : Own w0 w L) (i j : Nat) {cb gs gd sd ob lb : Nat} {q : QP} {fv ft : Value} {se st wy : Int} {ds : List Int} (hi : L[i]? = some (coreC cb gs gd ob lb q fv ft se st wy)) (hj : L[j]? = some (storeA gd sd ds)) (k a v o z : Int) (ds' : List Int) (n : Int) (b : Bool) (hr : askD k a v o ds = (ds', n, b)) :
    Calls Try.prog 9 #[.pointer (some ⟨cb, 0, none⟩), .agg #[.int .i64 k, .int .i64 a, .int .i64 v, .int .i64 o, .int .i64 z]] w fun e w' => e = .returned (.tuple #[.int .i64 n, .bool b]) ∧ Own w0 w' (L.set j (storeA gd sd ds')) := by
  have hjl := (List.getElem?_eq_some_iff.1 hj).1
  have hD : ∀ (X : Ast) (w' : World), Own w0 w' (L ++ [X]) → Calls Try.prog 12 #[.pointer (some ⟨cb, 0, none⟩)] w' fun e w2 => e = .returned (.pointer (some ⟨gd, 0, none⟩)) ∧ w' = w2 := fun X w' h' => cdata (h'.cget i (at_app hi) 9).1
  have hS : ∀ {X : Ast} {w' : World}, Own w0 w' (L ++ [X]) → StoreIs w' gd sd ds .nilFunc := fun h' => h'.st j (at_app hj)
  have hset : ∀ (X : Ast) (m : List Int), (L ++ [X]).set j (storeA gd sd m) = L.set j (storeA gd sd m) ++ [X] := fun X m => set_app hj
  have hsame : L.set j (storeA gd sd ds) = L := set_same hj
  unfold askD at hr
  by_cases hk : 1 ≤ k ∧ k ≤ 4
  · rw [if_pos hk] at hr
    unfold stepD at hr
    rw [if_neg (by omega)] at hr
    by_cases hin : a < 0 ∨ (ds.length : Int) ≤ a
    · rw [if_pos hin] at hr
      simp only [Prod.mk.injEq] at hr
      obtain ⟨rfl, rfl, rfl⟩ := hr
      rw [hsame]
      rcases (show k = 1 ∨ k = 2 ∨ k = 3 ∨ k = 4 by omega) with rfl | rfl | rfl | rfl
      · exact ask_1 h _ _ a v o z 0 false (hD _) (fun w' h' => (load_out (hS h') hin).mono fun e w2 ⟨he, hw⟩ => ⟨he, hw ▸ h'⟩)
      · exact ask_2 h _ _ a v o z false (hD _) (fun w' h' => (store_out (hS h') hin v).mono fun e w2 ⟨he, hw⟩ => ⟨he, hw ▸ h'⟩)
      · exact ask_3 h _ _ a v o z 0 false (hD _) (fun w' h' => (add_out (hS h') hin v).mono fun e w2 ⟨he, hw⟩ => ⟨he, hw ▸ h'⟩)
      · exact ask_4 h _ _ a v o z 0 false (hD _) (fun w' h' => (swap_out (hS h') hin v o).mono fun e w2 ⟨he, hw⟩ => ⟨he, hw ▸ h'⟩)
    · rw [if_neg hin] at hr
      obtain ⟨A, rfl⟩ : ∃ A : Nat, a = (A : Int) := ⟨a.toNat, by omega⟩
      have hA : A < ds.length := by omega
      rw [Int.toNat_natCast] at hr
      rcases (show k = 1 ∨ k = 2 ∨ k = 3 ∨ k = 4 by omega) with rfl | rfl | rfl | rfl
      · rw [if_pos (by omega)] at hr
        simp only [Prod.mk.injEq] at hr
        obtain ⟨rfl, rfl, rfl⟩ := hr
        rw [hsame]
        exact ask_1 h _ _ A v o z _ true (hD _) (fun w' h' => (load_in (hS h') hA).mono fun e w2 ⟨he, hw⟩ => ⟨he, hw ▸ h'⟩)
      · rw [if_neg (by omega), if_pos (by omega), if_neg (by omega)] at hr
        simp only [Prod.mk.injEq] at hr
        obtain ⟨rfl, rfl, rfl⟩ := hr
        exact ask_2 h _ _ A v o z true (hD _) (fun w' h' => (own_store h' j (at_app hj) hA v _ rfl).mono fun e w2 ⟨he, hw⟩ => ⟨he, (hset _ _) ▸ hw⟩)
      · rw [if_neg (by omega), if_neg (by omega), if_pos (by omega), if_neg (by omega)] at hr
        simp only [Prod.mk.injEq] at hr
        obtain ⟨rfl, rfl, rfl⟩ := hr
        exact ask_3 h _ _ A v o z _ true (hD _) (fun w' h' => (own_add h' j (at_app hj) hA v _ rfl _ rfl).mono fun e w2 ⟨he, hw⟩ => ⟨he, (hset _ _) ▸ hw⟩)
      · rw [if_neg (by omega), if_neg (by omega), if_neg (by omega), if_pos rfl, if_pos rfl] at hr
        by_cases hv : ds.getD A 0 = v
        · rw [if_pos hv] at hr
          simp only [Prod.mk.injEq] at hr
          obtain ⟨rfl, rfl, rfl⟩ := hr
          exact ask_4 h _ _ A v o z _ true (hD _) (fun w' h' => (own_swap_yes h' j (at_app hj) hA o _ hv _ rfl).mono fun e w2 ⟨he, hw⟩ => ⟨by rw [he, hv], (hset _ _) ▸ hw⟩)
        · rw [if_neg hv] at hr
          simp only [Prod.mk.injEq] at hr
          obtain ⟨rfl, rfl, rfl⟩ := hr
          rw [hsame]
          exact ask_4 h _ _ A v o z _ true (hD _) (fun w' h' => (own_swap_no h' j (at_app hj) hA v o _ rfl hv).mono fun e w2 ⟨he, hw⟩ => ⟨he, hw ▸ h'⟩)
  · rw [if_neg hk] at hr
    simp only [Prod.mk.injEq] at hr
    obtain ⟨rfl, rfl, rfl⟩ := hr
    rw [hsame]
    exact ask_no h _ k a v o z (by omega)
theorem cask_nil {w0 w : World} {L : List Ast} (h : Own w0 w L) (k a v o z : Int) : Calls Try.prog 9 #[.pointer none, .agg #[.int .i64 k, .int .i64 a, .int .i64 v, .int .i64 o, .int .i64 z]] w fun e w' => e = .returned (.tuple #[.int .i64 0, .bool false]) ∧ Own w0 w' L := by
  have hD : ∀ (X : Ast) (w' : World), Own w0 w' (L ++ [X]) → Calls Try.prog 12 #[.pointer none] w' fun e w2 => e = .returned (.pointer none) ∧ w' = w2 := fun X w' h' => cdata_nil w'
  by_cases hk : 1 ≤ k ∧ k ≤ 4
  · rcases (show k = 1 ∨ k = 2 ∨ k = 3 ∨ k = 4 by omega) with rfl | rfl | rfl | rfl
    · exact ask_1 h _ _ a v o z 0 false (hD _) (fun w' h' => (load_none a w').mono fun e w2 ⟨he, hw⟩ => ⟨he, hw ▸ h'⟩)
    · exact ask_2 h _ _ a v o z false (hD _) (fun w' h' => (store_none a v w').mono fun e w2 ⟨he, hw⟩ => ⟨he, hw ▸ h'⟩)
    · exact ask_3 h _ _ a v o z 0 false (hD _) (fun w' h' => (add_none a v w').mono fun e w2 ⟨he, hw⟩ => ⟨he, hw ▸ h'⟩)
    · exact ask_4 h _ _ a v o z 0 false (hD _) (fun w' h' => (swap_none a v o w').mono fun e w2 ⟨he, hw⟩ => ⟨he, hw ▸ h'⟩)
  · exact ask_no h _ k a v o z (by omega)
theorem cserial {w0 w : World} {L : List Ast} (h : Own w0 w L) (i : Nat) {cb gs gd ob lb : Nat} {q : QP} {fv ft : Value} {se st wy : Int} (hi : L[i]? = some (coreC cb gs gd ob lb q fv ft se st wy)) (h0 : 0 ≤ se ∧ se ≤ 100000) :
    Calls Try.prog 16 #[.pointer (some ⟨cb, 0, none⟩)] w fun e w' => e = .returned (.int .i64 (se + 1)) ∧ Own w0 w' (L.set i (coreC cb gs gd ob lb q fv ft (se + 1) st wy)) := by
  obtain ⟨c, f⟩ := h.cget i hi 20
  simp at c
  have hO := Lib.hid (h.cset i hi 20 (.int .i64 (se + 1)))
  have k : IntKind.i64.wrap (se + 1) = se + 1 := IntWalk.i64_in _ (by omega)
  clear h
  go_enter Try.func16, Try.ntmps16
  go_wp2
  go_ret
  exact ⟨rfl, hO.out⟩
theorem cserial_nil (w : World) : Calls Try.prog 16 #[.pointer none] w fun e w' => e = .returned (.int .i64 0) ∧ w = w' := by
  go_enter Try.func16, Try.ntmps16
  go_wp2
  go_ret
  exact ⟨rfl, rfl⟩
theorem cstop {w0 w : World} {L : List Ast} (h : Own w0 w L) (i : Nat) {cb gs gd ob lb : Nat} {q : QP} {fv ft : Value} {se st wy : Int} (hi : L[i]? = some (coreC cb gs gd ob lb q fv ft se st wy)) (s y : Int) :
    Calls Try.prog 14 #[.pointer (some ⟨cb, 0, none⟩), .int .i64 s, .int .i64 y] w fun e w' => e = .returned (.tuple #[]) ∧ Own w0 w' (L.set i (coreC cb gs gd ob lb q fv ft se (if st = 0 then s else st) (if st = 0 then y else wy))) := by
  obtain ⟨c, f⟩ := h.cget i hi 21
  obtain ⟨c2, f2⟩ := h.cget i hi 22
  simp at c c2
  have hsame : L.set i (coreC cb gs gd ob lb q fv ft se st wy) = L := set_same hi
  by_cases hs : st = 0
  · subst hs
    have h1 := h.cset i hi 21 (.int .i64 s)
    have hO := Lib.hid (h1.cset i (List.getElem?_set_self (List.getElem?_eq_some_iff.1 hi).1) 22 (.int .i64 y))
    rw [List.set_set] at hO
    clear h h1
    go_enter Try.func14, Try.ntmps14
    go_wp2
    go_end0
    exact ⟨rfl, hO.out⟩
  · have hs2 : (st == 0) = false := by simpa using hs
    rw [if_neg hs, if_neg hs, hsame]
    replace h := Lib.hid h
    go_enter Try.func14, Try.ntmps14
    go_wp2
    go_end0
    exact ⟨rfl, h.out⟩
theorem cstop_nil (w : World) (s y : Int) : Calls Try.prog 14 #[.pointer none, .int .i64 s, .int .i64 y] w fun e w' => e = .returned (.tuple #[]) ∧ w = w' := by
  go_enter Try.func14, Try.ntmps14
  go_wp2
  go_end0
  exact ⟨rfl, rfl⟩
theorem cstatus {w : World} {cb : Nat} {st wy : Int} (c : ∀ n, (w.drewN n).cell? ⟨cb, 21, none⟩ = some (.int .i64 st)) (c2 : ∀ n, (w.drewN n).cell? ⟨cb, 22, none⟩ = some (.int .i64 wy)) :
    Calls Try.prog 15 #[.pointer (some ⟨cb, 0, none⟩)] w fun e w' => e = .returned (.tuple #[.int .i64 st, .int .i64 wy]) ∧ ∃ n, w' = w.drewN n := by
  have c' := c 0
  have c2' := c2 0
  go_enter Try.func15, Try.ntmps15
  go_wp2_with fail
  go_quiet (fail)
  go_wp2_with fail
  go_ret2
  exact ⟨rfl, _, rfl⟩
theorem cstatus_nil (w : World) : Calls Try.prog 15 #[.pointer none] w fun e w' => e = .returned (.tuple #[.int .i64 0, .int .i64 0]) ∧ w = w' := by
  go_enter Try.func15, Try.ntmps15
  go_wp2
  go_ret2
  exact ⟨rfl, rfl⟩
end Go.Proofs.Ytcegncbnanbenaa
