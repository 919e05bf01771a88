/- Contracts and plain facts, cut out of the texts that other statements use:  Frame, Frame2, Frame3, Root, FrameKin, FrameEq, Works16, TableFree. -/
import Derived.Test.YtcegncbnanbenaaCoStore
import Derived.Deep.MidRow
import Derived.ChangeKeysEq
set_option linter.unusedVariables false
set_option linter.unusedSimpArgs false
namespace Go.Proofs.Ytcegncbnanbenaa
section
open Go.RowKit
set_option maxRecDepth 100000
set_option maxHeartbeats 8000000
theorem Try.infoFrame : (Try.prog.info? 79).map (fun i => (i.zero, i.size, i.bytes)) = some (some (.agg #[.int .i64 0, .int .i64 0, .int .i64 0, .int .i64 0, .int .i64 0, .int .i64 0, .int .i64 0, .int .i64 0, .int .i64 0, .int .i64 0, .int .i64 0, .int .i64 0, .bool false, .bool false, .int .i64 0, .int .i64 0, .int .i64 0, .int .i64 0, .int .i64 0]), 19, 144) := by kernel_rfl
theorem Own.pm {w0 w : World} {l l' : List Ast} (h : Own w0 w l) (hp : l.Perm l') : Own w0 w l' :=
  ⟨h.below, fun A hA => h.all A (hp.mem_iff.2 hA), fun A hA => h.own A (hp.mem_iff.2 hA), hp.pairwise h.sep (fun hab k hk hk' => hab k hk' hk)⟩
/-- What has been made since w, beside what had been made till w. -/
theorem Own.join {w0 w w' : World} {l l2 : List Ast} (h : Own w0 w l) (h2 : Own w w' l2) : Own w0 w' (l2 ++ l) := by
  have hg := h.grow h2.below
  have hz := h.below.size
  refine ⟨hg.below, fun A hA => ?_, fun A hA k hk => ?_, ?_⟩
  · rcases List.mem_append.1 hA with hA | hA
    · exact h2.all A hA
    · exact hg.all A hA
  · rcases List.mem_append.1 hA with hA | hA
    · have := h2.own A hA k hk; omega
    · exact h.own A hA k hk
  · refine List.pairwise_append.2 ⟨h2.sep, h.sep, fun A hA B hB k hk hk' => ?_⟩
    have h3 := h2.own A hA k hk
    have h4 := B.lt (h.all B hB) k hk'
    omega
theorem aNew_own (n : Int) (M : Nat) (hM : min (max n 0) 1000 = (M : Int)) {w0 w : World} {l : List Ast} (h : Own w0 w l) : Calls Try.prog 77 #[.int .i64 n] w fun e w' => ∃ g hb, e = .returned (.pointer (some ⟨g, 0, none⟩)) ∧ AOwn w0 w' g hb (List.replicate (M + 1) false) [] 0 0 l := by
  refine (aNew_any n M hM (Below.refl _ w)).mono ?_
  rintro e w' ⟨rfl, bv, h2⟩
  exact ⟨_, _, rfl, bv, h.join h2⟩
theorem own_fill {w0 w : World} {l : List Ast} (h : Own w0 w l) (i : Nat) {g b : Nat} {ms : List Int} (hi : l[i]? = some (storeA g b ms)) (at_ many n : Int) (h0 : 0 ≤ at_ ∧ at_ ≤ 9223372036854775807) (h1 : -9223372036854775808 ≤ many ∧ many ≤ 9223372036854775807) (ms' : List Int) (hm : fillL ms at_ many n ms.length = ms') :
    Calls Try.prog 79 #[.pointer (some ⟨g, 0, none⟩), .int .i64 at_, .int .i64 many, .int .i64 n] w fun e w' => e = .returned (.tuple #[]) ∧ Own w0 w' (l.set i (storeA g b ms')) := by
  subst hm
  refine (fill_core (h.st i hi) at_ many n at_ many (by omega) h1 (.inr (.inl ⟨by omega, rfl, rfl⟩))).mono ?_
  rintro e w' ⟨rfl, hS, hT⟩
  exact ⟨rfl, h.move i hi ⟨hS, hT.mono fun k hk => .inr hk, fun k hk => .inl hk⟩⟩
/-- A table's own pieces: its cells, the store that it stands over, its row of frames. -/
def tabL (tb gs sb ag rb n : Nat) (a b c d : Int) (ms : List Int) (xs : List Value) (l : List Ast) : List Ast :=
  cellsA tb #[.int .i64 a, .int .i64 b, .int .i64 c, .int .i64 d, .pointer (some ⟨gs, 0, none⟩), .pointer (some ⟨ag, 0, none⟩), .slice (some ⟨rb, 0, none⟩) n n] 118 :: storeA gs sb ms :: rowA 79 19 (.slice (some ⟨rb, 0, none⟩) n n) n xs :: l
def TOwn (w0 w : World) (tb gs sb ag hb rb n : Nat) (a b c d : Int) (ms : List Int) (xs : List Value) (hs : List Bool) (bs : List Int) (fr : Nat) (pk : Int) (l : List Ast) : Prop :=
  AOwn w0 w ag hb hs bs fr pk (tabL tb gs sb ag rb n a b c d ms xs l)
theorem cells4p {w0 w : World} {l : List Ast} {b : Nat} {v0 v1 v2 v3 : Value} {t : TypeId} (i : Nat) (h : Own w0 w l) (hi : l[i]? = some (cellsA b #[v0, v1, v2, v3] t)) : w.cell? ⟨b, 0, none⟩ = some v0 ∧ w.cell? ⟨b, 1, none⟩ = some v1 ∧ w.cell? ⟨b, 2, none⟩ = some v2 ∧ w.cell? ⟨b, 3, none⟩ = some v3 :=
  ⟨(h.cget i hi 0).1, (h.cget i hi 1).1, (h.cget i hi 2).1, (h.cget i hi 3).1⟩
theorem tnew_perm {α : Type} (A B C S R T : α) (l : List α) : (A :: B :: C :: S :: (l ++ [R, T])).Perm (A :: B :: C :: T :: S :: R :: l) := by
  refine .cons _ (.cons _ (.cons _ ?_))
  have h1 : (S :: (l ++ [R, T])).Perm (S :: ([R, T] ++ l)) := .cons _ List.perm_append_comm
  refine h1.trans ?_
  refine (List.Perm.cons S (List.Perm.swap T R l)).trans ?_
  exact List.Perm.swap T S _
theorem tnew_any {w0 w : World} {l : List Ast} {gs sb : Nat} {ms : List Int} (h : Own w0 w (storeA gs sb ms :: l)) (a b c d : Int) (M : Nat) (hM : (if okPlan a b c d = true then b else 0) = (M : Int)) (hM2 : M ≤ 256) :
    Calls Try.prog 52 #[.agg #[.int .i64 a, .int .i64 b, .int .i64 c, .int .i64 d], .pointer (some ⟨gs, 0, none⟩)] w fun e w' => ∃ tb ag hb rb, e = .returned (.pointer (some ⟨tb, 0, none⟩)) ∧ TOwn w0 w' tb gs sb ag hb rb (M + 1) a b c d ms (madeCells #[.int .i64 0, .int .i64 0, .int .i64 0, .int .i64 0, .int .i64 0, .int .i64 0, .int .i64 0, .int .i64 0, .int .i64 0, .int .i64 0, .int .i64 0, .int .i64 0, .bool false, .bool false, .int .i64 0, .int .i64 0, .int .i64 0, .int .i64 0, .int .i64 0] ((M + 1) * 19)).toList (List.replicate (M + 1) false) [] 0 0 l := by
  obtain ⟨i1, hi1, hw0, hw1', hw2'⟩ := info_parts' Try.infoFrame
  have hO := h.box #[.int .i64 a, .int .i64 b, .int .i64 c, .int .i64 d] 72
  have hbad : ((checkOf a b c d) != 0) = !(okPlan a b c d) := by
    unfold checkOf
    cases okPlan a b c d <;> simp
  obtain ⟨E, hE⟩ : ∃ E, checkOf a b c d = E := ⟨_, rfl⟩
  rw [hE] at hbad
  generalize okPlan a b c d = ok at *
  clear h
  have hX : Own w0 (w.alloc (.cells #[.int .i64 a, .int .i64 b, .int .i64 c, .int .i64 d] 72)) (cellsA w.heap.size #[.int .i64 a, .int .i64 b, .int .i64 c, .int .i64 d] 72 :: storeA gs sb ms :: l) := hO.pm (List.perm_append_comm (l₂ := [_]))
  have C := Lib.hid ((check_any a b c d _).mono fun e w' (he : _ ∧ _) => And.intro he.1 (hX.grow he.2))
  rw [hE] at C
  obtain ⟨x0, x1, x2, x3⟩ := cells4p 0 hX rfl
  clear hO
  go_enter Try.func52, Try.ntmps52
  go_upto_if 10 with (first | (go_at_call 61; refine C.out.mono ?_; rintro e u ⟨rfl, hU⟩))
  clear x0 x1 x2 x3 hX C
  generalize w.heap.size = xb at *
  go_cut [5] from 11 to 11 (fun m wx => m = .int .i64 (M : Int) ∧ wx = u)
  case first =>
    cases ok
    · have hM0 := Lib.hid (show (0 : Int) = M by simpa using hM)
      clear hM
      go_wp2_with fail
      go_meet
      exact ⟨by rw [← hM0.out], rfl⟩
    · have hM0 := Lib.hid (show b = (M : Int) by simpa using hM)
      clear hM
      go_wp2_with fail
      go_meet
      exact ⟨by rw [← hM0.out], rfl⟩
  case rest =>
    obtain ⟨rfl, hwx⟩ := hcut
    replace hwx := hwx.symm
    subst hwx
    clear hbad hM hE
    have hwr : IntKind.i64.wrap ((M : Int) + 1) = (M : Int) + 1 := IntWalk.i64_in _ (by omega)
    have hU' : Own w0 u.drew (cellsA xb #[.int .i64 a, .int .i64 b, .int .i64 c, .int .i64 d] 72 :: storeA gs sb ms :: l) := hU.drewN 1
    clear hU
    go_upto_region 4 with fail
    refine lin_start (S := (fun w' : World => w'.cell? ⟨xb, 0, none⟩ = some (.int .i64 a) ∧ w'.cell? ⟨xb, 1, none⟩ = some (.int .i64 b) ∧ w'.cell? ⟨xb, 2, none⟩ = some (.int .i64 c) ∧ w'.cell? ⟨xb, 3, none⟩ = some (.int .i64 d))) rfl 10 rfl (cells4p 0 hU' rfl) ?_
    simp only [numbered, Nat.zero_add, Nat.reduceAdd]
    generalize u.drew = u0 at *
    have hHeld := (show (fun w' : World => w'.cell? ⟨xb, 0, none⟩ = some (.int .i64 a) ∧ w'.cell? ⟨xb, 1, none⟩ = some (.int .i64 b) ∧ w'.cell? ⟨xb, 2, none⟩ = some (.int .i64 c) ∧ w'.cell? ⟨xb, 3, none⟩ = some (.int .i64 d)) u0 from cells4p 0 hU' rfl)
    refine lin_take (v := ?_) (by kernel_rfl) (by kernel_rfl) (fun _ _ _ h => h) (Or.inl ⟨by rfl, ?_⟩) (by assumption) ?_; (rotate_left; (intro wS hSw; (try dsimp only at hSw); go_simp; (try with_reducible rfl)); rotate_left); simp only [Act.put, List.setIfInBounds_toArray, List.set_cons_zero, List.set_cons_succ]
    refine lin_take (v := ?_) (by kernel_rfl) (by kernel_rfl) (fun _ _ _ h => h) (Or.inl ⟨by rfl, ?_⟩) (by assumption) ?_; (rotate_left; (intro wS hSw; (try dsimp only at hSw); go_simp; (try with_reducible rfl)); rotate_left); simp only [Act.put, List.setIfInBounds_toArray, List.set_cons_zero, List.set_cons_succ]
    refine lin_take (v := ?_) (by kernel_rfl) (by kernel_rfl) (fun _ _ _ h => h) (Or.inl ⟨by rfl, ?_⟩) (by assumption) ?_; (rotate_left; (intro wS hSw; (try dsimp only at hSw); go_simp; (try with_reducible rfl)); rotate_left); simp only [Act.put, List.setIfInBounds_toArray, List.set_cons_zero, List.set_cons_succ]
    refine lin_rot ?_; simp only [List.cons_append, List.nil_append]
    refine lin_take (v := ?_) (by kernel_rfl) (by kernel_rfl) (fun _ _ _ h => h) (Or.inl ⟨by rfl, ?_⟩) (by assumption) ?_; (rotate_left; (intro wS hSw; (try dsimp only at hSw); go_simp; (try with_reducible rfl)); rotate_left); simp only [Act.put, List.setIfInBounds_toArray, List.set_cons_zero, List.set_cons_succ]
    refine lin_take (v := ?_) (by kernel_rfl) (by kernel_rfl) (fun _ _ _ h => h) (Or.inl ⟨by rfl, ?_⟩) (by assumption) ?_; (rotate_left; (intro wS hSw; (try dsimp only at hSw); go_simp; (try with_reducible rfl)); rotate_left); simp only [Act.put, List.setIfInBounds_toArray, List.set_cons_zero, List.set_cons_succ]
    refine lin_rot ?_; simp only [List.cons_append, List.nil_append]
    refine lin_rot ?_; simp only [List.cons_append, List.nil_append]
    refine lin_rot ?_; simp only [List.cons_append, List.nil_append]
    refine lin_rot ?_; simp only [List.cons_append, List.nil_append]
    refine lin_pair (by kernel_rfl) ?pone ?ptwo
    case' pone =>
      intro K hK
      go_simp
      refine (aNew_own (M : Int) M (by omega) hU').mono ?_
      rintro e u1 ⟨ag, hb, rfl, bv, h1⟩
      have hHeld2 := (show (fun w' : World => w'.cell? ⟨xb, 0, none⟩ = some (.int .i64 a) ∧ w'.cell? ⟨xb, 1, none⟩ = some (.int .i64 b) ∧ w'.cell? ⟨xb, 2, none⟩ = some (.int .i64 c) ∧ w'.cell? ⟨xb, 3, none⟩ = some (.int .i64 d)) u1 from cells4p 3 h1 rfl)
      refine hK.out _ _ hHeld2 (fun hHeld => ?_)
      try simp only [Act.put, List.setIfInBounds_toArray, List.set_cons_zero, List.set_cons_succ]
      clear hK hU'
      refine lin_law (by kernel_rfl) rfl ?_
      refine wpList_make_any _ rfl _ _ 116 rfl 79 i1 (.agg #[.int .i64 0, .int .i64 0, .int .i64 0, .int .i64 0, .int .i64 0, .int .i64 0, .int .i64 0, .int .i64 0, .int .i64 0, .int .i64 0, .int .i64 0, .int .i64 0, .bool false, .bool false, .int .i64 0, .int .i64 0, .int .i64 0, .int .i64 0, .int .i64 0]) 19 144 Try.underlying116 hi1 hw0 hw1' hw2' .i64 .i64 ((M : Int) + 1) ((M : Int) + 1) rfl rfl (by omega) (by omega) (by omega) (by decide) ?_
      simp only [show ((M : Int) + 1).toNat = M + 1 by omega, Value.cells]
      have h2 := h1.row_made 79 19 (madeCells #[.int .i64 0, .int .i64 0, .int .i64 0, .int .i64 0, .int .i64 0, .int .i64 0, .int .i64 0, .int .i64 0, .int .i64 0, .int .i64 0, .int .i64 0, .int .i64 0, .bool false, .bool false, .int .i64 0, .int .i64 0, .int .i64 0, .int .i64 0, .int .i64 0] ((M + 1) * 19)) (M + 1) (by unfold maxLen; omega) (by simp [madeCells])
      generalize u1.alloc (.cells (madeCells #[.int .i64 0, .int .i64 0, .int .i64 0, .int .i64 0, .int .i64 0, .int .i64 0, .int .i64 0, .int .i64 0, .int .i64 0, .int .i64 0, .int .i64 0, .int .i64 0, .bool false, .bool false, .int .i64 0, .int .i64 0, .int .i64 0, .int .i64 0, .int .i64 0] ((M + 1) * 19)) 79) = u2 at *
      generalize u1.heap.size = rb at *
      have hHeld2 := (show (fun w' : World => w'.cell? ⟨xb, 0, none⟩ = some (.int .i64 a) ∧ w'.cell? ⟨xb, 1, none⟩ = some (.int .i64 b) ∧ w'.cell? ⟨xb, 2, none⟩ = some (.int .i64 c) ∧ w'.cell? ⟨xb, 3, none⟩ = some (.int .i64 d)) u2 from cells4p 3 h2 rfl)
      refine wpList_nil ⟨rfl, hHeld2, fun hHeld => ?_⟩
      try simp only [Act.put, List.setIfInBounds_toArray, List.set_cons_zero, List.set_cons_succ]
      clear hHeld2
      clear h1
      refine lin_take (v := ?_) (by kernel_rfl) (by kernel_rfl) (fun _ _ _ h => h) (Or.inl ⟨by rfl, ?_⟩) (by assumption) ?_; (rotate_left; (intro wS hSw; (try dsimp only at hSw); go_simp; (try with_reducible rfl)); rotate_left); simp only [Act.put, List.setIfInBounds_toArray, List.set_cons_zero, List.set_cons_succ]
      refine lin_sole (by kernel_rfl) (fun K hK => ?_)
      go_simp
      have h4 := h2.box #[.int .i64 a, .int .i64 b, .int .i64 c, .int .i64 d, .pointer (some ⟨gs, 0, none⟩), .pointer (some ⟨ag, 0, none⟩), .slice (some ⟨rb, 0, none⟩) (M + 1) (M + 1)] 118
      refine hK.out _ _ (cells4p 3 h4 rfl) (fun hHeld => ?_)
      try simp only [Act.put, List.setIfInBounds_toArray, List.set_cons_zero, List.set_cons_succ]
      clear hK h2
      generalize u2.alloc (.cells #[.int .i64 a, .int .i64 b, .int .i64 c, .int .i64 d, .pointer (some ⟨gs, 0, none⟩), .pointer (some ⟨ag, 0, none⟩), .slice (some ⟨rb, 0, none⟩) (M + 1) (M + 1)] 118) = u5 at *
      generalize u2.heap.size = tb at *
      clear hHeld
      have hHeld := (show (fun w' : World => w'.cell? ⟨xb, 0, none⟩ = some (.int .i64 a) ∧ w'.cell? ⟨xb, 1, none⟩ = some (.int .i64 b) ∧ w'.cell? ⟨xb, 2, none⟩ = some (.int .i64 c) ∧ w'.cell? ⟨xb, 3, none⟩ = some (.int .i64 d)) u5 from cells4p 3 h4 rfl)
      refine lin_take (v := ?_) (by kernel_rfl) (by kernel_rfl) (fun _ _ _ h => h) (Or.inl ⟨by rfl, ?_⟩) (by assumption) ?_; (rotate_left; (intro wS hSw; (try dsimp only at hSw); go_simp; (try with_reducible rfl)); rotate_left); simp only [Act.put, List.setIfInBounds_toArray, List.set_cons_zero, List.set_cons_succ]
      refine lin_done (by kernel_rfl) ?_
      have hfin : TOwn w0 u5 tb gs sb ag hb rb (M + 1) a b c d ms (madeCells #[.int .i64 0, .int .i64 0, .int .i64 0, .int .i64 0, .int .i64 0, .int .i64 0, .int .i64 0, .int .i64 0, .int .i64 0, .int .i64 0, .int .i64 0, .int .i64 0, .bool false, .bool false, .int .i64 0, .int .i64 0, .int .i64 0, .int .i64 0, .int .i64 0] ((M + 1) * 19)).toList (List.replicate (M + 1) false) [] 0 0 l :=
        ⟨bv, (h4.sub (l' := _ :: _ :: _ :: storeA gs sb ms :: (l ++ [rowA 79 19 (.slice (some ⟨rb, 0, none⟩) (M + 1) (M + 1)) (M + 1) (madeCells #[.int .i64 0, .int .i64 0, .int .i64 0, .int .i64 0, .int .i64 0, .int .i64 0, .int .i64 0, .int .i64 0, .int .i64 0, .int .i64 0, .int .i64 0, .int .i64 0, .bool false, .bool false, .int .i64 0, .int .i64 0, .int .i64 0, .int .i64 0, .int .i64 0] ((M + 1) * 19)).toList, cellsA tb #[.int .i64 a, .int .i64 b, .int .i64 c, .int .i64 d, .pointer (some ⟨gs, 0, none⟩), .pointer (some ⟨ag, 0, none⟩), .slice (some ⟨rb, 0, none⟩) (M + 1) (M + 1)] 118])) (by simp [arenaL])).pm (tnew_perm _ _ _ _ _ _ _)⟩
      clear h4 hHeld
      go_wp2_with fail
      go_ret
      exact ⟨tb, rfl, ag, hb, rb, hfin⟩
    case' ptwo =>
      intro K hK
      refine comes_law rfl ?_ K hK
      refine wpList_make_any _ rfl _ _ 116 rfl 79 i1 (.agg #[.int .i64 0, .int .i64 0, .int .i64 0, .int .i64 0, .int .i64 0, .int .i64 0, .int .i64 0, .int .i64 0, .int .i64 0, .int .i64 0, .int .i64 0, .int .i64 0, .bool false, .bool false, .int .i64 0, .int .i64 0, .int .i64 0, .int .i64 0, .int .i64 0]) 19 144 Try.underlying116 hi1 hw0 hw1' hw2' .i64 .i64 ((M : Int) + 1) ((M : Int) + 1) rfl rfl (by omega) (by omega) (by omega) (by decide) ?_
      simp only [show ((M : Int) + 1).toNat = M + 1 by omega, Value.cells]
      have h2 := hU'.row_made 79 19 (madeCells #[.int .i64 0, .int .i64 0, .int .i64 0, .int .i64 0, .int .i64 0, .int .i64 0, .int .i64 0, .int .i64 0, .int .i64 0, .int .i64 0, .int .i64 0, .int .i64 0, .bool false, .bool false, .int .i64 0, .int .i64 0, .int .i64 0, .int .i64 0, .int .i64 0] ((M + 1) * 19)) (M + 1) (by unfold maxLen; omega) (by simp [madeCells])
      generalize u0.alloc (.cells (madeCells #[.int .i64 0, .int .i64 0, .int .i64 0, .int .i64 0, .int .i64 0, .int .i64 0, .int .i64 0, .int .i64 0, .int .i64 0, .int .i64 0, .int .i64 0, .int .i64 0, .bool false, .bool false, .int .i64 0, .int .i64 0, .int .i64 0, .int .i64 0, .int .i64 0] ((M + 1) * 19)) 79) = u2 at *
      generalize u0.heap.size = rb at *
      have hHeld2 := (show (fun w' : World => w'.cell? ⟨xb, 0, none⟩ = some (.int .i64 a) ∧ w'.cell? ⟨xb, 1, none⟩ = some (.int .i64 b) ∧ w'.cell? ⟨xb, 2, none⟩ = some (.int .i64 c) ∧ w'.cell? ⟨xb, 3, none⟩ = some (.int .i64 d)) u2 from cells4p 0 h2 rfl)
      refine wpList_nil ⟨rfl, hHeld2, fun hHeld => ?_⟩
      try simp only [Act.put, List.setIfInBounds_toArray, List.set_cons_zero, List.set_cons_succ]
      clear hHeld2
      clear hU' hK
      refine lin_sole (by kernel_rfl) (fun K hK => ?_)
      go_simp
      refine (aNew_own (M : Int) M (by omega) h2).mono ?_
      rintro e u3 ⟨ag, hb, rfl, bv, h3⟩
      have hHeld2 := (show (fun w' : World => w'.cell? ⟨xb, 0, none⟩ = some (.int .i64 a) ∧ w'.cell? ⟨xb, 1, none⟩ = some (.int .i64 b) ∧ w'.cell? ⟨xb, 2, none⟩ = some (.int .i64 c) ∧ w'.cell? ⟨xb, 3, none⟩ = some (.int .i64 d)) u3 from cells4p 3 h3 rfl)
      refine hK.out _ _ hHeld2 (fun hHeld => ?_)
      try simp only [Act.put, List.setIfInBounds_toArray, List.set_cons_zero, List.set_cons_succ]
      clear hK h2
      generalize u3 = u2 at *
      have h2 := h3
      clear h3
      refine lin_take (v := ?_) (by kernel_rfl) (by kernel_rfl) (fun _ _ _ h => h) (Or.inl ⟨by rfl, ?_⟩) (by assumption) ?_; (rotate_left; (intro wS hSw; (try dsimp only at hSw); go_simp; (try with_reducible rfl)); rotate_left); simp only [Act.put, List.setIfInBounds_toArray, List.set_cons_zero, List.set_cons_succ]
      refine lin_sole (by kernel_rfl) (fun K hK => ?_)
      go_simp
      have h4 := h2.box #[.int .i64 a, .int .i64 b, .int .i64 c, .int .i64 d, .pointer (some ⟨gs, 0, none⟩), .pointer (some ⟨ag, 0, none⟩), .slice (some ⟨rb, 0, none⟩) (M + 1) (M + 1)] 118
      refine hK.out _ _ (cells4p 3 h4 rfl) (fun hHeld => ?_)
      try simp only [Act.put, List.setIfInBounds_toArray, List.set_cons_zero, List.set_cons_succ]
      clear hK h2
      generalize u2.alloc (.cells #[.int .i64 a, .int .i64 b, .int .i64 c, .int .i64 d, .pointer (some ⟨gs, 0, none⟩), .pointer (some ⟨ag, 0, none⟩), .slice (some ⟨rb, 0, none⟩) (M + 1) (M + 1)] 118) = u5 at *
      generalize u2.heap.size = tb at *
      clear hHeld
      have hHeld := (show (fun w' : World => w'.cell? ⟨xb, 0, none⟩ = some (.int .i64 a) ∧ w'.cell? ⟨xb, 1, none⟩ = some (.int .i64 b) ∧ w'.cell? ⟨xb, 2, none⟩ = some (.int .i64 c) ∧ w'.cell? ⟨xb, 3, none⟩ = some (.int .i64 d)) u5 from cells4p 3 h4 rfl)
      refine lin_take (v := ?_) (by kernel_rfl) (by kernel_rfl) (fun _ _ _ h => h) (Or.inl ⟨by rfl, ?_⟩) (by assumption) ?_; (rotate_left; (intro wS hSw; (try dsimp only at hSw); go_simp; (try with_reducible rfl)); rotate_left); simp only [Act.put, List.setIfInBounds_toArray, List.set_cons_zero, List.set_cons_succ]
      refine lin_done (by kernel_rfl) ?_
      have hfin : TOwn w0 u5 tb gs sb ag hb rb (M + 1) a b c d ms (madeCells #[.int .i64 0, .int .i64 0, .int .i64 0, .int .i64 0, .int .i64 0, .int .i64 0, .int .i64 0, .int .i64 0, .int .i64 0, .int .i64 0, .int .i64 0, .int .i64 0, .bool false, .bool false, .int .i64 0, .int .i64 0, .int .i64 0, .int .i64 0, .int .i64 0] ((M + 1) * 19)).toList (List.replicate (M + 1) false) [] 0 0 l :=
        ⟨bv, (h4.sub (l' := _ :: _ :: _ :: storeA gs sb ms :: (l ++ [rowA 79 19 (.slice (some ⟨rb, 0, none⟩) (M + 1) (M + 1)) (M + 1) (madeCells #[.int .i64 0, .int .i64 0, .int .i64 0, .int .i64 0, .int .i64 0, .int .i64 0, .int .i64 0, .int .i64 0, .int .i64 0, .int .i64 0, .int .i64 0, .int .i64 0, .bool false, .bool false, .int .i64 0, .int .i64 0, .int .i64 0, .int .i64 0, .int .i64 0] ((M + 1) * 19)).toList, cellsA tb #[.int .i64 a, .int .i64 b, .int .i64 c, .int .i64 d, .pointer (some ⟨gs, 0, none⟩), .pointer (some ⟨ag, 0, none⟩), .slice (some ⟨rb, 0, none⟩) (M + 1) (M + 1)] 118])) (by simp [arenaL])).pm (tnew_perm _ _ _ _ _ _ _)⟩
      clear h4 hHeld
      go_wp2_with fail
      go_ret
      exact ⟨tb, rfl, ag, hb, rb, hfin⟩
end
section
open Go.RowKit
set_option maxRecDepth 100000
set_option maxHeartbeats 8000000
theorem AOwn.pm {w0 w : World} {g hb : Nat} {hs : List Bool} {bs : List Int} {fr : Nat} {pk : Int} {l l' : List Ast} (h : AOwn w0 w g hb hs bs fr pk l) (hp : l.Perm l') : AOwn w0 w g hb hs bs fr pk l' :=
  h.elim fun bv h => ⟨bv, h.pm (.cons _ (.cons _ (.cons _ hp)))⟩
theorem TOwn.boxed {w0 w : World} {tb gs sb ag hb rb n : Nat} {a b c d : Int} {ms : List Int} {xs : List Value} {hs : List Bool} {bs : List Int} {fr : Nat} {pk : Int} {l : List Ast} (h : TOwn w0 w tb gs sb ag hb rb n a b c d ms xs hs bs fr pk l) (cs : Array Value) (t : TypeId) :
    AOwn w0 (w.alloc (.cells cs t)) ag hb hs bs fr pk (cellsA w.heap.size cs t :: tabL tb gs sb ag rb n a b c d ms xs l) := (AOwn.box h cs t).pm (List.perm_append_comm (l₂ := [_]))
/-- A list in which a stretch has been written anew. -/
def setsL (xs : List Value) (o : Nat) : List Value → List Value
  | [] => xs
  | v :: r => setsL (xs.set o v) (o + 1) r
theorem AOwn.tabset {w0 w : World} {tb gs sb ag hb rb n : Nat} {a b c d : Int} {ms : List Int} {xs : List Value} {hs : List Bool} {bs : List Int} {fr : Nat} {pk : Int} {l : List Ast} {X : Ast} (h : AOwn w0 w ag hb hs bs fr pk (X :: tabL tb gs sb ag rb n a b c d ms xs l)) (j : Nat) (u : Value) :
    AOwn w0 (w.setCell ⟨rb, j, none⟩ u) ag hb hs bs fr pk (X :: tabL tb gs sb ag rb n a b c d ms (xs.set j u) l) := by
  obtain ⟨bv, hO⟩ := h
  exact ⟨bv, hO.row_set 6 rfl j u rfl⟩
theorem AOwn.tabsets {tb gs sb ag hb rb n : Nat} {a b c d : Int} {ms : List Int} {hs : List Bool} {bs : List Int} {fr : Nat} {pk : Int} {l : List Ast} {X : Ast} {w0 : World} : ∀ (vs : List Value) (o : Nat) (xs : List Value) (w : World), AOwn w0 w ag hb hs bs fr pk (X :: tabL tb gs sb ag rb n a b c d ms xs l) →
    AOwn w0 (w.setCells rb o vs) ag hb hs bs fr pk (X :: tabL tb gs sb ag rb n a b c d ms (setsL xs o vs) l)
  | [], _, _, _, h => h
  | v :: r, o, xs, w, h => by
    rw [World.setCells]
    exact AOwn.tabsets r (o + 1) _ _ (h.tabset o v)
theorem tab_keep {w0 w : World} {tb gs sb ag hb rb n : Nat} {a b c d : Int} {ms : List Int} {xs : List Value} {hs : List Bool} {bs : List Int} {fr : Nat} {pk : Int} {l : List Ast} {X : Ast} (h : AOwn w0 w ag hb hs bs fr pk (X :: tabL tb gs sb ag rb n a b c d ms xs l)) : (fun w' : World => w'.cell? ⟨tb, 0, none⟩ = some (.int .i64 a) ∧ w'.cell? ⟨tb, 1, none⟩ = some (.int .i64 b) ∧ w'.cell? ⟨tb, 2, none⟩ = some (.int .i64 c) ∧ w'.cell? ⟨tb, 3, none⟩ = some (.int .i64 d) ∧ w'.cell? ⟨tb, 4, none⟩ = some (.pointer (some ⟨gs, 0, none⟩)) ∧ w'.cell? ⟨tb, 5, none⟩ = some (.pointer (some ⟨ag, 0, none⟩)) ∧ w'.cell? ⟨tb, 6, none⟩ = some (.slice (some ⟨rb, 0, none⟩) n n)) w := by
  obtain ⟨bv, hO⟩ := h
  exact ⟨(hO.cget 4 rfl 0).1, (hO.cget 4 rfl 1).1, (hO.cget 4 rfl 2).1, (hO.cget 4 rfl 3).1, (hO.cget 4 rfl 4).1, (hO.cget 4 rfl 5).1, (hO.cget 4 rfl 6).1⟩
theorem fbox_keep {w0 w : World} {tb gs sb ag hb rb n : Nat} {a b c d : Int} {ms : List Int} {xs : List Value} {hs : List Bool} {bs : List Int} {fr : Nat} {pk : Int} {l : List Ast} {xb : Nat} {FV : Array Value} (h : AOwn w0 w ag hb hs bs fr pk (cellsA xb FV 79 :: tabL tb gs sb ag rb n a b c d ms xs l)) : (fun w' : World => w'.cell? ⟨tb, 0, none⟩ = some (.int .i64 a) ∧ w'.cell? ⟨tb, 1, none⟩ = some (.int .i64 b) ∧ w'.cell? ⟨tb, 2, none⟩ = some (.int .i64 c) ∧ w'.cell? ⟨tb, 3, none⟩ = some (.int .i64 d) ∧ w'.cell? ⟨tb, 4, none⟩ = some (.pointer (some ⟨gs, 0, none⟩)) ∧ w'.cell? ⟨tb, 5, none⟩ = some (.pointer (some ⟨ag, 0, none⟩)) ∧ w'.cell? ⟨tb, 6, none⟩ = some (.slice (some ⟨rb, 0, none⟩) n n) ∧ w'.rangeAt xb 0 FV.toList) w := by
  obtain ⟨t0, t1, t2, t3, t4, t5, t6⟩ := tab_keep h
  obtain ⟨bv, hO⟩ := h
  refine ⟨t0, t1, t2, t3, t4, t5, t6, fun j v hv => ?_⟩
  have := (hO.cget 3 rfl j).1
  rw [show (0 : Nat) + j = j by omega, this, ← Array.getElem?_toList]
  exact hv
theorem row_keep {w0 w : World} {tb gs sb ag hb rb n : Nat} {a b c d : Int} {ms : List Int} {xs : List Value} {hs : List Bool} {bs : List Int} {fr : Nat} {pk : Int} {l : List Ast} {id : Nat} {X : Ast} (h : AOwn w0 w ag hb hs bs fr pk (X :: tabL tb gs sb ag rb n a b c d ms xs l)) (hx : xs.length = n * 19) (hid : id < n) : w.there rb (id * 19) 19 := by
  obtain ⟨bv, hO⟩ := h
  intro k hk
  have hlt : id * 19 + k < xs.length := by omega
  exact ⟨by rw [hO.row_get 6 rfl (List.getElem?_eq_getElem hlt)]; rfl, hO.row_free 6 rfl (by omega)⟩
theorem AOwn.drop {w0 w : World} {g hb : Nat} {hs : List Bool} {bs : List Int} {fr : Nat} {pk : Int} {l : List Ast} {X : Ast} (h : AOwn w0 w g hb hs bs fr pk (X :: l)) : AOwn w0 w g hb hs bs fr pk l :=
  h.elim fun bv h => ⟨bv, h.sub (by simp [arenaL])⟩
theorem Try.sizeFrame : (Try.prog.info? 79).map (·.size) = some 19 := by kernel_rfl
theorem Try.rowFrame : (Try.prog.underlying 79).map (·.isRow) = some true := by kernel_rfl
theorem make_yes {w0 w : World} {tb gs sb ag hb rb n : Nat} {a b c d : Int} {ms : List Int} {xs : List Value} {hs : List Bool} {bs : List Int} {fr : Nat} {pk : Int} {l : List Ast} (h : TOwn w0 w tb gs sb ag hb rb n a b c d ms xs hs bs fr pk l) (hok : okPlan a b c d = true) (hx : xs.length = n * 19) (hln : hs.length = n) (hl : hs.length ≤ 4096) (hbl : bs.length ≤ 100000) (hfr : fr ≤ 4096) {id : Nat} {bs' : List Int} {fr' : Nat} (hn : nextA hs bs fr = some ((id : Int), bs', fr')) (hid : id < hs.length) (hs' : List Bool) (pk' : Int) (hh : hs.set id true = hs') (hp : max pk (cnt hs') = pk') (FV : Array Value) (hF : FV.size = 19) (hF1 : FV.all (·.oneCell') = true)
    (ms1 ms2 : List Int) (hm1 : fillL ms (frameV a b c d id) (roomV c) 0 ms.length = ms1) (hm2 : fillL ms1 (frameV a b c d id) 1 1 ms1.length = ms2) (hf0 : 0 ≤ frameV a b c d id ∧ frameV a b c d id ≤ 9223372036854775807) (hr0 : -9223372036854775808 ≤ roomV c ∧ roomV c ≤ 9223372036854775807) :
    Calls Try.prog 53 #[.pointer (some ⟨tb, 0, none⟩), .agg FV] w fun e w' => e = .returned (.tuple #[.int .i64 id, .bool true]) ∧ TOwn w0 w' tb gs sb ag hb rb n a b c d ms2 (setsL xs (id * 19) FV.toList) hs' bs' fr' pk' l := by
  obtain ⟨d0, hd1, hd2⟩ := Option.map_eq_some_iff.1 Try.rowFrame
  have hsz := Try.sizeFrame
  rw [← hF] at hsz
  have hB := h.boxed FV 79
  clear h
  have TK := Lib.hid (take_yes hB hl hbl hfr hn hid hs' pk' hh hp)
  have K0 := Lib.hid (fbox_keep hB)
  have hid' : id < n := by omega
  clear hn hh hp
  obtain ⟨t0, t1, t2, t3, t4, t5, t6, _⟩ := K0.out
  go_enter Try.func53, Try.ntmps53
  go_upto_region 6 with (first | (go_at_call 78; refine TK.out.mono ?_; rintro e w1 ⟨rfl, h1⟩; clear t0 t1 t2 t3 t4 t5 t6))
  have h2 := h1.drewN 1
  clear h1 TK K0 hB
  generalize w.heap.size = xb at *
  refine lin_start (S := (fun w' : World => w'.cell? ⟨tb, 0, none⟩ = some (.int .i64 a) ∧ w'.cell? ⟨tb, 1, none⟩ = some (.int .i64 b) ∧ w'.cell? ⟨tb, 2, none⟩ = some (.int .i64 c) ∧ w'.cell? ⟨tb, 3, none⟩ = some (.int .i64 d) ∧ w'.cell? ⟨tb, 4, none⟩ = some (.pointer (some ⟨gs, 0, none⟩)) ∧ w'.cell? ⟨tb, 5, none⟩ = some (.pointer (some ⟨ag, 0, none⟩)) ∧ w'.cell? ⟨tb, 6, none⟩ = some (.slice (some ⟨rb, 0, none⟩) n n) ∧ w'.rangeAt xb 0 FV.toList)) rfl 8 rfl (fbox_keep h2) ?_
  simp only [numbered, Nat.zero_add, Nat.reduceAdd]
  have hHeld := fbox_keep h2
  refine lin_take (v := ?_) (by kernel_rfl) (by kernel_rfl) (fun _ _ _ h => h) (Or.inl ⟨by rfl, ?_⟩) (by assumption) ?_; (rotate_left; (intro wS hSw; (try dsimp only at hSw); go_simp; (try with_reducible rfl)); rotate_left); simp only [Act.put, List.setIfInBounds_toArray, List.set_cons_zero, List.set_cons_succ]
  refine lin_take (v := ?_) (by kernel_rfl) (by kernel_rfl) (fun _ _ _ h => h) (Or.inl ⟨by rfl, ?_⟩) (by assumption) ?_; (rotate_left; (intro wS hSw; (try dsimp only at hSw); go_simp; (try with_reducible rfl)); rotate_left); simp only [Act.put, List.setIfInBounds_toArray, List.set_cons_zero, List.set_cons_succ]
  refine lin_take (v := ?_) (by kernel_rfl) (by kernel_rfl) (fun _ _ _ h => h) (Or.inl ⟨by rfl, ?_⟩) (by assumption) ?_; (rotate_left; (intro wS hSw; (try dsimp only at hSw); go_simp; (try with_reducible rfl)); rotate_left); simp only [Act.put, List.setIfInBounds_toArray, List.set_cons_zero, List.set_cons_succ]
  refine lin_take (v := ?_) (by kernel_rfl) (by kernel_rfl) (fun _ _ _ h => h) (Or.inl ⟨by rfl, ?_⟩) (by assumption) ?_; (rotate_left; (intro wS hSw; (try dsimp only at hSw); go_simp; (try with_reducible rfl)); rotate_left); simp only [Act.put, List.setIfInBounds_toArray, List.set_cons_zero, List.set_cons_succ]
  refine lin_take (v := ?_) (by kernel_rfl) (by kernel_rfl) (fun _ _ _ h => h) (Or.inl ⟨by rfl, ?_⟩) (by assumption) ?_; (rotate_left; (intro wS hSw; (try dsimp only at hSw); go_simp; (try with_reducible rfl)); rotate_left); simp only [Act.put, List.setIfInBounds_toArray, List.set_cons_zero, List.set_cons_succ]
  refine lin_take (v := .agg FV) (by kernel_rfl) (by kernel_rfl) (fun _ _ _ h => h) ?yl (by assumption) ?_
  case yl => exact yieldsIf_load_mid (P := Try.prog) (S := (fun w' : World => w'.cell? ⟨tb, 0, none⟩ = some (.int .i64 a) ∧ w'.cell? ⟨tb, 1, none⟩ = some (.int .i64 b) ∧ w'.cell? ⟨tb, 2, none⟩ = some (.int .i64 c) ∧ w'.cell? ⟨tb, 3, none⟩ = some (.int .i64 d) ∧ w'.cell? ⟨tb, 4, none⟩ = some (.pointer (some ⟨gs, 0, none⟩)) ∧ w'.cell? ⟨tb, 5, none⟩ = some (.pointer (some ⟨ag, 0, none⟩)) ∧ w'.cell? ⟨tb, 6, none⟩ = some (.slice (some ⟨rb, 0, none⟩) n n) ∧ w'.rangeAt xb 0 FV.toList)) rfl 79 (.tmp 3) rfl xb 0 rfl FV.toList d0 (fun _ h => h.2.2.2.2.2.2.2) hd1 hd2 hsz
  simp only [Act.put, List.setIfInBounds_toArray, List.set_cons_zero, List.set_cons_succ]
  refine lin_take (v := ?_) (by kernel_rfl) (by kernel_rfl) (fun _ _ _ h => h) (Or.inl ⟨by rfl, ?_⟩) (by assumption) ?_; (rotate_left; (intro wS hSw; (try dsimp only at hSw); go_simp; (try with_reducible rfl)); rotate_left); simp only [Act.put, List.setIfInBounds_toArray, List.set_cons_zero, List.set_cons_succ]
  have hrow : w1.drew.there rb (id * 19) FV.size := by rw [hF]; exact row_keep h2 hx hid'
  have h3 := AOwn.tabsets FV.toList (id * 19) xs w1.drew h2
  refine lin_sole (by kernel_rfl) (fun K hK => ?_)
  rw [if_pos (by rfl)]
  refine wp_store_mid 79 (.tmp 26) (.tmp 25) rfl rb (id * 19) FV rfl rfl hrow hsz hF1 ?_
  refine hK.out _ _ (fbox_keep h3) (fun hHeld => ?_)
  try simp only [Act.put, List.setIfInBounds_toArray, List.set_cons_zero, List.set_cons_succ]
  refine lin_done (by kernel_rfl) ?_
  clear hK h2 hrow hHeld
  generalize w1.drew.setCells rb (id * 19) FV.toList = w4 at *
  obtain ⟨xs', hX⟩ : ∃ xs', setsL xs (id * 19) FV.toList = xs' := ⟨_, rfl⟩
  rw [hX] at h3
  have FR := Lib.hid (fun w => frame_ok hok id w)
  have RM := Lib.hid (fun w => room_ok hok w)
  clear hok
  go_upto_region 7 with fail
  have h4 := h3.drewN 1
  clear h3
  refine lin_start (S := (fun w' : World => w'.cell? ⟨tb, 0, none⟩ = some (.int .i64 a) ∧ w'.cell? ⟨tb, 1, none⟩ = some (.int .i64 b) ∧ w'.cell? ⟨tb, 2, none⟩ = some (.int .i64 c) ∧ w'.cell? ⟨tb, 3, none⟩ = some (.int .i64 d) ∧ w'.cell? ⟨tb, 4, none⟩ = some (.pointer (some ⟨gs, 0, none⟩)) ∧ w'.cell? ⟨tb, 5, none⟩ = some (.pointer (some ⟨ag, 0, none⟩)) ∧ w'.cell? ⟨tb, 6, none⟩ = some (.slice (some ⟨rb, 0, none⟩) n n) ∧ w'.rangeAt xb 0 FV.toList)) rfl 16 rfl (fbox_keep h4) ?_
  simp only [numbered, Nat.zero_add, Nat.reduceAdd]
  have hHeld := fbox_keep h4
  refine lin_take (v := ?_) (by kernel_rfl) (by kernel_rfl) (fun _ _ _ h => h) (Or.inl ⟨by rfl, ?_⟩) (by assumption) ?_; (rotate_left; (intro wS hSw; (try dsimp only at hSw); go_simp; (try with_reducible rfl)); rotate_left); simp only [Act.put, List.setIfInBounds_toArray, List.set_cons_zero, List.set_cons_succ]
  refine lin_take (v := ?_) (by kernel_rfl) (by kernel_rfl) (fun _ _ _ h => h) (Or.inl ⟨by rfl, ?_⟩) (by assumption) ?_; (rotate_left; (intro wS hSw; (try dsimp only at hSw); go_simp; (try with_reducible rfl)); rotate_left); simp only [Act.put, List.setIfInBounds_toArray, List.set_cons_zero, List.set_cons_succ]
  refine lin_take (v := ?_) (by kernel_rfl) (by kernel_rfl) (fun _ _ _ h => h) (Or.inl ⟨by rfl, ?_⟩) (by assumption) ?_; (rotate_left; (intro wS hSw; (try dsimp only at hSw); go_simp; (try with_reducible rfl)); rotate_left); simp only [Act.put, List.setIfInBounds_toArray, List.set_cons_zero, List.set_cons_succ]
  refine lin_take (v := ?_) (by kernel_rfl) (by kernel_rfl) (fun _ _ _ h => h) (Or.inl ⟨by rfl, ?_⟩) (by assumption) ?_; (rotate_left; (intro wS hSw; (try dsimp only at hSw); go_simp; (try with_reducible rfl)); rotate_left); simp only [Act.put, List.setIfInBounds_toArray, List.set_cons_zero, List.set_cons_succ]
  refine lin_take (v := ?_) (by kernel_rfl) (by kernel_rfl) (fun _ _ _ h => h) (Or.inl ⟨by rfl, ?_⟩) (by assumption) ?_; (rotate_left; (intro wS hSw; (try dsimp only at hSw); go_simp; (try with_reducible rfl)); rotate_left); simp only [Act.put, List.setIfInBounds_toArray, List.set_cons_zero, List.set_cons_succ]
  refine lin_take (v := ?_) (by kernel_rfl) (by kernel_rfl) (fun _ _ _ h => h) (Or.inl ⟨by rfl, ?_⟩) (by assumption) ?_; (rotate_left; (intro wS hSw; (try dsimp only at hSw); go_simp; (try with_reducible rfl)); rotate_left); simp only [Act.put, List.setIfInBounds_toArray, List.set_cons_zero, List.set_cons_succ]
  refine lin_take (v := ?_) (by kernel_rfl) (by kernel_rfl) (fun _ _ _ h => h) (Or.inl ⟨by rfl, ?_⟩) (by assumption) ?_; (rotate_left; (intro wS hSw; (try dsimp only at hSw); go_simp; (try with_reducible rfl)); rotate_left); simp only [Act.put, List.setIfInBounds_toArray, List.set_cons_zero, List.set_cons_succ]
  refine lin_take (v := ?_) (by kernel_rfl) (by kernel_rfl) (fun _ _ _ h => h) (Or.inl ⟨by rfl, ?_⟩) (by assumption) ?_; (rotate_left; (intro wS hSw; (try dsimp only at hSw); go_simp; (try with_reducible rfl)); rotate_left); simp only [Act.put, List.setIfInBounds_toArray, List.set_cons_zero, List.set_cons_succ]
  refine lin_take (v := ?_) (by kernel_rfl) (by kernel_rfl) (fun _ _ _ h => h) (Or.inl ⟨by rfl, ?_⟩) (by assumption) ?_; (rotate_left; (intro wS hSw; (try dsimp only at hSw); go_simp; (try with_reducible rfl)); rotate_left); simp only [Act.put, List.setIfInBounds_toArray, List.set_cons_zero, List.set_cons_succ]
  refine lin_rot ?_; simp only [List.cons_append, List.nil_append]
  refine lin_take (v := ?_) (by kernel_rfl) (by kernel_rfl) (fun _ _ _ h => h) (Or.inl ⟨by rfl, ?_⟩) (by assumption) ?_; (rotate_left; (intro wS hSw; (try dsimp only at hSw); go_simp; (try with_reducible rfl)); rotate_left); simp only [Act.put, List.setIfInBounds_toArray, List.set_cons_zero, List.set_cons_succ]
  refine lin_take (v := ?_) (by kernel_rfl) (by kernel_rfl) (fun _ _ _ h => h) (Or.inl ⟨by rfl, ?_⟩) (by assumption) ?_; (rotate_left; (intro wS hSw; (try dsimp only at hSw); go_simp; (try with_reducible rfl)); rotate_left); simp only [Act.put, List.setIfInBounds_toArray, List.set_cons_zero, List.set_cons_succ]
  refine lin_take (v := ?_) (by kernel_rfl) (by kernel_rfl) (fun _ _ _ h => h) (Or.inl ⟨by rfl, ?_⟩) (by assumption) ?_; (rotate_left; (intro wS hSw; (try dsimp only at hSw); go_simp; (try with_reducible rfl)); rotate_left); simp only [Act.put, List.setIfInBounds_toArray, List.set_cons_zero, List.set_cons_succ]
  refine lin_take (v := ?_) (by kernel_rfl) (by kernel_rfl) (fun _ _ _ h => h) (Or.inl ⟨by rfl, ?_⟩) (by assumption) ?_; (rotate_left; (intro wS hSw; (try dsimp only at hSw); go_simp; (try with_reducible rfl)); rotate_left); simp only [Act.put, List.setIfInBounds_toArray, List.set_cons_zero, List.set_cons_succ]
  refine lin_rot ?_; simp only [List.cons_append, List.nil_append]
  refine lin_rot ?_; simp only [List.cons_append, List.nil_append]
  refine lin_sole (by kernel_rfl) (fun K hK => ?_)
  go_simp
  refine (FR.out _).mono ?_
  rintro e u1 ⟨rfl, hb1⟩
  have h5 := h4.grow hb1
  refine hK.out _ _ (fbox_keep h5) (fun hHeld => ?_)
  try simp only [Act.put, List.setIfInBounds_toArray, List.set_cons_zero, List.set_cons_succ]
  clear hK hb1 h4
  have hHeld := fbox_keep h5
  refine lin_sole (by kernel_rfl) (fun K hK => ?_)
  go_simp
  refine (RM.out _).mono ?_
  rintro e u2 ⟨rfl, hb1⟩
  have h6 := h5.grow hb1
  refine hK.out _ _ (fbox_keep h6) (fun hHeld => ?_)
  try simp only [Act.put, List.setIfInBounds_toArray, List.set_cons_zero, List.set_cons_succ]
  clear hK hb1 h5
  have hHeld := fbox_keep h6
  obtain ⟨bv, hO⟩ := h6
  refine lin_sole (by kernel_rfl) (fun K hK => ?_)
  go_simp
  refine (own_fill hO 5 rfl _ _ _ hf0 hr0 ms1 hm1).mono ?_
  rintro e u3 ⟨rfl, hO7⟩
  have h7 : AOwn w0 u3 ag hb hs' bs' fr' pk' (cellsA xb FV 79 :: tabL tb gs sb ag rb n a b c d ms1 xs' l) := ⟨bv, hO7⟩
  refine hK.out _ _ (fbox_keep h7) (fun hHeld => ?_)
  try simp only [Act.put, List.setIfInBounds_toArray, List.set_cons_zero, List.set_cons_succ]
  clear hK hO hO7 hHeld
  refine lin_done (by kernel_rfl) ?_
  generalize u3 = w5 at *
  go_upto_region 8 with fail
  have h8 := h7.drewN 1
  clear h7
  refine lin_start (S := (fun w' : World => w'.cell? ⟨tb, 0, none⟩ = some (.int .i64 a) ∧ w'.cell? ⟨tb, 1, none⟩ = some (.int .i64 b) ∧ w'.cell? ⟨tb, 2, none⟩ = some (.int .i64 c) ∧ w'.cell? ⟨tb, 3, none⟩ = some (.int .i64 d) ∧ w'.cell? ⟨tb, 4, none⟩ = some (.pointer (some ⟨gs, 0, none⟩)) ∧ w'.cell? ⟨tb, 5, none⟩ = some (.pointer (some ⟨ag, 0, none⟩)) ∧ w'.cell? ⟨tb, 6, none⟩ = some (.slice (some ⟨rb, 0, none⟩) n n) ∧ w'.rangeAt xb 0 FV.toList)) rfl 11 rfl (fbox_keep h8) ?_
  simp only [numbered, Nat.zero_add, Nat.reduceAdd]
  have hHeld := fbox_keep h8
  refine lin_take (v := ?_) (by kernel_rfl) (by kernel_rfl) (fun _ _ _ h => h) (Or.inl ⟨by rfl, ?_⟩) (by assumption) ?_; (rotate_left; (intro wS hSw; (try dsimp only at hSw); go_simp; (try with_reducible rfl)); rotate_left); simp only [Act.put, List.setIfInBounds_toArray, List.set_cons_zero, List.set_cons_succ]
  refine lin_take (v := ?_) (by kernel_rfl) (by kernel_rfl) (fun _ _ _ h => h) (Or.inl ⟨by rfl, ?_⟩) (by assumption) ?_; (rotate_left; (intro wS hSw; (try dsimp only at hSw); go_simp; (try with_reducible rfl)); rotate_left); simp only [Act.put, List.setIfInBounds_toArray, List.set_cons_zero, List.set_cons_succ]
  refine lin_take (v := ?_) (by kernel_rfl) (by kernel_rfl) (fun _ _ _ h => h) (Or.inl ⟨by rfl, ?_⟩) (by assumption) ?_; (rotate_left; (intro wS hSw; (try dsimp only at hSw); go_simp; (try with_reducible rfl)); rotate_left); simp only [Act.put, List.setIfInBounds_toArray, List.set_cons_zero, List.set_cons_succ]
  refine lin_take (v := ?_) (by kernel_rfl) (by kernel_rfl) (fun _ _ _ h => h) (Or.inl ⟨by rfl, ?_⟩) (by assumption) ?_; (rotate_left; (intro wS hSw; (try dsimp only at hSw); go_simp; (try with_reducible rfl)); rotate_left); simp only [Act.put, List.setIfInBounds_toArray, List.set_cons_zero, List.set_cons_succ]
  refine lin_take (v := ?_) (by kernel_rfl) (by kernel_rfl) (fun _ _ _ h => h) (Or.inl ⟨by rfl, ?_⟩) (by assumption) ?_; (rotate_left; (intro wS hSw; (try dsimp only at hSw); go_simp; (try with_reducible rfl)); rotate_left); simp only [Act.put, List.setIfInBounds_toArray, List.set_cons_zero, List.set_cons_succ]
  refine lin_take (v := ?_) (by kernel_rfl) (by kernel_rfl) (fun _ _ _ h => h) (Or.inl ⟨by rfl, ?_⟩) (by assumption) ?_; (rotate_left; (intro wS hSw; (try dsimp only at hSw); go_simp; (try with_reducible rfl)); rotate_left); simp only [Act.put, List.setIfInBounds_toArray, List.set_cons_zero, List.set_cons_succ]
  refine lin_take (v := ?_) (by kernel_rfl) (by kernel_rfl) (fun _ _ _ h => h) (Or.inl ⟨by rfl, ?_⟩) (by assumption) ?_; (rotate_left; (intro wS hSw; (try dsimp only at hSw); go_simp; (try with_reducible rfl)); rotate_left); simp only [Act.put, List.setIfInBounds_toArray, List.set_cons_zero, List.set_cons_succ]
  refine lin_take (v := ?_) (by kernel_rfl) (by kernel_rfl) (fun _ _ _ h => h) (Or.inl ⟨by rfl, ?_⟩) (by assumption) ?_; (rotate_left; (intro wS hSw; (try dsimp only at hSw); go_simp; (try with_reducible rfl)); rotate_left); simp only [Act.put, List.setIfInBounds_toArray, List.set_cons_zero, List.set_cons_succ]
  refine lin_take (v := ?_) (by kernel_rfl) (by kernel_rfl) (fun _ _ _ h => h) (Or.inl ⟨by rfl, ?_⟩) (by assumption) ?_; (rotate_left; (intro wS hSw; (try dsimp only at hSw); go_simp; (try with_reducible rfl)); rotate_left); simp only [Act.put, List.setIfInBounds_toArray, List.set_cons_zero, List.set_cons_succ]
  refine lin_sole (by kernel_rfl) (fun K hK => ?_)
  go_simp
  refine (FR.out _).mono ?_
  rintro e u4 ⟨rfl, hb1⟩
  have h9 := h8.grow hb1
  refine hK.out _ _ (fbox_keep h9) (fun hHeld => ?_)
  try simp only [Act.put, List.setIfInBounds_toArray, List.set_cons_zero, List.set_cons_succ]
  clear hK hb1 h8
  have hHeld := fbox_keep h9
  obtain ⟨bv, hO⟩ := h9
  refine lin_sole (by kernel_rfl) (fun K hK => ?_)
  go_simp
  refine (own_fill hO 5 rfl _ _ _ hf0 (by decide) ms2 hm2).mono ?_
  rintro e u5 ⟨rfl, hO7⟩
  have h11 : AOwn w0 u5 ag hb hs' bs' fr' pk' (cellsA xb FV 79 :: tabL tb gs sb ag rb n a b c d ms2 xs' l) := ⟨bv, hO7⟩
  refine hK.out _ _ (fbox_keep h11) (fun hHeld => ?_)
  try simp only [Act.put, List.setIfInBounds_toArray, List.set_cons_zero, List.set_cons_succ]
  clear hK hO hO7 hHeld
  refine lin_done (by kernel_rfl) ?_
  have hfin := h11.drop
  clear h11
  go_wp2_with fail
  go_ret2
  subst hX
  exact ⟨rfl, hfin⟩
end
section
open Go.RowKit
set_option maxRecDepth 100000
set_option maxHeartbeats 8000000
theorem tcells {w0 w : World} {tb gs sb ag hb rb n : Nat} {a b c d : Int} {ms : List Int} {xs : List Value} {hs : List Bool} {bs : List Int} {fr : Nat} {pk : Int} {l : List Ast} (h : TOwn w0 w tb gs sb ag hb rb n a b c d ms xs hs bs fr pk l) :
    w.cell? ⟨tb, 5, none⟩ = some (.pointer (some ⟨ag, 0, none⟩)) ∧ w.cell? ⟨tb, 6, none⟩ = some (.slice (some ⟨rb, 0, none⟩) n n) := by
  obtain ⟨bv, hO⟩ := h
  exact ⟨(hO.cget 3 rfl 5).1, (hO.cget 3 rfl 6).1⟩
theorem at_yes {w0 w : World} {tb gs sb ag hb rb n : Nat} {a b c d : Int} {ms : List Int} {xs : List Value} {hs : List Bool} {bs : List Int} {fr : Nat} {pk : Int} {l : List Ast} (h : TOwn w0 w tb gs sb ag hb rb n a b c d ms xs hs bs fr pk l) (hl : hs.length ≤ 4096) (id : Nat) (hid : id < n) (ht : heldB hs id = true) :
    Calls Try.prog 30 #[.pointer (some ⟨tb, 0, none⟩), .int .i64 id] w fun e w' => e = .returned (.pointer (some ⟨rb, id * 19, none⟩)) ∧ w = w' := by
  have H := Lib.hid (held_own h hl id true ht)
  obtain ⟨t5, t6⟩ := tcells h
  clear h ht
  go_enter Try.func30, Try.ntmps30
  go_wp2_with (first | (go_at_call 66; refine H.out.mono ?_; rintro e w5 ⟨rfl, rfl⟩))
  go_ret
  exact ⟨rfl, rfl⟩
theorem at_no {w0 w : World} {tb gs sb ag hb rb n : Nat} {a b c d : Int} {ms : List Int} {xs : List Value} {hs : List Bool} {bs : List Int} {fr : Nat} {pk : Int} {l : List Ast} (h : TOwn w0 w tb gs sb ag hb rb n a b c d ms xs hs bs fr pk l) (hl : hs.length ≤ 4096) (id : Int) (ht : heldB hs id = false) :
    Calls Try.prog 30 #[.pointer (some ⟨tb, 0, none⟩), .int .i64 id] w fun e w' => e = .returned (.pointer none) ∧ w = w' := by
  have H := Lib.hid (held_own h hl id false ht)
  obtain ⟨t5, t6⟩ := tcells h
  clear h ht
  go_enter Try.func30, Try.ntmps30
  go_wp2_with (first | (go_at_call 66; refine H.out.mono ?_; rintro e w5 ⟨rfl, rfl⟩))
  go_ret
  exact ⟨rfl, rfl⟩
theorem tused {w0 w : World} {tb gs sb ag hb rb n : Nat} {a b c d : Int} {ms : List Int} {xs : List Value} {hs : List Bool} {bs : List Int} {fr : Nat} {pk : Int} {l : List Ast} (h : TOwn w0 w tb gs sb ag hb rb n a b c d ms xs hs bs fr pk l) (hl : hs.length ≤ 4096) :
    Calls Try.prog 45 #[.pointer (some ⟨tb, 0, none⟩)] w fun e w' => e = .returned (.int .i64 (cnt hs)) ∧ TOwn w0 w' tb gs sb ag hb rb n a b c d ms xs hs bs fr pk l := by
  have U := Lib.hid (used_own h hl)
  obtain ⟨t5, t6⟩ := tcells h
  clear h t6
  generalize cnt hs = C at *
  go_enter Try.func45, Try.ntmps45
  go_wp2_with (first | (go_at_call 75; refine U.out.mono ?_; rintro e w5 ⟨rfl, h5⟩))
  go_ret
  exact ⟨rfl, h5⟩
end
section
open Go.RowKit
set_option maxRecDepth 100000
set_option maxHeartbeats 8000000
def rootV : Array Value := #[.int .i64 1, .int .i64 0, .int .i64 0, .int .i64 0, .int .i64 0, .int .i64 0, .int .i64 0, .int .i64 0, .int .i64 0, .int .i64 0, .int .i64 0, .int .i64 0, .bool false, .bool false, .int .i64 0, .int .i64 0, .int .i64 0, .int .i64 0, .int .i64 0]
theorem wpList_build {P : Program} {ops : Array Oper} {rest : List Oper} {o : Oper} {a : Act} {w : World} {Q : Exit → Act → World → Prop} (hg : o.guard = none) (ty : TypeId) (parts : Array (Nat × Operand)) (ho : o.op = .build ty parts) (v : Value)
    (hrun : (Instr.build ty (parts.map fun x => (x.fst, a.eval x.snd))).run P w = .ok v w) (h : wpList P ops Q rest (a.put o.dst v) w) : wpList P ops Q (o :: rest) a w :=
  wpList_plain hg fun K hK => by
    unfold Oper.wp execOp
    simp only [ho]
    rw [Sem.run_bind, hrun]
    exact hK _ _ h
def setsA (cs : Array Value) (o : Nat) : List Value → Array Value
  | [] => cs
  | v :: r => setsA (cs.setIfInBounds o v) (o + 1) r
theorem Own.csets {w0 : World} {l : List Ast} {b : Nat} {t : TypeId} : ∀ (vs : List Value) (o : Nat) (cs : Array Value) (w : World), Own w0 w (cellsA b cs t :: l) → Own w0 (w.setCells b o vs) (cellsA b (setsA cs o vs) t :: l)
  | [], _, _, _, h => h
  | v :: r, o, cs, w, h => by
    rw [World.setCells]
    exact Own.csets r (o + 1) _ _ (h.cset 0 rfl o v)
def zeroF : Array Value := #[.int .i64 0, .int .i64 0, .int .i64 0, .int .i64 0, .int .i64 0, .int .i64 0, .int .i64 0, .int .i64 0, .int .i64 0, .int .i64 0, .int .i64 0, .int .i64 0, .bool false, .bool false, .int .i64 0, .int .i64 0, .int .i64 0, .int .i64 0, .int .i64 0]
theorem cells_there {w0 w : World} {l : List Ast} {b n : Nat} {cs : Array Value} {t : TypeId} (h : Own w0 w (cellsA b cs t :: l)) (hn : cs.size = n) : w.there b 0 n := by
  intro j hj
  have h1 := h.cget 0 rfl j
  have h2 : cs[j]? = some cs[j] := Array.getElem?_eq_getElem (by omega)
  rw [Nat.zero_add]
  exact ⟨by rw [h1.1, h2]; rfl, h1.2⟩
theorem root_any (w : World) : Calls Try.prog 31 #[] w fun e w' => e = .returned (.agg rootV) ∧ Below w.heap.size w w' := by
  obtain ⟨d0, hd1, hd2⟩ := Option.map_eq_some_iff.1 Try.rowFrame
  have hsz := Try.sizeFrame
  have hbd : ∀ w, (Instr.build 79 #[(0, .int .i64 1)]).run Try.prog w = .ok (.agg rootV) w := fun _ => by kernel_rfl
  have hO : Own w (w.alloc (.cells zeroF 79)) [cellsA w.heap.size zeroF 79] := (Own.nil (Below.refl _ w)).box zeroF 79
  have ht := cells_there hO (n := 19) rfl
  have hO2 := hO.csets rootV.toList 0 zeroF _
  rw [show setsA zeroF 0 rootV.toList = rootV by kernel_rfl] at hO2
  go_enter Try.func31, Try.ntmps31
  go_upto_region 1 with fail
  refine wp_region_lit ?_
  refine wpList_build rfl 79 #[(0, .const (.int .i64 1))] rfl (.agg rootV) (by simpa [Act.eval] using hbd _) ?_
  refine wpList_store_mid rfl 79 (.tmp 0) (.tmp 1) rfl w.heap.size 0 rootV rfl rfl ht hsz (by simp [rootV, Value.oneCell']) ?_
  refine wpList_nil ?_
  show Exit.then _ _ _ _ ((w.alloc (.cells zeroF 79)).setCells w.heap.size 0 rootV.toList)
  generalize (w.alloc (.cells zeroF 79)).setCells w.heap.size 0 rootV.toList = w2 at *
  generalize hg : w.heap.size = g at hO2 ⊢
  go_wp2
  exact bodyPost_ret (results_cell_row rfl _ _ _ _ _ _ d0 rfl (hO2.at 0 rfl) hd1 (by cases d0 <;> exact hd2) hsz) rfl ⟨rfl, hg ▸ hO2.below⟩
end
section
open Go.RowKit
set_option maxRecDepth 100000
set_option maxHeartbeats 8000000
/-- A frame's cells. -/
def frV (k fn pc r0 r1 r2 r3 r4 r5 r6 r7 pa : Int) (di du : Bool) (ix st fo sd se : Int) : Array Value := #[.int .i64 k, .int .i64 fn, .int .i64 pc, .int .i64 r0, .int .i64 r1, .int .i64 r2, .int .i64 r3, .int .i64 r4, .int .i64 r5, .int .i64 r6, .int .i64 r7, .int .i64 pa, .bool di, .bool du, .int .i64 ix, .int .i64 st, .int .i64 fo, .int .i64 sd, .int .i64 se]
def regV (r0 r1 r2 r3 r4 r5 r6 r7 : Int) : Array Value := #[.int .i64 r0, .int .i64 r1, .int .i64 r2, .int .i64 r3, .int .i64 r4, .int .i64 r5, .int .i64 r6, .int .i64 r7]
variable (k fn pc r0 r1 r2 r3 r4 r5 r6 r7 pa : Int) (di du : Bool) (ix st fo sd se own f2 s2 : Int)
end
section
open Go.RowKit
set_option maxRecDepth 100000
set_option maxHeartbeats 8000000
theorem eqFields_self {P : Program} (w : World) (d : Nat) (xs : Array Value) : ∀ (fs : List Field), (∀ f ∈ fs, ∃ a, (part f.type xs f.offset).run P w = .ok a w ∧ (Op.equalIn d f.type a a).run P w = .ok true w) → (Op.eqFields d xs xs fs).run P w = .ok true w
  | [], _ => by simp [Op.eqFields]
  | f :: fs, h => by
    obtain ⟨a, p, e⟩ := h f (by simp)
    have ih := eqFields_self w d xs fs (fun g hg => h g (by simp [hg]))
    simp only [Op.eqFields, Sem.run_ite]
    split
    · simp only [Sem.run_bind, p, e, Result.andThen_ok, Bool.not_true, Bool.false_eq_true, if_false, ih]
    · exact ih
theorem eqItems_self {P : Program} (w : World) (d : Nat) (t : TypeId) (c : Nat) (xs : Array Value) : ∀ (is : List Nat), (∀ i ∈ is, ∃ a, (part t xs (i * c)).run P w = .ok a w ∧ (Op.equalIn d t a a).run P w = .ok true w) → (Op.eqItems d t c xs xs is).run P w = .ok true w
  | [], _ => by simp [Op.eqItems]
  | i :: is, h => by
    obtain ⟨a, p, e⟩ := h i (by simp)
    have ih := eqItems_self w d t c xs is (fun g hg => h g (by simp [hg]))
    simp only [Op.eqItems, Sem.run_bind, p, e, Result.andThen_ok, Bool.not_true, Bool.false_eq_true, if_false, ih]
/-- The fields of a frame: where each is. -/
def okField (f : Field) : Bool :=
  (f.type == 3 && [0, 1, 2, 11, 14, 15, 16, 17, 18].contains f.offset) || (f.type == 4 && [12, 13].contains f.offset) || (f.type == 77 && f.offset == 3)
theorem Try.fieldsFrame : (Try.prog.fieldsOf 79).toList.all okField = true := by kernel_rfl
theorem regs_eq (d : Nat) (r0 r1 r2 r3 r4 r5 r6 r7 : Int) (w : World) : (Op.equalIn (d + 2) 77 (.agg (regV r0 r1 r2 r3 r4 r5 r6 r7)) (.agg (regV r0 r1 r2 r3 r4 r5 r6 r7))).run Try.prog w = .ok true w := by
  obtain ⟨i, hi, _⟩ := Option.map_eq_some_iff.1 (show (Try.prog.info? 3).map (·.size) = some 1 by kernel_rfl)
  have hu : Try.prog.underlying 77 = some (.array 8 3) := by kernel_rfl
  rw [run_equalIn_array w (d + 1) _ _ hu hi]
  refine eqItems_self w (d + 1) 3 _ _ (List.range 8) fun j hj => ?_
  have hj8 : j < 8 := by simpa using hj
  rcases (show j = 0 ∨ j = 1 ∨ j = 2 ∨ j = 3 ∨ j = 4 ∨ j = 5 ∨ j = 6 ∨ j = 7 by omega) with rfl | rfl | rfl | rfl | rfl | rfl | rfl | rfl
  · exact ⟨.int .i64 r0, by kernel_rfl, by rw [run_equalIn_int w d _ .i64 .i64 r0 r0 Try.underlying3]; simp⟩
  · exact ⟨.int .i64 r1, by kernel_rfl, by rw [run_equalIn_int w d _ .i64 .i64 r1 r1 Try.underlying3]; simp⟩
  · exact ⟨.int .i64 r2, by kernel_rfl, by rw [run_equalIn_int w d _ .i64 .i64 r2 r2 Try.underlying3]; simp⟩
  · exact ⟨.int .i64 r3, by kernel_rfl, by rw [run_equalIn_int w d _ .i64 .i64 r3 r3 Try.underlying3]; simp⟩
  · exact ⟨.int .i64 r4, by kernel_rfl, by rw [run_equalIn_int w d _ .i64 .i64 r4 r4 Try.underlying3]; simp⟩
  · exact ⟨.int .i64 r5, by kernel_rfl, by rw [run_equalIn_int w d _ .i64 .i64 r5 r5 Try.underlying3]; simp⟩
  · exact ⟨.int .i64 r6, by kernel_rfl, by rw [run_equalIn_int w d _ .i64 .i64 r6 r6 Try.underlying3]; simp⟩
  · exact ⟨.int .i64 r7, by kernel_rfl, by rw [run_equalIn_int w d _ .i64 .i64 r7 r7 Try.underlying3]; simp⟩
theorem eq_frame (k fn pc r0 r1 r2 r3 r4 r5 r6 r7 pa : Int) (di du : Bool) (ix st fo sd se : Int) (w : World) : (Op.equalIn 10000 79 (.agg (frV k fn pc r0 r1 r2 r3 r4 r5 r6 r7 pa di du ix st fo sd se)) (.agg (frV k fn pc r0 r1 r2 r3 r4 r5 r6 r7 pa di du ix st fo sd se))).run Try.prog w = .ok true w := by
  rw [run_equalIn_agg w 9999 _ _ _ (by kernel_rfl) (by kernel_rfl)]
  refine eqFields_self w 9999 _ _ fun f hf => ?_
  have ho := List.all_eq_true.1 Try.fieldsFrame f hf
  have int1 : ∀ a : Int, (Op.equalIn 9999 3 (.int .i64 a) (.int .i64 a)).run Try.prog w = .ok true w := fun a => by rw [run_equalIn_int w 9998 _ .i64 .i64 a a Try.underlying3]; simp
  have bool1 : ∀ a : Bool, (Op.equalIn 9999 4 (.bool a) (.bool a)).run Try.prog w = .ok true w := fun a => by rw [run_equalIn_bool' w 9998 _ a a Try.underlying4]; simp
  unfold okField at ho
  simp only [Bool.or_eq_true, Bool.and_eq_true, beq_iff_eq, List.contains_cons, List.contains_nil, or_false, Bool.or_false] at ho
  rcases ho with (⟨ht, ho⟩ | ⟨ht, ho⟩) | ⟨ht, ho⟩
  · rw [ht]
    rcases ho with h | h | h | h | h | h | h | h | h <;> rw [h]
    · exact ⟨_, by kernel_rfl, int1 k⟩
    · exact ⟨_, by kernel_rfl, int1 fn⟩
    · exact ⟨_, by kernel_rfl, int1 pc⟩
    · exact ⟨_, by kernel_rfl, int1 pa⟩
    · exact ⟨_, by kernel_rfl, int1 ix⟩
    · exact ⟨_, by kernel_rfl, int1 st⟩
    · exact ⟨_, by kernel_rfl, int1 fo⟩
    · exact ⟨_, by kernel_rfl, int1 sd⟩
    · exact ⟨_, by kernel_rfl, int1 se⟩
  · rw [ht]
    rcases ho with h | h <;> rw [h]
    · exact ⟨_, by kernel_rfl, bool1 di⟩
    · exact ⟨_, by kernel_rfl, bool1 du⟩
  · rw [ht, ho]
    exact ⟨_, by kernel_rfl, regs_eq 9997 r0 r1 r2 r3 r4 r5 r6 r7 w⟩
end
end Go.Proofs.Ytcegncbnanbenaa
