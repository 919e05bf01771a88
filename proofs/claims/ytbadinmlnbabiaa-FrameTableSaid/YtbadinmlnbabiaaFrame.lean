/- Package frame: tables of frames. -/
import Derived.Test.YtbadinmlnbabiaaArena2
import Derived.Test.YtbadinmlnbabiaaFill
import Derived.Test.YtbadinmlnbabiaaPlan2
import Derived.Test.YtbadinmlnbabiaaPair
import Derived.Test.YtbadinmlnbabiaaStoreA
set_option linter.unusedVariables false
set_option linter.unusedSimpArgs false
namespace Go.Proofs.Ytbadinmlnbabiaa
open Go.RowKit
set_option maxRecDepth 100000
set_option maxHeartbeats 8000000
theorem Try.infoFrame : (Try.prog.info? 65).map (fun i => (i.zero, i.size, i.bytes)) = some (some (.agg #[.int .i64 0, .int .i64 0, .int .i64 0, .int .i64 0, .int .i64 0, .int .i64 0, .int .i64 0, .int .i64 0, .int .i64 0, .int .i64 0, .int .i64 0, .int .i64 0, .bool false, .bool false, .int .i64 0, .int .i64 0, .int .i64 0, .int .i64 0, .int .i64 0]), 19, 144) := by kernel_rfl
theorem Own.pm {w0 w : World} {l l' : List Ast} (h : Own w0 w l) (hp : l.Perm l') : Own w0 w l' :=
  ⟨h.below, fun A hA => h.all A (hp.mem_iff.2 hA), fun A hA => h.own A (hp.mem_iff.2 hA), hp.pairwise h.sep (fun hab k hk hk' => hab k hk' hk)⟩
/-- What has been made since w, beside what had been made till w. -/
theorem Own.join {w0 w w' : World} {l l2 : List Ast} (h : Own w0 w l) (h2 : Own w w' l2) : Own w0 w' (l2 ++ l) := by
  have hg := h.grow h2.below
  have hz := h.below.size
  refine ⟨hg.below, fun A hA => ?_, fun A hA k hk => ?_, ?_⟩
  · rcases List.mem_append.1 hA with hA | hA
    · exact h2.all A hA
    · exact hg.all A hA
  · rcases List.mem_append.1 hA with hA | hA
    · have := h2.own A hA k hk; omega
    · exact h.own A hA k hk
  · refine List.pairwise_append.2 ⟨h2.sep, h.sep, fun A hA B hB k hk hk' => ?_⟩
    have h3 := h2.own A hA k hk
    have h4 := B.lt (h.all B hB) k hk'
    omega
theorem aNew_own (n : Int) (M : Nat) (hM : min (max n 0) 1000 = (M : Int)) {w0 w : World} {l : List Ast} (h : Own w0 w l) : Calls Try.prog 30 #[.int .i64 n] w fun e w' => ∃ g hb, e = .returned (.pointer (some ⟨g, 0, none⟩)) ∧ AOwn w0 w' g hb (List.replicate (M + 1) false) [] 0 0 l := by
  refine (aNew_any n M hM (Below.refl _ w)).mono ?_
  rintro e w' ⟨rfl, bv, h2⟩
  exact ⟨_, _, rfl, bv, h.join h2⟩
theorem own_fill {w0 w : World} {l : List Ast} (h : Own w0 w l) (i : Nat) {g b : Nat} {ms : List Int} (hi : l[i]? = some (storeA g b ms)) (at_ many n : Int) (h0 : 0 ≤ at_ ∧ at_ ≤ 9223372036854775807) (h1 : -9223372036854775808 ≤ many ∧ many ≤ 9223372036854775807) (ms' : List Int) (hm : fillL ms at_ many n ms.length = ms') :
    Calls Try.prog 66 #[.pointer (some ⟨g, 0, none⟩), .int .i64 at_, .int .i64 many, .int .i64 n] w fun e w' => e = .returned (.tuple #[]) ∧ Own w0 w' (l.set i (storeA g b ms')) := by
  subst hm
  refine (fill_core (h.st i hi) at_ many n at_ many (by omega) h1 (.inr (.inl ⟨by omega, rfl, rfl⟩))).mono ?_
  rintro e w' ⟨rfl, hS, hT⟩
  exact ⟨rfl, h.move i hi ⟨hS, hT.mono fun k hk => .inr hk, fun k hk => .inl hk⟩⟩
/-- A table's own pieces: its cells, the store that it stands over, its row of frames. -/
def tabL (tb gs sb ag rb n : Nat) (a b c d : Int) (ms : List Int) (xs : List Value) (l : List Ast) : List Ast :=
  cellsA tb #[.int .i64 a, .int .i64 b, .int .i64 c, .int .i64 d, .pointer (some ⟨gs, 0, none⟩), .pointer (some ⟨ag, 0, none⟩), .slice (some ⟨rb, 0, none⟩) n n] 94 :: storeA gs sb ms :: rowA 65 19 (.slice (some ⟨rb, 0, none⟩) n n) n xs :: l
def TOwn (w0 w : World) (tb gs sb ag hb rb n : Nat) (a b c d : Int) (ms : List Int) (xs : List Value) (hs : List Bool) (bs : List Int) (fr : Nat) (pk : Int) (l : List Ast) : Prop :=
  AOwn w0 w ag hb hs bs fr pk (tabL tb gs sb ag rb n a b c d ms xs l)
theorem cells4p {w0 w : World} {l : List Ast} {b : Nat} {v0 v1 v2 v3 : Value} {t : TypeId} (i : Nat) (h : Own w0 w l) (hi : l[i]? = some (cellsA b #[v0, v1, v2, v3] t)) : w.cell? ⟨b, 0, none⟩ = some v0 ∧ w.cell? ⟨b, 1, none⟩ = some v1 ∧ w.cell? ⟨b, 2, none⟩ = some v2 ∧ w.cell? ⟨b, 3, none⟩ = some v3 :=
  ⟨(h.cget i hi 0).1, (h.cget i hi 1).1, (h.cget i hi 2).1, (h.cget i hi 3).1⟩
theorem tnew_perm {α : Type} (A B C S R T : α) (l : List α) : (A :: B :: C :: S :: (l ++ [R, T])).Perm (A :: B :: C :: T :: S :: R :: l) := by
  refine .cons _ (.cons _ (.cons _ ?_))
  have h1 : (S :: (l ++ [R, T])).Perm (S :: ([R, T] ++ l)) := .cons _ List.perm_append_comm
  refine h1.trans ?_
  refine (List.Perm.cons S (List.Perm.swap T R l)).trans ?_
  exact List.Perm.swap T S _
theorem tnew_any {w0 w : World} {l : List Ast} {gs sb : Nat} {ms : List Int} (h : Own w0 w (storeA gs sb ms :: l)) (a b c d : Int) (M : Nat) (hM : (if okPlan a b c d = true then b else 0) = (M : Int)) (hM2 : M ≤ 256) :
    Calls Try.prog 48 #[.agg #[.int .i64 a, .int .i64 b, .int .i64 c, .int .i64 d], .pointer (some ⟨gs, 0, none⟩)] w fun e w' => ∃ tb ag hb rb, e = .returned (.pointer (some ⟨tb, 0, none⟩)) ∧ TOwn w0 w' tb gs sb ag hb rb (M + 1) a b c d ms (madeCells #[.int .i64 0, .int .i64 0, .int .i64 0, .int .i64 0, .int .i64 0, .int .i64 0, .int .i64 0, .int .i64 0, .int .i64 0, .int .i64 0, .int .i64 0, .int .i64 0, .bool false, .bool false, .int .i64 0, .int .i64 0, .int .i64 0, .int .i64 0, .int .i64 0] ((M + 1) * 19)).toList (List.replicate (M + 1) false) [] 0 0 l := by
  obtain ⟨i1, hi1, hw0, hw1', hw2'⟩ := info_parts' Try.infoFrame
  have hO := h.box #[.int .i64 a, .int .i64 b, .int .i64 c, .int .i64 d] 24
  have hbad : ((checkOf a b c d) != 0) = !(okPlan a b c d) := by
    unfold checkOf
    cases okPlan a b c d <;> simp
  obtain ⟨E, hE⟩ : ∃ E, checkOf a b c d = E := ⟨_, rfl⟩
  rw [hE] at hbad
  generalize okPlan a b c d = ok at *
  clear h
  have hX : Own w0 (w.alloc (.cells #[.int .i64 a, .int .i64 b, .int .i64 c, .int .i64 d] 24)) (cellsA w.heap.size #[.int .i64 a, .int .i64 b, .int .i64 c, .int .i64 d] 24 :: storeA gs sb ms :: l) := hO.pm (List.perm_append_comm (l₂ := [_]))
  have C := Lib.hid ((check_any a b c d _).mono fun e w' (he : _ ∧ _) => And.intro he.1 (hX.grow he.2))
  rw [hE] at C
  obtain ⟨x0, x1, x2, x3⟩ := cells4p 0 hX rfl
  clear hO
  go_enter Try.func48, Try.ntmps48
  go_upto_if 10 with (first | (go_at_call 14; refine C.out.mono ?_; rintro e u ⟨rfl, hU⟩))
  clear x0 x1 x2 x3 hX C
  generalize w.heap.size = xb at *
  go_cut [5] from 11 to 11 (fun m wx => m = .int .i64 (M : Int) ∧ wx = u)
  case first =>
    cases ok
    · have hM0 := Lib.hid (show (0 : Int) = M by simpa using hM)
      clear hM
      go_wp2_with fail
      go_meet
      exact ⟨by rw [← hM0.out], rfl⟩
    · have hM0 := Lib.hid (show b = (M : Int) by simpa using hM)
      clear hM
      go_wp2_with fail
      go_meet
      exact ⟨by rw [← hM0.out], rfl⟩
  case rest =>
    obtain ⟨rfl, hwx⟩ := hcut
    replace hwx := hwx.symm
    subst hwx
    clear hbad hM hE
    have hwr : IntKind.i64.wrap ((M : Int) + 1) = (M : Int) + 1 := IntWalk.i64_in _ (by omega)
    have hU' : Own w0 u.drew (cellsA xb #[.int .i64 a, .int .i64 b, .int .i64 c, .int .i64 d] 24 :: storeA gs sb ms :: l) := hU.drewN 1
    clear hU
    go_upto_region 4 with fail
    refine lin_start (S := (fun w' : World => w'.cell? ⟨xb, 0, none⟩ = some (.int .i64 a) ∧ w'.cell? ⟨xb, 1, none⟩ = some (.int .i64 b) ∧ w'.cell? ⟨xb, 2, none⟩ = some (.int .i64 c) ∧ w'.cell? ⟨xb, 3, none⟩ = some (.int .i64 d))) rfl 10 rfl (cells4p 0 hU' rfl) ?_
    simp only [numbered, Nat.zero_add, Nat.reduceAdd]
    generalize u.drew = u0 at *
    have hHeld := (show (fun w' : World => w'.cell? ⟨xb, 0, none⟩ = some (.int .i64 a) ∧ w'.cell? ⟨xb, 1, none⟩ = some (.int .i64 b) ∧ w'.cell? ⟨xb, 2, none⟩ = some (.int .i64 c) ∧ w'.cell? ⟨xb, 3, none⟩ = some (.int .i64 d)) u0 from cells4p 0 hU' rfl)
    refine lin_take (v := ?_) (by kernel_rfl) (by kernel_rfl) (fun _ _ _ h => h) (Or.inl ⟨by rfl, ?_⟩) (by assumption) ?_; (rotate_left; (intro wS hSw; (try dsimp only at hSw); go_simp; (try with_reducible rfl)); rotate_left); simp only [Act.put, List.setIfInBounds_toArray, List.set_cons_zero, List.set_cons_succ]
    refine lin_take (v := ?_) (by kernel_rfl) (by kernel_rfl) (fun _ _ _ h => h) (Or.inl ⟨by rfl, ?_⟩) (by assumption) ?_; (rotate_left; (intro wS hSw; (try dsimp only at hSw); go_simp; (try with_reducible rfl)); rotate_left); simp only [Act.put, List.setIfInBounds_toArray, List.set_cons_zero, List.set_cons_succ]
    refine lin_take (v := ?_) (by kernel_rfl) (by kernel_rfl) (fun _ _ _ h => h) (Or.inl ⟨by rfl, ?_⟩) (by assumption) ?_; (rotate_left; (intro wS hSw; (try dsimp only at hSw); go_simp; (try with_reducible rfl)); rotate_left); simp only [Act.put, List.setIfInBounds_toArray, List.set_cons_zero, List.set_cons_succ]
    refine lin_rot ?_; simp only [List.cons_append, List.nil_append]
    refine lin_take (v := ?_) (by kernel_rfl) (by kernel_rfl) (fun _ _ _ h => h) (Or.inl ⟨by rfl, ?_⟩) (by assumption) ?_; (rotate_left; (intro wS hSw; (try dsimp only at hSw); go_simp; (try with_reducible rfl)); rotate_left); simp only [Act.put, List.setIfInBounds_toArray, List.set_cons_zero, List.set_cons_succ]
    refine lin_take (v := ?_) (by kernel_rfl) (by kernel_rfl) (fun _ _ _ h => h) (Or.inl ⟨by rfl, ?_⟩) (by assumption) ?_; (rotate_left; (intro wS hSw; (try dsimp only at hSw); go_simp; (try with_reducible rfl)); rotate_left); simp only [Act.put, List.setIfInBounds_toArray, List.set_cons_zero, List.set_cons_succ]
    refine lin_rot ?_; simp only [List.cons_append, List.nil_append]
    refine lin_rot ?_; simp only [List.cons_append, List.nil_append]
    refine lin_rot ?_; simp only [List.cons_append, List.nil_append]
    refine lin_rot ?_; simp only [List.cons_append, List.nil_append]
    refine lin_pair (by kernel_rfl) ?pone ?ptwo
    case' pone =>
      intro K hK
      go_simp
      refine (aNew_own (M : Int) M (by omega) hU').mono ?_
      rintro e u1 ⟨ag, hb, rfl, bv, h1⟩
      have hHeld2 := (show (fun w' : World => w'.cell? ⟨xb, 0, none⟩ = some (.int .i64 a) ∧ w'.cell? ⟨xb, 1, none⟩ = some (.int .i64 b) ∧ w'.cell? ⟨xb, 2, none⟩ = some (.int .i64 c) ∧ w'.cell? ⟨xb, 3, none⟩ = some (.int .i64 d)) u1 from cells4p 3 h1 rfl)
      refine hK.out _ _ hHeld2 (fun hHeld => ?_)
      try simp only [Act.put, List.setIfInBounds_toArray, List.set_cons_zero, List.set_cons_succ]
      clear hK hU'
      refine lin_law (by kernel_rfl) rfl ?_
      refine wpList_make_any _ rfl _ _ 92 rfl 65 i1 (.agg #[.int .i64 0, .int .i64 0, .int .i64 0, .int .i64 0, .int .i64 0, .int .i64 0, .int .i64 0, .int .i64 0, .int .i64 0, .int .i64 0, .int .i64 0, .int .i64 0, .bool false, .bool false, .int .i64 0, .int .i64 0, .int .i64 0, .int .i64 0, .int .i64 0]) 19 144 Try.underlying92 hi1 hw0 hw1' hw2' .i64 .i64 ((M : Int) + 1) ((M : Int) + 1) rfl rfl (by omega) (by omega) (by omega) (by decide) ?_
      simp only [show ((M : Int) + 1).toNat = M + 1 by omega, Value.cells]
      have h2 := h1.row_made 65 19 (madeCells #[.int .i64 0, .int .i64 0, .int .i64 0, .int .i64 0, .int .i64 0, .int .i64 0, .int .i64 0, .int .i64 0, .int .i64 0, .int .i64 0, .int .i64 0, .int .i64 0, .bool false, .bool false, .int .i64 0, .int .i64 0, .int .i64 0, .int .i64 0, .int .i64 0] ((M + 1) * 19)) (M + 1) (by unfold maxLen; omega) (by simp [madeCells])
      generalize u1.alloc (.cells (madeCells #[.int .i64 0, .int .i64 0, .int .i64 0, .int .i64 0, .int .i64 0, .int .i64 0, .int .i64 0, .int .i64 0, .int .i64 0, .int .i64 0, .int .i64 0, .int .i64 0, .bool false, .bool false, .int .i64 0, .int .i64 0, .int .i64 0, .int .i64 0, .int .i64 0] ((M + 1) * 19)) 65) = u2 at *
      generalize u1.heap.size = rb at *
      have hHeld2 := (show (fun w' : World => w'.cell? ⟨xb, 0, none⟩ = some (.int .i64 a) ∧ w'.cell? ⟨xb, 1, none⟩ = some (.int .i64 b) ∧ w'.cell? ⟨xb, 2, none⟩ = some (.int .i64 c) ∧ w'.cell? ⟨xb, 3, none⟩ = some (.int .i64 d)) u2 from cells4p 3 h2 rfl)
      refine wpList_nil ⟨rfl, hHeld2, fun hHeld => ?_⟩
      try simp only [Act.put, List.setIfInBounds_toArray, List.set_cons_zero, List.set_cons_succ]
      clear hHeld2
      clear h1
      refine lin_take (v := ?_) (by kernel_rfl) (by kernel_rfl) (fun _ _ _ h => h) (Or.inl ⟨by rfl, ?_⟩) (by assumption) ?_; (rotate_left; (intro wS hSw; (try dsimp only at hSw); go_simp; (try with_reducible rfl)); rotate_left); simp only [Act.put, List.setIfInBounds_toArray, List.set_cons_zero, List.set_cons_succ]
      refine lin_sole (by kernel_rfl) (fun K hK => ?_)
      go_simp
      have h4 := h2.box #[.int .i64 a, .int .i64 b, .int .i64 c, .int .i64 d, .pointer (some ⟨gs, 0, none⟩), .pointer (some ⟨ag, 0, none⟩), .slice (some ⟨rb, 0, none⟩) (M + 1) (M + 1)] 94
      refine hK.out _ _ (cells4p 3 h4 rfl) (fun hHeld => ?_)
      try simp only [Act.put, List.setIfInBounds_toArray, List.set_cons_zero, List.set_cons_succ]
      clear hK h2
      generalize u2.alloc (.cells #[.int .i64 a, .int .i64 b, .int .i64 c, .int .i64 d, .pointer (some ⟨gs, 0, none⟩), .pointer (some ⟨ag, 0, none⟩), .slice (some ⟨rb, 0, none⟩) (M + 1) (M + 1)] 94) = u5 at *
      generalize u2.heap.size = tb at *
      clear hHeld
      have hHeld := (show (fun w' : World => w'.cell? ⟨xb, 0, none⟩ = some (.int .i64 a) ∧ w'.cell? ⟨xb, 1, none⟩ = some (.int .i64 b) ∧ w'.cell? ⟨xb, 2, none⟩ = some (.int .i64 c) ∧ w'.cell? ⟨xb, 3, none⟩ = some (.int .i64 d)) u5 from cells4p 3 h4 rfl)
      refine lin_take (v := ?_) (by kernel_rfl) (by kernel_rfl) (fun _ _ _ h => h) (Or.inl ⟨by rfl, ?_⟩) (by assumption) ?_; (rotate_left; (intro wS hSw; (try dsimp only at hSw); go_simp; (try with_reducible rfl)); rotate_left); simp only [Act.put, List.setIfInBounds_toArray, List.set_cons_zero, List.set_cons_succ]
      refine lin_done (by kernel_rfl) ?_
      have hfin : TOwn w0 u5 tb gs sb ag hb rb (M + 1) a b c d ms (madeCells #[.int .i64 0, .int .i64 0, .int .i64 0, .int .i64 0, .int .i64 0, .int .i64 0, .int .i64 0, .int .i64 0, .int .i64 0, .int .i64 0, .int .i64 0, .int .i64 0, .bool false, .bool false, .int .i64 0, .int .i64 0, .int .i64 0, .int .i64 0, .int .i64 0] ((M + 1) * 19)).toList (List.replicate (M + 1) false) [] 0 0 l :=
        ⟨bv, (h4.sub (l' := _ :: _ :: _ :: storeA gs sb ms :: (l ++ [rowA 65 19 (.slice (some ⟨rb, 0, none⟩) (M + 1) (M + 1)) (M + 1) (madeCells #[.int .i64 0, .int .i64 0, .int .i64 0, .int .i64 0, .int .i64 0, .int .i64 0, .int .i64 0, .int .i64 0, .int .i64 0, .int .i64 0, .int .i64 0, .int .i64 0, .bool false, .bool false, .int .i64 0, .int .i64 0, .int .i64 0, .int .i64 0, .int .i64 0] ((M + 1) * 19)).toList, cellsA tb #[.int .i64 a, .int .i64 b, .int .i64 c, .int .i64 d, .pointer (some ⟨gs, 0, none⟩), .pointer (some ⟨ag, 0, none⟩), .slice (some ⟨rb, 0, none⟩) (M + 1) (M + 1)] 94])) (by simp [arenaL])).pm (tnew_perm _ _ _ _ _ _ _)⟩
      clear h4 hHeld
      go_wp2_with fail
      go_ret
      exact ⟨tb, rfl, ag, hb, rb, hfin⟩
    case' ptwo =>
      intro K hK
      refine comes_law rfl ?_ K hK
      refine wpList_make_any _ rfl _ _ 92 rfl 65 i1 (.agg #[.int .i64 0, .int .i64 0, .int .i64 0, .int .i64 0, .int .i64 0, .int .i64 0, .int .i64 0, .int .i64 0, .int .i64 0, .int .i64 0, .int .i64 0, .int .i64 0, .bool false, .bool false, .int .i64 0, .int .i64 0, .int .i64 0, .int .i64 0, .int .i64 0]) 19 144 Try.underlying92 hi1 hw0 hw1' hw2' .i64 .i64 ((M : Int) + 1) ((M : Int) + 1) rfl rfl (by omega) (by omega) (by omega) (by decide) ?_
      simp only [show ((M : Int) + 1).toNat = M + 1 by omega, Value.cells]
      have h2 := hU'.row_made 65 19 (madeCells #[.int .i64 0, .int .i64 0, .int .i64 0, .int .i64 0, .int .i64 0, .int .i64 0, .int .i64 0, .int .i64 0, .int .i64 0, .int .i64 0, .int .i64 0, .int .i64 0, .bool false, .bool false, .int .i64 0, .int .i64 0, .int .i64 0, .int .i64 0, .int .i64 0] ((M + 1) * 19)) (M + 1) (by unfold maxLen; omega) (by simp [madeCells])
      generalize u0.alloc (.cells (madeCells #[.int .i64 0, .int .i64 0, .int .i64 0, .int .i64 0, .int .i64 0, .int .i64 0, .int .i64 0, .int .i64 0, .int .i64 0, .int .i64 0, .int .i64 0, .int .i64 0, .bool false, .bool false, .int .i64 0, .int .i64 0, .int .i64 0, .int .i64 0, .int .i64 0] ((M + 1) * 19)) 65) = u2 at *
      generalize u0.heap.size = rb at *
      have hHeld2 := (show (fun w' : World => w'.cell? ⟨xb, 0, none⟩ = some (.int .i64 a) ∧ w'.cell? ⟨xb, 1, none⟩ = some (.int .i64 b) ∧ w'.cell? ⟨xb, 2, none⟩ = some (.int .i64 c) ∧ w'.cell? ⟨xb, 3, none⟩ = some (.int .i64 d)) u2 from cells4p 0 h2 rfl)
      refine wpList_nil ⟨rfl, hHeld2, fun hHeld => ?_⟩
      try simp only [Act.put, List.setIfInBounds_toArray, List.set_cons_zero, List.set_cons_succ]
      clear hHeld2
      clear hU' hK
      refine lin_sole (by kernel_rfl) (fun K hK => ?_)
      go_simp
      refine (aNew_own (M : Int) M (by omega) h2).mono ?_
      rintro e u3 ⟨ag, hb, rfl, bv, h3⟩
      have hHeld2 := (show (fun w' : World => w'.cell? ⟨xb, 0, none⟩ = some (.int .i64 a) ∧ w'.cell? ⟨xb, 1, none⟩ = some (.int .i64 b) ∧ w'.cell? ⟨xb, 2, none⟩ = some (.int .i64 c) ∧ w'.cell? ⟨xb, 3, none⟩ = some (.int .i64 d)) u3 from cells4p 3 h3 rfl)
      refine hK.out _ _ hHeld2 (fun hHeld => ?_)
      try simp only [Act.put, List.setIfInBounds_toArray, List.set_cons_zero, List.set_cons_succ]
      clear hK h2
      generalize u3 = u2 at *
      have h2 := h3
      clear h3
      refine lin_take (v := ?_) (by kernel_rfl) (by kernel_rfl) (fun _ _ _ h => h) (Or.inl ⟨by rfl, ?_⟩) (by assumption) ?_; (rotate_left; (intro wS hSw; (try dsimp only at hSw); go_simp; (try with_reducible rfl)); rotate_left); simp only [Act.put, List.setIfInBounds_toArray, List.set_cons_zero, List.set_cons_succ]
      refine lin_sole (by kernel_rfl) (fun K hK => ?_)
      go_simp
      have h4 := h2.box #[.int .i64 a, .int .i64 b, .int .i64 c, .int .i64 d, .pointer (some ⟨gs, 0, none⟩), .pointer (some ⟨ag, 0, none⟩), .slice (some ⟨rb, 0, none⟩) (M + 1) (M + 1)] 94
      refine hK.out _ _ (cells4p 3 h4 rfl) (fun hHeld => ?_)
      try simp only [Act.put, List.setIfInBounds_toArray, List.set_cons_zero, List.set_cons_succ]
      clear hK h2
      generalize u2.alloc (.cells #[.int .i64 a, .int .i64 b, .int .i64 c, .int .i64 d, .pointer (some ⟨gs, 0, none⟩), .pointer (some ⟨ag, 0, none⟩), .slice (some ⟨rb, 0, none⟩) (M + 1) (M + 1)] 94) = u5 at *
      generalize u2.heap.size = tb at *
      clear hHeld
      have hHeld := (show (fun w' : World => w'.cell? ⟨xb, 0, none⟩ = some (.int .i64 a) ∧ w'.cell? ⟨xb, 1, none⟩ = some (.int .i64 b) ∧ w'.cell? ⟨xb, 2, none⟩ = some (.int .i64 c) ∧ w'.cell? ⟨xb, 3, none⟩ = some (.int .i64 d)) u5 from cells4p 3 h4 rfl)
      refine lin_take (v := ?_) (by kernel_rfl) (by kernel_rfl) (fun _ _ _ h => h) (Or.inl ⟨by rfl, ?_⟩) (by assumption) ?_; (rotate_left; (intro wS hSw; (try dsimp only at hSw); go_simp; (try with_reducible rfl)); rotate_left); simp only [Act.put, List.setIfInBounds_toArray, List.set_cons_zero, List.set_cons_succ]
      refine lin_done (by kernel_rfl) ?_
      have hfin : TOwn w0 u5 tb gs sb ag hb rb (M + 1) a b c d ms (madeCells #[.int .i64 0, .int .i64 0, .int .i64 0, .int .i64 0, .int .i64 0, .int .i64 0, .int .i64 0, .int .i64 0, .int .i64 0, .int .i64 0, .int .i64 0, .int .i64 0, .bool false, .bool false, .int .i64 0, .int .i64 0, .int .i64 0, .int .i64 0, .int .i64 0] ((M + 1) * 19)).toList (List.replicate (M + 1) false) [] 0 0 l :=
        ⟨bv, (h4.sub (l' := _ :: _ :: _ :: storeA gs sb ms :: (l ++ [rowA 65 19 (.slice (some ⟨rb, 0, none⟩) (M + 1) (M + 1)) (M + 1) (madeCells #[.int .i64 0, .int .i64 0, .int .i64 0, .int .i64 0, .int .i64 0, .int .i64 0, .int .i64 0, .int .i64 0, .int .i64 0, .int .i64 0, .int .i64 0, .int .i64 0, .bool false, .bool false, .int .i64 0, .int .i64 0, .int .i64 0, .int .i64 0, .int .i64 0] ((M + 1) * 19)).toList, cellsA tb #[.int .i64 a, .int .i64 b, .int .i64 c, .int .i64 d, .pointer (some ⟨gs, 0, none⟩), .pointer (some ⟨ag, 0, none⟩), .slice (some ⟨rb, 0, none⟩) (M + 1) (M + 1)] 94])) (by simp [arenaL])).pm (tnew_perm _ _ _ _ _ _ _)⟩
      clear h4 hHeld
      go_wp2_with fail
      go_ret
      exact ⟨tb, rfl, ag, hb, rb, hfin⟩
end Go.Proofs.Ytbadinmlnbabiaa
