/- The walk through the law DequeAlone. -/
import Derived.Test.YtofnjapgacgdlaaDqWorks
import Derived.Test.YtofnjapgacgdlaaDqArg
import Derived.Test.YtofnjapgacgdlaaPair
import Derived.Lib.MinMax
set_option linter.unusedVariables false
set_option linter.unusedSimpArgs false
namespace Go.Proofs.Ytofnjapgacgdlaa
open Go.RowKit
set_option maxRecDepth 100000
set_option maxHeartbeats 8000000
theorem Try.infoIntD : (Try.prog.info? 3).map (fun i => (i.zero, i.size, i.bytes)) = some (some (.int .i64 0), 1, 8) := by kernel_rfl
theorem one_cellsD (xs : List Int) : ∀ u ∈ xs.map (Value.int .i64), u.oneCell' = true := by
  intro u hu
  obtain ⟨x, _, rfl⟩ := List.mem_map.1 hu
  rfl
theorem Own.takeRow {w0 w : World} {l : List Ast} (h : Own w0 w l) (i : Nat) {ao : Option Addr} {n c k : Nat} {zs : List Value} {t : TypeId} (hi : l[i]? = some (rowA t 1 (.slice ao n c) n zs)) (hk : k ≤ n) : Own w0 w (l.set i (rowA t 1 (.slice ao k c) k (zs.take k))) := by
  have hr := (h.row i hi).take hk
  rw [Nat.mul_one] at hr
  exact h.move i hi ⟨hr, Touch.refl _ _, fun k hk => .inl (by cases ao with | none => simp [rowA, Value.ownBlock] at hk | some a => simpa [rowA, Value.ownBlock] using hk)⟩
theorem cf2 {D : Nat} (k : Int) (B : Nat) (h : 2 ≤ D ∧ D ≤ 8) (hk : (k = 0 ∧ B = 0) ∨ (k = 1 ∧ B = D + 4)) {m : Nat} (hm : (m : Int) = sizeV 2 1 1 D) : Cf 2 D k B m := by
  refine ⟨by unfold okPlan; rw [decide_eq_true_eq]; omega, ?_, ?_, ?_⟩
  · rcases hk with ⟨rfl, rfl⟩ | ⟨rfl, rfl⟩
    · have : clamp 0 0 (2 - 1) = 0 := by decide
      unfold baseV
      rw [this]
      simp
    · have : clamp 1 0 (2 - 1) = 1 := by decide
      unfold baseV
      rw [this]
      unfold wideV
      omega
  · rw [hm]; unfold sizeV wideV roomV; omega
  · have : (m : Int) ≤ 100000 := by rw [hm]; unfold sizeV wideV roomV; omega
    omega
theorem dalone_core (a : Nat) (os : List (Nat × Nat × Int)) (oo : Option Addr) (oc g0 off : Nat) (w : World) (ha : a < 256) (h1 : os.length ≤ oc) (h2 : oc ≤ maxLen) (hl : os.length ≤ 300)
    (ho : ∀ i, i < os.length → oo = some ⟨g0, off, none⟩ ∧ ∃ a b x, os.getD i (0, 0, 0) = (a, b, x) ∧ a < 256 ∧ b < 256 ∧ w.cell? ⟨g0, off + i * 3, none⟩ = some (.int .u8 a) ∧ w.cell? ⟨g0, off + i * 3 + 1, none⟩ = some (.int .u8 b) ∧ w.cell? ⟨g0, off + i * 3 + 2, none⟩ = some (.int .i64 x)) :
    Calls Try.prog 7 #[.int .u8 a, .slice oo os.length oc] w fun e w' => e = .returned (.bool true) ∧ Below w.heap.size w w' := by
  obtain ⟨ti1, hi1, hw0, hw1', hw2'⟩ := info_parts' Try.infoIntD
  obtain ⟨D, hD⟩ : ∃ D : Nat, a % 7 + 2 = D := ⟨_, rfl⟩
  obtain ⟨A, hA⟩ : ∃ A : Nat, a % 7 = A := ⟨_, rfl⟩
  have hDb : 2 ≤ D ∧ D ≤ 8 := by omega
  have ok : okPlan 2 1 1 D = true := by unfold okPlan; rw [decide_eq_true_eq]; omega
  have i1 : IntKind.i64.wrap (a : Int) = (a : Int) := IntWalk.i64_in _ (by omega)
  have e1 : (a : Int).tmod 7 = (A : Int) := by rw [Int.tmod_eq_emod_of_nonneg (by omega)]; omega
  have e1b : (A : Int) + 2 = (D : Int) := by omega
  have hA9 : A < 7 := by omega
  clear hD hA
  unfold maxLen at h2
  replace ho := Lib.hid ho
  obtain ⟨N, hN⟩ : ∃ N : Nat, sizeV 2 1 1 D = (N : Int) := ⟨(sizeV 2 1 1 D).toNat, by unfold sizeV wideV roomV; omega⟩
  have hN2 : N ≤ 1000 ∧ D + 4 + 4 + D ≤ N := by
    have := hN
    unfold sizeV wideV roomV at this
    omega
  have cf := fun (m : Nat) (hm : m = N) => cf2 0 0 hDb (.inl ⟨rfl, rfl⟩) (m := m) (by rw [hm, hN])
  have SZ := Lib.hid (fun w => hN ▸ size_ok ok w)
  have NW := Lib.hid (fun (w1 : World) (l : List Ast) (h : Own w w1 l) => own_new h N (List.replicate N 0) (by rw [show (min (max (N : Int) 0) 1048576).toNat = N by omega]))
  replace cf := Lib.hid cf
  clear hN ok
  go_enter Try.func7, Try.ntmps7
  go_wp2_with (go_at_call 30; refine (works13_any _).mono ?_; rintro e wa ⟨rfl, hb0⟩)
  go_at_call 31
  refine (plan13_any _ _).mono ?_
  rintro e wb ⟨rfl, hb1⟩
  go_wp2_with fail
  have h1 := (Own.nil (below_chain hb0 hb1)).box #[.int .i64 2, .int .i64 1, .int .i64 1, .int .i64 D] 43
  clear hb0 hb1
  go_at_call 22
  refine (SZ.out _).mono ?_
  rintro e w2 ⟨rfl, hb2⟩
  have h2 := h1.grow hb2
  clear h1 hb2
  go_wp2_with fail
  go_at_call 21
  refine (NW.out _ _ h2).mono ?_
  rintro e w3 ⟨rfl, h3⟩
  have h4 := (h3.push (Below.refl _ _) (rowA 3 1 (.slice none 0 0) 0 []) (Row.nil _ _ _) (by simp [rowA, Value.ownBlock])).sel [1, 0, 2] (by decide)
  replace h4 : Own w w3 [storeA (w2.heap.size + 1) w2.heap.size (List.replicate N 0), planA wb.heap.size 2 D, rowA 3 1 (.slice none 0 0) 0 []] := h4
  clear h2 h3
  generalize w2.heap.size = sb at *
  generalize wb.heap.size = pb at *
  generalize hg : sb + 1 = g at *
  clear hg
  replace h4 := Lib.hid h4
  go_wp2_with fail
  go_loopw [7, 8, 9] (fun sv tv kv wr => ∃ (k : Nat) (xs : List Int) (so : Option Addr) (sc : Nat), k ≤ os.length ∧ sv = .slice so xs.length sc ∧ tv = .int .i64 xs.length ∧ kv = .int .i64 k ∧ Hid (∃ ms, ms.length = N ∧ Quiet 0 D ms 0 xs ∧ xs.length ≤ k ∧ Own w wr [storeA g sb ms, planA pb 2 D, rowA 3 1 (.slice so xs.length sc) xs.length (xs.map (.int .i64))])) (fun _ _ kv _ => (os.length - intOf kv).toNat)
  case atStart => exact ⟨0, [], none, 0, by omega, rfl, rfl, rfl, Lib.hid ⟨_, by simp, quiet_zero 0 D N (by omega) (by omega), by simp, h4.out⟩⟩
  case round =>
    clear h4
    obtain ⟨k, xs, so, sc, hk, rfl, rfl, rfl, hH⟩ := hrel
    obtain ⟨ms, hl', hq, hxk, hO⟩ := hH.out
    clear hH
    obtain ⟨_, _, hv, b1, b2, _⟩ := (hO.row 2 rfl).shape
    simp only [Value.slice.injEq] at hv
    obtain ⟨rfl, _, rfl⟩ := hv
    unfold maxLen at b2
    by_cases hlt : k < os.length
    · obtain ⟨rfl, who, kind, X, -, hw8, hk8, y0, y1, y2⟩ := ho.out k hlt
      have z1 := hO.old y1
      have c0 := cf.out _ hl'
      obtain ⟨p0, p1, p2, p3⟩ := planC hO
      obtain ⟨kr, hkr⟩ : ∃ r : Nat, kind % 3 = r := ⟨_, rfl⟩
      have er : (kind : Int).tmod 3 = (kr : Int) := by rw [Int.tmod_eq_emod_of_nonneg (by omega)]; omega
      have hkr3 : kr < 3 := by omega
      clear hkr y0
      by_cases hpush : kr < 2
      · have hd2 : decide ((kr : Int) < 2) = true := by simp; omega
        have hroom := hq.room
        have hwD : IntKind.i64.wrap ((D : Int) - 1) = (D : Int) - 1 := IntWalk.i64_in _ (by omega)
        have PU := Lib.hid (fun (w1 : World) (h' : Own w w1 [storeA g sb ms, planA pb 2 D, rowA 3 1 (.slice so xs.length sc) xs.length (xs.map (.int .i64))]) => qPush 2 D 0 0 (xs.length : Int) X h')
        have hS0 := (show (fun w' : World => w'.cell? ⟨pb, 0, none⟩ = some (.int .i64 2) ∧ w'.cell? ⟨pb, 1, none⟩ = some (.int .i64 1) ∧ w'.cell? ⟨pb, 2, none⟩ = some (.int .i64 1) ∧ w'.cell? ⟨pb, 3, none⟩ = some (.int .i64 (D : Int)) ∧ w'.cell? ⟨g0, off + k * 3 + 2, none⟩ = some (.int .i64 X)) _ from ⟨(planC (hO.drewN 1)).1, (planC (hO.drewN 1)).2.1, (planC (hO.drewN 1)).2.2.1, (planC (hO.drewN 1)).2.2.2, (hO.drewN 1).old y2⟩)
        have hO1 := hO.drewN 1
        by_cases hfull : xs.length + 1 = D
        · have r1 := push_full hq X hfull 98 1
          rw [Nat.zero_add] at r1
          have RN := Lib.hid (fun (w1 : World) (wb : Nat) (h' : DW 2 D 0 0 w w1 g sb wb ms (push0 (xs.length : Int) X) [planA pb 2 D, rowA 3 1 (.slice so xs.length sc) xs.length (xs.map (.int .i64))]) => run13 c0 (.inl (Nat.zero_le 2)) h' _ r1)
          have hge : decide ((D : Int) - 1 ≤ (xs.length : Int)) = true := by simp; omega
          have hlD : Hid (xs.length + 1 = D) := Lib.hid hfull
          have hq2 := Lib.hid hq
          have hl2 := Lib.hid hl'
          clear hO hq hl' r1 c0 hfull hroom p0 p1 p2 p3
          go_wp2_with fail
          refine lin_start (S := (fun w' : World => w'.cell? ⟨pb, 0, none⟩ = some (.int .i64 2) ∧ w'.cell? ⟨pb, 1, none⟩ = some (.int .i64 1) ∧ w'.cell? ⟨pb, 2, none⟩ = some (.int .i64 1) ∧ w'.cell? ⟨pb, 3, none⟩ = some (.int .i64 (D : Int)) ∧ w'.cell? ⟨g0, off + k * 3 + 2, none⟩ = some (.int .i64 X))) rfl 9 rfl hS0 ?_
          simp only [numbered, Nat.zero_add, Nat.reduceAdd]
          refine lin_take (v := ?_) (by kernel_rfl) (by kernel_rfl) (fun _ _ _ h => h) (Or.inl ⟨by rfl, ?_⟩) (by assumption) ?_; (rotate_left; (intro wS hSw; (try dsimp only at hSw); go_simp; (try with_reducible rfl)); rotate_left); simp only [Act.put, List.setIfInBounds_toArray, List.set_cons_zero, List.set_cons_succ]
          refine lin_take (v := ?_) (by kernel_rfl) (by kernel_rfl) (fun _ _ _ h => h) (Or.inl ⟨by rfl, ?_⟩) (by assumption) ?_; (rotate_left; (intro wS hSw; (try dsimp only at hSw); go_simp; (try with_reducible rfl)); rotate_left); simp only [Act.put, List.setIfInBounds_toArray, List.set_cons_zero, List.set_cons_succ]
          refine lin_take (v := ?_) (by kernel_rfl) (by kernel_rfl) (fun _ _ _ h => h) (Or.inl ⟨by rfl, ?_⟩) (by assumption) ?_; (rotate_left; (intro wS hSw; (try dsimp only at hSw); go_simp; (try with_reducible rfl)); rotate_left); simp only [Act.put, List.setIfInBounds_toArray, List.set_cons_zero, List.set_cons_succ]
          refine lin_take (v := ?_) (by kernel_rfl) (by kernel_rfl) (fun _ _ _ h => h) (Or.inl ⟨by rfl, ?_⟩) (by assumption) ?_; (rotate_left; (intro wS hSw; (try dsimp only at hSw); go_simp; (try with_reducible rfl)); rotate_left); simp only [Act.put, List.setIfInBounds_toArray, List.set_cons_zero, List.set_cons_succ]
          refine lin_take (v := ?_) (by kernel_rfl) (by kernel_rfl) (fun _ _ _ h => h) (Or.inl ⟨by rfl, ?_⟩) (by assumption) ?_; (rotate_left; (intro wS hSw; (try dsimp only at hSw); go_simp; (try with_reducible rfl)); rotate_left); simp only [Act.put, List.setIfInBounds_toArray, List.set_cons_zero, List.set_cons_succ]
          refine lin_take (v := ?_) (by kernel_rfl) (by kernel_rfl) (fun _ _ _ h => h) (Or.inl ⟨by rfl, ?_⟩) (by assumption) ?_; (rotate_left; (intro wS hSw; (try dsimp only at hSw); go_simp; (try with_reducible rfl)); rotate_left); simp only [Act.put, List.setIfInBounds_toArray, List.set_cons_zero, List.set_cons_succ]
          refine lin_take (v := ?_) (by kernel_rfl) (by kernel_rfl) (fun _ _ _ h => h) (Or.inl ⟨by rfl, ?_⟩) (by assumption) ?_; (rotate_left; (intro wS hSw; (try dsimp only at hSw); go_simp; (try with_reducible rfl)); rotate_left); simp only [Act.put, List.setIfInBounds_toArray, List.set_cons_zero, List.set_cons_succ]
          refine lin_sole (by kernel_rfl) (fun K hK => ?_)
          go_simp
          refine (PU.out _ hO1).mono ?_
          rintro e w5 ⟨wb, rfl, h5⟩
          obtain ⟨x0, x1, x2, x3⟩ := h5.plan
          have z1 := h5.drop.old y2
          refine hK.out _ _ ⟨x0, x1, x2, x3, z1⟩ (fun hHeld => ?_)
          try simp only [Act.put, List.setIfInBounds_toArray, List.set_cons_zero, List.set_cons_succ]
          clear hK
          refine lin_take (v := ?_) (by kernel_rfl) (by kernel_rfl) (fun _ _ _ h => h) (Or.inl ⟨by rfl, ?_⟩) (by assumption) ?_; (rotate_left; (intro wS hSw; (try dsimp only at hSw); go_simp; (try with_reducible rfl)); rotate_left); simp only [Act.put, List.setIfInBounds_toArray, List.set_cons_zero, List.set_cons_succ]
          refine lin_done (by kernel_rfl) ?_
          go_wp2_with (go_at_call 32; refine (RN.out _ _ h5).mono ?_; rintro e w6 ⟨rfl, h6⟩)
          have h7 := h6.drewN 1
          have hS1 := (show (fun w' : World => w'.cell? ⟨pb, 3, none⟩ = some (.int .i64 (D : Int))) _ from h7.plan.2.2.2)
          clear h5 hHeld x0 x1 x2 x3 hS0 hO1
          refine lin_start (S := (fun w' : World => w'.cell? ⟨pb, 3, none⟩ = some (.int .i64 (D : Int)))) rfl 25 rfl hS1 ?_
          simp only [numbered, Nat.zero_add, Nat.reduceAdd]
          refine lin_take (v := ?_) (by kernel_rfl) (by kernel_rfl) (fun _ _ _ h => h) (Or.inl ⟨by rfl, ?_⟩) (by assumption) ?_; (rotate_left; (intro wS hSw; (try dsimp only at hSw); go_simp; (try with_reducible rfl)); rotate_left); simp only [Act.put, List.setIfInBounds_toArray, List.set_cons_zero, List.set_cons_succ]
          refine lin_rot ?_; simp only [List.cons_append, List.nil_append]
          refine lin_take (v := ?_) (by kernel_rfl) (by kernel_rfl) (fun _ _ _ h => h) (Or.inl ⟨by rfl, ?_⟩) (by assumption) ?_; (rotate_left; (intro wS hSw; (try dsimp only at hSw); go_simp; (try with_reducible rfl)); rotate_left); simp only [Act.put, List.setIfInBounds_toArray, List.set_cons_zero, List.set_cons_succ]
          refine lin_take (v := ?_) (by kernel_rfl) (by kernel_rfl) (fun _ _ _ h => h) (Or.inl ⟨by rfl, ?_⟩) (by assumption) ?_; (rotate_left; (intro wS hSw; (try dsimp only at hSw); go_simp; (try with_reducible rfl)); rotate_left); simp only [Act.put, List.setIfInBounds_toArray, List.set_cons_zero, List.set_cons_succ]
          refine lin_take (v := ?_) (by kernel_rfl) (by kernel_rfl) (fun _ _ _ h => h) (Or.inl ⟨by rfl, ?_⟩) (by assumption) ?_; (rotate_left; (intro wS hSw; (try dsimp only at hSw); go_simp; (try with_reducible rfl)); rotate_left); simp only [Act.put, List.setIfInBounds_toArray, List.set_cons_zero, List.set_cons_succ]
          refine lin_take (v := ?_) (by kernel_rfl) (by kernel_rfl) (fun _ _ _ h => h) (Or.inl ⟨by rfl, ?_⟩) (by assumption) ?_; (rotate_left; (intro wS hSw; (try dsimp only at hSw); go_simp; (try with_reducible rfl)); rotate_left); simp only [Act.put, List.setIfInBounds_toArray, List.set_cons_zero, List.set_cons_succ]
          refine lin_take (v := ?_) (by kernel_rfl) (by kernel_rfl) (fun _ _ _ h => h) (Or.inl ⟨by rfl, ?_⟩) (by assumption) ?_; (rotate_left; (intro wS hSw; (try dsimp only at hSw); go_simp; (try with_reducible rfl)); rotate_left); simp only [Act.put, List.setIfInBounds_toArray, List.set_cons_zero, List.set_cons_succ]
          refine lin_rot ?_; simp only [List.cons_append, List.nil_append]
          refine lin_rot ?_; simp only [List.cons_append, List.nil_append]
          refine lin_rot ?_; simp only [List.cons_append, List.nil_append]
          refine lin_rot ?_; simp only [List.cons_append, List.nil_append]
          refine lin_rot ?_; simp only [List.cons_append, List.nil_append]
          refine lin_rot ?_; simp only [List.cons_append, List.nil_append]
          refine lin_rot ?_; simp only [List.cons_append, List.nil_append]
          refine lin_rot ?_; simp only [List.cons_append, List.nil_append]
          refine lin_rot ?_; simp only [List.cons_append, List.nil_append]
          refine lin_rot ?_; simp only [List.cons_append, List.nil_append]
          refine lin_rot ?_; simp only [List.cons_append, List.nil_append]
          refine lin_rot ?_; simp only [List.cons_append, List.nil_append]
          refine lin_rot ?_; simp only [List.cons_append, List.nil_append]
          refine lin_rot ?_; simp only [List.cons_append, List.nil_append]
          refine lin_rot ?_; simp only [List.cons_append, List.nil_append]
          refine lin_rot ?_; simp only [List.cons_append, List.nil_append]
          refine lin_rot ?_; simp only [List.cons_append, List.nil_append]
          refine lin_rot ?_; simp only [List.cons_append, List.nil_append]
          refine lin_sole (by kernel_rfl) (fun K hK => ?_)
          go_simp
          refine (qFull h7).mono ?_
          rintro e w7 ⟨rfl, rfl⟩
          refine hK.out _ _ hS1 (fun hHeld => ?_)
          try simp only [Act.put, List.setIfInBounds_toArray, List.set_cons_zero, List.set_cons_succ]
          clear hK
          refine lin_take (v := ?_) (by kernel_rfl) (by kernel_rfl) (fun _ _ _ h => h) (Or.inl ⟨by rfl, ?_⟩) (by assumption) ?_; (rotate_left; (intro wS hSw; (try dsimp only at hSw); go_simp; (try with_reducible rfl)); rotate_left); simp only [Act.put, List.setIfInBounds_toArray, List.set_cons_zero, List.set_cons_succ]
          refine lin_take (v := ?_) (by kernel_rfl) (by kernel_rfl) (fun _ _ _ h => h) (Or.inl ⟨by rfl, ?_⟩) (by assumption) ?_; (rotate_left; (intro wS hSw; (try dsimp only at hSw); go_simp; (try with_reducible rfl)); rotate_left); simp only [Act.put, List.setIfInBounds_toArray, List.set_cons_zero, List.set_cons_succ]
          refine lin_take (v := ?_) (by kernel_rfl) (by kernel_rfl) (fun _ _ _ h => h) (Or.inl ⟨by rfl, ?_⟩) (by assumption) ?_; (rotate_left; (intro wS hSw; (try dsimp only at hSw); go_simp; (try with_reducible rfl)); rotate_left); simp only [Act.put, List.setIfInBounds_toArray, List.set_cons_zero, List.set_cons_succ]
          refine lin_sole (by kernel_rfl) (fun K hK => ?_)
          go_simp
          refine (qFull h7).mono ?_
          rintro e w7 ⟨rfl, rfl⟩
          refine hK.out _ _ hS1 (fun hHeld => ?_)
          try simp only [Act.put, List.setIfInBounds_toArray, List.set_cons_zero, List.set_cons_succ]
          clear hK
          refine lin_take (v := ?_) (by kernel_rfl) (by kernel_rfl) (fun _ _ _ h => h) (Or.inl ⟨by rfl, ?_⟩) (by assumption) ?_; (rotate_left; (intro wS hSw; (try dsimp only at hSw); go_simp; (try with_reducible rfl)); rotate_left); simp only [Act.put, List.setIfInBounds_toArray, List.set_cons_zero, List.set_cons_succ]
          refine lin_take (v := ?_) (by kernel_rfl) (by kernel_rfl) (fun _ _ _ h => h) (Or.inl ⟨by rfl, ?_⟩) (by assumption) ?_; (rotate_left; (intro wS hSw; (try dsimp only at hSw); go_simp; (try with_reducible rfl)); rotate_left); simp only [Act.put, List.setIfInBounds_toArray, List.set_cons_zero, List.set_cons_succ]
          refine lin_take (v := ?_) (by kernel_rfl) (by kernel_rfl) (fun _ _ _ h => h) (Or.inl ⟨by rfl, ?_⟩) (by assumption) ?_; (rotate_left; (intro wS hSw; (try dsimp only at hSw); go_simp; (try with_reducible rfl)); rotate_left); simp only [Act.put, List.setIfInBounds_toArray, List.set_cons_zero, List.set_cons_succ]
          refine lin_take (v := ?_) (by kernel_rfl) (by kernel_rfl) (fun _ _ _ h => h) (Or.inl ⟨by rfl, ?_⟩) (by assumption) ?_; (rotate_left; (intro wS hSw; (try dsimp only at hSw); go_simp; (try with_reducible rfl)); rotate_left); simp only [Act.put, List.setIfInBounds_toArray, List.set_cons_zero, List.set_cons_succ]
          refine lin_take (v := ?_) (by kernel_rfl) (by kernel_rfl) (fun _ _ _ h => h) (Or.inl ⟨by rfl, ?_⟩) (by assumption) ?_; (rotate_left; (intro wS hSw; (try dsimp only at hSw); go_simp; (try with_reducible rfl)); rotate_left); simp only [Act.put, List.setIfInBounds_toArray, List.set_cons_zero, List.set_cons_succ]
          refine lin_take (v := ?_) (by kernel_rfl) (by kernel_rfl) (fun _ _ _ h => h) (Or.inl ⟨by rfl, ?_⟩) (by assumption) ?_; (rotate_left; (intro wS hSw; (try dsimp only at hSw); go_simp; (try with_reducible rfl)); rotate_left); simp only [Act.put, List.setIfInBounds_toArray, List.set_cons_zero, List.set_cons_succ]
          refine lin_take (v := ?_) (by kernel_rfl) (by kernel_rfl) (fun _ _ _ h => h) (Or.inl ⟨by rfl, ?_⟩) (by assumption) ?_; (rotate_left; (intro wS hSw; (try dsimp only at hSw); go_simp; (try with_reducible rfl)); rotate_left); simp only [Act.put, List.setIfInBounds_toArray, List.set_cons_zero, List.set_cons_succ]
          refine lin_sole (by kernel_rfl) (fun K hK => ?_)
          go_simp
          refine (qFull h7).mono ?_
          rintro e w7 ⟨rfl, rfl⟩
          refine hK.out _ _ hS1 (fun hHeld => ?_)
          try simp only [Act.put, List.setIfInBounds_toArray, List.set_cons_zero, List.set_cons_succ]
          clear hK
          refine lin_take (v := ?_) (by kernel_rfl) (by kernel_rfl) (fun _ _ _ h => h) (Or.inl ⟨by rfl, ?_⟩) (by assumption) ?_; (rotate_left; (intro wS hSw; (try dsimp only at hSw); go_simp; (try with_reducible rfl)); rotate_left); simp only [Act.put, List.setIfInBounds_toArray, List.set_cons_zero, List.set_cons_succ]
          refine lin_take (v := ?_) (by kernel_rfl) (by kernel_rfl) (fun _ _ _ h => h) (Or.inl ⟨by rfl, ?_⟩) (by assumption) ?_; (rotate_left; (intro wS hSw; (try dsimp only at hSw); go_simp; (try with_reducible rfl)); rotate_left); simp only [Act.put, List.setIfInBounds_toArray, List.set_cons_zero, List.set_cons_succ]
          refine lin_take (v := undef) (by kernel_rfl) (by kernel_rfl) (fun _ _ _ h => h) (Or.inr ⟨by rfl, rfl⟩) (by assumption) ?_; simp only [Act.put, List.setIfInBounds_toArray, List.set_cons_zero, List.set_cons_succ]
          refine lin_take (v := undef) (by kernel_rfl) (by kernel_rfl) (fun _ _ _ h => h) (Or.inr ⟨by rfl, rfl⟩) (by assumption) ?_; simp only [Act.put, List.setIfInBounds_toArray, List.set_cons_zero, List.set_cons_succ]
          refine lin_take (v := ?_) (by kernel_rfl) (by kernel_rfl) (fun _ _ _ h => h) (Or.inl ⟨by rfl, ?_⟩) (by assumption) ?_; (rotate_left; (intro wS hSw; (try dsimp only at hSw); go_simp; (try with_reducible rfl)); rotate_left); simp only [Act.put, List.setIfInBounds_toArray, List.set_cons_zero, List.set_cons_succ]
          refine lin_take (v := ?_) (by kernel_rfl) (by kernel_rfl) (fun _ _ _ h => h) (Or.inl ⟨by rfl, ?_⟩) (by assumption) ?_; (rotate_left; (intro wS hSw; (try dsimp only at hSw); go_simp; (try with_reducible rfl)); rotate_left); simp only [Act.put, List.setIfInBounds_toArray, List.set_cons_zero, List.set_cons_succ]
          refine lin_done (by kernel_rfl) ?_
          have h8 := Lib.hid h7
          clear h6 h7 hS1 hHeld
          go_wp2_with (first | (go_at_call 29; refine (qFull h8.out).mono ?_; rintro e w7 ⟨rfl, rfl⟩) | (go_at_call 26; refine (qTail h8.out).mono ?_; rintro e w7 ⟨rfl, rfl⟩))
          go_roundw
          case rel => exact ⟨k + 1, xs, so, sc, by omega, rfl, rfl, by go_num, Lib.hid ⟨ms, hl2.out, hq2.out, by omega, h8.out.drop⟩⟩
          case measure => simp [intOf]; omega
        · obtain ⟨m2, r1, l1, q1⟩ := push_room hq X (by omega) (by omega) 96 1
          rw [Nat.zero_add, Nat.zero_add] at r1
          have RN := Lib.hid (fun (w1 : World) (wb : Nat) (h' : DW 2 D 0 0 w w1 g sb wb ms (push0 (xs.length : Int) X) [planA pb 2 D, rowA 3 1 (.slice so xs.length sc) xs.length (xs.map (.int .i64))]) => run13 c0 (.inl (Nat.zero_le 2)) h' _ r1)
          have hge : decide ((D : Int) - 1 ≤ (xs.length : Int)) = false := by simp; omega
          rw [hl'] at l1
          replace l1 := Lib.hid l1
          replace q1 := Lib.hid q1
          have hone := one_cellsD xs
          clear hO hq hl' r1 c0 hfull hroom p0 p1 p2 p3
          go_wp2_with fail
          refine lin_start (S := (fun w' : World => w'.cell? ⟨pb, 0, none⟩ = some (.int .i64 2) ∧ w'.cell? ⟨pb, 1, none⟩ = some (.int .i64 1) ∧ w'.cell? ⟨pb, 2, none⟩ = some (.int .i64 1) ∧ w'.cell? ⟨pb, 3, none⟩ = some (.int .i64 (D : Int)) ∧ w'.cell? ⟨g0, off + k * 3 + 2, none⟩ = some (.int .i64 X))) rfl 9 rfl hS0 ?_
          simp only [numbered, Nat.zero_add, Nat.reduceAdd]
          refine lin_take (v := ?_) (by kernel_rfl) (by kernel_rfl) (fun _ _ _ h => h) (Or.inl ⟨by rfl, ?_⟩) (by assumption) ?_; (rotate_left; (intro wS hSw; (try dsimp only at hSw); go_simp; (try with_reducible rfl)); rotate_left); simp only [Act.put, List.setIfInBounds_toArray, List.set_cons_zero, List.set_cons_succ]
          refine lin_take (v := ?_) (by kernel_rfl) (by kernel_rfl) (fun _ _ _ h => h) (Or.inl ⟨by rfl, ?_⟩) (by assumption) ?_; (rotate_left; (intro wS hSw; (try dsimp only at hSw); go_simp; (try with_reducible rfl)); rotate_left); simp only [Act.put, List.setIfInBounds_toArray, List.set_cons_zero, List.set_cons_succ]
          refine lin_take (v := ?_) (by kernel_rfl) (by kernel_rfl) (fun _ _ _ h => h) (Or.inl ⟨by rfl, ?_⟩) (by assumption) ?_; (rotate_left; (intro wS hSw; (try dsimp only at hSw); go_simp; (try with_reducible rfl)); rotate_left); simp only [Act.put, List.setIfInBounds_toArray, List.set_cons_zero, List.set_cons_succ]
          refine lin_take (v := ?_) (by kernel_rfl) (by kernel_rfl) (fun _ _ _ h => h) (Or.inl ⟨by rfl, ?_⟩) (by assumption) ?_; (rotate_left; (intro wS hSw; (try dsimp only at hSw); go_simp; (try with_reducible rfl)); rotate_left); simp only [Act.put, List.setIfInBounds_toArray, List.set_cons_zero, List.set_cons_succ]
          refine lin_take (v := ?_) (by kernel_rfl) (by kernel_rfl) (fun _ _ _ h => h) (Or.inl ⟨by rfl, ?_⟩) (by assumption) ?_; (rotate_left; (intro wS hSw; (try dsimp only at hSw); go_simp; (try with_reducible rfl)); rotate_left); simp only [Act.put, List.setIfInBounds_toArray, List.set_cons_zero, List.set_cons_succ]
          refine lin_take (v := ?_) (by kernel_rfl) (by kernel_rfl) (fun _ _ _ h => h) (Or.inl ⟨by rfl, ?_⟩) (by assumption) ?_; (rotate_left; (intro wS hSw; (try dsimp only at hSw); go_simp; (try with_reducible rfl)); rotate_left); simp only [Act.put, List.setIfInBounds_toArray, List.set_cons_zero, List.set_cons_succ]
          refine lin_take (v := ?_) (by kernel_rfl) (by kernel_rfl) (fun _ _ _ h => h) (Or.inl ⟨by rfl, ?_⟩) (by assumption) ?_; (rotate_left; (intro wS hSw; (try dsimp only at hSw); go_simp; (try with_reducible rfl)); rotate_left); simp only [Act.put, List.setIfInBounds_toArray, List.set_cons_zero, List.set_cons_succ]
          refine lin_sole (by kernel_rfl) (fun K hK => ?_)
          go_simp
          refine (PU.out _ hO1).mono ?_
          rintro e w5 ⟨wb, rfl, h5⟩
          obtain ⟨x0, x1, x2, x3⟩ := h5.plan
          have z1 := h5.drop.old y2
          refine hK.out _ _ ⟨x0, x1, x2, x3, z1⟩ (fun hHeld => ?_)
          try simp only [Act.put, List.setIfInBounds_toArray, List.set_cons_zero, List.set_cons_succ]
          clear hK
          refine lin_take (v := ?_) (by kernel_rfl) (by kernel_rfl) (fun _ _ _ h => h) (Or.inl ⟨by rfl, ?_⟩) (by assumption) ?_; (rotate_left; (intro wS hSw; (try dsimp only at hSw); go_simp; (try with_reducible rfl)); rotate_left); simp only [Act.put, List.setIfInBounds_toArray, List.set_cons_zero, List.set_cons_succ]
          refine lin_done (by kernel_rfl) ?_
          go_wp2_with (go_at_call 32; refine (RN.out _ _ h5).mono ?_; rintro e w6 ⟨rfl, h6⟩)
          have h7 := h6.drewN 1
          have hS1 := (show (fun w' : World => w'.cell? ⟨pb, 3, none⟩ = some (.int .i64 (D : Int))) _ from h7.plan.2.2.2)
          clear h5 hHeld x0 x1 x2 x3 hS0 hO1
          refine lin_start (S := (fun w' : World => w'.cell? ⟨pb, 3, none⟩ = some (.int .i64 (D : Int)))) rfl 25 rfl hS1 ?_
          simp only [numbered, Nat.zero_add, Nat.reduceAdd]
          refine lin_take (v := ?_) (by kernel_rfl) (by kernel_rfl) (fun _ _ _ h => h) (Or.inl ⟨by rfl, ?_⟩) (by assumption) ?_; (rotate_left; (intro wS hSw; (try dsimp only at hSw); go_simp; (try with_reducible rfl)); rotate_left); simp only [Act.put, List.setIfInBounds_toArray, List.set_cons_zero, List.set_cons_succ]
          refine lin_rot ?_; simp only [List.cons_append, List.nil_append]
          refine lin_take (v := ?_) (by kernel_rfl) (by kernel_rfl) (fun _ _ _ h => h) (Or.inl ⟨by rfl, ?_⟩) (by assumption) ?_; (rotate_left; (intro wS hSw; (try dsimp only at hSw); go_simp; (try with_reducible rfl)); rotate_left); simp only [Act.put, List.setIfInBounds_toArray, List.set_cons_zero, List.set_cons_succ]
          refine lin_take (v := ?_) (by kernel_rfl) (by kernel_rfl) (fun _ _ _ h => h) (Or.inl ⟨by rfl, ?_⟩) (by assumption) ?_; (rotate_left; (intro wS hSw; (try dsimp only at hSw); go_simp; (try with_reducible rfl)); rotate_left); simp only [Act.put, List.setIfInBounds_toArray, List.set_cons_zero, List.set_cons_succ]
          refine lin_take (v := ?_) (by kernel_rfl) (by kernel_rfl) (fun _ _ _ h => h) (Or.inl ⟨by rfl, ?_⟩) (by assumption) ?_; (rotate_left; (intro wS hSw; (try dsimp only at hSw); go_simp; (try with_reducible rfl)); rotate_left); simp only [Act.put, List.setIfInBounds_toArray, List.set_cons_zero, List.set_cons_succ]
          refine lin_take (v := ?_) (by kernel_rfl) (by kernel_rfl) (fun _ _ _ h => h) (Or.inl ⟨by rfl, ?_⟩) (by assumption) ?_; (rotate_left; (intro wS hSw; (try dsimp only at hSw); go_simp; (try with_reducible rfl)); rotate_left); simp only [Act.put, List.setIfInBounds_toArray, List.set_cons_zero, List.set_cons_succ]
          refine lin_take (v := ?_) (by kernel_rfl) (by kernel_rfl) (fun _ _ _ h => h) (Or.inl ⟨by rfl, ?_⟩) (by assumption) ?_; (rotate_left; (intro wS hSw; (try dsimp only at hSw); go_simp; (try with_reducible rfl)); rotate_left); simp only [Act.put, List.setIfInBounds_toArray, List.set_cons_zero, List.set_cons_succ]
          refine lin_rot ?_; simp only [List.cons_append, List.nil_append]
          refine lin_rot ?_; simp only [List.cons_append, List.nil_append]
          refine lin_rot ?_; simp only [List.cons_append, List.nil_append]
          refine lin_rot ?_; simp only [List.cons_append, List.nil_append]
          refine lin_rot ?_; simp only [List.cons_append, List.nil_append]
          refine lin_rot ?_; simp only [List.cons_append, List.nil_append]
          refine lin_rot ?_; simp only [List.cons_append, List.nil_append]
          refine lin_rot ?_; simp only [List.cons_append, List.nil_append]
          refine lin_rot ?_; simp only [List.cons_append, List.nil_append]
          refine lin_rot ?_; simp only [List.cons_append, List.nil_append]
          refine lin_rot ?_; simp only [List.cons_append, List.nil_append]
          refine lin_rot ?_; simp only [List.cons_append, List.nil_append]
          refine lin_rot ?_; simp only [List.cons_append, List.nil_append]
          refine lin_rot ?_; simp only [List.cons_append, List.nil_append]
          refine lin_rot ?_; simp only [List.cons_append, List.nil_append]
          refine lin_rot ?_; simp only [List.cons_append, List.nil_append]
          refine lin_rot ?_; simp only [List.cons_append, List.nil_append]
          refine lin_rot ?_; simp only [List.cons_append, List.nil_append]
          refine lin_sole (by kernel_rfl) (fun K hK => ?_)
          go_simp
          refine (qFull h7).mono ?_
          rintro e w7 ⟨rfl, rfl⟩
          refine hK.out _ _ hS1 (fun hHeld => ?_)
          try simp only [Act.put, List.setIfInBounds_toArray, List.set_cons_zero, List.set_cons_succ]
          clear hK
          refine lin_take (v := ?_) (by kernel_rfl) (by kernel_rfl) (fun _ _ _ h => h) (Or.inl ⟨by rfl, ?_⟩) (by assumption) ?_; (rotate_left; (intro wS hSw; (try dsimp only at hSw); go_simp; (try with_reducible rfl)); rotate_left); simp only [Act.put, List.setIfInBounds_toArray, List.set_cons_zero, List.set_cons_succ]
          refine lin_take (v := ?_) (by kernel_rfl) (by kernel_rfl) (fun _ _ _ h => h) (Or.inl ⟨by rfl, ?_⟩) (by assumption) ?_; (rotate_left; (intro wS hSw; (try dsimp only at hSw); go_simp; (try with_reducible rfl)); rotate_left); simp only [Act.put, List.setIfInBounds_toArray, List.set_cons_zero, List.set_cons_succ]
          refine lin_take (v := ?_) (by kernel_rfl) (by kernel_rfl) (fun _ _ _ h => h) (Or.inl ⟨by rfl, ?_⟩) (by assumption) ?_; (rotate_left; (intro wS hSw; (try dsimp only at hSw); go_simp; (try with_reducible rfl)); rotate_left); simp only [Act.put, List.setIfInBounds_toArray, List.set_cons_zero, List.set_cons_succ]
          refine lin_sole (by kernel_rfl) (fun K hK => ?_)
          go_simp
          refine (qFull h7).mono ?_
          rintro e w7 ⟨rfl, rfl⟩
          refine hK.out _ _ hS1 (fun hHeld => ?_)
          try simp only [Act.put, List.setIfInBounds_toArray, List.set_cons_zero, List.set_cons_succ]
          clear hK
          refine lin_take (v := ?_) (by kernel_rfl) (by kernel_rfl) (fun _ _ _ h => h) (Or.inl ⟨by rfl, ?_⟩) (by assumption) ?_; (rotate_left; (intro wS hSw; (try dsimp only at hSw); go_simp; (try with_reducible rfl)); rotate_left); simp only [Act.put, List.setIfInBounds_toArray, List.set_cons_zero, List.set_cons_succ]
          refine lin_take (v := undef) (by kernel_rfl) (by kernel_rfl) (fun _ _ _ h => h) (Or.inr ⟨by rfl, rfl⟩) (by assumption) ?_; simp only [Act.put, List.setIfInBounds_toArray, List.set_cons_zero, List.set_cons_succ]
          refine lin_take (v := undef) (by kernel_rfl) (by kernel_rfl) (fun _ _ _ h => h) (Or.inr ⟨by rfl, rfl⟩) (by assumption) ?_; simp only [Act.put, List.setIfInBounds_toArray, List.set_cons_zero, List.set_cons_succ]
          refine lin_take (v := ?_) (by kernel_rfl) (by kernel_rfl) (fun _ _ _ h => h) (Or.inl ⟨by rfl, ?_⟩) (by assumption) ?_; (rotate_left; (intro wS hSw; (try dsimp only at hSw); go_simp; (try with_reducible rfl)); rotate_left); simp only [Act.put, List.setIfInBounds_toArray, List.set_cons_zero, List.set_cons_succ]
          refine lin_take (v := ?_) (by kernel_rfl) (by kernel_rfl) (fun _ _ _ h => h) (Or.inl ⟨by rfl, ?_⟩) (by assumption) ?_; (rotate_left; (intro wS hSw; (try dsimp only at hSw); go_simp; (try with_reducible rfl)); rotate_left); simp only [Act.put, List.setIfInBounds_toArray, List.set_cons_zero, List.set_cons_succ]
          refine lin_take (v := ?_) (by kernel_rfl) (by kernel_rfl) (fun _ _ _ h => h) (Or.inl ⟨by rfl, ?_⟩) (by assumption) ?_; (rotate_left; (intro wS hSw; (try dsimp only at hSw); go_simp; (try with_reducible rfl)); rotate_left); simp only [Act.put, List.setIfInBounds_toArray, List.set_cons_zero, List.set_cons_succ]
          refine lin_take (v := ?_) (by kernel_rfl) (by kernel_rfl) (fun _ _ _ h => h) (Or.inl ⟨by rfl, ?_⟩) (by assumption) ?_; (rotate_left; (intro wS hSw; (try dsimp only at hSw); go_simp; (try with_reducible rfl)); rotate_left); simp only [Act.put, List.setIfInBounds_toArray, List.set_cons_zero, List.set_cons_succ]
          refine lin_sole (by kernel_rfl) (fun K hK => ?_)
          go_simp
          refine (qFull h7).mono ?_
          rintro e w7 ⟨rfl, rfl⟩
          refine hK.out _ _ hS1 (fun hHeld => ?_)
          try simp only [Act.put, List.setIfInBounds_toArray, List.set_cons_zero, List.set_cons_succ]
          clear hK
          refine lin_take (v := ?_) (by kernel_rfl) (by kernel_rfl) (fun _ _ _ h => h) (Or.inl ⟨by rfl, ?_⟩) (by assumption) ?_; (rotate_left; (intro wS hSw; (try dsimp only at hSw); go_simp; (try with_reducible rfl)); rotate_left); simp only [Act.put, List.setIfInBounds_toArray, List.set_cons_zero, List.set_cons_succ]
          refine lin_take (v := ?_) (by kernel_rfl) (by kernel_rfl) (fun _ _ _ h => h) (Or.inl ⟨by rfl, ?_⟩) (by assumption) ?_; (rotate_left; (intro wS hSw; (try dsimp only at hSw); go_simp; (try with_reducible rfl)); rotate_left); simp only [Act.put, List.setIfInBounds_toArray, List.set_cons_zero, List.set_cons_succ]
          refine lin_take (v := ?_) (by kernel_rfl) (by kernel_rfl) (fun _ _ _ h => h) (Or.inl ⟨by rfl, ?_⟩) (by assumption) ?_; (rotate_left; (intro wS hSw; (try dsimp only at hSw); go_simp; (try with_reducible rfl)); rotate_left); simp only [Act.put, List.setIfInBounds_toArray, List.set_cons_zero, List.set_cons_succ]
          refine lin_take (v := ?_) (by kernel_rfl) (by kernel_rfl) (fun _ _ _ h => h) (Or.inl ⟨by rfl, ?_⟩) (by assumption) ?_; (rotate_left; (intro wS hSw; (try dsimp only at hSw); go_simp; (try with_reducible rfl)); rotate_left); simp only [Act.put, List.setIfInBounds_toArray, List.set_cons_zero, List.set_cons_succ]
          refine lin_take (v := ?_) (by kernel_rfl) (by kernel_rfl) (fun _ _ _ h => h) (Or.inl ⟨by rfl, ?_⟩) (by assumption) ?_; (rotate_left; (intro wS hSw; (try dsimp only at hSw); go_simp; (try with_reducible rfl)); rotate_left); simp only [Act.put, List.setIfInBounds_toArray, List.set_cons_zero, List.set_cons_succ]
          refine lin_take (v := ?_) (by kernel_rfl) (by kernel_rfl) (fun _ _ _ h => h) (Or.inl ⟨by rfl, ?_⟩) (by assumption) ?_; (rotate_left; (intro wS hSw; (try dsimp only at hSw); go_simp; (try with_reducible rfl)); rotate_left); simp only [Act.put, List.setIfInBounds_toArray, List.set_cons_zero, List.set_cons_succ]
          refine lin_done (by kernel_rfl) ?_
          replace h6 := Lib.hid h6
          go_upto_region 19 with (go_at_call 29; refine (qFull h7).mono ?_; rintro e w7 ⟨rfl, rfl⟩)
          obtain ⟨-, cs, bx, hk6, hO6⟩ := h7.drewN 1
          have hO2 : Own w (w6.drewN 1).drew [storeA g sb m2, planA pb 2 D, rowA 3 1 (.slice so xs.length sc) xs.length (xs.map (.int .i64)), walkA wb cs bx] := hO6.sel [0, 2, 3, 1] (by decide)
          replace hk6 := Lib.hid hk6
          clear h6 h7 hS1 hHeld hO6
          refine lin_start (S := (fun w' : World => w'.cell? ⟨g0, off + k * 3 + 2, none⟩ = some (.int .i64 X))) rfl 11 rfl ((hO2.old y2)) ?_
          simp only [numbered, Nat.zero_add, Nat.reduceAdd]
          generalize (w6.drewN 1).drew = u0 at *
          have hHeld := (hO2.old y2)
          refine lin_rot ?_; simp only [List.cons_append, List.nil_append]
          refine lin_take (v := ?_) (by kernel_rfl) (by kernel_rfl) (fun _ _ _ h => h) (Or.inl ⟨by rfl, ?_⟩) (by assumption) ?_; (rotate_left; (intro wS hSw; (try dsimp only at hSw); go_simp; (try with_reducible rfl)); rotate_left); simp only [Act.put, List.setIfInBounds_toArray, List.set_cons_zero, List.set_cons_succ]
          refine lin_rot ?_; simp only [List.cons_append, List.nil_append]
          refine lin_take (v := ?_) (by kernel_rfl) (by kernel_rfl) (fun _ _ _ h => h) (Or.inl ⟨by rfl, ?_⟩) (by assumption) ?_; (rotate_left; (intro wS hSw; (try dsimp only at hSw); go_simp; (try with_reducible rfl)); rotate_left); simp only [Act.put, List.setIfInBounds_toArray, List.set_cons_zero, List.set_cons_succ]
          refine lin_take (v := ?_) (by kernel_rfl) (by kernel_rfl) (fun _ _ _ h => h) (Or.inl ⟨by rfl, ?_⟩) (by assumption) ?_; (rotate_left; (intro wS hSw; (try dsimp only at hSw); go_simp; (try with_reducible rfl)); rotate_left); simp only [Act.put, List.setIfInBounds_toArray, List.set_cons_zero, List.set_cons_succ]
          refine lin_take (v := ?_) (by kernel_rfl) (by kernel_rfl) (fun _ _ _ h => h) (Or.inl ⟨by rfl, ?_⟩) (by assumption) ?_; (rotate_left; (intro wS hSw; (try dsimp only at hSw); go_simp; (try with_reducible rfl)); rotate_left); simp only [Act.put, List.setIfInBounds_toArray, List.set_cons_zero, List.set_cons_succ]
          refine lin_take (v := ?_) (by kernel_rfl) (by kernel_rfl) (fun _ _ _ h => h) (Or.inl ⟨by rfl, ?_⟩) (by assumption) ?_; (rotate_left; (intro wS hSw; (try dsimp only at hSw); go_simp; (try with_reducible rfl)); rotate_left); simp only [Act.put, List.setIfInBounds_toArray, List.set_cons_zero, List.set_cons_succ]
          refine lin_take (v := ?_) (by kernel_rfl) (by kernel_rfl) (fun _ _ _ h => h) (Or.inl ⟨by rfl, ?_⟩) (by assumption) ?_; (rotate_left; (intro wS hSw; (try dsimp only at hSw); go_simp; (try with_reducible rfl)); rotate_left); simp only [Act.put, List.setIfInBounds_toArray, List.set_cons_zero, List.set_cons_succ]
          refine lin_rot ?_; simp only [List.cons_append, List.nil_append]
          refine lin_rot ?_; simp only [List.cons_append, List.nil_append]
          refine lin_rot ?_; simp only [List.cons_append, List.nil_append]
          refine lin_rot ?_; simp only [List.cons_append, List.nil_append]
          refine lin_swap ?_
          refine lin_rot ?_; simp only [List.cons_append, List.nil_append]
          refine lin_rot ?_; simp only [List.cons_append, List.nil_append]
          refine lin_rot ?_; simp only [List.cons_append, List.nil_append]
          refine lin_rot ?_; simp only [List.cons_append, List.nil_append]
          refine lin_pair (by kernel_rfl) ?pone ?ptwo
          case' pone =>
            intro K hK
            go_simp
            have hB := hO2.base 3 1
            refine hK.out _ _ ((hB.old y2)) (fun hHeld => ?_)
            try simp only [Act.put, List.setIfInBounds_toArray, List.set_cons_zero, List.set_cons_succ]
            clear hK hHeld hO2; generalize u0.alloc (.cells #[] 3) = u1 at *; generalize u0.heap.size = bb0 at *
            have hHeld := (hB.old y2)
            refine lin_pair (by kernel_rfl) ?pthree ?pfour
            case' pthree =>
              intro K hK
              go_simp
              have hC := hB.lit1 3 (.int .i64 X)
              refine hK.out _ _ ((hC.old y2)) (fun hHeld => ?_)
              try simp only [Act.put, List.setIfInBounds_toArray, List.set_cons_zero, List.set_cons_succ]
              clear hK hHeld hB; generalize u1.alloc (.cells #[(.int .i64 X)] 3) = u2 at *; generalize u1.heap.size = lb0 at *
              have hHeld := (hC.old y2)
              refine lin_law (by kernel_rfl) rfl ?_
              have s1 := (hC.row 2 rfl).src'
              refine wpList_append_row _ rfl (.tmp 87) (.tmp 88) 26 rfl 3 ti1 (.int .i64 0) 1 8 Try.underlying26 hi1 hw0 hw1' hw2' rfl (by decide) (.slice (some ⟨bb0, 0, none⟩) 0 0) 0 [] rfl (hC.row 4 rfl) _ xs.length _ (xs.map (.int .i64)) rfl s1.1 s1.2.1 s1.2.2 hone (by unfold maxLen; omega) (by omega) ?_
              intro v2 u3 hr2 ht2 hf2; simp only [Nat.zero_add, List.nil_append] at hr2; obtain ⟨ao2, c2, rfl, p1, p2, _⟩ := hr2.shape
              have hD := hC.move 4 rfl (Moves.of_append hr2 ht2 hf2)
              refine wpList_nil ⟨rfl, (hD.old y2), fun hHeld => ?_⟩
              try simp only [Act.put, List.setIfInBounds_toArray, List.set_cons_zero, List.set_cons_succ]
              clear hC s1 hHeld ht2 hf2; have hHeld := (hD.old y2)
              refine lin_law (by kernel_rfl) rfl ?_
              have s2 := (hD.row 5 rfl).src'
              refine wpList_append_row _ rfl (.tmp 89) (.tmp 95) 26 rfl 3 ti1 (.int .i64 0) 1 8 Try.underlying26 hi1 hw0 hw1' hw2' rfl (by decide) (.slice ao2 xs.length c2) xs.length (xs.map (.int .i64)) rfl (hD.row 4 rfl) _ 1 1 [(.int .i64 X)] rfl s2.1 s2.2.1 s2.2.2 (by simp [Value.oneCell']) (by unfold maxLen; omega) (by omega) ?_
              intro v3 w3 hr3 ht3 hf3; obtain ⟨ao3, c3, rfl, p3, p4, _⟩ := hr3.shape
              have hG := (hD.move 4 rfl (Moves.of_append hr3 ht3 hf3)).sel [0, 1, 3, 4] (by decide)
              refine wpList_nil ⟨rfl, (hG.old y2), fun hHeld => ?_⟩
              try simp only [Act.put, List.setIfInBounds_toArray, List.set_cons_zero, List.set_cons_succ]
              clear hD s2 hHeld ht3 hf3 hr2; have hHeld := (hG.old y2)
              refine lin_take (v := ?_) (by kernel_rfl) (by kernel_rfl) (fun _ _ _ h => h) (Or.inl ⟨by rfl, ?_⟩) (by assumption) ?_; (rotate_left; (intro wS hSw; (try dsimp only at hSw); go_simp; (try with_reducible rfl)); rotate_left); simp only [Act.put, List.setIfInBounds_toArray, List.set_cons_zero, List.set_cons_succ]
              refine lin_done (by kernel_rfl) ?_
            case' pfour =>
              refine comes_law rfl ?_
              have s1 := (hB.row 2 rfl).src'
              refine wpList_append_row _ rfl (.tmp 87) (.tmp 88) 26 rfl 3 ti1 (.int .i64 0) 1 8 Try.underlying26 hi1 hw0 hw1' hw2' rfl (by decide) (.slice (some ⟨bb0, 0, none⟩) 0 0) 0 [] rfl (hB.row 4 rfl) _ xs.length _ (xs.map (.int .i64)) rfl s1.1 s1.2.1 s1.2.2 hone (by unfold maxLen; omega) (by omega) ?_
              intro v2 u2 hr2 ht2 hf2; simp only [Nat.zero_add, List.nil_append] at hr2; obtain ⟨ao2, c2, rfl, p1, p2, _⟩ := hr2.shape
              have hC := hB.move 4 rfl (Moves.of_append hr2 ht2 hf2)
              refine wpList_nil ⟨rfl, (hC.old y2), fun hHeld => ?_⟩
              try simp only [Act.put, List.setIfInBounds_toArray, List.set_cons_zero, List.set_cons_succ]
              clear hB s1 hHeld ht2 hf2; have hHeld := (hC.old y2)
              refine lin_sole (by kernel_rfl) (fun K hK => ?_)
              go_simp
              have hD := hC.lit1 3 (.int .i64 X)
              refine hK.out _ _ ((hD.old y2)) (fun hHeld => ?_)
              try simp only [Act.put, List.setIfInBounds_toArray, List.set_cons_zero, List.set_cons_succ]
              clear hK hHeld hC; generalize u2.alloc (.cells #[(.int .i64 X)] 3) = u3 at *; generalize u2.heap.size = lb0 at *
              have hHeld := (hD.old y2)
              refine lin_law (by kernel_rfl) rfl ?_
              have s2 := (hD.row 5 rfl).src'
              refine wpList_append_row _ rfl (.tmp 89) (.tmp 95) 26 rfl 3 ti1 (.int .i64 0) 1 8 Try.underlying26 hi1 hw0 hw1' hw2' rfl (by decide) (.slice ao2 xs.length c2) xs.length (xs.map (.int .i64)) rfl (hD.row 4 rfl) _ 1 1 [(.int .i64 X)] rfl s2.1 s2.2.1 s2.2.2 (by simp [Value.oneCell']) (by unfold maxLen; omega) (by omega) ?_
              intro v3 w3 hr3 ht3 hf3; obtain ⟨ao3, c3, rfl, p3, p4, _⟩ := hr3.shape
              have hG := (hD.move 4 rfl (Moves.of_append hr3 ht3 hf3)).sel [0, 1, 3, 4] (by decide)
              refine wpList_nil ⟨rfl, (hG.old y2), fun hHeld => ?_⟩
              try simp only [Act.put, List.setIfInBounds_toArray, List.set_cons_zero, List.set_cons_succ]
              clear hD s2 hHeld ht3 hf3 hr2; have hHeld := (hG.old y2)
              refine lin_take (v := ?_) (by kernel_rfl) (by kernel_rfl) (fun _ _ _ h => h) (Or.inl ⟨by rfl, ?_⟩) (by assumption) ?_; (rotate_left; (intro wS hSw; (try dsimp only at hSw); go_simp; (try with_reducible rfl)); rotate_left); simp only [Act.put, List.setIfInBounds_toArray, List.set_cons_zero, List.set_cons_succ]
              refine lin_done (by kernel_rfl) ?_
          case' ptwo =>
            intro K hK
            go_simp
            have hB := hO2.lit1 3 (.int .i64 X)
            refine hK.out _ _ ((hB.old y2)) (fun hHeld => ?_)
            try simp only [Act.put, List.setIfInBounds_toArray, List.set_cons_zero, List.set_cons_succ]
            clear hK hHeld hO2; generalize u0.alloc (.cells #[(.int .i64 X)] 3) = u1 at *; generalize u0.heap.size = lb0 at *
            have hHeld := (hB.old y2)
            refine lin_sole (by kernel_rfl) (fun K hK => ?_)
            go_simp
            have hC := hB.base 3 1
            refine hK.out _ _ ((hC.old y2)) (fun hHeld => ?_)
            try simp only [Act.put, List.setIfInBounds_toArray, List.set_cons_zero, List.set_cons_succ]
            clear hK hHeld hB; generalize u1.alloc (.cells #[] 3) = u2 at *; generalize u1.heap.size = bb0 at *
            have hHeld := (hC.old y2)
            refine lin_law (by kernel_rfl) rfl ?_
            have s1 := (hC.row 2 rfl).src'
            refine wpList_append_row _ rfl (.tmp 87) (.tmp 88) 26 rfl 3 ti1 (.int .i64 0) 1 8 Try.underlying26 hi1 hw0 hw1' hw2' rfl (by decide) (.slice (some ⟨bb0, 0, none⟩) 0 0) 0 [] rfl (hC.row 5 rfl) _ xs.length _ (xs.map (.int .i64)) rfl s1.1 s1.2.1 s1.2.2 hone (by unfold maxLen; omega) (by omega) ?_
            intro v2 u3 hr2 ht2 hf2; simp only [Nat.zero_add, List.nil_append] at hr2; obtain ⟨ao2, c2, rfl, p1, p2, _⟩ := hr2.shape
            have hD := hC.move 5 rfl (Moves.of_append hr2 ht2 hf2)
            refine wpList_nil ⟨rfl, (hD.old y2), fun hHeld => ?_⟩
            try simp only [Act.put, List.setIfInBounds_toArray, List.set_cons_zero, List.set_cons_succ]
            clear hC s1 hHeld ht2 hf2; have hHeld := (hD.old y2)
            refine lin_law (by kernel_rfl) rfl ?_
            have s2 := (hD.row 4 rfl).src'
            refine wpList_append_row _ rfl (.tmp 89) (.tmp 95) 26 rfl 3 ti1 (.int .i64 0) 1 8 Try.underlying26 hi1 hw0 hw1' hw2' rfl (by decide) (.slice ao2 xs.length c2) xs.length (xs.map (.int .i64)) rfl (hD.row 5 rfl) _ 1 1 [(.int .i64 X)] rfl s2.1 s2.2.1 s2.2.2 (by simp [Value.oneCell']) (by unfold maxLen; omega) (by omega) ?_
            intro v3 w3 hr3 ht3 hf3; obtain ⟨ao3, c3, rfl, p3, p4, _⟩ := hr3.shape
            have hG := (hD.move 5 rfl (Moves.of_append hr3 ht3 hf3)).sel [0, 1, 3, 5] (by decide)
            refine wpList_nil ⟨rfl, (hG.old y2), fun hHeld => ?_⟩
            try simp only [Act.put, List.setIfInBounds_toArray, List.set_cons_zero, List.set_cons_succ]
            clear hD s2 hHeld ht3 hf3 hr2; have hHeld := (hG.old y2)
            refine lin_take (v := ?_) (by kernel_rfl) (by kernel_rfl) (fun _ _ _ h => h) (Or.inl ⟨by rfl, ?_⟩) (by assumption) ?_; (rotate_left; (intro wS hSw; (try dsimp only at hSw); go_simp; (try with_reducible rfl)); rotate_left); simp only [Act.put, List.setIfInBounds_toArray, List.set_cons_zero, List.set_cons_succ]
            refine lin_done (by kernel_rfl) ?_
          all_goals
            have hl3 : (xs ++ [X]).length = xs.length + 1 := by simp
            have hE : Own w w3 [storeA g sb m2, walkA wb cs bx, planA pb 2 D, rowA 3 1 (.slice ao3 (xs ++ [X]).length c3) (xs ++ [X]).length ((xs ++ [X]).map (.int .i64))] := by
              rw [hl3, List.map_append]
              exact hG.sel [0, 2, 1, 3] (by decide)
            have hF : DW 2 D 0 0 w w3 g sb wb m2 ⟨99, (((xs ++ [X]).length : Nat) : Int), X, 0, 0, false, false⟩ [planA pb 2 D, rowA 3 1 (.slice ao3 (xs ++ [X]).length c3) (xs ++ [X]).length ((xs ++ [X]).map (.int .i64))] := ⟨.inr rfl, cs, bx, hk6.out, hE⟩
            replace hF := Lib.hid hF
            clear hG hHeld hE
            go_wp2_with (go_at_call 26; refine (qTail hF.out).mono ?_; rintro e w7 ⟨rfl, rfl⟩)
            go_roundw
            case rel => exact ⟨k + 1, xs ++ [X], ao3, c3, by omega, by rw [hl3], by rw [hl3]; rfl, by go_num, Lib.hid ⟨m2, l1.out, q1.out, by omega, hF.out.drop⟩⟩
            case measure => simp [intOf]; omega
      · have hd2 : decide ((kr : Int) < 2) = false := by simp; omega
        rcases List.eq_nil_or_concat xs with rfl | ⟨ys, y, rfl⟩
        · obtain ⟨m2, nn, r1, l1, q1⟩ := pop_none hq 90 1
          have RN := Lib.hid (fun (w1 : World) (wb : Nat) (h' : DW 2 D 0 0 w w1 g sb wb ms (pop0 0) [planA pb 2 D, rowA 3 1 (.slice so 0 sc) 0 []]) => run13 c0 (.inr (.inl (show 10 ≤ 10 ∧ 10 ≤ 20 by decide))) h' _ r1)
          have PU := Lib.hid (qPop 2 D 0 0 0 hO)
          rw [hl'] at l1
          replace l1 := Lib.hid l1
          replace q1 := Lib.hid q1
          simp only [List.length_nil] at *
          clear hO hq hl' r1 c0
          go_wp2_with (first | (go_at_call 23; refine PU.out.mono ?_; rintro e w5 ⟨wb, rfl, h5⟩; replace h5 := Lib.hid h5) | (go_at_call 32; refine (RN.out _ _ h5.out).mono ?_; rintro e w6 ⟨rfl, h6⟩; replace h6 := Lib.hid h6) | (go_at_call 25; refine (qGot h6.out).mono ?_; rintro e w7 ⟨rfl, rfl⟩) | (go_at_call 26; refine (qTail h6.out).mono ?_; rintro e w7 ⟨rfl, rfl⟩))
          go_roundw
          case rel => exact ⟨k + 1, [], so, sc, by omega, rfl, rfl, by go_num, Lib.hid ⟨m2, l1.out, q1.out, by simp, h6.out.drop⟩⟩
          case measure => simp [intOf]; omega
        · rw [List.concat_eq_append] at *
          have hln : (ys ++ [y]).length = ys.length + 1 := by simp
          obtain ⟨m2, r1, l1, q1⟩ := pop_last hq 96 1
          rw [Nat.zero_add, Nat.zero_add] at r1
          have RN := Lib.hid (fun (w1 : World) (wb : Nat) (h' : DW 2 D 0 0 w w1 g sb wb ms (pop0 ((ys ++ [y]).length : Int)) [planA pb 2 D, rowA 3 1 (.slice so (ys ++ [y]).length sc) (ys ++ [y]).length ((ys ++ [y]).map (.int .i64))]) => run13 c0 (.inr (.inl (show 10 ≤ 10 ∧ 10 ≤ 20 by decide))) h' _ r1)
          have PU := Lib.hid (qPop 2 D 0 0 ((ys ++ [y]).length : Int) hO)
          have hsm : ∃ g2 off2, so = some ⟨g2, off2, none⟩ := by
            obtain ⟨g2, off2, cap2, hv, _⟩ := (hO.row 2 rfl).addr (by rw [hln]; omega)
            simp only [Value.slice.injEq] at hv
            exact ⟨g2, off2, hv.1⟩
          obtain ⟨g2, off2, rfl⟩ := hsm
          have RC := Lib.hid (fun (w1 : World) (wb : Nat) (s' : WS) (h' : DW 2 D 0 0 w w1 g sb wb m2 s' [planA pb 2 D, rowA 3 1 (.slice (some ⟨g2, off2, none⟩) (ys ++ [y]).length sc) (ys ++ [y]).length ((ys ++ [y]).map (.int .i64))]) =>
            show w1.cell? ⟨g2, off2 + ys.length, none⟩ = some (.int .i64 y) from (h'.drop.row_at 2 rfl (j := ys.length) (by simp)))
          have RT := Lib.hid (fun (w1 : World) (h' : Own w w1 [storeA g sb m2, planA pb 2 D, rowA 3 1 (.slice (some ⟨g2, off2, none⟩) (ys ++ [y]).length sc) (ys ++ [y]).length ((ys ++ [y]).map (.int .i64))]) =>
            show Own w w1 [storeA g sb m2, planA pb 2 D, rowA 3 1 (.slice (some ⟨g2, off2, none⟩) ys.length sc) ys.length (ys.map (.int .i64))] by
              have := h'.takeRow 2 rfl (k := ys.length) (by simp)
              simpa using this)
          rw [hl'] at l1
          replace l1 := Lib.hid l1
          replace q1 := Lib.hid q1
          have hyk : Hid (ys.length ≤ k + 1) := Lib.hid (by rw [hln] at hxk; omega)
          rw [hln] at PU RN RC b1
          have hn1 : ((ys.length + 1 : Nat) : Int) - 1 = (ys.length : Int) := by omega
          have hmx : max (ys.length : Int) 0 = (ys.length : Int) := by omega
          have hgt : decide (0 < ((ys.length + 1 : Nat) : Int)) = true := decide_eq_true (by omega)
          have hll : ys.length < ys.length + 1 := by omega
          have hyl : ys.length ≤ 1000 := by rw [hln] at hxk; omega
          rw [hln]
          clear hO hq hl' r1 c0 hxk hln
          go_wp2_with (first | (go_at_call 23; refine PU.out.mono ?_; rintro e w5 ⟨wb, rfl, h5⟩; replace h5 := Lib.hid h5) | (go_at_call 32; refine (RN.out _ _ h5.out).mono ?_; rintro e w6 ⟨rfl, h6⟩; have yc := RC.out _ _ _ h6; replace h6 := Lib.hid h6) | (go_at_call 25; refine (qGot h6.out).mono ?_; simp only [gotV, and_self, if_true]; rintro e w7 ⟨rfl, rfl⟩) | (go_at_call 26; refine (qTail h6.out).mono ?_; rintro e w7 ⟨rfl, rfl⟩))
          go_roundw
          case rel => exact ⟨k + 1, ys, some ⟨g2, off2, none⟩, sc, by omega, rfl, rfl, by go_num, Lib.hid ⟨m2, l1.out, q1.out, hyk.out, RT.out _ (by rw [show (ys ++ [y]).length = ys.length + 1 by simp]; exact h6.out.drop)⟩⟩
          case measure => simp [intOf]; omega
    · obtain rfl : k = os.length := by omega
      have hB := Lib.hid hO.below
      clear hO hq
      go_wp2_with (first | (go_at_call 25; refine (dGot_nil _).mono ?_; rintro e w7 ⟨rfl, rfl⟩) | (go_at_call 33; refine (dEnded_nil _).mono ?_; rintro e w7 ⟨rfl, rfl⟩) | (go_at_call 34; refine (dStep_nil _ _).mono ?_; rintro e w7 ⟨rfl, rfl⟩) | (go_at_call 29; refine (dFull_nil _).mono ?_; rintro e w7 ⟨rfl, rfl⟩) | (go_at_call 26; refine (dTail_nil _).mono ?_; rintro e w7 ⟨rfl, rfl⟩))
      go_ret
      exact ⟨rfl, hB.out⟩
theorem walkDequeAlone (v0 v1 : Value) (w : World) (h0 : Arg Try.prog w 5 v0) (h1 : Arg Try.prog w 52 v1) :
    Calls Try.prog 7 #[v0, v1] w fun e w' => e = .returned (.bool true) ∧ Below w.heap.size w w' := by
  obtain ⟨m, rfl, hm⟩ := h0.int Try.underlying5
  simp [Lit.wf, IntKind.min, IntKind.max, IntKind.signed, IntKind.bits] at hm
  obtain ⟨m, rfl⟩ : ∃ k : Nat, m = k := ⟨m.toNat, by omega⟩
  obtain ⟨oo, oc, os, rfl, p1, p2, g, off, p4⟩ := h1.dqops
  by_cases hl : os.length ≤ 300
  · exact dalone_core m os oo oc g off w (by omega) p1 p2 hl p4
  · unfold maxLen at p2
    clear p4
    have hl2 : 300 < os.length := by omega
    go_enter Try.func7, Try.ntmps7
    go_wp2_with (go_at_call 30; refine (works13_any _).mono ?_; rintro e w1 ⟨rfl, hb1⟩)
    go_ret
    exact ⟨rfl, hb1⟩
end Go.Proofs.Ytofnjapgacgdlaa
