/- The walk through the law StoreLast. -/
import Derived.Test.YtpijgjalabocpaaStoreOwn
import Derived.Test.YtpijgjalabocpaaWorks09
import Derived.Test.YtpijgjalabocpaaArgs
import Derived.Test.YtpijgjalabocpaaRegion
set_option linter.unusedVariables false
set_option linter.unusedSimpArgs false
namespace Go.Proofs.Ytpijgjalabocpaa
open Go.RowKit
/-- What was stored last at a place; 0 if nothing was. -/
def lastV (xs : List (List Int)) (a : Int) : Int := xs.foldl (fun acc p => if p.getD 0 0 = a then p.getD 1 0 else acc) 0
theorem lastV_next {xs : List (List Int)} {k : Nat} (h : k < xs.length) (a : Int) : lastV (xs.take (k + 1)) a = if (xs.getD k []).getD 0 0 = a then (xs.getD k []).getD 1 0 else lastV (xs.take k) a := by
  unfold lastV
  rw [List.take_succ_eq_append_getElem h, List.foldl_append]
  simp [h]
set_option maxHeartbeats 4000000
set_option maxRecDepth 100000
theorem slast_core (sz : Nat) (xs : List (List Int)) (lo : Option Addr) (lc : Nat) (w : World) (hsz : sz ≤ 255) (hl1 : xs.length ≤ lc) (hl2 : lc ≤ maxLen) (hll : xs.length ≤ 500)
    (g2 off : Nat) (hl : ∀ i, i < xs.length → lo = some ⟨g2, off, none⟩ ∧ ∀ j, j < 2 → w.cell? ⟨g2, off + i * 2 + j, none⟩ = some (.int .i64 ((xs.getD i []).getD j 0))) :
    Calls Try.prog 4 #[.int .u8 sz, .slice lo xs.length lc] w fun e w' => e = .returned (.bool true) ∧ Below w.heap.size w w' := by
  unfold maxLen at hl2
  replace hl := Lib.hid hl
  have N := Lib.hid (fun (w1 : World) (h : Below w.heap.size w w1) => own_new (Own.nil h) sz (List.replicate sz 0) (by congr 1; omega))
  go_enter Try.func4, Try.ntmps4
  go_wp2_with (go_at_call 14; refine (works09_any _).mono ?_; rintro e w1 ⟨rfl, hb1⟩)
  go_at_call 15
  refine (N.out _ hb1).mono ?_
  rintro e w2 ⟨rfl, hO0⟩
  clear hb1
  have A := own_all hO0 0 rfl
  rw [show (List.replicate sz (0 : Int)).length = sz by simp] at A
  replace A := Lib.hid A
  go_wp2_with (go_at_call 18; refine A.out.mono ?_; rintro e w3 ⟨wo, wc, rfl, hO1, hli1, hrow, hfr, hb3⟩)
  have hO2 : Own w w3 [storeA (w1.heap.size + 1) w1.heap.size (List.replicate sz 0), rowA 3 1 (.slice wo sz wc) sz ((List.replicate sz (0 : Int)).map (.int .i64))] := hO0.push hb3 (rowA 3 1 (.slice wo sz wc) sz ((List.replicate sz (0 : Int)).map (.int .i64))) hrow hfr
  have hml0 : (List.replicate sz (0 : Int)).length = sz := by simp
  have hz0 : ∀ a, a < sz → (List.replicate sz (0 : Int)).getD a 0 = 0 := fun a ha => by rw [List.getD_eq_getElem?_getD, List.getElem?_replicate, if_pos ha]; rfl
  have hwc := hli1.1
  have hwc2 := hli1.2.1
  rw [hml0] at hwc
  unfold maxLen at hwc2
  generalize List.replicate sz (0 : Int) = zs at *
  generalize w1.heap.size = b at *
  replace hml0 := Lib.hid hml0
  replace hz0 := Lib.hid hz0
  clear hO0 hO1 hli1 hrow hfr hb3 A N
  go_loopw [7] (fun i wr => ∃ (k : Nat) (ms : List Int), k ≤ xs.length ∧ i = .int .i64 k ∧ Hid (ms.length = sz) ∧ Hid (∀ a : Nat, a < sz → ms.getD a 0 = lastV (xs.take k) a) ∧ Own w wr [storeA (b + 1) b ms, rowA 3 1 (.slice wo sz wc) sz (zs.map (.int .i64))]) (fun i _ => (xs.length - intOf i).toNat)
  case atStart => exact ⟨0, zs, by omega, rfl, hml0, Lib.hid (fun a ha => by rw [hz0.out a ha]; rfl), hO2⟩
  case round =>
    clear hO2
    obtain ⟨k, ms, hk, rfl, hml, hlv, hO⟩ := hrel
    by_cases hlt : k < xs.length
    · obtain ⟨rfl, hx⟩ := hl.out k hlt
      have x0 := hx 0 (by omega)
      have x1 := hx 1 (by omega)
      have hnx := Lib.hid (lastV_next hlt)
      generalize (xs.getD k []).getD 0 0 = A0 at *
      generalize (xs.getD k []).getD 1 0 = V0 at *
      rw [Nat.add_zero] at x0
      have z0 := hO.old x0
      have z1 := hO.old x1
      replace x0 := Lib.hid x0
      replace x1 := Lib.hid x1
      clear hx
      by_cases hin : 0 ≤ A0 ∧ A0 < sz
      · obtain ⟨hin1, hin2⟩ := hin
        obtain ⟨a, rfl⟩ : ∃ n : Nat, A0 = n := ⟨A0.toNat, by omega⟩
        have ha : a < sz := by omega
        have S1 := Lib.hid (own_store (hO.drewN 1) 0 rfl (k := a) (by rw [hml.out]; exact ha) V0 _ rfl)
        have hml' := Lib.hid (show (ms.set a V0).length = sz by rw [List.length_set, hml.out])
        have hlv' := Lib.hid (show ∀ c : Nat, c < sz → (ms.set a V0).getD c 0 = lastV (xs.take (k + 1)) c by
          intro c hc
          rw [hnx.out]
          by_cases hac : (a : Int) = c
          · have : a = c := by omega
            subst this
            rw [if_pos rfl, List.getD_eq_getElem?_getD, List.getElem?_set_self (by rw [hml.out]; exact ha)]
            rfl
          · rw [if_neg hac, List.getD_eq_getElem?_getD, List.getElem?_set_ne (by omega), ← List.getD_eq_getElem?_getD]
            exact hlv.out c hc)
        have i1 : (0 : Int) ≤ (k : Int) := by omega
        have i2 : (k : Int) < (xs.length : Int) := by omega
        have q0 : IntKind.i64.wrap (sz : Int) = (sz : Int) := IntWalk.i64_in _ (by omega)
        have n1 : decide ((0 : Int) ≤ (a : Int)) = true := by simp
        have n2 : decide ((a : Int) < (sz : Int)) = true := by simp [ha]
        go_wp2_with fail
        have hS0 : (fun w' => w'.cell? ⟨g2, off + k * 2, none⟩ = some (.int .i64 ↑a) ∧ w'.cell? ⟨g2, off + k * 2 + 1, none⟩ = some (.int .i64 V0)) wr.drew := ⟨z0, z1⟩
        dsimp only at hS0
        refine lin_start (S := (fun w' => w'.cell? ⟨g2, off + k * 2, none⟩ = some (.int .i64 ↑a) ∧ w'.cell? ⟨g2, off + k * 2 + 1, none⟩ = some (.int .i64 V0))) rfl 29 rfl hS0 ?_
        simp only [numbered, Nat.zero_add, Nat.reduceAdd]
        refine lin_take (v := ?_) (by kernel_rfl) (by kernel_rfl) (fun _ _ _ h => h) (Or.inl ⟨by rfl, ?_⟩) (by assumption) ?_; (rotate_left; (intro wS hSw; (try dsimp only at hSw); go_simp; (try with_reducible rfl)); rotate_left); simp only [Act.put, List.setIfInBounds_toArray, List.set_cons_zero, List.set_cons_succ]
        refine lin_take (v := ?_) (by kernel_rfl) (by kernel_rfl) (fun _ _ _ h => h) (Or.inl ⟨by rfl, ?_⟩) (by assumption) ?_; (rotate_left; (intro wS hSw; (try dsimp only at hSw); go_simp; (try with_reducible rfl)); rotate_left); simp only [Act.put, List.setIfInBounds_toArray, List.set_cons_zero, List.set_cons_succ]
        refine lin_take (v := ?_) (by kernel_rfl) (by kernel_rfl) (fun _ _ _ h => h) (Or.inl ⟨by rfl, ?_⟩) (by assumption) ?_; (rotate_left; (intro wS hSw; (try dsimp only at hSw); go_simp; (try with_reducible rfl)); rotate_left); simp only [Act.put, List.setIfInBounds_toArray, List.set_cons_zero, List.set_cons_succ]
        refine lin_take (v := ?_) (by kernel_rfl) (by kernel_rfl) (fun _ _ _ h => h) (Or.inl ⟨by rfl, ?_⟩) (by assumption) ?_; (rotate_left; (intro wS hSw; (try dsimp only at hSw); go_simp; (try with_reducible rfl)); rotate_left); simp only [Act.put, List.setIfInBounds_toArray, List.set_cons_zero, List.set_cons_succ]
        refine lin_take (v := ?_) (by kernel_rfl) (by kernel_rfl) (fun _ _ _ h => h) (Or.inl ⟨by rfl, ?_⟩) (by assumption) ?_; (rotate_left; (intro wS hSw; (try dsimp only at hSw); go_simp; (try with_reducible rfl)); rotate_left); simp only [Act.put, List.setIfInBounds_toArray, List.set_cons_zero, List.set_cons_succ]
        refine lin_take (v := ?_) (by kernel_rfl) (by kernel_rfl) (fun _ _ _ h => h) (Or.inl ⟨by rfl, ?_⟩) (by assumption) ?_; (rotate_left; (intro wS hSw; (try dsimp only at hSw); go_simp; (try with_reducible rfl)); rotate_left); simp only [Act.put, List.setIfInBounds_toArray, List.set_cons_zero, List.set_cons_succ]
        refine lin_take (v := ?_) (by kernel_rfl) (by kernel_rfl) (fun _ _ _ h => h) (Or.inl ⟨by rfl, ?_⟩) (by assumption) ?_; (rotate_left; (intro wS hSw; (try dsimp only at hSw); go_simp; (try with_reducible rfl)); rotate_left); simp only [Act.put, List.setIfInBounds_toArray, List.set_cons_zero, List.set_cons_succ]
        refine lin_take (v := ?_) (by kernel_rfl) (by kernel_rfl) (fun _ _ _ h => h) (Or.inl ⟨by rfl, ?_⟩) (by assumption) ?_; (rotate_left; (intro wS hSw; (try dsimp only at hSw); go_simp; (try with_reducible rfl)); rotate_left); simp only [Act.put, List.setIfInBounds_toArray, List.set_cons_zero, List.set_cons_succ]
        refine lin_take (v := ?_) (by kernel_rfl) (by kernel_rfl) (fun _ _ _ h => h) (Or.inl ⟨by rfl, ?_⟩) (by assumption) ?_; (rotate_left; (intro wS hSw; (try dsimp only at hSw); go_simp; (try with_reducible rfl)); rotate_left); simp only [Act.put, List.setIfInBounds_toArray, List.set_cons_zero, List.set_cons_succ]
        refine lin_take (v := ?_) (by kernel_rfl) (by kernel_rfl) (fun _ _ _ h => h) (Or.inl ⟨by rfl, ?_⟩) (by assumption) ?_; (rotate_left; (intro wS hSw; (try dsimp only at hSw); go_simp; (try with_reducible rfl)); rotate_left); simp only [Act.put, List.setIfInBounds_toArray, List.set_cons_zero, List.set_cons_succ]
        refine lin_take (v := ?_) (by kernel_rfl) (by kernel_rfl) (fun _ _ _ h => h) (Or.inl ⟨by rfl, ?_⟩) (by assumption) ?_; (rotate_left; (intro wS hSw; (try dsimp only at hSw); go_simp; (try with_reducible rfl)); rotate_left); simp only [Act.put, List.setIfInBounds_toArray, List.set_cons_zero, List.set_cons_succ]
        refine lin_rot ?_; simp only [List.cons_append, List.nil_append]
        refine lin_take (v := ?_) (by kernel_rfl) (by kernel_rfl) (fun _ _ _ h => h) (Or.inl ⟨by rfl, ?_⟩) (by assumption) ?_; (rotate_left; (intro wS hSw; (try dsimp only at hSw); go_simp; (try with_reducible rfl)); rotate_left); simp only [Act.put, List.setIfInBounds_toArray, List.set_cons_zero, List.set_cons_succ]
        refine lin_take (v := ?_) (by kernel_rfl) (by kernel_rfl) (fun _ _ _ h => h) (Or.inl ⟨by rfl, ?_⟩) (by assumption) ?_; (rotate_left; (intro wS hSw; (try dsimp only at hSw); go_simp; (try with_reducible rfl)); rotate_left); simp only [Act.put, List.setIfInBounds_toArray, List.set_cons_zero, List.set_cons_succ]
        refine lin_take (v := ?_) (by kernel_rfl) (by kernel_rfl) (fun _ _ _ h => h) (Or.inl ⟨by rfl, ?_⟩) (by assumption) ?_; (rotate_left; (intro wS hSw; (try dsimp only at hSw); go_simp; (try with_reducible rfl)); rotate_left); simp only [Act.put, List.setIfInBounds_toArray, List.set_cons_zero, List.set_cons_succ]
        refine lin_take (v := ?_) (by kernel_rfl) (by kernel_rfl) (fun _ _ _ h => h) (Or.inl ⟨by rfl, ?_⟩) (by assumption) ?_; (rotate_left; (intro wS hSw; (try dsimp only at hSw); go_simp; (try with_reducible rfl)); rotate_left); simp only [Act.put, List.setIfInBounds_toArray, List.set_cons_zero, List.set_cons_succ]
        refine lin_take (v := ?_) (by kernel_rfl) (by kernel_rfl) (fun _ _ _ h => h) (Or.inl ⟨by rfl, ?_⟩) (by assumption) ?_; (rotate_left; (intro wS hSw; (try dsimp only at hSw); go_simp; (try with_reducible rfl)); rotate_left); simp only [Act.put, List.setIfInBounds_toArray, List.set_cons_zero, List.set_cons_succ]
        refine lin_take (v := ?_) (by kernel_rfl) (by kernel_rfl) (fun _ _ _ h => h) (Or.inl ⟨by rfl, ?_⟩) (by assumption) ?_; (rotate_left; (intro wS hSw; (try dsimp only at hSw); go_simp; (try with_reducible rfl)); rotate_left); simp only [Act.put, List.setIfInBounds_toArray, List.set_cons_zero, List.set_cons_succ]
        refine lin_rot ?_; simp only [List.cons_append, List.nil_append]
        refine lin_rot ?_; simp only [List.cons_append, List.nil_append]
        refine lin_rot ?_; simp only [List.cons_append, List.nil_append]
        refine lin_rot ?_; simp only [List.cons_append, List.nil_append]
        refine lin_rot ?_; simp only [List.cons_append, List.nil_append]
        refine lin_rot ?_; simp only [List.cons_append, List.nil_append]
        refine lin_rot ?_; simp only [List.cons_append, List.nil_append]
        refine lin_rot ?_; simp only [List.cons_append, List.nil_append]
        refine lin_rot ?_; simp only [List.cons_append, List.nil_append]
        refine lin_rot ?_; simp only [List.cons_append, List.nil_append]
        refine lin_rot ?_; simp only [List.cons_append, List.nil_append]
        refine lin_sole (by kernel_rfl) (fun K hK => ?_)
        go_simp
        (refine S1.out.mono ?_; rintro e w5 ⟨rfl, hO5⟩)
        refine hK.out _ _ ?_ (fun hHeld => ?_)
        · exact ⟨hO5.old x0.out, hO5.old x1.out⟩
        try simp only [Act.put, List.setIfInBounds_toArray, List.set_cons_zero, List.set_cons_succ]
        refine lin_take (v := ?_) (by kernel_rfl) (by kernel_rfl) (fun _ _ _ h => h) (Or.inl ⟨by rfl, ?_⟩) (by assumption) ?_; (rotate_left; (intro wS hSw; (try dsimp only at hSw); go_simp; (try with_reducible rfl)); rotate_left); simp only [Act.put, List.setIfInBounds_toArray, List.set_cons_zero, List.set_cons_succ]
        refine lin_take (v := ?_) (by kernel_rfl) (by kernel_rfl) (fun _ _ _ h => h) (Or.inl ⟨by rfl, ?_⟩) (by assumption) ?_; (rotate_left; (intro wS hSw; (try dsimp only at hSw); go_simp; (try with_reducible rfl)); rotate_left); simp only [Act.put, List.setIfInBounds_toArray, List.set_cons_zero, List.set_cons_succ]
        refine lin_take (v := ?_) (by kernel_rfl) (by kernel_rfl) (fun _ _ _ h => h) (Or.inl ⟨by rfl, ?_⟩) (by assumption) ?_; (rotate_left; (intro wS hSw; (try dsimp only at hSw); go_simp; (try with_reducible rfl)); rotate_left); simp only [Act.put, List.setIfInBounds_toArray, List.set_cons_zero, List.set_cons_succ]
        refine lin_take (v := ?_) (by kernel_rfl) (by kernel_rfl) (fun _ _ _ h => h) (Or.inl ⟨by rfl, ?_⟩) (by assumption) ?_; (rotate_left; (intro wS hSw; (try dsimp only at hSw); go_simp; (try with_reducible rfl)); rotate_left); simp only [Act.put, List.setIfInBounds_toArray, List.set_cons_zero, List.set_cons_succ]
        refine lin_take (v := ?_) (by kernel_rfl) (by kernel_rfl) (fun _ _ _ h => h) (Or.inl ⟨by rfl, ?_⟩) (by assumption) ?_; (rotate_left; (intro wS hSw; (try dsimp only at hSw); go_simp; (try with_reducible rfl)); rotate_left); simp only [Act.put, List.setIfInBounds_toArray, List.set_cons_zero, List.set_cons_succ]
        refine lin_take (v := ?_) (by kernel_rfl) (by kernel_rfl) (fun _ _ _ h => h) (Or.inl ⟨by rfl, ?_⟩) (by assumption) ?_; (rotate_left; (intro wS hSw; (try dsimp only at hSw); go_simp; (try with_reducible rfl)); rotate_left); simp only [Act.put, List.setIfInBounds_toArray, List.set_cons_zero, List.set_cons_succ]
        refine lin_take (v := ?_) (by kernel_rfl) (by kernel_rfl) (fun _ _ _ h => h) (Or.inl ⟨by rfl, ?_⟩) (by assumption) ?_; (rotate_left; (intro wS hSw; (try dsimp only at hSw); go_simp; (try with_reducible rfl)); rotate_left); simp only [Act.put, List.setIfInBounds_toArray, List.set_cons_zero, List.set_cons_succ]
        refine lin_take (v := ?_) (by kernel_rfl) (by kernel_rfl) (fun _ _ _ h => h) (Or.inl ⟨by rfl, ?_⟩) (by assumption) ?_; (rotate_left; (intro wS hSw; (try dsimp only at hSw); go_simp; (try with_reducible rfl)); rotate_left); simp only [Act.put, List.setIfInBounds_toArray, List.set_cons_zero, List.set_cons_succ]
        refine lin_take (v := ?_) (by kernel_rfl) (by kernel_rfl) (fun _ _ _ h => h) (Or.inl ⟨by rfl, ?_⟩) (by assumption) ?_; (rotate_left; (intro wS hSw; (try dsimp only at hSw); go_simp; (try with_reducible rfl)); rotate_left); simp only [Act.put, List.setIfInBounds_toArray, List.set_cons_zero, List.set_cons_succ]
        refine lin_take (v := ?_) (by kernel_rfl) (by kernel_rfl) (fun _ _ _ h => h) (Or.inl ⟨by rfl, ?_⟩) (by assumption) ?_; (rotate_left; (intro wS hSw; (try dsimp only at hSw); go_simp; (try with_reducible rfl)); rotate_left); simp only [Act.put, List.setIfInBounds_toArray, List.set_cons_zero, List.set_cons_succ]
        refine lin_take (v := ?_) (by kernel_rfl) (by kernel_rfl) (fun _ _ _ h => h) (Or.inl ⟨by rfl, ?_⟩) (by assumption) ?_; (rotate_left; (intro wS hSw; (try dsimp only at hSw); go_simp; (try with_reducible rfl)); rotate_left); simp only [Act.put, List.setIfInBounds_toArray, List.set_cons_zero, List.set_cons_succ]
        refine lin_done (by kernel_rfl) ?_
        go_wp2
        go_roundw
        case rel => exact ⟨k + 1, ms.set a V0, by omega, by go_num, hml', hlv', hO5⟩
        case measure => simp [intOf] <;> omega
      · have hlv' := Lib.hid (show ∀ c : Nat, c < sz → ms.getD c 0 = lastV (xs.take (k + 1)) c by
          intro c hc
          rw [hnx.out, if_neg (by omega)]
          exact hlv.out c hc)
        have S1 := Lib.hid (store_out ((hO.drewN 1).st 0 rfl) (k := A0) (by rw [hml.out]; omega) V0)
        have i1 : (0 : Int) ≤ (k : Int) := by omega
        have i2 : (k : Int) < (xs.length : Int) := by omega
        have q0 : IntKind.i64.wrap (sz : Int) = (sz : Int) := IntWalk.i64_in _ (by omega)
        have hor : A0 < 0 ∨ (0 ≤ A0 ∧ (sz : Int) ≤ A0) := by omega
        clear hin
        rcases hor with hor | ⟨hor0, hor⟩
        · have n1 : decide ((0 : Int) ≤ A0) = false := by simp; omega
          go_wp2_with fail
          have hS0 : (fun w' => w'.cell? ⟨g2, off + k * 2, none⟩ = some (.int .i64 A0) ∧ w'.cell? ⟨g2, off + k * 2 + 1, none⟩ = some (.int .i64 V0)) wr.drew := ⟨z0, z1⟩
          dsimp only at hS0
          refine lin_start (S := (fun w' => w'.cell? ⟨g2, off + k * 2, none⟩ = some (.int .i64 A0) ∧ w'.cell? ⟨g2, off + k * 2 + 1, none⟩ = some (.int .i64 V0))) rfl 29 rfl hS0 ?_
          simp only [numbered, Nat.zero_add, Nat.reduceAdd]
          refine lin_take (v := ?_) (by kernel_rfl) (by kernel_rfl) (fun _ _ _ h => h) (Or.inl ⟨by rfl, ?_⟩) (by assumption) ?_; (rotate_left; (intro wS hSw; (try dsimp only at hSw); go_simp; (try with_reducible rfl)); rotate_left); simp only [Act.put, List.setIfInBounds_toArray, List.set_cons_zero, List.set_cons_succ]
          refine lin_take (v := ?_) (by kernel_rfl) (by kernel_rfl) (fun _ _ _ h => h) (Or.inl ⟨by rfl, ?_⟩) (by assumption) ?_; (rotate_left; (intro wS hSw; (try dsimp only at hSw); go_simp; (try with_reducible rfl)); rotate_left); simp only [Act.put, List.setIfInBounds_toArray, List.set_cons_zero, List.set_cons_succ]
          refine lin_take (v := ?_) (by kernel_rfl) (by kernel_rfl) (fun _ _ _ h => h) (Or.inl ⟨by rfl, ?_⟩) (by assumption) ?_; (rotate_left; (intro wS hSw; (try dsimp only at hSw); go_simp; (try with_reducible rfl)); rotate_left); simp only [Act.put, List.setIfInBounds_toArray, List.set_cons_zero, List.set_cons_succ]
          refine lin_take (v := ?_) (by kernel_rfl) (by kernel_rfl) (fun _ _ _ h => h) (Or.inl ⟨by rfl, ?_⟩) (by assumption) ?_; (rotate_left; (intro wS hSw; (try dsimp only at hSw); go_simp; (try with_reducible rfl)); rotate_left); simp only [Act.put, List.setIfInBounds_toArray, List.set_cons_zero, List.set_cons_succ]
          refine lin_take (v := ?_) (by kernel_rfl) (by kernel_rfl) (fun _ _ _ h => h) (Or.inl ⟨by rfl, ?_⟩) (by assumption) ?_; (rotate_left; (intro wS hSw; (try dsimp only at hSw); go_simp; (try with_reducible rfl)); rotate_left); simp only [Act.put, List.setIfInBounds_toArray, List.set_cons_zero, List.set_cons_succ]
          refine lin_take (v := ?_) (by kernel_rfl) (by kernel_rfl) (fun _ _ _ h => h) (Or.inl ⟨by rfl, ?_⟩) (by assumption) ?_; (rotate_left; (intro wS hSw; (try dsimp only at hSw); go_simp; (try with_reducible rfl)); rotate_left); simp only [Act.put, List.setIfInBounds_toArray, List.set_cons_zero, List.set_cons_succ]
          refine lin_take (v := ?_) (by kernel_rfl) (by kernel_rfl) (fun _ _ _ h => h) (Or.inl ⟨by rfl, ?_⟩) (by assumption) ?_; (rotate_left; (intro wS hSw; (try dsimp only at hSw); go_simp; (try with_reducible rfl)); rotate_left); simp only [Act.put, List.setIfInBounds_toArray, List.set_cons_zero, List.set_cons_succ]
          refine lin_take (v := ?_) (by kernel_rfl) (by kernel_rfl) (fun _ _ _ h => h) (Or.inl ⟨by rfl, ?_⟩) (by assumption) ?_; (rotate_left; (intro wS hSw; (try dsimp only at hSw); go_simp; (try with_reducible rfl)); rotate_left); simp only [Act.put, List.setIfInBounds_toArray, List.set_cons_zero, List.set_cons_succ]
          refine lin_take (v := ?_) (by kernel_rfl) (by kernel_rfl) (fun _ _ _ h => h) (Or.inl ⟨by rfl, ?_⟩) (by assumption) ?_; (rotate_left; (intro wS hSw; (try dsimp only at hSw); go_simp; (try with_reducible rfl)); rotate_left); simp only [Act.put, List.setIfInBounds_toArray, List.set_cons_zero, List.set_cons_succ]
          refine lin_take (v := ?_) (by kernel_rfl) (by kernel_rfl) (fun _ _ _ h => h) (Or.inl ⟨by rfl, ?_⟩) (by assumption) ?_; (rotate_left; (intro wS hSw; (try dsimp only at hSw); go_simp; (try with_reducible rfl)); rotate_left); simp only [Act.put, List.setIfInBounds_toArray, List.set_cons_zero, List.set_cons_succ]
          refine lin_take (v := ?_) (by kernel_rfl) (by kernel_rfl) (fun _ _ _ h => h) (Or.inl ⟨by rfl, ?_⟩) (by assumption) ?_; (rotate_left; (intro wS hSw; (try dsimp only at hSw); go_simp; (try with_reducible rfl)); rotate_left); simp only [Act.put, List.setIfInBounds_toArray, List.set_cons_zero, List.set_cons_succ]
          refine lin_rot ?_; simp only [List.cons_append, List.nil_append]
          refine lin_take (v := ?_) (by kernel_rfl) (by kernel_rfl) (fun _ _ _ h => h) (Or.inl ⟨by rfl, ?_⟩) (by assumption) ?_; (rotate_left; (intro wS hSw; (try dsimp only at hSw); go_simp; (try with_reducible rfl)); rotate_left); simp only [Act.put, List.setIfInBounds_toArray, List.set_cons_zero, List.set_cons_succ]
          refine lin_take (v := ?_) (by kernel_rfl) (by kernel_rfl) (fun _ _ _ h => h) (Or.inl ⟨by rfl, ?_⟩) (by assumption) ?_; (rotate_left; (intro wS hSw; (try dsimp only at hSw); go_simp; (try with_reducible rfl)); rotate_left); simp only [Act.put, List.setIfInBounds_toArray, List.set_cons_zero, List.set_cons_succ]
          refine lin_take (v := ?_) (by kernel_rfl) (by kernel_rfl) (fun _ _ _ h => h) (Or.inl ⟨by rfl, ?_⟩) (by assumption) ?_; (rotate_left; (intro wS hSw; (try dsimp only at hSw); go_simp; (try with_reducible rfl)); rotate_left); simp only [Act.put, List.setIfInBounds_toArray, List.set_cons_zero, List.set_cons_succ]
          refine lin_take (v := ?_) (by kernel_rfl) (by kernel_rfl) (fun _ _ _ h => h) (Or.inl ⟨by rfl, ?_⟩) (by assumption) ?_; (rotate_left; (intro wS hSw; (try dsimp only at hSw); go_simp; (try with_reducible rfl)); rotate_left); simp only [Act.put, List.setIfInBounds_toArray, List.set_cons_zero, List.set_cons_succ]
          refine lin_take (v := ?_) (by kernel_rfl) (by kernel_rfl) (fun _ _ _ h => h) (Or.inl ⟨by rfl, ?_⟩) (by assumption) ?_; (rotate_left; (intro wS hSw; (try dsimp only at hSw); go_simp; (try with_reducible rfl)); rotate_left); simp only [Act.put, List.setIfInBounds_toArray, List.set_cons_zero, List.set_cons_succ]
          refine lin_take (v := ?_) (by kernel_rfl) (by kernel_rfl) (fun _ _ _ h => h) (Or.inl ⟨by rfl, ?_⟩) (by assumption) ?_; (rotate_left; (intro wS hSw; (try dsimp only at hSw); go_simp; (try with_reducible rfl)); rotate_left); simp only [Act.put, List.setIfInBounds_toArray, List.set_cons_zero, List.set_cons_succ]
          refine lin_rot ?_; simp only [List.cons_append, List.nil_append]
          refine lin_rot ?_; simp only [List.cons_append, List.nil_append]
          refine lin_rot ?_; simp only [List.cons_append, List.nil_append]
          refine lin_rot ?_; simp only [List.cons_append, List.nil_append]
          refine lin_rot ?_; simp only [List.cons_append, List.nil_append]
          refine lin_rot ?_; simp only [List.cons_append, List.nil_append]
          refine lin_rot ?_; simp only [List.cons_append, List.nil_append]
          refine lin_rot ?_; simp only [List.cons_append, List.nil_append]
          refine lin_rot ?_; simp only [List.cons_append, List.nil_append]
          refine lin_rot ?_; simp only [List.cons_append, List.nil_append]
          refine lin_rot ?_; simp only [List.cons_append, List.nil_append]
          refine lin_sole (by kernel_rfl) (fun K hK => ?_)
          go_simp
          (refine S1.out.mono ?_; rintro e w5 ⟨rfl, rfl⟩)
          refine hK.out _ _ ?_ (fun hHeld => ?_)
          · exact ⟨z0, z1⟩
          try simp only [Act.put, List.setIfInBounds_toArray, List.set_cons_zero, List.set_cons_succ]
          refine lin_take (v := ?_) (by kernel_rfl) (by kernel_rfl) (fun _ _ _ h => h) (Or.inl ⟨by rfl, ?_⟩) (by assumption) ?_; (rotate_left; (intro wS hSw; (try dsimp only at hSw); go_simp; (try with_reducible rfl)); rotate_left); simp only [Act.put, List.setIfInBounds_toArray, List.set_cons_zero, List.set_cons_succ]
          refine lin_take (v := undef) (by kernel_rfl) (by kernel_rfl) (fun _ _ _ h => h) (Or.inr ⟨by rfl, rfl⟩) (by assumption) ?_; simp only [Act.put, List.setIfInBounds_toArray, List.set_cons_zero, List.set_cons_succ]
          refine lin_take (v := undef) (by kernel_rfl) (by kernel_rfl) (fun _ _ _ h => h) (Or.inr ⟨by rfl, rfl⟩) (by assumption) ?_; simp only [Act.put, List.setIfInBounds_toArray, List.set_cons_zero, List.set_cons_succ]
          refine lin_take (v := undef) (by kernel_rfl) (by kernel_rfl) (fun _ _ _ h => h) (Or.inr ⟨by rfl, rfl⟩) (by assumption) ?_; simp only [Act.put, List.setIfInBounds_toArray, List.set_cons_zero, List.set_cons_succ]
          refine lin_take (v := undef) (by kernel_rfl) (by kernel_rfl) (fun _ _ _ h => h) (Or.inr ⟨by rfl, rfl⟩) (by assumption) ?_; simp only [Act.put, List.setIfInBounds_toArray, List.set_cons_zero, List.set_cons_succ]
          refine lin_take (v := undef) (by kernel_rfl) (by kernel_rfl) (fun _ _ _ h => h) (Or.inr ⟨by rfl, rfl⟩) (by assumption) ?_; simp only [Act.put, List.setIfInBounds_toArray, List.set_cons_zero, List.set_cons_succ]
          refine lin_take (v := undef) (by kernel_rfl) (by kernel_rfl) (fun _ _ _ h => h) (Or.inr ⟨by rfl, rfl⟩) (by assumption) ?_; simp only [Act.put, List.setIfInBounds_toArray, List.set_cons_zero, List.set_cons_succ]
          refine lin_take (v := undef) (by kernel_rfl) (by kernel_rfl) (fun _ _ _ h => h) (Or.inr ⟨by rfl, rfl⟩) (by assumption) ?_; simp only [Act.put, List.setIfInBounds_toArray, List.set_cons_zero, List.set_cons_succ]
          refine lin_take (v := undef) (by kernel_rfl) (by kernel_rfl) (fun _ _ _ h => h) (Or.inr ⟨by rfl, rfl⟩) (by assumption) ?_; simp only [Act.put, List.setIfInBounds_toArray, List.set_cons_zero, List.set_cons_succ]
          refine lin_take (v := ?_) (by kernel_rfl) (by kernel_rfl) (fun _ _ _ h => h) (Or.inl ⟨by rfl, ?_⟩) (by assumption) ?_; (rotate_left; (intro wS hSw; (try dsimp only at hSw); go_simp; (try with_reducible rfl)); rotate_left); simp only [Act.put, List.setIfInBounds_toArray, List.set_cons_zero, List.set_cons_succ]
          refine lin_take (v := ?_) (by kernel_rfl) (by kernel_rfl) (fun _ _ _ h => h) (Or.inl ⟨by rfl, ?_⟩) (by assumption) ?_; (rotate_left; (intro wS hSw; (try dsimp only at hSw); go_simp; (try with_reducible rfl)); rotate_left); simp only [Act.put, List.setIfInBounds_toArray, List.set_cons_zero, List.set_cons_succ]
          refine lin_done (by kernel_rfl) ?_
          go_wp2
          go_roundw
          case rel => exact ⟨k + 1, ms, by omega, by go_num, hml, hlv', hO.drewN 1⟩
          case measure => simp [intOf] <;> omega
        · have n1 : decide ((0 : Int) ≤ A0) = true := by simp; omega
          have n2 : decide (A0 < (sz : Int)) = false := by simp; omega
          go_wp2_with fail
          have hS0 : (fun w' => w'.cell? ⟨g2, off + k * 2, none⟩ = some (.int .i64 A0) ∧ w'.cell? ⟨g2, off + k * 2 + 1, none⟩ = some (.int .i64 V0)) wr.drew := ⟨z0, z1⟩
          dsimp only at hS0
          refine lin_start (S := (fun w' => w'.cell? ⟨g2, off + k * 2, none⟩ = some (.int .i64 A0) ∧ w'.cell? ⟨g2, off + k * 2 + 1, none⟩ = some (.int .i64 V0))) rfl 29 rfl hS0 ?_
          simp only [numbered, Nat.zero_add, Nat.reduceAdd]
          refine lin_take (v := ?_) (by kernel_rfl) (by kernel_rfl) (fun _ _ _ h => h) (Or.inl ⟨by rfl, ?_⟩) (by assumption) ?_; (rotate_left; (intro wS hSw; (try dsimp only at hSw); go_simp; (try with_reducible rfl)); rotate_left); simp only [Act.put, List.setIfInBounds_toArray, List.set_cons_zero, List.set_cons_succ]
          refine lin_take (v := ?_) (by kernel_rfl) (by kernel_rfl) (fun _ _ _ h => h) (Or.inl ⟨by rfl, ?_⟩) (by assumption) ?_; (rotate_left; (intro wS hSw; (try dsimp only at hSw); go_simp; (try with_reducible rfl)); rotate_left); simp only [Act.put, List.setIfInBounds_toArray, List.set_cons_zero, List.set_cons_succ]
          refine lin_take (v := ?_) (by kernel_rfl) (by kernel_rfl) (fun _ _ _ h => h) (Or.inl ⟨by rfl, ?_⟩) (by assumption) ?_; (rotate_left; (intro wS hSw; (try dsimp only at hSw); go_simp; (try with_reducible rfl)); rotate_left); simp only [Act.put, List.setIfInBounds_toArray, List.set_cons_zero, List.set_cons_succ]
          refine lin_take (v := ?_) (by kernel_rfl) (by kernel_rfl) (fun _ _ _ h => h) (Or.inl ⟨by rfl, ?_⟩) (by assumption) ?_; (rotate_left; (intro wS hSw; (try dsimp only at hSw); go_simp; (try with_reducible rfl)); rotate_left); simp only [Act.put, List.setIfInBounds_toArray, List.set_cons_zero, List.set_cons_succ]
          refine lin_take (v := ?_) (by kernel_rfl) (by kernel_rfl) (fun _ _ _ h => h) (Or.inl ⟨by rfl, ?_⟩) (by assumption) ?_; (rotate_left; (intro wS hSw; (try dsimp only at hSw); go_simp; (try with_reducible rfl)); rotate_left); simp only [Act.put, List.setIfInBounds_toArray, List.set_cons_zero, List.set_cons_succ]
          refine lin_take (v := ?_) (by kernel_rfl) (by kernel_rfl) (fun _ _ _ h => h) (Or.inl ⟨by rfl, ?_⟩) (by assumption) ?_; (rotate_left; (intro wS hSw; (try dsimp only at hSw); go_simp; (try with_reducible rfl)); rotate_left); simp only [Act.put, List.setIfInBounds_toArray, List.set_cons_zero, List.set_cons_succ]
          refine lin_take (v := ?_) (by kernel_rfl) (by kernel_rfl) (fun _ _ _ h => h) (Or.inl ⟨by rfl, ?_⟩) (by assumption) ?_; (rotate_left; (intro wS hSw; (try dsimp only at hSw); go_simp; (try with_reducible rfl)); rotate_left); simp only [Act.put, List.setIfInBounds_toArray, List.set_cons_zero, List.set_cons_succ]
          refine lin_take (v := ?_) (by kernel_rfl) (by kernel_rfl) (fun _ _ _ h => h) (Or.inl ⟨by rfl, ?_⟩) (by assumption) ?_; (rotate_left; (intro wS hSw; (try dsimp only at hSw); go_simp; (try with_reducible rfl)); rotate_left); simp only [Act.put, List.setIfInBounds_toArray, List.set_cons_zero, List.set_cons_succ]
          refine lin_take (v := ?_) (by kernel_rfl) (by kernel_rfl) (fun _ _ _ h => h) (Or.inl ⟨by rfl, ?_⟩) (by assumption) ?_; (rotate_left; (intro wS hSw; (try dsimp only at hSw); go_simp; (try with_reducible rfl)); rotate_left); simp only [Act.put, List.setIfInBounds_toArray, List.set_cons_zero, List.set_cons_succ]
          refine lin_take (v := ?_) (by kernel_rfl) (by kernel_rfl) (fun _ _ _ h => h) (Or.inl ⟨by rfl, ?_⟩) (by assumption) ?_; (rotate_left; (intro wS hSw; (try dsimp only at hSw); go_simp; (try with_reducible rfl)); rotate_left); simp only [Act.put, List.setIfInBounds_toArray, List.set_cons_zero, List.set_cons_succ]
          refine lin_take (v := ?_) (by kernel_rfl) (by kernel_rfl) (fun _ _ _ h => h) (Or.inl ⟨by rfl, ?_⟩) (by assumption) ?_; (rotate_left; (intro wS hSw; (try dsimp only at hSw); go_simp; (try with_reducible rfl)); rotate_left); simp only [Act.put, List.setIfInBounds_toArray, List.set_cons_zero, List.set_cons_succ]
          refine lin_rot ?_; simp only [List.cons_append, List.nil_append]
          refine lin_take (v := ?_) (by kernel_rfl) (by kernel_rfl) (fun _ _ _ h => h) (Or.inl ⟨by rfl, ?_⟩) (by assumption) ?_; (rotate_left; (intro wS hSw; (try dsimp only at hSw); go_simp; (try with_reducible rfl)); rotate_left); simp only [Act.put, List.setIfInBounds_toArray, List.set_cons_zero, List.set_cons_succ]
          refine lin_take (v := ?_) (by kernel_rfl) (by kernel_rfl) (fun _ _ _ h => h) (Or.inl ⟨by rfl, ?_⟩) (by assumption) ?_; (rotate_left; (intro wS hSw; (try dsimp only at hSw); go_simp; (try with_reducible rfl)); rotate_left); simp only [Act.put, List.setIfInBounds_toArray, List.set_cons_zero, List.set_cons_succ]
          refine lin_take (v := ?_) (by kernel_rfl) (by kernel_rfl) (fun _ _ _ h => h) (Or.inl ⟨by rfl, ?_⟩) (by assumption) ?_; (rotate_left; (intro wS hSw; (try dsimp only at hSw); go_simp; (try with_reducible rfl)); rotate_left); simp only [Act.put, List.setIfInBounds_toArray, List.set_cons_zero, List.set_cons_succ]
          refine lin_take (v := ?_) (by kernel_rfl) (by kernel_rfl) (fun _ _ _ h => h) (Or.inl ⟨by rfl, ?_⟩) (by assumption) ?_; (rotate_left; (intro wS hSw; (try dsimp only at hSw); go_simp; (try with_reducible rfl)); rotate_left); simp only [Act.put, List.setIfInBounds_toArray, List.set_cons_zero, List.set_cons_succ]
          refine lin_take (v := ?_) (by kernel_rfl) (by kernel_rfl) (fun _ _ _ h => h) (Or.inl ⟨by rfl, ?_⟩) (by assumption) ?_; (rotate_left; (intro wS hSw; (try dsimp only at hSw); go_simp; (try with_reducible rfl)); rotate_left); simp only [Act.put, List.setIfInBounds_toArray, List.set_cons_zero, List.set_cons_succ]
          refine lin_take (v := ?_) (by kernel_rfl) (by kernel_rfl) (fun _ _ _ h => h) (Or.inl ⟨by rfl, ?_⟩) (by assumption) ?_; (rotate_left; (intro wS hSw; (try dsimp only at hSw); go_simp; (try with_reducible rfl)); rotate_left); simp only [Act.put, List.setIfInBounds_toArray, List.set_cons_zero, List.set_cons_succ]
          refine lin_rot ?_; simp only [List.cons_append, List.nil_append]
          refine lin_rot ?_; simp only [List.cons_append, List.nil_append]
          refine lin_rot ?_; simp only [List.cons_append, List.nil_append]
          refine lin_rot ?_; simp only [List.cons_append, List.nil_append]
          refine lin_rot ?_; simp only [List.cons_append, List.nil_append]
          refine lin_rot ?_; simp only [List.cons_append, List.nil_append]
          refine lin_rot ?_; simp only [List.cons_append, List.nil_append]
          refine lin_rot ?_; simp only [List.cons_append, List.nil_append]
          refine lin_rot ?_; simp only [List.cons_append, List.nil_append]
          refine lin_rot ?_; simp only [List.cons_append, List.nil_append]
          refine lin_rot ?_; simp only [List.cons_append, List.nil_append]
          refine lin_sole (by kernel_rfl) (fun K hK => ?_)
          go_simp
          (refine S1.out.mono ?_; rintro e w5 ⟨rfl, rfl⟩)
          refine hK.out _ _ ?_ (fun hHeld => ?_)
          · exact ⟨z0, z1⟩
          try simp only [Act.put, List.setIfInBounds_toArray, List.set_cons_zero, List.set_cons_succ]
          refine lin_take (v := ?_) (by kernel_rfl) (by kernel_rfl) (fun _ _ _ h => h) (Or.inl ⟨by rfl, ?_⟩) (by assumption) ?_; (rotate_left; (intro wS hSw; (try dsimp only at hSw); go_simp; (try with_reducible rfl)); rotate_left); simp only [Act.put, List.setIfInBounds_toArray, List.set_cons_zero, List.set_cons_succ]
          refine lin_take (v := ?_) (by kernel_rfl) (by kernel_rfl) (fun _ _ _ h => h) (Or.inl ⟨by rfl, ?_⟩) (by assumption) ?_; (rotate_left; (intro wS hSw; (try dsimp only at hSw); go_simp; (try with_reducible rfl)); rotate_left); simp only [Act.put, List.setIfInBounds_toArray, List.set_cons_zero, List.set_cons_succ]
          refine lin_take (v := ?_) (by kernel_rfl) (by kernel_rfl) (fun _ _ _ h => h) (Or.inl ⟨by rfl, ?_⟩) (by assumption) ?_; (rotate_left; (intro wS hSw; (try dsimp only at hSw); go_simp; (try with_reducible rfl)); rotate_left); simp only [Act.put, List.setIfInBounds_toArray, List.set_cons_zero, List.set_cons_succ]
          refine lin_take (v := ?_) (by kernel_rfl) (by kernel_rfl) (fun _ _ _ h => h) (Or.inl ⟨by rfl, ?_⟩) (by assumption) ?_; (rotate_left; (intro wS hSw; (try dsimp only at hSw); go_simp; (try with_reducible rfl)); rotate_left); simp only [Act.put, List.setIfInBounds_toArray, List.set_cons_zero, List.set_cons_succ]
          refine lin_take (v := ?_) (by kernel_rfl) (by kernel_rfl) (fun _ _ _ h => h) (Or.inl ⟨by rfl, ?_⟩) (by assumption) ?_; (rotate_left; (intro wS hSw; (try dsimp only at hSw); go_simp; (try with_reducible rfl)); rotate_left); simp only [Act.put, List.setIfInBounds_toArray, List.set_cons_zero, List.set_cons_succ]
          refine lin_take (v := ?_) (by kernel_rfl) (by kernel_rfl) (fun _ _ _ h => h) (Or.inl ⟨by rfl, ?_⟩) (by assumption) ?_; (rotate_left; (intro wS hSw; (try dsimp only at hSw); go_simp; (try with_reducible rfl)); rotate_left); simp only [Act.put, List.setIfInBounds_toArray, List.set_cons_zero, List.set_cons_succ]
          refine lin_take (v := ?_) (by kernel_rfl) (by kernel_rfl) (fun _ _ _ h => h) (Or.inl ⟨by rfl, ?_⟩) (by assumption) ?_; (rotate_left; (intro wS hSw; (try dsimp only at hSw); go_simp; (try with_reducible rfl)); rotate_left); simp only [Act.put, List.setIfInBounds_toArray, List.set_cons_zero, List.set_cons_succ]
          refine lin_take (v := ?_) (by kernel_rfl) (by kernel_rfl) (fun _ _ _ h => h) (Or.inl ⟨by rfl, ?_⟩) (by assumption) ?_; (rotate_left; (intro wS hSw; (try dsimp only at hSw); go_simp; (try with_reducible rfl)); rotate_left); simp only [Act.put, List.setIfInBounds_toArray, List.set_cons_zero, List.set_cons_succ]
          refine lin_take (v := ?_) (by kernel_rfl) (by kernel_rfl) (fun _ _ _ h => h) (Or.inl ⟨by rfl, ?_⟩) (by assumption) ?_; (rotate_left; (intro wS hSw; (try dsimp only at hSw); go_simp; (try with_reducible rfl)); rotate_left); simp only [Act.put, List.setIfInBounds_toArray, List.set_cons_zero, List.set_cons_succ]
          refine lin_take (v := ?_) (by kernel_rfl) (by kernel_rfl) (fun _ _ _ h => h) (Or.inl ⟨by rfl, ?_⟩) (by assumption) ?_; (rotate_left; (intro wS hSw; (try dsimp only at hSw); go_simp; (try with_reducible rfl)); rotate_left); simp only [Act.put, List.setIfInBounds_toArray, List.set_cons_zero, List.set_cons_succ]
          refine lin_take (v := ?_) (by kernel_rfl) (by kernel_rfl) (fun _ _ _ h => h) (Or.inl ⟨by rfl, ?_⟩) (by assumption) ?_; (rotate_left; (intro wS hSw; (try dsimp only at hSw); go_simp; (try with_reducible rfl)); rotate_left); simp only [Act.put, List.setIfInBounds_toArray, List.set_cons_zero, List.set_cons_succ]
          refine lin_done (by kernel_rfl) ?_
          go_wp2
          go_roundw
          case rel => exact ⟨k + 1, ms, by omega, by go_num, hml, hlv', hO.drewN 1⟩
          case measure => simp [intOf] <;> omega
    · have hkl : k = xs.length := by omega
      have hlv' := Lib.hid (show ∀ a : Nat, a < sz → ms.getD a 0 = lastV xs a by
        intro a ha
        have := hlv.out a ha
        rwa [hkl, List.take_length] at this)
      clear hlv hkl
      go_wp2_with fail
      go_loop [8] (fun i => ∃ c : Nat, c ≤ sz ∧ i = .int .i64 c) (fun i => (sz - intOf i).toNat)
      case atStart => exact ⟨0, by omega, rfl⟩
      case round =>
        obtain ⟨c, hc, rfl⟩ := hrel
        by_cases hlt2 : c < sz
        · go_wp2_with fail
          go_loop [9, 10] (fun v i => ∃ j : Nat, j ≤ xs.length ∧ i = .int .i64 j ∧ v = .int .i64 (lastV (xs.take j) c)) (fun _ i => (xs.length - intOf i).toNat)
          case atStart => exact ⟨0, by omega, rfl, rfl⟩
          case round =>
            obtain ⟨j, hj, rfl, rfl⟩ := hrel
            by_cases hlt3 : j < xs.length
            · obtain ⟨rfl, hx⟩ := hl.out j hlt3
              have x0 := hx 0 (by omega)
              have x1 := hx 1 (by omega)
              have hnx := Lib.hid (lastV_next hlt3 c)
              generalize (xs.getD j []).getD 0 0 = A0 at *
              generalize (xs.getD j []).getD 1 0 = V0 at *
              rw [Nat.add_zero] at x0
              have z0 := hO.old x0
              have z1 := hO.old x1
              clear hx x0 x1
              by_cases hac : A0 = (c : Int)
              · subst hac
                have hnx' := Lib.hid (show lastV (xs.take (j + 1)) c = V0 by rw [hnx.out, if_pos rfl])
                clear hnx
                go_wp2_with fail
                go_round
                case rel => exact ⟨j + 1, by omega, by go_num, by rw [hnx'.out]⟩
                case measure => simp [intOf]; omega
              · have hnx' := Lib.hid (show lastV (xs.take (j + 1)) c = lastV (xs.take j) c by rw [hnx.out, if_neg hac])
                have hac' : (A0 == (c : Int)) = false := by simp [hac]
                clear hnx
                go_wp2_with fail
                go_round
                case rel => exact ⟨j + 1, by omega, by go_num, by rw [hnx'.out]⟩
                case measure => simp [intOf]; omega
            · obtain rfl : j = xs.length := by omega
              have L := own_load hO 0 rfl (k := c) (by rw [hml.out]; exact hlt2) _ (hlv'.out c hlt2)
              replace L := Lib.hid L
              have hr1 := hO.row 1 rfl
              obtain ⟨g3, off3, cap3, hv3, q1, q2, q3, q4⟩ := hr1.addr (by omega)
              simp only [Value.slice.injEq] at hv3
              obtain ⟨rfl, _, rfl⟩ := hv3
              have hy := q3 c (by omega)
              rw [List.getElem?_map, List.getElem?_eq_getElem (by rw [hml0.out]; exact hlt2)] at hy
              have hz := hz0.out c hlt2
              rw [List.getD_eq_getElem?_getD, List.getElem?_eq_getElem (by rw [hml0.out]; exact hlt2)] at hz
              simp only [Option.getD_some] at hz
              rw [hz] at hy
              simp only [Option.map_some] at hy
              clear q3 q4 hz hr1
              rw [List.take_length]
              generalize lastV xs c = V at *
              go_wp2_with (go_at_call 17; refine L.out.mono ?_; rintro e w6 ⟨rfl, rfl⟩)
              go_round
              case rel => exact ⟨c + 1, by omega, by go_num⟩
              case measure => simp [intOf]; omega
        · obtain rfl : c = sz := by omega
          go_wp2_with fail
          go_ret
          exact ⟨rfl, hO.below⟩
theorem walkStoreLast (v0 v1 : Value) (w : World) (h0 : Arg Try.prog w 5 v0) (h1 : Arg Try.prog w 30 v1) :
    Calls Try.prog 4 #[v0, v1] w fun e w' => e = .returned (.bool true) ∧ Below w.heap.size w w' := by
  obtain ⟨sz, rfl, hs⟩ := h0.int Try.underlying5
  simp [Lit.wf, IntKind.min, IntKind.max, IntKind.signed, IntKind.bits] at hs
  obtain ⟨sz, rfl⟩ : ∃ n : Nat, sz = n := ⟨sz.toNat, by omega⟩
  obtain ⟨lo, lc, xs, rfl, p1, p2, _, g2, off, p4⟩ := h1.arrays' 2 Try.underlying30 Try.underlying33 Try.underlying3 (by kernel_rfl) (by kernel_rfl) (by decide)
  by_cases hl : xs.length ≤ 500
  · exact slast_core sz xs lo lc w (by omega) p1 p2 hl g2 off p4
  · have hl1 : 500 < xs.length := by omega
    unfold maxLen at p2
    clear p4
    go_enter Try.func4, Try.ntmps4
    go_wp2_with (go_at_call 14; refine (works09_any _).mono ?_; rintro e w1 ⟨rfl, hb1⟩)
    go_ret
    exact ⟨rfl, hb1⟩
end Go.Proofs.Ytpijgjalabocpaa
