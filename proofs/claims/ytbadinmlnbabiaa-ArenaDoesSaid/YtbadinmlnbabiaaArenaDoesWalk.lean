/- The walk through the law ArenaDoes. -/
import Derived.Test.YtbadinmlnbabiaaArenaDuo
import Derived.Test.YtbadinmlnbabiaaArenaOnceWalk
set_option linter.unusedVariables false
set_option linter.unusedSimpArgs false
namespace Go.Proofs.Ytbadinmlnbabiaa
open Go.RowKit
theorem Duo.drew1 {w0 w : World} {ga hb gr : Nat} {N : Int} {hs : List Bool} {bs rbs tk : List Int} {fr rfr : Nat} {pk rpk : Int} (h : Duo w0 w ga hb gr N hs bs rbs tk fr rfr pk rpk) : Duo w0 w.drew ga hb gr N hs bs rbs tk fr rfr pk rpk := by
  obtain ⟨rbv, rtv, h⟩ := h
  exact ⟨rbv, rtv, h.drewN 1⟩
theorem AOwn.pop1 {w0 w : World} {A : Ast} {g hb : Nat} {bv : Value} {hs : List Bool} {bs : List Int} {fr : Nat} {pk : Int} {l : List Ast} (h : Own w0 w (A :: arenaL g hb bv hs bs fr pk l)) : AOwn w0 w g hb hs bs fr pk l := ⟨bv, h.sub (.cons _ (List.Sublist.refl _))⟩
set_option maxHeartbeats 20000000
set_option maxRecDepth 100000
theorem adoes_core (sz : Int) (N some_ : Nat) (ls : List (List Int)) (lo : Option Addr) (lc : Nat) (w : World) (hN : min (max sz 0) 1000 = (N : Int)) (hsome : some_ ≤ 255) (hl1 : ls.length ≤ lc) (hl2 : lc ≤ maxLen) (hll : ls.length ≤ 100)
    (g2 off : Nat) (hl : ∀ i, i < ls.length → lo = some ⟨g2, off, none⟩ ∧ ∀ j, j < 2 → w.cell? ⟨g2, off + i * 2 + j, none⟩ = some (.int .i64 ((ls.getD i []).getD j 0))) :
    Calls Try.prog 7 #[.int .i64 sz, .slice lo ls.length lc, .int .u8 some_] w fun e w' => e = .returned (.bool true) ∧ Below w.heap.size w w' := by
  unfold maxLen at hl2
  have hNl : N ≤ 1000 := by omega
  replace hl := Lib.hid hl
  have NA := Lib.hid (fun (w1 : World) (h : Below w.heap.size w w1) => aNew_any sz N hN h)
  have NR := Lib.hid (fun (w1 : World) (l : List Ast) (h : Own w w1 l) => rNew_any sz N hN h)
  clear hN
  go_enter Try.func7, Try.ntmps7
  go_wp2_with (go_at_call 29; refine (works10_any _).mono ?_; rintro e w1 ⟨rfl, hb1⟩)
  go_at_call 30
  refine (NA.out _ hb1).mono ?_
  rintro e w2 ⟨rfl, bv2, h2⟩
  clear hb1 NA
  go_wp2_with fail
  go_at_call 31
  refine (NR.out _ _ h2).mono ?_
  rintro e w3 ⟨rfl, h3⟩
  clear h2 NR
  generalize w1.heap.size = hb at *
  generalize w2.heap.size = gr at *
  have hD0 : Duo w w3 (hb + 1) hb gr N (List.replicate (N + 1) false) [] [] [] 0 0 0 0 := ⟨.slice none 0 0, .slice none 0 0, bv2, h3⟩
  have hI0 := Lib.hid (AInv.new N)
  have hT0 := Lib.hid (TkInv.new N)
  generalize List.replicate (N + 1) false = hs0 at *
  clear h3
  go_wp2_with fail
  go_loopw [10] (fun i wr => ∃ (k fr : Nat) (hs : List Bool) (bs tk : List Int) (pk : Int), k ≤ ls.length ∧ fr ≤ k ∧ i = .int .i64 k ∧ Hid (AInv N hs bs fr) ∧ Hid (TkInv hs tk) ∧ Duo w wr (hb + 1) hb gr N hs bs bs tk fr fr pk pk) (fun i _ => (ls.length - intOf i).toNat)
  case atStart => exact ⟨0, 0, hs0, [], [], 0, by omega, by omega, rfl, hI0, hT0, hD0⟩
  case round =>
    clear hD0 hI0 hT0
    obtain ⟨k, fr, hs, bs, tk, pk, hk, hfk, rfl, hI, hT, hO⟩ := hrel
    by_cases hlt : k < ls.length
    · obtain ⟨rfl, hx⟩ := hl.out k hlt
      have x0 := hx 0 (by omega)
      have x1 := hx 1 (by omega)
      generalize (ls.getD k []).getD 0 0 = kd at *
      generalize (ls.getD k []).getD 1 0 = nn at *
      rw [Nat.add_zero] at x0
      have z0 := hO.old x0
      have z1 := hO.old x1
      replace x1 := Lib.hid x1
      clear x0 hx
      by_cases hk3 : kd < 3
      · obtain ⟨nx, hnx⟩ : ∃ nx, nextA hs bs fr = nx := ⟨_, rfl⟩
        cases nx with
        | none =>
          obtain ⟨TA, TR⟩ := duo_full (w0 := w) (ga := hb + 1) (hb := hb) (gr := gr) (tk := tk) (pk := pk) hI.out hNl hnx
          replace TA := Lib.hid TA
          replace TR := Lib.hid TR
          clear hnx
          go_wp2_with fail
          go_at_call 32
          refine (TA.out _ hO).mono ?_
          rintro e w5 ⟨rfl, hD5⟩
          clear z0 z1
          go_wp2_with fail
          go_at_call 33
          refine (TR.out _ hD5).mono ?_
          rintro e w6 ⟨rfl, hD⟩
          go_wp2_with (first | (go_at_call 32; refine (take_none _).mono ?_; rintro e w7 ⟨rfl, rfl⟩))
          clear TA TR hD5 hO
          obtain ⟨hs2, rfl⟩ : ∃ hs2, hs2 = hs := ⟨_, rfl⟩
          obtain ⟨bs2, rfl⟩ : ∃ bs2, bs2 = bs := ⟨_, rfl⟩
          obtain ⟨tk2, rfl⟩ : ∃ tk2, tk2 = tk := ⟨_, rfl⟩
          obtain ⟨fr2, rfl⟩ : ∃ fr2, fr2 = fr := ⟨_, rfl⟩
          obtain ⟨pk2, rfl⟩ : ∃ pk2, pk2 = pk := ⟨_, rfl⟩
          have hI2 := hI
          have hT2 := hT
          have hfk2 := Lib.hid (show fr2 ≤ k + 1 by omega)
          have hlen2 := hI2.out.len
          have hcn := cnt_count hs2
          have hTl := hT2.out.len
          obtain ⟨t, ht⟩ : ∃ t, heldB hs2 nn = t := ⟨_, rfl⟩
          have hth := hT2.out.has hI2.out.h0 nn
          rw [ht] at hth
          obtain ⟨rbv, rtv, hA0⟩ := hD
          obtain ⟨rto, rtc, rfl⟩ : ∃ rto rtc, rtv = .slice rto tk2.length rtc := hA0.elim fun bvx hOx => by obtain ⟨a, b, c, _⟩ := (hOx.row 5 rfl).shape; exact ⟨a, b, c⟩
          have U := Lib.hid (fun (w5 : World) (h : AOwn w w5 (hb + 1) hb hs2 bs2 fr2 pk2 (refL gr N rbv bs2 (.slice rto tk2.length rtc) tk2 fr2 pk2 [])) => show Calls Try.prog 36 #[.pointer (some ⟨hb + 1, 0, none⟩)] w5 fun e w' => e = .returned (.int .i64 tk2.length) ∧ AOwn w w' (hb + 1) hb hs2 bs2 fr2 pk2 (refL gr N rbv bs2 (.slice rto tk2.length rtc) tk2 fr2 pk2 []) by have q := used_own h (by omega); rwa [hcn, ← hTl] at q)
          have PK := Lib.hid (fun (w5 : World) (h : AOwn w w5 (hb + 1) hb hs2 bs2 fr2 pk2 (refL gr N rbv bs2 (.slice rto tk2.length rtc) tk2 fr2 pk2 [])) => peak_own h)
          have HL := Lib.hid (fun (w5 : World) (h : AOwn w w5 (hb + 1) hb hs2 bs2 fr2 pk2 (refL gr N rbv bs2 (.slice rto tk2.length rtc) tk2 fr2 pk2 [])) => held_own h (by omega) nn t ht)
          have HS := Lib.hid (fun (w5 : World) (h : AOwn w w5 (hb + 1) hb hs2 bs2 fr2 pk2 (refL gr N rbv bs2 (.slice rto tk2.length rtc) tk2 fr2 pk2 [])) => has_any (h.elim fun bvx hOx => Lies.of_row (hOx.row 5 rfl) rfl) nn t hth)
          have KS := Lib.hid (fun (w5 : World) (h : AOwn w w5 (hb + 1) hb hs2 bs2 fr2 pk2 (refL gr N rbv bs2 (.slice rto tk2.length rtc) tk2 fr2 pk2 [])) => show (fun w' : World => w'.cell? ⟨gr, 2, none⟩ = some (.slice rto tk2.length rtc) ∧ w'.cell? ⟨gr, 4, none⟩ = some (.int .i64 pk2) ∧ w'.cell? ⟨g2, off + k * 2 + 1, none⟩ = some (.int .i64 nn)) w5 from ⟨h.elim fun bvx hOx => (hOx.cget 3 rfl 2).1, h.elim fun bvx hOx => (hOx.cget 3 rfl 4).1, h.old x1.out⟩)
          clear hlen2 hcn hTl ht hth
          have hA := hA0.drewN 1
          have hS0 := KS.out _ hA
          dsimp only at hS0
          refine lin_start (S := (fun w' : World => w'.cell? ⟨gr, 2, none⟩ = some (.slice rto tk2.length rtc) ∧ w'.cell? ⟨gr, 4, none⟩ = some (.int .i64 pk2) ∧ w'.cell? ⟨g2, off + k * 2 + 1, none⟩ = some (.int .i64 nn))) rfl 46 rfl hS0 ?_
          simp only [numbered, Nat.zero_add, Nat.reduceAdd]
          refine lin_take (v := ?_) (by kernel_rfl) (by kernel_rfl) (fun _ _ _ h => h) (Or.inl ⟨by rfl, ?_⟩) (by assumption) ?_; (rotate_left; (intro wS hSw; (try dsimp only at hSw); go_simp; (try with_reducible rfl)); rotate_left); simp only [Act.put, List.setIfInBounds_toArray, List.set_cons_zero, List.set_cons_succ]
          refine lin_rot ?_; simp only [List.cons_append, List.nil_append]
          refine lin_take (v := ?_) (by kernel_rfl) (by kernel_rfl) (fun _ _ _ h => h) (Or.inl ⟨by rfl, ?_⟩) (by assumption) ?_; (rotate_left; (intro wS hSw; (try dsimp only at hSw); go_simp; (try with_reducible rfl)); rotate_left); simp only [Act.put, List.setIfInBounds_toArray, List.set_cons_zero, List.set_cons_succ]
          refine lin_take (v := ?_) (by kernel_rfl) (by kernel_rfl) (fun _ _ _ h => h) (Or.inl ⟨by rfl, ?_⟩) (by assumption) ?_; (rotate_left; (intro wS hSw; (try dsimp only at hSw); go_simp; (try with_reducible rfl)); rotate_left); simp only [Act.put, List.setIfInBounds_toArray, List.set_cons_zero, List.set_cons_succ]
          refine lin_take (v := ?_) (by kernel_rfl) (by kernel_rfl) (fun _ _ _ h => h) (Or.inl ⟨by rfl, ?_⟩) (by assumption) ?_; (rotate_left; (intro wS hSw; (try dsimp only at hSw); go_simp; (try with_reducible rfl)); rotate_left); simp only [Act.put, List.setIfInBounds_toArray, List.set_cons_zero, List.set_cons_succ]
          refine lin_take (v := ?_) (by kernel_rfl) (by kernel_rfl) (fun _ _ _ h => h) (Or.inl ⟨by rfl, ?_⟩) (by assumption) ?_; (rotate_left; (intro wS hSw; (try dsimp only at hSw); go_simp; (try with_reducible rfl)); rotate_left); simp only [Act.put, List.setIfInBounds_toArray, List.set_cons_zero, List.set_cons_succ]
          refine lin_take (v := ?_) (by kernel_rfl) (by kernel_rfl) (fun _ _ _ h => h) (Or.inl ⟨by rfl, ?_⟩) (by assumption) ?_; (rotate_left; (intro wS hSw; (try dsimp only at hSw); go_simp; (try with_reducible rfl)); rotate_left); simp only [Act.put, List.setIfInBounds_toArray, List.set_cons_zero, List.set_cons_succ]
          refine lin_rot ?_; simp only [List.cons_append, List.nil_append]
          refine lin_rot ?_; simp only [List.cons_append, List.nil_append]
          refine lin_rot ?_; simp only [List.cons_append, List.nil_append]
          refine lin_rot ?_; simp only [List.cons_append, List.nil_append]
          refine lin_rot ?_; simp only [List.cons_append, List.nil_append]
          refine lin_rot ?_; simp only [List.cons_append, List.nil_append]
          refine lin_rot ?_; simp only [List.cons_append, List.nil_append]
          refine lin_rot ?_; simp only [List.cons_append, List.nil_append]
          refine lin_rot ?_; simp only [List.cons_append, List.nil_append]
          refine lin_rot ?_; simp only [List.cons_append, List.nil_append]
          refine lin_rot ?_; simp only [List.cons_append, List.nil_append]
          refine lin_rot ?_; simp only [List.cons_append, List.nil_append]
          refine lin_rot ?_; simp only [List.cons_append, List.nil_append]
          refine lin_rot ?_; simp only [List.cons_append, List.nil_append]
          refine lin_rot ?_; simp only [List.cons_append, List.nil_append]
          refine lin_rot ?_; simp only [List.cons_append, List.nil_append]
          refine lin_rot ?_; simp only [List.cons_append, List.nil_append]
          refine lin_rot ?_; simp only [List.cons_append, List.nil_append]
          refine lin_rot ?_; simp only [List.cons_append, List.nil_append]
          refine lin_rot ?_; simp only [List.cons_append, List.nil_append]
          refine lin_rot ?_; simp only [List.cons_append, List.nil_append]
          refine lin_rot ?_; simp only [List.cons_append, List.nil_append]
          refine lin_rot ?_; simp only [List.cons_append, List.nil_append]
          refine lin_rot ?_; simp only [List.cons_append, List.nil_append]
          refine lin_rot ?_; simp only [List.cons_append, List.nil_append]
          refine lin_rot ?_; simp only [List.cons_append, List.nil_append]
          refine lin_rot ?_; simp only [List.cons_append, List.nil_append]
          refine lin_rot ?_; simp only [List.cons_append, List.nil_append]
          refine lin_rot ?_; simp only [List.cons_append, List.nil_append]
          refine lin_rot ?_; simp only [List.cons_append, List.nil_append]
          refine lin_rot ?_; simp only [List.cons_append, List.nil_append]
          refine lin_rot ?_; simp only [List.cons_append, List.nil_append]
          refine lin_rot ?_; simp only [List.cons_append, List.nil_append]
          refine lin_rot ?_; simp only [List.cons_append, List.nil_append]
          refine lin_rot ?_; simp only [List.cons_append, List.nil_append]
          refine lin_rot ?_; simp only [List.cons_append, List.nil_append]
          refine lin_rot ?_; simp only [List.cons_append, List.nil_append]
          refine lin_rot ?_; simp only [List.cons_append, List.nil_append]
          refine lin_rot ?_; simp only [List.cons_append, List.nil_append]
          refine lin_sole (by kernel_rfl) (fun K hK => ?_)
          go_simp
          refine (U.out _ hA).mono ?_
          rintro e w6 ⟨rfl, hA6⟩
          have hS6 := KS.out _ hA6
          refine hK.out _ _ ?_ (fun hHeld => ?_)
          · exact hS6
          try simp only [Act.put, List.setIfInBounds_toArray, List.set_cons_zero, List.set_cons_succ]
          refine lin_take (v := ?_) (by kernel_rfl) (by kernel_rfl) (fun _ _ _ h => h) (Or.inl ⟨by rfl, ?_⟩) (by assumption) ?_; (rotate_left; (intro wS hSw; (try dsimp only at hSw); go_simp; (try with_reducible rfl)); rotate_left); simp only [Act.put, List.setIfInBounds_toArray, List.set_cons_zero, List.set_cons_succ]
          refine lin_take (v := ?_) (by kernel_rfl) (by kernel_rfl) (fun _ _ _ h => h) (Or.inl ⟨by rfl, ?_⟩) (by assumption) ?_; (rotate_left; (intro wS hSw; (try dsimp only at hSw); go_simp; (try with_reducible rfl)); rotate_left); simp only [Act.put, List.setIfInBounds_toArray, List.set_cons_zero, List.set_cons_succ]
          refine lin_take (v := ?_) (by kernel_rfl) (by kernel_rfl) (fun _ _ _ h => h) (Or.inl ⟨by rfl, ?_⟩) (by assumption) ?_; (rotate_left; (intro wS hSw; (try dsimp only at hSw); go_simp; (try with_reducible rfl)); rotate_left); simp only [Act.put, List.setIfInBounds_toArray, List.set_cons_zero, List.set_cons_succ]
          refine lin_rot ?_; simp only [List.cons_append, List.nil_append]
          refine lin_take (v := ?_) (by kernel_rfl) (by kernel_rfl) (fun _ _ _ h => h) (Or.inl ⟨by rfl, ?_⟩) (by assumption) ?_; (rotate_left; (intro wS hSw; (try dsimp only at hSw); go_simp; (try with_reducible rfl)); rotate_left); simp only [Act.put, List.setIfInBounds_toArray, List.set_cons_zero, List.set_cons_succ]
          refine lin_take (v := ?_) (by kernel_rfl) (by kernel_rfl) (fun _ _ _ h => h) (Or.inl ⟨by rfl, ?_⟩) (by assumption) ?_; (rotate_left; (intro wS hSw; (try dsimp only at hSw); go_simp; (try with_reducible rfl)); rotate_left); simp only [Act.put, List.setIfInBounds_toArray, List.set_cons_zero, List.set_cons_succ]
          refine lin_take (v := ?_) (by kernel_rfl) (by kernel_rfl) (fun _ _ _ h => h) (Or.inl ⟨by rfl, ?_⟩) (by assumption) ?_; (rotate_left; (intro wS hSw; (try dsimp only at hSw); go_simp; (try with_reducible rfl)); rotate_left); simp only [Act.put, List.setIfInBounds_toArray, List.set_cons_zero, List.set_cons_succ]
          refine lin_take (v := ?_) (by kernel_rfl) (by kernel_rfl) (fun _ _ _ h => h) (Or.inl ⟨by rfl, ?_⟩) (by assumption) ?_; (rotate_left; (intro wS hSw; (try dsimp only at hSw); go_simp; (try with_reducible rfl)); rotate_left); simp only [Act.put, List.setIfInBounds_toArray, List.set_cons_zero, List.set_cons_succ]
          refine lin_rot ?_; simp only [List.cons_append, List.nil_append]
          refine lin_rot ?_; simp only [List.cons_append, List.nil_append]
          refine lin_rot ?_; simp only [List.cons_append, List.nil_append]
          refine lin_rot ?_; simp only [List.cons_append, List.nil_append]
          refine lin_rot ?_; simp only [List.cons_append, List.nil_append]
          refine lin_rot ?_; simp only [List.cons_append, List.nil_append]
          refine lin_rot ?_; simp only [List.cons_append, List.nil_append]
          refine lin_rot ?_; simp only [List.cons_append, List.nil_append]
          refine lin_rot ?_; simp only [List.cons_append, List.nil_append]
          refine lin_rot ?_; simp only [List.cons_append, List.nil_append]
          refine lin_rot ?_; simp only [List.cons_append, List.nil_append]
          refine lin_rot ?_; simp only [List.cons_append, List.nil_append]
          refine lin_rot ?_; simp only [List.cons_append, List.nil_append]
          refine lin_rot ?_; simp only [List.cons_append, List.nil_append]
          refine lin_rot ?_; simp only [List.cons_append, List.nil_append]
          refine lin_rot ?_; simp only [List.cons_append, List.nil_append]
          refine lin_rot ?_; simp only [List.cons_append, List.nil_append]
          refine lin_rot ?_; simp only [List.cons_append, List.nil_append]
          refine lin_rot ?_; simp only [List.cons_append, List.nil_append]
          refine lin_rot ?_; simp only [List.cons_append, List.nil_append]
          refine lin_rot ?_; simp only [List.cons_append, List.nil_append]
          refine lin_rot ?_; simp only [List.cons_append, List.nil_append]
          refine lin_rot ?_; simp only [List.cons_append, List.nil_append]
          refine lin_rot ?_; simp only [List.cons_append, List.nil_append]
          refine lin_rot ?_; simp only [List.cons_append, List.nil_append]
          refine lin_rot ?_; simp only [List.cons_append, List.nil_append]
          refine lin_rot ?_; simp only [List.cons_append, List.nil_append]
          refine lin_rot ?_; simp only [List.cons_append, List.nil_append]
          refine lin_rot ?_; simp only [List.cons_append, List.nil_append]
          refine lin_rot ?_; simp only [List.cons_append, List.nil_append]
          refine lin_rot ?_; simp only [List.cons_append, List.nil_append]
          refine lin_sole (by kernel_rfl) (fun K hK => ?_)
          go_simp
          refine (PK.out _ hA6).mono ?_
          rintro e w7 ⟨rfl, rfl⟩
          refine hK.out _ _ ?_ (fun hHeld => ?_)
          · exact hS6
          try simp only [Act.put, List.setIfInBounds_toArray, List.set_cons_zero, List.set_cons_succ]
          refine lin_take (v := ?_) (by kernel_rfl) (by kernel_rfl) (fun _ _ _ h => h) (Or.inl ⟨by rfl, ?_⟩) (by assumption) ?_; (rotate_left; (intro wS hSw; (try dsimp only at hSw); go_simp; (try with_reducible rfl)); rotate_left); simp only [Act.put, List.setIfInBounds_toArray, List.set_cons_zero, List.set_cons_succ]
          refine lin_take (v := ?_) (by kernel_rfl) (by kernel_rfl) (fun _ _ _ h => h) (Or.inl ⟨by rfl, ?_⟩) (by assumption) ?_; (rotate_left; (intro wS hSw; (try dsimp only at hSw); go_simp; (try with_reducible rfl)); rotate_left); simp only [Act.put, List.setIfInBounds_toArray, List.set_cons_zero, List.set_cons_succ]
          refine lin_take (v := ?_) (by kernel_rfl) (by kernel_rfl) (fun _ _ _ h => h) (Or.inl ⟨by rfl, ?_⟩) (by assumption) ?_; (rotate_left; (intro wS hSw; (try dsimp only at hSw); go_simp; (try with_reducible rfl)); rotate_left); simp only [Act.put, List.setIfInBounds_toArray, List.set_cons_zero, List.set_cons_succ]
          refine lin_take (v := ?_) (by kernel_rfl) (by kernel_rfl) (fun _ _ _ h => h) (Or.inl ⟨by rfl, ?_⟩) (by assumption) ?_; (rotate_left; (intro wS hSw; (try dsimp only at hSw); go_simp; (try with_reducible rfl)); rotate_left); simp only [Act.put, List.setIfInBounds_toArray, List.set_cons_zero, List.set_cons_succ]
          refine lin_take (v := ?_) (by kernel_rfl) (by kernel_rfl) (fun _ _ _ h => h) (Or.inl ⟨by rfl, ?_⟩) (by assumption) ?_; (rotate_left; (intro wS hSw; (try dsimp only at hSw); go_simp; (try with_reducible rfl)); rotate_left); simp only [Act.put, List.setIfInBounds_toArray, List.set_cons_zero, List.set_cons_succ]
          refine lin_take (v := ?_) (by kernel_rfl) (by kernel_rfl) (fun _ _ _ h => h) (Or.inl ⟨by rfl, ?_⟩) (by assumption) ?_; (rotate_left; (intro wS hSw; (try dsimp only at hSw); go_simp; (try with_reducible rfl)); rotate_left); simp only [Act.put, List.setIfInBounds_toArray, List.set_cons_zero, List.set_cons_succ]
          refine lin_take (v := ?_) (by kernel_rfl) (by kernel_rfl) (fun _ _ _ h => h) (Or.inl ⟨by rfl, ?_⟩) (by assumption) ?_; (rotate_left; (intro wS hSw; (try dsimp only at hSw); go_simp; (try with_reducible rfl)); rotate_left); simp only [Act.put, List.setIfInBounds_toArray, List.set_cons_zero, List.set_cons_succ]
          refine lin_take (v := ?_) (by kernel_rfl) (by kernel_rfl) (fun _ _ _ h => h) (Or.inl ⟨by rfl, ?_⟩) (by assumption) ?_; (rotate_left; (intro wS hSw; (try dsimp only at hSw); go_simp; (try with_reducible rfl)); rotate_left); simp only [Act.put, List.setIfInBounds_toArray, List.set_cons_zero, List.set_cons_succ]
          refine lin_take (v := ?_) (by kernel_rfl) (by kernel_rfl) (fun _ _ _ h => h) (Or.inl ⟨by rfl, ?_⟩) (by assumption) ?_; (rotate_left; (intro wS hSw; (try dsimp only at hSw); go_simp; (try with_reducible rfl)); rotate_left); simp only [Act.put, List.setIfInBounds_toArray, List.set_cons_zero, List.set_cons_succ]
          refine lin_rot ?_; simp only [List.cons_append, List.nil_append]
          refine lin_take (v := ?_) (by kernel_rfl) (by kernel_rfl) (fun _ _ _ h => h) (Or.inl ⟨by rfl, ?_⟩) (by assumption) ?_; (rotate_left; (intro wS hSw; (try dsimp only at hSw); go_simp; (try with_reducible rfl)); rotate_left); simp only [Act.put, List.setIfInBounds_toArray, List.set_cons_zero, List.set_cons_succ]
          refine lin_take (v := ?_) (by kernel_rfl) (by kernel_rfl) (fun _ _ _ h => h) (Or.inl ⟨by rfl, ?_⟩) (by assumption) ?_; (rotate_left; (intro wS hSw; (try dsimp only at hSw); go_simp; (try with_reducible rfl)); rotate_left); simp only [Act.put, List.setIfInBounds_toArray, List.set_cons_zero, List.set_cons_succ]
          refine lin_take (v := ?_) (by kernel_rfl) (by kernel_rfl) (fun _ _ _ h => h) (Or.inl ⟨by rfl, ?_⟩) (by assumption) ?_; (rotate_left; (intro wS hSw; (try dsimp only at hSw); go_simp; (try with_reducible rfl)); rotate_left); simp only [Act.put, List.setIfInBounds_toArray, List.set_cons_zero, List.set_cons_succ]
          refine lin_take (v := ?_) (by kernel_rfl) (by kernel_rfl) (fun _ _ _ h => h) (Or.inl ⟨by rfl, ?_⟩) (by assumption) ?_; (rotate_left; (intro wS hSw; (try dsimp only at hSw); go_simp; (try with_reducible rfl)); rotate_left); simp only [Act.put, List.setIfInBounds_toArray, List.set_cons_zero, List.set_cons_succ]
          refine lin_take (v := ?_) (by kernel_rfl) (by kernel_rfl) (fun _ _ _ h => h) (Or.inl ⟨by rfl, ?_⟩) (by assumption) ?_; (rotate_left; (intro wS hSw; (try dsimp only at hSw); go_simp; (try with_reducible rfl)); rotate_left); simp only [Act.put, List.setIfInBounds_toArray, List.set_cons_zero, List.set_cons_succ]
          refine lin_take (v := ?_) (by kernel_rfl) (by kernel_rfl) (fun _ _ _ h => h) (Or.inl ⟨by rfl, ?_⟩) (by assumption) ?_; (rotate_left; (intro wS hSw; (try dsimp only at hSw); go_simp; (try with_reducible rfl)); rotate_left); simp only [Act.put, List.setIfInBounds_toArray, List.set_cons_zero, List.set_cons_succ]
          refine lin_take (v := ?_) (by kernel_rfl) (by kernel_rfl) (fun _ _ _ h => h) (Or.inl ⟨by rfl, ?_⟩) (by assumption) ?_; (rotate_left; (intro wS hSw; (try dsimp only at hSw); go_simp; (try with_reducible rfl)); rotate_left); simp only [Act.put, List.setIfInBounds_toArray, List.set_cons_zero, List.set_cons_succ]
          refine lin_take (v := ?_) (by kernel_rfl) (by kernel_rfl) (fun _ _ _ h => h) (Or.inl ⟨by rfl, ?_⟩) (by assumption) ?_; (rotate_left; (intro wS hSw; (try dsimp only at hSw); go_simp; (try with_reducible rfl)); rotate_left); simp only [Act.put, List.setIfInBounds_toArray, List.set_cons_zero, List.set_cons_succ]
          refine lin_take (v := ?_) (by kernel_rfl) (by kernel_rfl) (fun _ _ _ h => h) (Or.inl ⟨by rfl, ?_⟩) (by assumption) ?_; (rotate_left; (intro wS hSw; (try dsimp only at hSw); go_simp; (try with_reducible rfl)); rotate_left); simp only [Act.put, List.setIfInBounds_toArray, List.set_cons_zero, List.set_cons_succ]
          refine lin_rot ?_; simp only [List.cons_append, List.nil_append]
          refine lin_rot ?_; simp only [List.cons_append, List.nil_append]
          refine lin_rot ?_; simp only [List.cons_append, List.nil_append]
          refine lin_rot ?_; simp only [List.cons_append, List.nil_append]
          refine lin_rot ?_; simp only [List.cons_append, List.nil_append]
          refine lin_rot ?_; simp only [List.cons_append, List.nil_append]
          refine lin_rot ?_; simp only [List.cons_append, List.nil_append]
          refine lin_rot ?_; simp only [List.cons_append, List.nil_append]
          refine lin_rot ?_; simp only [List.cons_append, List.nil_append]
          refine lin_rot ?_; simp only [List.cons_append, List.nil_append]
          refine lin_rot ?_; simp only [List.cons_append, List.nil_append]
          refine lin_rot ?_; simp only [List.cons_append, List.nil_append]
          refine lin_sole (by kernel_rfl) (fun K hK => ?_)
          go_simp
          refine (HL.out _ hA6).mono ?_
          rintro e w7 ⟨rfl, rfl⟩
          refine hK.out _ _ ?_ (fun hHeld => ?_)
          · exact hS6
          try simp only [Act.put, List.setIfInBounds_toArray, List.set_cons_zero, List.set_cons_succ]
          refine lin_sole (by kernel_rfl) (fun K hK => ?_)
          go_simp
          refine (HS.out _ hA6).mono ?_
          rintro e w7 ⟨rfl, rfl⟩
          refine hK.out _ _ ?_ (fun hHeld => ?_)
          · exact hS6
          try simp only [Act.put, List.setIfInBounds_toArray, List.set_cons_zero, List.set_cons_succ]
          refine lin_take (v := ?_) (by kernel_rfl) (by kernel_rfl) (fun _ _ _ h => h) (Or.inl ⟨by rfl, ?_⟩) (by assumption) ?_; (rotate_left; (intro wS hSw; (try dsimp only at hSw); go_simp; (try with_reducible rfl)); rotate_left); simp only [Act.put, List.setIfInBounds_toArray, List.set_cons_zero, List.set_cons_succ]
          refine lin_take (v := ?_) (by kernel_rfl) (by kernel_rfl) (fun _ _ _ h => h) (Or.inl ⟨by rfl, ?_⟩) (by assumption) ?_; (rotate_left; (intro wS hSw; (try dsimp only at hSw); go_simp; (try with_reducible rfl)); rotate_left); simp only [Act.put, List.setIfInBounds_toArray, List.set_cons_zero, List.set_cons_succ]
          refine lin_take (v := ?_) (by kernel_rfl) (by kernel_rfl) (fun _ _ _ h => h) (Or.inl ⟨by rfl, ?_⟩) (by assumption) ?_; (rotate_left; (intro wS hSw; (try dsimp only at hSw); go_simp; (try with_reducible rfl)); rotate_left); simp only [Act.put, List.setIfInBounds_toArray, List.set_cons_zero, List.set_cons_succ]
          refine lin_take (v := ?_) (by kernel_rfl) (by kernel_rfl) (fun _ _ _ h => h) (Or.inl ⟨by rfl, ?_⟩) (by assumption) ?_; (rotate_left; (intro wS hSw; (try dsimp only at hSw); go_simp; (try with_reducible rfl)); rotate_left); simp only [Act.put, List.setIfInBounds_toArray, List.set_cons_zero, List.set_cons_succ]
          refine lin_take (v := ?_) (by kernel_rfl) (by kernel_rfl) (fun _ _ _ h => h) (Or.inl ⟨by rfl, ?_⟩) (by assumption) ?_; (rotate_left; (intro wS hSw; (try dsimp only at hSw); go_simp; (try with_reducible rfl)); rotate_left); simp only [Act.put, List.setIfInBounds_toArray, List.set_cons_zero, List.set_cons_succ]
          refine lin_take (v := ?_) (by kernel_rfl) (by kernel_rfl) (fun _ _ _ h => h) (Or.inl ⟨by rfl, ?_⟩) (by assumption) ?_; (rotate_left; (intro wS hSw; (try dsimp only at hSw); go_simp; (try with_reducible rfl)); rotate_left); simp only [Act.put, List.setIfInBounds_toArray, List.set_cons_zero, List.set_cons_succ]
          refine lin_take (v := ?_) (by kernel_rfl) (by kernel_rfl) (fun _ _ _ h => h) (Or.inl ⟨by rfl, ?_⟩) (by assumption) ?_; (rotate_left; (intro wS hSw; (try dsimp only at hSw); go_simp; (try with_reducible rfl)); rotate_left); simp only [Act.put, List.setIfInBounds_toArray, List.set_cons_zero, List.set_cons_succ]
          refine lin_take (v := ?_) (by kernel_rfl) (by kernel_rfl) (fun _ _ _ h => h) (Or.inl ⟨by rfl, ?_⟩) (by assumption) ?_; (rotate_left; (intro wS hSw; (try dsimp only at hSw); go_simp; (try with_reducible rfl)); rotate_left); simp only [Act.put, List.setIfInBounds_toArray, List.set_cons_zero, List.set_cons_succ]
          refine lin_take (v := ?_) (by kernel_rfl) (by kernel_rfl) (fun _ _ _ h => h) (Or.inl ⟨by rfl, ?_⟩) (by assumption) ?_; (rotate_left; (intro wS hSw; (try dsimp only at hSw); go_simp; (try with_reducible rfl)); rotate_left); simp only [Act.put, List.setIfInBounds_toArray, List.set_cons_zero, List.set_cons_succ]
          refine lin_sole (by kernel_rfl) (fun K hK => ?_)
          go_simp
          refine (held_none _ _).mono ?_
          rintro e w7 ⟨rfl, rfl⟩
          refine hK.out _ _ ?_ (fun hHeld => ?_)
          · exact hS6
          try simp only [Act.put, List.setIfInBounds_toArray, List.set_cons_zero, List.set_cons_succ]
          refine lin_take (v := ?_) (by kernel_rfl) (by kernel_rfl) (fun _ _ _ h => h) (Or.inl ⟨by rfl, ?_⟩) (by assumption) ?_; (rotate_left; (intro wS hSw; (try dsimp only at hSw); go_simp; (try with_reducible rfl)); rotate_left); simp only [Act.put, List.setIfInBounds_toArray, List.set_cons_zero, List.set_cons_succ]
          refine lin_done (by kernel_rfl) ?_
          go_wp2_with fail
          go_roundw
          case rel => exact ⟨k + 1, fr2, hs2, bs2, tk2, pk2, by omega, by have := hfk2.out; omega, by go_num, hI2, hT2, ⟨rbv, _, hA6⟩⟩
          case measure => simp [intOf]; omega
        | some q =>
          obtain ⟨id, bs2, fr2⟩ := q
          obtain ⟨i, rfl, i1, i2, i3, hI2, hlt3⟩ := hI.out.take hnx
          have hlen := hI.out.len
          have hT2 := hT.out.take i1 (by omega) i3
          have hfk2 := Lib.hid (show fr2 ≤ k + 1 by
            unfold nextA at hnx
            split at hnx
            · split at hnx
              · cases hnx
              · simp only [Option.some.injEq, Prod.mk.injEq] at hnx; omega
            · simp only [Option.some.injEq, Prod.mk.injEq] at hnx; omega)
          obtain ⟨TA, TR⟩ := duo_take (w := w) (w0 := w) (ga := hb + 1) (hb := hb) (gr := gr) (pk := pk) hI.out hT.out hNl hnx i2
          obtain ⟨hs2, hhs⟩ : ∃ hs2, hs.set i true = hs2 := ⟨_, rfl⟩
          obtain ⟨tk2, htk⟩ : ∃ tk2, tk ++ [(i : Int)] = tk2 := ⟨_, rfl⟩
          obtain ⟨pk2, hpk⟩ : ∃ pk2, max pk ((tk.length : Int) + 1) = pk2 := ⟨_, rfl⟩
          rw [hhs, hpk] at TA
          rw [hhs, htk, hpk] at TR
          rw [hhs] at hI2 hT2
          rw [htk] at hT2
          replace TA := Lib.hid TA
          replace TR := Lib.hid TR
          replace hI2 := Lib.hid hI2
          replace hT2 := Lib.hid hT2
          clear hnx hhs htk hpk hlen i3 hlt3
          go_wp2_with fail
          go_at_call 32
          refine (TA.out _ hO).mono ?_
          rintro e w5 ⟨rfl, hD5⟩
          clear z0 z1
          go_wp2_with fail
          go_at_call 33
          refine (TR.out _ hD5).mono ?_
          rintro e w6 ⟨rfl, hD⟩
          go_wp2_with (first | (go_at_call 32; refine (take_none _).mono ?_; rintro e w7 ⟨rfl, rfl⟩))
          clear TA TR hD5 hO hI hT
          have hlen2 := hI2.out.len
          have hcn := cnt_count hs2
          have hTl := hT2.out.len
          obtain ⟨t, ht⟩ : ∃ t, heldB hs2 nn = t := ⟨_, rfl⟩
          have hth := hT2.out.has hI2.out.h0 nn
          rw [ht] at hth
          obtain ⟨rbv, rtv, hA0⟩ := hD
          obtain ⟨rto, rtc, rfl⟩ : ∃ rto rtc, rtv = .slice rto tk2.length rtc := hA0.elim fun bvx hOx => by obtain ⟨a, b, c, _⟩ := (hOx.row 5 rfl).shape; exact ⟨a, b, c⟩
          have U := Lib.hid (fun (w5 : World) (h : AOwn w w5 (hb + 1) hb hs2 bs2 fr2 pk2 (refL gr N rbv bs2 (.slice rto tk2.length rtc) tk2 fr2 pk2 [])) => show Calls Try.prog 36 #[.pointer (some ⟨hb + 1, 0, none⟩)] w5 fun e w' => e = .returned (.int .i64 tk2.length) ∧ AOwn w w' (hb + 1) hb hs2 bs2 fr2 pk2 (refL gr N rbv bs2 (.slice rto tk2.length rtc) tk2 fr2 pk2 []) by have q := used_own h (by omega); rwa [hcn, ← hTl] at q)
          have PK := Lib.hid (fun (w5 : World) (h : AOwn w w5 (hb + 1) hb hs2 bs2 fr2 pk2 (refL gr N rbv bs2 (.slice rto tk2.length rtc) tk2 fr2 pk2 [])) => peak_own h)
          have HL := Lib.hid (fun (w5 : World) (h : AOwn w w5 (hb + 1) hb hs2 bs2 fr2 pk2 (refL gr N rbv bs2 (.slice rto tk2.length rtc) tk2 fr2 pk2 [])) => held_own h (by omega) nn t ht)
          have HS := Lib.hid (fun (w5 : World) (h : AOwn w w5 (hb + 1) hb hs2 bs2 fr2 pk2 (refL gr N rbv bs2 (.slice rto tk2.length rtc) tk2 fr2 pk2 [])) => has_any (h.elim fun bvx hOx => Lies.of_row (hOx.row 5 rfl) rfl) nn t hth)
          have KS := Lib.hid (fun (w5 : World) (h : AOwn w w5 (hb + 1) hb hs2 bs2 fr2 pk2 (refL gr N rbv bs2 (.slice rto tk2.length rtc) tk2 fr2 pk2 [])) => show (fun w' : World => w'.cell? ⟨gr, 2, none⟩ = some (.slice rto tk2.length rtc) ∧ w'.cell? ⟨gr, 4, none⟩ = some (.int .i64 pk2) ∧ w'.cell? ⟨g2, off + k * 2 + 1, none⟩ = some (.int .i64 nn)) w5 from ⟨h.elim fun bvx hOx => (hOx.cget 3 rfl 2).1, h.elim fun bvx hOx => (hOx.cget 3 rfl 4).1, h.old x1.out⟩)
          clear hlen2 hcn hTl ht hth
          have hA := hA0.drewN 1
          have hS0 := KS.out _ hA
          dsimp only at hS0
          refine lin_start (S := (fun w' : World => w'.cell? ⟨gr, 2, none⟩ = some (.slice rto tk2.length rtc) ∧ w'.cell? ⟨gr, 4, none⟩ = some (.int .i64 pk2) ∧ w'.cell? ⟨g2, off + k * 2 + 1, none⟩ = some (.int .i64 nn))) rfl 46 rfl hS0 ?_
          simp only [numbered, Nat.zero_add, Nat.reduceAdd]
          refine lin_take (v := ?_) (by kernel_rfl) (by kernel_rfl) (fun _ _ _ h => h) (Or.inl ⟨by rfl, ?_⟩) (by assumption) ?_; (rotate_left; (intro wS hSw; (try dsimp only at hSw); go_simp; (try with_reducible rfl)); rotate_left); simp only [Act.put, List.setIfInBounds_toArray, List.set_cons_zero, List.set_cons_succ]
          refine lin_rot ?_; simp only [List.cons_append, List.nil_append]
          refine lin_take (v := ?_) (by kernel_rfl) (by kernel_rfl) (fun _ _ _ h => h) (Or.inl ⟨by rfl, ?_⟩) (by assumption) ?_; (rotate_left; (intro wS hSw; (try dsimp only at hSw); go_simp; (try with_reducible rfl)); rotate_left); simp only [Act.put, List.setIfInBounds_toArray, List.set_cons_zero, List.set_cons_succ]
          refine lin_take (v := ?_) (by kernel_rfl) (by kernel_rfl) (fun _ _ _ h => h) (Or.inl ⟨by rfl, ?_⟩) (by assumption) ?_; (rotate_left; (intro wS hSw; (try dsimp only at hSw); go_simp; (try with_reducible rfl)); rotate_left); simp only [Act.put, List.setIfInBounds_toArray, List.set_cons_zero, List.set_cons_succ]
          refine lin_take (v := ?_) (by kernel_rfl) (by kernel_rfl) (fun _ _ _ h => h) (Or.inl ⟨by rfl, ?_⟩) (by assumption) ?_; (rotate_left; (intro wS hSw; (try dsimp only at hSw); go_simp; (try with_reducible rfl)); rotate_left); simp only [Act.put, List.setIfInBounds_toArray, List.set_cons_zero, List.set_cons_succ]
          refine lin_take (v := ?_) (by kernel_rfl) (by kernel_rfl) (fun _ _ _ h => h) (Or.inl ⟨by rfl, ?_⟩) (by assumption) ?_; (rotate_left; (intro wS hSw; (try dsimp only at hSw); go_simp; (try with_reducible rfl)); rotate_left); simp only [Act.put, List.setIfInBounds_toArray, List.set_cons_zero, List.set_cons_succ]
          refine lin_take (v := ?_) (by kernel_rfl) (by kernel_rfl) (fun _ _ _ h => h) (Or.inl ⟨by rfl, ?_⟩) (by assumption) ?_; (rotate_left; (intro wS hSw; (try dsimp only at hSw); go_simp; (try with_reducible rfl)); rotate_left); simp only [Act.put, List.setIfInBounds_toArray, List.set_cons_zero, List.set_cons_succ]
          refine lin_rot ?_; simp only [List.cons_append, List.nil_append]
          refine lin_rot ?_; simp only [List.cons_append, List.nil_append]
          refine lin_rot ?_; simp only [List.cons_append, List.nil_append]
          refine lin_rot ?_; simp only [List.cons_append, List.nil_append]
          refine lin_rot ?_; simp only [List.cons_append, List.nil_append]
          refine lin_rot ?_; simp only [List.cons_append, List.nil_append]
          refine lin_rot ?_; simp only [List.cons_append, List.nil_append]
          refine lin_rot ?_; simp only [List.cons_append, List.nil_append]
          refine lin_rot ?_; simp only [List.cons_append, List.nil_append]
          refine lin_rot ?_; simp only [List.cons_append, List.nil_append]
          refine lin_rot ?_; simp only [List.cons_append, List.nil_append]
          refine lin_rot ?_; simp only [List.cons_append, List.nil_append]
          refine lin_rot ?_; simp only [List.cons_append, List.nil_append]
          refine lin_rot ?_; simp only [List.cons_append, List.nil_append]
          refine lin_rot ?_; simp only [List.cons_append, List.nil_append]
          refine lin_rot ?_; simp only [List.cons_append, List.nil_append]
          refine lin_rot ?_; simp only [List.cons_append, List.nil_append]
          refine lin_rot ?_; simp only [List.cons_append, List.nil_append]
          refine lin_rot ?_; simp only [List.cons_append, List.nil_append]
          refine lin_rot ?_; simp only [List.cons_append, List.nil_append]
          refine lin_rot ?_; simp only [List.cons_append, List.nil_append]
          refine lin_rot ?_; simp only [List.cons_append, List.nil_append]
          refine lin_rot ?_; simp only [List.cons_append, List.nil_append]
          refine lin_rot ?_; simp only [List.cons_append, List.nil_append]
          refine lin_rot ?_; simp only [List.cons_append, List.nil_append]
          refine lin_rot ?_; simp only [List.cons_append, List.nil_append]
          refine lin_rot ?_; simp only [List.cons_append, List.nil_append]
          refine lin_rot ?_; simp only [List.cons_append, List.nil_append]
          refine lin_rot ?_; simp only [List.cons_append, List.nil_append]
          refine lin_rot ?_; simp only [List.cons_append, List.nil_append]
          refine lin_rot ?_; simp only [List.cons_append, List.nil_append]
          refine lin_rot ?_; simp only [List.cons_append, List.nil_append]
          refine lin_rot ?_; simp only [List.cons_append, List.nil_append]
          refine lin_rot ?_; simp only [List.cons_append, List.nil_append]
          refine lin_rot ?_; simp only [List.cons_append, List.nil_append]
          refine lin_rot ?_; simp only [List.cons_append, List.nil_append]
          refine lin_rot ?_; simp only [List.cons_append, List.nil_append]
          refine lin_rot ?_; simp only [List.cons_append, List.nil_append]
          refine lin_rot ?_; simp only [List.cons_append, List.nil_append]
          refine lin_sole (by kernel_rfl) (fun K hK => ?_)
          go_simp
          refine (U.out _ hA).mono ?_
          rintro e w6 ⟨rfl, hA6⟩
          have hS6 := KS.out _ hA6
          refine hK.out _ _ ?_ (fun hHeld => ?_)
          · exact hS6
          try simp only [Act.put, List.setIfInBounds_toArray, List.set_cons_zero, List.set_cons_succ]
          refine lin_take (v := ?_) (by kernel_rfl) (by kernel_rfl) (fun _ _ _ h => h) (Or.inl ⟨by rfl, ?_⟩) (by assumption) ?_; (rotate_left; (intro wS hSw; (try dsimp only at hSw); go_simp; (try with_reducible rfl)); rotate_left); simp only [Act.put, List.setIfInBounds_toArray, List.set_cons_zero, List.set_cons_succ]
          refine lin_take (v := ?_) (by kernel_rfl) (by kernel_rfl) (fun _ _ _ h => h) (Or.inl ⟨by rfl, ?_⟩) (by assumption) ?_; (rotate_left; (intro wS hSw; (try dsimp only at hSw); go_simp; (try with_reducible rfl)); rotate_left); simp only [Act.put, List.setIfInBounds_toArray, List.set_cons_zero, List.set_cons_succ]
          refine lin_take (v := ?_) (by kernel_rfl) (by kernel_rfl) (fun _ _ _ h => h) (Or.inl ⟨by rfl, ?_⟩) (by assumption) ?_; (rotate_left; (intro wS hSw; (try dsimp only at hSw); go_simp; (try with_reducible rfl)); rotate_left); simp only [Act.put, List.setIfInBounds_toArray, List.set_cons_zero, List.set_cons_succ]
          refine lin_rot ?_; simp only [List.cons_append, List.nil_append]
          refine lin_take (v := ?_) (by kernel_rfl) (by kernel_rfl) (fun _ _ _ h => h) (Or.inl ⟨by rfl, ?_⟩) (by assumption) ?_; (rotate_left; (intro wS hSw; (try dsimp only at hSw); go_simp; (try with_reducible rfl)); rotate_left); simp only [Act.put, List.setIfInBounds_toArray, List.set_cons_zero, List.set_cons_succ]
          refine lin_take (v := ?_) (by kernel_rfl) (by kernel_rfl) (fun _ _ _ h => h) (Or.inl ⟨by rfl, ?_⟩) (by assumption) ?_; (rotate_left; (intro wS hSw; (try dsimp only at hSw); go_simp; (try with_reducible rfl)); rotate_left); simp only [Act.put, List.setIfInBounds_toArray, List.set_cons_zero, List.set_cons_succ]
          refine lin_take (v := ?_) (by kernel_rfl) (by kernel_rfl) (fun _ _ _ h => h) (Or.inl ⟨by rfl, ?_⟩) (by assumption) ?_; (rotate_left; (intro wS hSw; (try dsimp only at hSw); go_simp; (try with_reducible rfl)); rotate_left); simp only [Act.put, List.setIfInBounds_toArray, List.set_cons_zero, List.set_cons_succ]
          refine lin_take (v := ?_) (by kernel_rfl) (by kernel_rfl) (fun _ _ _ h => h) (Or.inl ⟨by rfl, ?_⟩) (by assumption) ?_; (rotate_left; (intro wS hSw; (try dsimp only at hSw); go_simp; (try with_reducible rfl)); rotate_left); simp only [Act.put, List.setIfInBounds_toArray, List.set_cons_zero, List.set_cons_succ]
          refine lin_rot ?_; simp only [List.cons_append, List.nil_append]
          refine lin_rot ?_; simp only [List.cons_append, List.nil_append]
          refine lin_rot ?_; simp only [List.cons_append, List.nil_append]
          refine lin_rot ?_; simp only [List.cons_append, List.nil_append]
          refine lin_rot ?_; simp only [List.cons_append, List.nil_append]
          refine lin_rot ?_; simp only [List.cons_append, List.nil_append]
          refine lin_rot ?_; simp only [List.cons_append, List.nil_append]
          refine lin_rot ?_; simp only [List.cons_append, List.nil_append]
          refine lin_rot ?_; simp only [List.cons_append, List.nil_append]
          refine lin_rot ?_; simp only [List.cons_append, List.nil_append]
          refine lin_rot ?_; simp only [List.cons_append, List.nil_append]
          refine lin_rot ?_; simp only [List.cons_append, List.nil_append]
          refine lin_rot ?_; simp only [List.cons_append, List.nil_append]
          refine lin_rot ?_; simp only [List.cons_append, List.nil_append]
          refine lin_rot ?_; simp only [List.cons_append, List.nil_append]
          refine lin_rot ?_; simp only [List.cons_append, List.nil_append]
          refine lin_rot ?_; simp only [List.cons_append, List.nil_append]
          refine lin_rot ?_; simp only [List.cons_append, List.nil_append]
          refine lin_rot ?_; simp only [List.cons_append, List.nil_append]
          refine lin_rot ?_; simp only [List.cons_append, List.nil_append]
          refine lin_rot ?_; simp only [List.cons_append, List.nil_append]
          refine lin_rot ?_; simp only [List.cons_append, List.nil_append]
          refine lin_rot ?_; simp only [List.cons_append, List.nil_append]
          refine lin_rot ?_; simp only [List.cons_append, List.nil_append]
          refine lin_rot ?_; simp only [List.cons_append, List.nil_append]
          refine lin_rot ?_; simp only [List.cons_append, List.nil_append]
          refine lin_rot ?_; simp only [List.cons_append, List.nil_append]
          refine lin_rot ?_; simp only [List.cons_append, List.nil_append]
          refine lin_rot ?_; simp only [List.cons_append, List.nil_append]
          refine lin_rot ?_; simp only [List.cons_append, List.nil_append]
          refine lin_rot ?_; simp only [List.cons_append, List.nil_append]
          refine lin_sole (by kernel_rfl) (fun K hK => ?_)
          go_simp
          refine (PK.out _ hA6).mono ?_
          rintro e w7 ⟨rfl, rfl⟩
          refine hK.out _ _ ?_ (fun hHeld => ?_)
          · exact hS6
          try simp only [Act.put, List.setIfInBounds_toArray, List.set_cons_zero, List.set_cons_succ]
          refine lin_take (v := ?_) (by kernel_rfl) (by kernel_rfl) (fun _ _ _ h => h) (Or.inl ⟨by rfl, ?_⟩) (by assumption) ?_; (rotate_left; (intro wS hSw; (try dsimp only at hSw); go_simp; (try with_reducible rfl)); rotate_left); simp only [Act.put, List.setIfInBounds_toArray, List.set_cons_zero, List.set_cons_succ]
          refine lin_take (v := ?_) (by kernel_rfl) (by kernel_rfl) (fun _ _ _ h => h) (Or.inl ⟨by rfl, ?_⟩) (by assumption) ?_; (rotate_left; (intro wS hSw; (try dsimp only at hSw); go_simp; (try with_reducible rfl)); rotate_left); simp only [Act.put, List.setIfInBounds_toArray, List.set_cons_zero, List.set_cons_succ]
          refine lin_take (v := ?_) (by kernel_rfl) (by kernel_rfl) (fun _ _ _ h => h) (Or.inl ⟨by rfl, ?_⟩) (by assumption) ?_; (rotate_left; (intro wS hSw; (try dsimp only at hSw); go_simp; (try with_reducible rfl)); rotate_left); simp only [Act.put, List.setIfInBounds_toArray, List.set_cons_zero, List.set_cons_succ]
          refine lin_take (v := ?_) (by kernel_rfl) (by kernel_rfl) (fun _ _ _ h => h) (Or.inl ⟨by rfl, ?_⟩) (by assumption) ?_; (rotate_left; (intro wS hSw; (try dsimp only at hSw); go_simp; (try with_reducible rfl)); rotate_left); simp only [Act.put, List.setIfInBounds_toArray, List.set_cons_zero, List.set_cons_succ]
          refine lin_take (v := ?_) (by kernel_rfl) (by kernel_rfl) (fun _ _ _ h => h) (Or.inl ⟨by rfl, ?_⟩) (by assumption) ?_; (rotate_left; (intro wS hSw; (try dsimp only at hSw); go_simp; (try with_reducible rfl)); rotate_left); simp only [Act.put, List.setIfInBounds_toArray, List.set_cons_zero, List.set_cons_succ]
          refine lin_take (v := ?_) (by kernel_rfl) (by kernel_rfl) (fun _ _ _ h => h) (Or.inl ⟨by rfl, ?_⟩) (by assumption) ?_; (rotate_left; (intro wS hSw; (try dsimp only at hSw); go_simp; (try with_reducible rfl)); rotate_left); simp only [Act.put, List.setIfInBounds_toArray, List.set_cons_zero, List.set_cons_succ]
          refine lin_take (v := ?_) (by kernel_rfl) (by kernel_rfl) (fun _ _ _ h => h) (Or.inl ⟨by rfl, ?_⟩) (by assumption) ?_; (rotate_left; (intro wS hSw; (try dsimp only at hSw); go_simp; (try with_reducible rfl)); rotate_left); simp only [Act.put, List.setIfInBounds_toArray, List.set_cons_zero, List.set_cons_succ]
          refine lin_take (v := ?_) (by kernel_rfl) (by kernel_rfl) (fun _ _ _ h => h) (Or.inl ⟨by rfl, ?_⟩) (by assumption) ?_; (rotate_left; (intro wS hSw; (try dsimp only at hSw); go_simp; (try with_reducible rfl)); rotate_left); simp only [Act.put, List.setIfInBounds_toArray, List.set_cons_zero, List.set_cons_succ]
          refine lin_take (v := ?_) (by kernel_rfl) (by kernel_rfl) (fun _ _ _ h => h) (Or.inl ⟨by rfl, ?_⟩) (by assumption) ?_; (rotate_left; (intro wS hSw; (try dsimp only at hSw); go_simp; (try with_reducible rfl)); rotate_left); simp only [Act.put, List.setIfInBounds_toArray, List.set_cons_zero, List.set_cons_succ]
          refine lin_rot ?_; simp only [List.cons_append, List.nil_append]
          refine lin_take (v := ?_) (by kernel_rfl) (by kernel_rfl) (fun _ _ _ h => h) (Or.inl ⟨by rfl, ?_⟩) (by assumption) ?_; (rotate_left; (intro wS hSw; (try dsimp only at hSw); go_simp; (try with_reducible rfl)); rotate_left); simp only [Act.put, List.setIfInBounds_toArray, List.set_cons_zero, List.set_cons_succ]
          refine lin_take (v := ?_) (by kernel_rfl) (by kernel_rfl) (fun _ _ _ h => h) (Or.inl ⟨by rfl, ?_⟩) (by assumption) ?_; (rotate_left; (intro wS hSw; (try dsimp only at hSw); go_simp; (try with_reducible rfl)); rotate_left); simp only [Act.put, List.setIfInBounds_toArray, List.set_cons_zero, List.set_cons_succ]
          refine lin_take (v := ?_) (by kernel_rfl) (by kernel_rfl) (fun _ _ _ h => h) (Or.inl ⟨by rfl, ?_⟩) (by assumption) ?_; (rotate_left; (intro wS hSw; (try dsimp only at hSw); go_simp; (try with_reducible rfl)); rotate_left); simp only [Act.put, List.setIfInBounds_toArray, List.set_cons_zero, List.set_cons_succ]
          refine lin_take (v := ?_) (by kernel_rfl) (by kernel_rfl) (fun _ _ _ h => h) (Or.inl ⟨by rfl, ?_⟩) (by assumption) ?_; (rotate_left; (intro wS hSw; (try dsimp only at hSw); go_simp; (try with_reducible rfl)); rotate_left); simp only [Act.put, List.setIfInBounds_toArray, List.set_cons_zero, List.set_cons_succ]
          refine lin_take (v := ?_) (by kernel_rfl) (by kernel_rfl) (fun _ _ _ h => h) (Or.inl ⟨by rfl, ?_⟩) (by assumption) ?_; (rotate_left; (intro wS hSw; (try dsimp only at hSw); go_simp; (try with_reducible rfl)); rotate_left); simp only [Act.put, List.setIfInBounds_toArray, List.set_cons_zero, List.set_cons_succ]
          refine lin_take (v := ?_) (by kernel_rfl) (by kernel_rfl) (fun _ _ _ h => h) (Or.inl ⟨by rfl, ?_⟩) (by assumption) ?_; (rotate_left; (intro wS hSw; (try dsimp only at hSw); go_simp; (try with_reducible rfl)); rotate_left); simp only [Act.put, List.setIfInBounds_toArray, List.set_cons_zero, List.set_cons_succ]
          refine lin_take (v := ?_) (by kernel_rfl) (by kernel_rfl) (fun _ _ _ h => h) (Or.inl ⟨by rfl, ?_⟩) (by assumption) ?_; (rotate_left; (intro wS hSw; (try dsimp only at hSw); go_simp; (try with_reducible rfl)); rotate_left); simp only [Act.put, List.setIfInBounds_toArray, List.set_cons_zero, List.set_cons_succ]
          refine lin_take (v := ?_) (by kernel_rfl) (by kernel_rfl) (fun _ _ _ h => h) (Or.inl ⟨by rfl, ?_⟩) (by assumption) ?_; (rotate_left; (intro wS hSw; (try dsimp only at hSw); go_simp; (try with_reducible rfl)); rotate_left); simp only [Act.put, List.setIfInBounds_toArray, List.set_cons_zero, List.set_cons_succ]
          refine lin_take (v := ?_) (by kernel_rfl) (by kernel_rfl) (fun _ _ _ h => h) (Or.inl ⟨by rfl, ?_⟩) (by assumption) ?_; (rotate_left; (intro wS hSw; (try dsimp only at hSw); go_simp; (try with_reducible rfl)); rotate_left); simp only [Act.put, List.setIfInBounds_toArray, List.set_cons_zero, List.set_cons_succ]
          refine lin_rot ?_; simp only [List.cons_append, List.nil_append]
          refine lin_rot ?_; simp only [List.cons_append, List.nil_append]
          refine lin_rot ?_; simp only [List.cons_append, List.nil_append]
          refine lin_rot ?_; simp only [List.cons_append, List.nil_append]
          refine lin_rot ?_; simp only [List.cons_append, List.nil_append]
          refine lin_rot ?_; simp only [List.cons_append, List.nil_append]
          refine lin_rot ?_; simp only [List.cons_append, List.nil_append]
          refine lin_rot ?_; simp only [List.cons_append, List.nil_append]
          refine lin_rot ?_; simp only [List.cons_append, List.nil_append]
          refine lin_rot ?_; simp only [List.cons_append, List.nil_append]
          refine lin_rot ?_; simp only [List.cons_append, List.nil_append]
          refine lin_rot ?_; simp only [List.cons_append, List.nil_append]
          refine lin_sole (by kernel_rfl) (fun K hK => ?_)
          go_simp
          refine (HL.out _ hA6).mono ?_
          rintro e w7 ⟨rfl, rfl⟩
          refine hK.out _ _ ?_ (fun hHeld => ?_)
          · exact hS6
          try simp only [Act.put, List.setIfInBounds_toArray, List.set_cons_zero, List.set_cons_succ]
          refine lin_sole (by kernel_rfl) (fun K hK => ?_)
          go_simp
          refine (HS.out _ hA6).mono ?_
          rintro e w7 ⟨rfl, rfl⟩
          refine hK.out _ _ ?_ (fun hHeld => ?_)
          · exact hS6
          try simp only [Act.put, List.setIfInBounds_toArray, List.set_cons_zero, List.set_cons_succ]
          refine lin_take (v := ?_) (by kernel_rfl) (by kernel_rfl) (fun _ _ _ h => h) (Or.inl ⟨by rfl, ?_⟩) (by assumption) ?_; (rotate_left; (intro wS hSw; (try dsimp only at hSw); go_simp; (try with_reducible rfl)); rotate_left); simp only [Act.put, List.setIfInBounds_toArray, List.set_cons_zero, List.set_cons_succ]
          refine lin_take (v := ?_) (by kernel_rfl) (by kernel_rfl) (fun _ _ _ h => h) (Or.inl ⟨by rfl, ?_⟩) (by assumption) ?_; (rotate_left; (intro wS hSw; (try dsimp only at hSw); go_simp; (try with_reducible rfl)); rotate_left); simp only [Act.put, List.setIfInBounds_toArray, List.set_cons_zero, List.set_cons_succ]
          refine lin_take (v := ?_) (by kernel_rfl) (by kernel_rfl) (fun _ _ _ h => h) (Or.inl ⟨by rfl, ?_⟩) (by assumption) ?_; (rotate_left; (intro wS hSw; (try dsimp only at hSw); go_simp; (try with_reducible rfl)); rotate_left); simp only [Act.put, List.setIfInBounds_toArray, List.set_cons_zero, List.set_cons_succ]
          refine lin_take (v := ?_) (by kernel_rfl) (by kernel_rfl) (fun _ _ _ h => h) (Or.inl ⟨by rfl, ?_⟩) (by assumption) ?_; (rotate_left; (intro wS hSw; (try dsimp only at hSw); go_simp; (try with_reducible rfl)); rotate_left); simp only [Act.put, List.setIfInBounds_toArray, List.set_cons_zero, List.set_cons_succ]
          refine lin_take (v := ?_) (by kernel_rfl) (by kernel_rfl) (fun _ _ _ h => h) (Or.inl ⟨by rfl, ?_⟩) (by assumption) ?_; (rotate_left; (intro wS hSw; (try dsimp only at hSw); go_simp; (try with_reducible rfl)); rotate_left); simp only [Act.put, List.setIfInBounds_toArray, List.set_cons_zero, List.set_cons_succ]
          refine lin_take (v := ?_) (by kernel_rfl) (by kernel_rfl) (fun _ _ _ h => h) (Or.inl ⟨by rfl, ?_⟩) (by assumption) ?_; (rotate_left; (intro wS hSw; (try dsimp only at hSw); go_simp; (try with_reducible rfl)); rotate_left); simp only [Act.put, List.setIfInBounds_toArray, List.set_cons_zero, List.set_cons_succ]
          refine lin_take (v := ?_) (by kernel_rfl) (by kernel_rfl) (fun _ _ _ h => h) (Or.inl ⟨by rfl, ?_⟩) (by assumption) ?_; (rotate_left; (intro wS hSw; (try dsimp only at hSw); go_simp; (try with_reducible rfl)); rotate_left); simp only [Act.put, List.setIfInBounds_toArray, List.set_cons_zero, List.set_cons_succ]
          refine lin_take (v := ?_) (by kernel_rfl) (by kernel_rfl) (fun _ _ _ h => h) (Or.inl ⟨by rfl, ?_⟩) (by assumption) ?_; (rotate_left; (intro wS hSw; (try dsimp only at hSw); go_simp; (try with_reducible rfl)); rotate_left); simp only [Act.put, List.setIfInBounds_toArray, List.set_cons_zero, List.set_cons_succ]
          refine lin_take (v := ?_) (by kernel_rfl) (by kernel_rfl) (fun _ _ _ h => h) (Or.inl ⟨by rfl, ?_⟩) (by assumption) ?_; (rotate_left; (intro wS hSw; (try dsimp only at hSw); go_simp; (try with_reducible rfl)); rotate_left); simp only [Act.put, List.setIfInBounds_toArray, List.set_cons_zero, List.set_cons_succ]
          refine lin_sole (by kernel_rfl) (fun K hK => ?_)
          go_simp
          refine (held_none _ _).mono ?_
          rintro e w7 ⟨rfl, rfl⟩
          refine hK.out _ _ ?_ (fun hHeld => ?_)
          · exact hS6
          try simp only [Act.put, List.setIfInBounds_toArray, List.set_cons_zero, List.set_cons_succ]
          refine lin_take (v := ?_) (by kernel_rfl) (by kernel_rfl) (fun _ _ _ h => h) (Or.inl ⟨by rfl, ?_⟩) (by assumption) ?_; (rotate_left; (intro wS hSw; (try dsimp only at hSw); go_simp; (try with_reducible rfl)); rotate_left); simp only [Act.put, List.setIfInBounds_toArray, List.set_cons_zero, List.set_cons_succ]
          refine lin_done (by kernel_rfl) ?_
          go_wp2_with fail
          go_roundw
          case rel => exact ⟨k + 1, fr2, hs2, bs2, tk2, pk2, by omega, by have := hfk2.out; omega, by go_num, hI2, hT2, ⟨rbv, _, hA6⟩⟩
          case measure => simp [intOf]; omega
      · obtain ⟨t0, ht0⟩ : ∃ t0, heldB hs nn = t0 := ⟨_, rfl⟩
        cases t0 with
        | true =>
          obtain ⟨i, rfl, i1, i2, i3⟩ := heldB_nat ht0
          obtain ⟨hI2, _, _⟩ := hI.out.give ht0
          have hT2 := hT.out.give i2 i3
          have hfk2 := Lib.hid (show fr ≤ k + 1 by omega)
          obtain ⟨GA, GR⟩ := duo_give (w0 := w) (ga := hb + 1) (hb := hb) (gr := gr) (pk := pk) hI.out hT.out hNl ht0
          obtain ⟨fr2, rfl⟩ : ∃ fr2, fr2 = fr := ⟨_, rfl⟩
          obtain ⟨pk2, rfl⟩ : ∃ pk2, pk2 = pk := ⟨_, rfl⟩
          obtain ⟨hs2, hhs⟩ : ∃ hs2, hs.set i false = hs2 := ⟨_, rfl⟩
          obtain ⟨tk2, htk⟩ : ∃ tk2, without tk (i : Int) = tk2 := ⟨_, rfl⟩
          obtain ⟨bs2, hbs⟩ : ∃ bs2, bs ++ [(i : Int)] = bs2 := ⟨_, rfl⟩
          rw [hhs, hbs] at GA hI2
          rw [hhs, htk, hbs] at GR
          rw [hhs, htk] at hT2
          replace GA := Lib.hid GA
          replace GR := Lib.hid GR
          replace hI2 := Lib.hid hI2
          replace hT2 := Lib.hid hT2
          obtain ⟨nn, hnn⟩ : ∃ nn : Int, nn = (i : Int) := ⟨_, rfl⟩
          rw [← hnn] at z1 x1 GA GR
          clear ht0 hhs htk hbs i1 i2 i3 hnn
          go_wp2_with fail
          have hS16 : (fun w' : World => w'.cell? ⟨g2, off + k * 2 + 1, none⟩ = some (.int .i64 nn)) wr.drew := z1
          clear z0 z1
          refine lin_start (S := (fun w' : World => w'.cell? ⟨g2, off + k * 2 + 1, none⟩ = some (.int .i64 nn))) rfl 24 rfl hS16 ?_
          simp only [numbered, Nat.zero_add, Nat.reduceAdd]
          refine lin_take (v := ?_) (by kernel_rfl) (by kernel_rfl) (fun _ _ _ h => h) (Or.inl ⟨by rfl, ?_⟩) (by assumption) ?_; (rotate_left; (intro wS hSw; (try dsimp only at hSw); go_simp; (try with_reducible rfl)); rotate_left); simp only [Act.put, List.setIfInBounds_toArray, List.set_cons_zero, List.set_cons_succ]
          refine lin_take (v := ?_) (by kernel_rfl) (by kernel_rfl) (fun _ _ _ h => h) (Or.inl ⟨by rfl, ?_⟩) (by assumption) ?_; (rotate_left; (intro wS hSw; (try dsimp only at hSw); go_simp; (try with_reducible rfl)); rotate_left); simp only [Act.put, List.setIfInBounds_toArray, List.set_cons_zero, List.set_cons_succ]
          refine lin_take (v := ?_) (by kernel_rfl) (by kernel_rfl) (fun _ _ _ h => h) (Or.inl ⟨by rfl, ?_⟩) (by assumption) ?_; (rotate_left; (intro wS hSw; (try dsimp only at hSw); go_simp; (try with_reducible rfl)); rotate_left); simp only [Act.put, List.setIfInBounds_toArray, List.set_cons_zero, List.set_cons_succ]
          refine lin_take (v := ?_) (by kernel_rfl) (by kernel_rfl) (fun _ _ _ h => h) (Or.inl ⟨by rfl, ?_⟩) (by assumption) ?_; (rotate_left; (intro wS hSw; (try dsimp only at hSw); go_simp; (try with_reducible rfl)); rotate_left); simp only [Act.put, List.setIfInBounds_toArray, List.set_cons_zero, List.set_cons_succ]
          refine lin_take (v := ?_) (by kernel_rfl) (by kernel_rfl) (fun _ _ _ h => h) (Or.inl ⟨by rfl, ?_⟩) (by assumption) ?_; (rotate_left; (intro wS hSw; (try dsimp only at hSw); go_simp; (try with_reducible rfl)); rotate_left); simp only [Act.put, List.setIfInBounds_toArray, List.set_cons_zero, List.set_cons_succ]
          refine lin_take (v := ?_) (by kernel_rfl) (by kernel_rfl) (fun _ _ _ h => h) (Or.inl ⟨by rfl, ?_⟩) (by assumption) ?_; (rotate_left; (intro wS hSw; (try dsimp only at hSw); go_simp; (try with_reducible rfl)); rotate_left); simp only [Act.put, List.setIfInBounds_toArray, List.set_cons_zero, List.set_cons_succ]
          refine lin_rot ?_; simp only [List.cons_append, List.nil_append]
          refine lin_take (v := ?_) (by kernel_rfl) (by kernel_rfl) (fun _ _ _ h => h) (Or.inl ⟨by rfl, ?_⟩) (by assumption) ?_; (rotate_left; (intro wS hSw; (try dsimp only at hSw); go_simp; (try with_reducible rfl)); rotate_left); simp only [Act.put, List.setIfInBounds_toArray, List.set_cons_zero, List.set_cons_succ]
          refine lin_take (v := ?_) (by kernel_rfl) (by kernel_rfl) (fun _ _ _ h => h) (Or.inl ⟨by rfl, ?_⟩) (by assumption) ?_; (rotate_left; (intro wS hSw; (try dsimp only at hSw); go_simp; (try with_reducible rfl)); rotate_left); simp only [Act.put, List.setIfInBounds_toArray, List.set_cons_zero, List.set_cons_succ]
          refine lin_take (v := ?_) (by kernel_rfl) (by kernel_rfl) (fun _ _ _ h => h) (Or.inl ⟨by rfl, ?_⟩) (by assumption) ?_; (rotate_left; (intro wS hSw; (try dsimp only at hSw); go_simp; (try with_reducible rfl)); rotate_left); simp only [Act.put, List.setIfInBounds_toArray, List.set_cons_zero, List.set_cons_succ]
          refine lin_take (v := ?_) (by kernel_rfl) (by kernel_rfl) (fun _ _ _ h => h) (Or.inl ⟨by rfl, ?_⟩) (by assumption) ?_; (rotate_left; (intro wS hSw; (try dsimp only at hSw); go_simp; (try with_reducible rfl)); rotate_left); simp only [Act.put, List.setIfInBounds_toArray, List.set_cons_zero, List.set_cons_succ]
          refine lin_take (v := ?_) (by kernel_rfl) (by kernel_rfl) (fun _ _ _ h => h) (Or.inl ⟨by rfl, ?_⟩) (by assumption) ?_; (rotate_left; (intro wS hSw; (try dsimp only at hSw); go_simp; (try with_reducible rfl)); rotate_left); simp only [Act.put, List.setIfInBounds_toArray, List.set_cons_zero, List.set_cons_succ]
          refine lin_take (v := ?_) (by kernel_rfl) (by kernel_rfl) (fun _ _ _ h => h) (Or.inl ⟨by rfl, ?_⟩) (by assumption) ?_; (rotate_left; (intro wS hSw; (try dsimp only at hSw); go_simp; (try with_reducible rfl)); rotate_left); simp only [Act.put, List.setIfInBounds_toArray, List.set_cons_zero, List.set_cons_succ]
          refine lin_rot ?_; simp only [List.cons_append, List.nil_append]
          refine lin_rot ?_; simp only [List.cons_append, List.nil_append]
          refine lin_rot ?_; simp only [List.cons_append, List.nil_append]
          refine lin_rot ?_; simp only [List.cons_append, List.nil_append]
          refine lin_rot ?_; simp only [List.cons_append, List.nil_append]
          refine lin_rot ?_; simp only [List.cons_append, List.nil_append]
          refine lin_rot ?_; simp only [List.cons_append, List.nil_append]
          refine lin_rot ?_; simp only [List.cons_append, List.nil_append]
          refine lin_rot ?_; simp only [List.cons_append, List.nil_append]
          refine lin_rot ?_; simp only [List.cons_append, List.nil_append]
          refine lin_rot ?_; simp only [List.cons_append, List.nil_append]
          refine lin_sole (by kernel_rfl) (fun K hK => ?_)
          go_simp
          refine (GA.out _ (hO.drew1)).mono ?_
          rintro e w5 ⟨rfl, hD5⟩
          refine hK.out _ _ ?_ (fun hHeld => ?_)
          · exact hD5.old x1.out
          try simp only [Act.put, List.setIfInBounds_toArray, List.set_cons_zero, List.set_cons_succ]
          refine lin_sole (by kernel_rfl) (fun K hK => ?_)
          go_simp
          refine (GR.out _ hD5).mono ?_
          rintro e w6 ⟨rfl, hD6⟩
          refine hK.out _ _ ?_ (fun hHeld => ?_)
          · exact hD6.old x1.out
          try simp only [Act.put, List.setIfInBounds_toArray, List.set_cons_zero, List.set_cons_succ]
          refine lin_take (v := ?_) (by kernel_rfl) (by kernel_rfl) (fun _ _ _ h => h) (Or.inl ⟨by rfl, ?_⟩) (by assumption) ?_; (rotate_left; (intro wS hSw; (try dsimp only at hSw); go_simp; (try with_reducible rfl)); rotate_left); simp only [Act.put, List.setIfInBounds_toArray, List.set_cons_zero, List.set_cons_succ]
          refine lin_take (v := ?_) (by kernel_rfl) (by kernel_rfl) (fun _ _ _ h => h) (Or.inl ⟨by rfl, ?_⟩) (by assumption) ?_; (rotate_left; (intro wS hSw; (try dsimp only at hSw); go_simp; (try with_reducible rfl)); rotate_left); simp only [Act.put, List.setIfInBounds_toArray, List.set_cons_zero, List.set_cons_succ]
          refine lin_take (v := ?_) (by kernel_rfl) (by kernel_rfl) (fun _ _ _ h => h) (Or.inl ⟨by rfl, ?_⟩) (by assumption) ?_; (rotate_left; (intro wS hSw; (try dsimp only at hSw); go_simp; (try with_reducible rfl)); rotate_left); simp only [Act.put, List.setIfInBounds_toArray, List.set_cons_zero, List.set_cons_succ]
          refine lin_take (v := ?_) (by kernel_rfl) (by kernel_rfl) (fun _ _ _ h => h) (Or.inl ⟨by rfl, ?_⟩) (by assumption) ?_; (rotate_left; (intro wS hSw; (try dsimp only at hSw); go_simp; (try with_reducible rfl)); rotate_left); simp only [Act.put, List.setIfInBounds_toArray, List.set_cons_zero, List.set_cons_succ]
          refine lin_take (v := ?_) (by kernel_rfl) (by kernel_rfl) (fun _ _ _ h => h) (Or.inl ⟨by rfl, ?_⟩) (by assumption) ?_; (rotate_left; (intro wS hSw; (try dsimp only at hSw); go_simp; (try with_reducible rfl)); rotate_left); simp only [Act.put, List.setIfInBounds_toArray, List.set_cons_zero, List.set_cons_succ]
          refine lin_take (v := ?_) (by kernel_rfl) (by kernel_rfl) (fun _ _ _ h => h) (Or.inl ⟨by rfl, ?_⟩) (by assumption) ?_; (rotate_left; (intro wS hSw; (try dsimp only at hSw); go_simp; (try with_reducible rfl)); rotate_left); simp only [Act.put, List.setIfInBounds_toArray, List.set_cons_zero, List.set_cons_succ]
          refine lin_take (v := ?_) (by kernel_rfl) (by kernel_rfl) (fun _ _ _ h => h) (Or.inl ⟨by rfl, ?_⟩) (by assumption) ?_; (rotate_left; (intro wS hSw; (try dsimp only at hSw); go_simp; (try with_reducible rfl)); rotate_left); simp only [Act.put, List.setIfInBounds_toArray, List.set_cons_zero, List.set_cons_succ]
          refine lin_take (v := ?_) (by kernel_rfl) (by kernel_rfl) (fun _ _ _ h => h) (Or.inl ⟨by rfl, ?_⟩) (by assumption) ?_; (rotate_left; (intro wS hSw; (try dsimp only at hSw); go_simp; (try with_reducible rfl)); rotate_left); simp only [Act.put, List.setIfInBounds_toArray, List.set_cons_zero, List.set_cons_succ]
          refine lin_sole (by kernel_rfl) (fun K hK => ?_)
          go_simp
          refine (give_none _ _).mono ?_
          rintro e w7 ⟨rfl, rfl⟩
          refine hK.out _ _ ?_ (fun hHeld => ?_)
          · exact hD6.old x1.out
          try simp only [Act.put, List.setIfInBounds_toArray, List.set_cons_zero, List.set_cons_succ]
          refine lin_take (v := ?_) (by kernel_rfl) (by kernel_rfl) (fun _ _ _ h => h) (Or.inl ⟨by rfl, ?_⟩) (by assumption) ?_; (rotate_left; (intro wS hSw; (try dsimp only at hSw); go_simp; (try with_reducible rfl)); rotate_left); simp only [Act.put, List.setIfInBounds_toArray, List.set_cons_zero, List.set_cons_succ]
          refine lin_done (by kernel_rfl) ?_
          go_wp2_with fail
          clear GA GR hS16 hHeld
          have hD := hD6
          clear hD5 hD6 hO hI hT
          have hlen2 := hI2.out.len
          have hcn := cnt_count hs2
          have hTl := hT2.out.len
          obtain ⟨t, ht⟩ : ∃ t, heldB hs2 nn = t := ⟨_, rfl⟩
          have hth := hT2.out.has hI2.out.h0 nn
          rw [ht] at hth
          obtain ⟨rbv, rtv, hA0⟩ := hD
          obtain ⟨rto, rtc, rfl⟩ : ∃ rto rtc, rtv = .slice rto tk2.length rtc := hA0.elim fun bvx hOx => by obtain ⟨a, b, c, _⟩ := (hOx.row 5 rfl).shape; exact ⟨a, b, c⟩
          have U := Lib.hid (fun (w5 : World) (h : AOwn w w5 (hb + 1) hb hs2 bs2 fr2 pk2 (refL gr N rbv bs2 (.slice rto tk2.length rtc) tk2 fr2 pk2 [])) => show Calls Try.prog 36 #[.pointer (some ⟨hb + 1, 0, none⟩)] w5 fun e w' => e = .returned (.int .i64 tk2.length) ∧ AOwn w w' (hb + 1) hb hs2 bs2 fr2 pk2 (refL gr N rbv bs2 (.slice rto tk2.length rtc) tk2 fr2 pk2 []) by have q := used_own h (by omega); rwa [hcn, ← hTl] at q)
          have PK := Lib.hid (fun (w5 : World) (h : AOwn w w5 (hb + 1) hb hs2 bs2 fr2 pk2 (refL gr N rbv bs2 (.slice rto tk2.length rtc) tk2 fr2 pk2 [])) => peak_own h)
          have HL := Lib.hid (fun (w5 : World) (h : AOwn w w5 (hb + 1) hb hs2 bs2 fr2 pk2 (refL gr N rbv bs2 (.slice rto tk2.length rtc) tk2 fr2 pk2 [])) => held_own h (by omega) nn t ht)
          have HS := Lib.hid (fun (w5 : World) (h : AOwn w w5 (hb + 1) hb hs2 bs2 fr2 pk2 (refL gr N rbv bs2 (.slice rto tk2.length rtc) tk2 fr2 pk2 [])) => has_any (h.elim fun bvx hOx => Lies.of_row (hOx.row 5 rfl) rfl) nn t hth)
          have KS := Lib.hid (fun (w5 : World) (h : AOwn w w5 (hb + 1) hb hs2 bs2 fr2 pk2 (refL gr N rbv bs2 (.slice rto tk2.length rtc) tk2 fr2 pk2 [])) => show (fun w' : World => w'.cell? ⟨gr, 2, none⟩ = some (.slice rto tk2.length rtc) ∧ w'.cell? ⟨gr, 4, none⟩ = some (.int .i64 pk2) ∧ w'.cell? ⟨g2, off + k * 2 + 1, none⟩ = some (.int .i64 nn)) w5 from ⟨h.elim fun bvx hOx => (hOx.cget 3 rfl 2).1, h.elim fun bvx hOx => (hOx.cget 3 rfl 4).1, h.old x1.out⟩)
          clear hlen2 hcn hTl ht hth
          have hA := hA0.drewN 1
          have hS0 := KS.out _ hA
          dsimp only at hS0
          refine lin_start (S := (fun w' : World => w'.cell? ⟨gr, 2, none⟩ = some (.slice rto tk2.length rtc) ∧ w'.cell? ⟨gr, 4, none⟩ = some (.int .i64 pk2) ∧ w'.cell? ⟨g2, off + k * 2 + 1, none⟩ = some (.int .i64 nn))) rfl 46 rfl hS0 ?_
          simp only [numbered, Nat.zero_add, Nat.reduceAdd]
          refine lin_take (v := ?_) (by kernel_rfl) (by kernel_rfl) (fun _ _ _ h => h) (Or.inl ⟨by rfl, ?_⟩) (by assumption) ?_; (rotate_left; (intro wS hSw; (try dsimp only at hSw); go_simp; (try with_reducible rfl)); rotate_left); simp only [Act.put, List.setIfInBounds_toArray, List.set_cons_zero, List.set_cons_succ]
          refine lin_rot ?_; simp only [List.cons_append, List.nil_append]
          refine lin_take (v := ?_) (by kernel_rfl) (by kernel_rfl) (fun _ _ _ h => h) (Or.inl ⟨by rfl, ?_⟩) (by assumption) ?_; (rotate_left; (intro wS hSw; (try dsimp only at hSw); go_simp; (try with_reducible rfl)); rotate_left); simp only [Act.put, List.setIfInBounds_toArray, List.set_cons_zero, List.set_cons_succ]
          refine lin_take (v := ?_) (by kernel_rfl) (by kernel_rfl) (fun _ _ _ h => h) (Or.inl ⟨by rfl, ?_⟩) (by assumption) ?_; (rotate_left; (intro wS hSw; (try dsimp only at hSw); go_simp; (try with_reducible rfl)); rotate_left); simp only [Act.put, List.setIfInBounds_toArray, List.set_cons_zero, List.set_cons_succ]
          refine lin_take (v := ?_) (by kernel_rfl) (by kernel_rfl) (fun _ _ _ h => h) (Or.inl ⟨by rfl, ?_⟩) (by assumption) ?_; (rotate_left; (intro wS hSw; (try dsimp only at hSw); go_simp; (try with_reducible rfl)); rotate_left); simp only [Act.put, List.setIfInBounds_toArray, List.set_cons_zero, List.set_cons_succ]
          refine lin_take (v := ?_) (by kernel_rfl) (by kernel_rfl) (fun _ _ _ h => h) (Or.inl ⟨by rfl, ?_⟩) (by assumption) ?_; (rotate_left; (intro wS hSw; (try dsimp only at hSw); go_simp; (try with_reducible rfl)); rotate_left); simp only [Act.put, List.setIfInBounds_toArray, List.set_cons_zero, List.set_cons_succ]
          refine lin_take (v := ?_) (by kernel_rfl) (by kernel_rfl) (fun _ _ _ h => h) (Or.inl ⟨by rfl, ?_⟩) (by assumption) ?_; (rotate_left; (intro wS hSw; (try dsimp only at hSw); go_simp; (try with_reducible rfl)); rotate_left); simp only [Act.put, List.setIfInBounds_toArray, List.set_cons_zero, List.set_cons_succ]
          refine lin_rot ?_; simp only [List.cons_append, List.nil_append]
          refine lin_rot ?_; simp only [List.cons_append, List.nil_append]
          refine lin_rot ?_; simp only [List.cons_append, List.nil_append]
          refine lin_rot ?_; simp only [List.cons_append, List.nil_append]
          refine lin_rot ?_; simp only [List.cons_append, List.nil_append]
          refine lin_rot ?_; simp only [List.cons_append, List.nil_append]
          refine lin_rot ?_; simp only [List.cons_append, List.nil_append]
          refine lin_rot ?_; simp only [List.cons_append, List.nil_append]
          refine lin_rot ?_; simp only [List.cons_append, List.nil_append]
          refine lin_rot ?_; simp only [List.cons_append, List.nil_append]
          refine lin_rot ?_; simp only [List.cons_append, List.nil_append]
          refine lin_rot ?_; simp only [List.cons_append, List.nil_append]
          refine lin_rot ?_; simp only [List.cons_append, List.nil_append]
          refine lin_rot ?_; simp only [List.cons_append, List.nil_append]
          refine lin_rot ?_; simp only [List.cons_append, List.nil_append]
          refine lin_rot ?_; simp only [List.cons_append, List.nil_append]
          refine lin_rot ?_; simp only [List.cons_append, List.nil_append]
          refine lin_rot ?_; simp only [List.cons_append, List.nil_append]
          refine lin_rot ?_; simp only [List.cons_append, List.nil_append]
          refine lin_rot ?_; simp only [List.cons_append, List.nil_append]
          refine lin_rot ?_; simp only [List.cons_append, List.nil_append]
          refine lin_rot ?_; simp only [List.cons_append, List.nil_append]
          refine lin_rot ?_; simp only [List.cons_append, List.nil_append]
          refine lin_rot ?_; simp only [List.cons_append, List.nil_append]
          refine lin_rot ?_; simp only [List.cons_append, List.nil_append]
          refine lin_rot ?_; simp only [List.cons_append, List.nil_append]
          refine lin_rot ?_; simp only [List.cons_append, List.nil_append]
          refine lin_rot ?_; simp only [List.cons_append, List.nil_append]
          refine lin_rot ?_; simp only [List.cons_append, List.nil_append]
          refine lin_rot ?_; simp only [List.cons_append, List.nil_append]
          refine lin_rot ?_; simp only [List.cons_append, List.nil_append]
          refine lin_rot ?_; simp only [List.cons_append, List.nil_append]
          refine lin_rot ?_; simp only [List.cons_append, List.nil_append]
          refine lin_rot ?_; simp only [List.cons_append, List.nil_append]
          refine lin_rot ?_; simp only [List.cons_append, List.nil_append]
          refine lin_rot ?_; simp only [List.cons_append, List.nil_append]
          refine lin_rot ?_; simp only [List.cons_append, List.nil_append]
          refine lin_rot ?_; simp only [List.cons_append, List.nil_append]
          refine lin_rot ?_; simp only [List.cons_append, List.nil_append]
          refine lin_sole (by kernel_rfl) (fun K hK => ?_)
          go_simp
          refine (U.out _ hA).mono ?_
          rintro e w6 ⟨rfl, hA6⟩
          have hS6 := KS.out _ hA6
          refine hK.out _ _ ?_ (fun hHeld => ?_)
          · exact hS6
          try simp only [Act.put, List.setIfInBounds_toArray, List.set_cons_zero, List.set_cons_succ]
          refine lin_take (v := ?_) (by kernel_rfl) (by kernel_rfl) (fun _ _ _ h => h) (Or.inl ⟨by rfl, ?_⟩) (by assumption) ?_; (rotate_left; (intro wS hSw; (try dsimp only at hSw); go_simp; (try with_reducible rfl)); rotate_left); simp only [Act.put, List.setIfInBounds_toArray, List.set_cons_zero, List.set_cons_succ]
          refine lin_take (v := ?_) (by kernel_rfl) (by kernel_rfl) (fun _ _ _ h => h) (Or.inl ⟨by rfl, ?_⟩) (by assumption) ?_; (rotate_left; (intro wS hSw; (try dsimp only at hSw); go_simp; (try with_reducible rfl)); rotate_left); simp only [Act.put, List.setIfInBounds_toArray, List.set_cons_zero, List.set_cons_succ]
          refine lin_take (v := ?_) (by kernel_rfl) (by kernel_rfl) (fun _ _ _ h => h) (Or.inl ⟨by rfl, ?_⟩) (by assumption) ?_; (rotate_left; (intro wS hSw; (try dsimp only at hSw); go_simp; (try with_reducible rfl)); rotate_left); simp only [Act.put, List.setIfInBounds_toArray, List.set_cons_zero, List.set_cons_succ]
          refine lin_rot ?_; simp only [List.cons_append, List.nil_append]
          refine lin_take (v := ?_) (by kernel_rfl) (by kernel_rfl) (fun _ _ _ h => h) (Or.inl ⟨by rfl, ?_⟩) (by assumption) ?_; (rotate_left; (intro wS hSw; (try dsimp only at hSw); go_simp; (try with_reducible rfl)); rotate_left); simp only [Act.put, List.setIfInBounds_toArray, List.set_cons_zero, List.set_cons_succ]
          refine lin_take (v := ?_) (by kernel_rfl) (by kernel_rfl) (fun _ _ _ h => h) (Or.inl ⟨by rfl, ?_⟩) (by assumption) ?_; (rotate_left; (intro wS hSw; (try dsimp only at hSw); go_simp; (try with_reducible rfl)); rotate_left); simp only [Act.put, List.setIfInBounds_toArray, List.set_cons_zero, List.set_cons_succ]
          refine lin_take (v := ?_) (by kernel_rfl) (by kernel_rfl) (fun _ _ _ h => h) (Or.inl ⟨by rfl, ?_⟩) (by assumption) ?_; (rotate_left; (intro wS hSw; (try dsimp only at hSw); go_simp; (try with_reducible rfl)); rotate_left); simp only [Act.put, List.setIfInBounds_toArray, List.set_cons_zero, List.set_cons_succ]
          refine lin_take (v := ?_) (by kernel_rfl) (by kernel_rfl) (fun _ _ _ h => h) (Or.inl ⟨by rfl, ?_⟩) (by assumption) ?_; (rotate_left; (intro wS hSw; (try dsimp only at hSw); go_simp; (try with_reducible rfl)); rotate_left); simp only [Act.put, List.setIfInBounds_toArray, List.set_cons_zero, List.set_cons_succ]
          refine lin_rot ?_; simp only [List.cons_append, List.nil_append]
          refine lin_rot ?_; simp only [List.cons_append, List.nil_append]
          refine lin_rot ?_; simp only [List.cons_append, List.nil_append]
          refine lin_rot ?_; simp only [List.cons_append, List.nil_append]
          refine lin_rot ?_; simp only [List.cons_append, List.nil_append]
          refine lin_rot ?_; simp only [List.cons_append, List.nil_append]
          refine lin_rot ?_; simp only [List.cons_append, List.nil_append]
          refine lin_rot ?_; simp only [List.cons_append, List.nil_append]
          refine lin_rot ?_; simp only [List.cons_append, List.nil_append]
          refine lin_rot ?_; simp only [List.cons_append, List.nil_append]
          refine lin_rot ?_; simp only [List.cons_append, List.nil_append]
          refine lin_rot ?_; simp only [List.cons_append, List.nil_append]
          refine lin_rot ?_; simp only [List.cons_append, List.nil_append]
          refine lin_rot ?_; simp only [List.cons_append, List.nil_append]
          refine lin_rot ?_; simp only [List.cons_append, List.nil_append]
          refine lin_rot ?_; simp only [List.cons_append, List.nil_append]
          refine lin_rot ?_; simp only [List.cons_append, List.nil_append]
          refine lin_rot ?_; simp only [List.cons_append, List.nil_append]
          refine lin_rot ?_; simp only [List.cons_append, List.nil_append]
          refine lin_rot ?_; simp only [List.cons_append, List.nil_append]
          refine lin_rot ?_; simp only [List.cons_append, List.nil_append]
          refine lin_rot ?_; simp only [List.cons_append, List.nil_append]
          refine lin_rot ?_; simp only [List.cons_append, List.nil_append]
          refine lin_rot ?_; simp only [List.cons_append, List.nil_append]
          refine lin_rot ?_; simp only [List.cons_append, List.nil_append]
          refine lin_rot ?_; simp only [List.cons_append, List.nil_append]
          refine lin_rot ?_; simp only [List.cons_append, List.nil_append]
          refine lin_rot ?_; simp only [List.cons_append, List.nil_append]
          refine lin_rot ?_; simp only [List.cons_append, List.nil_append]
          refine lin_rot ?_; simp only [List.cons_append, List.nil_append]
          refine lin_rot ?_; simp only [List.cons_append, List.nil_append]
          refine lin_sole (by kernel_rfl) (fun K hK => ?_)
          go_simp
          refine (PK.out _ hA6).mono ?_
          rintro e w7 ⟨rfl, rfl⟩
          refine hK.out _ _ ?_ (fun hHeld => ?_)
          · exact hS6
          try simp only [Act.put, List.setIfInBounds_toArray, List.set_cons_zero, List.set_cons_succ]
          refine lin_take (v := ?_) (by kernel_rfl) (by kernel_rfl) (fun _ _ _ h => h) (Or.inl ⟨by rfl, ?_⟩) (by assumption) ?_; (rotate_left; (intro wS hSw; (try dsimp only at hSw); go_simp; (try with_reducible rfl)); rotate_left); simp only [Act.put, List.setIfInBounds_toArray, List.set_cons_zero, List.set_cons_succ]
          refine lin_take (v := ?_) (by kernel_rfl) (by kernel_rfl) (fun _ _ _ h => h) (Or.inl ⟨by rfl, ?_⟩) (by assumption) ?_; (rotate_left; (intro wS hSw; (try dsimp only at hSw); go_simp; (try with_reducible rfl)); rotate_left); simp only [Act.put, List.setIfInBounds_toArray, List.set_cons_zero, List.set_cons_succ]
          refine lin_take (v := ?_) (by kernel_rfl) (by kernel_rfl) (fun _ _ _ h => h) (Or.inl ⟨by rfl, ?_⟩) (by assumption) ?_; (rotate_left; (intro wS hSw; (try dsimp only at hSw); go_simp; (try with_reducible rfl)); rotate_left); simp only [Act.put, List.setIfInBounds_toArray, List.set_cons_zero, List.set_cons_succ]
          refine lin_take (v := ?_) (by kernel_rfl) (by kernel_rfl) (fun _ _ _ h => h) (Or.inl ⟨by rfl, ?_⟩) (by assumption) ?_; (rotate_left; (intro wS hSw; (try dsimp only at hSw); go_simp; (try with_reducible rfl)); rotate_left); simp only [Act.put, List.setIfInBounds_toArray, List.set_cons_zero, List.set_cons_succ]
          refine lin_take (v := ?_) (by kernel_rfl) (by kernel_rfl) (fun _ _ _ h => h) (Or.inl ⟨by rfl, ?_⟩) (by assumption) ?_; (rotate_left; (intro wS hSw; (try dsimp only at hSw); go_simp; (try with_reducible rfl)); rotate_left); simp only [Act.put, List.setIfInBounds_toArray, List.set_cons_zero, List.set_cons_succ]
          refine lin_take (v := ?_) (by kernel_rfl) (by kernel_rfl) (fun _ _ _ h => h) (Or.inl ⟨by rfl, ?_⟩) (by assumption) ?_; (rotate_left; (intro wS hSw; (try dsimp only at hSw); go_simp; (try with_reducible rfl)); rotate_left); simp only [Act.put, List.setIfInBounds_toArray, List.set_cons_zero, List.set_cons_succ]
          refine lin_take (v := ?_) (by kernel_rfl) (by kernel_rfl) (fun _ _ _ h => h) (Or.inl ⟨by rfl, ?_⟩) (by assumption) ?_; (rotate_left; (intro wS hSw; (try dsimp only at hSw); go_simp; (try with_reducible rfl)); rotate_left); simp only [Act.put, List.setIfInBounds_toArray, List.set_cons_zero, List.set_cons_succ]
          refine lin_take (v := ?_) (by kernel_rfl) (by kernel_rfl) (fun _ _ _ h => h) (Or.inl ⟨by rfl, ?_⟩) (by assumption) ?_; (rotate_left; (intro wS hSw; (try dsimp only at hSw); go_simp; (try with_reducible rfl)); rotate_left); simp only [Act.put, List.setIfInBounds_toArray, List.set_cons_zero, List.set_cons_succ]
          refine lin_take (v := ?_) (by kernel_rfl) (by kernel_rfl) (fun _ _ _ h => h) (Or.inl ⟨by rfl, ?_⟩) (by assumption) ?_; (rotate_left; (intro wS hSw; (try dsimp only at hSw); go_simp; (try with_reducible rfl)); rotate_left); simp only [Act.put, List.setIfInBounds_toArray, List.set_cons_zero, List.set_cons_succ]
          refine lin_rot ?_; simp only [List.cons_append, List.nil_append]
          refine lin_take (v := ?_) (by kernel_rfl) (by kernel_rfl) (fun _ _ _ h => h) (Or.inl ⟨by rfl, ?_⟩) (by assumption) ?_; (rotate_left; (intro wS hSw; (try dsimp only at hSw); go_simp; (try with_reducible rfl)); rotate_left); simp only [Act.put, List.setIfInBounds_toArray, List.set_cons_zero, List.set_cons_succ]
          refine lin_take (v := ?_) (by kernel_rfl) (by kernel_rfl) (fun _ _ _ h => h) (Or.inl ⟨by rfl, ?_⟩) (by assumption) ?_; (rotate_left; (intro wS hSw; (try dsimp only at hSw); go_simp; (try with_reducible rfl)); rotate_left); simp only [Act.put, List.setIfInBounds_toArray, List.set_cons_zero, List.set_cons_succ]
          refine lin_take (v := ?_) (by kernel_rfl) (by kernel_rfl) (fun _ _ _ h => h) (Or.inl ⟨by rfl, ?_⟩) (by assumption) ?_; (rotate_left; (intro wS hSw; (try dsimp only at hSw); go_simp; (try with_reducible rfl)); rotate_left); simp only [Act.put, List.setIfInBounds_toArray, List.set_cons_zero, List.set_cons_succ]
          refine lin_take (v := ?_) (by kernel_rfl) (by kernel_rfl) (fun _ _ _ h => h) (Or.inl ⟨by rfl, ?_⟩) (by assumption) ?_; (rotate_left; (intro wS hSw; (try dsimp only at hSw); go_simp; (try with_reducible rfl)); rotate_left); simp only [Act.put, List.setIfInBounds_toArray, List.set_cons_zero, List.set_cons_succ]
          refine lin_take (v := ?_) (by kernel_rfl) (by kernel_rfl) (fun _ _ _ h => h) (Or.inl ⟨by rfl, ?_⟩) (by assumption) ?_; (rotate_left; (intro wS hSw; (try dsimp only at hSw); go_simp; (try with_reducible rfl)); rotate_left); simp only [Act.put, List.setIfInBounds_toArray, List.set_cons_zero, List.set_cons_succ]
          refine lin_take (v := ?_) (by kernel_rfl) (by kernel_rfl) (fun _ _ _ h => h) (Or.inl ⟨by rfl, ?_⟩) (by assumption) ?_; (rotate_left; (intro wS hSw; (try dsimp only at hSw); go_simp; (try with_reducible rfl)); rotate_left); simp only [Act.put, List.setIfInBounds_toArray, List.set_cons_zero, List.set_cons_succ]
          refine lin_take (v := ?_) (by kernel_rfl) (by kernel_rfl) (fun _ _ _ h => h) (Or.inl ⟨by rfl, ?_⟩) (by assumption) ?_; (rotate_left; (intro wS hSw; (try dsimp only at hSw); go_simp; (try with_reducible rfl)); rotate_left); simp only [Act.put, List.setIfInBounds_toArray, List.set_cons_zero, List.set_cons_succ]
          refine lin_take (v := ?_) (by kernel_rfl) (by kernel_rfl) (fun _ _ _ h => h) (Or.inl ⟨by rfl, ?_⟩) (by assumption) ?_; (rotate_left; (intro wS hSw; (try dsimp only at hSw); go_simp; (try with_reducible rfl)); rotate_left); simp only [Act.put, List.setIfInBounds_toArray, List.set_cons_zero, List.set_cons_succ]
          refine lin_take (v := ?_) (by kernel_rfl) (by kernel_rfl) (fun _ _ _ h => h) (Or.inl ⟨by rfl, ?_⟩) (by assumption) ?_; (rotate_left; (intro wS hSw; (try dsimp only at hSw); go_simp; (try with_reducible rfl)); rotate_left); simp only [Act.put, List.setIfInBounds_toArray, List.set_cons_zero, List.set_cons_succ]
          refine lin_rot ?_; simp only [List.cons_append, List.nil_append]
          refine lin_rot ?_; simp only [List.cons_append, List.nil_append]
          refine lin_rot ?_; simp only [List.cons_append, List.nil_append]
          refine lin_rot ?_; simp only [List.cons_append, List.nil_append]
          refine lin_rot ?_; simp only [List.cons_append, List.nil_append]
          refine lin_rot ?_; simp only [List.cons_append, List.nil_append]
          refine lin_rot ?_; simp only [List.cons_append, List.nil_append]
          refine lin_rot ?_; simp only [List.cons_append, List.nil_append]
          refine lin_rot ?_; simp only [List.cons_append, List.nil_append]
          refine lin_rot ?_; simp only [List.cons_append, List.nil_append]
          refine lin_rot ?_; simp only [List.cons_append, List.nil_append]
          refine lin_rot ?_; simp only [List.cons_append, List.nil_append]
          refine lin_sole (by kernel_rfl) (fun K hK => ?_)
          go_simp
          refine (HL.out _ hA6).mono ?_
          rintro e w7 ⟨rfl, rfl⟩
          refine hK.out _ _ ?_ (fun hHeld => ?_)
          · exact hS6
          try simp only [Act.put, List.setIfInBounds_toArray, List.set_cons_zero, List.set_cons_succ]
          refine lin_sole (by kernel_rfl) (fun K hK => ?_)
          go_simp
          refine (HS.out _ hA6).mono ?_
          rintro e w7 ⟨rfl, rfl⟩
          refine hK.out _ _ ?_ (fun hHeld => ?_)
          · exact hS6
          try simp only [Act.put, List.setIfInBounds_toArray, List.set_cons_zero, List.set_cons_succ]
          refine lin_take (v := ?_) (by kernel_rfl) (by kernel_rfl) (fun _ _ _ h => h) (Or.inl ⟨by rfl, ?_⟩) (by assumption) ?_; (rotate_left; (intro wS hSw; (try dsimp only at hSw); go_simp; (try with_reducible rfl)); rotate_left); simp only [Act.put, List.setIfInBounds_toArray, List.set_cons_zero, List.set_cons_succ]
          refine lin_take (v := ?_) (by kernel_rfl) (by kernel_rfl) (fun _ _ _ h => h) (Or.inl ⟨by rfl, ?_⟩) (by assumption) ?_; (rotate_left; (intro wS hSw; (try dsimp only at hSw); go_simp; (try with_reducible rfl)); rotate_left); simp only [Act.put, List.setIfInBounds_toArray, List.set_cons_zero, List.set_cons_succ]
          refine lin_take (v := ?_) (by kernel_rfl) (by kernel_rfl) (fun _ _ _ h => h) (Or.inl ⟨by rfl, ?_⟩) (by assumption) ?_; (rotate_left; (intro wS hSw; (try dsimp only at hSw); go_simp; (try with_reducible rfl)); rotate_left); simp only [Act.put, List.setIfInBounds_toArray, List.set_cons_zero, List.set_cons_succ]
          refine lin_take (v := ?_) (by kernel_rfl) (by kernel_rfl) (fun _ _ _ h => h) (Or.inl ⟨by rfl, ?_⟩) (by assumption) ?_; (rotate_left; (intro wS hSw; (try dsimp only at hSw); go_simp; (try with_reducible rfl)); rotate_left); simp only [Act.put, List.setIfInBounds_toArray, List.set_cons_zero, List.set_cons_succ]
          refine lin_take (v := ?_) (by kernel_rfl) (by kernel_rfl) (fun _ _ _ h => h) (Or.inl ⟨by rfl, ?_⟩) (by assumption) ?_; (rotate_left; (intro wS hSw; (try dsimp only at hSw); go_simp; (try with_reducible rfl)); rotate_left); simp only [Act.put, List.setIfInBounds_toArray, List.set_cons_zero, List.set_cons_succ]
          refine lin_take (v := ?_) (by kernel_rfl) (by kernel_rfl) (fun _ _ _ h => h) (Or.inl ⟨by rfl, ?_⟩) (by assumption) ?_; (rotate_left; (intro wS hSw; (try dsimp only at hSw); go_simp; (try with_reducible rfl)); rotate_left); simp only [Act.put, List.setIfInBounds_toArray, List.set_cons_zero, List.set_cons_succ]
          refine lin_take (v := ?_) (by kernel_rfl) (by kernel_rfl) (fun _ _ _ h => h) (Or.inl ⟨by rfl, ?_⟩) (by assumption) ?_; (rotate_left; (intro wS hSw; (try dsimp only at hSw); go_simp; (try with_reducible rfl)); rotate_left); simp only [Act.put, List.setIfInBounds_toArray, List.set_cons_zero, List.set_cons_succ]
          refine lin_take (v := ?_) (by kernel_rfl) (by kernel_rfl) (fun _ _ _ h => h) (Or.inl ⟨by rfl, ?_⟩) (by assumption) ?_; (rotate_left; (intro wS hSw; (try dsimp only at hSw); go_simp; (try with_reducible rfl)); rotate_left); simp only [Act.put, List.setIfInBounds_toArray, List.set_cons_zero, List.set_cons_succ]
          refine lin_take (v := ?_) (by kernel_rfl) (by kernel_rfl) (fun _ _ _ h => h) (Or.inl ⟨by rfl, ?_⟩) (by assumption) ?_; (rotate_left; (intro wS hSw; (try dsimp only at hSw); go_simp; (try with_reducible rfl)); rotate_left); simp only [Act.put, List.setIfInBounds_toArray, List.set_cons_zero, List.set_cons_succ]
          refine lin_sole (by kernel_rfl) (fun K hK => ?_)
          go_simp
          refine (held_none _ _).mono ?_
          rintro e w7 ⟨rfl, rfl⟩
          refine hK.out _ _ ?_ (fun hHeld => ?_)
          · exact hS6
          try simp only [Act.put, List.setIfInBounds_toArray, List.set_cons_zero, List.set_cons_succ]
          refine lin_take (v := ?_) (by kernel_rfl) (by kernel_rfl) (fun _ _ _ h => h) (Or.inl ⟨by rfl, ?_⟩) (by assumption) ?_; (rotate_left; (intro wS hSw; (try dsimp only at hSw); go_simp; (try with_reducible rfl)); rotate_left); simp only [Act.put, List.setIfInBounds_toArray, List.set_cons_zero, List.set_cons_succ]
          refine lin_done (by kernel_rfl) ?_
          go_wp2_with fail
          go_roundw
          case rel => exact ⟨k + 1, fr2, hs2, bs2, tk2, pk2, by omega, by have := hfk2.out; omega, by go_num, hI2, hT2, ⟨rbv, _, hA6⟩⟩
          case measure => simp [intOf]; omega
        | false =>
          obtain ⟨GA, GR⟩ := duo_giveno (w0 := w) (ga := hb + 1) (hb := hb) (gr := gr) (pk := pk) (fr := fr) hI.out hT.out hNl ht0
          replace GA := Lib.hid GA
          replace GR := Lib.hid GR
          clear ht0
          go_wp2_with fail
          have hS16 : (fun w' : World => w'.cell? ⟨g2, off + k * 2 + 1, none⟩ = some (.int .i64 nn)) wr.drew := z1
          clear z0 z1
          refine lin_start (S := (fun w' : World => w'.cell? ⟨g2, off + k * 2 + 1, none⟩ = some (.int .i64 nn))) rfl 24 rfl hS16 ?_
          simp only [numbered, Nat.zero_add, Nat.reduceAdd]
          refine lin_take (v := ?_) (by kernel_rfl) (by kernel_rfl) (fun _ _ _ h => h) (Or.inl ⟨by rfl, ?_⟩) (by assumption) ?_; (rotate_left; (intro wS hSw; (try dsimp only at hSw); go_simp; (try with_reducible rfl)); rotate_left); simp only [Act.put, List.setIfInBounds_toArray, List.set_cons_zero, List.set_cons_succ]
          refine lin_take (v := ?_) (by kernel_rfl) (by kernel_rfl) (fun _ _ _ h => h) (Or.inl ⟨by rfl, ?_⟩) (by assumption) ?_; (rotate_left; (intro wS hSw; (try dsimp only at hSw); go_simp; (try with_reducible rfl)); rotate_left); simp only [Act.put, List.setIfInBounds_toArray, List.set_cons_zero, List.set_cons_succ]
          refine lin_take (v := ?_) (by kernel_rfl) (by kernel_rfl) (fun _ _ _ h => h) (Or.inl ⟨by rfl, ?_⟩) (by assumption) ?_; (rotate_left; (intro wS hSw; (try dsimp only at hSw); go_simp; (try with_reducible rfl)); rotate_left); simp only [Act.put, List.setIfInBounds_toArray, List.set_cons_zero, List.set_cons_succ]
          refine lin_take (v := ?_) (by kernel_rfl) (by kernel_rfl) (fun _ _ _ h => h) (Or.inl ⟨by rfl, ?_⟩) (by assumption) ?_; (rotate_left; (intro wS hSw; (try dsimp only at hSw); go_simp; (try with_reducible rfl)); rotate_left); simp only [Act.put, List.setIfInBounds_toArray, List.set_cons_zero, List.set_cons_succ]
          refine lin_take (v := ?_) (by kernel_rfl) (by kernel_rfl) (fun _ _ _ h => h) (Or.inl ⟨by rfl, ?_⟩) (by assumption) ?_; (rotate_left; (intro wS hSw; (try dsimp only at hSw); go_simp; (try with_reducible rfl)); rotate_left); simp only [Act.put, List.setIfInBounds_toArray, List.set_cons_zero, List.set_cons_succ]
          refine lin_take (v := ?_) (by kernel_rfl) (by kernel_rfl) (fun _ _ _ h => h) (Or.inl ⟨by rfl, ?_⟩) (by assumption) ?_; (rotate_left; (intro wS hSw; (try dsimp only at hSw); go_simp; (try with_reducible rfl)); rotate_left); simp only [Act.put, List.setIfInBounds_toArray, List.set_cons_zero, List.set_cons_succ]
          refine lin_rot ?_; simp only [List.cons_append, List.nil_append]
          refine lin_take (v := ?_) (by kernel_rfl) (by kernel_rfl) (fun _ _ _ h => h) (Or.inl ⟨by rfl, ?_⟩) (by assumption) ?_; (rotate_left; (intro wS hSw; (try dsimp only at hSw); go_simp; (try with_reducible rfl)); rotate_left); simp only [Act.put, List.setIfInBounds_toArray, List.set_cons_zero, List.set_cons_succ]
          refine lin_take (v := ?_) (by kernel_rfl) (by kernel_rfl) (fun _ _ _ h => h) (Or.inl ⟨by rfl, ?_⟩) (by assumption) ?_; (rotate_left; (intro wS hSw; (try dsimp only at hSw); go_simp; (try with_reducible rfl)); rotate_left); simp only [Act.put, List.setIfInBounds_toArray, List.set_cons_zero, List.set_cons_succ]
          refine lin_take (v := ?_) (by kernel_rfl) (by kernel_rfl) (fun _ _ _ h => h) (Or.inl ⟨by rfl, ?_⟩) (by assumption) ?_; (rotate_left; (intro wS hSw; (try dsimp only at hSw); go_simp; (try with_reducible rfl)); rotate_left); simp only [Act.put, List.setIfInBounds_toArray, List.set_cons_zero, List.set_cons_succ]
          refine lin_take (v := ?_) (by kernel_rfl) (by kernel_rfl) (fun _ _ _ h => h) (Or.inl ⟨by rfl, ?_⟩) (by assumption) ?_; (rotate_left; (intro wS hSw; (try dsimp only at hSw); go_simp; (try with_reducible rfl)); rotate_left); simp only [Act.put, List.setIfInBounds_toArray, List.set_cons_zero, List.set_cons_succ]
          refine lin_take (v := ?_) (by kernel_rfl) (by kernel_rfl) (fun _ _ _ h => h) (Or.inl ⟨by rfl, ?_⟩) (by assumption) ?_; (rotate_left; (intro wS hSw; (try dsimp only at hSw); go_simp; (try with_reducible rfl)); rotate_left); simp only [Act.put, List.setIfInBounds_toArray, List.set_cons_zero, List.set_cons_succ]
          refine lin_take (v := ?_) (by kernel_rfl) (by kernel_rfl) (fun _ _ _ h => h) (Or.inl ⟨by rfl, ?_⟩) (by assumption) ?_; (rotate_left; (intro wS hSw; (try dsimp only at hSw); go_simp; (try with_reducible rfl)); rotate_left); simp only [Act.put, List.setIfInBounds_toArray, List.set_cons_zero, List.set_cons_succ]
          refine lin_rot ?_; simp only [List.cons_append, List.nil_append]
          refine lin_rot ?_; simp only [List.cons_append, List.nil_append]
          refine lin_rot ?_; simp only [List.cons_append, List.nil_append]
          refine lin_rot ?_; simp only [List.cons_append, List.nil_append]
          refine lin_rot ?_; simp only [List.cons_append, List.nil_append]
          refine lin_rot ?_; simp only [List.cons_append, List.nil_append]
          refine lin_rot ?_; simp only [List.cons_append, List.nil_append]
          refine lin_rot ?_; simp only [List.cons_append, List.nil_append]
          refine lin_rot ?_; simp only [List.cons_append, List.nil_append]
          refine lin_rot ?_; simp only [List.cons_append, List.nil_append]
          refine lin_rot ?_; simp only [List.cons_append, List.nil_append]
          refine lin_sole (by kernel_rfl) (fun K hK => ?_)
          go_simp
          refine (GA.out _ (hO.drew1)).mono ?_
          rintro e w5 ⟨rfl, hD5⟩
          refine hK.out _ _ ?_ (fun hHeld => ?_)
          · exact hD5.old x1.out
          try simp only [Act.put, List.setIfInBounds_toArray, List.set_cons_zero, List.set_cons_succ]
          refine lin_sole (by kernel_rfl) (fun K hK => ?_)
          go_simp
          refine (GR.out _ hD5).mono ?_
          rintro e w6 ⟨rfl, hD6⟩
          refine hK.out _ _ ?_ (fun hHeld => ?_)
          · exact hD6.old x1.out
          try simp only [Act.put, List.setIfInBounds_toArray, List.set_cons_zero, List.set_cons_succ]
          refine lin_take (v := ?_) (by kernel_rfl) (by kernel_rfl) (fun _ _ _ h => h) (Or.inl ⟨by rfl, ?_⟩) (by assumption) ?_; (rotate_left; (intro wS hSw; (try dsimp only at hSw); go_simp; (try with_reducible rfl)); rotate_left); simp only [Act.put, List.setIfInBounds_toArray, List.set_cons_zero, List.set_cons_succ]
          refine lin_take (v := ?_) (by kernel_rfl) (by kernel_rfl) (fun _ _ _ h => h) (Or.inl ⟨by rfl, ?_⟩) (by assumption) ?_; (rotate_left; (intro wS hSw; (try dsimp only at hSw); go_simp; (try with_reducible rfl)); rotate_left); simp only [Act.put, List.setIfInBounds_toArray, List.set_cons_zero, List.set_cons_succ]
          refine lin_take (v := ?_) (by kernel_rfl) (by kernel_rfl) (fun _ _ _ h => h) (Or.inl ⟨by rfl, ?_⟩) (by assumption) ?_; (rotate_left; (intro wS hSw; (try dsimp only at hSw); go_simp; (try with_reducible rfl)); rotate_left); simp only [Act.put, List.setIfInBounds_toArray, List.set_cons_zero, List.set_cons_succ]
          refine lin_take (v := ?_) (by kernel_rfl) (by kernel_rfl) (fun _ _ _ h => h) (Or.inl ⟨by rfl, ?_⟩) (by assumption) ?_; (rotate_left; (intro wS hSw; (try dsimp only at hSw); go_simp; (try with_reducible rfl)); rotate_left); simp only [Act.put, List.setIfInBounds_toArray, List.set_cons_zero, List.set_cons_succ]
          refine lin_take (v := ?_) (by kernel_rfl) (by kernel_rfl) (fun _ _ _ h => h) (Or.inl ⟨by rfl, ?_⟩) (by assumption) ?_; (rotate_left; (intro wS hSw; (try dsimp only at hSw); go_simp; (try with_reducible rfl)); rotate_left); simp only [Act.put, List.setIfInBounds_toArray, List.set_cons_zero, List.set_cons_succ]
          refine lin_take (v := ?_) (by kernel_rfl) (by kernel_rfl) (fun _ _ _ h => h) (Or.inl ⟨by rfl, ?_⟩) (by assumption) ?_; (rotate_left; (intro wS hSw; (try dsimp only at hSw); go_simp; (try with_reducible rfl)); rotate_left); simp only [Act.put, List.setIfInBounds_toArray, List.set_cons_zero, List.set_cons_succ]
          refine lin_take (v := ?_) (by kernel_rfl) (by kernel_rfl) (fun _ _ _ h => h) (Or.inl ⟨by rfl, ?_⟩) (by assumption) ?_; (rotate_left; (intro wS hSw; (try dsimp only at hSw); go_simp; (try with_reducible rfl)); rotate_left); simp only [Act.put, List.setIfInBounds_toArray, List.set_cons_zero, List.set_cons_succ]
          refine lin_take (v := ?_) (by kernel_rfl) (by kernel_rfl) (fun _ _ _ h => h) (Or.inl ⟨by rfl, ?_⟩) (by assumption) ?_; (rotate_left; (intro wS hSw; (try dsimp only at hSw); go_simp; (try with_reducible rfl)); rotate_left); simp only [Act.put, List.setIfInBounds_toArray, List.set_cons_zero, List.set_cons_succ]
          refine lin_sole (by kernel_rfl) (fun K hK => ?_)
          go_simp
          refine (give_none _ _).mono ?_
          rintro e w7 ⟨rfl, rfl⟩
          refine hK.out _ _ ?_ (fun hHeld => ?_)
          · exact hD6.old x1.out
          try simp only [Act.put, List.setIfInBounds_toArray, List.set_cons_zero, List.set_cons_succ]
          refine lin_take (v := ?_) (by kernel_rfl) (by kernel_rfl) (fun _ _ _ h => h) (Or.inl ⟨by rfl, ?_⟩) (by assumption) ?_; (rotate_left; (intro wS hSw; (try dsimp only at hSw); go_simp; (try with_reducible rfl)); rotate_left); simp only [Act.put, List.setIfInBounds_toArray, List.set_cons_zero, List.set_cons_succ]
          refine lin_done (by kernel_rfl) ?_
          go_wp2_with fail
          clear GA GR hS16 hHeld
          have hD := hD6
          clear hD5 hD6 hO
          obtain ⟨hs2, rfl⟩ : ∃ hs2, hs2 = hs := ⟨_, rfl⟩
          obtain ⟨bs2, rfl⟩ : ∃ bs2, bs2 = bs := ⟨_, rfl⟩
          obtain ⟨tk2, rfl⟩ : ∃ tk2, tk2 = tk := ⟨_, rfl⟩
          obtain ⟨fr2, rfl⟩ : ∃ fr2, fr2 = fr := ⟨_, rfl⟩
          obtain ⟨pk2, rfl⟩ : ∃ pk2, pk2 = pk := ⟨_, rfl⟩
          have hI2 := hI
          have hT2 := hT
          have hfk2 := Lib.hid (show fr2 ≤ k + 1 by omega)
          have hlen2 := hI2.out.len
          have hcn := cnt_count hs2
          have hTl := hT2.out.len
          obtain ⟨t, ht⟩ : ∃ t, heldB hs2 nn = t := ⟨_, rfl⟩
          have hth := hT2.out.has hI2.out.h0 nn
          rw [ht] at hth
          obtain ⟨rbv, rtv, hA0⟩ := hD
          obtain ⟨rto, rtc, rfl⟩ : ∃ rto rtc, rtv = .slice rto tk2.length rtc := hA0.elim fun bvx hOx => by obtain ⟨a, b, c, _⟩ := (hOx.row 5 rfl).shape; exact ⟨a, b, c⟩
          have U := Lib.hid (fun (w5 : World) (h : AOwn w w5 (hb + 1) hb hs2 bs2 fr2 pk2 (refL gr N rbv bs2 (.slice rto tk2.length rtc) tk2 fr2 pk2 [])) => show Calls Try.prog 36 #[.pointer (some ⟨hb + 1, 0, none⟩)] w5 fun e w' => e = .returned (.int .i64 tk2.length) ∧ AOwn w w' (hb + 1) hb hs2 bs2 fr2 pk2 (refL gr N rbv bs2 (.slice rto tk2.length rtc) tk2 fr2 pk2 []) by have q := used_own h (by omega); rwa [hcn, ← hTl] at q)
          have PK := Lib.hid (fun (w5 : World) (h : AOwn w w5 (hb + 1) hb hs2 bs2 fr2 pk2 (refL gr N rbv bs2 (.slice rto tk2.length rtc) tk2 fr2 pk2 [])) => peak_own h)
          have HL := Lib.hid (fun (w5 : World) (h : AOwn w w5 (hb + 1) hb hs2 bs2 fr2 pk2 (refL gr N rbv bs2 (.slice rto tk2.length rtc) tk2 fr2 pk2 [])) => held_own h (by omega) nn t ht)
          have HS := Lib.hid (fun (w5 : World) (h : AOwn w w5 (hb + 1) hb hs2 bs2 fr2 pk2 (refL gr N rbv bs2 (.slice rto tk2.length rtc) tk2 fr2 pk2 [])) => has_any (h.elim fun bvx hOx => Lies.of_row (hOx.row 5 rfl) rfl) nn t hth)
          have KS := Lib.hid (fun (w5 : World) (h : AOwn w w5 (hb + 1) hb hs2 bs2 fr2 pk2 (refL gr N rbv bs2 (.slice rto tk2.length rtc) tk2 fr2 pk2 [])) => show (fun w' : World => w'.cell? ⟨gr, 2, none⟩ = some (.slice rto tk2.length rtc) ∧ w'.cell? ⟨gr, 4, none⟩ = some (.int .i64 pk2) ∧ w'.cell? ⟨g2, off + k * 2 + 1, none⟩ = some (.int .i64 nn)) w5 from ⟨h.elim fun bvx hOx => (hOx.cget 3 rfl 2).1, h.elim fun bvx hOx => (hOx.cget 3 rfl 4).1, h.old x1.out⟩)
          clear hlen2 hcn hTl ht hth
          have hA := hA0.drewN 1
          have hS0 := KS.out _ hA
          dsimp only at hS0
          refine lin_start (S := (fun w' : World => w'.cell? ⟨gr, 2, none⟩ = some (.slice rto tk2.length rtc) ∧ w'.cell? ⟨gr, 4, none⟩ = some (.int .i64 pk2) ∧ w'.cell? ⟨g2, off + k * 2 + 1, none⟩ = some (.int .i64 nn))) rfl 46 rfl hS0 ?_
          simp only [numbered, Nat.zero_add, Nat.reduceAdd]
          refine lin_take (v := ?_) (by kernel_rfl) (by kernel_rfl) (fun _ _ _ h => h) (Or.inl ⟨by rfl, ?_⟩) (by assumption) ?_; (rotate_left; (intro wS hSw; (try dsimp only at hSw); go_simp; (try with_reducible rfl)); rotate_left); simp only [Act.put, List.setIfInBounds_toArray, List.set_cons_zero, List.set_cons_succ]
          refine lin_rot ?_; simp only [List.cons_append, List.nil_append]
          refine lin_take (v := ?_) (by kernel_rfl) (by kernel_rfl) (fun _ _ _ h => h) (Or.inl ⟨by rfl, ?_⟩) (by assumption) ?_; (rotate_left; (intro wS hSw; (try dsimp only at hSw); go_simp; (try with_reducible rfl)); rotate_left); simp only [Act.put, List.setIfInBounds_toArray, List.set_cons_zero, List.set_cons_succ]
          refine lin_take (v := ?_) (by kernel_rfl) (by kernel_rfl) (fun _ _ _ h => h) (Or.inl ⟨by rfl, ?_⟩) (by assumption) ?_; (rotate_left; (intro wS hSw; (try dsimp only at hSw); go_simp; (try with_reducible rfl)); rotate_left); simp only [Act.put, List.setIfInBounds_toArray, List.set_cons_zero, List.set_cons_succ]
          refine lin_take (v := ?_) (by kernel_rfl) (by kernel_rfl) (fun _ _ _ h => h) (Or.inl ⟨by rfl, ?_⟩) (by assumption) ?_; (rotate_left; (intro wS hSw; (try dsimp only at hSw); go_simp; (try with_reducible rfl)); rotate_left); simp only [Act.put, List.setIfInBounds_toArray, List.set_cons_zero, List.set_cons_succ]
          refine lin_take (v := ?_) (by kernel_rfl) (by kernel_rfl) (fun _ _ _ h => h) (Or.inl ⟨by rfl, ?_⟩) (by assumption) ?_; (rotate_left; (intro wS hSw; (try dsimp only at hSw); go_simp; (try with_reducible rfl)); rotate_left); simp only [Act.put, List.setIfInBounds_toArray, List.set_cons_zero, List.set_cons_succ]
          refine lin_take (v := ?_) (by kernel_rfl) (by kernel_rfl) (fun _ _ _ h => h) (Or.inl ⟨by rfl, ?_⟩) (by assumption) ?_; (rotate_left; (intro wS hSw; (try dsimp only at hSw); go_simp; (try with_reducible rfl)); rotate_left); simp only [Act.put, List.setIfInBounds_toArray, List.set_cons_zero, List.set_cons_succ]
          refine lin_rot ?_; simp only [List.cons_append, List.nil_append]
          refine lin_rot ?_; simp only [List.cons_append, List.nil_append]
          refine lin_rot ?_; simp only [List.cons_append, List.nil_append]
          refine lin_rot ?_; simp only [List.cons_append, List.nil_append]
          refine lin_rot ?_; simp only [List.cons_append, List.nil_append]
          refine lin_rot ?_; simp only [List.cons_append, List.nil_append]
          refine lin_rot ?_; simp only [List.cons_append, List.nil_append]
          refine lin_rot ?_; simp only [List.cons_append, List.nil_append]
          refine lin_rot ?_; simp only [List.cons_append, List.nil_append]
          refine lin_rot ?_; simp only [List.cons_append, List.nil_append]
          refine lin_rot ?_; simp only [List.cons_append, List.nil_append]
          refine lin_rot ?_; simp only [List.cons_append, List.nil_append]
          refine lin_rot ?_; simp only [List.cons_append, List.nil_append]
          refine lin_rot ?_; simp only [List.cons_append, List.nil_append]
          refine lin_rot ?_; simp only [List.cons_append, List.nil_append]
          refine lin_rot ?_; simp only [List.cons_append, List.nil_append]
          refine lin_rot ?_; simp only [List.cons_append, List.nil_append]
          refine lin_rot ?_; simp only [List.cons_append, List.nil_append]
          refine lin_rot ?_; simp only [List.cons_append, List.nil_append]
          refine lin_rot ?_; simp only [List.cons_append, List.nil_append]
          refine lin_rot ?_; simp only [List.cons_append, List.nil_append]
          refine lin_rot ?_; simp only [List.cons_append, List.nil_append]
          refine lin_rot ?_; simp only [List.cons_append, List.nil_append]
          refine lin_rot ?_; simp only [List.cons_append, List.nil_append]
          refine lin_rot ?_; simp only [List.cons_append, List.nil_append]
          refine lin_rot ?_; simp only [List.cons_append, List.nil_append]
          refine lin_rot ?_; simp only [List.cons_append, List.nil_append]
          refine lin_rot ?_; simp only [List.cons_append, List.nil_append]
          refine lin_rot ?_; simp only [List.cons_append, List.nil_append]
          refine lin_rot ?_; simp only [List.cons_append, List.nil_append]
          refine lin_rot ?_; simp only [List.cons_append, List.nil_append]
          refine lin_rot ?_; simp only [List.cons_append, List.nil_append]
          refine lin_rot ?_; simp only [List.cons_append, List.nil_append]
          refine lin_rot ?_; simp only [List.cons_append, List.nil_append]
          refine lin_rot ?_; simp only [List.cons_append, List.nil_append]
          refine lin_rot ?_; simp only [List.cons_append, List.nil_append]
          refine lin_rot ?_; simp only [List.cons_append, List.nil_append]
          refine lin_rot ?_; simp only [List.cons_append, List.nil_append]
          refine lin_rot ?_; simp only [List.cons_append, List.nil_append]
          refine lin_sole (by kernel_rfl) (fun K hK => ?_)
          go_simp
          refine (U.out _ hA).mono ?_
          rintro e w6 ⟨rfl, hA6⟩
          have hS6 := KS.out _ hA6
          refine hK.out _ _ ?_ (fun hHeld => ?_)
          · exact hS6
          try simp only [Act.put, List.setIfInBounds_toArray, List.set_cons_zero, List.set_cons_succ]
          refine lin_take (v := ?_) (by kernel_rfl) (by kernel_rfl) (fun _ _ _ h => h) (Or.inl ⟨by rfl, ?_⟩) (by assumption) ?_; (rotate_left; (intro wS hSw; (try dsimp only at hSw); go_simp; (try with_reducible rfl)); rotate_left); simp only [Act.put, List.setIfInBounds_toArray, List.set_cons_zero, List.set_cons_succ]
          refine lin_take (v := ?_) (by kernel_rfl) (by kernel_rfl) (fun _ _ _ h => h) (Or.inl ⟨by rfl, ?_⟩) (by assumption) ?_; (rotate_left; (intro wS hSw; (try dsimp only at hSw); go_simp; (try with_reducible rfl)); rotate_left); simp only [Act.put, List.setIfInBounds_toArray, List.set_cons_zero, List.set_cons_succ]
          refine lin_take (v := ?_) (by kernel_rfl) (by kernel_rfl) (fun _ _ _ h => h) (Or.inl ⟨by rfl, ?_⟩) (by assumption) ?_; (rotate_left; (intro wS hSw; (try dsimp only at hSw); go_simp; (try with_reducible rfl)); rotate_left); simp only [Act.put, List.setIfInBounds_toArray, List.set_cons_zero, List.set_cons_succ]
          refine lin_rot ?_; simp only [List.cons_append, List.nil_append]
          refine lin_take (v := ?_) (by kernel_rfl) (by kernel_rfl) (fun _ _ _ h => h) (Or.inl ⟨by rfl, ?_⟩) (by assumption) ?_; (rotate_left; (intro wS hSw; (try dsimp only at hSw); go_simp; (try with_reducible rfl)); rotate_left); simp only [Act.put, List.setIfInBounds_toArray, List.set_cons_zero, List.set_cons_succ]
          refine lin_take (v := ?_) (by kernel_rfl) (by kernel_rfl) (fun _ _ _ h => h) (Or.inl ⟨by rfl, ?_⟩) (by assumption) ?_; (rotate_left; (intro wS hSw; (try dsimp only at hSw); go_simp; (try with_reducible rfl)); rotate_left); simp only [Act.put, List.setIfInBounds_toArray, List.set_cons_zero, List.set_cons_succ]
          refine lin_take (v := ?_) (by kernel_rfl) (by kernel_rfl) (fun _ _ _ h => h) (Or.inl ⟨by rfl, ?_⟩) (by assumption) ?_; (rotate_left; (intro wS hSw; (try dsimp only at hSw); go_simp; (try with_reducible rfl)); rotate_left); simp only [Act.put, List.setIfInBounds_toArray, List.set_cons_zero, List.set_cons_succ]
          refine lin_take (v := ?_) (by kernel_rfl) (by kernel_rfl) (fun _ _ _ h => h) (Or.inl ⟨by rfl, ?_⟩) (by assumption) ?_; (rotate_left; (intro wS hSw; (try dsimp only at hSw); go_simp; (try with_reducible rfl)); rotate_left); simp only [Act.put, List.setIfInBounds_toArray, List.set_cons_zero, List.set_cons_succ]
          refine lin_rot ?_; simp only [List.cons_append, List.nil_append]
          refine lin_rot ?_; simp only [List.cons_append, List.nil_append]
          refine lin_rot ?_; simp only [List.cons_append, List.nil_append]
          refine lin_rot ?_; simp only [List.cons_append, List.nil_append]
          refine lin_rot ?_; simp only [List.cons_append, List.nil_append]
          refine lin_rot ?_; simp only [List.cons_append, List.nil_append]
          refine lin_rot ?_; simp only [List.cons_append, List.nil_append]
          refine lin_rot ?_; simp only [List.cons_append, List.nil_append]
          refine lin_rot ?_; simp only [List.cons_append, List.nil_append]
          refine lin_rot ?_; simp only [List.cons_append, List.nil_append]
          refine lin_rot ?_; simp only [List.cons_append, List.nil_append]
          refine lin_rot ?_; simp only [List.cons_append, List.nil_append]
          refine lin_rot ?_; simp only [List.cons_append, List.nil_append]
          refine lin_rot ?_; simp only [List.cons_append, List.nil_append]
          refine lin_rot ?_; simp only [List.cons_append, List.nil_append]
          refine lin_rot ?_; simp only [List.cons_append, List.nil_append]
          refine lin_rot ?_; simp only [List.cons_append, List.nil_append]
          refine lin_rot ?_; simp only [List.cons_append, List.nil_append]
          refine lin_rot ?_; simp only [List.cons_append, List.nil_append]
          refine lin_rot ?_; simp only [List.cons_append, List.nil_append]
          refine lin_rot ?_; simp only [List.cons_append, List.nil_append]
          refine lin_rot ?_; simp only [List.cons_append, List.nil_append]
          refine lin_rot ?_; simp only [List.cons_append, List.nil_append]
          refine lin_rot ?_; simp only [List.cons_append, List.nil_append]
          refine lin_rot ?_; simp only [List.cons_append, List.nil_append]
          refine lin_rot ?_; simp only [List.cons_append, List.nil_append]
          refine lin_rot ?_; simp only [List.cons_append, List.nil_append]
          refine lin_rot ?_; simp only [List.cons_append, List.nil_append]
          refine lin_rot ?_; simp only [List.cons_append, List.nil_append]
          refine lin_rot ?_; simp only [List.cons_append, List.nil_append]
          refine lin_rot ?_; simp only [List.cons_append, List.nil_append]
          refine lin_sole (by kernel_rfl) (fun K hK => ?_)
          go_simp
          refine (PK.out _ hA6).mono ?_
          rintro e w7 ⟨rfl, rfl⟩
          refine hK.out _ _ ?_ (fun hHeld => ?_)
          · exact hS6
          try simp only [Act.put, List.setIfInBounds_toArray, List.set_cons_zero, List.set_cons_succ]
          refine lin_take (v := ?_) (by kernel_rfl) (by kernel_rfl) (fun _ _ _ h => h) (Or.inl ⟨by rfl, ?_⟩) (by assumption) ?_; (rotate_left; (intro wS hSw; (try dsimp only at hSw); go_simp; (try with_reducible rfl)); rotate_left); simp only [Act.put, List.setIfInBounds_toArray, List.set_cons_zero, List.set_cons_succ]
          refine lin_take (v := ?_) (by kernel_rfl) (by kernel_rfl) (fun _ _ _ h => h) (Or.inl ⟨by rfl, ?_⟩) (by assumption) ?_; (rotate_left; (intro wS hSw; (try dsimp only at hSw); go_simp; (try with_reducible rfl)); rotate_left); simp only [Act.put, List.setIfInBounds_toArray, List.set_cons_zero, List.set_cons_succ]
          refine lin_take (v := ?_) (by kernel_rfl) (by kernel_rfl) (fun _ _ _ h => h) (Or.inl ⟨by rfl, ?_⟩) (by assumption) ?_; (rotate_left; (intro wS hSw; (try dsimp only at hSw); go_simp; (try with_reducible rfl)); rotate_left); simp only [Act.put, List.setIfInBounds_toArray, List.set_cons_zero, List.set_cons_succ]
          refine lin_take (v := ?_) (by kernel_rfl) (by kernel_rfl) (fun _ _ _ h => h) (Or.inl ⟨by rfl, ?_⟩) (by assumption) ?_; (rotate_left; (intro wS hSw; (try dsimp only at hSw); go_simp; (try with_reducible rfl)); rotate_left); simp only [Act.put, List.setIfInBounds_toArray, List.set_cons_zero, List.set_cons_succ]
          refine lin_take (v := ?_) (by kernel_rfl) (by kernel_rfl) (fun _ _ _ h => h) (Or.inl ⟨by rfl, ?_⟩) (by assumption) ?_; (rotate_left; (intro wS hSw; (try dsimp only at hSw); go_simp; (try with_reducible rfl)); rotate_left); simp only [Act.put, List.setIfInBounds_toArray, List.set_cons_zero, List.set_cons_succ]
          refine lin_take (v := ?_) (by kernel_rfl) (by kernel_rfl) (fun _ _ _ h => h) (Or.inl ⟨by rfl, ?_⟩) (by assumption) ?_; (rotate_left; (intro wS hSw; (try dsimp only at hSw); go_simp; (try with_reducible rfl)); rotate_left); simp only [Act.put, List.setIfInBounds_toArray, List.set_cons_zero, List.set_cons_succ]
          refine lin_take (v := ?_) (by kernel_rfl) (by kernel_rfl) (fun _ _ _ h => h) (Or.inl ⟨by rfl, ?_⟩) (by assumption) ?_; (rotate_left; (intro wS hSw; (try dsimp only at hSw); go_simp; (try with_reducible rfl)); rotate_left); simp only [Act.put, List.setIfInBounds_toArray, List.set_cons_zero, List.set_cons_succ]
          refine lin_take (v := ?_) (by kernel_rfl) (by kernel_rfl) (fun _ _ _ h => h) (Or.inl ⟨by rfl, ?_⟩) (by assumption) ?_; (rotate_left; (intro wS hSw; (try dsimp only at hSw); go_simp; (try with_reducible rfl)); rotate_left); simp only [Act.put, List.setIfInBounds_toArray, List.set_cons_zero, List.set_cons_succ]
          refine lin_take (v := ?_) (by kernel_rfl) (by kernel_rfl) (fun _ _ _ h => h) (Or.inl ⟨by rfl, ?_⟩) (by assumption) ?_; (rotate_left; (intro wS hSw; (try dsimp only at hSw); go_simp; (try with_reducible rfl)); rotate_left); simp only [Act.put, List.setIfInBounds_toArray, List.set_cons_zero, List.set_cons_succ]
          refine lin_rot ?_; simp only [List.cons_append, List.nil_append]
          refine lin_take (v := ?_) (by kernel_rfl) (by kernel_rfl) (fun _ _ _ h => h) (Or.inl ⟨by rfl, ?_⟩) (by assumption) ?_; (rotate_left; (intro wS hSw; (try dsimp only at hSw); go_simp; (try with_reducible rfl)); rotate_left); simp only [Act.put, List.setIfInBounds_toArray, List.set_cons_zero, List.set_cons_succ]
          refine lin_take (v := ?_) (by kernel_rfl) (by kernel_rfl) (fun _ _ _ h => h) (Or.inl ⟨by rfl, ?_⟩) (by assumption) ?_; (rotate_left; (intro wS hSw; (try dsimp only at hSw); go_simp; (try with_reducible rfl)); rotate_left); simp only [Act.put, List.setIfInBounds_toArray, List.set_cons_zero, List.set_cons_succ]
          refine lin_take (v := ?_) (by kernel_rfl) (by kernel_rfl) (fun _ _ _ h => h) (Or.inl ⟨by rfl, ?_⟩) (by assumption) ?_; (rotate_left; (intro wS hSw; (try dsimp only at hSw); go_simp; (try with_reducible rfl)); rotate_left); simp only [Act.put, List.setIfInBounds_toArray, List.set_cons_zero, List.set_cons_succ]
          refine lin_take (v := ?_) (by kernel_rfl) (by kernel_rfl) (fun _ _ _ h => h) (Or.inl ⟨by rfl, ?_⟩) (by assumption) ?_; (rotate_left; (intro wS hSw; (try dsimp only at hSw); go_simp; (try with_reducible rfl)); rotate_left); simp only [Act.put, List.setIfInBounds_toArray, List.set_cons_zero, List.set_cons_succ]
          refine lin_take (v := ?_) (by kernel_rfl) (by kernel_rfl) (fun _ _ _ h => h) (Or.inl ⟨by rfl, ?_⟩) (by assumption) ?_; (rotate_left; (intro wS hSw; (try dsimp only at hSw); go_simp; (try with_reducible rfl)); rotate_left); simp only [Act.put, List.setIfInBounds_toArray, List.set_cons_zero, List.set_cons_succ]
          refine lin_take (v := ?_) (by kernel_rfl) (by kernel_rfl) (fun _ _ _ h => h) (Or.inl ⟨by rfl, ?_⟩) (by assumption) ?_; (rotate_left; (intro wS hSw; (try dsimp only at hSw); go_simp; (try with_reducible rfl)); rotate_left); simp only [Act.put, List.setIfInBounds_toArray, List.set_cons_zero, List.set_cons_succ]
          refine lin_take (v := ?_) (by kernel_rfl) (by kernel_rfl) (fun _ _ _ h => h) (Or.inl ⟨by rfl, ?_⟩) (by assumption) ?_; (rotate_left; (intro wS hSw; (try dsimp only at hSw); go_simp; (try with_reducible rfl)); rotate_left); simp only [Act.put, List.setIfInBounds_toArray, List.set_cons_zero, List.set_cons_succ]
          refine lin_take (v := ?_) (by kernel_rfl) (by kernel_rfl) (fun _ _ _ h => h) (Or.inl ⟨by rfl, ?_⟩) (by assumption) ?_; (rotate_left; (intro wS hSw; (try dsimp only at hSw); go_simp; (try with_reducible rfl)); rotate_left); simp only [Act.put, List.setIfInBounds_toArray, List.set_cons_zero, List.set_cons_succ]
          refine lin_take (v := ?_) (by kernel_rfl) (by kernel_rfl) (fun _ _ _ h => h) (Or.inl ⟨by rfl, ?_⟩) (by assumption) ?_; (rotate_left; (intro wS hSw; (try dsimp only at hSw); go_simp; (try with_reducible rfl)); rotate_left); simp only [Act.put, List.setIfInBounds_toArray, List.set_cons_zero, List.set_cons_succ]
          refine lin_rot ?_; simp only [List.cons_append, List.nil_append]
          refine lin_rot ?_; simp only [List.cons_append, List.nil_append]
          refine lin_rot ?_; simp only [List.cons_append, List.nil_append]
          refine lin_rot ?_; simp only [List.cons_append, List.nil_append]
          refine lin_rot ?_; simp only [List.cons_append, List.nil_append]
          refine lin_rot ?_; simp only [List.cons_append, List.nil_append]
          refine lin_rot ?_; simp only [List.cons_append, List.nil_append]
          refine lin_rot ?_; simp only [List.cons_append, List.nil_append]
          refine lin_rot ?_; simp only [List.cons_append, List.nil_append]
          refine lin_rot ?_; simp only [List.cons_append, List.nil_append]
          refine lin_rot ?_; simp only [List.cons_append, List.nil_append]
          refine lin_rot ?_; simp only [List.cons_append, List.nil_append]
          refine lin_sole (by kernel_rfl) (fun K hK => ?_)
          go_simp
          refine (HL.out _ hA6).mono ?_
          rintro e w7 ⟨rfl, rfl⟩
          refine hK.out _ _ ?_ (fun hHeld => ?_)
          · exact hS6
          try simp only [Act.put, List.setIfInBounds_toArray, List.set_cons_zero, List.set_cons_succ]
          refine lin_sole (by kernel_rfl) (fun K hK => ?_)
          go_simp
          refine (HS.out _ hA6).mono ?_
          rintro e w7 ⟨rfl, rfl⟩
          refine hK.out _ _ ?_ (fun hHeld => ?_)
          · exact hS6
          try simp only [Act.put, List.setIfInBounds_toArray, List.set_cons_zero, List.set_cons_succ]
          refine lin_take (v := ?_) (by kernel_rfl) (by kernel_rfl) (fun _ _ _ h => h) (Or.inl ⟨by rfl, ?_⟩) (by assumption) ?_; (rotate_left; (intro wS hSw; (try dsimp only at hSw); go_simp; (try with_reducible rfl)); rotate_left); simp only [Act.put, List.setIfInBounds_toArray, List.set_cons_zero, List.set_cons_succ]
          refine lin_take (v := ?_) (by kernel_rfl) (by kernel_rfl) (fun _ _ _ h => h) (Or.inl ⟨by rfl, ?_⟩) (by assumption) ?_; (rotate_left; (intro wS hSw; (try dsimp only at hSw); go_simp; (try with_reducible rfl)); rotate_left); simp only [Act.put, List.setIfInBounds_toArray, List.set_cons_zero, List.set_cons_succ]
          refine lin_take (v := ?_) (by kernel_rfl) (by kernel_rfl) (fun _ _ _ h => h) (Or.inl ⟨by rfl, ?_⟩) (by assumption) ?_; (rotate_left; (intro wS hSw; (try dsimp only at hSw); go_simp; (try with_reducible rfl)); rotate_left); simp only [Act.put, List.setIfInBounds_toArray, List.set_cons_zero, List.set_cons_succ]
          refine lin_take (v := ?_) (by kernel_rfl) (by kernel_rfl) (fun _ _ _ h => h) (Or.inl ⟨by rfl, ?_⟩) (by assumption) ?_; (rotate_left; (intro wS hSw; (try dsimp only at hSw); go_simp; (try with_reducible rfl)); rotate_left); simp only [Act.put, List.setIfInBounds_toArray, List.set_cons_zero, List.set_cons_succ]
          refine lin_take (v := ?_) (by kernel_rfl) (by kernel_rfl) (fun _ _ _ h => h) (Or.inl ⟨by rfl, ?_⟩) (by assumption) ?_; (rotate_left; (intro wS hSw; (try dsimp only at hSw); go_simp; (try with_reducible rfl)); rotate_left); simp only [Act.put, List.setIfInBounds_toArray, List.set_cons_zero, List.set_cons_succ]
          refine lin_take (v := ?_) (by kernel_rfl) (by kernel_rfl) (fun _ _ _ h => h) (Or.inl ⟨by rfl, ?_⟩) (by assumption) ?_; (rotate_left; (intro wS hSw; (try dsimp only at hSw); go_simp; (try with_reducible rfl)); rotate_left); simp only [Act.put, List.setIfInBounds_toArray, List.set_cons_zero, List.set_cons_succ]
          refine lin_take (v := ?_) (by kernel_rfl) (by kernel_rfl) (fun _ _ _ h => h) (Or.inl ⟨by rfl, ?_⟩) (by assumption) ?_; (rotate_left; (intro wS hSw; (try dsimp only at hSw); go_simp; (try with_reducible rfl)); rotate_left); simp only [Act.put, List.setIfInBounds_toArray, List.set_cons_zero, List.set_cons_succ]
          refine lin_take (v := ?_) (by kernel_rfl) (by kernel_rfl) (fun _ _ _ h => h) (Or.inl ⟨by rfl, ?_⟩) (by assumption) ?_; (rotate_left; (intro wS hSw; (try dsimp only at hSw); go_simp; (try with_reducible rfl)); rotate_left); simp only [Act.put, List.setIfInBounds_toArray, List.set_cons_zero, List.set_cons_succ]
          refine lin_take (v := ?_) (by kernel_rfl) (by kernel_rfl) (fun _ _ _ h => h) (Or.inl ⟨by rfl, ?_⟩) (by assumption) ?_; (rotate_left; (intro wS hSw; (try dsimp only at hSw); go_simp; (try with_reducible rfl)); rotate_left); simp only [Act.put, List.setIfInBounds_toArray, List.set_cons_zero, List.set_cons_succ]
          refine lin_sole (by kernel_rfl) (fun K hK => ?_)
          go_simp
          refine (held_none _ _).mono ?_
          rintro e w7 ⟨rfl, rfl⟩
          refine hK.out _ _ ?_ (fun hHeld => ?_)
          · exact hS6
          try simp only [Act.put, List.setIfInBounds_toArray, List.set_cons_zero, List.set_cons_succ]
          refine lin_take (v := ?_) (by kernel_rfl) (by kernel_rfl) (fun _ _ _ h => h) (Or.inl ⟨by rfl, ?_⟩) (by assumption) ?_; (rotate_left; (intro wS hSw; (try dsimp only at hSw); go_simp; (try with_reducible rfl)); rotate_left); simp only [Act.put, List.setIfInBounds_toArray, List.set_cons_zero, List.set_cons_succ]
          refine lin_done (by kernel_rfl) ?_
          go_wp2_with fail
          go_roundw
          case rel => exact ⟨k + 1, fr2, hs2, bs2, tk2, pk2, by omega, by have := hfk2.out; omega, by go_num, hI2, hT2, ⟨rbv, _, hA6⟩⟩
          case measure => simp [intOf]; omega
    · obtain rfl : k = ls.length := by omega
      have hlen := hI.out.len
      have hNI := hI.out
      obtain ⟨m, hm⟩ : ∃ m : Nat, min (N : Int) 100 = m := ⟨(min (N : Int) 100).toNat, by omega⟩
      obtain ⟨rbv, rtv, bvx, hOx⟩ := hO
      obtain ⟨rto, rtc, rfl⟩ : ∃ rto rtc, rtv = .slice rto tk.length rtc := by obtain ⟨a, b, c, _⟩ := (hOx.row 5 rfl).shape; exact ⟨a, b, c⟩
      have hst : trues hs hs.length = trues hs (m + 1) := by
        have h1 := trues_stop hNI.hi hs.length (by have := hNI.frN; omega)
        have h2 := trues_stop hNI.hi (m + 1) (by have := hNI.frN; omega)
        rw [h1, h2]
      have hyl := trues_length hs (m + 1)
      have hdec : ∀ j : Nat, decide ((j : Int) ∈ tk) = hs.getD j false := fun j => by
        cases q : hs.getD j false with
        | true => exact decide_eq_true ((hT.out.mem j).2 q)
        | false => exact decide_eq_false (fun hmm => by have := (hT.out.mem j).1 hmm; rw [q] at this; cases this)
      have hOx := hOx.drewN 1
      have RI := Lib.hid (rising_any (Lies.of_row (hOx.row 5 rfl) rfl) hs m (by omega) hdec hNI.h0)
      have hS20 : (fun w' : World => w'.cell? ⟨gr, 2, none⟩ = some (.slice rto tk.length rtc) ∧ w'.cell? ⟨gr, 0, none⟩ = some (.int .i64 N)) wr.drew := ⟨(hOx.cget 3 rfl 2).1, (hOx.cget 3 rfl 0).1⟩
      clear hdec
      go_wp2_with fail
      refine lin_start (S := (fun w' : World => w'.cell? ⟨gr, 2, none⟩ = some (.slice rto tk.length rtc) ∧ w'.cell? ⟨gr, 0, none⟩ = some (.int .i64 N))) rfl 11 rfl hS20 ?_
      simp only [numbered, Nat.zero_add, Nat.reduceAdd]
      refine lin_take (v := ?_) (by kernel_rfl) (by kernel_rfl) (fun _ _ _ h => h) (Or.inl ⟨by rfl, ?_⟩) (by assumption) ?_; (rotate_left; (intro wS hSw; (try dsimp only at hSw); go_simp; (try with_reducible rfl)); rotate_left); simp only [Act.put, List.setIfInBounds_toArray, List.set_cons_zero, List.set_cons_succ]
      refine lin_take (v := ?_) (by kernel_rfl) (by kernel_rfl) (fun _ _ _ h => h) (Or.inl ⟨by rfl, ?_⟩) (by assumption) ?_; (rotate_left; (intro wS hSw; (try dsimp only at hSw); go_simp; (try with_reducible rfl)); rotate_left); simp only [Act.put, List.setIfInBounds_toArray, List.set_cons_zero, List.set_cons_succ]
      refine lin_take (v := ?_) (by kernel_rfl) (by kernel_rfl) (fun _ _ _ h => h) (Or.inl ⟨by rfl, ?_⟩) (by assumption) ?_; (rotate_left; (intro wS hSw; (try dsimp only at hSw); go_simp; (try with_reducible rfl)); rotate_left); simp only [Act.put, List.setIfInBounds_toArray, List.set_cons_zero, List.set_cons_succ]
      refine lin_take (v := ?_) (by kernel_rfl) (by kernel_rfl) (fun _ _ _ h => h) (Or.inl ⟨by rfl, ?_⟩) (by assumption) ?_; (rotate_left; (intro wS hSw; (try dsimp only at hSw); go_simp; (try with_reducible rfl)); rotate_left); simp only [Act.put, List.setIfInBounds_toArray, List.set_cons_zero, List.set_cons_succ]
      refine lin_take (v := ?_) (by kernel_rfl) (by kernel_rfl) (fun _ _ _ h => h) (Or.inl ⟨by rfl, ?_⟩) (by assumption) ?_; (rotate_left; (intro wS hSw; (try dsimp only at hSw); go_simp; (try with_reducible rfl)); rotate_left); simp only [Act.put, List.setIfInBounds_toArray, List.set_cons_zero, List.set_cons_succ]
      refine lin_take (v := ?_) (by kernel_rfl) (by kernel_rfl) (fun _ _ _ h => h) (Or.inl ⟨by rfl, ?_⟩) (by assumption) ?_; (rotate_left; (intro wS hSw; (try dsimp only at hSw); go_simp; (try with_reducible rfl)); rotate_left); simp only [Act.put, List.setIfInBounds_toArray, List.set_cons_zero, List.set_cons_succ]
      refine lin_take (v := ?_) (by kernel_rfl) (by kernel_rfl) (fun _ _ _ h => h) (Or.inl ⟨by rfl, ?_⟩) (by assumption) ?_; (rotate_left; (intro wS hSw; (try dsimp only at hSw); go_simp; (try with_reducible rfl)); rotate_left); simp only [Act.put, List.setIfInBounds_toArray, List.set_cons_zero, List.set_cons_succ]
      refine lin_take (v := ?_) (by kernel_rfl) (by kernel_rfl) (fun _ _ _ h => h) (Or.inl ⟨by rfl, ?_⟩) (by assumption) ?_; (rotate_left; (intro wS hSw; (try dsimp only at hSw); go_simp; (try with_reducible rfl)); rotate_left); simp only [Act.put, List.setIfInBounds_toArray, List.set_cons_zero, List.set_cons_succ]
      refine lin_take (v := ?_) (by kernel_rfl) (by kernel_rfl) (fun _ _ _ h => h) (Or.inl ⟨by rfl, ?_⟩) (by assumption) ?_; (rotate_left; (intro wS hSw; (try dsimp only at hSw); go_simp; (try with_reducible rfl)); rotate_left); simp only [Act.put, List.setIfInBounds_toArray, List.set_cons_zero, List.set_cons_succ]
      refine lin_sole (by kernel_rfl) (fun K hK => ?_)
      go_simp
      refine RI.out.mono ?_
      rintro e w6 ⟨wo, wc, rfl, hR6, hf6, hb6⟩
      have hO6 := hOx.push hb6 (rowA 3 1 (.slice wo (trues hs (m + 1)).length wc) (trues hs (m + 1)).length ((trues hs (m + 1)).map (.int .i64))) hR6 hf6
      refine hK.out _ _ ?_ (fun hHeld => ?_)
      · exact ⟨(hO6.cget 3 rfl 2).1, (hO6.cget 3 rfl 0).1⟩
      try simp only [Act.put, List.setIfInBounds_toArray, List.set_cons_zero, List.set_cons_succ]
      refine lin_take (v := ?_) (by kernel_rfl) (by kernel_rfl) (fun _ _ _ h => h) (Or.inl ⟨by rfl, ?_⟩) (by assumption) ?_; (rotate_left; (intro wS hSw; (try dsimp only at hSw); go_simp; (try with_reducible rfl)); rotate_left); simp only [Act.put, List.setIfInBounds_toArray, List.set_cons_zero, List.set_cons_succ]
      refine lin_done (by kernel_rfl) ?_
      go_wp2_with fail
      clear hS20 hHeld RI hR6 hf6 hb6 hOx
      have hO7 : AOwn w w6 (hb + 1) hb hs bs fr pk (refL gr N rbv bs (.slice rto tk.length rtc) tk fr pk [rowA 3 1 (.slice wo (trues hs (m + 1)).length wc) (trues hs (m + 1)).length ((trues hs (m + 1)).map (.int .i64))]) := ⟨bvx, hO6⟩
      have hA1 := fun (w5 : World) (h : AOwn w w5 (hb + 1) hb hs bs fr pk (refL gr N rbv bs (.slice rto tk.length rtc) tk fr pk [rowA 3 1 (.slice wo (trues hs (m + 1)).length wc) (trues hs (m + 1)).length ((trues hs (m + 1)).map (.int .i64))])) => show Calls Try.prog 42 #[.pointer (some ⟨hb + 1, 0, none⟩), .int .i64 2000] w5 _ from all_own10 h (by omega) 2000 (by omega) (trues hs (m + 1)) (by rw [hst, List.take_of_length_le (by omega)])
      have hA2 := fun (w5 : World) (h : AOwn w w5 (hb + 1) hb hs bs fr pk (refL gr N rbv bs (.slice rto tk.length rtc) tk fr pk [rowA 3 1 (.slice wo (trues hs (m + 1)).length wc) (trues hs (m + 1)).length ((trues hs (m + 1)).map (.int .i64))])) => all_own10 h (by omega) some_ (by omega) ((trues hs (m + 1)).take (max some_ 1)) (by rw [hst])
      have hrow := hO6.row 6 rfl
      obtain ⟨_, _, q0, s1, s2, s3⟩ := hrow.shape
      simp only [Value.slice.injEq] at q0
      obtain ⟨rfl, _, rfl⟩ := q0
      clear hst hlen hNI hO6 hrow
      generalize trues hs (m + 1) = Y at *
      obtain ⟨q, hq⟩ : ∃ q : Nat, min Y.length (max some_ 1) = q := ⟨_, rfl⟩
      have hq1 : min ((Y.length : Nat) : Int) (max (some_ : Int) 1) = q := by omega
      have hql : (Y.take (max some_ 1)).length = q := by rw [List.length_take]; omega
      have hqy : Y.take (max some_ 1) = Y.take q := by
        rw [← hq]
        by_cases hc : Y.length ≤ max some_ 1
        · rw [List.take_of_length_le hc, List.take_of_length_le (by omega)]
        · rw [Nat.min_eq_right (by omega)]
      have hqn : q ≤ Y.length := by omega
      unfold maxLen at s2
      have I1 := Lib.hid (fun (w5 : World) (a8 : Option Addr) (c8 : Nat) (bv8 : Value) (h : Own w w5 (rowA 3 1 (.slice a8 Y.length c8) Y.length (Y.map (.int .i64)) :: arenaL (hb + 1) hb bv8 hs bs fr pk (refL gr N rbv bs (.slice rto tk.length rtc) tk fr pk [rowA 3 1 (.slice wo Y.length wc) Y.length (Y.map (.int .i64))]))) => show Calls Try.prog 41 #[.slice a8 Y.length c8, .slice wo Y.length wc] w5 fun e w' => e = .returned (.bool true) ∧ ∃ m, w' = w5.drewN m by
        have q := ints_any a8 wo c8 wc Y Y w5 (Lies.of_row (h.row 0 rfl) rfl) (Lies.of_row (h.row 7 rfl) rfl)
        rwa [show (Y == Y) = true by simp] at q)
      rw [hql] at hA2
      have I2 := Lib.hid (fun (w5 : World) (a8 : Option Addr) (c8 : Nat) (bv8 : Value) (h : Own w w5 (rowA 3 1 (.slice a8 q c8) q ((Y.take (max some_ 1)).map (.int .i64)) :: arenaL (hb + 1) hb bv8 hs bs fr pk (refL gr N rbv bs (.slice rto tk.length rtc) tk fr pk [rowA 3 1 (.slice wo Y.length wc) Y.length (Y.map (.int .i64))]))) => show Calls Try.prog 41 #[.slice a8 q c8, .slice wo q wc] w5 fun e w' => e = .returned (.bool true) ∧ ∃ m, w' = w5.drewN m by
        have hr := (h.row 7 rfl).take (i := q) hqn
        rw [Nat.mul_one, ← List.map_take, ← hqy] at hr
        have z := ints_any a8 wo c8 wc (Y.take (max some_ 1)) (Y.take (max some_ 1)) w5 (Lies.of_row ((h.row 0 rfl).cast rfl rfl) (by rw [hql])) (Lies.of_row hr (by rw [hql]))
        rwa [show (Y.take (max some_ 1) == Y.take (max some_ 1)) = true by simp, hql] at z)
      have A1 := Lib.hid hA1
      have A2 := Lib.hid hA2
      have hwS : IntKind.i64.wrap (some_ : Int) = (some_ : Int) := IntWalk.i64_in _ (by omega)
      have hqw : q ≤ wc := by omega
      clear hql hqy hq hA1 hA2
      have hO7 := hO7.drewN 1
      refine lin_start (S := (fun w' : World => True)) rfl 34 rfl trivial ?_
      simp only [numbered, Nat.zero_add, Nat.reduceAdd]
      refine lin_take (v := ?_) (by kernel_rfl) (by kernel_rfl) (fun _ _ _ h => h) (Or.inl ⟨by rfl, ?_⟩) (by assumption) ?_; (rotate_left; (intro wS hSw; (try dsimp only at hSw); go_simp; (try with_reducible rfl)); rotate_left); simp only [Act.put, List.setIfInBounds_toArray, List.set_cons_zero, List.set_cons_succ]
      refine lin_rot ?_; simp only [List.cons_append, List.nil_append]
      refine lin_take (v := ?_) (by kernel_rfl) (by kernel_rfl) (fun _ _ _ h => h) (Or.inl ⟨by rfl, ?_⟩) (by assumption) ?_; (rotate_left; (intro wS hSw; (try dsimp only at hSw); go_simp; (try with_reducible rfl)); rotate_left); simp only [Act.put, List.setIfInBounds_toArray, List.set_cons_zero, List.set_cons_succ]
      refine lin_rot ?_; simp only [List.cons_append, List.nil_append]
      refine lin_rot ?_; simp only [List.cons_append, List.nil_append]
      refine lin_rot ?_; simp only [List.cons_append, List.nil_append]
      refine lin_rot ?_; simp only [List.cons_append, List.nil_append]
      refine lin_rot ?_; simp only [List.cons_append, List.nil_append]
      refine lin_rot ?_; simp only [List.cons_append, List.nil_append]
      refine lin_rot ?_; simp only [List.cons_append, List.nil_append]
      refine lin_rot ?_; simp only [List.cons_append, List.nil_append]
      refine lin_rot ?_; simp only [List.cons_append, List.nil_append]
      refine lin_rot ?_; simp only [List.cons_append, List.nil_append]
      refine lin_rot ?_; simp only [List.cons_append, List.nil_append]
      refine lin_rot ?_; simp only [List.cons_append, List.nil_append]
      refine lin_rot ?_; simp only [List.cons_append, List.nil_append]
      refine lin_rot ?_; simp only [List.cons_append, List.nil_append]
      refine lin_rot ?_; simp only [List.cons_append, List.nil_append]
      refine lin_rot ?_; simp only [List.cons_append, List.nil_append]
      refine lin_rot ?_; simp only [List.cons_append, List.nil_append]
      refine lin_rot ?_; simp only [List.cons_append, List.nil_append]
      refine lin_rot ?_; simp only [List.cons_append, List.nil_append]
      refine lin_rot ?_; simp only [List.cons_append, List.nil_append]
      refine lin_rot ?_; simp only [List.cons_append, List.nil_append]
      refine lin_rot ?_; simp only [List.cons_append, List.nil_append]
      refine lin_rot ?_; simp only [List.cons_append, List.nil_append]
      refine lin_rot ?_; simp only [List.cons_append, List.nil_append]
      refine lin_rot ?_; simp only [List.cons_append, List.nil_append]
      refine lin_rot ?_; simp only [List.cons_append, List.nil_append]
      refine lin_rot ?_; simp only [List.cons_append, List.nil_append]
      refine lin_rot ?_; simp only [List.cons_append, List.nil_append]
      refine lin_rot ?_; simp only [List.cons_append, List.nil_append]
      refine lin_rot ?_; simp only [List.cons_append, List.nil_append]
      refine lin_rot ?_; simp only [List.cons_append, List.nil_append]
      refine lin_sole (by kernel_rfl) (fun K hK => ?_)
      go_simp
      refine (A1.out _ hO7).mono ?_
      rintro e w8 ⟨a8, c8, rfl, bv8, hO8⟩
      refine hK.out _ _ ?_ (fun hHeld => ?_)
      · trivial
      try simp only [Act.put, List.setIfInBounds_toArray, List.set_cons_zero, List.set_cons_succ]
      refine lin_sole (by kernel_rfl) (fun K hK => ?_)
      go_simp
      refine (I1.out _ _ _ _ hO8).mono ?_
      rintro e w9 ⟨rfl, m9, hw9⟩
      have hO9 := hO8.drewN m9
      rw [← hw9] at hO9
      have hO10 := AOwn.pop1 hO9
      clear hw9 hO8 hO9
      refine hK.out _ _ ?_ (fun hHeld => ?_)
      · trivial
      try simp only [Act.put, List.setIfInBounds_toArray, List.set_cons_zero, List.set_cons_succ]
      refine lin_take (v := ?_) (by kernel_rfl) (by kernel_rfl) (fun _ _ _ h => h) (Or.inl ⟨by rfl, ?_⟩) (by assumption) ?_; (rotate_left; (intro wS hSw; (try dsimp only at hSw); go_simp; (try with_reducible rfl)); rotate_left); simp only [Act.put, List.setIfInBounds_toArray, List.set_cons_zero, List.set_cons_succ]
      refine lin_take (v := ?_) (by kernel_rfl) (by kernel_rfl) (fun _ _ _ h => h) (Or.inl ⟨by rfl, ?_⟩) (by assumption) ?_; (rotate_left; (intro wS hSw; (try dsimp only at hSw); go_simp; (try with_reducible rfl)); rotate_left); simp only [Act.put, List.setIfInBounds_toArray, List.set_cons_zero, List.set_cons_succ]
      refine lin_take (v := ?_) (by kernel_rfl) (by kernel_rfl) (fun _ _ _ h => h) (Or.inl ⟨by rfl, ?_⟩) (by assumption) ?_; (rotate_left; (intro wS hSw; (try dsimp only at hSw); go_simp; (try with_reducible rfl)); rotate_left); simp only [Act.put, List.setIfInBounds_toArray, List.set_cons_zero, List.set_cons_succ]
      refine lin_take (v := ?_) (by kernel_rfl) (by kernel_rfl) (fun _ _ _ h => h) (Or.inl ⟨by rfl, ?_⟩) (by assumption) ?_; (rotate_left; (intro wS hSw; (try dsimp only at hSw); go_simp; (try with_reducible rfl)); rotate_left); simp only [Act.put, List.setIfInBounds_toArray, List.set_cons_zero, List.set_cons_succ]
      refine lin_rot ?_; simp only [List.cons_append, List.nil_append]
      refine lin_take (v := ?_) (by kernel_rfl) (by kernel_rfl) (fun _ _ _ h => h) (Or.inl ⟨by rfl, ?_⟩) (by assumption) ?_; (rotate_left; (intro wS hSw; (try dsimp only at hSw); go_simp; (try with_reducible rfl)); rotate_left); simp only [Act.put, List.setIfInBounds_toArray, List.set_cons_zero, List.set_cons_succ]
      refine lin_take (v := ?_) (by kernel_rfl) (by kernel_rfl) (fun _ _ _ h => h) (Or.inl ⟨by rfl, ?_⟩) (by assumption) ?_; (rotate_left; (intro wS hSw; (try dsimp only at hSw); go_simp; (try with_reducible rfl)); rotate_left); simp only [Act.put, List.setIfInBounds_toArray, List.set_cons_zero, List.set_cons_succ]
      refine lin_take (v := ?_) (by kernel_rfl) (by kernel_rfl) (fun _ _ _ h => h) (Or.inl ⟨by rfl, ?_⟩) (by assumption) ?_; (rotate_left; (intro wS hSw; (try dsimp only at hSw); go_simp; (try with_reducible rfl)); rotate_left); simp only [Act.put, List.setIfInBounds_toArray, List.set_cons_zero, List.set_cons_succ]
      refine lin_take (v := ?_) (by kernel_rfl) (by kernel_rfl) (fun _ _ _ h => h) (Or.inl ⟨by rfl, ?_⟩) (by assumption) ?_; (rotate_left; (intro wS hSw; (try dsimp only at hSw); go_simp; (try with_reducible rfl)); rotate_left); simp only [Act.put, List.setIfInBounds_toArray, List.set_cons_zero, List.set_cons_succ]
      refine lin_take (v := ?_) (by kernel_rfl) (by kernel_rfl) (fun _ _ _ h => h) (Or.inl ⟨by rfl, ?_⟩) (by assumption) ?_; (rotate_left; (intro wS hSw; (try dsimp only at hSw); go_simp; (try with_reducible rfl)); rotate_left); simp only [Act.put, List.setIfInBounds_toArray, List.set_cons_zero, List.set_cons_succ]
      refine lin_take (v := ?_) (by kernel_rfl) (by kernel_rfl) (fun _ _ _ h => h) (Or.inl ⟨by rfl, ?_⟩) (by assumption) ?_; (rotate_left; (intro wS hSw; (try dsimp only at hSw); go_simp; (try with_reducible rfl)); rotate_left); simp only [Act.put, List.setIfInBounds_toArray, List.set_cons_zero, List.set_cons_succ]
      refine lin_take (v := ?_) (by kernel_rfl) (by kernel_rfl) (fun _ _ _ h => h) (Or.inl ⟨by rfl, ?_⟩) (by assumption) ?_; (rotate_left; (intro wS hSw; (try dsimp only at hSw); go_simp; (try with_reducible rfl)); rotate_left); simp only [Act.put, List.setIfInBounds_toArray, List.set_cons_zero, List.set_cons_succ]
      refine lin_take (v := ?_) (by kernel_rfl) (by kernel_rfl) (fun _ _ _ h => h) (Or.inl ⟨by rfl, ?_⟩) (by assumption) ?_; (rotate_left; (intro wS hSw; (try dsimp only at hSw); go_simp; (try with_reducible rfl)); rotate_left); simp only [Act.put, List.setIfInBounds_toArray, List.set_cons_zero, List.set_cons_succ]
      refine lin_rot ?_; simp only [List.cons_append, List.nil_append]
      refine lin_rot ?_; simp only [List.cons_append, List.nil_append]
      refine lin_rot ?_; simp only [List.cons_append, List.nil_append]
      refine lin_rot ?_; simp only [List.cons_append, List.nil_append]
      refine lin_rot ?_; simp only [List.cons_append, List.nil_append]
      refine lin_rot ?_; simp only [List.cons_append, List.nil_append]
      refine lin_rot ?_; simp only [List.cons_append, List.nil_append]
      refine lin_rot ?_; simp only [List.cons_append, List.nil_append]
      refine lin_rot ?_; simp only [List.cons_append, List.nil_append]
      refine lin_rot ?_; simp only [List.cons_append, List.nil_append]
      refine lin_rot ?_; simp only [List.cons_append, List.nil_append]
      refine lin_rot ?_; simp only [List.cons_append, List.nil_append]
      refine lin_rot ?_; simp only [List.cons_append, List.nil_append]
      refine lin_rot ?_; simp only [List.cons_append, List.nil_append]
      refine lin_rot ?_; simp only [List.cons_append, List.nil_append]
      refine lin_rot ?_; simp only [List.cons_append, List.nil_append]
      refine lin_rot ?_; simp only [List.cons_append, List.nil_append]
      refine lin_sole (by kernel_rfl) (fun K hK => ?_)
      go_simp
      refine (A2.out _ hO10).mono ?_
      rintro e w11 ⟨a11, c11, rfl, bv11, hO11⟩
      refine hK.out _ _ ?_ (fun hHeld => ?_)
      · trivial
      try simp only [Act.put, List.setIfInBounds_toArray, List.set_cons_zero, List.set_cons_succ]
      refine lin_sole (by kernel_rfl) (fun K hK => ?_)
      go_simp
      refine (I2.out _ _ _ _ hO11).mono ?_
      rintro e w12 ⟨rfl, m12, hw12⟩
      have hB12 := (hO11.drewN m12).below
      rw [← hw12] at hB12
      clear hw12 hO11
      refine hK.out _ _ ?_ (fun hHeld => ?_)
      · trivial
      try simp only [Act.put, List.setIfInBounds_toArray, List.set_cons_zero, List.set_cons_succ]
      refine lin_take (v := ?_) (by kernel_rfl) (by kernel_rfl) (fun _ _ _ h => h) (Or.inl ⟨by rfl, ?_⟩) (by assumption) ?_; (rotate_left; (intro wS hSw; (try dsimp only at hSw); go_simp; (try with_reducible rfl)); rotate_left); simp only [Act.put, List.setIfInBounds_toArray, List.set_cons_zero, List.set_cons_succ]
      refine lin_take (v := ?_) (by kernel_rfl) (by kernel_rfl) (fun _ _ _ h => h) (Or.inl ⟨by rfl, ?_⟩) (by assumption) ?_; (rotate_left; (intro wS hSw; (try dsimp only at hSw); go_simp; (try with_reducible rfl)); rotate_left); simp only [Act.put, List.setIfInBounds_toArray, List.set_cons_zero, List.set_cons_succ]
      refine lin_take (v := ?_) (by kernel_rfl) (by kernel_rfl) (fun _ _ _ h => h) (Or.inl ⟨by rfl, ?_⟩) (by assumption) ?_; (rotate_left; (intro wS hSw; (try dsimp only at hSw); go_simp; (try with_reducible rfl)); rotate_left); simp only [Act.put, List.setIfInBounds_toArray, List.set_cons_zero, List.set_cons_succ]
      refine lin_sole (by kernel_rfl) (fun K hK => ?_)
      go_simp
      refine (all_none10 _ _).mono ?_
      rintro e w13 ⟨rfl, hb13⟩
      refine hK.out _ _ ?_ (fun hHeld => ?_)
      · trivial
      try simp only [Act.put, List.setIfInBounds_toArray, List.set_cons_zero, List.set_cons_succ]
      refine lin_take (v := ?_) (by kernel_rfl) (by kernel_rfl) (fun _ _ _ h => h) (Or.inl ⟨by rfl, ?_⟩) (by assumption) ?_; (rotate_left; (intro wS hSw; (try dsimp only at hSw); go_simp; (try with_reducible rfl)); rotate_left); simp only [Act.put, List.setIfInBounds_toArray, List.set_cons_zero, List.set_cons_succ]
      refine lin_take (v := ?_) (by kernel_rfl) (by kernel_rfl) (fun _ _ _ h => h) (Or.inl ⟨by rfl, ?_⟩) (by assumption) ?_; (rotate_left; (intro wS hSw; (try dsimp only at hSw); go_simp; (try with_reducible rfl)); rotate_left); simp only [Act.put, List.setIfInBounds_toArray, List.set_cons_zero, List.set_cons_succ]
      refine lin_take (v := ?_) (by kernel_rfl) (by kernel_rfl) (fun _ _ _ h => h) (Or.inl ⟨by rfl, ?_⟩) (by assumption) ?_; (rotate_left; (intro wS hSw; (try dsimp only at hSw); go_simp; (try with_reducible rfl)); rotate_left); simp only [Act.put, List.setIfInBounds_toArray, List.set_cons_zero, List.set_cons_succ]
      refine lin_take (v := ?_) (by kernel_rfl) (by kernel_rfl) (fun _ _ _ h => h) (Or.inl ⟨by rfl, ?_⟩) (by assumption) ?_; (rotate_left; (intro wS hSw; (try dsimp only at hSw); go_simp; (try with_reducible rfl)); rotate_left); simp only [Act.put, List.setIfInBounds_toArray, List.set_cons_zero, List.set_cons_succ]
      refine lin_take (v := ?_) (by kernel_rfl) (by kernel_rfl) (fun _ _ _ h => h) (Or.inl ⟨by rfl, ?_⟩) (by assumption) ?_; (rotate_left; (intro wS hSw; (try dsimp only at hSw); go_simp; (try with_reducible rfl)); rotate_left); simp only [Act.put, List.setIfInBounds_toArray, List.set_cons_zero, List.set_cons_succ]
      refine lin_rot ?_; simp only [List.cons_append, List.nil_append]
      refine lin_take (v := ?_) (by kernel_rfl) (by kernel_rfl) (fun _ _ _ h => h) (Or.inl ⟨by rfl, ?_⟩) (by assumption) ?_; (rotate_left; (intro wS hSw; (try dsimp only at hSw); go_simp; (try with_reducible rfl)); rotate_left); simp only [Act.put, List.setIfInBounds_toArray, List.set_cons_zero, List.set_cons_succ]
      refine lin_rot ?_; simp only [List.cons_append, List.nil_append]
      refine lin_rot ?_; simp only [List.cons_append, List.nil_append]
      refine lin_rot ?_; simp only [List.cons_append, List.nil_append]
      refine lin_rot ?_; simp only [List.cons_append, List.nil_append]
      refine lin_rot ?_; simp only [List.cons_append, List.nil_append]
      refine lin_sole (by kernel_rfl) (fun K hK => ?_)
      go_simp
      refine (used_none _).mono ?_
      rintro e w14 ⟨rfl, hb14⟩
      refine hK.out _ _ ?_ (fun hHeld => ?_)
      · trivial
      try simp only [Act.put, List.setIfInBounds_toArray, List.set_cons_zero, List.set_cons_succ]
      refine lin_sole (by kernel_rfl) (fun K hK => ?_)
      go_simp
      refine (peak_none _).mono ?_
      rintro e w15 ⟨rfl, rfl⟩
      refine hK.out _ _ ?_ (fun hHeld => ?_)
      · trivial
      try simp only [Act.put, List.setIfInBounds_toArray, List.set_cons_zero, List.set_cons_succ]
      refine lin_take (v := ?_) (by kernel_rfl) (by kernel_rfl) (fun _ _ _ h => h) (Or.inl ⟨by rfl, ?_⟩) (by assumption) ?_; (rotate_left; (intro wS hSw; (try dsimp only at hSw); go_simp; (try with_reducible rfl)); rotate_left); simp only [Act.put, List.setIfInBounds_toArray, List.set_cons_zero, List.set_cons_succ]
      refine lin_take (v := ?_) (by kernel_rfl) (by kernel_rfl) (fun _ _ _ h => h) (Or.inl ⟨by rfl, ?_⟩) (by assumption) ?_; (rotate_left; (intro wS hSw; (try dsimp only at hSw); go_simp; (try with_reducible rfl)); rotate_left); simp only [Act.put, List.setIfInBounds_toArray, List.set_cons_zero, List.set_cons_succ]
      refine lin_take (v := ?_) (by kernel_rfl) (by kernel_rfl) (fun _ _ _ h => h) (Or.inl ⟨by rfl, ?_⟩) (by assumption) ?_; (rotate_left; (intro wS hSw; (try dsimp only at hSw); go_simp; (try with_reducible rfl)); rotate_left); simp only [Act.put, List.setIfInBounds_toArray, List.set_cons_zero, List.set_cons_succ]
      refine lin_take (v := ?_) (by kernel_rfl) (by kernel_rfl) (fun _ _ _ h => h) (Or.inl ⟨by rfl, ?_⟩) (by assumption) ?_; (rotate_left; (intro wS hSw; (try dsimp only at hSw); go_simp; (try with_reducible rfl)); rotate_left); simp only [Act.put, List.setIfInBounds_toArray, List.set_cons_zero, List.set_cons_succ]
      refine lin_done (by kernel_rfl) ?_
      go_wp2
      go_ret
      exact ⟨rfl, below_chain (below_chain hB12 hb13) hb14⟩
theorem walkArenaDoes (v0 v1 v2 : Value) (w : World) (h0 : Arg Try.prog w 3 v0) (h1 : Arg Try.prog w 43 v1) (h2 : Arg Try.prog w 5 v2) :
    Calls Try.prog 7 #[v0, v1, v2] w fun e w' => e = .returned (.bool true) ∧ Below w.heap.size w w' := by
  obtain ⟨sz, rfl, hs⟩ := h0.int Try.underlying3
  obtain ⟨sm, rfl, hs2⟩ := h2.int Try.underlying5
  simp [Lit.wf, IntKind.min, IntKind.max, IntKind.signed, IntKind.bits] at hs2
  obtain ⟨sm, rfl⟩ : ∃ n : Nat, sm = n := ⟨sm.toNat, by omega⟩
  obtain ⟨lo, lc, ls, rfl, p1, p2, p3, g2, off, p4⟩ := h1.structs' 2 Try.underlying43 (by kernel_rfl) Try.underlying3 (by kernel_rfl) (by kernel_rfl) (by decide)
  by_cases hl : ls.length ≤ 100
  · exact adoes_core sz (min (max sz 0) 1000).toNat sm ls lo lc w (by omega) (by omega) p1 p2 hl g2 off p4
  · unfold maxLen at p2
    clear p4 p3
    have hl2 : 100 < ls.length := by omega
    go_enter Try.func7, Try.ntmps7
    go_wp2_with (go_at_call 29; refine (works10_any _).mono ?_; rintro e w1 ⟨rfl, hb1⟩)
    go_ret
    exact ⟨rfl, hb1⟩
end Go.Proofs.Ytbadinmlnbabiaa
