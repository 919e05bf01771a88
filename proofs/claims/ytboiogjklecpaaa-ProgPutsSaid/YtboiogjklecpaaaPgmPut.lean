/- A program as bytes. -/
import Derived.Test.YtboiogjklecpaaaPgmRCheck
import Derived.Test.YtboiogjklecpaaaLin
import Derived.Test.YtboiogjklecpaaaInsRPut
set_option linter.unusedVariables false
set_option linter.unusedSimpArgs false
namespace Go.Proofs.Ytboiogjklecpaaa
open Go.RowKit
set_option maxRecDepth 100000
set_option maxHeartbeats 8000000
def putS (mem : Int) (fs : List (List I4)) : List UInt8 := if checkP mem fs = 0 then putP mem fs else []
theorem codeB_next {l : List I4} {q : Nat} {x : I4} (h : q < l.length) (hx : l.getD q (0, 0, 0, 0) = x) : codeB (l.take (q + 1)) = codeB (l.take q) ++ put4 x := by
  rw [List.take_succ_eq_append_getElem h]
  rw [List.getD_eq_getElem?_getD, List.getElem?_eq_getElem h] at hx
  simp only [Option.getD_some] at hx
  simp [codeB, hx]
theorem funcB_next {fs : List (List I4)} {r : Nat} {l : List I4} (h : r < fs.length) (hx : fs.getD r [] = l) : (fs.take (r + 1)).flatMap funcB = (fs.take r).flatMap funcB ++ funcB l := by
  rw [List.take_succ_eq_append_getElem h]
  rw [List.getD_eq_getElem?_getD, List.getElem?_eq_getElem h] at hx
  simp only [Option.getD_some] at hx
  simp [hx]
theorem mem_getD {α : Type} {l : List α} {i : Nat} {x d : α} (h : i < l.length) (hx : l.getD i d = x) : x ∈ l := by
  rw [List.getD_eq_getElem?_getD, List.getElem?_eq_getElem h] at hx
  simp only [Option.getD_some] at hx
  rw [← hx]
  exact List.getElem_mem h
theorem pput_any (mem : Int) (fs : List (List I4)) (ao : Option Addr) (cap : Nat) (w : World) (h : LiesF w ao cap fs) : Calls Try.prog 29 #[.agg #[.int .i64 mem, .slice ao fs.length cap]] w fun e w' => e = .returned (.tuple #[.string ⟨(putS mem fs).toArray⟩, .int .i64 (checkP mem fs)]) ∧ Below w.heap.size w w' := by
  have hc := h.1
  have hc2 := h.2.1
  unfold maxLen at hc2
  have hO := (Own.nil (Below.refl _ w)).box #[.int .i64 mem, .slice ao fs.length cap] 42
  have y0 := (cells2f 0 hO rfl).1.1
  have y1 := (cells2f 0 hO rfl).2.1
  obtain ⟨E, hE⟩ : ∃ E, checkP mem fs = E := ⟨_, rfl⟩
  have C := fun w1 hb => pcheck_any mem fs ao cap w1 (h.below (w' := w1) hb)
  rw [hE] at C
  replace C := Lib.hid C
  by_cases h0 : E = 0
  · subst h0
    have hps : putS mem fs = putP mem fs := by unfold putS; rw [if_pos hE]
    rw [hps, hE]
    clear hps
    obtain ⟨hs1, hs2⟩ := check_parts hE
    obtain ⟨m0, m1, n0, n1⟩ := sizes_ok hs1
    replace hs2 := Lib.hid hs2
    clear hE hs1
    go_enter Try.func29, Try.ntmps29
    go_wp2_with fail
    go_at_call 33
    refine (C.out _ hO.below).mono ?_
    rintro e w2 ⟨rfl, hb2⟩
    have hO2 := hO.grow hb2
    generalize hpb : w.heap.size = pb at hO2 y0 y1 ⊢
    clear y0 y1 hO hb2 C hpb
    have y0 := (cells2f 0 hO2 rfl).1.1
    have y1 := (cells2f 0 hO2 rfl).2.1
    go_wp2_with fail
    have hB := hO2.drewN 1
    have hS0 : (fun w' : World => w'.cell? ⟨pb, 0, none⟩ = some (.int .i64 mem) ∧ w'.cell? ⟨pb, 1, none⟩ = some (.slice ao fs.length cap)) w2.drew := ⟨y0, y1⟩
    clear y0 y1
    refine lin_start (S := (fun w' : World => w'.cell? ⟨pb, 0, none⟩ = some (.int .i64 mem) ∧ w'.cell? ⟨pb, 1, none⟩ = some (.slice ao fs.length cap))) rfl 9 rfl hS0 ?_
    simp only [numbered, Nat.zero_add, Nat.reduceAdd]
    refine lin_rot ?_; simp only [List.cons_append, List.nil_append]
    refine lin_take (v := ?_) (by kernel_rfl) (by kernel_rfl) (fun _ _ _ h => h) (Or.inl ⟨by rfl, ?_⟩) (by assumption) ?_; (rotate_left; (intro wS hSw; (try dsimp only at hSw); go_simp; (try with_reducible rfl)); rotate_left); simp only [Act.put, List.setIfInBounds_toArray, List.set_cons_zero, List.set_cons_succ]
    refine lin_take (v := ?_) (by kernel_rfl) (by kernel_rfl) (fun _ _ _ h => h) (Or.inl ⟨by rfl, ?_⟩) (by assumption) ?_; (rotate_left; (intro wS hSw; (try dsimp only at hSw); go_simp; (try with_reducible rfl)); rotate_left); simp only [Act.put, List.setIfInBounds_toArray, List.set_cons_zero, List.set_cons_succ]
    refine lin_take (v := ?_) (by kernel_rfl) (by kernel_rfl) (fun _ _ _ h => h) (Or.inl ⟨by rfl, ?_⟩) (by assumption) ?_; (rotate_left; (intro wS hSw; (try dsimp only at hSw); go_simp; (try with_reducible rfl)); rotate_left); simp only [Act.put, List.setIfInBounds_toArray, List.set_cons_zero, List.set_cons_succ]
    refine lin_rot ?_; simp only [List.cons_append, List.nil_append]
    refine lin_take (v := ?_) (by kernel_rfl) (by kernel_rfl) (fun _ _ _ h => h) (Or.inl ⟨by rfl, ?_⟩) (by assumption) ?_; (rotate_left; (intro wS hSw; (try dsimp only at hSw); go_simp; (try with_reducible rfl)); rotate_left); simp only [Act.put, List.setIfInBounds_toArray, List.set_cons_zero, List.set_cons_succ]
    refine lin_take (v := ?_) (by kernel_rfl) (by kernel_rfl) (fun _ _ _ h => h) (Or.inl ⟨by rfl, ?_⟩) (by assumption) ?_; (rotate_left; (intro wS hSw; (try dsimp only at hSw); go_simp; (try with_reducible rfl)); rotate_left); simp only [Act.put, List.setIfInBounds_toArray, List.set_cons_zero, List.set_cons_succ]
    refine lin_rot ?_; simp only [List.cons_append, List.nil_append]
    refine lin_rot ?_; simp only [List.cons_append, List.nil_append]
    refine lin_sole (by kernel_rfl) (fun K hK => ?_)
    go_simp
    refine (put_as [72, 82] 1 1 _ (by decide) 1 (by decide)).mono ?_
    rintro e w3 ⟨s1, rfl, e3, l3, hb3⟩
    have hO3 := hB.grow hb3
    simp only [List.length_cons, List.length_nil] at l3
    refine hK.out _ _ ?_ (fun hHeld => ?_)
    · exact ⟨(cells2f 0 hO3 rfl).1.1, (cells2f 0 hO3 rfl).2.1⟩
    try simp only [Act.put, List.setIfInBounds_toArray, List.set_cons_zero, List.set_cons_succ]
    refine lin_sole (by kernel_rfl) (fun K hK => ?_)
    go_simp
    refine (put_as s1 fs.length 1 _ (by omega) 1 (by decide)).mono ?_
    rintro e w4 ⟨s2, rfl, e4, l4, hb4⟩
    have hO4 := hO3.grow hb4
    refine hK.out _ _ ?_ (fun hHeld => ?_)
    · exact ⟨(cells2f 0 hO4 rfl).1.1, (cells2f 0 hO4 rfl).2.1⟩
    try simp only [Act.put, List.setIfInBounds_toArray, List.set_cons_zero, List.set_cons_succ]
    refine lin_sole (by kernel_rfl) (fun K hK => ?_)
    go_simp
    refine (put_as s2 mem 2 _ (by omega) 2 (by decide)).mono ?_
    rintro e w5 ⟨s3, rfl, e5, l5, hb5⟩
    have hO5 := hO4.grow hb5
    refine hK.out _ _ ?_ (fun hHeld => ?_)
    · exact ⟨(cells2f 0 hO5 rfl).1.1, (cells2f 0 hO5 rfl).2.1⟩
    try simp only [Act.put, List.setIfInBounds_toArray, List.set_cons_zero, List.set_cons_succ]
    refine lin_take (v := ?_) (by kernel_rfl) (by kernel_rfl) (fun _ _ _ h => h) (Or.inl ⟨by rfl, ?_⟩) (by assumption) ?_; (rotate_left; (intro wS hSw; (try dsimp only at hSw); go_simp; (try with_reducible rfl)); rotate_left); simp only [Act.put, List.setIfInBounds_toArray, List.set_cons_zero, List.set_cons_succ]
    refine lin_done (by kernel_rfl) ?_
    have hS3 : Hid (s3 = headB mem fs.length ++ (fs.take 0).flatMap funcB) := Lib.hid (by rw [e5.out, e4.out, e3.out]; rfl)
    clear hS0 hHeld hB hO3 e3 hb3 hO4 hO2 e4 e5 hb4 hb5
    have y0 := (cells2f 0 hO5 rfl).1.1
    have y1 := (cells2f 0 hO5 rfl).2.1
    have l6 : s3.length = 6 := by omega
    clear l4 l5 l3
    go_wp2_with fail
    go_loopw [5, 28] (fun v i wr => ∃ (r : Nat) (S : List UInt8), r ≤ fs.length ∧ i = .int .i64 r ∧ v = .string ⟨S.toArray⟩ ∧ Hid (S = headB mem fs.length ++ (fs.take r).flatMap funcB) ∧ S.length ≤ 6 + 802 * r ∧ Own w wr [cellsA pb #[.int .i64 mem, .slice ao fs.length cap] 42]) (fun _ i _ => (fs.length - intOf i).toNat)
    case atStart => exact ⟨0, s3, by omega, rfl, rfl, hS3, by omega, hO5⟩
    case round =>
      clear hO5 y0 y1 hS3 l6
      obtain ⟨r, S, hr, rfl, rfl, hS, hSl, hO⟩ := hrel
      have y0 := (cells2f 0 hO rfl).1.1
      have y1 := (cells2f 0 hO rfl).2.1
      by_cases hlt : r < fs.length
      · obtain ⟨l, hl⟩ : ∃ l, fs.getD r [] = l := ⟨_, rfl⟩
        have hlm := Lib.hid (funcs_ok hs2.out l (mem_getD hlt hl))
        have hnx := Lib.hid (funcB_next hlt hl)
        obtain ⟨g, off, bo, d, rfl, hx, hL⟩ := (h.below hO.below).get hlt
        rw [hl] at hx hL
        clear hl
        have ld1 := hL.1
        have ld2 := hL.2.1
        unfold maxLen at ld2
        obtain ⟨hm1, hbd, _⟩ := func_ok hlm.out
        have hm2 := (many_ok.1 hm1).2
        have hck := Lib.hid (fun x hx => (body_ok hbd x hx).1)
        clear hm1 hbd
        have PT := Lib.hid (put_as S l.length 2 _ (by omega) 2 (by decide) : Calls Try.prog 52 #[.string ⟨S.toArray⟩, .int .i64 l.length, .int .i64 2] wr _)
        go_wp2_with (go_at_call 52; refine PT.out.mono ?_; rintro e w4 ⟨S1, rfl, hS1, hSl1, hb4⟩; have hO4 := hO.grow hb4; have z0 := (cells2f 0 hO4 rfl).1.1; have z1 := (cells2f 0 hO4 rfl).2.1; have hx4 := (cell_old hb4 _ (by rw [hx]; rfl)).trans hx)
        have hS1' : Hid (S1 = (S ++ low l.length 2) ++ codeB (l.take 0)) := Lib.hid (by rw [hS1.out]; simp [codeB])
        have hL4 := hL.below hb4
        have hT : Below w4.heap.size w4 w4 := Below.refl _ _
        clear hb4 hL hO y0 y1 PT hS1 hx
        generalize hwo : wr = wo at *
        clear hwo
        go_loopw [5, 38] (fun v i wr => ∃ (q : Nat) (S2 : List UInt8), q ≤ l.length ∧ i = .int .i64 q ∧ v = .string ⟨S2.toArray⟩ ∧ Hid (S2 = (S ++ low l.length 2) ++ codeB (l.take q)) ∧ S2.length ≤ S.length + 2 + 4 * q ∧ Own w wr [cellsA pb #[.int .i64 mem, .slice (some ⟨g, off, none⟩) fs.length cap] 42] ∧ Below w4.heap.size w4 wr) (fun _ i _ => (l.length - intOf i).toNat)
        case atStart => exact ⟨0, S1, by omega, rfl, rfl, hS1', by omega, hO4, hT⟩
        case round =>
          clear hO4 z0 z1 hS1' hSl1 hT
          obtain ⟨q, S2, hq, rfl, rfl, hS2, hSl2, hO5, hbq⟩ := hrel
          have y0 := (cells2f 0 hO5 rfl).1.1
          have y1 := (cells2f 0 hO5 rfl).2.1
          have hx5 := (cell_old hbq _ (by rw [hx4]; rfl)).trans hx4
          by_cases hlt2 : q < l.length
          · obtain ⟨⟨o, a, b, c⟩, hX⟩ : ∃ x, l.getD q (0, 0, 0, 0) = x := ⟨_, rfl⟩
            have hc0 : Hid (checkI o a b c = 0) := Lib.hid (hck.out _ (mem_getD hlt2 hX))
            have hrg := Lib.hid (check_range hc0.out)
            have hcn := Lib.hid (codeB_next hlt2 hX)
            obtain ⟨g2, off2, rfl, hF⟩ := (hL4.below hbq).get hlt2
            rw [hX] at hF
            obtain ⟨x0, x1, x2, x3⟩ := hF
            simp only at x0 x1 x2 x3
            clear hX
            have IP := Lib.hid (fun w5 => put_ok o a b c hc0.out w5)
            have h4l : (putI o a b c).length = 4 := put_len
            have hp4 : put4 (o, a, b, c) = putI o a b c := rfl
            generalize putI o a b c = T at *
            rw [hp4] at hcn
            clear hp4
            go_wp2_with fail
            have hO6 := hO5.box #[.int .i64 o, .int .i64 a, .int .i64 b, .int .i64 c] 30
            have hbx : Below wr.heap.size wr (wr.alloc (.cells #[.int .i64 o, .int .i64 a, .int .i64 b, .int .i64 c] 30)) := by go_grown
            generalize wr.alloc (.cells #[.int .i64 o, .int .i64 a, .int .i64 b, .int .i64 c] 30) = u at *
            go_wp2_with (go_at_call 21; refine (IP.out _).mono ?_; rintro e w6 ⟨rfl, hb6⟩; have hO7 := hO6.grow hb6; have t0 := (cells2f 0 hO7 rfl).1.1; have t1 := (cells2f 0 hO7 rfl).2.1)
            first | rw [ba_app] | skip
            go_roundw
            case rel => exact ⟨q + 1, S2 ++ T, by omega, by go_num, by first | rfl | (rw [ba_app]) | simp [ba_app], Lib.hid (by rw [hS2.out, hcn.out]; simp), by rw [List.length_append, h4l]; omega, hO7.sub (by simp), below_chain hbq (below_chain hbx hb6)⟩
            case measure => simp [intOf]; omega
          · obtain rfl : q = l.length := by omega
            go_wp2
            go_roundw
            case rel => exact ⟨r + 1, S2, by omega, by go_num, rfl, Lib.hid (by rw [hS2.out, hnx.out, hS.out, List.take_length]; simp [funcB]), by omega, hO5⟩
            case measure => simp [intOf]; omega
      · obtain rfl : r = fs.length := by omega
        have hSp : Hid (S = putP mem fs) := Lib.hid (by rw [hS.out, List.take_length]; rfl)
        go_wp2
        rw [← hSp.out]
        exact bodyPost_ret (v := .tuple #[.string ⟨S.toArray⟩, .int .i64 0]) (by simp [results, Try.results29, go_sem]) rfl ⟨rfl, hO.below⟩
  · have hps : putS mem fs = [] := by unfold putS; rw [if_neg (by rw [hE]; exact h0)]
    rw [hps, hE]
    have hne : (E != 0) = true := by simpa using h0
    clear hps hE
    go_enter Try.func29, Try.ntmps29
    go_wp2_with (go_at_call 33; refine (C.out _ hO.below).mono ?_; rintro e w2 ⟨rfl, hb2⟩)
    exact bodyPost_ret (v := .tuple #[.string ⟨#[]⟩, .int .i64 E]) (by simp [results, Try.results29, go_sem]) rfl ⟨rfl, below_chain hO.below hb2⟩
theorem prput_any (mem : Int) (fs : List (List I4)) (ao : Option Addr) (cap : Nat) (w : World) (h : LiesF w ao cap fs) : Calls Try.prog 31 #[.agg #[.int .i64 mem, .slice ao fs.length cap]] w fun e w' => e = .returned (.tuple #[.string ⟨(putS mem fs).toArray⟩, .int .i64 (checkP mem fs)]) ∧ Below w.heap.size w w' := by
  have hc := h.1
  have hc2 := h.2.1
  unfold maxLen at hc2
  have hO := (Own.nil (Below.refl _ w)).box #[.int .i64 mem, .slice ao fs.length cap] 42
  have y0 := (cells2f 0 hO rfl).1.1
  have y1 := (cells2f 0 hO rfl).2.1
  obtain ⟨E, hE⟩ : ∃ E, checkP mem fs = E := ⟨_, rfl⟩
  have C := fun w1 hb => prcheck_any mem fs ao cap w1 (h.below (w' := w1) hb)
  rw [hE] at C
  replace C := Lib.hid C
  by_cases h0 : E = 0
  · subst h0
    have hps : putS mem fs = putP mem fs := by unfold putS; rw [if_pos hE]
    rw [hps, hE]
    clear hps
    obtain ⟨hs1, hs2⟩ := check_parts hE
    obtain ⟨m0, m1, n0, n1⟩ := sizes_ok hs1
    replace hs2 := Lib.hid hs2
    clear hE hs1
    go_enter Try.func31, Try.ntmps31
    go_wp2_with fail
    go_at_call 37
    refine (C.out _ hO.below).mono ?_
    rintro e w2 ⟨rfl, hb2⟩
    have hO2 := hO.grow hb2
    generalize hpb : w.heap.size = pb at hO2 y0 y1 ⊢
    clear y0 y1 hO hb2 C hpb
    have y0 := (cells2f 0 hO2 rfl).1.1
    have y1 := (cells2f 0 hO2 rfl).2.1
    go_wp2_with fail
    have hB := hO2.drewN 1
    have hS0 : (fun w' : World => w'.cell? ⟨pb, 0, none⟩ = some (.int .i64 mem) ∧ w'.cell? ⟨pb, 1, none⟩ = some (.slice ao fs.length cap)) w2.drew := ⟨y0, y1⟩
    clear y0 y1
    refine lin_start (S := (fun w' : World => w'.cell? ⟨pb, 0, none⟩ = some (.int .i64 mem) ∧ w'.cell? ⟨pb, 1, none⟩ = some (.slice ao fs.length cap))) rfl 8 rfl hS0 ?_
    simp only [numbered, Nat.zero_add, Nat.reduceAdd]
    refine lin_take (v := ?_) (by kernel_rfl) (by kernel_rfl) (fun _ _ _ h => h) (Or.inl ⟨by rfl, ?_⟩) (by assumption) ?_; (rotate_left; (intro wS hSw; (try dsimp only at hSw); go_simp; (try with_reducible rfl)); rotate_left); simp only [Act.put, List.setIfInBounds_toArray, List.set_cons_zero, List.set_cons_succ]
    refine lin_take (v := ?_) (by kernel_rfl) (by kernel_rfl) (fun _ _ _ h => h) (Or.inl ⟨by rfl, ?_⟩) (by assumption) ?_; (rotate_left; (intro wS hSw; (try dsimp only at hSw); go_simp; (try with_reducible rfl)); rotate_left); simp only [Act.put, List.setIfInBounds_toArray, List.set_cons_zero, List.set_cons_succ]
    refine lin_take (v := ?_) (by kernel_rfl) (by kernel_rfl) (fun _ _ _ h => h) (Or.inl ⟨by rfl, ?_⟩) (by assumption) ?_; (rotate_left; (intro wS hSw; (try dsimp only at hSw); go_simp; (try with_reducible rfl)); rotate_left); simp only [Act.put, List.setIfInBounds_toArray, List.set_cons_zero, List.set_cons_succ]
    refine lin_rot ?_; simp only [List.cons_append, List.nil_append]
    refine lin_take (v := ?_) (by kernel_rfl) (by kernel_rfl) (fun _ _ _ h => h) (Or.inl ⟨by rfl, ?_⟩) (by assumption) ?_; (rotate_left; (intro wS hSw; (try dsimp only at hSw); go_simp; (try with_reducible rfl)); rotate_left); simp only [Act.put, List.setIfInBounds_toArray, List.set_cons_zero, List.set_cons_succ]
    refine lin_take (v := ?_) (by kernel_rfl) (by kernel_rfl) (fun _ _ _ h => h) (Or.inl ⟨by rfl, ?_⟩) (by assumption) ?_; (rotate_left; (intro wS hSw; (try dsimp only at hSw); go_simp; (try with_reducible rfl)); rotate_left); simp only [Act.put, List.setIfInBounds_toArray, List.set_cons_zero, List.set_cons_succ]
    refine lin_rot ?_; simp only [List.cons_append, List.nil_append]
    refine lin_rot ?_; simp only [List.cons_append, List.nil_append]
    refine lin_sole (by kernel_rfl) (fun K hK => ?_)
    go_simp
    refine (rput_as [72, 82, 1] fs.length 1 _ (by decide) (by omega) (by omega) 1 (by decide)).mono ?_
    rintro e w4 ⟨s2, rfl, e4, l4, hb4⟩
    have hO4 := hB.grow hb4
    simp only [List.length_cons, List.length_nil] at l4
    refine hK.out _ _ ?_ (fun hHeld => ?_)
    · exact ⟨(cells2f 0 hO4 rfl).1.1, (cells2f 0 hO4 rfl).2.1⟩
    try simp only [Act.put, List.setIfInBounds_toArray, List.set_cons_zero, List.set_cons_succ]
    refine lin_sole (by kernel_rfl) (fun K hK => ?_)
    go_simp
    refine (rput_as s2 mem 2 _ (by omega) (by omega) (by omega) 2 (by decide)).mono ?_
    rintro e w5 ⟨s3, rfl, e5, l5, hb5⟩
    have hO5 := hO4.grow hb5
    refine hK.out _ _ ?_ (fun hHeld => ?_)
    · exact ⟨(cells2f 0 hO5 rfl).1.1, (cells2f 0 hO5 rfl).2.1⟩
    try simp only [Act.put, List.setIfInBounds_toArray, List.set_cons_zero, List.set_cons_succ]
    refine lin_take (v := ?_) (by kernel_rfl) (by kernel_rfl) (fun _ _ _ h => h) (Or.inl ⟨by rfl, ?_⟩) (by assumption) ?_; (rotate_left; (intro wS hSw; (try dsimp only at hSw); go_simp; (try with_reducible rfl)); rotate_left); simp only [Act.put, List.setIfInBounds_toArray, List.set_cons_zero, List.set_cons_succ]
    refine lin_done (by kernel_rfl) ?_
    have hS3 : Hid (s3 = headB mem fs.length ++ (fs.take 0).flatMap funcB) := Lib.hid (by rw [e5.out, e4.out]; rfl)
    clear hS0 hHeld hB  hO4 hO2 e4 e5 hb4 hb5
    have y0 := (cells2f 0 hO5 rfl).1.1
    have y1 := (cells2f 0 hO5 rfl).2.1
    have l6 : s3.length = 6 := by omega
    clear l4 l5 
    go_wp2_with fail
    go_loopw [5, 6] (fun v i wr => ∃ (r : Nat) (S : List UInt8), r ≤ fs.length ∧ i = .int .i64 r ∧ v = .string ⟨S.toArray⟩ ∧ Hid (S = headB mem fs.length ++ (fs.take r).flatMap funcB) ∧ S.length ≤ 6 + 802 * r ∧ Own w wr [cellsA pb #[.int .i64 mem, .slice ao fs.length cap] 42]) (fun _ i _ => (fs.length - intOf i).toNat)
    case atStart => exact ⟨0, s3, by omega, rfl, rfl, hS3, by omega, hO5⟩
    case round =>
      clear hO5 y0 y1 hS3 l6
      obtain ⟨r, S, hr, rfl, rfl, hS, hSl, hO⟩ := hrel
      have y0 := (cells2f 0 hO rfl).1.1
      have y1 := (cells2f 0 hO rfl).2.1
      by_cases hlt : r < fs.length
      · obtain ⟨l, hl⟩ : ∃ l, fs.getD r [] = l := ⟨_, rfl⟩
        have hlm := Lib.hid (funcs_ok hs2.out l (mem_getD hlt hl))
        have hnx := Lib.hid (funcB_next hlt hl)
        obtain ⟨g, off, bo, d, rfl, hx, hL⟩ := (h.below hO.below).get hlt
        rw [hl] at hx hL
        clear hl
        have ld1 := hL.1
        have ld2 := hL.2.1
        unfold maxLen at ld2
        obtain ⟨hm1, hbd, _⟩ := func_ok hlm.out
        have hm2 := (many_ok.1 hm1).2
        have hck := Lib.hid (fun x hx => (body_ok hbd x hx).1)
        clear hm1 hbd
        have PT := Lib.hid (rput_as S l.length 2 _ (by omega) (by omega) (by omega) 2 (by decide) : Calls Try.prog 54 #[.string ⟨S.toArray⟩, .int .i64 l.length, .int .i64 2] wr _)
        go_wp2_with (go_at_call 54; refine PT.out.mono ?_; rintro e w4 ⟨S1, rfl, hS1, hSl1, hb4⟩; have hO4 := hO.grow hb4; have z0 := (cells2f 0 hO4 rfl).1.1; have z1 := (cells2f 0 hO4 rfl).2.1; have hx4 := (cell_old hb4 _ (by rw [hx]; rfl)).trans hx)
        have hS1' : Hid (S1 = (S ++ low l.length 2) ++ codeB (l.take 0)) := Lib.hid (by rw [hS1.out]; simp [codeB])
        have hL4 := hL.below hb4
        have hT : Below w4.heap.size w4 w4 := Below.refl _ _
        clear hb4 hL hO y0 y1 PT hS1 hx
        generalize hwo : wr = wo at *
        clear hwo
        go_loopw [5, 7] (fun v i wr => ∃ (q : Nat) (S2 : List UInt8), q ≤ l.length ∧ i = .int .i64 q ∧ v = .string ⟨S2.toArray⟩ ∧ Hid (S2 = (S ++ low l.length 2) ++ codeB (l.take q)) ∧ S2.length ≤ S.length + 2 + 4 * q ∧ Own w wr [cellsA pb #[.int .i64 mem, .slice (some ⟨g, off, none⟩) fs.length cap] 42] ∧ Below w4.heap.size w4 wr) (fun _ i _ => (l.length - intOf i).toNat)
        case atStart => exact ⟨0, S1, by omega, rfl, rfl, hS1', by omega, hO4, hT⟩
        case round =>
          clear hO4 z0 z1 hS1' hSl1 hT
          obtain ⟨q, S2, hq, rfl, rfl, hS2, hSl2, hO5, hbq⟩ := hrel
          have y0 := (cells2f 0 hO5 rfl).1.1
          have y1 := (cells2f 0 hO5 rfl).2.1
          have hx5 := (cell_old hbq _ (by rw [hx4]; rfl)).trans hx4
          by_cases hlt2 : q < l.length
          · obtain ⟨⟨o, a, b, c⟩, hX⟩ : ∃ x, l.getD q (0, 0, 0, 0) = x := ⟨_, rfl⟩
            have hc0 : Hid (checkI o a b c = 0) := Lib.hid (hck.out _ (mem_getD hlt2 hX))
            have hrg := Lib.hid (check_range hc0.out)
            have hcn := Lib.hid (codeB_next hlt2 hX)
            obtain ⟨g2, off2, rfl, hF⟩ := (hL4.below hbq).get hlt2
            rw [hX] at hF
            obtain ⟨x0, x1, x2, x3⟩ := hF
            simp only at x0 x1 x2 x3
            clear hX
            have IP := Lib.hid (fun w5 => rputi_ok o a b c hc0.out w5 (by have := hrg.out; omega) (by have := hrg.out; omega) (by have := hrg.out; omega))
            have h4l : (putI o a b c).length = 4 := put_len
            have hp4 : put4 (o, a, b, c) = putI o a b c := rfl
            generalize putI o a b c = T at *
            rw [hp4] at hcn
            clear hp4
            have hO6 := hO5
            go_wp2_with (go_at_call 22; refine (IP.out _).mono ?_; rintro e w6 ⟨rfl, hb6⟩; have hO7 := hO6.grow hb6; have t0 := (cells2f 0 hO7 rfl).1.1; have t1 := (cells2f 0 hO7 rfl).2.1)
            first | rw [ba_app] | skip
            go_roundw
            case rel => exact ⟨q + 1, S2 ++ T, by omega, by go_num, by first | rfl | (rw [ba_app]) | simp [ba_app], Lib.hid (by rw [hS2.out, hcn.out]; simp), by rw [List.length_append, h4l]; omega, hO7.sub (by simp), below_chain hbq (hb6)⟩
            case measure => simp [intOf]; omega
          · obtain rfl : q = l.length := by omega
            go_wp2
            go_roundw
            case rel => exact ⟨r + 1, S2, by omega, by go_num, rfl, Lib.hid (by rw [hS2.out, hnx.out, hS.out, List.take_length]; simp [funcB]), by omega, hO5⟩
            case measure => simp [intOf]; omega
      · obtain rfl : r = fs.length := by omega
        have hSp : Hid (S = putP mem fs) := Lib.hid (by rw [hS.out, List.take_length]; rfl)
        go_wp2
        rw [← hSp.out]
        exact bodyPost_ret (v := .tuple #[.string ⟨S.toArray⟩, .int .i64 0]) (by simp [results, Try.results31, go_sem]) rfl ⟨rfl, hO.below⟩
  · have hps : putS mem fs = [] := by unfold putS; rw [if_neg (by rw [hE]; exact h0)]
    rw [hps, hE]
    have hne : (E != 0) = true := by simpa using h0
    clear hps hE
    go_enter Try.func31, Try.ntmps31
    go_wp2_with (go_at_call 37; refine (C.out _ hO.below).mono ?_; rintro e w2 ⟨rfl, hb2⟩)
    exact bodyPost_ret (v := .tuple #[.string ⟨#[]⟩, .int .i64 E]) (by simp [results, Try.results31, go_sem]) rfl ⟨rfl, below_chain hO.below hb2⟩
end Go.Proofs.Ytboiogjklecpaaa
