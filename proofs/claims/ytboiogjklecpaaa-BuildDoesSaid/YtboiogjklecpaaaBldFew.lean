/- Package build: the statement's steps as they come in; few of them. -/
import Derived.Test.YtboiogjklecpaaaBldOps
import Derived.Test.YtboiogjklecpaaaArgs
import Derived.Test.YtboiogjklecpaaaLin
set_option linter.unusedVariables false
set_option linter.unusedSimpArgs false
namespace Go.Proofs.Ytboiogjklecpaaa
open Go.RowKit
set_option maxRecDepth 100000
set_option maxHeartbeats 4000000
abbrev RO := Int × Int × ByteArray × I4
def roC (x : RO) : List Value := [.int .i64 x.1, .int .i64 x.2.1, .string x.2.2.1, .int .i64 x.2.2.2.1, .int .i64 x.2.2.2.2.1, .int .i64 x.2.2.2.2.2.1, .int .i64 x.2.2.2.2.2.2]
def roD : RO := (0, 0, ⟨#[]⟩, (0, 0, 0, 0))
theorem Try.infoOp7 : (Try.prog.info? 68).map (fun i => (i.zero, i.size, i.bytes)) = some (some (.agg #[.int .i64 0, .int .i64 0, .string ⟨#[]⟩, .int .i64 0, .int .i64 0, .int .i64 0, .int .i64 0]), 7, 64) := by kernel_rfl
theorem fieldsOp : fieldsOf Try.prog 101 = some [(3, 0), (3, 1), (9, 2), (30, 3)] := by kernel_rfl
theorem ro_reads {w : World} {cs : List Value} (hl : cs.length = 7) (h : Reads Try.prog w 101 cs) : ∃ x : RO, cs = roC x ∧ (Lit.int .i64 x.1).wf = true := by
  obtain ⟨_, h2⟩ := h.fields fieldsOp
  have r0 := h2 0 _ _ rfl
  have r1 := h2 1 _ _ rfl
  have r2 := h2 2 _ _ rfl
  have r3 := h2 3 _ _ rfl
  rw [show Try.prog.cellsOf 3 = 1 by kernel_rfl] at r0 r1
  rw [show Try.prog.cellsOf 9 = 1 by kernel_rfl] at r2
  rw [show Try.prog.cellsOf 30 = 4 by kernel_rfl] at r3
  obtain ⟨a, ha, hwa⟩ := r0.int Try.underlying3
  obtain ⟨b, hb, _⟩ := r1.int Try.underlying3
  obtain ⟨s, hs, _⟩ := r2.string Try.underlying9
  obtain ⟨xs, hx, hxl, _⟩ := r3.intFields (ti := 3) 4 fieldsIns Try.underlying3 (by kernel_rfl) (by kernel_rfl)
  obtain ⟨p, q, r, t, rfl⟩ := len4 hxl
  refine ⟨(a, b, ⟨s.toArray⟩, (p, q, r, t)), ?_, hwa⟩
  match cs, hl with
  | [c0, c1, c2, c3, c4, c5, c6], _ =>
    simp at ha hb hs hx
    obtain ⟨rfl, rfl, rfl, rfl⟩ := hx
    subst ha hb hs
    rfl
theorem Arg.rops {w : World} {v : Value} (h : Arg Try.prog w 60 v) : ∃ (ao : Option Addr) (cap : Nat) (xs : List RO), v = .slice ao xs.length cap ∧ xs.length ≤ cap ∧ cap ≤ maxLen ∧ ∀ i, i < xs.length → ∃ g off, ao = some ⟨g, off, none⟩ ∧ (∀ j, j < 7 → w.cell? ⟨g, off + i * 7 + j, none⟩ = (roC (xs.getD i roD))[j]?) := by
  obtain ⟨ao, cap, xs, h1, h2, h3, h4, h5, h6⟩ := h.elems roD 7 roC (fun _ => True) Try.underlying60 (by kernel_rfl) (fun cs hl hr => (ro_reads hl hr).imp fun x hx => ⟨hx.1, trivial⟩)
  refine ⟨ao, cap, xs, h1, h2, h3, fun i hi => ?_⟩
  obtain ⟨ad, had, hj0⟩ := h6 0 (by omega)
  have hc0 := hj0 0 (by omega)
  obtain ⟨g, off, spot⟩ := ad
  have hspot : spot = none := by
    have e0 : (roC (xs.getD 0 roD))[0]? = some (.int .i64 (xs.getD 0 roD).1) := rfl
    rw [e0] at hc0
    simpa [Addr.add] using World.cell?_spot hc0
  subst hspot
  obtain ⟨ad2, had2, hj⟩ := h6 i hi
  rw [had] at had2
  cases had2
  refine ⟨g, off, had, fun j hjn => ?_⟩
  have := hj j hjn
  rwa [Addr.add_lit, ← Nat.add_assoc] at this
def FewOk (os : List BO) : Prop := ∀ o ∈ os, o.kind ≤ 4 ∧ o.name.size ≤ 100
theorem few_any (ao : Option Addr) (cap : Nat) (xs : List RO) (w : World) (h1 : xs.length ≤ cap) (h2 : cap ≤ maxLen) (h : ∀ i, i < xs.length → ∃ g off, ao = some ⟨g, off, none⟩ ∧ (∀ j, j < 7 → w.cell? ⟨g, off + i * 7 + j, none⟩ = (roC (xs.getD i roD))[j]?)) :
    Calls Try.prog 45 #[.slice ao xs.length cap] w fun e w' => (e = .returned (.tuple #[.slice none 0 0, .bool false]) ∧ Below w.heap.size w w') ∨ (∃ (os : List BO) (oa : Option Addr) (oc : Nat), e = .returned (.tuple #[.slice oa os.length oc, .bool true]) ∧ os.length ≤ 300 ∧ FewOk os ∧ Own w w' [rowA 68 7 (.slice oa os.length oc) os.length (opL os)]) := by
  obtain ⟨i1, hi1, hz0, hz1, hz2⟩ := info_parts' Try.infoOp7
  unfold maxLen at h2
  replace h := Lib.hid h
  have hO0 : Own w w [rowA 68 7 (.slice none 0 0) 0 []] := (Own.nil (Below.refl _ w)).push (Below.refl _ _) (rowA 68 7 (.slice none 0 0) 0 []) (Row.nil _ _ _) (by rintro k ⟨⟩)
  go_enter Try.func45, Try.ntmps45
  go_wp2_with fail
  go_loopw [4, 5] (fun vo vi wr => ∃ (r N : Nat) (os : List BO) (oa : Option Addr) (oc : Nat), r ≤ xs.length ∧ r ≤ 300 ∧ vi = .int .i64 r ∧ os.length = N ∧ N ≤ r ∧ vo = .slice oa N oc ∧ Hid (FewOk os) ∧ Own w wr [rowA 68 7 (.slice oa N oc) N (opL os)]) (fun _ i _ => (xs.length - intOf i).toNat)
  case atStart => exact ⟨0, 0, [], none, 0, by omega, by omega, rfl, rfl, by omega, rfl, Lib.hid (fun o ho => by cases ho), hO0⟩
  case round =>
    clear hO0
    obtain ⟨r, N, os, oa, oc, hr, hr3, rfl, hol, hN, rfl, hok, hO⟩ := hrel
    by_cases hlt : r < xs.length
    · by_cases h300 : 300 ≤ r
      · have h300' : (300 : Int) ≤ (r : Int) := by omega
        go_wp2
        go_ret2
        exact .inl ⟨rfl, hO.below⟩
      obtain ⟨g, off, rfl, hc⟩ := h.out r hlt
      have h300' : ¬ (300 : Int) ≤ (r : Int) := by omega
      obtain ⟨x, hx⟩ : ∃ x, xs.getD r roD = x := ⟨_, rfl⟩
      rw [hx] at hc
      clear hx
      have p0 := hc 0 (by omega)
      have p1 := hc 1 (by omega)
      have p2 := hc 2 (by omega)
      have p3 := hc 3 (by omega)
      have p4 := hc 4 (by omega)
      have p5 := hc 5 (by omega)
      have p6 := hc 6 (by omega)
      simp [roC] at p0 p1 p2 p3 p4 p5 p6
      clear hc
      have q1 := Lib.hid p1
      have q2 := Lib.hid p2
      have q3 := Lib.hid p3
      have q4 := Lib.hid p4
      have q5 := Lib.hid p5
      have q6 := Lib.hid p6
      replace p0 := hO.old p0
      replace p2 := hO.old p2
      clear p1 p3 p4 p5 p6
      by_cases hbig : 100 < x.2.2.1.size
      · have hbig2 : (100 : Int) < (x.2.2.1.size : Int) := by omega
        go_wp2
        go_ret2
        exact .inl ⟨rfl, hO.below⟩
      have hbig2 : ¬ (100 : Int) < (x.2.2.1.size : Int) := by omega
      by_cases hk0 : 0 ≤ x.1
      · by_cases hk4 : x.1 ≤ 4
        · obtain ⟨k, hk⟩ : ∃ k : Nat, x.1 = (k : Int) := ⟨x.1.toNat, by omega⟩
          rw [hk] at p0
          have hk1 : (0 : Int) ≤ (k : Int) := by omega
          have hk2 : (k : Int) ≤ 4 := by omega
          have hok2 := Lib.hid (show FewOk (os ++ [⟨k, x.2.1, x.2.2.1, x.2.2.2⟩]) from by
            intro o ho
            rcases List.mem_append.1 ho with ho | ho
            · exact hok.out o ho
            · simp at ho; subst ho; exact ⟨by show k ≤ 4; omega, by show x.2.2.1.size ≤ 100; omega⟩)
          have hlti : (r : Int) < (xs.length : Int) := by omega
          clear hk0 hk4 hok
          go_upto_region 9 with fail
          generalize hww : wr = w2 at *
          clear hww p0 p2
          have hO' : Own w w2.drew _ := hO.drewN 1
          have hS0 : (fun w' : World => w'.cell? ⟨g, off + r * 7 + 1, none⟩ = some (.int .i64 x.2.1) ∧ w'.cell? ⟨g, off + r * 7 + 2, none⟩ = some (.string x.2.2.1) ∧ w'.cell? ⟨g, off + r * 7 + 3, none⟩ = some (.int .i64 x.2.2.2.1) ∧ w'.cell? ⟨g, off + r * 7 + 4, none⟩ = some (.int .i64 x.2.2.2.2.1) ∧ w'.cell? ⟨g, off + r * 7 + 5, none⟩ = some (.int .i64 x.2.2.2.2.2.1) ∧ w'.cell? ⟨g, off + r * 7 + 6, none⟩ = some (.int .i64 x.2.2.2.2.2.2)) w2.drew := ⟨hO'.old q1.out, hO'.old q2.out, hO'.old q3.out, hO'.old q4.out, hO'.old q5.out, hO'.old q6.out⟩
          clear hO
          have hO := hO'
          clear hO'
          generalize hwd : w2.drew = w3 at hO hS0
          rw [← hwd] at hO hS0
          clear hwd
          refine lin_start (S := (fun w' : World => w'.cell? ⟨g, off + r * 7 + 1, none⟩ = some (.int .i64 x.2.1) ∧ w'.cell? ⟨g, off + r * 7 + 2, none⟩ = some (.string x.2.2.1) ∧ w'.cell? ⟨g, off + r * 7 + 3, none⟩ = some (.int .i64 x.2.2.2.1) ∧ w'.cell? ⟨g, off + r * 7 + 4, none⟩ = some (.int .i64 x.2.2.2.2.1) ∧ w'.cell? ⟨g, off + r * 7 + 5, none⟩ = some (.int .i64 x.2.2.2.2.2.1) ∧ w'.cell? ⟨g, off + r * 7 + 6, none⟩ = some (.int .i64 x.2.2.2.2.2.2))) rfl 21 rfl hS0 ?_
          simp only [numbered, Nat.zero_add, Nat.reduceAdd]
          refine lin_take (v := ?_) (by kernel_rfl) (by kernel_rfl) (fun _ _ _ h => h) (Or.inl ⟨by rfl, ?_⟩) (by assumption) ?_; (rotate_left; (intro wS hSw; (try dsimp only at hSw); go_simp; (try with_reducible rfl)); rotate_left); simp only [Act.put, List.setIfInBounds_toArray, List.set_cons_zero, List.set_cons_succ]
          refine lin_take (v := ?_) (by kernel_rfl) (by kernel_rfl) (fun _ _ _ h => h) (Or.inl ⟨by rfl, ?_⟩) (by assumption) ?_; (rotate_left; (intro wS hSw; (try dsimp only at hSw); go_simp; (try with_reducible rfl)); rotate_left); simp only [Act.put, List.setIfInBounds_toArray, List.set_cons_zero, List.set_cons_succ]
          refine lin_take (v := ?_) (by kernel_rfl) (by kernel_rfl) (fun _ _ _ h => h) (Or.inl ⟨by rfl, ?_⟩) (by assumption) ?_; (rotate_left; (intro wS hSw; (try dsimp only at hSw); go_simp; (try with_reducible rfl)); rotate_left); simp only [Act.put, List.setIfInBounds_toArray, List.set_cons_zero, List.set_cons_succ]
          refine lin_take (v := ?_) (by kernel_rfl) (by kernel_rfl) (fun _ _ _ h => h) (Or.inl ⟨by rfl, ?_⟩) (by assumption) ?_; (rotate_left; (intro wS hSw; (try dsimp only at hSw); go_simp; (try with_reducible rfl)); rotate_left); simp only [Act.put, List.setIfInBounds_toArray, List.set_cons_zero, List.set_cons_succ]
          refine lin_take (v := ?_) (by kernel_rfl) (by kernel_rfl) (fun _ _ _ h => h) (Or.inl ⟨by rfl, ?_⟩) (by assumption) ?_; (rotate_left; (intro wS hSw; (try dsimp only at hSw); go_simp; (try with_reducible rfl)); rotate_left); simp only [Act.put, List.setIfInBounds_toArray, List.set_cons_zero, List.set_cons_succ]
          refine lin_take (v := ?_) (by kernel_rfl) (by kernel_rfl) (fun _ _ _ h => h) (Or.inl ⟨by rfl, ?_⟩) (by assumption) ?_; (rotate_left; (intro wS hSw; (try dsimp only at hSw); go_simp; (try with_reducible rfl)); rotate_left); simp only [Act.put, List.setIfInBounds_toArray, List.set_cons_zero, List.set_cons_succ]
          refine lin_take (v := ?_) (by kernel_rfl) (by kernel_rfl) (fun _ _ _ h => h) (Or.inl ⟨by rfl, ?_⟩) (by assumption) ?_; (rotate_left; (intro wS hSw; (try dsimp only at hSw); go_simp; (try with_reducible rfl)); rotate_left); simp only [Act.put, List.setIfInBounds_toArray, List.set_cons_zero, List.set_cons_succ]
          refine lin_take (v := ?_) (by kernel_rfl) (by kernel_rfl) (fun _ _ _ h => h) (Or.inl ⟨by rfl, ?_⟩) (by assumption) ?_; (rotate_left; (intro wS hSw; (try dsimp only at hSw); go_simp; (try with_reducible rfl)); rotate_left); simp only [Act.put, List.setIfInBounds_toArray, List.set_cons_zero, List.set_cons_succ]
          refine lin_take (v := ?_) (by kernel_rfl) (by kernel_rfl) (fun _ _ _ h => h) (Or.inl ⟨by rfl, ?_⟩) (by assumption) ?_; (rotate_left; (intro wS hSw; (try dsimp only at hSw); go_simp; (try with_reducible rfl)); rotate_left); simp only [Act.put, List.setIfInBounds_toArray, List.set_cons_zero, List.set_cons_succ]
          refine lin_take (v := ?_) (by kernel_rfl) (by kernel_rfl) (fun _ _ _ h => h) (Or.inl ⟨by rfl, ?_⟩) (by assumption) ?_; (rotate_left; (intro wS hSw; (try dsimp only at hSw); go_simp; (try with_reducible rfl)); rotate_left); simp only [Act.put, List.setIfInBounds_toArray, List.set_cons_zero, List.set_cons_succ]
          refine lin_take (v := ?_) (by kernel_rfl) (by kernel_rfl) (fun _ _ _ h => h) (Or.inl ⟨by rfl, ?_⟩) (by assumption) ?_; (rotate_left; (intro wS hSw; (try dsimp only at hSw); go_simp; (try with_reducible rfl)); rotate_left); simp only [Act.put, List.setIfInBounds_toArray, List.set_cons_zero, List.set_cons_succ]
          refine lin_take (v := ?_) (by kernel_rfl) (by kernel_rfl) (fun _ _ _ h => h) (Or.inl ⟨by rfl, ?_⟩) (by assumption) ?_; (rotate_left; (intro wS hSw; (try dsimp only at hSw); go_simp; (try with_reducible rfl)); rotate_left); simp only [Act.put, List.setIfInBounds_toArray, List.set_cons_zero, List.set_cons_succ]
          refine lin_take (v := ?_) (by kernel_rfl) (by kernel_rfl) (fun _ _ _ h => h) (Or.inl ⟨by rfl, ?_⟩) (by assumption) ?_; (rotate_left; (intro wS hSw; (try dsimp only at hSw); go_simp; (try with_reducible rfl)); rotate_left); simp only [Act.put, List.setIfInBounds_toArray, List.set_cons_zero, List.set_cons_succ]
          refine lin_take (v := ?_) (by kernel_rfl) (by kernel_rfl) (fun _ _ _ h => h) (Or.inl ⟨by rfl, ?_⟩) (by assumption) ?_; (rotate_left; (intro wS hSw; (try dsimp only at hSw); go_simp; (try with_reducible rfl)); rotate_left); simp only [Act.put, List.setIfInBounds_toArray, List.set_cons_zero, List.set_cons_succ]
          refine lin_take (v := ?_) (by kernel_rfl) (by kernel_rfl) (fun _ _ _ h => h) (Or.inl ⟨by rfl, ?_⟩) (by assumption) ?_; (rotate_left; (intro wS hSw; (try dsimp only at hSw); go_simp; (try with_reducible rfl)); rotate_left); simp only [Act.put, List.setIfInBounds_toArray, List.set_cons_zero, List.set_cons_succ]
          refine lin_take (v := ?_) (by kernel_rfl) (by kernel_rfl) (fun _ _ _ h => h) (Or.inl ⟨by rfl, ?_⟩) (by assumption) ?_; (rotate_left; (intro wS hSw; (try dsimp only at hSw); go_simp; (try with_reducible rfl)); rotate_left); simp only [Act.put, List.setIfInBounds_toArray, List.set_cons_zero, List.set_cons_succ]
          refine lin_take (v := ?_) (by kernel_rfl) (by kernel_rfl) (fun _ _ _ h => h) (Or.inl ⟨by rfl, ?_⟩) (by assumption) ?_; (rotate_left; (intro wS hSw; (try dsimp only at hSw); go_simp; (try with_reducible rfl)); rotate_left); simp only [Act.put, List.setIfInBounds_toArray, List.set_cons_zero, List.set_cons_succ]
          refine lin_take (v := ?_) (by kernel_rfl) (by kernel_rfl) (fun _ _ _ h => h) (Or.inl ⟨by rfl, ?_⟩) (by assumption) ?_; (rotate_left; (intro wS hSw; (try dsimp only at hSw); go_simp; (try with_reducible rfl)); rotate_left); simp only [Act.put, List.setIfInBounds_toArray, List.set_cons_zero, List.set_cons_succ]
          refine lin_sole (by kernel_rfl) (fun K hK => ?_)
          go_simp
          have hO1 := hO.alloc (.cells #[.int .i64 (k : Int), .int .i64 x.2.1, .string x.2.2.1, .int .i64 x.2.2.2.1, .int .i64 x.2.2.2.2.1, .int .i64 x.2.2.2.2.2.1, .int .i64 x.2.2.2.2.2.2] 68)
          refine hK.out _ _ ?_ (fun hHeld => ?_)
          · exact ⟨hO1.old q1.out, hO1.old q2.out, hO1.old q3.out, hO1.old q4.out, hO1.old q5.out, hO1.old q6.out⟩
          try simp only [Act.put, List.setIfInBounds_toArray, List.set_cons_zero, List.set_cons_succ]
          clear hK hHeld
          refine lin_law (by kernel_rfl) rfl ?_
          refine wpList_append_lit' _ rfl _ _ 61 rfl 68 i1 (.agg #[.int .i64 0, .int .i64 0, .string ⟨#[]⟩, .int .i64 0, .int .i64 0, .int .i64 0, .int .i64 0]) 7 64 Try.underlying61 hi1 hz0 hz1 hz2 rfl (by decide) (.slice oa N oc) N (opL os) rfl (hO.row 0 rfl) #[.int .i64 (k : Int), .int .i64 x.2.1, .string x.2.2.1, .int .i64 x.2.2.2.1, .int .i64 x.2.2.2.2.1, .int .i64 x.2.2.2.2.2.1, .int .i64 x.2.2.2.2.2.2] _ 1 _ rfl rfl rfl (by simp [Value.oneCell']) (by unfold maxLen; omega) (by omega) ?_
          intro ao2 cap2 u1 hr ht hf
          have hO2 := hO.move 0 rfl (Moves.of_append hr ht hf)
          clear hO1 hr ht hf
          refine wpList_nil ⟨rfl, ⟨hO2.old q1.out, hO2.old q2.out, hO2.old q3.out, hO2.old q4.out, hO2.old q5.out, hO2.old q6.out⟩, fun hHeld => ?_⟩
          try simp only [Act.put, List.setIfInBounds_toArray, List.set_cons_zero, List.set_cons_succ]
          refine lin_take (v := ?_) (by kernel_rfl) (by kernel_rfl) (fun _ _ _ h => h) (Or.inl ⟨by rfl, ?_⟩) (by assumption) ?_; (rotate_left; (intro wS hSw; (try dsimp only at hSw); go_simp; (try with_reducible rfl)); rotate_left); simp only [Act.put, List.setIfInBounds_toArray, List.set_cons_zero, List.set_cons_succ]
          refine lin_done (by kernel_rfl) ?_
          go_wp2_with fail
          go_round
          case rel => exact ⟨r + 1, N + 1, os ++ [⟨k, x.2.1, x.2.2.1, x.2.2.2⟩], ao2, cap2, by omega, by omega, by first | rfl | trivial | go_num, by simp [hol], by omega, rfl, hok2, (hO2.sel [0] (by decide)).cast (by simp [opL_app, opL, opC])⟩
          case measure => simp [intOf]; omega
        · go_wp2
          go_round
          case rel => exact ⟨r + 1, N, os, oa, oc, by omega, by omega, by first | rfl | trivial | go_num, hol, by omega, by first | rfl | trivial, hok, hO⟩
          case measure => simp [intOf]; omega
      · go_wp2
        go_round
        case rel => exact ⟨r + 1, N, os, oa, oc, by omega, by omega, by first | rfl | trivial | go_num, hol, by omega, by first | rfl | trivial, hok, hO⟩
        case measure => simp [intOf]; omega
    · obtain rfl : r = xs.length := by omega
      go_wp2
      go_ret2
      exact .inr ⟨os, oa, oc, by rw [hol]; rfl, by omega, hok.out, by rw [hol]; exact hO⟩
end Go.Proofs.Ytboiogjklecpaaa
