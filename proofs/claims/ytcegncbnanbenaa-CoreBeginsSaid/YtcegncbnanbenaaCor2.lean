/- Package core: New of what is right. -/
import Derived.Test.YtcegncbnanbenaaCor2a
set_option linter.unusedVariables false
set_option linter.unusedSimpArgs false
namespace Go.Proofs.Ytcegncbnanbenaa
open Go.RowKit
set_option maxRecDepth 100000
set_option maxHeartbeats 16000000
theorem core_ok {q : QP} {mem : Int} {fs : List (List I4)} {n : Nat} (h : coreE q mem fs n = 0) : checkP mem fs = 0 ∧ q.ok = true ∧ 0 ≤ q.O ∧ q.O ≤ 1000 ∧ (n : Int) ≤ mem := by
  unfold coreE at h
  by_cases h1 : checkP mem fs = 0
  · rw [if_neg (by simp [h1])] at h
    by_cases h2 : q.ok = false ∨ q.O < 0 ∨ 1000 < q.O
    · rw [if_pos h2] at h; cases h
    · rw [if_neg h2] at h
      by_cases h3 : mem < (n : Int)
      · rw [if_pos h3] at h; cases h
      · refine ⟨h1, ?_, by omega, by omega, by omega⟩
        cases hq : q.ok
        · exact absurd (.inl hq) h2
        · rfl
  · rw [if_pos h1] at h; exact absurd h h1
theorem check_bd {mem : Int} {fs : List (List I4)} (h : checkP mem fs = 0) : 0 ≤ mem ∧ mem ≤ 256 ∧ fs.length ≤ 16 ∧ ∀ l ∈ fs, l.length ≤ 200 := by
  unfold checkP at h
  by_cases h1 : sizesP mem fs.length = 0
  · rw [if_neg (by simp [h1])] at h
    unfold sizesP at h1
    by_cases h2 : mem < 0 ∨ 256 < mem
    · rw [if_pos h2] at h1; cases h1
    · rw [if_neg h2] at h1
      unfold manyP at h1
      by_cases h3 : (fs.length : Int) = 0
      · rw [if_pos h3] at h1; cases h1
      · rw [if_neg h3] at h1
        by_cases h4 : (fs.length : Int) > 16
        · rw [if_pos h4] at h1; cases h1
        · refine ⟨by omega, by omega, by omega, ?_⟩
          have key : ∀ (c : Int) (l : List (List I4)), funcsP c l = 0 → ∀ x ∈ l, x.length ≤ 200 := by
            intro c l
            induction l with
            | nil => intro _ x hx; cases hx
            | cons y l ih =>
              intro hf x hx
              unfold funcsP at hf
              by_cases h5 : funcP c y = 0
              · rw [if_neg (by simp [h5])] at hf
                rcases List.mem_cons.1 hx with rfl | hx
                · unfold funcP at h5
                  by_cases h6 : manyP x.length 200 = 0
                  · unfold manyP at h6
                    by_cases h7 : (x.length : Int) = 0
                    · omega
                    · rw [if_neg h7] at h6
                      by_cases h8 : (x.length : Int) > 200
                      · rw [if_pos h8] at h6; cases h6
                      · omega
                  · rw [if_pos h6] at h5; exact absurd h5 h6
                · exact ih hf x hx
              · rw [if_pos h5] at hf; exact absurd hf h5
          exact key _ _ h
  · rw [if_pos h1] at h; exact absurd h h1
theorem data_step {xs : List Int} {M r : Nat} (hr : r < xs.length) (hM : xs.length ≤ M) : (xs.take r ++ List.replicate (M - r) 0).set r (xs.getD r 0) = xs.take (r + 1) ++ List.replicate (M - (r + 1)) 0 := by
  rw [List.set_append_right _ _ (by rw [List.length_take]; omega), List.length_take, Nat.min_eq_left (by omega), Nat.sub_self]
  obtain ⟨k, hk⟩ : ∃ k, M - r = k + 1 := ⟨M - r - 1, by omega⟩
  rw [hk, List.replicate_succ, List.set_cons_zero, show M - (r + 1) = k by omega, List.take_succ_eq_append_getElem hr, List.append_assoc, List.getD_eq_getElem?_getD, List.getElem?_eq_getElem hr]
  rfl
/-- What stands beside the table of frames. -/
def coreL (cb gs gd sd ob lb : Nat) (q : QP) (fv ft : Value) (se st wy : Int) (ds : List Int) (n : Nat) (ps : List Fn) : List Ast :=
  [coreC cb gs gd ob lb q fv ft se st wy, storeA gd sd ds, cellsA ob #[.slice none 0 0, .int .i64 q.O] 120, cellsA lb #[.slice none 0 0] 131, rowA 30 1 fv n (ps.map hdr), doneA ps]
def wordsL (q : QP) : List Int := fillL (fillL (List.replicate (sizeV q.W q.F q.T q.D).toNat (0 : Int)) (frameV q.W q.F q.T q.D ((1 : Nat) : Int)) (roomV q.T) 0 (List.replicate (sizeV q.W q.F q.T q.D).toNat (0 : Int)).length) (frameV q.W q.F q.T q.D ((1 : Nat) : Int)) 1 1 (fillL (List.replicate (sizeV q.W q.F q.T q.D).toNat (0 : Int)) (frameV q.W q.F q.T q.D ((1 : Nat) : Int)) (roomV q.T) 0 (List.replicate (sizeV q.W q.F q.T q.D).toNat (0 : Int)).length).length
def framesL (M : Nat) : List Value := setsL (madeCells #[.int .i64 0, .int .i64 0, .int .i64 0, .int .i64 0, .int .i64 0, .int .i64 0, .int .i64 0, .int .i64 0, .int .i64 0, .int .i64 0, .int .i64 0, .int .i64 0, .bool false, .bool false, .int .i64 0, .int .i64 0, .int .i64 0, .int .i64 0, .int .i64 0] ((M + 1) * 19)).toList (1 * 19) rootV.toList
/-- A run that has not begun. -/
def CoreNew (w0 w : World) (q : QP) (mem : Int) (fs : List (List I4)) (xs : List Int) (cb : Nat) : Prop :=
  ∃ (gs sb gd sd ob lb tb ag hb rb M : Nat) (oa : Option Addr) (oc : Nat) (ps : List Fn) (bs' : List Int) (fr' : Nat) (pk' : Int),
    (M : Int) = q.F ∧ ps.map (·.2) = fs ∧
    TOwn w0 w tb gs sb ag hb rb (M + 1) q.W q.F q.T q.D (wordsL q) (framesL M) ((List.replicate (M + 1) false).set 1 true) bs' fr' pk' (coreL cb gs gd sd ob lb q (.slice oa fs.length oc) (.pointer (some ⟨tb, 0, none⟩)) 0 0 0 (xs ++ List.replicate (mem.toNat - xs.length) 0) fs.length ps)
theorem knew (q : QP) (mem : Int) (fs : List (List I4)) (ao : Option Addr) (cap : Nat) (xs : List Int) (io : Option Addr) (ic : Nat) (w : World) (h : LiesF w ao cap fs) (hi : Lies w io ic xs) (hE : coreE q mem fs xs.length = 0) :
    Calls Try.prog 8 #[.agg #[.int .i64 mem, .slice ao fs.length cap], .slice io xs.length ic, .agg #[.int .i64 q.W, .int .i64 q.T, .int .i64 q.F, .int .i64 q.D, .int .i64 q.O, .bool q.fo, .bool q.la]] w fun e w' => ∃ cb, e = .returned (.tuple #[.pointer (some ⟨cb, 0, none⟩), .int .i64 0]) ∧ CoreNew w w' q mem fs xs cb := by
  obtain ⟨i2, hi2, hq0', hq1', hq2'⟩ := info_parts' Try.infoInsS
  obtain ⟨hck, hok, hq0, hq1, hxm⟩ := core_ok hE
  obtain ⟨hm0, hm1, hf16, hf200⟩ := check_bd hck
  have hok2 : okPlan q.W q.F q.T q.D = true := hok
  have hbd := ok_bd hok2
  have hsz : 0 ≤ sizeV q.W q.F q.T q.D ∧ sizeV q.W q.F q.T q.D ≤ 83712 := by have := sizeV_bd hok2; unfold sizeV; omega
  have hO := ((Own.nil (Below.refl _ w)).box #[.int .i64 mem, .slice ao fs.length cap] 33).box #[.int .i64 q.W, .int .i64 q.T, .int .i64 q.F, .int .i64 q.D, .int .i64 q.O, .bool q.fo, .bool q.la] 35
  simp only [List.cons_append, List.nil_append, World.size_alloc] at hO
  obtain ⟨pb, hpb⟩ : ∃ pb, w.heap.size = pb := ⟨_, rfl⟩
  have hc1 := h.1
  have hc2 := h.2.1
  have hil := hi.1
  have hil2 := hi.2.1
  have CK := Lib.hid (fun (w' : World) (hb : Below w.heap.size w w') => kcheck q mem fs ao cap xs.length io ic w' (h.below hb) hil hil2)
  unfold maxLen at hc2 hil2
  rw [hE] at CK
  have PL := Lib.hid (fun (w' : World) => cplan_any q w')
  have SZ := Lib.hid (fun (w' : World) => size_ok hok2 w')
  have RT := Lib.hid (fun (w' : World) => root_any w')
  have hZ1 := Lib.hid (show List.replicate (min (max (sizeV q.W q.F q.T q.D) 0) 1048576).toNat 0 = List.replicate (sizeV q.W q.F q.T q.D).toNat (0 : Int) by congr 1; omega)
  have hZ2 := Lib.hid (show List.replicate (min (max mem 0) 1048576).toNat 0 = List.replicate mem.toNat (0 : Int) by congr 1; omega)
  obtain ⟨M, hM0⟩ : ∃ M : Nat, (M : Int) = q.F := ⟨q.F.toNat, by omega⟩
  have hM := Lib.hid (show (if okPlan q.W q.F q.T q.D = true then q.F else 0) = (M : Int) by rw [if_pos hok2, hM0])
  have hM2 : M ≤ 256 := by omega
  have HF := Lib.hid (fun (i : Nat) (hil : i < fs.length) => h.get hil)
  have HI := Lib.hid (fun (i : Nat) (hil : i < xs.length) => hi.get hil)
  replace hok2 := Lib.hid hok2
  replace hf200 := Lib.hid hf200
  replace hbd := Lib.hid hbd
  clear h hi hck hok hE hsz
  go_enter Try.func8, Try.ntmps8
  go_upto_region 1 with fail
  rw [hpb] at hO
  try simp only [hpb]
  generalize (w.alloc (.cells #[.int .i64 mem, .slice ao fs.length cap] 33)).alloc (.cells #[.int .i64 q.W, .int .i64 q.T, .int .i64 q.F, .int .i64 q.D, .int .i64 q.O, .bool q.fo, .bool q.la] 35) = u at *
  generalize pb + 1 = qb at *
  obtain ⟨k0, k1, q0, q1, q2, q3, q4, q5, q6⟩ := show u.cell? ⟨pb, 0, none⟩ = some (.int .i64 mem) ∧ u.cell? ⟨pb, 1, none⟩ = some (.slice ao fs.length cap) ∧ u.cell? ⟨qb, 0, none⟩ = some (.int .i64 q.W) ∧ u.cell? ⟨qb, 1, none⟩ = some (.int .i64 q.T) ∧ u.cell? ⟨qb, 2, none⟩ = some (.int .i64 q.F) ∧ u.cell? ⟨qb, 3, none⟩ = some (.int .i64 q.D) ∧ u.cell? ⟨qb, 4, none⟩ = some (.int .i64 q.O) ∧ u.cell? ⟨qb, 5, none⟩ = some (.bool q.fo) ∧ u.cell? ⟨qb, 6, none⟩ = some (.bool q.la) from ⟨(hO.cget 0 rfl 0).1, (hO.cget 0 rfl 1).1, (hO.cget 1 rfl 0).1, (hO.cget 1 rfl 1).1, (hO.cget 1 rfl 2).1, (hO.cget 1 rfl 3).1, (hO.cget 1 rfl 4).1, (hO.cget 1 rfl 5).1, (hO.cget 1 rfl 6).1⟩
  replace CK := Lib.hid (CK.out u hO.below)
  clear hpb
  go_upto_region 4 with (go_at_call 27; refine CK.out.mono ?_; rintro e w1 ⟨rfl, hb1⟩)
  clear k0 k1 q0 q1 q2 q3 q4 q5 q6
  have hO : Own w w1.drew [cellsA pb #[.int .i64 mem, .slice ao fs.length cap] 33, cellsA qb #[.int .i64 q.W, .int .i64 q.T, .int .i64 q.F, .int .i64 q.D, .int .i64 q.O, .bool q.fo, .bool q.la] 35] := (hO.grow hb1).drewN 1
  have hS0 : (fun w' : World => w'.cell? ⟨pb, 0, none⟩ = some (.int .i64 mem) ∧ w'.cell? ⟨pb, 1, none⟩ = some (.slice ao fs.length cap) ∧ w'.cell? ⟨qb, 0, none⟩ = some (.int .i64 q.W) ∧ w'.cell? ⟨qb, 1, none⟩ = some (.int .i64 q.T) ∧ w'.cell? ⟨qb, 2, none⟩ = some (.int .i64 q.F) ∧ w'.cell? ⟨qb, 3, none⟩ = some (.int .i64 q.D) ∧ w'.cell? ⟨qb, 4, none⟩ = some (.int .i64 q.O) ∧ w'.cell? ⟨qb, 5, none⟩ = some (.bool q.fo) ∧ w'.cell? ⟨qb, 6, none⟩ = some (.bool q.la)) w1.drew := ⟨(hO.cget 0 rfl 0).1, (hO.cget 0 rfl 1).1, (hO.cget 1 rfl 0).1, (hO.cget 1 rfl 1).1, (hO.cget 1 rfl 2).1, (hO.cget 1 rfl 3).1, (hO.cget 1 rfl 4).1, (hO.cget 1 rfl 5).1, (hO.cget 1 rfl 6).1⟩
  clear hb1 CK
  refine lin_start (S := (fun w' : World => w'.cell? ⟨pb, 0, none⟩ = some (.int .i64 mem) ∧ w'.cell? ⟨pb, 1, none⟩ = some (.slice ao fs.length cap) ∧ w'.cell? ⟨qb, 0, none⟩ = some (.int .i64 q.W) ∧ w'.cell? ⟨qb, 1, none⟩ = some (.int .i64 q.T) ∧ w'.cell? ⟨qb, 2, none⟩ = some (.int .i64 q.F) ∧ w'.cell? ⟨qb, 3, none⟩ = some (.int .i64 q.D) ∧ w'.cell? ⟨qb, 4, none⟩ = some (.int .i64 q.O) ∧ w'.cell? ⟨qb, 5, none⟩ = some (.bool q.fo) ∧ w'.cell? ⟨qb, 6, none⟩ = some (.bool q.la))) rfl 15 rfl hS0 ?_
  simp only [numbered, Nat.zero_add, Nat.reduceAdd]
  generalize w1.drew = w2 at *
  refine lin_take (v := ?_) (by kernel_rfl) (by kernel_rfl) (fun _ _ _ h => h) (Or.inl ⟨by rfl, ?_⟩) (by assumption) ?_; (rotate_left; (intro wS hSw; (try dsimp only at hSw); go_simp; (try with_reducible rfl)); rotate_left); simp only [Act.put, List.setIfInBounds_toArray, List.set_cons_zero, List.set_cons_succ]
  refine lin_take (v := ?_) (by kernel_rfl) (by kernel_rfl) (fun _ _ _ h => h) (Or.inl ⟨by rfl, ?_⟩) (by assumption) ?_; (rotate_left; (intro wS hSw; (try dsimp only at hSw); go_simp; (try with_reducible rfl)); rotate_left); simp only [Act.put, List.setIfInBounds_toArray, List.set_cons_zero, List.set_cons_succ]
  refine lin_rot ?_; simp only [List.cons_append, List.nil_append]
  refine lin_rot ?_; simp only [List.cons_append, List.nil_append]
  refine lin_rot ?_; simp only [List.cons_append, List.nil_append]
  refine lin_take (v := ?_) (by kernel_rfl) (by kernel_rfl) (fun _ _ _ h => h) (Or.inl ⟨by rfl, ?_⟩) (by assumption) ?_; (rotate_left; (intro wS hSw; (try dsimp only at hSw); go_simp; (try with_reducible rfl)); rotate_left); simp only [Act.put, List.setIfInBounds_toArray, List.set_cons_zero, List.set_cons_succ]
  refine lin_take (v := ?_) (by kernel_rfl) (by kernel_rfl) (fun _ _ _ h => h) (Or.inl ⟨by rfl, ?_⟩) (by assumption) ?_; (rotate_left; (intro wS hSw; (try dsimp only at hSw); go_simp; (try with_reducible rfl)); rotate_left); simp only [Act.put, List.setIfInBounds_toArray, List.set_cons_zero, List.set_cons_succ]
  refine lin_rot ?_; simp only [List.cons_append, List.nil_append]
  refine lin_take (v := ?_) (by kernel_rfl) (by kernel_rfl) (fun _ _ _ h => h) (Or.inl ⟨by rfl, ?_⟩) (by assumption) ?_; (rotate_left; (intro wS hSw; (try dsimp only at hSw); go_simp; (try with_reducible rfl)); rotate_left); simp only [Act.put, List.setIfInBounds_toArray, List.set_cons_zero, List.set_cons_succ]
  refine lin_take (v := ?_) (by kernel_rfl) (by kernel_rfl) (fun _ _ _ h => h) (Or.inl ⟨by rfl, ?_⟩) (by assumption) ?_; (rotate_left; (intro wS hSw; (try dsimp only at hSw); go_simp; (try with_reducible rfl)); rotate_left); simp only [Act.put, List.setIfInBounds_toArray, List.set_cons_zero, List.set_cons_succ]
  refine lin_rot ?_; simp only [List.cons_append, List.nil_append]
  refine lin_rot ?_; simp only [List.cons_append, List.nil_append]
  refine lin_rot ?_; simp only [List.cons_append, List.nil_append]
  refine lin_rot ?_; simp only [List.cons_append, List.nil_append]
  refine lin_rot ?_; simp only [List.cons_append, List.nil_append]
  refine lin_sole (by kernel_rfl) (fun K hK => ?_)
  go_simp
  go_at_call 47; refine (PL.out _).mono ?_
  rintro e u1 ⟨rfl, hb1⟩
  have hO1 := hO.grow hb1
  clear hb1
  refine hK.out _ _ ?_ (fun hHeld => ?_)
  · exact ⟨(hO1.cget 0 rfl 0).1, (hO1.cget 0 rfl 1).1, (hO1.cget 1 rfl 0).1, (hO1.cget 1 rfl 1).1, (hO1.cget 1 rfl 2).1, (hO1.cget 1 rfl 3).1, (hO1.cget 1 rfl 4).1, (hO1.cget 1 rfl 5).1, (hO1.cget 1 rfl 6).1⟩
  try simp only [Act.put, List.setIfInBounds_toArray, List.set_cons_zero, List.set_cons_succ]
  clear hK hHeld
  clear hO
  refine lin_sole (by kernel_rfl) (fun K hK => ?_)
  go_simp
  go_at_call 32; refine (SZ.out _).mono ?_
  rintro e u2 ⟨rfl, hb2⟩
  have hO2 := hO1.grow hb2
  clear hb2
  refine hK.out _ _ ?_ (fun hHeld => ?_)
  · exact ⟨(hO2.cget 0 rfl 0).1, (hO2.cget 0 rfl 1).1, (hO2.cget 1 rfl 0).1, (hO2.cget 1 rfl 1).1, (hO2.cget 1 rfl 2).1, (hO2.cget 1 rfl 3).1, (hO2.cget 1 rfl 4).1, (hO2.cget 1 rfl 5).1, (hO2.cget 1 rfl 6).1⟩
  try simp only [Act.put, List.setIfInBounds_toArray, List.set_cons_zero, List.set_cons_succ]
  clear hK hHeld
  clear hO1
  refine lin_sole (by kernel_rfl) (fun K hK => ?_)
  go_simp
  go_at_call 46; refine (own_new hO2 _ _ hZ1.out).mono ?_
  rintro e u3 ⟨rfl, hO3⟩
  generalize u2.heap.size = sb at *
  generalize hgs : sb + 1 = gs at *
  clear hgs
  refine hK.out _ _ ?_ (fun hHeld => ?_)
  · exact ⟨(hO3.cget 0 rfl 0).1, (hO3.cget 0 rfl 1).1, (hO3.cget 1 rfl 0).1, (hO3.cget 1 rfl 1).1, (hO3.cget 1 rfl 2).1, (hO3.cget 1 rfl 3).1, (hO3.cget 1 rfl 4).1, (hO3.cget 1 rfl 5).1, (hO3.cget 1 rfl 6).1⟩
  try simp only [Act.put, List.setIfInBounds_toArray, List.set_cons_zero, List.set_cons_succ]
  clear hK hHeld
  clear hO2
  refine lin_sole (by kernel_rfl) (fun K hK => ?_)
  go_simp
  go_at_call 46; refine (own_new hO3 _ _ hZ2.out).mono ?_
  rintro e u4 ⟨rfl, hO4⟩
  generalize u3.heap.size = sd at *
  generalize hgd : sd + 1 = gd at *
  clear hgd
  refine hK.out _ _ ?_ (fun hHeld => ?_)
  · exact ⟨(hO4.cget 0 rfl 0).1, (hO4.cget 0 rfl 1).1, (hO4.cget 1 rfl 0).1, (hO4.cget 1 rfl 1).1, (hO4.cget 1 rfl 2).1, (hO4.cget 1 rfl 3).1, (hO4.cget 1 rfl 4).1, (hO4.cget 1 rfl 5).1, (hO4.cget 1 rfl 6).1⟩
  try simp only [Act.put, List.setIfInBounds_toArray, List.set_cons_zero, List.set_cons_succ]
  clear hK hHeld
  clear hO3
  refine lin_sole (by kernel_rfl) (fun K hK => ?_)
  go_simp
  go_at_call 48; refine (snew hO4 q.O hq0 hq1).mono ?_
  rintro e u5 ⟨ob, rfl, hO5⟩
  refine hK.out _ _ ?_ (fun hHeld => ?_)
  · exact ⟨(hO5.cget 0 rfl 0).1, (hO5.cget 0 rfl 1).1, (hO5.cget 1 rfl 0).1, (hO5.cget 1 rfl 1).1, (hO5.cget 1 rfl 2).1, (hO5.cget 1 rfl 3).1, (hO5.cget 1 rfl 4).1, (hO5.cget 1 rfl 5).1, (hO5.cget 1 rfl 6).1⟩
  try simp only [Act.put, List.setIfInBounds_toArray, List.set_cons_zero, List.set_cons_succ]
  clear hK hHeld
  clear hO4
  refine lin_sole (by kernel_rfl) (fun K hK => ?_)
  go_simp
  go_at_call 49; refine (lnew hO5).mono ?_
  rintro e u6 ⟨lb, rfl, hO6⟩
  refine hK.out _ _ ?_ (fun hHeld => ?_)
  · exact ⟨(hO6.cget 0 rfl 0).1, (hO6.cget 0 rfl 1).1, (hO6.cget 1 rfl 0).1, (hO6.cget 1 rfl 1).1, (hO6.cget 1 rfl 2).1, (hO6.cget 1 rfl 3).1, (hO6.cget 1 rfl 4).1, (hO6.cget 1 rfl 5).1, (hO6.cget 1 rfl 6).1⟩
  try simp only [Act.put, List.setIfInBounds_toArray, List.set_cons_zero, List.set_cons_succ]
  clear hK
  clear hO5
  refine lin_take (v := ?_) (by kernel_rfl) (by kernel_rfl) (fun _ _ _ h => h) (Or.inl ⟨by rfl, ?_⟩) (by assumption) ?_; (rotate_left; (intro wS hSw; (try dsimp only at hSw); go_simp; (try with_reducible rfl)); rotate_left); simp only [Act.put, List.setIfInBounds_toArray, List.set_cons_zero, List.set_cons_succ]
  refine lin_sole (by kernel_rfl) (fun K hK => ?_)
  go_simp
  have hO7 : Own w _ _ := hO6.box #[.slice none 0 0, .int .i64 q.W, .int .i64 q.T, .int .i64 q.F, .int .i64 q.D, .int .i64 q.O, .bool q.fo, .bool q.la, .pointer (some ⟨gs, 0, none⟩), .pointer (some ⟨gd, 0, none⟩), .pointer none, .pointer (some ⟨ob, 0, none⟩), .pointer (some ⟨lb, 0, none⟩), .int .i64 0, .int .i64 0, .int .i64 0, .int .i64 0, .int .i64 0, .int .i64 0, .int .i64 0, .int .i64 0, .int .i64 0, .int .i64 0] 98
  refine hK.out _ _ ?_ (fun hHeld => ?_)
  · exact ⟨(hO7.cget 0 rfl 0).1, (hO7.cget 0 rfl 1).1, (hO7.cget 1 rfl 0).1, (hO7.cget 1 rfl 1).1, (hO7.cget 1 rfl 2).1, (hO7.cget 1 rfl 3).1, (hO7.cget 1 rfl 4).1, (hO7.cget 1 rfl 5).1, (hO7.cget 1 rfl 6).1⟩
  try simp only [Act.put, List.setIfInBounds_toArray, List.set_cons_zero, List.set_cons_succ]
  clear hK hO6
  refine lin_take (v := ?_) (by kernel_rfl) (by kernel_rfl) (fun _ _ _ h => h) (Or.inl ⟨by rfl, ?_⟩) (by assumption) ?_; (rotate_left; (intro wS hSw; (try dsimp only at hSw); go_simp; (try with_reducible rfl)); rotate_left); simp only [Act.put, List.setIfInBounds_toArray, List.set_cons_zero, List.set_cons_succ]
  refine lin_done (by kernel_rfl) ?_
  go_upto_region 5 with fail
  have hO8 := (hO7.push (Below.refl _ _) (rowA 30 1 (.slice none 0 0) 0 (([] : List Fn).map hdr)) (Row.nil _ _ _) (by rintro k ⟨⟩)).noneDone
  obtain ⟨cb, hcb⟩ : ∃ cb, u6.heap.size = cb := ⟨_, rfl⟩
  rw [hcb] at hO8 ⊢
  clear hO7 hHeld
  generalize u6.alloc (.cells #[.slice none 0 0, .int .i64 q.W, .int .i64 q.T, .int .i64 q.F, .int .i64 q.D, .int .i64 q.O, .bool q.fo, .bool q.la, .pointer (some ⟨gs, 0, none⟩), .pointer (some ⟨gd, 0, none⟩), .pointer none, .pointer (some ⟨ob, 0, none⟩), .pointer (some ⟨lb, 0, none⟩), .int .i64 0, .int .i64 0, .int .i64 0, .int .i64 0, .int .i64 0, .int .i64 0, .int .i64 0, .int .i64 0, .int .i64 0, .int .i64 0] 98) = u7 at *
  have hO : Own w u7 [cellsA pb #[.int .i64 mem, .slice ao fs.length cap] 33, cellsA qb #[.int .i64 q.W, .int .i64 q.T, .int .i64 q.F, .int .i64 q.D, .int .i64 q.O, .bool q.fo, .bool q.la] 35, storeA gs sb (List.replicate (sizeV q.W q.F q.T q.D).toNat 0), storeA gd sd (List.replicate mem.toNat 0), cellsA ob #[.slice none 0 0, .int .i64 q.O] 120, cellsA lb #[.slice none 0 0] 131, coreC cb gs gd ob lb q (.slice none 0 0) (.pointer none) 0 0 0, rowA 30 1 (.slice none 0 0) (0) (([]).map hdr), doneA ([])] := hO8
  clear hO8 hcb hS0
  have k1 := (hO.cget 0 rfl 1).1
  simp at k1
  go_wp2_with fail
  clear k1
  go_loopw [38] (fun i wr => ∃ (r : Nat) (ps : List Fn) (oa : Option Addr) (oc : Nat), r ≤ fs.length ∧ i = .int .i64 r ∧ ps.length = r ∧ Hid (ps.map (·.2) = fs.take r) ∧ Own w wr [cellsA pb #[.int .i64 mem, .slice ao fs.length cap] 33, cellsA qb #[.int .i64 q.W, .int .i64 q.T, .int .i64 q.F, .int .i64 q.D, .int .i64 q.O, .bool q.fo, .bool q.la] 35, storeA gs sb (List.replicate (sizeV q.W q.F q.T q.D).toNat 0), storeA gd sd (List.replicate mem.toNat 0), cellsA ob #[.slice none 0 0, .int .i64 q.O] 120, cellsA lb #[.slice none 0 0] 131, coreC cb gs gd ob lb q (.slice oa r oc) (.pointer none) 0 0 0, rowA 30 1 (.slice oa r oc) (r) ((ps).map hdr), doneA (ps)]) (fun i _ => (fs.length - intOf i).toNat)
  case atStart => exact ⟨0, [], none, 0, by omega, rfl, rfl, Lib.hid rfl, hO⟩
  case round =>
  clear hO
  obtain ⟨r, ps, oa, oc, hr, rfl, hpl, hps, hO⟩ := hrel
  by_cases hlt : r < fs.length
  · obtain ⟨g, off, bo, d, rfl, hx, hL⟩ := HF.out r hlt
    obtain ⟨l, hl⟩ : ∃ l, fs.getD r [] = l := ⟨_, rfl⟩
    rw [hl] at hx hL
    have htk := Lib.hid (take_getD hlt hl)
    have hl3 := hf200.out l (by rw [← hl, List.getD_eq_getElem?_getD, List.getElem?_eq_getElem hlt]; exact List.getElem_mem _)
    clear hl
    replace hx := hO.old hx
    have CL := Lib.hid (fun (w' : World) (hb : Below w.heap.size w w') => cloneI (hL.below hb) (show l.length ≤ 100000 by omega))
    clear hL
    go_upto_region 8 with fail
    clear hx
    have hO' : Own w wr.drew _ := hO.drewN 1
    clear hO
    have hO := hO'
    clear hO'
    have hS0 : (fun w' : World => w'.cell? ⟨cb, 0, none⟩ = some (.slice oa r oc) ∧ w'.frozen? ⟨cb, 0, none⟩ = false) wr.drew := ⟨(hO.cget 6 rfl 0).1, (hO.cget 6 rfl 0).2⟩
    refine lz_start (S := (fun w' : World => w'.cell? ⟨cb, 0, none⟩ = some (.slice oa r oc) ∧ w'.frozen? ⟨cb, 0, none⟩ = false)) rfl 11 12 rfl hS0 ?_
    simp only [numbered, Nat.zero_add, Nat.reduceAdd]
    generalize wr.drew = u0 at *
    refine lz_take (v := ?_) (by kernel_rfl) (by kernel_rfl) (by kernel_rfl) (fun _ _ _ h => h) (Or.inl ⟨by rfl, ?_⟩) (by assumption) ?_; (rotate_left; (intro wS hSw; (try dsimp only at hSw); go_simp; (try with_reducible rfl)); rotate_left); simp only [Act.put, List.setIfInBounds_toArray, List.set_cons_zero, List.set_cons_succ]
    refine lz_take (v := ?_) (by kernel_rfl) (by kernel_rfl) (by kernel_rfl) (fun _ _ _ h => h) (Or.inl ⟨by rfl, ?_⟩) (by assumption) ?_; (rotate_left; (intro wS hSw; (try dsimp only at hSw); go_simp; (try with_reducible rfl)); rotate_left); simp only [Act.put, List.setIfInBounds_toArray, List.set_cons_zero, List.set_cons_succ]
    refine lz_take (v := ?_) (by kernel_rfl) (by kernel_rfl) (by kernel_rfl) (fun _ _ _ h => h) (Or.inl ⟨by rfl, ?_⟩) (by assumption) ?_; (rotate_left; (intro wS hSw; (try dsimp only at hSw); go_simp; (try with_reducible rfl)); rotate_left); simp only [Act.put, List.setIfInBounds_toArray, List.set_cons_zero, List.set_cons_succ]
    refine lz_take (v := ?_) (by kernel_rfl) (by kernel_rfl) (by kernel_rfl) (fun _ _ _ h => h) (Or.inl ⟨by rfl, ?_⟩) (by assumption) ?_; (rotate_left; (intro wS hSw; (try dsimp only at hSw); go_simp; (try with_reducible rfl)); rotate_left); simp only [Act.put, List.setIfInBounds_toArray, List.set_cons_zero, List.set_cons_succ]
    refine lz_take (v := ?_) (by kernel_rfl) (by kernel_rfl) (by kernel_rfl) (fun _ _ _ h => h) (Or.inl ⟨by rfl, ?_⟩) (by assumption) ?_; (rotate_left; (intro wS hSw; (try dsimp only at hSw); go_simp; (try with_reducible rfl)); rotate_left); simp only [Act.put, List.setIfInBounds_toArray, List.set_cons_zero, List.set_cons_succ]
    refine lz_take (v := ?_) (by kernel_rfl) (by kernel_rfl) (by kernel_rfl) (fun _ _ _ h => h) (Or.inl ⟨by rfl, ?_⟩) (by assumption) ?_; (rotate_left; (intro wS hSw; (try dsimp only at hSw); go_simp; (try with_reducible rfl)); rotate_left); simp only [Act.put, List.setIfInBounds_toArray, List.set_cons_zero, List.set_cons_succ]
    refine lz_sole (by kernel_rfl) (fun K hK => ?_)
    go_simp
    go_at_call 50
    refine (CL.out _ hO.below).mono ?_
    rintro e u1 ⟨ka, kc, rfl, hrw, hnw, hb1⟩
    have hO1 : Own w u1 ([cellsA pb #[.int .i64 mem, .slice (some ⟨g, off, none⟩) fs.length cap] 33, cellsA qb #[.int .i64 q.W, .int .i64 q.T, .int .i64 q.F, .int .i64 q.D, .int .i64 q.O, .bool q.fo, .bool q.la] 35, storeA gs sb (List.replicate (sizeV q.W q.F q.T q.D).toNat 0), storeA gd sd (List.replicate mem.toNat 0), cellsA ob #[.slice none 0 0, .int .i64 q.O] 120, cellsA lb #[.slice none 0 0] 131, coreC cb gs gd ob lb q (.slice oa r oc) (.pointer none) 0 0 0, rowA 30 1 (.slice oa r oc) (r) ((ps).map hdr), doneA (ps)] ++ [rowA 29 4 (hdr ((ka, kc), l)) l.length (insL l)]) := hO.push hb1 (rowA 29 4 (hdr ((ka, kc), l)) l.length (insL l)) hrw hnw
    clear hrw hnw hb1 hO
    refine hK.out _ _ ?_ (fun hHeld => ?_)
    · exact .inr ⟨(hO1.cget 6 rfl 0).1, (hO1.cget 6 rfl 0).2⟩
    try simp only [Act.put, List.setIfInBounds_toArray, List.set_cons_zero, List.set_cons_succ]
    clear hK hHeld
    refine lz_sole (by kernel_rfl) (fun K hK => ?_)
    go_simp
    have hO2 := hO1.lit1 30 (.slice ka l.length kc)
    refine hK.out _ _ ?_ (fun hHeld => ?_)
    · exact .inr ⟨(hO2.cget 6 rfl 0).1, (hO2.cget 6 rfl 0).2⟩
    try simp only [Act.put, List.setIfInBounds_toArray, List.set_cons_zero, List.set_cons_succ]
    clear hK hHeld
    refine lz_law (by kernel_rfl) rfl ?_
    refine wpList_append_lit' _ rfl _ _ 31 rfl 30 i2 (.slice none 0 0) 1 24 Try.underlying31 hi2 hq0' hq1' hq2' rfl (by decide) (.slice oa r oc) r (ps.map hdr) rfl (hO1.row 7 rfl) #[.slice ka l.length kc] _ 1 _ rfl rfl rfl (by simp [Value.oneCell']) (by unfold maxLen; omega) (by omega) ?_
    intro oa2 oc2 u3 hr3 ht3 hf3
    have hO3 := hO1.move 7 rfl (Moves.of_append hr3 ht3 hf3)
    clear hO1 hO2 hr3 ht3 hf3
    refine wpList_nil ⟨rfl, ⟨(hO3.cget 6 rfl 0).1, (hO3.cget 6 rfl 0).2⟩, fun hHeld => ?_⟩
    try simp only [Act.put, List.setIfInBounds_toArray, List.set_cons_zero, List.set_cons_succ]
    refine lz_take (v := ?_) (by kernel_rfl) (by kernel_rfl) (by kernel_rfl) (fun _ _ _ h => h) (Or.inl ⟨by rfl, ?_⟩) (by assumption) ?_; (rotate_left; (intro wS hSw; (try dsimp only at hSw); go_simp; (try with_reducible rfl)); rotate_left); simp only [Act.put, List.setIfInBounds_toArray, List.set_cons_zero, List.set_cons_succ]
    refine lz_take (v := ?_) (by kernel_rfl) (by kernel_rfl) (by kernel_rfl) (fun _ _ _ h => h) (Or.inl ⟨by rfl, ?_⟩) (by assumption) ?_; (rotate_left; (intro wS hSw; (try dsimp only at hSw); go_simp; (try with_reducible rfl)); rotate_left); simp only [Act.put, List.setIfInBounds_toArray, List.set_cons_zero, List.set_cons_succ]
    have z2 := (hO3.cget 6 rfl 0).1
    have z3 := (hO3.cget 6 rfl 0).2
    refine lz_sole (by kernel_rfl) (fun K hK => ?_)
    go_simp
    have hO4 := hO3.cset 6 rfl 0 (.slice oa2 (r + 1) oc2)
    refine hK.out _ _ (.inl rfl) (fun hHeld => ?_)
    try simp only [Act.put, List.setIfInBounds_toArray, List.set_cons_zero, List.set_cons_succ]
    clear hK hHeld z2 z3
    refine lz_done (by kernel_rfl) ?_
    go_wp2_with fail
    go_round
    case rel => exact ⟨r + 1, ps ++ [((ka, kc), l)], oa2, oc2, by omega, by first | rfl | trivial | go_num, by simp [hpl], Lib.hid (by rw [htk.out, List.map_append, hps.out]; rfl), by
      have h7 : Own w _ ([cellsA pb #[.int .i64 mem, .slice (some ⟨g, off, none⟩) fs.length cap] 33, cellsA qb #[.int .i64 q.W, .int .i64 q.T, .int .i64 q.F, .int .i64 q.D, .int .i64 q.O, .bool q.fo, .bool q.la] 35, storeA gs sb (List.replicate (sizeV q.W q.F q.T q.D).toNat 0), storeA gd sd (List.replicate mem.toNat 0), cellsA ob #[.slice none 0 0, .int .i64 q.O] 120, cellsA lb #[.slice none 0 0] 131, coreC cb gs gd ob lb q (.slice oa2 (r + 1) oc2) (.pointer none) 0 0 0, rowA 30 1 (.slice oa2 (r + 1) oc2) (r + 1) (ps.map hdr ++ [.slice ka l.length kc])] ++ [doneA ps, rowA 29 4 (hdr ((ka, kc), l)) l.length (insL l)]) := hO4
      exact h7.finish.cast (by simp [hdr])⟩
    case measure => simp [intOf]; omega
  obtain rfl : r = fs.length := by omega
  rw [List.take_length] at hps
  clear HF hf200
  go_wp2_with fail
  go_loopw [56] (fun i wr => ∃ r : Nat, r ≤ xs.length ∧ i = .int .i64 r ∧ Own w wr [cellsA pb #[.int .i64 mem, .slice ao fs.length cap] 33, cellsA qb #[.int .i64 q.W, .int .i64 q.T, .int .i64 q.F, .int .i64 q.D, .int .i64 q.O, .bool q.fo, .bool q.la] 35, storeA gs sb (List.replicate (sizeV q.W q.F q.T q.D).toNat 0), storeA gd sd (xs.take r ++ List.replicate (mem.toNat - r) 0), cellsA ob #[.slice none 0 0, .int .i64 q.O] 120, cellsA lb #[.slice none 0 0] 131, coreC cb gs gd ob lb q (.slice oa fs.length oc) (.pointer none) 0 0 0, rowA 30 1 (.slice oa fs.length oc) (fs.length) ((ps).map hdr), doneA (ps)]) (fun i _ => (xs.length - intOf i).toNat)
  case atStart => exact ⟨0, by omega, rfl, hO⟩
  case round =>
  clear hO
  obtain ⟨r, hr, rfl, hO⟩ := hrel
  by_cases hlt : r < xs.length
  · obtain ⟨ad, rfl, hx⟩ := HI.out r hlt
    obtain ⟨x, hxx⟩ : ∃ x, xs.getD r 0 = x := ⟨_, rfl⟩
    rw [hxx] at hx
    have hds := data_step hlt (M := mem.toNat) (by omega)
    rw [hxx] at hds
    clear hxx
    replace hx := hO.old hx
    have c9 := (hO.cget 6 rfl 9).1
    simp at c9
    have ST := Lib.hid (own_store hO 3 rfl (k := r) (by simp; omega) x _ hds)
    clear hds
    go_wp2_with (go_at_call 51; refine ST.out.mono ?_; rintro e w9 ⟨rfl, hO9⟩; replace hO9 := Lib.hid hO9)
    go_round
    case rel => exact ⟨r + 1, by omega, by first | rfl | trivial | go_num, hO9.out⟩
    case measure => simp [intOf]; omega
  obtain rfl : r = xs.length := by omega
  rw [List.take_length] at hO
  clear HI
  go_upto_region 15 with fail
  have hO' : Own w wr.drew _ := hO.drewN 1
  clear hO
  have hO := hO'
  clear hO'
  have hS0 : (fun w' : World => w'.cell? ⟨qb, 0, none⟩ = some (.int .i64 q.W) ∧ w'.cell? ⟨qb, 1, none⟩ = some (.int .i64 q.T) ∧ w'.cell? ⟨qb, 2, none⟩ = some (.int .i64 q.F) ∧ w'.cell? ⟨qb, 3, none⟩ = some (.int .i64 q.D) ∧ w'.cell? ⟨qb, 4, none⟩ = some (.int .i64 q.O) ∧ w'.cell? ⟨qb, 5, none⟩ = some (.bool q.fo) ∧ w'.cell? ⟨qb, 6, none⟩ = some (.bool q.la) ∧ w'.cell? ⟨cb, 9, none⟩ = some (.pointer (some ⟨gd, 0, none⟩)) ∧ w'.cell? ⟨cb, 8, none⟩ = some (.pointer (some ⟨gs, 0, none⟩)) ∧ (∃ v, w'.cell? ⟨cb, 10, none⟩ = some v) ∧ w'.frozen? ⟨cb, 10, none⟩ = false) wr.drew := ⟨(hO.cget 1 rfl 0).1, (hO.cget 1 rfl 1).1, (hO.cget 1 rfl 2).1, (hO.cget 1 rfl 3).1, (hO.cget 1 rfl 4).1, (hO.cget 1 rfl 5).1, (hO.cget 1 rfl 6).1, (hO.cget 6 rfl 9).1, (hO.cget 6 rfl 8).1, ⟨_, (hO.cget 6 rfl 10).1⟩, (hO.cget 6 rfl 10).2⟩
  refine lin_start (S := (fun w' : World => w'.cell? ⟨qb, 0, none⟩ = some (.int .i64 q.W) ∧ w'.cell? ⟨qb, 1, none⟩ = some (.int .i64 q.T) ∧ w'.cell? ⟨qb, 2, none⟩ = some (.int .i64 q.F) ∧ w'.cell? ⟨qb, 3, none⟩ = some (.int .i64 q.D) ∧ w'.cell? ⟨qb, 4, none⟩ = some (.int .i64 q.O) ∧ w'.cell? ⟨qb, 5, none⟩ = some (.bool q.fo) ∧ w'.cell? ⟨qb, 6, none⟩ = some (.bool q.la) ∧ w'.cell? ⟨cb, 9, none⟩ = some (.pointer (some ⟨gd, 0, none⟩)) ∧ w'.cell? ⟨cb, 8, none⟩ = some (.pointer (some ⟨gs, 0, none⟩)) ∧ (∃ v, w'.cell? ⟨cb, 10, none⟩ = some v) ∧ w'.frozen? ⟨cb, 10, none⟩ = false)) rfl 11 rfl hS0 ?_
  simp only [numbered, Nat.zero_add, Nat.reduceAdd]
  generalize wr.drew = u0 at *
  refine lin_take (v := ?_) (by kernel_rfl) (by kernel_rfl) (fun _ _ _ h => h) (Or.inl ⟨by rfl, ?_⟩) (by assumption) ?_; (rotate_left; (intro wS hSw; (try dsimp only at hSw); go_simp; (try with_reducible rfl)); rotate_left); simp only [Act.put, List.setIfInBounds_toArray, List.set_cons_zero, List.set_cons_succ]
  refine lin_take (v := ?_) (by kernel_rfl) (by kernel_rfl) (fun _ _ _ h => h) (Or.inl ⟨by rfl, ?_⟩) (by assumption) ?_; (rotate_left; (intro wS hSw; (try dsimp only at hSw); go_simp; (try with_reducible rfl)); rotate_left); simp only [Act.put, List.setIfInBounds_toArray, List.set_cons_zero, List.set_cons_succ]
  refine lin_rot ?_; simp only [List.cons_append, List.nil_append]
  refine lin_take (v := ?_) (by kernel_rfl) (by kernel_rfl) (fun _ _ _ h => h) (Or.inl ⟨by rfl, ?_⟩) (by assumption) ?_; (rotate_left; (intro wS hSw; (try dsimp only at hSw); go_simp; (try with_reducible rfl)); rotate_left); simp only [Act.put, List.setIfInBounds_toArray, List.set_cons_zero, List.set_cons_succ]
  refine lin_take (v := ?_) (by kernel_rfl) (by kernel_rfl) (fun _ _ _ h => h) (Or.inl ⟨by rfl, ?_⟩) (by assumption) ?_; (rotate_left; (intro wS hSw; (try dsimp only at hSw); go_simp; (try with_reducible rfl)); rotate_left); simp only [Act.put, List.setIfInBounds_toArray, List.set_cons_zero, List.set_cons_succ]
  refine lin_take (v := ?_) (by kernel_rfl) (by kernel_rfl) (fun _ _ _ h => h) (Or.inl ⟨by rfl, ?_⟩) (by assumption) ?_; (rotate_left; (intro wS hSw; (try dsimp only at hSw); go_simp; (try with_reducible rfl)); rotate_left); simp only [Act.put, List.setIfInBounds_toArray, List.set_cons_zero, List.set_cons_succ]
  refine lin_take (v := ?_) (by kernel_rfl) (by kernel_rfl) (fun _ _ _ h => h) (Or.inl ⟨by rfl, ?_⟩) (by assumption) ?_; (rotate_left; (intro wS hSw; (try dsimp only at hSw); go_simp; (try with_reducible rfl)); rotate_left); simp only [Act.put, List.setIfInBounds_toArray, List.set_cons_zero, List.set_cons_succ]
  refine lin_rot ?_; simp only [List.cons_append, List.nil_append]
  refine lin_rot ?_; simp only [List.cons_append, List.nil_append]
  refine lin_rot ?_; simp only [List.cons_append, List.nil_append]
  refine lin_rot ?_; simp only [List.cons_append, List.nil_append]
  refine lin_sole (by kernel_rfl) (fun K hK => ?_)
  go_simp
  go_at_call 47; refine (PL.out _).mono ?_
  rintro e u1 ⟨rfl, hb1⟩
  have hO1 := hO.grow hb1
  clear hb1
  refine hK.out _ _ ?_ (fun hHeld => ?_)
  · exact ⟨(hO1.cget 1 rfl 0).1, (hO1.cget 1 rfl 1).1, (hO1.cget 1 rfl 2).1, (hO1.cget 1 rfl 3).1, (hO1.cget 1 rfl 4).1, (hO1.cget 1 rfl 5).1, (hO1.cget 1 rfl 6).1, (hO1.cget 6 rfl 9).1, (hO1.cget 6 rfl 8).1, ⟨_, (hO1.cget 6 rfl 10).1⟩, (hO1.cget 6 rfl 10).2⟩
  try simp only [Act.put, List.setIfInBounds_toArray, List.set_cons_zero, List.set_cons_succ]
  clear hK hHeld
  clear hO
  have hO1 := hO1.pm (List.perm_middle (l₁ := [_, _]))
  refine lin_sole (by kernel_rfl) (fun K hK => ?_)
  go_simp
  go_at_call 52; refine (tnew_any hO1 q.W q.F q.T q.D M hM.out hM2).mono ?_
  rintro e u2 ⟨tb, ag, hb, rb, rfl, bv, hO2⟩
  refine hK.out _ _ ?_ (fun hHeld => ?_)
  · exact ⟨(hO2.cget 7 rfl 0).1, (hO2.cget 7 rfl 1).1, (hO2.cget 7 rfl 2).1, (hO2.cget 7 rfl 3).1, (hO2.cget 7 rfl 4).1, (hO2.cget 7 rfl 5).1, (hO2.cget 7 rfl 6).1, (hO2.cget 11 rfl 9).1, (hO2.cget 11 rfl 8).1, ⟨_, (hO2.cget 11 rfl 10).1⟩, (hO2.cget 11 rfl 10).2⟩
  try simp only [Act.put, List.setIfInBounds_toArray, List.set_cons_zero, List.set_cons_succ]
  clear hK
  clear hO1
  refine lin_take (v := ?_) (by kernel_rfl) (by kernel_rfl) (fun _ _ _ h => h) (Or.inl ⟨by rfl, ?_⟩) (by assumption) ?_; (rotate_left; (intro wS hSw; (try dsimp only at hSw); go_simp; (try with_reducible rfl)); rotate_left); simp only [Act.put, List.setIfInBounds_toArray, List.set_cons_zero, List.set_cons_succ]
  refine lin_take (v := ?_) (by kernel_rfl) (by kernel_rfl) (fun _ _ _ h => h) (Or.inl ⟨by rfl, ?_⟩) (by assumption) ?_; (rotate_left; (intro wS hSw; (try dsimp only at hSw); go_simp; (try with_reducible rfl)); rotate_left); simp only [Act.put, List.setIfInBounds_toArray, List.set_cons_zero, List.set_cons_succ]
  refine lin_sole (by kernel_rfl) (fun K hK => ?_)
  obtain ⟨z2, z2'⟩ := hO2.cget 11 rfl 10
  go_simp
  have hO3 := hO2.cset 11 rfl 10 (.pointer (some ⟨tb, 0, none⟩))
  refine hK.out _ _ ?_ (fun hHeld => ?_)
  · exact ⟨(hO3.cget 7 rfl 0).1, (hO3.cget 7 rfl 1).1, (hO3.cget 7 rfl 2).1, (hO3.cget 7 rfl 3).1, (hO3.cget 7 rfl 4).1, (hO3.cget 7 rfl 5).1, (hO3.cget 7 rfl 6).1, (hO3.cget 11 rfl 9).1, (hO3.cget 11 rfl 8).1, ⟨_, (hO3.cget 11 rfl 10).1⟩, (hO3.cget 11 rfl 10).2⟩
  try simp only [Act.put, List.setIfInBounds_toArray, List.set_cons_zero, List.set_cons_succ]
  clear hK hHeld hO2 z2 z2'
  refine lin_done (by kernel_rfl) ?_
  go_upto_region 16 with fail
  have hO9 : Own w _ (arenaL ag hb bv (List.replicate (M + 1) false) [] 0 0 (tabL tb gs sb ag rb (M + 1) q.W q.F q.T q.D (List.replicate (sizeV q.W q.F q.T q.D).toNat 0) (madeCells #[.int .i64 0, .int .i64 0, .int .i64 0, .int .i64 0, .int .i64 0, .int .i64 0, .int .i64 0, .int .i64 0, .int .i64 0, .int .i64 0, .int .i64 0, .int .i64 0, .bool false, .bool false, .int .i64 0, .int .i64 0, .int .i64 0, .int .i64 0, .int .i64 0] ((M + 1) * 19)).toList [cellsA pb #[.int .i64 mem, .slice ao fs.length cap] 33, cellsA qb #[.int .i64 q.W, .int .i64 q.T, .int .i64 q.F, .int .i64 q.D, .int .i64 q.O, .bool q.fo, .bool q.la] 35, storeA gd sd (xs ++ List.replicate (mem.toNat - xs.length) 0), cellsA ob #[.slice none 0 0, .int .i64 q.O] 120, cellsA lb #[.slice none 0 0] 131, coreC cb gs gd ob lb q (.slice oa fs.length oc) (.pointer (some ⟨tb, 0, none⟩)) 0 0 0, rowA 30 1 (.slice oa fs.length oc) fs.length (ps.map hdr), doneA ps])) := hO3
  clear hO3 hHeld hS0
  generalize u2.setCell ⟨cb, 10, none⟩ (.pointer (some ⟨tb, 0, none⟩)) = w10 at *
  have hO := hO9.drewN 1
  clear hO9
  have hfb := frameV_bd hok2.out 1
  have hrb := roomV_bd hok2.out
  have MK := Lib.hid (fun (w' : World) (h' : TOwn w w' tb gs sb ag hb rb (M + 1) q.W q.F q.T q.D (List.replicate (sizeV q.W q.F q.T q.D).toNat 0) (madeCells #[.int .i64 0, .int .i64 0, .int .i64 0, .int .i64 0, .int .i64 0, .int .i64 0, .int .i64 0, .int .i64 0, .int .i64 0, .int .i64 0, .int .i64 0, .int .i64 0, .bool false, .bool false, .int .i64 0, .int .i64 0, .int .i64 0, .int .i64 0, .int .i64 0] ((M + 1) * 19)).toList (List.replicate (M + 1) false) [] 0 0 [cellsA pb #[.int .i64 mem, .slice ao fs.length cap] 33, cellsA qb #[.int .i64 q.W, .int .i64 q.T, .int .i64 q.F, .int .i64 q.D, .int .i64 q.O, .bool q.fo, .bool q.la] 35, storeA gd sd (xs ++ List.replicate (mem.toNat - xs.length) 0), cellsA ob #[.slice none 0 0, .int .i64 q.O] 120, cellsA lb #[.slice none 0 0] 131, coreC cb gs gd ob lb q (.slice oa fs.length oc) (.pointer (some ⟨tb, 0, none⟩)) 0 0 0, rowA 30 1 (.slice oa fs.length oc) fs.length (ps.map hdr), doneA ps]) =>
    make_yes h' hok2.out (id := 1) (bs' := []) (fr' := 1) (by simp [madeCells]) (by simp) (by simp; omega) (by simp) (by omega) (by unfold nextA; rw [if_pos rfl, if_neg (by simp; omega)]) (by simp; omega) _ _ rfl rfl rootV rfl (by simp [rootV, Value.oneCell']) _ (wordsL q) rfl (by unfold wordsL; rfl) ⟨hfb.2.2.2.2.1, Int.le_trans hfb.2.2.2.2.2 (by omega)⟩ (by omega))
  have hS0 : (fun w' : World => w'.cell? ⟨cb, 10, none⟩ = some (.pointer (some ⟨tb, 0, none⟩))) w10.drew := (hO.cget 11 rfl 10).1
  refine lin_start (S := (fun w' : World => w'.cell? ⟨cb, 10, none⟩ = some (.pointer (some ⟨tb, 0, none⟩)))) rfl 6 rfl hS0 ?_
  simp only [numbered, Nat.zero_add, Nat.reduceAdd]
  refine lin_take (v := ?_) (by kernel_rfl) (by kernel_rfl) (fun _ _ _ h => h) (Or.inl ⟨by rfl, ?_⟩) (by assumption) ?_; (rotate_left; (intro wS hSw; (try dsimp only at hSw); go_simp; (try with_reducible rfl)); rotate_left); simp only [Act.put, List.setIfInBounds_toArray, List.set_cons_zero, List.set_cons_succ]
  refine lin_take (v := ?_) (by kernel_rfl) (by kernel_rfl) (fun _ _ _ h => h) (Or.inl ⟨by rfl, ?_⟩) (by assumption) ?_; (rotate_left; (intro wS hSw; (try dsimp only at hSw); go_simp; (try with_reducible rfl)); rotate_left); simp only [Act.put, List.setIfInBounds_toArray, List.set_cons_zero, List.set_cons_succ]
  refine lin_take (v := ?_) (by kernel_rfl) (by kernel_rfl) (fun _ _ _ h => h) (Or.inl ⟨by rfl, ?_⟩) (by assumption) ?_; (rotate_left; (intro wS hSw; (try dsimp only at hSw); go_simp; (try with_reducible rfl)); rotate_left); simp only [Act.put, List.setIfInBounds_toArray, List.set_cons_zero, List.set_cons_succ]
  refine lin_take (v := ?_) (by kernel_rfl) (by kernel_rfl) (fun _ _ _ h => h) (Or.inl ⟨by rfl, ?_⟩) (by assumption) ?_; (rotate_left; (intro wS hSw; (try dsimp only at hSw); go_simp; (try with_reducible rfl)); rotate_left); simp only [Act.put, List.setIfInBounds_toArray, List.set_cons_zero, List.set_cons_succ]
  refine lin_sole (by kernel_rfl) (fun K hK => ?_)
  go_simp
  go_at_call 31; refine (RT.out _).mono ?_
  rintro e u1 ⟨rfl, hb1⟩
  have hO1 := hO.grow hb1
  clear hb1
  refine hK.out _ _ ?_ (fun hHeld => ?_)
  · exact (hO1.cget 11 rfl 10).1
  try simp only [Act.put, List.setIfInBounds_toArray, List.set_cons_zero, List.set_cons_succ]
  clear hK hHeld
  clear hO
  refine lin_sole (by kernel_rfl) (fun K hK => ?_)
  go_simp
  go_at_call 53; refine (MK.out _ ⟨bv, hO1⟩).mono ?_
  rintro e u2 ⟨rfl, bv2, hO2⟩
  refine hK.out _ _ ?_ (fun hHeld => ?_)
  · exact (hO2.cget 11 rfl 10).1
  try simp only [Act.put, List.setIfInBounds_toArray, List.set_cons_zero, List.set_cons_succ]
  clear hK hHeld
  clear hO1
  refine lin_done (by kernel_rfl) ?_
  go_wp2_with fail
  go_ret2
  exact ⟨cb, rfl, gs, sb, gd, sd, ob, lb, tb, ag, hb, rb, M, oa, oc, ps, _, _, _, hM0, hps.out, bv2, hO2.sel [0, 1, 2, 3, 4, 5, 11, 8, 9, 10, 12, 13] (by decide)⟩
end Go.Proofs.Ytcegncbnanbenaa
