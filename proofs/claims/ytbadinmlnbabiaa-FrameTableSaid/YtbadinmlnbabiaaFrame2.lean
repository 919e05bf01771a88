/- Package frame: a frame is made. -/
import Derived.Test.YtbadinmlnbabiaaFrame
import Derived.Deep.MidRow
set_option linter.unusedVariables false
set_option linter.unusedSimpArgs false
namespace Go.Proofs.Ytbadinmlnbabiaa
open Go.RowKit
set_option maxRecDepth 100000
set_option maxHeartbeats 8000000
theorem AOwn.pm {w0 w : World} {g hb : Nat} {hs : List Bool} {bs : List Int} {fr : Nat} {pk : Int} {l l' : List Ast} (h : AOwn w0 w g hb hs bs fr pk l) (hp : l.Perm l') : AOwn w0 w g hb hs bs fr pk l' :=
  h.elim fun bv h => ⟨bv, h.pm (.cons _ (.cons _ (.cons _ hp)))⟩
theorem TOwn.boxed {w0 w : World} {tb gs sb ag hb rb n : Nat} {a b c d : Int} {ms : List Int} {xs : List Value} {hs : List Bool} {bs : List Int} {fr : Nat} {pk : Int} {l : List Ast} (h : TOwn w0 w tb gs sb ag hb rb n a b c d ms xs hs bs fr pk l) (cs : Array Value) (t : TypeId) :
    AOwn w0 (w.alloc (.cells cs t)) ag hb hs bs fr pk (cellsA w.heap.size cs t :: tabL tb gs sb ag rb n a b c d ms xs l) := (AOwn.box h cs t).pm (List.perm_append_comm (l₂ := [_]))
/-- A list in which a stretch has been written anew. -/
def setsL (xs : List Value) (o : Nat) : List Value → List Value
  | [] => xs
  | v :: r => setsL (xs.set o v) (o + 1) r
theorem AOwn.tabset {w0 w : World} {tb gs sb ag hb rb n : Nat} {a b c d : Int} {ms : List Int} {xs : List Value} {hs : List Bool} {bs : List Int} {fr : Nat} {pk : Int} {l : List Ast} {X : Ast} (h : AOwn w0 w ag hb hs bs fr pk (X :: tabL tb gs sb ag rb n a b c d ms xs l)) (j : Nat) (u : Value) :
    AOwn w0 (w.setCell ⟨rb, j, none⟩ u) ag hb hs bs fr pk (X :: tabL tb gs sb ag rb n a b c d ms (xs.set j u) l) := by
  obtain ⟨bv, hO⟩ := h
  exact ⟨bv, hO.row_set 6 rfl j u rfl⟩
theorem AOwn.tabsets {tb gs sb ag hb rb n : Nat} {a b c d : Int} {ms : List Int} {hs : List Bool} {bs : List Int} {fr : Nat} {pk : Int} {l : List Ast} {X : Ast} {w0 : World} : ∀ (vs : List Value) (o : Nat) (xs : List Value) (w : World), AOwn w0 w ag hb hs bs fr pk (X :: tabL tb gs sb ag rb n a b c d ms xs l) →
    AOwn w0 (w.setCells rb o vs) ag hb hs bs fr pk (X :: tabL tb gs sb ag rb n a b c d ms (setsL xs o vs) l)
  | [], _, _, _, h => h
  | v :: r, o, xs, w, h => by
    rw [World.setCells]
    exact AOwn.tabsets r (o + 1) _ _ (h.tabset o v)
theorem tab_keep {w0 w : World} {tb gs sb ag hb rb n : Nat} {a b c d : Int} {ms : List Int} {xs : List Value} {hs : List Bool} {bs : List Int} {fr : Nat} {pk : Int} {l : List Ast} {X : Ast} (h : AOwn w0 w ag hb hs bs fr pk (X :: tabL tb gs sb ag rb n a b c d ms xs l)) : (fun w' : World => w'.cell? ⟨tb, 0, none⟩ = some (.int .i64 a) ∧ w'.cell? ⟨tb, 1, none⟩ = some (.int .i64 b) ∧ w'.cell? ⟨tb, 2, none⟩ = some (.int .i64 c) ∧ w'.cell? ⟨tb, 3, none⟩ = some (.int .i64 d) ∧ w'.cell? ⟨tb, 4, none⟩ = some (.pointer (some ⟨gs, 0, none⟩)) ∧ w'.cell? ⟨tb, 5, none⟩ = some (.pointer (some ⟨ag, 0, none⟩)) ∧ w'.cell? ⟨tb, 6, none⟩ = some (.slice (some ⟨rb, 0, none⟩) n n)) w := by
  obtain ⟨bv, hO⟩ := h
  exact ⟨(hO.cget 4 rfl 0).1, (hO.cget 4 rfl 1).1, (hO.cget 4 rfl 2).1, (hO.cget 4 rfl 3).1, (hO.cget 4 rfl 4).1, (hO.cget 4 rfl 5).1, (hO.cget 4 rfl 6).1⟩
theorem fbox_keep {w0 w : World} {tb gs sb ag hb rb n : Nat} {a b c d : Int} {ms : List Int} {xs : List Value} {hs : List Bool} {bs : List Int} {fr : Nat} {pk : Int} {l : List Ast} {xb : Nat} {FV : Array Value} (h : AOwn w0 w ag hb hs bs fr pk (cellsA xb FV 65 :: tabL tb gs sb ag rb n a b c d ms xs l)) : (fun w' : World => w'.cell? ⟨tb, 0, none⟩ = some (.int .i64 a) ∧ w'.cell? ⟨tb, 1, none⟩ = some (.int .i64 b) ∧ w'.cell? ⟨tb, 2, none⟩ = some (.int .i64 c) ∧ w'.cell? ⟨tb, 3, none⟩ = some (.int .i64 d) ∧ w'.cell? ⟨tb, 4, none⟩ = some (.pointer (some ⟨gs, 0, none⟩)) ∧ w'.cell? ⟨tb, 5, none⟩ = some (.pointer (some ⟨ag, 0, none⟩)) ∧ w'.cell? ⟨tb, 6, none⟩ = some (.slice (some ⟨rb, 0, none⟩) n n) ∧ w'.rangeAt xb 0 FV.toList) w := by
  obtain ⟨t0, t1, t2, t3, t4, t5, t6⟩ := tab_keep h
  obtain ⟨bv, hO⟩ := h
  refine ⟨t0, t1, t2, t3, t4, t5, t6, fun j v hv => ?_⟩
  have := (hO.cget 3 rfl j).1
  rw [show (0 : Nat) + j = j by omega, this, ← Array.getElem?_toList]
  exact hv
theorem row_keep {w0 w : World} {tb gs sb ag hb rb n : Nat} {a b c d : Int} {ms : List Int} {xs : List Value} {hs : List Bool} {bs : List Int} {fr : Nat} {pk : Int} {l : List Ast} {id : Nat} {X : Ast} (h : AOwn w0 w ag hb hs bs fr pk (X :: tabL tb gs sb ag rb n a b c d ms xs l)) (hx : xs.length = n * 19) (hid : id < n) : w.there rb (id * 19) 19 := by
  obtain ⟨bv, hO⟩ := h
  intro k hk
  have hlt : id * 19 + k < xs.length := by omega
  exact ⟨by rw [hO.row_get 6 rfl (List.getElem?_eq_getElem hlt)]; rfl, hO.row_free 6 rfl (by omega)⟩
theorem AOwn.drop {w0 w : World} {g hb : Nat} {hs : List Bool} {bs : List Int} {fr : Nat} {pk : Int} {l : List Ast} {X : Ast} (h : AOwn w0 w g hb hs bs fr pk (X :: l)) : AOwn w0 w g hb hs bs fr pk l :=
  h.elim fun bv h => ⟨bv, h.sub (by simp [arenaL])⟩
theorem Try.sizeFrame : (Try.prog.info? 65).map (·.size) = some 19 := by kernel_rfl
theorem Try.rowFrame : (Try.prog.underlying 65).map (·.isRow) = some true := by kernel_rfl
theorem make_yes {w0 w : World} {tb gs sb ag hb rb n : Nat} {a b c d : Int} {ms : List Int} {xs : List Value} {hs : List Bool} {bs : List Int} {fr : Nat} {pk : Int} {l : List Ast} (h : TOwn w0 w tb gs sb ag hb rb n a b c d ms xs hs bs fr pk l) (hok : okPlan a b c d = true) (hx : xs.length = n * 19) (hln : hs.length = n) (hl : hs.length ≤ 4096) (hbl : bs.length ≤ 100000) (hfr : fr ≤ 4096) {id : Nat} {bs' : List Int} {fr' : Nat} (hn : nextA hs bs fr = some ((id : Int), bs', fr')) (hid : id < hs.length) (hs' : List Bool) (pk' : Int) (hh : hs.set id true = hs') (hp : max pk (cnt hs') = pk') (FV : Array Value) (hF : FV.size = 19) (hF1 : FV.all (·.oneCell') = true)
    (ms1 ms2 : List Int) (hm1 : fillL ms (frameV a b c d id) (roomV c) 0 ms.length = ms1) (hm2 : fillL ms1 (frameV a b c d id) 1 1 ms1.length = ms2) (hf0 : 0 ≤ frameV a b c d id ∧ frameV a b c d id ≤ 9223372036854775807) (hr0 : -9223372036854775808 ≤ roomV c ∧ roomV c ≤ 9223372036854775807) :
    Calls Try.prog 50 #[.pointer (some ⟨tb, 0, none⟩), .agg FV] w fun e w' => e = .returned (.tuple #[.int .i64 id, .bool true]) ∧ TOwn w0 w' tb gs sb ag hb rb n a b c d ms2 (setsL xs (id * 19) FV.toList) hs' bs' fr' pk' l := by
  obtain ⟨d0, hd1, hd2⟩ := Option.map_eq_some_iff.1 Try.rowFrame
  have hsz := Try.sizeFrame
  rw [← hF] at hsz
  have hB := h.boxed FV 65
  clear h
  have TK := Lib.hid (take_yes hB hl hbl hfr hn hid hs' pk' hh hp)
  have K0 := Lib.hid (fbox_keep hB)
  have hid' : id < n := by omega
  clear hn hh hp
  obtain ⟨t0, t1, t2, t3, t4, t5, t6, _⟩ := K0.out
  go_enter Try.func50, Try.ntmps50
  go_upto_region 6 with (first | (go_at_call 32; refine TK.out.mono ?_; rintro e w1 ⟨rfl, h1⟩; clear t0 t1 t2 t3 t4 t5 t6))
  have h2 := h1.drewN 1
  clear h1 TK K0 hB
  generalize w.heap.size = xb at *
  refine lin_start (S := (fun w' : World => w'.cell? ⟨tb, 0, none⟩ = some (.int .i64 a) ∧ w'.cell? ⟨tb, 1, none⟩ = some (.int .i64 b) ∧ w'.cell? ⟨tb, 2, none⟩ = some (.int .i64 c) ∧ w'.cell? ⟨tb, 3, none⟩ = some (.int .i64 d) ∧ w'.cell? ⟨tb, 4, none⟩ = some (.pointer (some ⟨gs, 0, none⟩)) ∧ w'.cell? ⟨tb, 5, none⟩ = some (.pointer (some ⟨ag, 0, none⟩)) ∧ w'.cell? ⟨tb, 6, none⟩ = some (.slice (some ⟨rb, 0, none⟩) n n) ∧ w'.rangeAt xb 0 FV.toList)) rfl 8 rfl (fbox_keep h2) ?_
  simp only [numbered, Nat.zero_add, Nat.reduceAdd]
  have hHeld := fbox_keep h2
  refine lin_take (v := ?_) (by kernel_rfl) (by kernel_rfl) (fun _ _ _ h => h) (Or.inl ⟨by rfl, ?_⟩) (by assumption) ?_; (rotate_left; (intro wS hSw; (try dsimp only at hSw); go_simp; (try with_reducible rfl)); rotate_left); simp only [Act.put, List.setIfInBounds_toArray, List.set_cons_zero, List.set_cons_succ]
  refine lin_take (v := ?_) (by kernel_rfl) (by kernel_rfl) (fun _ _ _ h => h) (Or.inl ⟨by rfl, ?_⟩) (by assumption) ?_; (rotate_left; (intro wS hSw; (try dsimp only at hSw); go_simp; (try with_reducible rfl)); rotate_left); simp only [Act.put, List.setIfInBounds_toArray, List.set_cons_zero, List.set_cons_succ]
  refine lin_take (v := ?_) (by kernel_rfl) (by kernel_rfl) (fun _ _ _ h => h) (Or.inl ⟨by rfl, ?_⟩) (by assumption) ?_; (rotate_left; (intro wS hSw; (try dsimp only at hSw); go_simp; (try with_reducible rfl)); rotate_left); simp only [Act.put, List.setIfInBounds_toArray, List.set_cons_zero, List.set_cons_succ]
  refine lin_take (v := ?_) (by kernel_rfl) (by kernel_rfl) (fun _ _ _ h => h) (Or.inl ⟨by rfl, ?_⟩) (by assumption) ?_; (rotate_left; (intro wS hSw; (try dsimp only at hSw); go_simp; (try with_reducible rfl)); rotate_left); simp only [Act.put, List.setIfInBounds_toArray, List.set_cons_zero, List.set_cons_succ]
  refine lin_take (v := ?_) (by kernel_rfl) (by kernel_rfl) (fun _ _ _ h => h) (Or.inl ⟨by rfl, ?_⟩) (by assumption) ?_; (rotate_left; (intro wS hSw; (try dsimp only at hSw); go_simp; (try with_reducible rfl)); rotate_left); simp only [Act.put, List.setIfInBounds_toArray, List.set_cons_zero, List.set_cons_succ]
  refine lin_take (v := .agg FV) (by kernel_rfl) (by kernel_rfl) (fun _ _ _ h => h) ?yl (by assumption) ?_
  case yl => exact yieldsIf_load_mid (P := Try.prog) (S := (fun w' : World => w'.cell? ⟨tb, 0, none⟩ = some (.int .i64 a) ∧ w'.cell? ⟨tb, 1, none⟩ = some (.int .i64 b) ∧ w'.cell? ⟨tb, 2, none⟩ = some (.int .i64 c) ∧ w'.cell? ⟨tb, 3, none⟩ = some (.int .i64 d) ∧ w'.cell? ⟨tb, 4, none⟩ = some (.pointer (some ⟨gs, 0, none⟩)) ∧ w'.cell? ⟨tb, 5, none⟩ = some (.pointer (some ⟨ag, 0, none⟩)) ∧ w'.cell? ⟨tb, 6, none⟩ = some (.slice (some ⟨rb, 0, none⟩) n n) ∧ w'.rangeAt xb 0 FV.toList)) rfl 65 (.tmp 3) rfl xb 0 rfl FV.toList d0 (fun _ h => h.2.2.2.2.2.2.2) hd1 hd2 hsz
  simp only [Act.put, List.setIfInBounds_toArray, List.set_cons_zero, List.set_cons_succ]
  refine lin_take (v := ?_) (by kernel_rfl) (by kernel_rfl) (fun _ _ _ h => h) (Or.inl ⟨by rfl, ?_⟩) (by assumption) ?_; (rotate_left; (intro wS hSw; (try dsimp only at hSw); go_simp; (try with_reducible rfl)); rotate_left); simp only [Act.put, List.setIfInBounds_toArray, List.set_cons_zero, List.set_cons_succ]
  have hrow : w1.drew.there rb (id * 19) FV.size := by rw [hF]; exact row_keep h2 hx hid'
  have h3 := AOwn.tabsets FV.toList (id * 19) xs w1.drew h2
  refine lin_sole (by kernel_rfl) (fun K hK => ?_)
  rw [if_pos (by rfl)]
  refine wp_store_mid 65 (.tmp 26) (.tmp 25) rfl rb (id * 19) FV rfl rfl hrow hsz hF1 ?_
  refine hK.out _ _ (fbox_keep h3) (fun hHeld => ?_)
  try simp only [Act.put, List.setIfInBounds_toArray, List.set_cons_zero, List.set_cons_succ]
  refine lin_done (by kernel_rfl) ?_
  clear hK h2 hrow hHeld
  generalize w1.drew.setCells rb (id * 19) FV.toList = w4 at *
  obtain ⟨xs', hX⟩ : ∃ xs', setsL xs (id * 19) FV.toList = xs' := ⟨_, rfl⟩
  rw [hX] at h3
  have FR := Lib.hid (fun w => frame_ok hok id w)
  have RM := Lib.hid (fun w => room_ok hok w)
  clear hok
  go_upto_region 7 with fail
  have h4 := h3.drewN 1
  clear h3
  refine lin_start (S := (fun w' : World => w'.cell? ⟨tb, 0, none⟩ = some (.int .i64 a) ∧ w'.cell? ⟨tb, 1, none⟩ = some (.int .i64 b) ∧ w'.cell? ⟨tb, 2, none⟩ = some (.int .i64 c) ∧ w'.cell? ⟨tb, 3, none⟩ = some (.int .i64 d) ∧ w'.cell? ⟨tb, 4, none⟩ = some (.pointer (some ⟨gs, 0, none⟩)) ∧ w'.cell? ⟨tb, 5, none⟩ = some (.pointer (some ⟨ag, 0, none⟩)) ∧ w'.cell? ⟨tb, 6, none⟩ = some (.slice (some ⟨rb, 0, none⟩) n n) ∧ w'.rangeAt xb 0 FV.toList)) rfl 16 rfl (fbox_keep h4) ?_
  simp only [numbered, Nat.zero_add, Nat.reduceAdd]
  have hHeld := fbox_keep h4
  refine lin_take (v := ?_) (by kernel_rfl) (by kernel_rfl) (fun _ _ _ h => h) (Or.inl ⟨by rfl, ?_⟩) (by assumption) ?_; (rotate_left; (intro wS hSw; (try dsimp only at hSw); go_simp; (try with_reducible rfl)); rotate_left); simp only [Act.put, List.setIfInBounds_toArray, List.set_cons_zero, List.set_cons_succ]
  refine lin_take (v := ?_) (by kernel_rfl) (by kernel_rfl) (fun _ _ _ h => h) (Or.inl ⟨by rfl, ?_⟩) (by assumption) ?_; (rotate_left; (intro wS hSw; (try dsimp only at hSw); go_simp; (try with_reducible rfl)); rotate_left); simp only [Act.put, List.setIfInBounds_toArray, List.set_cons_zero, List.set_cons_succ]
  refine lin_take (v := ?_) (by kernel_rfl) (by kernel_rfl) (fun _ _ _ h => h) (Or.inl ⟨by rfl, ?_⟩) (by assumption) ?_; (rotate_left; (intro wS hSw; (try dsimp only at hSw); go_simp; (try with_reducible rfl)); rotate_left); simp only [Act.put, List.setIfInBounds_toArray, List.set_cons_zero, List.set_cons_succ]
  refine lin_take (v := ?_) (by kernel_rfl) (by kernel_rfl) (fun _ _ _ h => h) (Or.inl ⟨by rfl, ?_⟩) (by assumption) ?_; (rotate_left; (intro wS hSw; (try dsimp only at hSw); go_simp; (try with_reducible rfl)); rotate_left); simp only [Act.put, List.setIfInBounds_toArray, List.set_cons_zero, List.set_cons_succ]
  refine lin_take (v := ?_) (by kernel_rfl) (by kernel_rfl) (fun _ _ _ h => h) (Or.inl ⟨by rfl, ?_⟩) (by assumption) ?_; (rotate_left; (intro wS hSw; (try dsimp only at hSw); go_simp; (try with_reducible rfl)); rotate_left); simp only [Act.put, List.setIfInBounds_toArray, List.set_cons_zero, List.set_cons_succ]
  refine lin_take (v := ?_) (by kernel_rfl) (by kernel_rfl) (fun _ _ _ h => h) (Or.inl ⟨by rfl, ?_⟩) (by assumption) ?_; (rotate_left; (intro wS hSw; (try dsimp only at hSw); go_simp; (try with_reducible rfl)); rotate_left); simp only [Act.put, List.setIfInBounds_toArray, List.set_cons_zero, List.set_cons_succ]
  refine lin_take (v := ?_) (by kernel_rfl) (by kernel_rfl) (fun _ _ _ h => h) (Or.inl ⟨by rfl, ?_⟩) (by assumption) ?_; (rotate_left; (intro wS hSw; (try dsimp only at hSw); go_simp; (try with_reducible rfl)); rotate_left); simp only [Act.put, List.setIfInBounds_toArray, List.set_cons_zero, List.set_cons_succ]
  refine lin_take (v := ?_) (by kernel_rfl) (by kernel_rfl) (fun _ _ _ h => h) (Or.inl ⟨by rfl, ?_⟩) (by assumption) ?_; (rotate_left; (intro wS hSw; (try dsimp only at hSw); go_simp; (try with_reducible rfl)); rotate_left); simp only [Act.put, List.setIfInBounds_toArray, List.set_cons_zero, List.set_cons_succ]
  refine lin_take (v := ?_) (by kernel_rfl) (by kernel_rfl) (fun _ _ _ h => h) (Or.inl ⟨by rfl, ?_⟩) (by assumption) ?_; (rotate_left; (intro wS hSw; (try dsimp only at hSw); go_simp; (try with_reducible rfl)); rotate_left); simp only [Act.put, List.setIfInBounds_toArray, List.set_cons_zero, List.set_cons_succ]
  refine lin_rot ?_; simp only [List.cons_append, List.nil_append]
  refine lin_take (v := ?_) (by kernel_rfl) (by kernel_rfl) (fun _ _ _ h => h) (Or.inl ⟨by rfl, ?_⟩) (by assumption) ?_; (rotate_left; (intro wS hSw; (try dsimp only at hSw); go_simp; (try with_reducible rfl)); rotate_left); simp only [Act.put, List.setIfInBounds_toArray, List.set_cons_zero, List.set_cons_succ]
  refine lin_take (v := ?_) (by kernel_rfl) (by kernel_rfl) (fun _ _ _ h => h) (Or.inl ⟨by rfl, ?_⟩) (by assumption) ?_; (rotate_left; (intro wS hSw; (try dsimp only at hSw); go_simp; (try with_reducible rfl)); rotate_left); simp only [Act.put, List.setIfInBounds_toArray, List.set_cons_zero, List.set_cons_succ]
  refine lin_take (v := ?_) (by kernel_rfl) (by kernel_rfl) (fun _ _ _ h => h) (Or.inl ⟨by rfl, ?_⟩) (by assumption) ?_; (rotate_left; (intro wS hSw; (try dsimp only at hSw); go_simp; (try with_reducible rfl)); rotate_left); simp only [Act.put, List.setIfInBounds_toArray, List.set_cons_zero, List.set_cons_succ]
  refine lin_take (v := ?_) (by kernel_rfl) (by kernel_rfl) (fun _ _ _ h => h) (Or.inl ⟨by rfl, ?_⟩) (by assumption) ?_; (rotate_left; (intro wS hSw; (try dsimp only at hSw); go_simp; (try with_reducible rfl)); rotate_left); simp only [Act.put, List.setIfInBounds_toArray, List.set_cons_zero, List.set_cons_succ]
  refine lin_rot ?_; simp only [List.cons_append, List.nil_append]
  refine lin_rot ?_; simp only [List.cons_append, List.nil_append]
  refine lin_sole (by kernel_rfl) (fun K hK => ?_)
  go_simp
  refine (FR.out _).mono ?_
  rintro e u1 ⟨rfl, hb1⟩
  have h5 := h4.grow hb1
  refine hK.out _ _ (fbox_keep h5) (fun hHeld => ?_)
  try simp only [Act.put, List.setIfInBounds_toArray, List.set_cons_zero, List.set_cons_succ]
  clear hK hb1 h4
  have hHeld := fbox_keep h5
  refine lin_sole (by kernel_rfl) (fun K hK => ?_)
  go_simp
  refine (RM.out _).mono ?_
  rintro e u2 ⟨rfl, hb1⟩
  have h6 := h5.grow hb1
  refine hK.out _ _ (fbox_keep h6) (fun hHeld => ?_)
  try simp only [Act.put, List.setIfInBounds_toArray, List.set_cons_zero, List.set_cons_succ]
  clear hK hb1 h5
  have hHeld := fbox_keep h6
  obtain ⟨bv, hO⟩ := h6
  refine lin_sole (by kernel_rfl) (fun K hK => ?_)
  go_simp
  refine (own_fill hO 5 rfl _ _ _ hf0 hr0 ms1 hm1).mono ?_
  rintro e u3 ⟨rfl, hO7⟩
  have h7 : AOwn w0 u3 ag hb hs' bs' fr' pk' (cellsA xb FV 65 :: tabL tb gs sb ag rb n a b c d ms1 xs' l) := ⟨bv, hO7⟩
  refine hK.out _ _ (fbox_keep h7) (fun hHeld => ?_)
  try simp only [Act.put, List.setIfInBounds_toArray, List.set_cons_zero, List.set_cons_succ]
  clear hK hO hO7 hHeld
  refine lin_done (by kernel_rfl) ?_
  generalize u3 = w5 at *
  go_upto_region 8 with fail
  have h8 := h7.drewN 1
  clear h7
  refine lin_start (S := (fun w' : World => w'.cell? ⟨tb, 0, none⟩ = some (.int .i64 a) ∧ w'.cell? ⟨tb, 1, none⟩ = some (.int .i64 b) ∧ w'.cell? ⟨tb, 2, none⟩ = some (.int .i64 c) ∧ w'.cell? ⟨tb, 3, none⟩ = some (.int .i64 d) ∧ w'.cell? ⟨tb, 4, none⟩ = some (.pointer (some ⟨gs, 0, none⟩)) ∧ w'.cell? ⟨tb, 5, none⟩ = some (.pointer (some ⟨ag, 0, none⟩)) ∧ w'.cell? ⟨tb, 6, none⟩ = some (.slice (some ⟨rb, 0, none⟩) n n) ∧ w'.rangeAt xb 0 FV.toList)) rfl 11 rfl (fbox_keep h8) ?_
  simp only [numbered, Nat.zero_add, Nat.reduceAdd]
  have hHeld := fbox_keep h8
  refine lin_take (v := ?_) (by kernel_rfl) (by kernel_rfl) (fun _ _ _ h => h) (Or.inl ⟨by rfl, ?_⟩) (by assumption) ?_; (rotate_left; (intro wS hSw; (try dsimp only at hSw); go_simp; (try with_reducible rfl)); rotate_left); simp only [Act.put, List.setIfInBounds_toArray, List.set_cons_zero, List.set_cons_succ]
  refine lin_take (v := ?_) (by kernel_rfl) (by kernel_rfl) (fun _ _ _ h => h) (Or.inl ⟨by rfl, ?_⟩) (by assumption) ?_; (rotate_left; (intro wS hSw; (try dsimp only at hSw); go_simp; (try with_reducible rfl)); rotate_left); simp only [Act.put, List.setIfInBounds_toArray, List.set_cons_zero, List.set_cons_succ]
  refine lin_take (v := ?_) (by kernel_rfl) (by kernel_rfl) (fun _ _ _ h => h) (Or.inl ⟨by rfl, ?_⟩) (by assumption) ?_; (rotate_left; (intro wS hSw; (try dsimp only at hSw); go_simp; (try with_reducible rfl)); rotate_left); simp only [Act.put, List.setIfInBounds_toArray, List.set_cons_zero, List.set_cons_succ]
  refine lin_take (v := ?_) (by kernel_rfl) (by kernel_rfl) (fun _ _ _ h => h) (Or.inl ⟨by rfl, ?_⟩) (by assumption) ?_; (rotate_left; (intro wS hSw; (try dsimp only at hSw); go_simp; (try with_reducible rfl)); rotate_left); simp only [Act.put, List.setIfInBounds_toArray, List.set_cons_zero, List.set_cons_succ]
  refine lin_take (v := ?_) (by kernel_rfl) (by kernel_rfl) (fun _ _ _ h => h) (Or.inl ⟨by rfl, ?_⟩) (by assumption) ?_; (rotate_left; (intro wS hSw; (try dsimp only at hSw); go_simp; (try with_reducible rfl)); rotate_left); simp only [Act.put, List.setIfInBounds_toArray, List.set_cons_zero, List.set_cons_succ]
  refine lin_take (v := ?_) (by kernel_rfl) (by kernel_rfl) (fun _ _ _ h => h) (Or.inl ⟨by rfl, ?_⟩) (by assumption) ?_; (rotate_left; (intro wS hSw; (try dsimp only at hSw); go_simp; (try with_reducible rfl)); rotate_left); simp only [Act.put, List.setIfInBounds_toArray, List.set_cons_zero, List.set_cons_succ]
  refine lin_take (v := ?_) (by kernel_rfl) (by kernel_rfl) (fun _ _ _ h => h) (Or.inl ⟨by rfl, ?_⟩) (by assumption) ?_; (rotate_left; (intro wS hSw; (try dsimp only at hSw); go_simp; (try with_reducible rfl)); rotate_left); simp only [Act.put, List.setIfInBounds_toArray, List.set_cons_zero, List.set_cons_succ]
  refine lin_take (v := ?_) (by kernel_rfl) (by kernel_rfl) (fun _ _ _ h => h) (Or.inl ⟨by rfl, ?_⟩) (by assumption) ?_; (rotate_left; (intro wS hSw; (try dsimp only at hSw); go_simp; (try with_reducible rfl)); rotate_left); simp only [Act.put, List.setIfInBounds_toArray, List.set_cons_zero, List.set_cons_succ]
  refine lin_take (v := ?_) (by kernel_rfl) (by kernel_rfl) (fun _ _ _ h => h) (Or.inl ⟨by rfl, ?_⟩) (by assumption) ?_; (rotate_left; (intro wS hSw; (try dsimp only at hSw); go_simp; (try with_reducible rfl)); rotate_left); simp only [Act.put, List.setIfInBounds_toArray, List.set_cons_zero, List.set_cons_succ]
  refine lin_sole (by kernel_rfl) (fun K hK => ?_)
  go_simp
  refine (FR.out _).mono ?_
  rintro e u4 ⟨rfl, hb1⟩
  have h9 := h8.grow hb1
  refine hK.out _ _ (fbox_keep h9) (fun hHeld => ?_)
  try simp only [Act.put, List.setIfInBounds_toArray, List.set_cons_zero, List.set_cons_succ]
  clear hK hb1 h8
  have hHeld := fbox_keep h9
  obtain ⟨bv, hO⟩ := h9
  refine lin_sole (by kernel_rfl) (fun K hK => ?_)
  go_simp
  refine (own_fill hO 5 rfl _ _ _ hf0 (by decide) ms2 hm2).mono ?_
  rintro e u5 ⟨rfl, hO7⟩
  have h11 : AOwn w0 u5 ag hb hs' bs' fr' pk' (cellsA xb FV 65 :: tabL tb gs sb ag rb n a b c d ms2 xs' l) := ⟨bv, hO7⟩
  refine hK.out _ _ (fbox_keep h11) (fun hHeld => ?_)
  try simp only [Act.put, List.setIfInBounds_toArray, List.set_cons_zero, List.set_cons_succ]
  clear hK hO hO7 hHeld
  refine lin_done (by kernel_rfl) ?_
  have hfin := h11.drop
  clear h11
  go_wp2_with fail
  go_ret2
  subst hX
  exact ⟨rfl, hfin⟩
end Go.Proofs.Ytbadinmlnbabiaa
