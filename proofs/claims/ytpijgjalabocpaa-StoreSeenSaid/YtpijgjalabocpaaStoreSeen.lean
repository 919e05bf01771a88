/- A store that is looked at: each access to a word is told to a hook, a closure that keeps what it sees. -/
import Derived.Test.YtpijgjalabocpaaStoreDoesWalk
set_option linter.unusedVariables false
set_option linter.unusedSimpArgs false
namespace Go.Proofs.Ytpijgjalabocpaa
open Go.RowKit
theorem Try.infoSeen : (Try.prog.info? 52).map (fun i => (i.zero, i.size, i.bytes)) = some (some (.agg #[.int .i64 0, .bool false]), 2, 16) := by kernel_rfl
def seenL (ps : List (Int × Bool)) : List Value := ps.flatMap fun p => [.int .i64 p.1, .bool p.2]
theorem seenL_length (ps : List (Int × Bool)) : (seenL ps).length = ps.length * 2 := by
  induction ps with
  | nil => rfl
  | cons p ps ih => simp only [seenL, List.flatMap_cons, List.length_append, List.length_cons, List.length_nil] at ih ⊢; omega
theorem seenL_snoc (ps : List (Int × Bool)) (a : Int) (b : Bool) : seenL ps ++ [.int .i64 a, .bool b] = seenL (ps ++ [(a, b)]) := by simp [seenL]
theorem seenL_get : ∀ (ps : List (Int × Bool)) (i : Nat) (h : i < ps.length), (seenL ps)[i * 2]? = some (.int .i64 ps[i].1) ∧ (seenL ps)[i * 2 + 1]? = some (.bool ps[i].2)
  | p :: ps, 0, _ => by simp [seenL]
  | p :: ps, i + 1, h => by
    have := seenL_get ps i (by simpa using h)
    have e : seenL (p :: ps) = [.int .i64 p.1, .bool p.2] ++ seenL ps := by simp [seenL]
    rw [e]
    refine ⟨?_, ?_⟩
    · rw [List.getElem?_append_right (by simp; omega)]
      simp only [List.length_cons, List.length_nil, List.getElem_cons_succ]
      rw [show (i + 1) * 2 - (0 + 1 + 1) = i * 2 by omega]
      exact this.1
    · rw [List.getElem?_append_right (by simp; omega)]
      simp only [List.length_cons, List.length_nil, List.getElem_cons_succ]
      rw [show (i + 1) * 2 + 1 - (0 + 1 + 1) = i * 2 + 1 by omega]
      exact this.2
abbrev hookF (sb : Nat) : Value := .func (.func 28) #[] #[.pointer (some ⟨sb, 0, none⟩)]
/-- A store, its hook's variable, and what the hook has seen. -/
def seenS (g b : Nat) (ms : List Int) (sb : Nat) (sv : Value) (ps : List (Int × Bool)) (l : List Ast) : List Ast :=
  storeH g b ms (hookF sb) :: cellsA sb #[sv] 50 :: rowA 52 2 sv ps.length (seenL ps) :: l
def SeenOwn (w0 w : World) (g b : Nat) (ms : List Int) (sb : Nat) (ps : List (Int × Bool)) (l : List Ast) : Prop := ∃ sv, Own w0 w (seenS g b ms sb sv ps l)
set_option maxHeartbeats 4000000
set_option maxRecDepth 100000
theorem seen_hook {w0 w : World} {g b : Nat} {ms : List Int} {sb : Nat} {ps : List (Int × Bool)} {l : List Ast} (h : SeenOwn w0 w g b ms sb ps l) (hp : ps.length ≤ 1000) (a : Int) (t : Bool) :
    Calls Try.prog 28 #[.int .i64 a, .bool t, .pointer (some ⟨sb, 0, none⟩)] w fun e w' => e = .returned (.tuple #[]) ∧ SeenOwn w0 w' g b ms sb (ps ++ [(a, t)]) l := by
  obtain ⟨i2, hi2, hq0, hq1', hq2'⟩ := info_parts' Try.infoSeen
  obtain ⟨sv, hO⟩ := h
  have c0 := (hO.cget 1 rfl 0).1
  have f0 := (hO.cget 1 rfl 0).2
  simp at c0
  have hr := hO.row 2 rfl
  obtain ⟨so, sc, rfl, s1, s2, s3⟩ := hr.shape
  unfold maxLen at s2
  have hE := fun (w2 : World) (ao2 : Option Addr) (cap2 : Nat) (hr2 : Row w2 52 2 (.slice ao2 (ps.length + 1) cap2) (ps.length + 1) (seenL ps ++ [.int .i64 a, .bool t])) (ht2 : Touch (fun k => Value.ownBlock (.slice so ps.length sc) = some k) w w2) (hf2 : ∀ k, Value.ownBlock (.slice ao2 (ps.length + 1) cap2) = some k → Value.ownBlock (.slice so ps.length sc) = some k ∨ w.heap.size ≤ k) =>
    (hO.move 2 rfl (Moves.of_append hr2 ht2 hf2)).cset 1 rfl 0 (.slice ao2 (ps.length + 1) cap2)
  have hC := fun (w2 : World) (ao2 : Option Addr) (cap2 : Nat) (hr2 : Row w2 52 2 (.slice ao2 (ps.length + 1) cap2) (ps.length + 1) (seenL ps ++ [.int .i64 a, .bool t])) (ht2 : Touch (fun k => Value.ownBlock (.slice so ps.length sc) = some k) w w2) (hf2 : ∀ k, Value.ownBlock (.slice ao2 (ps.length + 1) cap2) = some k → Value.ownBlock (.slice so ps.length sc) = some k ∨ w.heap.size ≤ k) =>
    (hO.move 2 rfl (Moves.of_append hr2 ht2 hf2)).cget 1 rfl 0
  have hL := Lib.hid (seenL_snoc ps a t)
  replace hE := Lib.hid hE
  replace hC := Lib.hid hC
  clear hO
  go_enter Try.func28, Try.ntmps28
  go_wp2_with (first | (at_builtin; refine wpList_append_lit' _ rfl (.tmp 5) (.tmp 9) 50 rfl 52 i2 _ 2 16 Try.underlying50 hi2 hq0 hq1' hq2' rfl (by decide) (.slice so ps.length sc) ps.length (seenL ps) rfl hr #[.int .i64 a, .bool t] _ 1 _ rfl rfl rfl (by simp [Value.oneCell']) (by unfold maxLen; omega) (by omega) ?_; intro ao2 cap2 w2 hr2 ht2 hf2; obtain ⟨d0, d1⟩ := hC.out _ _ _ hr2 ht2 hf2; simp at d0))
  have hO5 := hE.out _ _ _ hr2 ht2 hf2
  go_end0
  refine ⟨rfl, .slice ao2 (ps.length + 1) cap2, ?_⟩
  rw [seenS, ← hL.out, show (ps ++ [(a, t)]).length = ps.length + 1 by simp]
  exact hO5
theorem word_seen {w0 w : World} {g b : Nat} {ms : List Int} {sb : Nat} {ps : List (Int × Bool)} {l : List Ast} (h : SeenOwn w0 w g b ms sb ps l) (hp : ps.length ≤ 1000) {k : Nat} (hl : k < ms.length) (t : Bool) :
    Calls Try.prog 40 #[.pointer (some ⟨g, 0, none⟩), .int .i64 k, .bool t] w fun e w' => e = .returned (.pointer (some ⟨b, k, none⟩)) ∧ SeenOwn w0 w' g b ms sb (ps ++ [((k : Int), t)]) l := by
  have H := Lib.hid (seen_hook h hp k t)
  obtain ⟨sv, hO⟩ := h
  have hS : StoreIs w g b ms (hookF sb) := hO.at 0 rfl
  have hs := Lib.hid (size_any hS)
  have c0 := hS.c0
  have c1 := hS.c1
  have h2 := hS.2.1
  have hC := Lib.hid (fun (w2 : World) (h : SeenOwn w0 w2 g b ms sb (ps ++ [((k : Int), t)]) l) => show StoreIs w2 g b ms (hookF sb) from h.elim fun sv h => h.at 0 rfl)
  clear hS hO
  have g1 : decide ((k : Int) < 0) = false := by simp
  have g2 : decide ((ms.length : Int) ≤ (k : Int)) = false := by simp; omega
  have hrun : ∀ w, Sem.run Try.prog (binOp BinOp.neq 37 (hookF sb) Value.nilFunc) w = .ok (.bool true) w := fun w => by kernel_rfl
  unfold hookF at *
  go_enter Try.func40, Try.ntmps40
  go_wp2_with (first | (go_at_call 27; refine hs.out.mono ?_; rintro e w1 ⟨rfl, rfl⟩) | (go_at_call 28; refine H.out.mono ?_; rintro e w1 ⟨rfl, hH⟩; have hS := hC.out _ hH; have d0 := hS.c0; clear hS))
  go_ret
  exact ⟨rfl, hH⟩
theorem SeenOwn.box {w0 w : World} {g b : Nat} {ms : List Int} {sb : Nat} {ps : List (Int × Bool)} {l : List Ast} (h : SeenOwn w0 w g b ms sb ps l) (cs : Array Value) (t : TypeId) : SeenOwn w0 (w.alloc (.cells cs t)) g b ms sb ps (l ++ [cellsA w.heap.size cs t]) :=
  h.elim fun sv h => ⟨sv, h.box cs t⟩
theorem SeenOwn.unbox {w0 w : World} {g b : Nat} {ms : List Int} {sb : Nat} {ps : List (Int × Bool)} {l l' : List Ast} (h : SeenOwn w0 w g b ms sb ps (l ++ l')) : SeenOwn w0 w g b ms sb ps l :=
  h.elim fun sv h => ⟨sv, Own.pop (l := seenS g b ms sb sv ps l) h⟩
theorem SeenOwn.store {w0 w : World} {g b : Nat} {ms : List Int} {sb : Nat} {ps : List (Int × Bool)} {l : List Ast} (h : SeenOwn w0 w g b ms sb ps l) : StoreIs w g b ms (hookF sb) := h.elim fun sv h => h.at 0 rfl
theorem SeenOwn.set {w0 w : World} {g b : Nat} {ms : List Int} {sb : Nat} {ps : List (Int × Bool)} {l : List Ast} (h : SeenOwn w0 w g b ms sb ps l) (k : Nat) (n : Int) : SeenOwn w0 (w.setCell ⟨b, k, none⟩ (.int .i64 n)) g b (ms.set k n) sb ps l := by
  have hS := h.store
  obtain ⟨sv, h⟩ := h
  exact ⟨sv, h.move 0 rfl (A' := storeH g b (ms.set k n) (hookF sb)) ⟨hS.set k n, (Touch.refl _ _).setCell (.inr (.inr rfl)) _, fun k hk => .inl hk⟩⟩
theorem load_seen {w0 w : World} {g b : Nat} {ms : List Int} {sb : Nat} {ps : List (Int × Bool)} {l : List Ast} (h : SeenOwn w0 w g b ms sb ps l) (hp : ps.length ≤ 1000) {k : Nat} (hl : k < ms.length) (x : Int) (hx : ms.getD k 0 = x) :
    Calls Try.prog 17 #[.pointer (some ⟨g, 0, none⟩), .int .i64 k] w fun e w' => e = .returned (.tuple #[.int .i64 x, .bool true]) ∧ SeenOwn w0 w' g b ms sb (ps ++ [((k : Int), false)]) l := by
  subst hx
  have H := Lib.hid (word_seen h hp hl false)
  have hC := Lib.hid (fun (w2 : World) (h : SeenOwn w0 w2 g b ms sb (ps ++ [((k : Int), false)]) l) => h.store.word hl)
  clear h
  generalize ms.getD k 0 = X at *
  go_enter Try.func17, Try.ntmps17
  go_wp2_with (first | (go_at_call 40; refine H.out.mono ?_; rintro e w1 ⟨rfl, h1⟩; have y0 := hC.out _ h1))
  go_ret2
  exact ⟨rfl, h1⟩
theorem store_seen {w0 w : World} {g b : Nat} {ms : List Int} {sb : Nat} {ps : List (Int × Bool)} {l : List Ast} (h : SeenOwn w0 w g b ms sb ps l) (hp : ps.length ≤ 1000) {k : Nat} (hl : k < ms.length) (n : Int) :
    Calls Try.prog 19 #[.pointer (some ⟨g, 0, none⟩), .int .i64 k, .int .i64 n] w fun e w' => e = .returned (.bool true) ∧ SeenOwn w0 w' g b (ms.set k n) sb (ps ++ [((k : Int), true)]) l := by
  have H := Lib.hid (word_seen h hp hl true)
  have hC := Lib.hid (fun (w2 : World) (h : SeenOwn w0 w2 g b ms sb (ps ++ [((k : Int), true)]) l) => And.intro (h.store.word hl) (h.store.free k))
  clear h
  generalize ms.getD k 0 = X at *
  go_enter Try.func19, Try.ntmps19
  go_wp2_with (first | (go_at_call 40; refine H.out.mono ?_; rintro e w1 ⟨rfl, h1⟩; obtain ⟨y0, y1⟩ := hC.out _ h1))
  go_ret
  exact ⟨rfl, h1.set k n⟩
theorem add_seen {w0 w : World} {g b : Nat} {ms : List Int} {sb : Nat} {ps : List (Int × Bool)} {l : List Ast} (h : SeenOwn w0 w g b ms sb ps l) (hp : ps.length ≤ 1000) {k : Nat} (hl : k < ms.length) (n x : Int) (hx : ms.getD k 0 = x) :
    Calls Try.prog 16 #[.pointer (some ⟨g, 0, none⟩), .int .i64 k, .int .i64 n] w fun e w' => e = .returned (.tuple #[.int .i64 x, .bool true]) ∧ SeenOwn w0 w' g b (ms.set k (wrap64 (x + n))) sb (ps ++ [((k : Int), true)]) l := by
  subst hx
  have H := Lib.hid (word_seen h hp hl true)
  have hC := Lib.hid (fun (w2 : World) (h : SeenOwn w0 w2 g b ms sb (ps ++ [((k : Int), true)]) l) => And.intro (h.store.word hl) (h.store.free k))
  clear h
  generalize ms.getD k 0 = X at *
  go_enter Try.func16, Try.ntmps16
  go_wp2_with (first | (go_at_call 40; refine H.out.mono ?_; rintro e w1 ⟨rfl, h1⟩; obtain ⟨y0, y1⟩ := hC.out _ h1))
  go_ret2
  exact ⟨rfl, h1.set k _⟩
theorem swap_seen_yes {w0 w : World} {g b : Nat} {ms : List Int} {sb : Nat} {ps : List (Int × Bool)} {l : List Ast} (h : SeenOwn w0 w g b ms sb ps l) (hp : ps.length ≤ 1000) {k : Nat} (hl : k < ms.length) (n x : Int) (hx : ms.getD k 0 = x) :
    Calls Try.prog 39 #[.pointer (some ⟨g, 0, none⟩), .int .i64 k, .int .i64 x, .int .i64 n] w fun e w' => e = .returned (.tuple #[.int .i64 x, .bool true]) ∧ SeenOwn w0 w' g b (ms.set k n) sb (ps ++ [((k : Int), true)]) l := by
  subst hx
  have H := Lib.hid (word_seen h hp hl true)
  have hC := Lib.hid (fun (w2 : World) (h : SeenOwn w0 w2 g b ms sb (ps ++ [((k : Int), true)]) l) => And.intro (h.store.word hl) (h.store.free k))
  clear h
  generalize ms.getD k 0 = X at *
  go_enter Try.func39, Try.ntmps39
  go_wp2_with (first | (go_at_call 40; refine H.out.mono ?_; rintro e w1 ⟨rfl, h1⟩; obtain ⟨y0, y1⟩ := hC.out _ h1))
  go_ret2
  exact ⟨rfl, h1.set k _⟩
theorem swap_seen_no {w0 w : World} {g b : Nat} {ms : List Int} {sb : Nat} {ps : List (Int × Bool)} {l : List Ast} (h : SeenOwn w0 w g b ms sb ps l) (hp : ps.length ≤ 1000) {k : Nat} (hl : k < ms.length) (o n x : Int) (hx : ms.getD k 0 = x) (hne : x ≠ o) :
    Calls Try.prog 39 #[.pointer (some ⟨g, 0, none⟩), .int .i64 k, .int .i64 o, .int .i64 n] w fun e w' => e = .returned (.tuple #[.int .i64 x, .bool true]) ∧ SeenOwn w0 w' g b ms sb (ps ++ [((k : Int), true)]) l := by
  subst hx
  have H := Lib.hid (word_seen h hp hl true)
  have hC := Lib.hid (fun (w2 : World) (h : SeenOwn w0 w2 g b ms sb (ps ++ [((k : Int), true)]) l) => And.intro (h.store.word hl) (h.store.free k))
  clear h
  generalize ms.getD k 0 = X at *
  have hq : (X == o) = false := by simp [hne]
  go_enter Try.func39, Try.ntmps39
  go_wp2_with (first | (go_at_call 40; refine H.out.mono ?_; rintro e w1 ⟨rfl, h1⟩; obtain ⟨y0, y1⟩ := hC.out _ h1))
  go_ret2
  exact ⟨rfl, h1⟩
/-- A step at a word that there is. -/
theorem do_seen_in {w0 w : World} {g b : Nat} {ms : List Int} {sb : Nat} {ps : List (Int × Bool)} {l : List Ast} (h : SeenOwn w0 w g b ms sb ps l) (hp : ps.length ≤ 1000) (kd n old : Int) (a : Nat) (hk : kd = 0 ∨ kd = 1 ∨ kd = 2 ∨ kd = 3) (ha : a < ms.length) (ms' : List Int) (x : Int) (hr : stepD kd a n old ms = (ms', x, true)) :
    Calls Try.prog 26 #[.pointer (some ⟨g, 0, none⟩), .agg #[.int .i64 kd, .int .i64 a, .int .i64 n, .int .i64 old]] w fun e w' => e = .returned (.tuple #[.int .i64 x, .bool true]) ∧ SeenOwn w0 w' g b ms' sb (ps ++ [((a : Int), decide (0 < kd))]) l := by
  have hB := h.box #[.int .i64 kd, .int .i64 a, .int .i64 n, .int .i64 old] 43
  unfold stepD at hr
  rw [if_neg (by omega), if_neg (by omega)] at hr
  simp only [Int.toNat_natCast] at hr
  rcases hk with rfl | rfl | rfl | rfl
  · simp only [if_true, Prod.mk.injEq] at hr
    obtain ⟨rfl, hx, _⟩ := hr
    have s0 := Lib.hid (load_seen hB hp ha x hx)
    clear hB h hx
    go_enter Try.func26, Try.ntmps26
    go_wp2_with (first | (go_at_call 17; refine s0.out.mono ?_; rintro e w1 ⟨rfl, h1⟩))
    go_ret2
    exact ⟨rfl, h1.unbox⟩
  · rw [if_neg (by omega), if_pos rfl] at hr
    simp only [Prod.mk.injEq] at hr
    obtain ⟨rfl, rfl, _⟩ := hr
    have s0 := Lib.hid (store_seen hB hp ha n)
    clear hB h
    go_enter Try.func26, Try.ntmps26
    go_wp2_with (first | (go_at_call 19; refine s0.out.mono ?_; rintro e w1 ⟨rfl, h1⟩))
    go_ret2
    exact ⟨rfl, h1.unbox⟩
  · rw [if_neg (by omega), if_neg (by omega), if_pos rfl] at hr
    simp only [Prod.mk.injEq] at hr
    obtain ⟨rfl, hx, _⟩ := hr
    rw [hx]
    have s0 := Lib.hid (add_seen hB hp ha n x hx)
    clear hB h hx
    go_enter Try.func26, Try.ntmps26
    go_wp2_with (first | (go_at_call 16; refine s0.out.mono ?_; rintro e w1 ⟨rfl, h1⟩))
    go_ret2
    exact ⟨rfl, h1.unbox⟩
  · rw [if_neg (by omega), if_neg (by omega), if_neg (by omega)] at hr
    by_cases hq : ms.getD a 0 = old
    · rw [if_pos hq] at hr
      simp only [Prod.mk.injEq] at hr
      obtain ⟨rfl, hx, _⟩ := hr
      have hxo : old = x := by omega
      subst hxo
      have s0 := Lib.hid (swap_seen_yes hB hp ha n old hq)
      clear hB h hx hq
      go_enter Try.func26, Try.ntmps26
      go_wp2_with (first | (go_at_call 39; refine s0.out.mono ?_; rintro e w1 ⟨rfl, h1⟩))
      go_ret2
      exact ⟨rfl, h1.unbox⟩
    · rw [if_neg hq] at hr
      simp only [Prod.mk.injEq] at hr
      obtain ⟨rfl, hx, _⟩ := hr
      have s0 := Lib.hid (swap_seen_no hB hp ha old n x hx (by omega))
      clear hB h hx hq
      go_enter Try.func26, Try.ntmps26
      go_wp2_with (first | (go_at_call 39; refine s0.out.mono ?_; rintro e w1 ⟨rfl, h1⟩))
      go_ret2
      exact ⟨rfl, h1.unbox⟩
/-- A step at no word. -/
theorem do_seen_out {w0 w : World} {g b : Nat} {ms : List Int} {sb : Nat} {ps : List (Int × Bool)} {l : List Ast} (h : SeenOwn w0 w g b ms sb ps l) (kd at_ n old : Int) (hk : kd = 0 ∨ kd = 1 ∨ kd = 2 ∨ kd = 3) (hin : at_ < 0 ∨ (ms.length : Int) ≤ at_) :
    Calls Try.prog 26 #[.pointer (some ⟨g, 0, none⟩), .agg #[.int .i64 kd, .int .i64 at_, .int .i64 n, .int .i64 old]] w fun e w' => e = .returned (.tuple #[.int .i64 0, .bool false]) ∧ SeenOwn w0 w' g b ms sb ps l := by
  have hB := h.box #[.int .i64 kd, .int .i64 at_, .int .i64 n, .int .i64 old] 43
  have s0 := Lib.hid (load_out hB.store hin)
  have s1 := Lib.hid (store_out hB.store hin n)
  have s2 := Lib.hid (add_out hB.store hin n)
  have s3 := Lib.hid (swap_out hB.store hin old n)
  clear h hin
  rcases hk with rfl | rfl | rfl | rfl
  all_goals
    go_enter Try.func26, Try.ntmps26
    go_wp2_with (first | (go_at_call 17; refine s0.out.mono ?_; rintro e w1 ⟨rfl, rfl⟩) | (go_at_call 19; refine s1.out.mono ?_; rintro e w1 ⟨rfl, rfl⟩) | (go_at_call 16; refine s2.out.mono ?_; rintro e w1 ⟨rfl, rfl⟩) | (go_at_call 39; refine s3.out.mono ?_; rintro e w1 ⟨rfl, rfl⟩))
    go_ret2
    exact ⟨rfl, hB.unbox⟩
/-- Words that are filled. -/
theorem do_seen_fill {w0 w : World} {g b : Nat} {ms : List Int} {sb : Nat} {ps : List (Int × Bool)} {l : List Ast} (h : SeenOwn w0 w g b ms sb ps l) (at_ n old : Int) (h0 : -9223372036854775808 ≤ at_ ∧ at_ ≤ 9223372036854775807) (h1 : -9223372036854775808 ≤ n ∧ n ≤ 9223372036854775807) (ms' : List Int) (hm : fillL ms (fillA at_ n) (fillM at_ n) old ms.length = ms') :
    Calls Try.prog 26 #[.pointer (some ⟨g, 0, none⟩), .agg #[.int .i64 4, .int .i64 at_, .int .i64 n, .int .i64 old]] w fun e w' => e = .returned (.tuple #[.int .i64 0, .bool true]) ∧ SeenOwn w0 w' g b ms' sb ps l := by
  have hB := h.box #[.int .i64 4, .int .i64 at_, .int .i64 n, .int .i64 old] 43
  obtain ⟨sv, hO⟩ := hB
  have s0 := Lib.hid (own_fillH hO 0 rfl at_ n old _ _ h0 h1 (fill_case at_ n) ms' hm)
  clear h hO hm
  go_enter Try.func26, Try.ntmps26
  go_wp2_with (first | (go_at_call 20; refine s0.out.mono ?_; rintro e w1 ⟨rfl, h1⟩))
  go_ret2
  exact ⟨rfl, SeenOwn.unbox ⟨sv, h1⟩⟩
end Go.Proofs.Ytpijgjalabocpaa
