/- Package deque: what a play keeps in memory; forebayref10.Has. -/
import Derived.Test.YtofnjapgacgdlaaDqWorks
import Derived.Test.YtofnjapgacgdlaaDqEnd
import Derived.Test.YtofnjapgacgdlaaDqArg
import Derived.Lib.MinMax
set_option linter.unusedVariables false
set_option linter.unusedSimpArgs false
namespace Go.Proofs.Ytofnjapgacgdlaa
open Go.RowKit
set_option maxRecDepth 100000
set_option maxHeartbeats 8000000
theorem has_any {ao : Option Addr} {c : Nat} {zs : List Int} {w : World} (h : Lies w ao c zs) (x : Int) (t : Bool) (ht : decide (x ∈ zs) = t) :
    Calls Try.prog 36 #[.slice ao zs.length c, .int .i64 x] w fun e w' => e = .returned (.bool t) ∧ w = w' := by
  have hc := h.1
  have hc2 := h.2.1
  unfold maxLen at hc2
  replace ht := Lib.hid ht
  go_enter Try.func36, Try.ntmps36
  go_wp2
  go_loop [5] (fun i => ∃ k : Nat, k ≤ zs.length ∧ i = .int .i64 k ∧ Hid (∀ j, j < k → zs.getD j 0 ≠ x)) (fun i => (zs.length - intOf i).toNat)
  case atStart => exact ⟨0, by omega, rfl, Lib.hid (fun j hj => by omega)⟩
  case round =>
    obtain ⟨k, hk, rfl, hn⟩ := hrel
    by_cases hlt : k < zs.length
    · obtain ⟨ad, rfl, hx⟩ := h.get hlt
      by_cases hq : zs.getD k 0 = x
      · have ht1 := ht.out
        rw [decide_eq_true (by rw [← hq, List.getD_eq_getElem?_getD, List.getElem?_eq_getElem hlt]; exact List.getElem_mem hlt)] at ht1
        subst ht1
        rw [hq] at hx
        clear hq
        go_wp2
        go_ret
        exact ⟨rfl, rfl⟩
      · have hn' := Lib.hid (show ∀ j, j < k + 1 → zs.getD j 0 ≠ x from fun j hj => by
          by_cases hjk : j = k
          · rw [hjk]; exact hq
          · exact hn.out j (by omega))
        generalize zs.getD k 0 = X at *
        have hq' : (X == x) = false := by simp [hq]
        go_wp2
        go_round
        case rel => exact ⟨k + 1, by omega, by go_num, hn'⟩
        case measure => simp [intOf]; omega
    · obtain rfl : k = zs.length := by omega
      have ht1 := ht.out
      rw [decide_eq_false (fun hm => by
        obtain ⟨j, hj, he⟩ := List.getElem_of_mem hm
        refine hn.out j hj ?_
        rw [List.getD_eq_getElem?_getD, List.getElem?_eq_getElem hj]; exact he)] at ht1
      subst ht1
      go_wp2
      go_ret
      exact ⟨rfl, rfl⟩
theorem Try.infoIntD : (Try.prog.info? 3).map (fun i => (i.zero, i.size, i.bytes)) = some (some (.int .i64 0), 1, 8) := by kernel_rfl
theorem Try.infoWalkP : (Try.prog.info? 46).map (fun i => (i.zero, i.size, i.bytes)) = some (some (.pointer none), 1, 8) := by kernel_rfl
theorem one_cellsD (xs : List Int) : ∀ u ∈ xs.map (Value.int .i64), u.oneCell' = true := by
  intro u hu
  obtain ⟨x, _, rfl⟩ := List.mem_map.1 hu
  rfl
theorem Own.takeRow {w0 w : World} {l : List Ast} (h : Own w0 w l) (i : Nat) {ao : Option Addr} {n c k : Nat} {zs : List Value} {t : TypeId} (hi : l[i]? = some (rowA t 1 (.slice ao n c) n zs)) (hk : k ≤ n) : Own w0 w (l.set i (rowA t 1 (.slice ao k c) k (zs.take k))) := by
  have hr := (h.row i hi).take hk
  rw [Nat.mul_one] at hr
  exact h.move i hi ⟨hr, Touch.refl _ _, fun k hk => .inl (by cases ao with | none => simp [rowA, Value.ownBlock] at hk | some a => simpa [rowA, Value.ownBlock] using hk)⟩
theorem cf2 {D : Nat} (k : Int) (B : Nat) (h : 2 ≤ D ∧ D ≤ 8) (hk : (k = 0 ∧ B = 0) ∨ (k = 1 ∧ B = D + 4)) {m : Nat} (hm : (m : Int) = sizeV 2 1 1 D) : Cf 2 D k B m := by
  refine ⟨by unfold okPlan; rw [decide_eq_true_eq]; omega, ?_, ?_, ?_⟩
  · rcases hk with ⟨rfl, rfl⟩ | ⟨rfl, rfl⟩
    · have : clamp 0 0 (2 - 1) = 0 := by decide
      unfold baseV
      rw [this]
      simp
    · have : clamp 1 0 (2 - 1) = 1 := by decide
      unfold baseV
      rw [this]
      unfold wideV
      omega
  · rw [hm]; unfold sizeV wideV roomV; omega
  · have : (m : Int) ≤ 100000 := by rw [hm]; unfold sizeV wideV roomV; omega
    omega
/-- A list of integers in a row. -/
def rI (v : Value) (xs : List Int) : Ast := rowA 3 1 v xs.length (xs.map (.int .i64))
def outA (ob : Nat) (pv qv sv kv : Value) (r : Bool) : Ast := cellsA ob #[pv, qv, sv, kv, .bool r] 60
def wrow (wkb : Nat) (P : Nat → Value) : Ast := rowA 46 1 (.slice (some ⟨wkb, 0, none⟩) 4 4) 4 [P 0, P 1, P 2, P 3]
def emptyA : Ast where
  F _ := False
  hold _ := True
  loc h _ := h
  lt _ k hk := hk.elim
theorem Own.empty {w0 w : World} {l : List Ast} (h : Own w0 w l) : Own w0 w (emptyA :: l) := by
  refine ⟨h.below, fun A hA => ?_, fun A hA k hk => ?_, ?_⟩
  · rcases List.mem_cons.1 hA with rfl | hA
    · trivial
    · exact h.all A hA
  · rcases List.mem_cons.1 hA with rfl | hA
    · exact hk.elim
    · exact h.own A hA k hk
  · rw [List.pairwise_cons]
    exact ⟨fun B hB k hk => hk.elim, h.sep⟩
def updV (P : Nat → Value) (k : Nat) (v : Value) : Nat → Value := fun j => if j = k then v else P j
def updA (As : Nat → Ast) (k : Nat) (A : Ast) : Nat → Ast := fun j => if j = k then A else As j
theorem four (K : Nat) (h : K < 4) : K = 0 ∨ K = 1 ∨ K = 2 ∨ K = 3 := by omega
theorem four_set (P : Nat → Value) {K : Nat} (h : K < 4) (u : Value) : [P 0, P 1, P 2, P 3].set K u = [updV P K u 0, updV P K u 1, updV P K u 2, updV P K u 3] := by
  rcases four K h with rfl | rfl | rfl | rfl <;> rfl
theorem four_get (P : Nat → Value) {K : Nat} (h : K < 4) : [P 0, P 1, P 2, P 3][K]? = some (P K) := by
  rcases four K h with rfl | rfl | rfl | rfl <;> rfl
theorem updA_same (As : Nat → Ast) (k : Nat) : updA As k (As k) = As := by
  funext j
  unfold updA
  split
  · rename_i e; rw [e]
  · rfl
theorem four_pick (As : Nat → Ast) {K : Nat} (h : K < 4) : ∃ rest, ∀ A, (A :: rest).Perm [updA As K A 0, updA As K A 1, updA As K A 2, updA As K A 3] := by
  rcases four K h with rfl | rfl | rfl | rfl
  · exact ⟨[As 1, As 2, As 3], fun A => List.Perm.refl _⟩
  · exact ⟨[As 0, As 2, As 3], fun A => List.Perm.swap ..⟩
  · exact ⟨[As 0, As 1, As 3], fun A => (List.Perm.swap ..).trans (.cons _ (List.Perm.swap ..))⟩
  · exact ⟨[As 0, As 1, As 2], fun A => (List.Perm.swap ..).trans (.cons _ ((List.Perm.swap ..).trans (.cons _ (List.Perm.swap ..))))⟩
def WP (D : Int) (B : Nat) (ws : Nat → Option WS) (k : Nat) (v : Value) (A : Ast) : Prop :=
  (ws k = none ∧ v = .pointer none ∧ A = emptyA) ∨ ∃ s wb cs bx, ws k = some s ∧ v = .pointer (some ⟨wb, 0, none⟩) ∧ WkIs 2 D 1 B wb s cs bx ∧ A = walkA wb cs bx
theorem WP.upd {D : Int} {B : Nat} {ws : Nat → Option WS} {P : Nat → Value} {As : Nat → Ast} (h : ∀ k, k < 4 → WP D B ws k (P k) (As k)) {K : Nat} {o : Option WS} {v : Value} {A : Ast} (hk : WP D B (fun _ => o) K v A) : ∀ k, k < 4 → WP D B (upd ws K o) k (updV P K v k) (updA As K A k) := by
  intro k hk4
  unfold updV updA
  by_cases e : k = K
  · subst e
    rw [if_pos rfl, if_pos rfl]
    unfold WP at *
    rwa [upd_self]
  · rw [if_neg e, if_neg e]
    have := h k hk4
    unfold WP at *
    rwa [upd_other e]
def PB (pb ob wkb rb : Nat) (D : Int) (P : Nat → Value) (pv qv sv kv : Value) (r : Bool) (pu po st sk : List Int) (rest : List Ast) : List Ast :=
  planA pb 2 D :: outA ob pv qv sv kv r :: wrow wkb P :: rI pv pu :: rI qv po :: rI sv st :: rI kv sk :: outA rb (.slice none 0 0) (.slice none 0 0) (.slice none 0 0) (.slice none 0 0) false :: rest
theorem PB.perm {pb ob wkb rb : Nat} {D : Int} {P : Nat → Value} {pv qv sv kv : Value} {r : Bool} {pu po st sk : List Int} {S A : Ast} {rest l : List Ast} (h : (A :: rest).Perm l) : (S :: A :: PB pb ob wkb rb D P pv qv sv kv r pu po st sk rest).Perm (S :: PB pb ob wkb rb D P pv qv sv kv r pu po st sk l) := by
  refine .cons _ ?_
  unfold PB
  have h1 : (A :: ([planA pb 2 D, outA ob pv qv sv kv r, wrow wkb P, rI pv pu, rI qv po, rI sv st, rI kv sk, outA rb (.slice none 0 0) (.slice none 0 0) (.slice none 0 0) (.slice none 0 0) false] ++ rest)).Perm ([planA pb 2 D, outA ob pv qv sv kv r, wrow wkb P, rI pv pu, rI qv po, rI sv st, rI kv sk, outA rb (.slice none 0 0) (.slice none 0 0) (.slice none 0 0) (.slice none 0 0) false] ++ A :: rest) := List.perm_middle.symm
  exact h1.trans (List.Perm.append_left _ h)
def PState (w0 w : World) (g sb pb ob wkb rb : Nat) (D : Int) (B : Nat) (σ : PS) : Prop :=
  ∃ (P : Nat → Value) (As : Nat → Ast) (pv qv sv kv : Value), (∀ k, k < 4 → WP D B σ.ws k (P k) (As k)) ∧ Own w0 w (storeA g sb σ.m :: PB pb ob wkb rb D P pv qv sv kv σ.right σ.pushed σ.popped σ.stolen σ.stack [As 0, As 1, As 2, As 3])
theorem PState.pick {w0 w : World} {g sb pb ob wkb rb : Nat} {D : Int} {B : Nat} {σ : PS} (h : PState w0 w g sb pb ob wkb rb D B σ) {K : Nat} (hK : K < 4) :
    ∃ (P : Nat → Value) (As : Nat → Ast) (pv qv sv kv : Value) (rest : List Ast), (∀ k, k < 4 → WP D B σ.ws k (P k) (As k)) ∧ (∀ A, (A :: rest).Perm [updA As K A 0, updA As K A 1, updA As K A 2, updA As K A 3]) ∧ Own w0 w (storeA g sb σ.m :: As K :: PB pb ob wkb rb D P pv qv sv kv σ.right σ.pushed σ.popped σ.stolen σ.stack rest) := by
  obtain ⟨P, As, pv, qv, sv, kv, h1, hO⟩ := h
  obtain ⟨rest, hr⟩ := four_pick As hK
  have h2 := hr (As K)
  rw [updA_same] at h2
  exact ⟨P, As, pv, qv, sv, kv, rest, h1, hr, hO.pm (PB.perm h2).symm⟩
/-- What a play has of the pieces besides. -/
structure PQ (D : Int) (B : Nat) (ws : Nat → Option WS) (P : Nat → Value) (As : Nat → Ast) (K : Nat) (rest : List Ast) : Prop where
  lt : K < 4
  wp : ∀ k, k < 4 → WP D B ws k (P k) (As k)
  pm : ∀ A, (A :: rest).Perm [updA As K A 0, updA As K A 1, updA As K A 2, updA As K A 3]
theorem PQ.some_ {D : Int} {B : Nat} {ws : Nat → Option WS} {P : Nat → Value} {As : Nat → Ast} {K : Nat} {rest : List Ast} (q : PQ D B ws P As K rest) {w0 w : World} {g sb pb ob wkb rb wb : Nat} {m : List Int} {s : WS} {pv qv sv kv : Value} {r : Bool} {pu po st sk : List Int}
    (hO : DW 2 D 1 B w0 w g sb wb m s (PB pb ob wkb rb D (updV P K (.pointer (some ⟨wb, 0, none⟩))) pv qv sv kv r pu po st sk rest)) {σ : PS} (h1 : σ.ws = upd ws K (some s)) (h2 : σ.m = m) (h3 : σ.right = r) (h4 : σ.pushed = pu) (h5 : σ.popped = po) (h6 : σ.stolen = st) (h7 : σ.stack = sk) : PState w0 w g sb pb ob wkb rb D B σ := by
  obtain ⟨hp, cs, bx, hk, hO⟩ := hO
  subst h2 h3 h4 h5 h6 h7
  refine ⟨updV P K (.pointer (some ⟨wb, 0, none⟩)), updA As K (walkA wb cs bx), pv, qv, sv, kv, ?_, hO.pm (PB.perm (q.pm _))⟩
  rw [h1]
  exact WP.upd q.wp (.inr ⟨s, wb, cs, bx, rfl, rfl, hk, rfl⟩)
theorem PQ.none_ {D : Int} {B : Nat} {ws : Nat → Option WS} {P : Nat → Value} {As : Nat → Ast} {K : Nat} {rest : List Ast} (q : PQ D B ws P As K rest) {w0 w : World} {g sb pb ob wkb rb : Nat} {m : List Int} {pv qv sv kv : Value} {r : Bool} {pu po st sk : List Int}
    (hO : Own w0 w (storeA g sb m :: PB pb ob wkb rb D (updV P K (.pointer none)) pv qv sv kv r pu po st sk rest)) {σ : PS} (h1 : σ.ws = upd ws K none) (h2 : σ.m = m) (h3 : σ.right = r) (h4 : σ.pushed = pu) (h5 : σ.popped = po) (h6 : σ.stolen = st) (h7 : σ.stack = sk) : PState w0 w g sb pb ob wkb rb D B σ := by
  subst h2 h3 h4 h5 h6 h7
  refine ⟨updV P K (.pointer none), updA As K emptyA, pv, qv, sv, kv, ?_, (hO.empty.pm (.swap ..)).pm (PB.perm (q.pm _))⟩
  rw [h1]
  exact WP.upd q.wp (.inl ⟨rfl, rfl, rfl⟩)
theorem PB.app0 {w0 w : World} {S : Ast} {pb ob wkb rb : Nat} {D : Int} {P : Nat → Value} {pv qv sv kv : Value} {r : Bool} {pu po st sk : List Int} {rest : List Ast} (hO : Own w0 w (S :: PB pb ob wkb rb D P pv qv sv kv r pu po st sk rest)) (x : Int) (w2 : World) (ao2 : Option Addr) (cap2 : Nat) (hr : Row w2 3 1 (.slice ao2 (pu.length + 1) cap2) (pu.length + 1) (pu.map (.int .i64) ++ [.int .i64 x])) (ht : Touch (fun k => pv.ownBlock = some k) w w2) (hf : ∀ k, Value.ownBlock (.slice ao2 (pu.length + 1) cap2) = some k → pv.ownBlock = some k ∨ w.heap.size ≤ k) :
    (∃ v, w2.cell? ⟨ob, 0, none⟩ = some v) ∧ w2.frozen? ⟨ob, 0, none⟩ = false ∧ Own w0 (w2.setCell ⟨ob, 0, none⟩ (.slice ao2 (pu.length + 1) cap2)) (S :: PB pb ob wkb rb D P (.slice ao2 (pu.length + 1) cap2) qv sv kv r (pu ++ [x]) po st sk rest) := by
  have q := hO.move 4 rfl (Moves.of_append hr ht hf)
  refine ⟨⟨_, (q.cget 2 rfl 0).1⟩, (q.cget 2 rfl 0).2, (q.cset 2 rfl 0 (.slice ao2 (pu.length + 1) cap2)).cast ?_⟩
  simp [PB, outA, rI]
theorem PB.app1 {w0 w : World} {S : Ast} {pb ob wkb rb : Nat} {D : Int} {P : Nat → Value} {pv qv sv kv : Value} {r : Bool} {pu po st sk : List Int} {rest : List Ast} (hO : Own w0 w (S :: PB pb ob wkb rb D P pv qv sv kv r pu po st sk rest)) (x : Int) (w2 : World) (ao2 : Option Addr) (cap2 : Nat) (hr : Row w2 3 1 (.slice ao2 (po.length + 1) cap2) (po.length + 1) (po.map (.int .i64) ++ [.int .i64 x])) (ht : Touch (fun k => qv.ownBlock = some k) w w2) (hf : ∀ k, Value.ownBlock (.slice ao2 (po.length + 1) cap2) = some k → qv.ownBlock = some k ∨ w.heap.size ≤ k) :
    (∃ v, w2.cell? ⟨ob, 1, none⟩ = some v) ∧ w2.frozen? ⟨ob, 1, none⟩ = false ∧ Own w0 (w2.setCell ⟨ob, 1, none⟩ (.slice ao2 (po.length + 1) cap2)) (S :: PB pb ob wkb rb D P pv (.slice ao2 (po.length + 1) cap2) sv kv r pu (po ++ [x]) st sk rest) := by
  have q := hO.move 5 rfl (Moves.of_append hr ht hf)
  refine ⟨⟨_, (q.cget 2 rfl 1).1⟩, (q.cget 2 rfl 1).2, (q.cset 2 rfl 1 (.slice ao2 (po.length + 1) cap2)).cast ?_⟩
  simp [PB, outA, rI]
theorem PB.app2 {w0 w : World} {S : Ast} {pb ob wkb rb : Nat} {D : Int} {P : Nat → Value} {pv qv sv kv : Value} {r : Bool} {pu po st sk : List Int} {rest : List Ast} (hO : Own w0 w (S :: PB pb ob wkb rb D P pv qv sv kv r pu po st sk rest)) (x : Int) (w2 : World) (ao2 : Option Addr) (cap2 : Nat) (hr : Row w2 3 1 (.slice ao2 (st.length + 1) cap2) (st.length + 1) (st.map (.int .i64) ++ [.int .i64 x])) (ht : Touch (fun k => sv.ownBlock = some k) w w2) (hf : ∀ k, Value.ownBlock (.slice ao2 (st.length + 1) cap2) = some k → sv.ownBlock = some k ∨ w.heap.size ≤ k) :
    (∃ v, w2.cell? ⟨ob, 2, none⟩ = some v) ∧ w2.frozen? ⟨ob, 2, none⟩ = false ∧ Own w0 (w2.setCell ⟨ob, 2, none⟩ (.slice ao2 (st.length + 1) cap2)) (S :: PB pb ob wkb rb D P pv qv (.slice ao2 (st.length + 1) cap2) kv r pu po (st ++ [x]) sk rest) := by
  have q := hO.move 6 rfl (Moves.of_append hr ht hf)
  refine ⟨⟨_, (q.cget 2 rfl 2).1⟩, (q.cget 2 rfl 2).2, (q.cset 2 rfl 2 (.slice ao2 (st.length + 1) cap2)).cast ?_⟩
  simp [PB, outA, rI]
theorem PB.sk_new {w0 w : World} {S : Ast} {pb ob wkb rb : Nat} {D : Int} {P : Nat → Value} {pv qv sv kv : Value} {r : Bool} {pu po st sk : List Int} {rest : List Ast} (hO : Own w0 w (S :: PB pb ob wkb rb D P pv qv sv kv r pu po st sk rest)) (v : Value) (xs : List Int) {w2 : World} (h2 : Own w0 w2 ((S :: PB pb ob wkb rb D P pv qv sv kv r pu po st sk rest) ++ [rI v xs])) :
    (∃ u, w2.cell? ⟨ob, 3, none⟩ = some u) ∧ w2.frozen? ⟨ob, 3, none⟩ = false ∧ Own w0 (w2.setCell ⟨ob, 3, none⟩ v) (S :: PB pb ob wkb rb D P pv qv sv v r pu po st xs rest) := by
  have q := h2.cset 2 rfl 3 v
  refine ⟨⟨_, (h2.cget 2 rfl 3).1⟩, (h2.cget 2 rfl 3).2, ?_⟩
  have q2 : Own w0 (w2.setCell ⟨ob, 3, none⟩ v) ([S, planA pb 2 D, outA ob pv qv sv v r, wrow wkb P, rI pv pu, rI qv po, rI sv st] ++ (rI kv sk :: (outA rb (.slice none 0 0) (.slice none 0 0) (.slice none 0 0) (.slice none 0 0) false :: (rest ++ [rI v xs])))) := q.cast (by simp [PB, outA])
  have q3 := q2.sub (List.Sublist.append (List.Sublist.refl [S, planA pb 2 D, outA ob pv qv sv v r, wrow wkb P, rI pv pu, rI qv po, rI sv st]) (.cons _ (List.Sublist.refl _)))
  refine q3.pm ?_
  unfold PB
  have hp : (outA rb (.slice none 0 0) (.slice none 0 0) (.slice none 0 0) (.slice none 0 0) false :: (rest ++ [rI v xs])).Perm (rI v xs :: outA rb (.slice none 0 0) (.slice none 0 0) (.slice none 0 0) (.slice none 0 0) false :: rest) :=
    List.perm_append_comm (l₁ := outA rb (.slice none 0 0) (.slice none 0 0) (.slice none 0 0) (.slice none 0 0) false :: rest) (l₂ := [rI v xs])
  exact List.Perm.append_left [S, planA pb 2 D, outA ob pv qv sv v r, wrow wkb P, rI pv pu, rI qv po, rI sv st] hp
theorem PB.sk_take {w0 w : World} {S : Ast} {pb ob wkb rb : Nat} {D : Int} {P : Nat → Value} {pv qv sv : Value} {ao : Option Addr} {c : Nat} {r : Bool} {pu po st sk : List Int} {rest : List Ast} (hO : Own w0 w (S :: PB pb ob wkb rb D P pv qv sv (.slice ao sk.length c) r pu po st sk rest)) {k : Nat} (hk : k ≤ sk.length) :
    Own w0 (w.setCell ⟨ob, 3, none⟩ (.slice ao k c)) (S :: PB pb ob wkb rb D P pv qv sv (.slice ao k c) r pu po st (sk.take k) rest) := by
  have q := (hO.takeRow 7 rfl hk).cset 2 rfl 3 (.slice ao k c)
  refine q.cast ?_
  simp [PB, outA, rI, List.map_take, Nat.min_eq_left hk]
theorem PB.sk_nil {w0 w : World} {S : Ast} {pb ob wkb rb : Nat} {D : Int} {P : Nat → Value} {pv qv sv kv : Value} {r : Bool} {pu po st sk : List Int} {rest : List Ast} (hO : Own w0 w (S :: PB pb ob wkb rb D P pv qv sv kv r pu po st sk rest)) : Own w0 (w.setCell ⟨ob, 3, none⟩ (.slice none 0 0)) (S :: PB pb ob wkb rb D P pv qv sv (.slice none 0 0) r pu po st [] rest) := by
  have q := (hO.move 7 rfl (A' := rI (.slice none 0 0) []) ⟨Row.nil _ _ _, Touch.refl _ _, fun k hk => by simp [rI, rowA, Value.ownBlock] at hk⟩).cset 2 rfl 3 (.slice none 0 0)
  exact q.cast (by simp [PB, outA])
theorem PB.rt {w0 w : World} {S : Ast} {pb ob wkb rb : Nat} {D : Int} {P : Nat → Value} {pv qv sv kv : Value} {r : Bool} {pu po st sk : List Int} {rest : List Ast} (hO : Own w0 w (S :: PB pb ob wkb rb D P pv qv sv kv r pu po st sk rest)) (b : Bool) : Own w0 (w.setCell ⟨ob, 4, none⟩ (.bool b)) (S :: PB pb ob wkb rb D P pv qv sv kv b pu po st sk rest) := (hO.cset 2 rfl 4 (.bool b)).cast (by simp [PB, outA])
theorem PB.out {w0 w : World} {S : Ast} {pb ob wkb rb : Nat} {D : Int} {P : Nat → Value} {pv qv sv kv : Value} {r : Bool} {pu po st sk : List Int} {rest : List Ast} (hO : Own w0 w (S :: PB pb ob wkb rb D P pv qv sv kv r pu po st sk rest)) : (w.cell? ⟨ob, 0, none⟩ = some pv ∧ w.cell? ⟨ob, 1, none⟩ = some qv ∧ w.cell? ⟨ob, 2, none⟩ = some sv ∧ w.cell? ⟨ob, 3, none⟩ = some kv ∧ w.cell? ⟨ob, 4, none⟩ = some (.bool r)) ∧ ∀ j, w.frozen? ⟨ob, j, none⟩ = false :=
  ⟨⟨(hO.cget 2 rfl 0).1, (hO.cget 2 rfl 1).1, (hO.cget 2 rfl 2).1, (hO.cget 2 rfl 3).1, (hO.cget 2 rfl 4).1⟩, fun j => (hO.cget 2 rfl j).2⟩
theorem PB.row {w0 w : World} {S : Ast} {pb ob wkb rb : Nat} {D : Int} {P : Nat → Value} {pv qv sv kv : Value} {r : Bool} {pu po st sk : List Int} {rest : List Ast} (hO : Own w0 w (S :: PB pb ob wkb rb D P pv qv sv kv r pu po st sk rest)) {K : Nat} (hK : K < 4) : w.cell? ⟨wkb, K, none⟩ = some (P K) ∧ w.frozen? ⟨wkb, K, none⟩ = false :=
  ⟨hO.row_get 3 rfl (four_get P hK), hO.row_free 3 rfl (by omega)⟩
theorem PB.setRow {w0 w : World} {S : Ast} {pb ob wkb rb : Nat} {D : Int} {P : Nat → Value} {pv qv sv kv : Value} {r : Bool} {pu po st sk : List Int} {rest : List Ast} (hO : Own w0 w (S :: PB pb ob wkb rb D P pv qv sv kv r pu po st sk rest)) {K : Nat} (hK : K < 4) (u : Value) : Own w0 (w.setCell ⟨wkb, K, none⟩ u) (S :: PB pb ob wkb rb D (updV P K u) pv qv sv kv r pu po st sk rest) := hO.row_set 3 rfl K u (four_set P hK u)
theorem updV_twice (P : Nat → Value) (K : Nat) (a b : Value) : updV (updV P K a) K b = updV P K b := by
  funext j
  unfold updV
  split <;> rfl
end Go.Proofs.Ytofnjapgacgdlaa
