/- The walk through the law TicketOrder. -/
import Derived.Test.YtpijgjalabocpaaTicketComesWalk
import Derived.Test.YtpijgjalabocpaaArgs
set_option linter.unusedVariables false
set_option linter.unusedSimpArgs false
namespace Go.Proofs.Ytpijgjalabocpaa
open Go.RowKit
/-- The turns of eight, as they lie in memory. -/
def TurnsOf (tn : List Int) (xs : List Value) : Prop := xs.length = 8 * 2 ∧ ∀ v, v < 8 → xs[v * 2]? = some (.int .i64 0) ∧ xs[v * 2 + 1]? = some (.int .i64 (tn.getD v 0))
theorem TurnsOf.next {tn : List Int} {xs : List Value} (h : TurnsOf tn xs) (hl : tn.length = 8) {v : Nat} (hv : v < 8) (x : Int) : TurnsOf (tn.set v x) ((xs.set (v * 2) (.int .i64 0)).set (v * 2 + 1) (.int .i64 x)) := by
  obtain ⟨h1, h2⟩ := h
  refine ⟨by simp [h1], fun j hj => ?_⟩
  by_cases hjk : j = v
  · subst hjk
    refine ⟨?_, ?_⟩
    · rw [List.getElem?_set_ne (by omega), List.getElem?_set_self (by omega)]
    · rw [List.getElem?_set_self (by simp; omega), List.getD_eq_getElem?_getD, List.getElem?_set_self (by omega)]
      rfl
  · obtain ⟨h3, h4⟩ := h2 j (by omega)
    refine ⟨?_, ?_⟩
    · rw [List.getElem?_set_ne (by omega), List.getElem?_set_ne (by omega), h3]
    · rw [List.getElem?_set_ne (by omega), List.getElem?_set_ne (by omega), h4, List.getD_eq_getElem?_getD, List.getD_eq_getElem?_getD, List.getElem?_set_ne (by omega)]
/-- How one stands. -/
def Stands (S H A : Nat) (ins : Int) (asked : List Int) (v : Nat) (s t : Int) : Prop :=
  s = 0 ∨ (s = 1 ∧ ∃ n : Nat, t = n ∧ H ≤ n ∧ n < A ∧ asked.getD n 0 = v) ∨ (s = 2 ∧ t = S ∧ ins = v)
structure Inv (S H A : Nat) (ins : Int) (st tn asked : List Int) : Prop where
  lst : st.length = 8
  ltn : tn.length = 8
  la : asked.length = A
  hH : H ≤ A
  hS : (0 ≤ ins ∧ H = S + 1) ∨ (ins = -1 ∧ H = S)
  each : ∀ v, v < 8 → Stands S H A ins asked v (st.getD v 0) (tn.getD v 0)
theorem getD_set_self {l : List Int} {i : Nat} (h : i < l.length) (x : Int) : (l.set i x).getD i 0 = x := by
  rw [List.getD_eq_getElem?_getD, List.getElem?_set_self h]; rfl
theorem getD_set_other {l : List Int} {i j : Nat} (h : i ≠ j) (x : Int) : (l.set i x).getD j 0 = l.getD j 0 := by
  rw [List.getD_eq_getElem?_getD, List.getElem?_set_ne h, ← List.getD_eq_getElem?_getD]
theorem getD_app {l : List Int} {n : Nat} (h : n < l.length) (x : Int) : (l ++ [x]).getD n 0 = l.getD n 0 := by
  rw [List.getD_eq_getElem?_getD, List.getElem?_append_left h, ← List.getD_eq_getElem?_getD]
/-- One asks. -/
theorem Inv.ask {S H A : Nat} {ins : Int} {st tn asked : List Int} (h : Inv S H A ins st tn asked) {v : Nat} (hv : v < 8) : Inv S H (A + 1) ins (st.set v 1) (tn.set v A) (asked ++ [(v : Int)]) := by
  obtain ⟨h1, h2, h3, h4, h5, h6⟩ := h
  refine ⟨by simp [h1], by simp [h2], by simp [h3], by omega, h5, fun u hu => ?_⟩
  by_cases huv : v = u
  · subst huv
    rw [getD_set_self (by omega), getD_set_self (by omega)]
    refine .inr (.inl ⟨rfl, A, rfl, h4, by omega, ?_⟩)
    rw [List.getD_eq_getElem?_getD, List.getElem?_append_right (by omega)]
    simp [h3]
  · rw [getD_set_other huv, getD_set_other huv]
    rcases h6 u hu with h | ⟨ha, n, hb, hc, hd, he⟩ | h
    · exact .inl h
    · exact .inr (.inl ⟨ha, n, hb, hc, by omega, by rw [getD_app (by omega)]; exact he⟩)
    · exact .inr (.inr h)
/-- It is one's turn. -/
theorem Inv.enter {S H A : Nat} {ins : Int} {st tn asked : List Int} (h : Inv S H A ins st tn asked) {v : Nat} (hv : v < 8) (hs : st.getD v 0 = 1) (ht : tn.getD v 0 = S) : ins = -1 ∧ H = S ∧ Inv S (S + 1) A v (st.set v 2) tn asked ∧ S < A ∧ asked.getD S 0 = v := by
  obtain ⟨h1, h2, h3, h4, h5, h6⟩ := h
  have hme : ∃ n : Nat, tn.getD v 0 = n ∧ H ≤ n ∧ n < A ∧ asked.getD n 0 = v := by
    rcases h6 v hv with h | ⟨_, h⟩ | ⟨h, _⟩
    · omega
    · exact h
    · omega
  obtain ⟨n, hn, hn1, hn2, hn3⟩ := hme
  have hnS : n = S := by omega
  subst hnS
  have hi : ins = -1 ∧ H = n := by omega
  refine ⟨hi.1, hi.2, ⟨by simp [h1], h2, h3, by omega, .inl ⟨by omega, rfl⟩, fun u hu => ?_⟩, hn2, hn3⟩
  by_cases huv : v = u
  · subst huv
    rw [getD_set_self (by omega)]
    exact .inr (.inr ⟨rfl, ht, rfl⟩)
  · rw [getD_set_other huv]
    rcases h6 u hu with h | ⟨ha, m, hb, hc, hd, he⟩ | ⟨ha, hb, hc⟩
    · exact .inl h
    · refine .inr (.inl ⟨ha, m, hb, ?_, hd, he⟩)
      have : m ≠ n := by
        rintro rfl
        rw [hn3] at he
        omega
      omega
    · omega
/-- One leaves. -/
theorem Inv.leave {S H A : Nat} {ins : Int} {st tn asked : List Int} (h : Inv S H A ins st tn asked) {v : Nat} (hv : v < 8) (hs : st.getD v 0 = 2) : tn.getD v 0 = S ∧ Inv (S + 1) H A (-1) (st.set v 0) tn asked := by
  obtain ⟨h1, h2, h3, h4, h5, h6⟩ := h
  have hme : tn.getD v 0 = S ∧ ins = v := by
    rcases h6 v hv with h | ⟨h, _⟩ | ⟨_, h⟩
    · omega
    · omega
    · exact h
  refine ⟨hme.1, by simp [h1], h2, h3, h4, .inr ⟨rfl, by omega⟩, fun u hu => ?_⟩
  by_cases huv : v = u
  · subst huv
    rw [getD_set_self (by omega)]
    exact .inl rfl
  · rw [getD_set_other huv]
    rcases h6 u hu with h | h | ⟨ha, hb, hc⟩
    · exact .inl h
    · exact .inr (.inl h)
    · omega
set_option maxHeartbeats 4000000
set_option maxRecDepth 100000
/-- The same, where the new element's place is told in other words. -/
theorem wpList_append_lit' {P : Program} (w : World) {ops : Array Oper} {rest : List Oper} {o : Oper} {a : Act} {Q : Exit → Act → World → Prop}
    (hg : o.guard = none) (s x : Operand) (t : TypeId) (hop : o.op = Op.call { callee := Callee.builtin Builtin.append, args := #[s, x], argTypes := #[t, t] })
    (e : TypeId) (i : TypeInfo) (z : Value) (size bytes : Nat) (h1 : P.underlying t = some (.slice e)) (h2 : P.info? e = some i) (h3 : i.zero = some z) (h4 : i.size = size) (h5 : i.bytes = bytes) (h6 : z.cells.size = size) (h7 : 0 < size)
    (v : Value) (n : Nat) (xs : List Value) (hs : a.eval s = v) (hrow : Row w e size v n xs)
    (cs : Array Value) (e' : TypeId) (m N : Nat) (hN : N = w.heap.size) (hx : a.eval x = .slice (some ⟨N, 0, none⟩) m m) (hn : cs.size = m * size) (h1c : ∀ u ∈ cs.toList, u.oneCell' = true)
    (b1 : n + m ≤ maxLen) (b2 : (n + m) * bytes ≤ 140737488355328)
    (hK : ∀ ao' cap' w', Row w' e size (.slice ao' (n + m) cap') (n + m) (xs ++ cs.toList) → Touch (fun k => v.ownBlock = some k) w w' → (∀ k, Value.ownBlock (.slice ao' (n + m) cap') = some k → v.ownBlock = some k ∨ w.heap.size ≤ k) → wpList P ops Q rest (a.put o.dst (.slice ao' (n + m) cap')) w') :
    wpList P ops Q (o :: rest) a (w.alloc (.cells cs e')) := by
  subst hN
  exact wpList_append_lit w hg s x t hop e i z size bytes h1 h2 h3 h4 h5 h6 h7 v n xs hs hrow cs e' m hx hn h1c b1 b2 hK
theorem map_take_snoc {l : List Int} {n : Nat} (h : n < l.length) {x : Int} (hx : l.getD n 0 = x) : (l.take n).map (Value.int .i64) ++ [.int .i64 x] = (l.take (n + 1)).map (.int .i64) := by
  rw [List.take_succ_eq_append_getElem h, List.map_append]
  rw [List.getD_eq_getElem?_getD, List.getElem?_eq_getElem h] at hx
  simp at hx
  simp [hx]
theorem order_core (os : List Int) (oo : Option Addr) (oc : Nat) (w : World) (h3 : os.length ≤ oc) (h4 : oc ≤ maxLen) (hl2 : os.length ≤ 400)
    (ho : ∀ k, k < os.length → ∃ ad, oo = some ad ∧ w.cell? (ad.add k) = some (.int .u8 (os.getD k 0))) (how : ∀ k, k < os.length → 0 ≤ os.getD k 0 ∧ os.getD k 0 ≤ 255) :
    Calls Try.prog 8 #[.slice oo os.length oc] w fun e w' => e = .returned (.bool true) ∧ Below w.heap.size w w' := by
  unfold maxLen at h4
  obtain ⟨i0, hi, hz0, hz1', hz2'⟩ := info_parts' Try.infoTurn
  obtain ⟨i1, hi1, hw0, hw1', hw2'⟩ := info_parts' Try.infoIntS
  replace ho := Lib.hid ho
  replace how := Lib.hid how
  have N := Lib.hid (fun (w1 : World) (h : Below w.heap.size w w1) => own_new (Own.nil h) 2 [0, 0] rfl)
  go_enter Try.func8, Try.ntmps8
  go_wp2_with (go_at_call 29; refine (works12_any _).mono ?_; rintro e w1 ⟨rfl, hb1⟩)
  go_at_call 15
  refine (N.out _ hb1).mono ?_
  rintro e w2 ⟨rfl, hO0⟩
  clear hb1
  go_wp2_with (first | (refine wpList_make_two _ rfl _ _ 55 rfl 57 i0 (.agg #[.int .i64 0, .int .i64 0]) (.int .i64 0) 16 Try.underlying55 hi hz0 hz1' hz2' rfl .i64 .i64 8 rfl rfl (by decide) (by decide) (by decide) ?_) | (refine wpList_make_int _ rfl _ _ 22 rfl 3 i1 (.int .i64 0) 8 Try.underlying22 hi1 hw0 hw1' hw2' rfl .i64 .i64 8 rfl rfl (by decide) (by decide) (by decide) ?_))
  have hO1 := ((((hO0.row_made 57 2 (List.replicate 16 (.int .i64 0)).toArray 8 (by simp [maxLen]) (by simp)).ints_made (List.replicate 8 (.int .i64 0)).toArray 8 rfl (by simp [maxLen])).push (Below.refl _ _) (rowA 3 1 (.slice none 0 0) 0 []) (Row.nil _ _ _) (by simp [rowA, Value.ownBlock])).push (Below.refl _ _) (rowA 3 1 (.slice none 0 0) 0 []) (Row.nil _ _ _) (by simp [rowA, Value.ownBlock]))
  rw [World.size_alloc] at hO1
  have hO2 : Own w ((w2.alloc (.cells #[.int .i64 0, .int .i64 0, .int .i64 0, .int .i64 0, .int .i64 0, .int .i64 0, .int .i64 0, .int .i64 0, .int .i64 0, .int .i64 0, .int .i64 0, .int .i64 0, .int .i64 0, .int .i64 0, .int .i64 0, .int .i64 0] 57)).alloc (.cells #[.int .i64 0, .int .i64 0, .int .i64 0, .int .i64 0, .int .i64 0, .int .i64 0, .int .i64 0, .int .i64 0] 3)) [storeA (w1.heap.size + 1) w1.heap.size [((0 : Nat) : Int), ((0 : Nat) : Int)], rowA 57 2 (.slice (some ⟨w2.heap.size, 0, none⟩) 8 8) 8 (List.replicate 16 (.int .i64 0)), intsA (w2.heap.size + 1) 8 (List.replicate 8 0), rowA 3 1 (.slice none 0 0) 0 (([] : List Int).map (.int .i64)), rowA 3 1 (.slice none 0 0) 0 ((([] : List Int).take 0).map (.int .i64))] := hO1
  clear hO0 hO1 N
  have ht0 : TurnsOf (List.replicate 8 0) (List.replicate 16 (Value.int .i64 0)) := ⟨rfl, fun v hv => by
    have : v = 0 ∨ v = 1 ∨ v = 2 ∨ v = 3 ∨ v = 4 ∨ v = 5 ∨ v = 6 ∨ v = 7 := by omega
    rcases this with rfl | rfl | rfl | rfl | rfl | rfl | rfl | rfl <;> exact ⟨rfl, rfl⟩⟩
  have hI0 : Inv 0 0 0 (-1) (List.replicate 8 0) (List.replicate 8 0) [] := ⟨rfl, rfl, rfl, by omega, .inr ⟨rfl, rfl⟩, fun v hv => .inl (by
    have : v = 0 ∨ v = 1 ∨ v = 2 ∨ v = 3 ∨ v = 4 ∨ v = 5 ∨ v = 6 ∨ v = 7 := by omega
    rcases this with rfl | rfl | rfl | rfl | rfl | rfl | rfl | rfl <;> rfl)⟩
  generalize (w2.alloc (.cells #[.int .i64 0, .int .i64 0, .int .i64 0, .int .i64 0, .int .i64 0, .int .i64 0, .int .i64 0, .int .i64 0, .int .i64 0, .int .i64 0, .int .i64 0, .int .i64 0, .int .i64 0, .int .i64 0, .int .i64 0, .int .i64 0] 57)).alloc (.cells #[.int .i64 0, .int .i64 0, .int .i64 0, .int .i64 0, .int .i64 0, .int .i64 0, .int .i64 0, .int .i64 0] 3) = u at *
  generalize List.replicate 16 (Value.int .i64 0) = xs0 at *
  generalize List.replicate 8 (0 : Int) = st0 at *
  generalize w1.heap.size = b at *
  generalize hsb : w2.heap.size + 1 = sb at *
  generalize w2.heap.size = tb at *
  replace hsb := Lib.hid hsb
  replace ht0 := Lib.hid ht0
  replace hI0 := Lib.hid hI0
  go_loopw [6, 7, 8, 9] (fun av hv ii i wr => ∃ (k A S H : Nat) (ins : Int) (st tn asked : List Int) (xs : List Value), k ≤ os.length ∧ i = .int .i64 k ∧ ii = .int .i64 ins ∧ A ≤ k ∧ Hid (TurnsOf tn xs) ∧ Hid (Inv S H A ins st tn asked) ∧ Own w wr [storeA (b + 1) b [(A : Int), (S : Int)], rowA 57 2 (.slice (some ⟨tb, 0, none⟩) 8 8) 8 (xs), intsA sb 8 (st), rowA 3 1 (av) A ((asked).map (.int .i64)), rowA 3 1 (hv) H ((asked.take H).map (.int .i64))]) (fun _ _ _ i _ => (os.length - intOf i).toNat)
  case atStart => exact ⟨0, 0, 0, 0, -1, st0, st0, [], xs0, by omega, rfl, rfl, by omega, ht0, hI0, hO2⟩
  case round =>
    clear hO2 ht0 hI0
    obtain ⟨k, A, S, H, ins, st, tn, asked, xs, hk, rfl, rfl, hAk, ht, hI, hO⟩ := hrel
    obtain ⟨aao, acap, rfl, ha1, ha2, _⟩ := (hO.row 3 rfl).shape
    obtain ⟨hao, hcap, rfl, hb1, hb2, _⟩ := (hO.row 4 rfl).shape
    unfold maxLen at ha2 hb2
    have hHA := hI.out.hH
    have hla := hI.out.la
    have hlst := hI.out.lst
    have hltn := hI.out.ltn
    by_cases hlt : k < os.length
    · obtain ⟨od, rfl, hy0⟩ := ho.out k hlt
      obtain ⟨y0, y1⟩ := how.out k hlt
      have hy := hO.old hy0
      clear hy0
      generalize os.getD k 0 = Y at *
      obtain ⟨Y, rfl⟩ : ∃ n : Nat, Y = n := ⟨Y.toNat, by omega⟩
      obtain ⟨v, hv⟩ : ∃ v : Nat, (Y : Int) % 8 = v := ⟨Y % 8, by omega⟩
      have hv8 : v < 8 := by omega
      have g0 := hO.ints_get 2 rfl (j := v) (by omega)
      obtain ⟨t0, t1⟩ := ht.out.2 v hv8
      have z0 := hO.row_get 1 rfl t0
      have z1 := hO.row_get 1 rfl t1
      have hst := hI.out.each v hv8
      replace hla := Lib.hid hla
      replace hlst := Lib.hid hlst
      replace hltn := Lib.hid hltn
      have hcase : st.getD v 0 = 0 ∨ st.getD v 0 = 1 ∨ st.getD v 0 = 2 := by
        rcases hst with h | ⟨h, _⟩ | ⟨h, _⟩ <;> omega
      rcases hcase with hs | hs | hs
      · rw [hs] at g0
        have A1 := Lib.hid (own_ask hO 0 rfl (k := 0) (by simp) (A : Int) rfl [((A + 1 : Nat) : Int), (S : Int)] (by rw [IntWalk.wrap64_in _ (by omega)]; rfl))
        have G := fun (w5 : World) (h : Own w w5 [storeA (b + 1) b [(((A + 1 : Nat)) : Int), (S : Int)], rowA 57 2 (.slice (some ⟨tb, 0, none⟩) 8 8) 8 (xs), intsA sb 8 (st), rowA 3 1 (.slice aao A acap) A ((asked).map (.int .i64)), rowA 3 1 (.slice hao H hcap) H ((asked.take H).map (.int .i64))]) => And.intro (h.row_get 1 rfl t0) (And.intro (h.row_get 1 rfl t1) (And.intro (h.row_free 1 rfl (j := v * 2) (by omega)) (h.row_free 1 rfl (j := v * 2 + 1) (by omega))))
        have G2 := fun (w5 : World) (h : Own w w5 [storeA (b + 1) b [(((A + 1 : Nat)) : Int), (S : Int)], rowA 57 2 (.slice (some ⟨tb, 0, none⟩) 8 8) 8 (xs), intsA sb 8 (st), rowA 3 1 (.slice aao A acap) A ((asked).map (.int .i64)), rowA 3 1 (.slice hao H hcap) H ((asked.take H).map (.int .i64))]) => (h.row_set 1 rfl (v * 2) (.int .i64 0) rfl).row_set 1 rfl (v * 2 + 1) (.int .i64 A) rfl
        have G3 := fun (w6 : World) (h : Own w w6 [storeA (b + 1) b [(((A + 1 : Nat)) : Int), (S : Int)], rowA 57 2 (.slice (some ⟨tb, 0, none⟩) 8 8) 8 ((xs.set (v * 2) (.int .i64 0)).set (v * 2 + 1) (.int .i64 A)), intsA sb 8 (st), rowA 3 1 (.slice aao A acap) A ((asked).map (.int .i64)), rowA 3 1 (.slice hao H hcap) H ((asked.take H).map (.int .i64))]) => And.intro (h.ints_get 2 rfl (j := v) (by have := hlst.out; omega)) (And.intro (h.ints_free 2 rfl (j := v) hv8) (h.ints_set 2 rfl v 1 rfl))
        replace G := Lib.hid G
        replace G2 := Lib.hid G2
        replace G3 := Lib.hid G3
        have hI' := Lib.hid (hI.out.ask hv8)
        have ht' := Lib.hid (ht.out.next hltn.out hv8 (A : Int))
        have htk := Lib.hid (show (asked ++ [(v : Int)]).take H = asked.take H by rw [List.take_append_of_le_length (by have := hla.out; omega)])
        clear t0 t1 hst hs hI ht hO z0 z1
        go_wp2_with (first | (go_at_call 30; refine A1.out.mono ?_; rintro e w5 ⟨rfl, hO5⟩; obtain ⟨z0, z1, f0, f1⟩ := G.out _ hO5; have hO6 := G2.out _ hO5; obtain ⟨s0, s1, hO7⟩ := G3.out _ hO6; have hr7 := hO7.row 3 rfl) | (at_builtin; refine wpList_append_lit' _ rfl (.tmp 45) (.tmp 47) 22 rfl 3 i1 (.int .i64 0) 1 8 Try.underlying22 hi1 hw0 hw1' hw2' rfl (by decide) (.slice aao A acap) A (asked.map (.int .i64)) rfl hr7 #[.int .i64 v] _ 1 _ (by simp) rfl rfl (by simp [Value.oneCell']) (by unfold maxLen; omega) (by omega) ?_; intro ao2 cap2 wz hr2 ht2 hf2))
        have hO8 := hO7.move 3 rfl (Moves.of_append hr2 ht2 hf2)
        go_roundw
        case rel => exact ⟨k + 1, A + 1, S, H, ins, st.set v 1, tn.set v A, asked ++ [(v : Int)], _, by omega, by go_num, rfl, by omega, ht', hI', by rw [htk.out, List.map_append]; exact hO8⟩
        case measure => simp [intOf]; omega
      · rw [hs] at g0
        by_cases hnS : tn.getD v 0 = (S : Int)
        · obtain ⟨e1, e2, hI', hSA, hgS⟩ := hI.out.enter hv8 hs hnS
          subst e1 e2
          rw [hnS] at z1
          have M := Lib.hid (own_mine hO 0 rfl (k := 0) (by simp) (by omega) (H : Int) (H : Int) rfl true (by simp))
          have G3 := fun (w6 : World) (h : Own w w6 [storeA (b + 1) b [(A : Int), (H : Int)], rowA 57 2 (.slice (some ⟨tb, 0, none⟩) 8 8) 8 (xs), intsA sb 8 (st), rowA 3 1 (.slice aao A acap) A ((asked).map (.int .i64)), rowA 3 1 (.slice hao H hcap) H ((asked.take H).map (.int .i64))]) => And.intro (h.ints_get 2 rfl (j := v) (by have := hlst.out; omega)) (And.intro (h.ints_free 2 rfl (j := v) hv8) (h.ints_set 2 rfl v 2 rfl))
          replace G3 := Lib.hid G3
          have hmt := Lib.hid (map_take_snoc (l := asked) (n := H) (by have := hla.out; omega) hgS)
          replace hI' := Lib.hid hI'
          clear t0 t1 hst hs hI hO hgS hnS
          go_wp2_with (first | (go_at_call 31; refine M.out.mono ?_; rintro e w5 ⟨rfl, hO5⟩; obtain ⟨s0, s1, hO7⟩ := G3.out _ hO5; have hr7 := hO7.row 4 rfl) | (at_builtin; refine wpList_append_lit' _ rfl (.tmp 63) (.tmp 65) 22 rfl 3 i1 (.int .i64 0) 1 8 Try.underlying22 hi1 hw0 hw1' hw2' rfl (by decide) (.slice hao H hcap) H ((asked.take H).map (.int .i64)) rfl hr7 #[.int .i64 v] _ 1 _ (by simp) rfl rfl (by simp [Value.oneCell']) (by unfold maxLen; omega) (by omega) ?_; intro ao2 cap2 wz hr2 ht2 hf2))
          have hO8 := hO7.move 4 rfl (Moves.of_append hr2 ht2 hf2)
          go_roundw
          case rel => exact ⟨k + 1, A, H, H + 1, (v : Int), st.set v 2, tn, asked, xs, by omega, by go_num, rfl, by omega, ht, hI', by rw [← hmt.out]; exact hO8⟩
          case measure => simp [intOf]; omega
        · have M := Lib.hid (own_mine hO 0 rfl (k := 0) (by simp) (by omega) (tn.getD v 0) (S : Int) rfl false (by rw [beq_eq_false_iff_ne]; exact fun h => hnS h.symm))
          generalize tn.getD v 0 = T at *
          clear t0 t1 hst hs
          go_wp2_with (first | (go_at_call 31; refine M.out.mono ?_; rintro e w5 ⟨rfl, hO5⟩))
          go_roundw
          case rel => exact ⟨k + 1, A, S, H, ins, st, tn, asked, xs, by omega, by go_num, rfl, by omega, ht, hI, hO5⟩
          case measure => simp [intOf]; omega
      · rw [hs] at g0
        obtain ⟨e1, hI'⟩ := hI.out.leave hv8 hs
        rw [e1] at z1
        have D := Lib.hid (own_done hO 0 rfl (k := 0) (by simp) (by omega) (S : Int) [(A : Int), ((S + 1 : Nat) : Int)] (by have := hI.out.hS; rw [IntWalk.wrap64_in _ (by omega)]; rfl))
        have G3 := fun (w6 : World) (h : Own w w6 [storeA (b + 1) b [(A : Int), (((S + 1 : Nat)) : Int)], rowA 57 2 (.slice (some ⟨tb, 0, none⟩) 8 8) 8 (xs), intsA sb 8 (st), rowA 3 1 (.slice aao A acap) A ((asked).map (.int .i64)), rowA 3 1 (.slice hao H hcap) H ((asked.take H).map (.int .i64))]) => And.intro (h.ints_get 2 rfl (j := v) (by have := hlst.out; omega)) (And.intro (h.ints_free 2 rfl (j := v) hv8) (h.ints_set 2 rfl v 0 rfl))
        replace G3 := Lib.hid G3
        replace hI' := Lib.hid hI'
        clear t0 t1 hst hs hI hO e1
        go_wp2_with (first | (go_at_call 32; refine D.out.mono ?_; rintro e w5 ⟨rfl, hO5⟩; obtain ⟨s0, s1, hO7⟩ := G3.out _ hO5))
        go_roundw
        case rel => exact ⟨k + 1, A, S + 1, H, -1, st.set v 0, tn, asked, xs, by omega, by go_num, rfl, by omega, ht, hI', hO7⟩
        case measure => simp [intOf]; omega
    · have I0 := ints_any hao aao hcap acap (asked.take H) (asked.take H) wr (Lies.of_row (hO.row 4 rfl) (by simp; omega)) ((Lies.of_row (hO.row 3 rfl) hla.symm).take (by omega))
      rw [show (asked.take H).length = H by simp; omega, beq_self_eq_true] at I0
      replace I0 := Lib.hid I0
      replace hla := Lib.hid hla
      go_wp2_with (first | (go_at_call 23; refine I0.out.mono ?_; rintro e w5 ⟨rfl, m5, rfl⟩))
      go_ret
      exact ⟨rfl, below_drewN' hO.below _⟩
theorem walkTicketOrder (v0 : Value) (w : World) (h0 : Arg Try.prog w 54 v0) :
    Calls Try.prog 8 #[v0] w fun e w' => e = .returned (.bool true) ∧ Below w.heap.size w w' := by
  obtain ⟨oo, oc, os, rfl, q1, q2, q3, q4⟩ := h0.bytes Try.underlying54 Try.underlying5 (by kernel_rfl)
  have q5 : ∀ k, k < os.length → 0 ≤ os.getD k 0 ∧ os.getD k 0 ≤ 255 := fun k hk => by
    have := q3 k hk
    simpa [Lit.wf, IntKind.min, IntKind.max, IntKind.signed, IntKind.bits, -List.getD_eq_getElem?_getD] using this
  by_cases hl : os.length ≤ 400
  · exact order_core os oo oc w q1 q2 hl q4 q5
  · unfold maxLen at q2
    clear q3 q4 q5
    have hl2 : 400 < os.length := by omega
    go_enter Try.func8, Try.ntmps8
    go_wp2_with (go_at_call 29; refine (works12_any _).mono ?_; rintro e w1 ⟨rfl, hb1⟩)
    go_ret
    exact ⟨rfl, hb1⟩
end Go.Proofs.Ytpijgjalabocpaa
