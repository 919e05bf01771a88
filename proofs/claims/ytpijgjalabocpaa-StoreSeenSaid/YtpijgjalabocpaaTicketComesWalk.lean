/- The walk through the law TicketComes. -/
import Derived.Test.YtpijgjalabocpaaWorks12
set_option linter.unusedVariables false
set_option linter.unusedSimpArgs false
namespace Go.Proofs.Ytpijgjalabocpaa
open Go.RowKit
theorem Try.infoTurn : (Try.prog.info? 57).map (fun i => (i.zero, i.size, i.bytes)) = some (some (.agg #[.int .i64 0, .int .i64 0]), 2, 16) := by kernel_rfl
theorem Try.infoBool : (Try.prog.info? 4).map (fun i => (i.zero, i.size, i.bytes)) = some (some (.bool false), 1, 1) := by kernel_rfl
theorem madeCells_two (v : Value) (m : Nat) : madeCells #[v, v] m = (List.replicate m v).toArray := by
  refine Array.ext (by simp [madeCells]) fun i h1 h2 => ?_
  have : i % 2 = 0 ∨ i % 2 = 1 := by omega
  rcases this with h | h <;> simp [madeCells, h]
theorem wpList_make_two {P : Program} (w : World) {ops : Array Oper} {rest : List Oper} {o : Oper} {a : Act} {Q : Exit → Act → World → Prop}
    (hg : o.guard = none) (l c : Operand) (t : TypeId) (hop : o.op = Op.makeSlice t l c)
    (e : TypeId) (i : TypeInfo) (z v : Value) (bytes : Nat) (ht : P.underlying t = some (.slice e)) (hi : P.info? e = some i) (hz : i.zero = some z) (hsize : i.size = 2) (hbs : i.bytes = bytes) (hz1 : z.cells = #[v, v])
    (kl kc : IntKind) (n : Int) (hl : a.eval l = .int kl n) (hc : a.eval c = .int kc n) (h0 : 0 ≤ n) (h1 : n ≤ 4294967296) (hb : bytes ≤ 256)
    (hK : wpList P ops Q rest (a.put o.dst (.slice (some ⟨w.heap.size, 0, none⟩) n.toNat n.toNat)) (w.alloc (.cells (List.replicate (n.toNat * 2) v).toArray e))) :
    wpList P ops Q (o :: rest) a w := by
  refine wpList_plain hg fun K hK' => ?_
  have hm : (i.bytes : Int) * n ≤ 281474976710656 := by
    rw [hbs]
    have := Int.mul_le_mul (a := (bytes : Int)) (b := n) (c := 256) (d := 4294967296) (by omega) h1 h0 (by omega)
    omega
  have hrun := run_make (P := P) w t e i z ht hi hz kl kc n n h0 (Int.le_refl _) hm (by omega)
  rw [hsize, hz1, madeCells_two] at hrun
  unfold Oper.wp
  simp [execOp, hop, hl, hc, hrun, Result.andThen]
  exact hK' _ _ hK
theorem Own.row_get {w0 w : World} {l : List Ast} (h : Own w0 w l) (i : Nat) {e : TypeId} {size b n c : Nat} {xs : List Value} (hi : l[i]? = some (rowA e size (.slice (some ⟨b, 0, none⟩) n c) n xs)) {j : Nat} {u : Value} (hj : xs[j]? = some u) : w.cell? ⟨b, j, none⟩ = some u := by
  have := (h.row i hi).cells ⟨b, 0, none⟩ rfl j u hj
  rwa [Addr.add_lit, Nat.zero_add] at this
theorem Own.row_free {w0 w : World} {l : List Ast} (h : Own w0 w l) (i : Nat) {e : TypeId} {size b n c : Nat} {xs : List Value} (hi : l[i]? = some (rowA e size (.slice (some ⟨b, 0, none⟩) n c) n xs)) {j : Nat} (hj : j < n * size) : w.frozen? ⟨b, j, none⟩ = false := by
  have := (h.row i hi).free (j := j) hj
  rwa [Addr.add_lit, Nat.zero_add] at this
theorem Own.row_set {w0 w : World} {l : List Ast} (h : Own w0 w l) (i : Nat) {e : TypeId} {size b n c : Nat} {xs xs' : List Value} (hi : l[i]? = some (rowA e size (.slice (some ⟨b, 0, none⟩) n c) n xs)) (j : Nat) (u : Value) (hx : xs.set j u = xs') : Own w0 (w.setCell ⟨b, j, none⟩ u) (l.set i (rowA e size (.slice (some ⟨b, 0, none⟩) n c) n xs')) := by
  subst hx
  have := h.set i hi j u
  rwa [Addr.add_lit, Nat.zero_add] at this
theorem Own.row_made {w0 w : World} {l : List Ast} (h : Own w0 w l) (e : TypeId) (size : Nat) (cs : Array Value) (n : Nat) (hn : n ≤ maxLen) (hs : cs.size = n * size) : Own w0 (w.alloc (.cells cs e)) (l ++ [rowA e size (.slice (some ⟨w.heap.size, 0, none⟩) n n) n cs.toList]) :=
  h.push (by go_grown) (rowA e size (.slice (some ⟨w.heap.size, 0, none⟩) n n) n cs.toList) (Row.lit w e size cs n hn hs) (fun k hk => by simp [rowA, Value.ownBlock] at hk; omega)
/-- The turns that were asked for so far. -/
def TurnsTo (n k : Nat) (xs : List Value) : Prop := xs.length = n * 2 ∧ ∀ j, j < k → xs[j * 2]? = some (.int .i64 0) ∧ xs[j * 2 + 1]? = some (.int .i64 j)
theorem TurnsTo.next {n k : Nat} {xs : List Value} (h : TurnsTo n k xs) (hk : k < n) : TurnsTo n (k + 1) ((xs.set (k * 2) (.int .i64 0)).set (k * 2 + 1) (.int .i64 k)) := by
  obtain ⟨h1, h2⟩ := h
  refine ⟨by simp [h1], fun j hj => ?_⟩
  by_cases hjk : j = k
  · subst hjk
    refine ⟨?_, ?_⟩
    · rw [List.getElem?_set_ne (by omega), List.getElem?_set_self (by omega)]
    · rw [List.getElem?_set_self (by simp; omega)]
  · obtain ⟨h3, h4⟩ := h2 j (by omega)
    refine ⟨?_, ?_⟩
    · rw [List.getElem?_set_ne (by omega), List.getElem?_set_ne (by omega), h3]
    · rw [List.getElem?_set_ne (by omega), List.getElem?_set_ne (by omega), h4]
def hadL (n S : Nat) : List Value := (List.range n).map fun j => .bool (decide (j < S))
theorem hadL_get {n S j : Nat} (h : j < n) : (hadL n S)[j]? = some (.bool (decide (j < S))) := by
  unfold hadL; simp [h]
theorem hadL_set {n S : Nat} (h : S < n) : (hadL n S).set S (.bool true) = hadL n (S + 1) := by
  refine List.ext_getElem? fun j => ?_
  by_cases hj : j < n
  · by_cases hjS : S = j
    · subst hjS
      rw [List.getElem?_set_self (by unfold hadL; simp [h]), hadL_get h]
      simp
    · rw [List.getElem?_set_ne hjS, hadL_get hj, hadL_get hj]
      congr 2
      simp; omega
  · rw [List.getElem?_eq_none (by unfold hadL; simp; omega), List.getElem?_eq_none (by unfold hadL; simp; omega)]
theorem hadL_zero (n : Nat) : (List.replicate n (Value.bool false)) = hadL n 0 := by
  refine List.ext_getElem? fun j => ?_
  by_cases hj : j < n
  · rw [hadL_get hj]; simp [hj]
  · rw [List.getElem?_eq_none (by simp; omega), List.getElem?_eq_none (by unfold hadL; simp; omega)]
set_option maxHeartbeats 4000000
set_option maxRecDepth 100000
theorem comes_core (m f n : Nat) (w : World) (hm : m ≤ 255) (hf : f ≤ 255) (hn : (m : Int) % 8 + 1 = (n : Int)) :
    Calls Try.prog 9 #[.int .u8 m, .int .u8 f] w fun e w' => e = .returned (.bool true) ∧ Below w.heap.size w w' := by
  obtain ⟨i0, hi, hz0, hz1', hz2'⟩ := info_parts' Try.infoTurn
  obtain ⟨i1, hi1, hw0, hw1', hw2'⟩ := info_parts' Try.infoBool
  have hn1 : 1 ≤ n ∧ n ≤ 8 := by omega
  obtain ⟨hn1, hn8⟩ := hn1
  have N := Lib.hid (fun (w1 : World) (h : Below w.heap.size w w1) => own_new (Own.nil h) 2 [0, 0] rfl)
  go_enter Try.func9, Try.ntmps9
  go_wp2_with (go_at_call 29; refine (works12_any _).mono ?_; rintro e w1 ⟨rfl, hb1⟩)
  go_at_call 15
  refine (N.out _ hb1).mono ?_
  rintro e w2 ⟨rfl, hO0⟩
  clear hb1
  go_wp2_with (first | (refine wpList_make_two _ rfl _ _ 55 rfl 57 i0 (.agg #[.int .i64 0, .int .i64 0]) (.int .i64 0) 16 Try.underlying55 hi hz0 hz1' hz2' rfl .i64 .i64 _ rfl rfl ?_ ?_ (by decide) ?_; all_goals (try omega)))
  have hO1 : Own w (w2.alloc (.cells (Array.replicate (n * 2) (.int .i64 0)) 57)) [storeA (w1.heap.size + 1) w1.heap.size [0, 0], rowA 57 2 (.slice (some ⟨w2.heap.size, 0, none⟩) n n) n (Array.replicate (n * 2) (Value.int .i64 0)).toList] := hO0.row_made 57 2 (Array.replicate (n * 2) (.int .i64 0)) n (by unfold maxLen; omega) (by simp)
  have ht0 : TurnsTo n 0 (Array.replicate (n * 2) (Value.int .i64 0)).toList := ⟨by simp, fun j hj => by omega⟩
  generalize (Array.replicate (n * 2) (Value.int .i64 0)).toList = xs0 at *
  generalize w2.alloc (.cells (Array.replicate (n * 2) (.int .i64 0)) 57) = u at *
  generalize w2.heap.size = tb at *
  generalize w1.heap.size = b at *
  replace ht0 := Lib.hid ht0
  clear hO0 N
  go_loopw [8] (fun i wr => ∃ (k : Nat) (xs : List Value), k ≤ n ∧ i = .int .i64 k ∧ Hid (TurnsTo n k xs) ∧ Own w wr [storeA (b + 1) b [(k : Int), 0], rowA 57 2 (.slice (some ⟨tb, 0, none⟩) n n) n xs]) (fun i _ => (n - intOf i).toNat)
  case atStart => exact ⟨0, xs0, by omega, rfl, ht0, hO1⟩
  case round =>
    clear hO1 ht0
    obtain ⟨k, xs, hk, rfl, ht, hO⟩ := hrel
    by_cases hlt : k < n
    · have A := Lib.hid (own_ask hO 0 rfl (k := 0) (by simp) (k : Int) rfl [(k : Int) + 1, 0] (by rw [IntWalk.wrap64_in _ (by omega)]; rfl))
      have hl := ht.out.1
      obtain ⟨c0, hc0⟩ : ∃ v, xs[k * 2]? = some v := ⟨xs[k * 2], List.getElem?_eq_getElem (by omega)⟩
      obtain ⟨c1, hc1⟩ : ∃ v, xs[k * 2 + 1]? = some v := ⟨xs[k * 2 + 1], List.getElem?_eq_getElem (by omega)⟩
      have G := fun (w5 : World) (h : Own w w5 [storeA (b + 1) b [(k : Int) + 1, 0], rowA 57 2 (.slice (some ⟨tb, 0, none⟩) n n) n xs]) => And.intro (h.row_get 1 rfl hc0) (And.intro (h.row_get 1 rfl hc1) (And.intro (h.row_free 1 rfl (j := k * 2) (by omega)) (h.row_free 1 rfl (j := k * 2 + 1) (by omega))))
      replace G := Lib.hid G
      have ht' := Lib.hid (ht.out.next hlt)
      clear hl hc0 hc1
      go_wp2_with (go_at_call 30; refine A.out.mono ?_; rintro e w5 ⟨rfl, hO5⟩; obtain ⟨y0, y1, f0, f1⟩ := G.out _ hO5)
      go_roundw
      case rel => exact ⟨k + 1, _, by omega, by go_num, ht', (hO5.row_set 1 rfl (k * 2) _ rfl).row_set 1 rfl (k * 2 + 1) _ rfl⟩
      case measure => simp [intOf]; omega
    · obtain rfl : k = n := by omega
      have htn := ht
      go_wp2_with (first | (refine wpList_make_int _ rfl _ _ 61 rfl 4 i1 (.bool false) 1 Try.underlying61 hi1 hw0 hw1' hw2' rfl .i64 .i64 _ rfl rfl ?_ ?_ (by decide) ?_; all_goals (try omega)))
      have hO2 : Own w (wr.alloc (.cells (Array.replicate k (.bool false)) 4)) [storeA (b + 1) b [(k : Int), (0 : Nat)], rowA 57 2 (.slice (some ⟨tb, 0, none⟩) k k) k xs, rowA 4 1 (.slice (some ⟨wr.heap.size, 0, none⟩) k k) k (hadL k 0)] := by
        have := hO.row_made 4 1 (Array.replicate k (.bool false)) k (by unfold maxLen; omega) (by simp)
        rw [Array.toList_replicate, hadL_zero] at this
        exact this
      generalize wr.alloc (.cells (Array.replicate k (.bool false)) 4) = u2 at *
      generalize wr.heap.size = hb at *
      clear hO
      go_loopw [10] (fun i wr => ∃ (r S : Nat), r ≤ 2 * k ∧ i = .int .i64 r ∧ S ≤ k ∧ min r k ≤ S ∧ Own w wr [storeA (b + 1) b [(k : Int), (S : Int)], rowA 57 2 (.slice (some ⟨tb, 0, none⟩) k k) k xs, rowA 4 1 (.slice (some ⟨hb, 0, none⟩) k k) k (hadL k S)]) (fun i _ => (2 * k - intOf i).toNat)
      case atStart => exact ⟨0, 0, by omega, rfl, by omega, by omega, hO2⟩
      case round =>
        clear hO2
        obtain ⟨r, S0, hr, rfl, hS0, hrS, hO⟩ := hrel
        by_cases hlt2 : r < 2 * k
        · have hr2 : (r : Int) < 2 * (k : Int) := by omega
          go_wp2_with fail
          obtain ⟨wo, rfl⟩ : ∃ wo : World, wo = wr := ⟨_, rfl⟩
          go_loopw [11] (fun i wr => ∃ (c S : Nat), c ≤ k ∧ i = .int .i64 c ∧ S ≤ k ∧ S0 ≤ S ∧ Hid (S = S0 → S0 < k → ∀ c', c' < c → (c' + f) % k ≠ S0) ∧ Own w wr [storeA (b + 1) b [(k : Int), (S : Int)], rowA 57 2 (.slice (some ⟨tb, 0, none⟩) k k) k xs, rowA 4 1 (.slice (some ⟨hb, 0, none⟩) k k) k (hadL k S)]) (fun i _ => (k - intOf i).toNat)
          case atStart => exact ⟨0, S0, by omega, rfl, hS0, by omega, Lib.hid (fun _ _ c' hc' => by omega), hO⟩
          case round =>
            clear hO
            obtain ⟨c, S, hc, rfl, hS, hSS, hvis, hO⟩ := hrel
            by_cases hlt3 : c < k
            · obtain ⟨v, hv⟩ : ∃ v : Nat, (c + f) % k = v := ⟨_, rfl⟩
              have hvk : v < k := by rw [← hv]; exact Nat.mod_lt _ (by omega)
              have hmod : ((c : Int) + (f : Int)) % (k : Int) = (v : Int) := by rw [← hv]; first | rfl | (rw [Int.natCast_emod, Int.natCast_add]) | simp
              have hg := hO.row_get 2 rfl (hadL_get (n := k) (S := S) hvk)
              obtain ⟨t0, t1⟩ := htn.out.2 v hvk
              have y0 := hO.row_get 1 rfl t0
              have y1 := hO.row_get 1 rfl t1
              clear t0 t1
              by_cases hvS : v < S
              · have hg' : decide (v < S) = true := by simp [hvS]
                rw [hg'] at hg
                have hvis' := Lib.hid (show S = S0 → S0 < k → ∀ c', c' < c + 1 → (c' + f) % k ≠ S0 by
                  intro e1 e2 c' hc'
                  by_cases hcc : c' = c
                  · subst hcc; omega
                  · exact hvis.out e1 e2 c' (by omega))
                clear hg' hvis hv
                go_wp2_with fail
                go_roundw
                case rel => exact ⟨c + 1, S, by omega, by go_num, hS, hSS, hvis', hO⟩
                case measure => simp [intOf]; omega
              · have hg' : decide (v < S) = false := by simp; omega
                rw [hg'] at hg
                by_cases hvE : v = S
                · subst hvE
                  have M := Lib.hid (own_mine hO 0 rfl (k := 0) (by simp) (by omega) (v : Int) (v : Int) rfl true (by simp))
                  have D := fun (w5 : World) (h : Own w w5 [storeA (b + 1) b [(k : Int), (v : Int)], rowA 57 2 (.slice (some ⟨tb, 0, none⟩) k k) k xs, rowA 4 1 (.slice (some ⟨hb, 0, none⟩) k k) k (hadL k v)]) => own_done h 0 rfl (k := 0) (by simp) (by omega) (v : Int) [(k : Int), ((v + 1 : Nat) : Int)] (by rw [IntWalk.wrap64_in _ (by omega)]; rfl)
                  have G5 := fun (w5 : World) (h : Own w w5 [storeA (b + 1) b [(k : Int), (v : Int)], rowA 57 2 (.slice (some ⟨tb, 0, none⟩) k k) k xs, rowA 4 1 (.slice (some ⟨hb, 0, none⟩) k k) k (hadL k v)]) => And.intro (h.row_get 1 rfl (htn.out.2 v hvk).1) (h.row_get 1 rfl (htn.out.2 v hvk).2)
                  have G6 := fun (w5 : World) (h : Own w w5 [storeA (b + 1) b [(k : Int), ((v + 1 : Nat) : Int)], rowA 57 2 (.slice (some ⟨tb, 0, none⟩) k k) k xs, rowA 4 1 (.slice (some ⟨hb, 0, none⟩) k k) k (hadL k v)]) => And.intro (h.row_get 2 rfl (hadL_get (n := k) (S := v) hvk)) (h.row_free 2 rfl (j := v) (by omega))
                  replace D := Lib.hid D
                  replace G5 := Lib.hid G5
                  replace G6 := Lib.hid G6
                  have hvis' := Lib.hid (show v + 1 = S0 → S0 < k → ∀ c', c' < c + 1 → (c' + f) % k ≠ S0 by intro e1; omega)
                  clear hg' hvis hv hvS
                  go_wp2_with (first | (go_at_call 31; refine M.out.mono ?_; rintro e w5 ⟨rfl, hO5⟩; obtain ⟨z0, z1⟩ := G5.out _ hO5) | (go_at_call 32; refine (D.out _ hO5).mono ?_; rintro e w6 ⟨rfl, hO6⟩; obtain ⟨x0, x1⟩ := G6.out _ hO6))
                  go_roundw
                  case rel => exact ⟨c + 1, v + 1, by omega, by go_num, by omega, by omega, hvis', hO6.row_set 2 rfl v (.bool true) (hadL_set hvk)⟩
                  case measure => simp [intOf]; omega
                · have M := Lib.hid (own_mine hO 0 rfl (k := 0) (by simp) (by omega) (v : Int) (S : Int) rfl false (by simp; omega))
                  have hvis' := Lib.hid (show S = S0 → S0 < k → ∀ c', c' < c + 1 → (c' + f) % k ≠ S0 by
                    intro e1 e2 c' hc'
                    by_cases hcc : c' = c
                    · subst hcc; omega
                    · exact hvis.out e1 e2 c' (by omega))
                  clear hg' hvis hv
                  go_wp2_with (first | (go_at_call 31; refine M.out.mono ?_; rintro e w5 ⟨rfl, hO5⟩))
                  go_roundw
                  case rel => exact ⟨c + 1, S, by omega, by go_num, hS, hSS, hvis', hO5⟩
                  case measure => simp [intOf]; omega
            · have hnext : min (r + 1) k ≤ S := by
                by_cases hSE : S = S0
                · by_cases hS0k : S0 < k
                  · exfalso
                    have hpos : 0 < k := by omega
                    have hfm := Nat.mod_lt f hpos
                    refine hvis.out hSE hS0k ((S0 + (k - f % k)) % k) (by have := Nat.mod_lt (S0 + (k - f % k)) hpos; omega) ?_
                    rw [Nat.add_mod, Nat.mod_mod, ← Nat.add_mod]
                    have e1 : S0 + (k - f % k) + f = S0 + k * (1 + f / k) := by
                      have := Nat.div_add_mod f k
                      rw [Nat.mul_add, Nat.mul_one]
                      omega
                    rw [e1, Nat.add_mul_mod_self_left, Nat.mod_eq_of_lt hS0k]
                  · omega
                · omega
              clear hvis
              go_wp2_with fail
              go_roundw
              case rel => exact ⟨r + 1, S, by omega, by go_num, hS, hnext, hO⟩
              case measure => simp [intOf]; omega
        · have hSk : S0 = k := by omega
          subst hSk
          have hr2 : ¬ (r : Int) < 2 * (S0 : Int) := by omega
          go_wp2_with fail
          go_loop [13] (fun i => ∃ c : Nat, c ≤ S0 ∧ i = .int .i64 c) (fun i => (S0 - intOf i).toNat)
          case atStart => exact ⟨0, by omega, rfl⟩
          case round =>
            obtain ⟨c, hc, rfl⟩ := hrel
            by_cases hlt4 : c < S0
            · have hg := hO.row_get 2 rfl (hadL_get (n := S0) (S := S0) hlt4)
              rw [show decide (c < S0) = true by simp [hlt4]] at hg
              go_wp2_with fail
              go_round
              case rel => exact ⟨c + 1, by omega, by go_num⟩
              case measure => simp [intOf]; omega
            · go_wp2_with fail
              go_ret
              exact ⟨rfl, hO.below⟩
theorem walkTicketComes (v0 v1 : Value) (w : World) (h0 : Arg Try.prog w 5 v0) (h1 : Arg Try.prog w 5 v1) :
    Calls Try.prog 9 #[v0, v1] w fun e w' => e = .returned (.bool true) ∧ Below w.heap.size w w' := by
  obtain ⟨a, rfl, ha⟩ := h0.int Try.underlying5
  obtain ⟨b, rfl, hb⟩ := h1.int Try.underlying5
  simp [Lit.wf, IntKind.min, IntKind.max, IntKind.signed, IntKind.bits] at ha hb
  obtain ⟨a, rfl⟩ : ∃ n : Nat, a = n := ⟨a.toNat, by omega⟩
  obtain ⟨b, rfl⟩ : ∃ n : Nat, b = n := ⟨b.toNat, by omega⟩
  exact comes_core a b (a % 8 + 1) w (by omega) (by omega) (by omega)
end Go.Proofs.Ytpijgjalabocpaa
