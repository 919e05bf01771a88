/- The sink as one piece of one's own. -/
import Derived.Test.YtkmccbknmpjkhaaSink3
import Derived.Test.YtkmccbknmpjkhaaOwn
set_option linter.unusedVariables false
set_option linter.unusedSimpArgs false
namespace Go.Proofs.Ytkmccbknmpjkhaa
open Go.RowKit
def sinkA (g : Nat) (M : Int) (v : Value) (zs : List Int) : Ast where
  F k := k = g ∨ v.ownBlock = some k
  hold w := w.heap[g]? = some (.cells #[v, .int .i64 M] 71 (0, 0)) ∧ Row w 3 1 v zs.length (zs.map (.int .i64)) ∧ v.ownBlock ≠ some g
  loc h hb := ⟨(hb g (.inl rfl)).trans h.1, h.2.1.same fun k hk => hb k (.inr hk), h.2.2⟩
  lt h k hk := by
    rcases hk with rfl | hk
    · exact lt_at h.1
    · exact h.2.1.lt hk
theorem sinkA_is {g : Nat} {M : Int} {v : Value} {zs : List Int} {w : World} (h : (sinkA g M v zs).hold w) : SinkIs w g M zs 0 := by
  obtain ⟨h1, h2, h3⟩ := h
  obtain ⟨ao, cap, rfl, h4, h5, _⟩ := h2.shape
  exact ⟨by omega, lt_at h1, ao, cap, h1, h4, h5, h2, fun k hk => ⟨by omega, fun e => h3 (by rw [hk, e])⟩⟩
set_option maxHeartbeats 1000000
set_option maxRecDepth 100000
theorem emit_yes {g : Nat} {M : Int} {v : Value} {zs : List Int} {w : World} (x : Int) (h : (sinkA g M v zs).hold w) (hl : zs.length ≤ 1000) (hm : (zs.length : Int) < M) : Calls Try.prog 38 #[.pointer (some ⟨g, 0, none⟩), .int .i64 x] w fun e w' => e = .returned (.bool true) ∧ ∃ v', Moves (sinkA g M v zs) (sinkA g M v' (zs ++ [x])) w w' := by
  obtain ⟨i0, hi, hz0, hz1', hz2'⟩ := info_parts' Try.infoInt'
  obtain ⟨h3, h6, h7⟩ := h
  obtain ⟨ao, cap, rfl, h4, h5, _⟩ := h6.shape
  have c0 := cell_at h3 0
  have c1 := cell_at h3 1
  simp at c0 c1
  have hd : decide (M ≤ (zs.length : Int)) = false := by simp; omega
  go_enter Try.func38, Try.ntmps38
  go_wp2
  go_quiet (fail)
  have h6' : Row (w.drewN nq) 3 1 (.slice ao zs.length cap) zs.length (zs.map (.int .i64)) := h6
  have h3' : (w.drewN nq).heap[g]? = some (.cells #[.slice ao zs.length cap, .int .i64 M] 71 (0, 0)) := h3
  have T0 : Touch (sinkA g M (.slice ao zs.length cap) zs).F w (w.drewN nq) := ⟨rfl, rfl, rfl, Nat.le_refl _, fun _ _ _ => rfl⟩
  have hzu : w.heap.size = (w.drewN nq).heap.size := rfl
  clear c0 c1 h3 h6
  generalize w.drewN nq = u at *
  have hx0 := cell_at h3' 0
  have hx1 := free_at h3' 0
  simp at hx0
  replace hzu := Lib.hid hzu
  go_wp2_with (first | (at_builtin; go_must (refine wpList_append_lit u rfl _ _ 22 rfl 3 i0 (.int .i64 0) 1 8 Try.underlying22 hi hz0 hz1' hz2' rfl (by decide) (.slice ao zs.length cap) zs.length (zs.map (.int .i64)) rfl h6' #[.int .i64 x] _ 1 rfl rfl (by simp [Value.oneCell']) (by unfold maxLen; omega) (by omega) ?_); intro ao2 cap2 w2 hr ht hf; have h3'' := ht.at h3' h7; have y0 := cell_at h3'' 0; have y1 := free_at h3'' 0; simp at y0; have hz2 := ht.size))
  go_ret
  obtain ⟨ao3, cap3, hv3, q1, q2, _⟩ := hr.shape
  simp only [Value.slice.injEq] at hv3
  obtain ⟨rfl, _, rfl⟩ := hv3
  have hlen : (zs ++ [x]).length = zs.length + 1 := by simp
  have hzu' := hzu.out
  have hgu := lt_at h3'
  refine ⟨rfl, .slice ao2 (zs.length + 1) cap2, ⟨?_, ?_, ?_⟩, ?_, ?_⟩
  · exact (set_at h3'' 0 _).trans (by simp)
  · rw [hlen]
    refine (hr.setCell (a := ⟨g, 0, none⟩) (fun hk => ?_) _).cast rfl (by simp)
    rcases hf g hk with h | h
    · exact h7 h
    · omega
  · intro hk
    rcases hf g hk with h | h
    · exact h7 h
    · omega
  · exact (T0.trans (ht.mono fun k hk => .inr hk)).setCell (.inr (.inl rfl)) _
  · intro k hk
    rcases hk with rfl | hk
    · exact .inl (.inl rfl)
    · rcases hf k hk with h | h
      · exact .inl (.inr h)
      · exact .inr (by omega)
theorem emit_no {g : Nat} {M : Int} {v : Value} {zs : List Int} {w : World} (x : Int) (h : (sinkA g M v zs).hold w) (hm : ¬ (zs.length : Int) < M) : Calls Try.prog 38 #[.pointer (some ⟨g, 0, none⟩), .int .i64 x] w fun e w' => e = .returned (.bool false) ∧ ∃ m, w' = w.drewN m := by
  obtain ⟨h3, h6, h7⟩ := h
  obtain ⟨ao, cap, rfl, h4, h5, _⟩ := h6.shape
  have c0 := cell_at h3 0
  have c1 := cell_at h3 1
  simp at c0 c1
  have hd : decide (M ≤ (zs.length : Int)) = true := by simp; omega
  clear h3 h6
  go_enter Try.func38, Try.ntmps38
  go_wp2
  go_quiet (fail)
  go_wp2
  go_ret
  exact ⟨rfl, _, rfl⟩
theorem emit_nil (x : Int) (w : World) : Calls Try.prog 38 #[.pointer none, .int .i64 x] w fun e w' => e = .returned (.bool false) ∧ ∃ m, w' = w.drewN m := by
  go_enter Try.func38, Try.ntmps38
  go_wp2
  go_quiet (fail)
  go_wp2
  go_ret
  exact ⟨rfl, _, rfl⟩
theorem len_nil (w : World) : Calls Try.prog 39 #[.pointer none] w fun e w' => e = .returned (.int .i64 0) ∧ w = w' := by
  go_enter Try.func39, Try.ntmps39
  go_wp2
  go_ret
  exact ⟨rfl, rfl⟩
theorem all_nil (w : World) : Calls Try.prog 40 #[.pointer none] w fun e w' => e = .returned (.slice none 0 0) ∧ w = w' := by
  go_enter Try.func40, Try.ntmps40
  go_wp2
  go_ret
  exact ⟨rfl, rfl⟩
theorem ints_any (ao bo : Option Addr) (c d : Nat) (a b : List Int) (w : World) (ha : Lies w ao c a) (hb : Lies w bo d b) :
    Calls Try.prog 41 #[.slice ao a.length c, .slice bo b.length d] w fun e w' => e = .returned (.bool (a == b)) ∧ ∃ m, w' = w.drewN m := by
  have hc := ha.1
  have hc2 := ha.2.1
  have hd := hb.1
  have hd2 := hb.2.1
  unfold maxLen at hc2 hd2
  by_cases hl : a.length = b.length
  · go_enter Try.func41, Try.ntmps41
    go_wp2
    go_loopw [5] (fun i wr => ∃ r m : Nat, r ≤ a.length ∧ i = .int .i64 r ∧ a.take r = b.take r ∧ wr = w.drewN m) (fun i _ => (a.length - intOf i).toNat)
    case atStart => exact ⟨0, 0, by omega, rfl, rfl, rfl⟩
    case round =>
      obtain ⟨r, m, hr, rfl, ht, rfl⟩ := hrel
      by_cases hlt : r < a.length
      · obtain ⟨ad, rfl, hx⟩ := ha.get hlt
        obtain ⟨bd, rfl, hy⟩ := hb.get (r := r) (by omega)
        have hlt2 : r < b.length := by omega
        by_cases hq : a.getD r 0 = b.getD r 0
        · have ht' := Lib.hid (take_next hlt (by omega) ht hq)
          generalize a.getD r 0 = X at *
          generalize b.getD r 0 = Y at *
          subst hq
          clear ht
          go_wp2
          go_quiet (fail)
          go_wp2
          go_round
          case rel => exact ⟨r + 1, _, by omega, by go_num, ht'.out, by first | rfl | exact drewN_two⟩
          case measure => simp [intOf]; omega
        · have hne : (a == b) = false := by
            rw [beq_eq_false_iff_ne]
            rintro rfl
            exact hq rfl
          have hne' := Lib.hid hne
          generalize a.getD r 0 = X at *
          generalize b.getD r 0 = Y at *
          clear ht hne
          go_wp2
          go_quiet (fail)
          go_wp2
          go_ret
          exact ⟨ret_bool hne'.out.symm, _, by first | rfl | exact drewN_two⟩
      · obtain rfl : r = a.length := by omega
        have he : (a == b) = true := by
          rw [beq_iff_eq]
          rw [List.take_length, hl, List.take_length] at ht
          exact ht
        have he' := Lib.hid he
        clear he ht
        go_wp2
        go_ret
        exact ⟨ret_bool he'.out.symm, _, rfl⟩
  · have hne : (a == b) = false := by
      rw [beq_eq_false_iff_ne]
      rintro rfl
      exact hl rfl
    have hne' := Lib.hid hne
    clear hne
    go_enter Try.func41, Try.ntmps41
    go_wp2
    go_ret
    exact ⟨ret_bool hne'.out.symm, 0, rfl⟩
end Go.Proofs.Ytkmccbknmpjkhaa
