/- The sink: its object, New, Emit, Len, All. -/
import Derived.Test.YtkmccbknmpjkhaaSink
import Derived.Deep.Cut
import Derived.Deep.CutRange
set_option linter.unusedVariables false
set_option linter.unusedSimpArgs false
namespace Go.Proofs.Ytkmccbknmpjkhaa
open Go.RowKit
theorem Try.infoInt' : (Try.prog.info? 3).map (fun i => (i.zero, i.size, i.bytes)) = some (some (.int .i64 0), 1, 8) := by kernel_rfl
theorem info_parts' {P : Program} {t : TypeId} {z : Value} {s b : Nat} (h : (P.info? t).map (fun i => (i.zero, i.size, i.bytes)) = some (some z, s, b)) : ∃ i, P.info? t = some i ∧ i.zero = some z ∧ i.size = s ∧ i.bytes = b := by
  cases hp : P.info? t with
  | none => rw [hp] at h; cases h
  | some i => rw [hp] at h; simp at h; exact ⟨i, rfl, h.1, h.2.1, h.2.2⟩
/-- Block g is a sink with room for M that has emitted zs; nothing of it lies below B. -/
def SinkIs (w : World) (g : Nat) (M : Int) (zs : List Int) (B : Nat) : Prop :=
  B ≤ g ∧ g < w.heap.size ∧ ∃ ao cap, w.heap[g]? = some (.cells #[.slice ao zs.length cap, .int .i64 M] 71 (0, 0)) ∧ zs.length ≤ cap ∧ cap ≤ maxLen ∧
    Row w 3 1 (.slice ao zs.length cap) zs.length (zs.map (.int .i64)) ∧ (∀ k, Value.ownBlock (.slice ao zs.length cap) = some k → B ≤ k ∧ k ≠ g)
theorem SinkIs.drewN {w : World} {g : Nat} {M : Int} {zs : List Int} {B : Nat} (h : SinkIs w g M zs B) (n : Nat) : SinkIs (w.drewN n) g M zs B := h
theorem below_drewN' {B : Nat} {w0 w : World} (h : Below B w0 w) : ∀ n, Below B w0 (w.drewN n)
  | 0 => h
  | n + 1 => (below_drewN' h n).drew
set_option maxHeartbeats 1000000
set_option maxRecDepth 100000
theorem new_sink (w : World) (M M' : Int) (h : M = M') : SinkIs (w.alloc (.cells #[.slice none 0 0, .int .i64 M] 71)) w.heap.size M' [] w.heap.size := by
  subst h
  exact ⟨Nat.le_refl _, by simp, none, 0, alloc_new _ _, by simp, by simp [maxLen], Row.nil _ _ _, by simp [Value.ownBlock]⟩
theorem new_any (n : Int) (w : World) : Calls Try.prog 37 #[.int .i64 n] w fun e w' => e = .returned (.pointer (some ⟨w.heap.size, 0, none⟩)) ∧ SinkIs w' w.heap.size (min (max n 0) 1000) [] w.heap.size ∧ Below w.heap.size w w' := by
  go_enter Try.func37, Try.ntmps37
  go_wp2
  all_goals go_ret
  all_goals exact ⟨rfl, new_sink w _ _ (by omega), by go_grown⟩
theorem len_any {g : Nat} {M : Int} {zs : List Int} {B : Nat} {w : World} (h : SinkIs w g M zs B) : Calls Try.prog 39 #[.pointer (some ⟨g, 0, none⟩)] w fun e w' => e = .returned (.int .i64 zs.length) ∧ w = w' := by
  obtain ⟨h1, h2, ao, cap, h3, h4, h5, h6, h7⟩ := h
  have c0 := cell_at h3 0
  simp at c0
  clear h3 h6 h7
  go_enter Try.func39, Try.ntmps39
  go_wp2
  go_ret
  exact ⟨rfl, rfl⟩
theorem emit_any {g : Nat} {M : Int} {zs : List Int} {B : Nat} {w : World} (x : Int) (h : SinkIs w g M zs B) (hl : zs.length ≤ 1000) (hB : B ≤ w.heap.size) : Calls Try.prog 38 #[.pointer (some ⟨g, 0, none⟩), .int .i64 x] w fun e w' => e = .returned (.bool (decide ((zs.length : Int) < M))) ∧ SinkIs w' g M (if (zs.length : Int) < M then zs ++ [x] else zs) B ∧ Below B w w' := by
  obtain ⟨i0, hi, hz0, hz1', hz2'⟩ := info_parts' Try.infoInt'
  obtain ⟨h1, h2, ao, cap, h3, h4, h5, h6, h7⟩ := h
  have c0 := cell_at h3 0
  have c1 := cell_at h3 1
  simp at c0 c1
  have hS : SinkIs w g M zs B := ⟨h1, h2, ao, cap, h3, h4, h5, h6, h7⟩
  by_cases hm : (zs.length : Int) < M
  · have hd : decide (M ≤ (zs.length : Int)) = false := by simp; omega
    go_enter Try.func38, Try.ntmps38
    go_wp2
    go_quiet (fail)
    have h6' : Row (w.drewN nq) 3 1 (.slice ao zs.length cap) zs.length (zs.map (.int .i64)) := h6
    have h3' : (w.drewN nq).heap[g]? = some (.cells #[.slice ao zs.length cap, .int .i64 M] 71 (0, 0)) := h3
    have hb0 : Below B w (w.drewN nq) := below_drewN' (Below.refl _ _) _
    have hzu : w.heap.size = (w.drewN nq).heap.size := rfl
    rw [hzu] at h2 hB
    clear hS c0 c1 h3 h6 hzu
    generalize w.drewN nq = u at *
    have hx0 := cell_at h3' 0
    have hx1 := free_at h3' 0
    simp at hx0
    go_wp2_with (first | (at_builtin; go_must (refine wpList_append_lit u rfl _ _ 22 rfl 3 i0 (.int .i64 0) 1 8 Try.underlying22 hi hz0 hz1' hz2' rfl (by decide) (.slice ao zs.length cap) zs.length (zs.map (.int .i64)) rfl h6' #[.int .i64 x] _ 1 rfl rfl (by simp [Value.oneCell']) (by unfold maxLen; omega) (by omega) ?_); intro ao2 cap2 w2 hr ht hf; have h3'' := ht.at h3' (fun hk => (h7 _ hk).2 rfl); have y0 := cell_at h3'' 0; have y1 := free_at h3'' 0; simp at y0; have hb2 : Below B w w2 := ht.below hb0 hB (fun k hk => (h7 k hk).1); have hz2 := ht.size))
    go_ret
    obtain ⟨ao3, cap3, hv3, q1, q2, _⟩ := hr.shape
    simp only [Value.slice.injEq] at hv3
    obtain ⟨rfl, _, rfl⟩ := hv3
    have hlen : (zs ++ [x]).length = zs.length + 1 := by simp
    refine ⟨rfl, ?_, by go_grown⟩
    unfold SinkIs
    rw [hlen]
    refine ⟨h1, by simp only [World.size_setCell]; omega, ao2, cap2, (set_at h3'' 0 _).trans (by simp), q1, q2, ?_, fun k hk => ?_⟩
    · exact (hr.setCell (a := ⟨g, 0, none⟩) (fun hk => by
        rcases hf g hk with h | h
        · exact (h7 g h).2 rfl
        · omega) _).cast rfl (by simp)
    · rcases hf k hk with h | h
      · exact h7 k h
      · exact ⟨by omega, by omega⟩
  · have hd : decide (M ≤ (zs.length : Int)) = true := by simp; omega
    have hm' : ¬ (zs.length : Int) < M := hm
    go_enter Try.func38, Try.ntmps38
    go_wp2
    go_quiet (fail)
    go_wp2
    go_ret
    exact ⟨rfl, hS, below_drewN' (Below.refl _ _) _⟩
theorem clone_any {ao : Option Addr} {cap : Nat} {zs : List Int} {w : World} (hsrc : Src w ao zs.length cap 1 (zs.map (.int .i64))) (hl : zs.length ≤ 2000) : Calls Try.prog 49 #[.slice ao zs.length cap] w fun e w' => ∃ ao' cap', e = .returned (.slice ao' zs.length cap') ∧ Row w' 3 1 (.slice ao' zs.length cap') zs.length (zs.map (.int .i64)) ∧ (∀ k, Value.ownBlock (.slice ao' zs.length cap') = some k → w.heap.size ≤ k) ∧ Below w.heap.size w w' := by
  obtain ⟨i0, hi, hz0, hz1', hz2'⟩ := info_parts' Try.infoInt'
  have hnil := fun (w : World) (a : Option Addr) (n c n' c' : Nat) => Lib.run_eql_slice_nil (P := Try.prog) w 22 3 a n c n' c' Try.underlying22
  cases ao with
  | none =>
    obtain ⟨h0, h1⟩ := hsrc.2.1 rfl
    have hn : zs = [] := List.eq_nil_of_length_eq_zero h0
    subst hn h1
    clear hsrc
    go_enter Try.func49, Try.ntmps49
    go_wp2
    go_ret
    exact ⟨none, 0, rfl, Row.nil _ _ _, by simp [Value.ownBlock], by go_grown⟩
  | some ad =>
    go_enter Try.func49, Try.ntmps49
    go_wp2_with (at_builtin; go_must (refine wpList_append_copy _ rfl _ _ 22 rfl 3 i0 (.int .i64 0) 1 8 Try.underlying22 hi hz0 hz1' hz2' rfl (by decide) rfl (some ad) zs.length cap (zs.map (Value.int .i64)) rfl hsrc (by simp [Value.oneCell']) (by unfold maxLen; omega) (by omega) ?_); intro ao2 cap2 w2 hrow hb2 hf2)
    go_ret
    exact ⟨ao2, cap2, rfl, hrow, hf2, hb2⟩
theorem all_any {g : Nat} {M : Int} {zs : List Int} {B : Nat} {w : World} (h : SinkIs w g M zs B) (hl : zs.length ≤ 1001) : Calls Try.prog 40 #[.pointer (some ⟨g, 0, none⟩)] w fun e w' => ∃ ao' cap', e = .returned (.slice ao' zs.length cap') ∧ Row w' 3 1 (.slice ao' zs.length cap') zs.length (zs.map (.int .i64)) ∧ (∀ k, Value.ownBlock (.slice ao' zs.length cap') = some k → w.heap.size ≤ k) ∧ Below w.heap.size w w' := by
  obtain ⟨h1, h2, ao, cap, h3, h4, h5, h6, h7⟩ := h
  have c0 := cell_at h3 0
  simp at c0
  have hsrc := h6.src
  clear h3 h6 h7
  go_enter Try.func40, Try.ntmps40
  go_wp2_with (first | (go_at_call 49; refine (clone_any hsrc (by omega)).mono ?_; rintro e w1 ⟨ao2, cap2, rfl, hrow, hf2, hb2⟩))
  go_ret
  exact ⟨ao2, cap2, rfl, hrow, hf2, hb2⟩
theorem Lies.of_row {w : World} {ao : Option Addr} {c n : Nat} {a : List Int} (h : Row w 3 1 (.slice ao n c) n (a.map (.int .i64))) (hn : n = a.length) : Lies w ao c a := by
  subst hn
  obtain ⟨ao', cap', hv, h1, h2, h3⟩ := h.shape
  simp only [Value.slice.injEq] at hv
  obtain ⟨rfl, _, rfl⟩ := hv
  refine ⟨h1, h2, ?_⟩
  cases ao with
  | none => exact .inl ⟨rfl, List.eq_nil_of_length_eq_zero (h3 rfl).1⟩
  | some ad => exact .inr ⟨ad, rfl, fun j hj => h.cells ad rfl j _ (by rw [List.getElem?_map, List.getElem?_eq_getElem hj, List.getD_eq_getElem?_getD, List.getElem?_eq_getElem hj]; rfl)⟩
theorem Lies.of_src {w : World} {ao : Option Addr} {c : Nat} {a : List Int} (h : Src w ao a.length c 1 (a.map (.int .i64))) (h1 : a.length ≤ c) (h2 : c ≤ maxLen) : Lies w ao c a := by
  refine ⟨h1, h2, ?_⟩
  cases ao with
  | none => exact .inl ⟨rfl, List.eq_nil_of_length_eq_zero (h.2.1 rfl).1⟩
  | some ad => exact .inr ⟨ad, rfl, fun j hj => h.2.2 ad rfl j _ (by rw [List.getElem?_map, List.getElem?_eq_getElem hj, List.getD_eq_getElem?_getD, List.getElem?_eq_getElem hj]; rfl)⟩
theorem SinkIs.alloc {w : World} {g : Nat} {M : Int} {zs : List Int} {B : Nat} (h : SinkIs w g M zs B) (o : Obj) : SinkIs (w.alloc o) g M zs B := by
  obtain ⟨h1, h2, ao, cap, h3, h4, h5, h6, h7⟩ := h
  exact ⟨h1, by simp; omega, ao, cap, alloc_at h3 _, h4, h5, h6.alloc _, h7⟩
theorem emit_lit {g : Nat} {M : Int} {zs : List Int} {B : Nat} {w : World} (x : Int) (b : Bool) (zs' : List Int) (h : SinkIs w g M zs B) (hl : zs.length ≤ 1000) (hb : b = decide ((zs.length : Int) < M)) (hz : zs' = if (zs.length : Int) < M then zs ++ [x] else zs) : Calls Try.prog 38 #[.pointer (some ⟨g, 0, none⟩), .int .i64 x] w fun e w' => e = .returned (.bool b) ∧ SinkIs w' g M zs' B ∧ Below B w w' := by
  subst hb hz
  exact emit_any x h hl (Nat.le_trans h.1 (Nat.le_of_lt h.2.1))
theorem differ_lit {ao bo : Option Addr} {w : World} (ha : Lies w ao 2 [1, 2]) (hb : Lies w bo 2 [1, 3]) : Calls Try.prog 33 #[.slice ao 2 2, .slice bo 2 2] w fun e w' => e = .returned (.tuple #[.int .i64 1, .bool true]) ∧ ∃ m, w' = w.drewN m :=
  differ_core ao bo 2 2 [1, 2] [1, 3] w ha hb 1 true (by decide) (by decide)
theorem begins_lit {ao bo : Option Addr} {w : World} (ha : Lies w ao 1 [1]) (hb : Lies w bo 2 [1, 2]) : Calls Try.prog 35 #[.slice ao 1 1, .slice bo 2 2] w fun e w' => e = .returned (.bool true) ∧ ∃ m, w' = w.drewN m :=
  begins_any ao bo 1 2 [1] [1, 2] w ha hb
theorem lies1 (w : World) (x : Int) : Lies (w.alloc (.cells #[.int .i64 x] 3)) (some ⟨w.heap.size, 0, none⟩) 1 [x] :=
  Lies.of_row (a := [x]) (Row.lit w 3 1 #[.int .i64 x] 1 (by simp [maxLen]) rfl) rfl
theorem lies2 (w : World) (x y : Int) : Lies (w.alloc (.cells #[.int .i64 x, .int .i64 y] 3)) (some ⟨w.heap.size, 0, none⟩) 2 [x, y] :=
  Lies.of_row (a := [x, y]) (Row.lit w 3 1 #[.int .i64 x, .int .i64 y] 2 (by simp [maxLen]) rfl) rfl
theorem Lies.alloc {w : World} {ao : Option Addr} {c : Nat} {a : List Int} (h : Lies w ao c a) (o : Obj) : Lies (w.alloc o) ao c a :=
  h.same fun p hp => cell_old (w' := w.alloc o) (by go_grown) p hp
theorem Lies.below {w w' : World} {ao : Option Addr} {c : Nat} {a : List Int} (h : Lies w ao c a) (hb : Below w.heap.size w w') : Lies w' ao c a :=
  h.same fun p hp => cell_old hb p hp
theorem Lies.drewN {w : World} {ao : Option Addr} {c : Nat} {a : List Int} (h : Lies w ao c a) (n : Nat) : Lies (w.drewN n) ao c a := h
theorem Lies.src {w : World} {ao : Option Addr} {c : Nat} {a : List Int} (h : Lies w ao c a) (hn : ao = none → c = 0) : Src w ao a.length c 1 (a.map (.int .i64)) := by
  refine ⟨by simp, fun h0 => ?_, fun ad had j u hj => ?_⟩
  · rcases h.2.2 with ⟨_, h1⟩ | ⟨ad, h1, _⟩
    · exact ⟨by simp [h1], hn h0⟩
    · rw [h0] at h1; cases h1
  · rcases h.2.2 with ⟨h1, _⟩ | ⟨ad', h1, h2⟩
    · rw [had] at h1; cases h1
    · rw [had] at h1
      cases h1
      have hlt : j < a.length := by have := (List.getElem?_eq_some_iff.1 hj).1; simpa using this
      rw [h2 j hlt]
      simp [hlt] at hj ⊢; exact hj
/-- An argument that is a slice of integers. -/
theorem Arg.lies {P : Program} {w : World} {t e : TypeId} {v : Value} (h : Arg P w t v) (ht : P.underlying t = some (.slice e)) (he : P.underlying e = some (.int .i64)) (hc : P.cellsOf e = 1) :
    ∃ ao cap zs, v = .slice ao zs.length cap ∧ Lies w ao cap zs ∧ (ao = none → cap = 0) ∧ ∀ n ∈ zs, -9223372036854775808 ≤ n ∧ n ≤ 9223372036854775807 := by
  obtain ⟨a, cap, zs, rfl, h1, h2, ⟨_, hwf, hr⟩, h4⟩ := h.ints ht he hc
  refine ⟨a, cap, zs, rfl, ⟨h1, h2, ?_⟩, h4, fun n hn => ?_⟩
  · rcases hr with hr | ⟨x, rfl, hcell⟩
    · exact .inl hr
    · exact .inr ⟨x, rfl, hcell⟩
  · have := hwf n hn
    simp [Lit.wf, IntKind.min, IntKind.max, IntKind.signed, IntKind.bits] at this
    omega

end Go.Proofs.Ytkmccbknmpjkhaa
