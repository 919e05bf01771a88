/- The walk through the law InsGets. -/
import Derived.Test.YtboiogjklecpaaaInsPutsWalk
import Derived.Test.YtboiogjklecpaaaInsBack2
import Derived.Test.YtboiogjklecpaaaInsRGet2
import Derived.Test.YtboiogjklecpaaaInsRGet3
import Derived.Test.YtboiogjklecpaaaInsRGet4
import Derived.Test.YtboiogjklecpaaaInsRGet5
set_option linter.unusedVariables false
set_option linter.unusedSimpArgs false
namespace Go.Proofs.Ytboiogjklecpaaa
open Go.RowKit
set_option maxRecDepth 100000
set_option maxHeartbeats 8000000
theorem rget_kind (b0 b1 b2 b3 : UInt8) (h : 25 < ofB [b0]) (w : World) : Calls Try.prog 25 #[.string ⟨([b0, b1, b2, b3] : List UInt8).toArray⟩] w fun e w' => e = .returned (.tuple #[insV (0, 0, 0, 0), .int .i64 5]) ∧ Below w.heap.size w w' := by
  rw [ofB_one] at h
  have hi0 : (⟨#[b0, b1, b2, b3]⟩ : ByteArray)[0]'(by simp [ByteArray.size]) = b0 := rfl
  go_enter Try.func25, Try.ntmps25
  go_wp2
  exact bodyPost_ret (v := .tuple #[insV (0, 0, 0, 0), .int .i64 5]) (by simp [results, insV, Try.results25, go_sem]) rfl ⟨rfl, by go_grown⟩
theorem rget_four (b0 b1 b2 b3 : UInt8) (w : World) : Calls Try.prog 25 #[.string ⟨([b0, b1, b2, b3] : List UInt8).toArray⟩] w fun e w' => e = .returned (.tuple #[insV (getI [b0, b1, b2, b3]).1, .int .i64 (getI [b0, b1, b2, b3]).2]) ∧ Below w.heap.size w w' := by
  by_cases hop : ofB [b0] ≤ 25
  · rcases form_cases (ofB [b0]) with h | h | h | h | h | h | h | h
    · exact rget_rrr b0 b1 b2 b3 h.1 hop w
    · exact rget_rr b0 b1 b2 b3 h.1 hop w
    · exact rget_r b0 b1 b2 b3 h.1 hop w
    · exact rget_rn b0 b1 b2 b3 h.1 hop w
    · exact rget_rt b0 b1 b2 b3 h.1 hop w
    · exact rget_t b0 b1 b2 b3 h.1 hop w
    · exact rget_f b0 b1 b2 b3 h.1 hop w
    · exact rget_z b0 b1 b2 b3 h.1 hop w
  · have hg : getI [b0, b1, b2, b3] = ((0, 0, 0, 0), 5) := by
      unfold getI
      simp only [List.take_succ_cons, List.take_zero]
      have hc : ∀ x y z, checkI (ofB [b0]) x y z = 5 := fun x y z => by unfold checkI; rw [if_pos (.inr (by omega))]
      simp [hc]
    rw [hg]
    exact rget_kind b0 b1 b2 b3 (by omega) w
theorem igets_core (l S : List UInt8) (p q r t E : Int) (w : World) (hl : l.length ≤ 1000) (h0 : E = 0 → S = l)
    (G1 : ∀ w, Calls Try.prog 23 #[.string ⟨l.toArray⟩] w fun e w' => e = .returned (.tuple #[.agg #[.int .i64 p, .int .i64 q, .int .i64 r, .int .i64 t], .int .i64 E]) ∧ Below w.heap.size w w')
    (G2 : ∀ w, Calls Try.prog 25 #[.string ⟨l.toArray⟩] w fun e w' => e = .returned (.tuple #[.agg #[.int .i64 p, .int .i64 q, .int .i64 r, .int .i64 t], .int .i64 E]) ∧ Below w.heap.size w w')
    (P : ∀ w, Calls Try.prog 21 #[.agg #[.int .i64 p, .int .i64 q, .int .i64 r, .int .i64 t]] w fun e w' => e = .returned (.tuple #[.string ⟨S.toArray⟩, .int .i64 0]) ∧ Below w.heap.size w w') :
    Calls Try.prog 5 #[.string ⟨l.toArray⟩] w fun e w' => e = .returned (.bool true) ∧ Below w.heap.size w w' := by
  replace G1 := Lib.hid G1
  replace G2 := Lib.hid G2
  replace P := Lib.hid P
  go_enter Try.func5, Try.ntmps5
  go_wp2_with fail
  go_at_call 15
  refine (works03_any _).mono ?_
  rintro e w1 ⟨rfl, hb1⟩
  go_wp2_with fail
  go_at_call 23
  refine (G1.out _).mono ?_
  rintro e w2 ⟨rfl, hb2⟩
  have h3 := (Own.nil (below_chain hb1 hb2)).box #[.int .i64 p, .int .i64 q, .int .i64 r, .int .i64 t] 30
  clear hb1 hb2
  go_wp2_with fail
  generalize (w2.alloc (.cells #[.int .i64 p, .int .i64 q, .int .i64 r, .int .i64 t] 30)) = w3 at *
  generalize w2.heap.size = xb at *
  go_at_call 25
  refine (G2.out _).mono ?_
  rintro e w4 ⟨rfl, hb4⟩
  have h5 := (h3.grow hb4).box #[.int .i64 p, .int .i64 q, .int .i64 r, .int .i64 t] 30
  clear h3 hb4
  go_upto_region 7 with fail
  generalize (w4.alloc (.cells #[.int .i64 p, .int .i64 q, .int .i64 r, .int .i64 t] 30)) = w5 at *
  generalize w4.heap.size = yb at *
  obtain ⟨⟨x0, _⟩, ⟨x1, _⟩, ⟨x2, _⟩, ⟨x3, _⟩⟩ := cells4f 0 h5 rfl
  go_wp2_with fail
  go_at_call 21
  refine (P.out _).mono ?_
  rintro e w6 ⟨rfl, hb6⟩
  have h7 := h5.grow hb6
  clear h5 hb6 x0 x1 x2 x3
  obtain ⟨⟨x0, _⟩, ⟨x1, _⟩, ⟨x2, _⟩, ⟨x3, _⟩⟩ := cells4f 0 h7 rfl
  obtain ⟨⟨y0, _⟩, ⟨y1, _⟩, ⟨y2, _⟩, ⟨y3, _⟩⟩ := cells4f 1 h7 rfl
  by_cases hE : E = 0
  · obtain rfl := h0 hE
    subst hE
    go_wp2_with fail
    go_ret
    exact ⟨by first | rfl | simp, h7.below⟩
  · have hne : (E != 0) = true := by simpa using hE
    go_wp2_with fail
    go_ret
    exact ⟨by first | rfl | simp, h7.below⟩
theorem walkInsGets (v0 : Value) (w : World) (h0 : Arg Try.prog w 9 v0) :
    Calls Try.prog 5 #[v0] w fun e w' => e = .returned (.bool true) ∧ Below w.heap.size w w' := by
  obtain ⟨s, rfl, hs⟩ := h0.string Try.underlying9
  obtain ⟨l, rfl⟩ := str_of s
  have P0 := fun w => put_ok 0 0 0 0 (by decide) w
  by_cases hl : l.length ≤ 1000
  · rcases (show l.length < 4 ∨ l.length = 4 ∨ 4 < l.length by omega) with h | h | h
    · exact igets_core l _ 0 0 0 0 1 w hl (by omega) (get_short l h) (rget_short l h) P0
    · obtain ⟨b0, b1, b2, b3, rfl⟩ := four_of h
      by_cases hE : (getI [b0, b1, b2, b3]).2 = 0
      · obtain ⟨hp, hc⟩ := put_get hE
        refine igets_core _ [b0, b1, b2, b3] _ _ _ _ _ w hl (fun _ => rfl) (get_four b0 b1 b2 b3) (rget_four b0 b1 b2 b3) (fun w => ?_)
        have := put_ok _ _ _ _ hc w
        rw [hp] at this
        exact this
      · have hz : (getI [b0, b1, b2, b3]).1 = (0, 0, 0, 0) := by
          unfold getI at hE ⊢
          simp only [] at hE ⊢
          split
          · rfl
          · rename_i h1
            rw [if_neg h1] at hE
            split
            · rename_i h2
              rw [if_pos h2] at hE
              exact absurd rfl hE
            · rfl
        have g1 := get_four b0 b1 b2 b3
        have g2 := rget_four b0 b1 b2 b3
        rw [hz] at g1 g2
        exact igets_core _ _ 0 0 0 0 _ w hl (fun h => absurd h hE) g1 g2 P0
    · exact igets_core l _ 0 0 0 0 2 w hl (by omega) (get_more l h) (rget_more l h) P0
  · have hs2 : l.length ≤ maxLen := by simpa [ByteArray.size] using hs
    unfold maxLen at hs2
    have hl2 : 1000 < l.length := by omega
    go_enter Try.func5, Try.ntmps5
    go_wp2_with (go_at_call 15; refine (works03_any _).mono ?_; rintro e w1 ⟨rfl, hb1⟩)
    go_ret
    exact ⟨rfl, hb1⟩
end Go.Proofs.Ytboiogjklecpaaa
