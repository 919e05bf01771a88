/- The walk through the law ProgGets. -/
import Derived.Test.YtboiogjklecpaaaPgmWorks
import Derived.Test.YtboiogjklecpaaaPgmRGet
set_option linter.unusedVariables false
set_option linter.unusedSimpArgs false
namespace Go.Proofs.Ytboiogjklecpaaa
open Go.RowKit
set_option maxRecDepth 100000
set_option maxHeartbeats 8000000
theorem pgets_core (S : List UInt8) (w : World) (hl : S.length ≤ 20000) :
    Calls Try.prog 8 #[.string ⟨S.toArray⟩] w fun e w' => e = .returned (.bool true) ∧ Below w.heap.size w w' := by
  have hlen : ¬ (20000 : Int) < (S.length : Int) := by omega
  go_enter Try.func8, Try.ntmps8
  go_wp2_with fail
  go_at_call 27
  refine (works04_any _).mono ?_
  rintro e w1 ⟨rfl, hb1⟩
  go_wp2_with fail
  go_at_call 32
  obtain ⟨⟨M, FS⟩, hF⟩ : ∃ p, resF (getP S) = p := ⟨_, rfl⟩
  obtain ⟨E, hE⟩ : ∃ e, resE (getP S) = e := ⟨_, rfl⟩
  have GC := getP_cases S
  have PG := fun w => pget_any S w hl
  have RG := fun w => prget_any S w hl
  unfold PRet at PG RG
  rw [hF, hE] at PG RG GC
  replace RG := Lib.hid RG
  replace GC := Lib.hid GC
  clear hF hE
  refine (PG w1).mono ?_
  clear PG
  rintro e w2 ⟨pa, pc, rfl, hL2, hb2⟩
  simp only at hL2 ⊢
  have hO2 := ((Own.nil hb1).grow hb2).box #[.int .i64 M, .slice pa FS.length pc] 42
  have hL2' := hL2.below (w' := w2.alloc (.cells #[.int .i64 M, .slice pa FS.length pc] 42)) (by go_grown)
  go_wp2_with fail
  go_at_call 35
  generalize w2.alloc (.cells #[.int .i64 M, .slice pa FS.length pc] 42) = w3 at *
  generalize hpb : w2.heap.size = pb at hO2 ⊢
  clear hpb hb1 hb2 hL2
  refine (RG.out w3).mono ?_
  rintro e w4 ⟨qa, qc, rfl, hL4, hb4⟩
  simp only at hL4 ⊢
  have hO4 := (hO2.grow hb4).box #[.int .i64 M, .slice qa FS.length qc] 42
  have hL3 := (hL2'.below hb4).below (w' := w4.alloc (.cells #[.int .i64 M, .slice qa FS.length qc] 42)) (by go_grown)
  have hL4' := hL4.below (w' := w4.alloc (.cells #[.int .i64 M, .slice qa FS.length qc] 42)) (by go_grown)
  go_upto_region 7 with fail
  generalize w4.alloc (.cells #[.int .i64 M, .slice qa FS.length qc] 42) = w5 at *
  generalize w4.heap.size = qb at *
  clear hO2 hb4 hL4 hL2'
  obtain ⟨y0, y1⟩ := And.intro (cells2f 0 hO4 rfl).1.1 (cells2f 0 hO4 rfl).2.1
  obtain ⟨z0, z1⟩ := And.intro (cells2f 1 hO4 rfl).1.1 (cells2f 1 hO4 rfl).2.1
  go_wp2_with fail
  go_at_call 29
  have PP := pput_any M FS pa pc w5 hL3
  have SM := fun w h1 h2 => same_any M M FS FS pa qa pc qc w h1 h2
  rw [show sameP M FS M FS = true by unfold sameP; simp] at SM
  replace SM := Lib.hid SM
  obtain ⟨T, hT⟩ : ∃ T, putS M FS = T := ⟨_, rfl⟩
  obtain ⟨G, hG⟩ : ∃ G, checkP M FS = G := ⟨_, rfl⟩
  have GD : (E = 0 ∧ T = S ∧ G = 0) ∨ E ≠ 0 := by
    rcases GC.out with ⟨a, _, b, c⟩ | ⟨a, _⟩
    · exact .inl ⟨a, by rw [← hT]; exact b, by rw [← hG]; exact c⟩
    · exact .inr a
  rw [hT, hG] at PP
  clear hT hG GC
  refine PP.mono ?_
  clear PP
  rintro e w6 ⟨rfl, hb6⟩
  have hO6 := hO4.grow hb6
  have hLp := hL3.below hb6
  have hLq := hL4'.below hb6
  clear hO4 hb6 hL3 hL4' y0 y1 z0 z1
  obtain ⟨y0, y1⟩ := And.intro (cells2f 0 hO6 rfl).1.1 (cells2f 0 hO6 rfl).2.1
  obtain ⟨z0, z1⟩ := And.intro (cells2f 1 hO6 rfl).1.1 (cells2f 1 hO6 rfl).2.1
  rcases GD with ⟨rfl, rfl, rfl⟩ | hE
  · go_wp2_with fail
    go_at_call 34
    refine (SM.out _ hLp hLq).mono ?_
    rintro e w7 ⟨rfl, hb7⟩
    go_wp2
    go_ret
    exact ⟨by first | rfl | simp, below_chain hO6.below hb7⟩
  · have hne : (E != 0) = true := by simpa using hE
    go_wp2_with fail
    go_at_call 34
    refine (SM.out _ hLp hLq).mono ?_
    rintro e w7 ⟨rfl, hb7⟩
    go_wp2
    go_ret
    exact ⟨by first | rfl | simp, below_chain hO6.below hb7⟩
theorem walkProgGets (v0 : Value) (w : World) (h0 : Arg Try.prog w 9 v0) :
    Calls Try.prog 8 #[v0] w fun e w' => e = .returned (.bool true) ∧ Below w.heap.size w w' := by
  obtain ⟨s, rfl, hs⟩ := h0.string Try.underlying9
  obtain ⟨l, rfl⟩ := str_of s
  by_cases hl : l.length ≤ 20000
  · exact pgets_core l w hl
  · have hs2 : l.length ≤ maxLen := by simpa [ByteArray.size] using hs
    unfold maxLen at hs2
    have hl2 : 20000 < l.length := by omega
    go_enter Try.func8, Try.ntmps8
    go_wp2_with (go_at_call 27; refine (works04_any _).mono ?_; rintro e w1 ⟨rfl, hb1⟩)
    go_ret
    exact ⟨rfl, hb1⟩
end Go.Proofs.Ytboiogjklecpaaa
