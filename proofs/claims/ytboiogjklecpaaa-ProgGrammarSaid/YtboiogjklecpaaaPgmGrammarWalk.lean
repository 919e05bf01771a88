/- The walk through the law ProgGrammar. -/
import Derived.Test.YtboiogjklecpaaaPgmWorks2
import Derived.Test.YtboiogjklecpaaaPgmRight2
set_option linter.unusedVariables false
set_option linter.unusedSimpArgs false
namespace Go.Proofs.Ytboiogjklecpaaa
open Go.RowKit
set_option maxRecDepth 100000
set_option maxHeartbeats 8000000
theorem right_eq (s : List UInt8) : (resE (getP s) == 0) = rightP s := by
  cases h : getP s with
  | ok p => rw [(rightP_iff s).2 ⟨p, h⟩]; rfl
  | error e =>
    have he := getP_err h
    cases hr : rightP s with
    | false => simpa [resE] using he
    | true =>
      obtain ⟨p, hp⟩ := (rightP_iff s).1 hr
      rw [h] at hp; cases hp
theorem pgram_core (S : List UInt8) (w : World) (hl : S.length ≤ 20000) :
    Calls Try.prog 9 #[.string ⟨S.toArray⟩] w fun e w' => e = .returned (.bool true) ∧ Below w.heap.size w w' := by
  have RG := fun w => rright_any S w hl
  have hlen : ¬ (20000 : Int) < (S.length : Int) := by omega
  go_enter Try.func9, Try.ntmps9
  go_wp2_with fail
  go_at_call 27
  refine (works04_any _).mono ?_
  rintro e w1 ⟨rfl, hb1⟩
  go_wp2_with fail
  go_at_call 32
  obtain ⟨⟨M, FS⟩, hF⟩ : ∃ p, resF (getP S) = p := ⟨_, rfl⟩
  obtain ⟨E, hE⟩ : ∃ e, resE (getP S) = e := ⟨_, rfl⟩
  have GC := getP_cases S
  have PG := fun w => pget_any S w hl
  unfold PRet at PG
  have hre := right_eq S
  rw [hE] at hre
  rw [hF, hE] at PG GC
  rw [← hre] at RG
  replace RG := Lib.hid RG
  replace hre := Lib.hid hre
  have GD : E = 0 ∨ (E ≠ 0 ∧ M = 0 ∧ FS = []) := by
    rcases GC with ⟨a, _⟩ | ⟨a, b⟩
    · exact .inl a
    · cases b; exact .inr ⟨a, rfl, rfl⟩
  clear hF hE GC
  refine (PG w1).mono ?_
  clear PG
  rintro e w2 ⟨pa, pc, rfl, hL2, hb2⟩
  simp only at hL2 ⊢
  have hO2 := ((Own.nil hb1).grow hb2).box #[.int .i64 M, .slice pa FS.length pc] 42
  go_wp2_with fail
  go_at_call 36
  generalize w2.alloc (.cells #[.int .i64 M, .slice pa FS.length pc] 42) = w3 at *
  generalize hpb : w2.heap.size = pb at hO2 ⊢
  clear hpb hb1 hb2 hL2
  refine (RG.out w3).mono ?_
  rintro e w4 ⟨rfl, hb4⟩
  have hO4 := hO2.grow hb4
  clear hO2 hb4
  obtain ⟨y0, y1⟩ := And.intro (cells2f 0 hO4 rfl).1.1 (cells2f 0 hO4 rfl).2.1
  rcases GD with rfl | ⟨hE, rfl, rfl⟩
  · go_wp2
    go_ret
    exact ⟨by first | rfl | simp, hO4.below⟩
  · have hne : (E == 0) = false := by simpa using hE
    go_wp2
    go_ret
    exact ⟨by first | rfl | simp, hO4.below⟩
theorem walkProgGrammar (v0 : Value) (w : World) (h0 : Arg Try.prog w 9 v0) :
    Calls Try.prog 9 #[v0] w fun e w' => e = .returned (.bool true) ∧ Below w.heap.size w w' := by
  obtain ⟨s, rfl, hs⟩ := h0.string Try.underlying9
  obtain ⟨l, rfl⟩ := str_of s
  by_cases hl : l.length ≤ 20000
  · exact pgram_core l w hl
  · have hs2 : l.length ≤ maxLen := by simpa [ByteArray.size] using hs
    unfold maxLen at hs2
    have hl2 : 20000 < l.length := by omega
    go_enter Try.func9, Try.ntmps9
    go_wp2_with (go_at_call 27; refine (works04_any _).mono ?_; rintro e w1 ⟨rfl, hb1⟩)
    go_ret
    exact ⟨rfl, hb1⟩
end Go.Proofs.Ytboiogjklecpaaa
