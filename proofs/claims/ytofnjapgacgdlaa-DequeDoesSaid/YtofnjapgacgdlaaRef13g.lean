/- The document's deque: forebayref13.Step does what stepW does. -/
import Derived.Test.YtofnjapgacgdlaaRef13f
set_option linter.unusedVariables false
set_option linter.unusedSimpArgs false
namespace Go.Proofs.Ytofnjapgacgdlaa
open Go.RowKit
set_option maxRecDepth 100000
set_option maxHeartbeats 8000000
/-- Which step comes next, as the document counts. -/
def refAt (p : Nat) : Int :=
  match p with
  | 0 => 0
  | 1 => 1
  | 2 => 2
  | 10 => 0
  | 11 => 1
  | 12 => 2
  | 13 => 3
  | 14 => 4
  | 15 => 5
  | 16 => 6
  | 17 => 7
  | 18 => 8
  | 19 => 9
  | 20 => 10
  | 30 => 0
  | 31 => 1
  | 32 => 2
  | 33 => 3
  | 34 => 4
  | 35 => 5
  | 36 => 6
  | 37 => 7
  | _ => -1
def refKind (p : Nat) : Int :=
  match p with
  | 0 => 0
  | 1 => 0
  | 2 => 0
  | 10 => 1
  | 11 => 1
  | 12 => 1
  | 13 => 1
  | 14 => 1
  | 15 => 1
  | 16 => 1
  | 17 => 1
  | 18 => 1
  | 19 => 1
  | 20 => 1
  | 30 => 2
  | 31 => 2
  | 32 => 2
  | 33 => 2
  | 34 => 2
  | 35 => 2
  | 36 => 2
  | 37 => 2
  | _ => 0
def refC (kd : Int) (B : Nat) (D : Int) (s : WS) : Array Value := #[.int .i64 kd, .int .i64 (B : Int), .int .i64 D, .int .i64 (refAt s.pc), .int .i64 s.t, .int .i64 s.x, .int .i64 s.n, .int .i64 s.h, .bool s.got, .bool s.full]
def RStep (kd : Int) (B : Nat) (D : Int) (ms : List Int) (w0 : World) (l : List Ast) (s : WS) (e : Ending) (w' : World) : Prop :=
  ∃ ao' c', e = .returned (.tuple #[.agg (refC kd B D (stepW B D s ms).1), .slice ao' (stepW B D s ms).2.length c']) ∧ Own w0 w' (mRow (.slice ao' (stepW B D s ms).2.length c') (stepW B D s ms).2 :: l)
theorem as_ex {P : Program} {f : FuncId} {args : Array Value} {w w0 : World} {v : Value} {mo : Option Addr} {mc n : Nat} {ms : List Int} {l : List Ast} (h : Calls P f args w fun e w' => e = .returned (.tuple #[v, .slice mo ms.length mc]) ∧ Own w0 w' (mRow (.slice mo ms.length mc) ms :: l)) :
    Calls P f args w fun e w' => ∃ ao' c', e = .returned (.tuple #[v, .slice ao' ms.length c']) ∧ Own w0 w' (mRow (.slice ao' ms.length c') ms :: l) :=
  h.mono fun _ _ ⟨h1, h2⟩ => ⟨mo, mc, h1, h2⟩
theorem rstep_any {B : Nat} {D : Int} {ms : List Int} (hr : (B : Int) + 4 + D ≤ ms.length ∧ ms.length ≤ 100000) (hD : 2 ≤ D ∧ D ≤ 256) {w0 w : World} {mo : Option Addr} {mc : Nat} {l : List Ast} (hO : Own w0 w (mRow (.slice mo ms.length mc) ms :: l)) {s : WS} (hp : pcOk s.pc) :
    Calls Try.prog 39 #[.agg (refC (refKind s.pc) B D s), .slice mo ms.length mc] w (RStep (refKind s.pc) B D ms w0 l s) := by
  obtain ⟨pc, t, x, h, n, got, full⟩ := s
  unfold RStep
  rcases pc_cases hp with rfl | rfl | rfl | rfl | rfl | rfl | rfl | rfl | rfl | rfl | rfl | rfl | rfl | rfl | rfl | rfl | rfl | rfl | rfl | rfl | rfl | rfl
  · by_cases c : D - 1 ≤ wrap64 (t - ms.getD B 0)
    · skip
      rw [st0y _ _ _ _ _ _ _ _ _ c]
      exact rstep0 hO B D _ t x n h got full (show (0 : Int) ≤ 0 by decide) _ _ _ _ _ _ _ _ _ _ (fun w1 l h' => as_ex (n := 0) (rs0y hr hD h' 0 t x n h got full c))
    · skip
      rw [st0n _ _ _ _ _ _ _ _ _ c]
      exact rstep0 hO B D _ t x n h got full (show (0 : Int) ≤ 0 by decide) _ _ _ _ _ _ _ _ _ _ (fun w1 l h' => as_ex (n := 0) (rs0n hr hD h' 0 t x n h got full _ rfl _ rfl c))
  · skip
    rw [st1 _ _ _ _ _ _ _ _ _]
    exact rstep0 hO B D _ t x n h got full (show (0 : Int) ≤ 1 by decide) _ _ _ _ _ _ _ _ _ _ (fun w1 l h' => rs1 hr hD h' 0 t x n h got full)
  · skip
    rw [st2 _ _ _ _ _ _ _ _ _]
    exact rstep0 hO B D _ t x n h got full (show (0 : Int) ≤ 2 by decide) _ _ _ _ _ _ _ _ _ _ (fun w1 l h' => rs2 hr hD h' 0 t x n h got full)
  · skip
    rw [st10 _ _ _ _ _ _ _ _ _]
    exact rstep1 hO B D _ t x n h got full (show (0 : Int) ≤ 0 by decide) _ _ _ _ _ _ _ _ _ _ (fun w1 l h' => rs10 hr hD h' 1 t x n h got full)
  · by_cases c : ms.getD B 0 ≤ wrap64 (t - 1)
    · skip
      rw [st11y _ _ _ _ _ _ _ _ _ c]
      exact rstep1 hO B D _ t x n h got full (show (0 : Int) ≤ 1 by decide) _ _ _ _ _ _ _ _ _ _ (fun w1 l h' => as_ex (n := 0) (rs11y hr hD h' 1 t x n h got full _ rfl _ rfl c))
    · skip
      rw [st11n _ _ _ _ _ _ _ _ _ c]
      exact rstep1 hO B D _ t x n h got full (show (0 : Int) ≤ 1 by decide) _ _ _ _ _ _ _ _ _ _ (fun w1 l h' => as_ex (n := 0) (rs11n hr hD h' 1 t x n h got full _ rfl _ rfl c))
  · skip
    rw [st12 _ _ _ _ _ _ _ _ _]
    exact rstep1 hO B D _ t x n h got full (show (0 : Int) ≤ 2 by decide) _ _ _ _ _ _ _ _ _ _ (fun w1 l h' => rs12 hr hD h' 1 t x n h got full)
  · skip
    rw [st13 _ _ _ _ _ _ _ _ _]
    exact rstep1 hO B D _ t x n h got full (show (0 : Int) ≤ 3 by decide) _ _ _ _ _ _ _ _ _ _ (fun w1 l h' => rs13 hr hD h' 1 t x n h got full _ rfl)
  · by_cases c : ms.getD (B + 3) 0 = n
    · skip
      rw [st14y _ _ _ _ _ _ _ _ _ c]
      exact rstep1 hO B D _ t x n h got full (show (0 : Int) ≤ 4 by decide) _ _ _ _ _ _ _ _ _ _ (fun w1 l h' => as_ex (n := 0) (rs14y hr hD h' 1 t x n h got full _ rfl (by simpa using c)))
    · skip
      rw [st14n _ _ _ _ _ _ _ _ _ c]
      exact rstep1 hO B D _ t x n h got full (show (0 : Int) ≤ 4 by decide) _ _ _ _ _ _ _ _ _ _ (fun w1 l h' => as_ex (n := 0) (rs14n hr hD h' 1 t x n h got full _ rfl (by simpa using c)))
  · skip
    rw [st15 _ _ _ _ _ _ _ _ _]
    exact rstep1 hO B D _ t x n h got full (show (0 : Int) ≤ 5 by decide) _ _ _ _ _ _ _ _ _ _ (fun w1 l h' => rs15 hr hD h' 1 t x n h got full)
  · by_cases c : ms.getD B 0 ≤ wrap64 (t - 1)
    · skip
      rw [st16y _ _ _ _ _ _ _ _ _ c]
      exact rstep1 hO B D _ t x n h got full (show (0 : Int) ≤ 6 by decide) _ _ _ _ _ _ _ _ _ _ (fun w1 l h' => as_ex (n := 0) (rs16y hr hD h' 1 t x n h got full _ rfl _ rfl c))
    · skip
      rw [st16n _ _ _ _ _ _ _ _ _ c]
      exact rstep1 hO B D _ t x n h got full (show (0 : Int) ≤ 6 by decide) _ _ _ _ _ _ _ _ _ _ (fun w1 l h' => as_ex (n := 0) (rs16n hr hD h' 1 t x n h got full _ rfl _ rfl c))
  · skip
    rw [st17 _ _ _ _ _ _ _ _ _]
    exact rstep1 hO B D _ t x n h got full (show (0 : Int) ≤ 7 by decide) _ _ _ _ _ _ _ _ _ _ (fun w1 l h' => rs17 hr hD h' 1 t x n h got full)
  · skip
    rw [st18 _ _ _ _ _ _ _ _ _]
    exact rstep1 hO B D _ t x n h got full (show (0 : Int) ≤ 8 by decide) _ _ _ _ _ _ _ _ _ _ (fun w1 l h' => rs18 hr hD h' 1 t x n h got full)
  · skip
    rw [st19 _ _ _ _ _ _ _ _ _]
    exact rstep1 hO B D _ t x n h got full (show (0 : Int) ≤ 9 by decide) _ _ _ _ _ _ _ _ _ _ (fun w1 l h' => rs19 hr hD h' 1 t x n h got full)
  · skip
    rw [st20 _ _ _ _ _ _ _ _ _]
    exact rstep1 hO B D _ t x n h got full (show (0 : Int) ≤ 10 by decide) _ _ _ _ _ _ _ _ _ _ (fun w1 l h' => as_ex (n := 0) (rs20 hr hD h' 1 t x n h got full _ rfl _ rfl))
  · skip
    rw [st30 _ _ _ _ _ _ _ _ _]
    exact rstep2 hO B D _ t x n h got full (show (0 : Int) ≤ 0 by decide) _ _ _ _ _ _ _ _ _ _ (fun w1 l h' => rs30 hr hD h' 2 t x n h got full _ rfl)
  · by_cases c : ms.getD (B + 3) 0 = n
    · skip
      rw [st31y _ _ _ _ _ _ _ _ _ c]
      exact rstep2 hO B D _ t x n h got full (show (0 : Int) ≤ 1 by decide) _ _ _ _ _ _ _ _ _ _ (fun w1 l h' => as_ex (n := 0) (rs31y hr hD h' 2 t x n h got full _ rfl (by simpa using c)))
    · skip
      rw [st31n _ _ _ _ _ _ _ _ _ c]
      exact rstep2 hO B D _ t x n h got full (show (0 : Int) ≤ 1 by decide) _ _ _ _ _ _ _ _ _ _ (fun w1 l h' => as_ex (n := 0) (rs31n hr hD h' 2 t x n h got full _ rfl (by simpa using c)))
  · skip
    rw [st32 _ _ _ _ _ _ _ _ _]
    exact rstep2 hO B D _ t x n h got full (show (0 : Int) ≤ 2 by decide) _ _ _ _ _ _ _ _ _ _ (fun w1 l h' => as_ex (n := 0) (rs32 hr hD h' 2 t x n h got full _ rfl))
  · skip
    rw [st33 _ _ _ _ _ _ _ _ _]
    exact rstep2 hO B D _ t x n h got full (show (0 : Int) ≤ 3 by decide) _ _ _ _ _ _ _ _ _ _ (fun w1 l h' => rs33 hr hD h' 2 t x n h got full)
  · by_cases c : wrap64 (h + 1) ≤ ms.getD (B + 1) 0
    · skip
      rw [st34y _ _ _ _ _ _ _ _ _ c]
      exact rstep2 hO B D _ t x n h got full (show (0 : Int) ≤ 4 by decide) _ _ _ _ _ _ _ _ _ _ (fun w1 l h' => as_ex (n := 0) (rs34y hr hD h' 2 t x n h got full _ rfl _ rfl (by omega)))
    · skip
      rw [st34n _ _ _ _ _ _ _ _ _ c]
      exact rstep2 hO B D _ t x n h got full (show (0 : Int) ≤ 4 by decide) _ _ _ _ _ _ _ _ _ _ (fun w1 l h' => as_ex (n := 0) (rs34n hr hD h' 2 t x n h got full _ rfl _ rfl (by omega)))
  · skip
    rw [st35 _ _ _ _ _ _ _ _ _]
    exact rstep2 hO B D _ t x n h got full (show (0 : Int) ≤ 5 by decide) _ _ _ _ _ _ _ _ _ _ (fun w1 l h' => rs35 hr hD h' 2 t x n h got full)
  · skip
    rw [st36 _ _ _ _ _ _ _ _ _]
    exact rstep2 hO B D _ t x n h got full (show (0 : Int) ≤ 6 by decide) _ _ _ _ _ _ _ _ _ _ (fun w1 l h' => rs36 hr hD h' 2 t x n h got full)
  · skip
    rw [st37 _ _ _ _ _ _ _ _ _]
    exact rstep2 hO B D _ t x n h got full (show (0 : Int) ≤ 7 by decide) _ _ _ _ _ _ _ _ _ _ (fun w1 l h' => as_ex (n := 0) (rs37 hr hD h' 2 t x n h got full _ rfl))
theorem furthest_min (t : Int) : min (max t 0) 1099511627776 = furthest t := rfl
theorem rnew (kd B D t x : Int) (w : World) : Calls Try.prog 37 #[.int .i64 kd, .int .i64 B, .int .i64 D, .int .i64 t, .int .i64 x] w fun e w' => e = .returned (.agg #[.int .i64 kd, .int .i64 B, .int .i64 D, .int .i64 0, .int .i64 (furthest t), .int .i64 x, .int .i64 0, .int .i64 0, .bool false, .bool false]) ∧ Below w.heap.size w w' := by
  unfold furthest
  go_enter Try.func37, Try.ntmps37
  go_wp2
  exact bodyPost_ret (v := .agg #[.int .i64 kd, .int .i64 B, .int .i64 D, .int .i64 0, .int .i64 (min (max t 0) 1099511627776), .int .i64 x, .int .i64 0, .int .i64 0, .bool false, .bool false]) (by simp [results, Try.results37, go_sem]) rfl ⟨rfl, by go_grown⟩
end Go.Proofs.Ytofnjapgacgdlaa
