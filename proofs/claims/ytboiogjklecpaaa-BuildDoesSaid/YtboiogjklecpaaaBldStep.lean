/- Package build: a step of the document's, done on a builder. -/
import Derived.Test.YtboiogjklecpaaaBldStepA
set_option linter.unusedVariables false
set_option linter.unusedSimpArgs false
namespace Go.Proofs.Ytboiogjklecpaaa
open Go.RowKit
set_option maxRecDepth 100000
set_option maxHeartbeats 400000
theorem bstep_any {w0 w : World} {bb : Nat} {mem : Int} {B : List BF} {l : List Ast} (h : BOwn w0 w bb mem B l) (k : Nat) (reg : Int) (nm : ByteArray) (x : I4) (hk : k ≤ 4) (hB : B.length ≤ 500) (hf : (lastB B).le 500) (hs : nm.size ≤ maxLen) :
    Calls Try.prog 47 #[.pointer (some ⟨bb, 0, none⟩), .agg #[.int .i64 (k : Int), .int .i64 reg, .string nm, .int .i64 x.1, .int .i64 x.2.1, .int .i64 x.2.2.1, .int .i64 x.2.2.2]] w fun e w' => e = .returned (.int .i64 (bans B ⟨k, reg, nm, x⟩)) ∧ BOwn w0 w' bb mem (bstep B ⟨k, reg, nm, x⟩) l := by
  have h1 : ∀ K : Int, BOwn w0 (w.alloc (.cells #[.int .i64 K, .int .i64 reg, .string nm, .int .i64 x.1, .int .i64 x.2.1, .int .i64 x.2.2.1, .int .i64 x.2.2.2] 68)) bb mem B l := fun K => h.grow (by go_grown)
  have h2 : ∀ K : Int, BOwn w0 ((w.alloc (.cells #[.int .i64 K, .int .i64 reg, .string nm, .int .i64 x.1, .int .i64 x.2.1, .int .i64 x.2.2.1, .int .i64 x.2.2.2] 68)).alloc (.cells #[.int .i64 x.1, .int .i64 x.2.1, .int .i64 x.2.2.1, .int .i64 x.2.2.2] 30)) bb mem B l := fun K => (h1 K).grow (by go_grown)
  have hL : ∀ K : Int, LiesI ((w.alloc (.cells #[.int .i64 K, .int .i64 reg, .string nm, .int .i64 x.1, .int .i64 x.2.1, .int .i64 x.2.2.1, .int .i64 x.2.2.2] 68)).alloc (.cells #[.int .i64 x.1, .int .i64 x.2.1, .int .i64 x.2.2.1, .int .i64 x.2.2.2] 30)) (some ⟨w.heap.size + 1, 0, none⟩) 1 [x] := fun K => by
    have := liesI_lit (w.alloc (.cells #[.int .i64 K, .int .i64 reg, .string nm, .int .i64 x.1, .int .i64 x.2.1, .int .i64 x.2.2.1, .int .i64 x.2.2.2] 68)) x
    rwa [World.size_alloc] at this
  obtain ⟨f1, f2, f3⟩ := hf
  rcases (show k = 0 ∨ k = 1 ∨ k = 2 ∨ k = 3 ∨ k = 4 by omega) with rfl | rfl | rfl | rfl | rfl
  · rw [bans_new B rfl, bstep_new B rfl]
    exact st_func (bfunc (by omega) (h1 0))
  · by_cases hnil : B = []
    · subst hnil
      rw [bans_nil (o := ⟨1, reg, nm, x⟩) (Nat.succ_ne_zero 0), bstep_nil (o := ⟨1, reg, nm, x⟩) (Nat.succ_ne_zero 0)]
      have P := badd_none (v := .slice (some ⟨w.heap.size + 1, 0, none⟩) 1 1) ((h2 1).nolasts _ (Below.refl _ _))
      have P2 := P.mono (R' := fun e w' => e = .returned (.int .i64 (-1)) ∧ BOwn w0 w' bb mem [] l) fun e w' ⟨he, hw⟩ => ⟨he, hw ▸ h2 1⟩
      exact st_add P2
    · obtain ⟨B', hB'⟩ := split_last hnil
      generalize lastB B = f at *
      subst hB'
      simp only [List.length_append, List.length_singleton] at hB
      rw [bans_app (o := ⟨1, reg, nm, x⟩) B' f (Nat.succ_ne_zero 0), bstep_app (o := ⟨1, reg, nm, x⟩) B' f (Nat.succ_ne_zero 0), step_add (o := ⟨1, reg, nm, x⟩) rfl]
      have P := badd (by omega) (h2 1) [x] _ 1 (hL 1) (by simp; omega)
      have P2 := P.mono (R' := fun e w' => e = .returned (.int .i64 ((f.code.length : Int) + 1)) ∧ BOwn w0 w' bb mem (B' ++ [{ f with code := f.code ++ [x] }]) l) fun e w' ⟨he, hw⟩ => ⟨by rw [he]; rfl, hw⟩
      exact st_add P2
  · by_cases hnil : B = []
    · subst hnil
      rw [bans_nil (o := ⟨2, reg, nm, x⟩) (Nat.succ_ne_zero 1), bstep_nil (o := ⟨2, reg, nm, x⟩) (Nat.succ_ne_zero 1)]
      have P := blabel_none (v := .string nm) ((h1 2).nolasts _ (Below.refl _ _))
      have P2 := P.mono (R' := fun e w' => e = .returned (.int .i64 8) ∧ BOwn w0 w' bb mem [] l) fun e w' ⟨he, hw⟩ => ⟨he, hw ▸ h1 2⟩
      exact st_state P2
    · obtain ⟨B', hB'⟩ := split_last hnil
      generalize lastB B = f at *
      subst hB'
      simp only [List.length_append, List.length_singleton] at hB
      rw [bans_app (o := ⟨2, reg, nm, x⟩) B' f (Nat.succ_ne_zero 1), bstep_app (o := ⟨2, reg, nm, x⟩) B' f (Nat.succ_ne_zero 1)]
      cases ht : lookB f.labels nm with
      | some v =>
        rw [step_twice (o := ⟨2, reg, nm, x⟩) rfl (by show (lookB f.labels nm).isSome = true; rw [ht]; rfl)]
        have P := blabel_twice (by omega) (h1 2) nm hs (by rw [ht]; rfl)
        have P2 := st_twice (reg := reg) (x := x) P
        simpa [ht] using P2
      | none =>
        rw [step_label (o := ⟨2, reg, nm, x⟩) rfl ht]
        have P := blabel_new (by omega) (h1 2) nm hs ht (by omega)
        have P2 := st_label (reg := reg) (x := x) P
        simpa [ht] using P2
  · by_cases hnil : B = []
    · subst hnil
      rw [bans_nil (o := ⟨3, reg, nm, x⟩) (Nat.succ_ne_zero 2), bstep_nil (o := ⟨3, reg, nm, x⟩) (Nat.succ_ne_zero 2)]
      have P := bgoto_none (h1 3).nolasts nm
      have P2 := P.mono (R' := fun e w' => e = .returned (.tuple #[]) ∧ BOwn w0 w' bb mem [] l) fun e w' ⟨he, hw⟩ => ⟨he, (h1 3).grow hw⟩
      exact st_goto P2
    · obtain ⟨B', hB'⟩ := split_last hnil
      generalize lastB B = f at *
      subst hB'
      simp only [List.length_append, List.length_singleton] at hB
      rw [bans_app (o := ⟨3, reg, nm, x⟩) B' f (Nat.succ_ne_zero 2), bstep_app (o := ⟨3, reg, nm, x⟩) B' f (Nat.succ_ne_zero 2), step_goto (o := ⟨3, reg, nm, x⟩) rfl]
      have P := bgoto_some (by omega) (h1 3) nm (by omega) (by omega)
      exact st_goto P
  · by_cases hnil : B = []
    · subst hnil
      rw [bans_nil (o := ⟨4, reg, nm, x⟩) (Nat.succ_ne_zero 3), bstep_nil (o := ⟨4, reg, nm, x⟩) (Nat.succ_ne_zero 3)]
      have P := bzero_none (h1 4).nolasts reg nm
      have P2 := P.mono (R' := fun e w' => e = .returned (.tuple #[]) ∧ BOwn w0 w' bb mem [] l) fun e w' ⟨he, hw⟩ => ⟨he, (h1 4).grow hw⟩
      exact st_zero P2
    · obtain ⟨B', hB'⟩ := split_last hnil
      generalize lastB B = f at *
      subst hB'
      simp only [List.length_append, List.length_singleton] at hB
      rw [bans_app (o := ⟨4, reg, nm, x⟩) B' f (Nat.succ_ne_zero 3), bstep_app (o := ⟨4, reg, nm, x⟩) B' f (Nat.succ_ne_zero 3), step_zero (o := ⟨4, reg, nm, x⟩) (by simp) (by simp) (by simp)]
      have P := bzero_some (by omega) (h1 4) reg nm (by omega) (by omega)
      exact st_zero P
end Go.Proofs.Ytboiogjklecpaaa
