/- The anchor of layer 4, and what the laws need beside the contracts. -/
import Derived.Test.YtboiogjklecpaaaPgmPut
import Derived.Test.YtboiogjklecpaaaPgmOwn
import Derived.Test.YtboiogjklecpaaaPgmSame
import Derived.Test.YtboiogjklecpaaaPgmGetM
import Derived.Test.YtboiogjklecpaaaPgmRGet
set_option linter.unusedVariables false
set_option linter.unusedSimpArgs false
namespace Go.Proofs.Ytboiogjklecpaaa
open Go.RowKit
set_option maxRecDepth 100000
set_option maxHeartbeats 8000000
theorem flat_len : ∀ (fs : List (List I4)), (∀ l ∈ fs, l.length ≤ 200) → (fs.flatMap funcB).length ≤ 802 * fs.length
  | [], _ => by simp
  | l :: fs, h => by
    have h1 := h l (by simp)
    have h2 := flat_len fs (fun y hy => h y (by simp [hy]))
    have h3 := funcB_len l
    rw [List.flatMap_cons, List.length_append, List.length_cons]
    omega
theorem putP_small {mem : Int} {fs : List (List I4)} (h : checkP mem fs = 0) : (putP mem fs).length ≤ 12838 := by
  obtain ⟨h1, h2⟩ := check_parts h
  obtain ⟨_, _, _, h4⟩ := sizes_ok h1
  have := flat_len fs (fun l hl => by have := many_ok.1 (func_ok (funcs_ok h2 l hl)).1; omega)
  rw [putP_len]
  omega
theorem putS_small (mem : Int) (fs : List (List I4)) : (putS mem fs).length ≤ 12838 := by
  unfold putS
  split
  · rename_i h; exact putP_small h
  · simp
theorem getC_err : ∀ (k : Nat) (bs : List UInt8) (acc : List I4) (e : Int), getC k bs acc = .error e → e ≠ 0
  | 0, bs, acc, e, h => by simp [getC] at h
  | k + 1, bs, acc, e, h => by
    rw [getC] at h
    split at h
    · cases h; simp
    · split at h
      · rename_i hne; cases h; exact hne
      · exact getC_err k _ _ _ h
theorem getFs_err : ∀ (n : Nat) (bs : List UInt8) (acc : List (List I4)) (e : Int), getFs n bs acc = .error e → e ≠ 0
  | 0, bs, acc, e, h => by simp [getFs] at h
  | n + 1, bs, acc, e, h => by
    rw [getFs] at h
    split at h
    · cases h; simp
    · split at h
      · rename_i hne; cases h; exact hne
      · split at h
        · rename_i e' hc; cases h; exact getC_err _ _ _ _ hc
        · exact getFs_err n _ _ _ h
theorem getP_err {s : List UInt8} {e : Int} (h : getP s = .error e) : e ≠ 0 := by
  unfold getP at h
  split at h
  · cases h; simp
  · split at h
    · cases h; simp
    · split at h
      · rename_i hne; cases h; exact hne
      · cases hg : getFs (ofB ((s.drop 3).take 1)).toNat (s.drop 6) [] with
        | error e' => rw [hg] at h; cases h; exact getFs_err _ _ _ _ hg
        | ok p =>
          obtain ⟨fs, r⟩ := p
          rw [hg] at h
          unfold endP at h
          simp only at h
          split at h
          · cases h; simp
          · split at h
            · rename_i hne; cases h; exact hne
            · cases h
/-- What is got: a program, or what is wrong. -/
theorem getP_cases (s : List UInt8) : (resE (getP s) = 0 ∧ getP s = .ok (resF (getP s)) ∧ putS (resF (getP s)).1 (resF (getP s)).2 = s ∧ checkP (resF (getP s)).1 (resF (getP s)).2 = 0) ∨ (resE (getP s) ≠ 0 ∧ resF (getP s) = (0, [])) := by
  cases h : getP s with
  | error e => exact .inr ⟨getP_err h, rfl⟩
  | ok p =>
    obtain ⟨mem, fs⟩ := p
    obtain ⟨h1, h2⟩ := putP_get h
    refine .inl ⟨rfl, rfl, ?_, h2⟩
    show putS mem fs = s
    unfold putS
    rw [if_pos h2, h1]
theorem works04_any (w : World) : Calls Try.prog 27 #[] w fun e w' => e = .returned (.bool true) ∧ Below w.heap.size w w' := by
  have hck : checkP 2 [[(17, 1, 0, 0), (0, 0, 0, 0)]] = 0 := by decide
  have hpp : putP 2 [[(17, 1, 0, 0), (0, 0, 0, 0)]] = [72, 82, 1, 1, 0, 2, 0, 2, 17, 1, 0, 0, 0, 0, 0, 0] := by decide
  have hps : putS 2 [[(17, 1, 0, 0), (0, 0, 0, 0)]] = [72, 82, 1, 1, 0, 2, 0, 2, 17, 1, 0, 0, 0, 0, 0, 0] := by
    unfold putS
    rw [if_pos hck, hpp]
  have hgp := getP_put hck
  rw [hpp] at hgp
  have PP := fun ao cap w h => pput_any 2 [[(17, 1, 0, 0), (0, 0, 0, 0)]] ao cap w h
  rw [hps, hck] at PP
  replace PP := Lib.hid PP
  have GG := Lib.hid (fun w => show Calls Try.prog 32 #[.string ⟨([72, 82, 1, 1, 0, 2, 0, 2, 17, 1, 0, 0, 0, 0, 0, 0] : List UInt8).toArray⟩] w fun e w' => ∃ oa oc, e = .returned (.tuple #[.agg #[.int .i64 2, .slice oa 1 oc], .int .i64 0]) ∧ Below w.heap.size w w' from (pget_any _ w (by decide)).mono fun e w' h => by
    unfold PRet at h
    rw [hgp] at h
    obtain ⟨oa, oc, he, _, hb⟩ := h
    exact ⟨oa, oc, he, hb⟩)
  have hO := (((Own.nil (Below.refl _ w)).row_made 30 4 #[.int .i64 17, .int .i64 1, .int .i64 0, .int .i64 0, .int .i64 0, .int .i64 0, .int .i64 0, .int .i64 0] 2 (by decide) rfl)).row_made 52 1 #[.slice (some ⟨w.heap.size, 0, none⟩) 2 2] 1 (by decide) rfl
  have hL : LiesF ((w.alloc (.cells #[.int .i64 17, .int .i64 1, .int .i64 0, .int .i64 0, .int .i64 0, .int .i64 0, .int .i64 0, .int .i64 0] 30)).alloc (.cells #[.slice (some ⟨w.heap.size, 0, none⟩) 2 2] 52)) (some ⟨w.heap.size + 1, 0, none⟩) 1 [[(17, 1, 0, 0), (0, 0, 0, 0)]] := by
    have := liesF_of (ps := [((some ⟨w.heap.size, 0, none⟩, 2), [(17, 1, 0, 0), (0, 0, 0, 0)])]) (hO.row 1 rfl) (by
      intro p hp
      simp at hp
      subst hp
      exact hO.row 0 rfl) rfl
    simpa using this
  have hb0 := hO.below
  clear hO hpp hps hgp hck
  go_enter Try.func27, Try.ntmps27
  go_wp2_with fail
  generalize (w.alloc (.cells #[.int .i64 17, .int .i64 1, .int .i64 0, .int .i64 0, .int .i64 0, .int .i64 0, .int .i64 0, .int .i64 0] 30)).alloc (.cells #[.slice (some ⟨w.heap.size, 0, none⟩) 2 2] 52) = u at *
  go_at_call 29
  refine (PP.out _ _ _ hL).mono ?_
  rintro e w2 ⟨rfl, hb2⟩
  go_wp2_with fail
  go_at_call 32
  refine (GG.out _).mono ?_
  rintro e w3 ⟨oa, oc, rfl, hb3⟩
  have hO3 := (Own.nil (below_chain (below_chain hb0 hb2) hb3)).box #[.int .i64 2, .slice oa 1 oc] 42
  go_upto_region 3 with fail
  generalize w3.alloc (.cells #[.int .i64 2, .slice oa 1 oc] 42) = w4 at *
  generalize w3.heap.size = qb at *
  obtain ⟨y0, y1⟩ := And.intro (cells2f 0 hO3 rfl).1.1 (cells2f 0 hO3 rfl).2.1
  go_wp2
  go_ret
  exact ⟨rfl, hO3.below⟩
end Go.Proofs.Ytboiogjklecpaaa
