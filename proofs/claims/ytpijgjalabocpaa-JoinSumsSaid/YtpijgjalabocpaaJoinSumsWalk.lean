/- The walk through the law JoinSums. -/
import Derived.Test.YtpijgjalabocpaaJoin
import Derived.Test.YtpijgjalabocpaaArgs
set_option linter.unusedVariables false
set_option linter.unusedSimpArgs false
namespace Go.Proofs.Ytpijgjalabocpaa
open Go.RowKit
/-- One, and as many as came, less as many as left. -/
def cntB : List Bool → Int
  | [] => 1
  | b :: l => cntB l + if b = true then 1 else -1
theorem cntB_bd : ∀ l : List Bool, 1 - (l.length : Int) ≤ cntB l ∧ cntB l ≤ 1 + l.length
  | [] => by simp [cntB]
  | b :: l => by
    have := cntB_bd l
    simp only [cntB, List.length_cons]
    cases b <;> simp <;> omega
theorem cntB_snoc (b : Bool) : ∀ l : List Bool, cntB (l ++ [b]) = cntB l + if b = true then 1 else -1
  | [] => by simp [cntB]
  | c :: l => by
    have := cntB_snoc b l
    simp only [cntB, List.cons_append, this]
    omega
theorem cntB_next {bs : List Bool} {k : Nat} (h : k < bs.length) : cntB (bs.take (k + 1)) = cntB (bs.take k) + if bs.getD k false = true then 1 else -1 := by
  rw [List.take_succ_eq_append_getElem h, cntB_snoc]
  simp [h]
set_option maxHeartbeats 1000000
set_option maxRecDepth 100000
theorem sums_core (bs : List Bool) (ao : Option Addr) (cap m : Nat) (w : World) (hm : m < 256) (hc : bs.length ≤ cap) (hc2 : cap ≤ maxLen) (hl : bs.length ≤ 1000) (hcell : ∀ k, k < bs.length → ∃ ad, ao = some ad ∧ w.cell? (ad.add k) = some (.bool (bs.getD k false))) :
    Calls Try.prog 12 #[.slice ao bs.length cap, .int .u8 m] w fun e w' => e = .returned (.bool true) ∧ Below w.heap.size w w' := by
  unfold maxLen at hc2
  have N := Lib.hid (fun (w1 : World) (h : Below w.heap.size w w1) => new_st h 256 (List.replicate 256 0) rfl)
  have HC := Lib.hid hcell
  clear hcell
  go_enter Try.func12, Try.ntmps12
  go_wp2_with (go_at_call 35; refine (works18_any _).mono ?_; rintro e w1 ⟨rfl, hb1⟩)
  go_at_call 15
  refine (N.out _ hb1).mono ?_
  rintro e w2 ⟨rfl, hs2⟩
  go_wp2_with fail
  go_at_call 36
  refine (again_st hs2 (k := m) (by simp; omega) _ rfl).mono ?_
  rintro e w3 ⟨rfl, hs3⟩
  have hml : ((List.replicate 256 (0 : Int)).set m 1).length = 256 := by simp
  have hmg : ((List.replicate 256 (0 : Int)).set m 1).getD m 0 = 1 := by simp [hm]
  generalize (List.replicate 256 (0 : Int)).set m 1 = ms0 at *
  have HL := Lib.hid hml
  have HG := Lib.hid hmg
  clear hml hmg hs2 hb1
  go_wp2_with fail
  generalize w1.heap.size = b at *
  go_loopw [6, 7] (fun n i wr => ∃ (k : Nat) (ms : List Int), k ≤ bs.length ∧ i = .int .i64 k ∧ n = .int .i64 (cntB (bs.take k)) ∧ St w wr (b + 1) b ms ∧ Hid (ms.length = 256) ∧ Hid (ms.getD m 0 = cntB (bs.take k))) (fun _ i _ => (bs.length - intOf i).toNat)
  case atStart => exact ⟨0, ms0, by omega, rfl, rfl, hs3, HL, HG⟩
  case round =>
    obtain ⟨k, ms, hk, rfl, rfl, hs, hml, hmg⟩ := hrel
    clear hs3 HL HG
    by_cases hlt : k < bs.length
    · obtain ⟨ad, rfl, hx0⟩ := HC.out k hlt
      have hx := hs.old hx0
      have hbd := cntB_bd (bs.take k)
      have hlk : (bs.take k).length = k := by simp; omega
      rw [hlk] at hbd
      have hn := Lib.hid (cntB_next hlt)
      clear hlk
      have hml' := hml.out
      have hmg' := hmg.out
      generalize cntB (bs.take k) = N at *
      cases hbk : bs.getD k false with
      | true =>
        have hn' := hn.out
        rw [hbk] at hn' hx hx0
        simp at hn'
        have S1 := Lib.hid (spawn_st hs (k := m) (by omega) N hmg' _ rfl)
        have e1 : (ms.set m (wrap64 (N + 1))).length = 256 := by simp [hml']
        have e2 : (ms.set m (wrap64 (N + 1))).getD m 0 = N + 1 := by
          rw [IntWalk.wrap64_in _ (by omega)]; simp [hml', hm]
        generalize ms.set m (wrap64 (N + 1)) = ms1 at *
        have E1 := Lib.hid e1
        have E2 := Lib.hid e2
        have S2 := Lib.hid (fun (w5 : World) (h : St w w5 (b + 1) b ms1) => load_st h (k := m) (by omega) (N + 1) e2)
        have HN := Lib.hid hn'
        clear hml' hmg' hn' e1 e2 hbk hn
        go_wp2_with (go_at_call 37; refine S1.out.mono ?_; rintro e w5 ⟨rfl, hs5⟩; have hx5 := hs5.old hx0)
        go_at_call 17
        refine (S2.out _ hs5).mono ?_
        rintro e w6 ⟨rfl, rfl⟩
        go_wp2
        go_roundw
        case rel => exact ⟨k + 1, ms1, by omega, by go_num, by rw [HN.out], hs5, E1, Lib.hid (by rw [E2.out, HN.out])⟩
        case measure => simp [intOf]; omega
      | false =>
        have hn' := hn.out
        rw [hbk] at hn' hx hx0
        simp at hn'
        have S1 := Lib.hid (leave_st hs (k := m) (by omega) N hmg' _ rfl _ rfl)
        have e1 : (ms.set m (wrap64 (N - 1))).length = 256 := by simp [hml']
        have e2 : (ms.set m (wrap64 (N - 1))).getD m 0 = N - 1 := by
          rw [IntWalk.wrap64_in _ (by omega)]; simp [hml', hm]
        generalize ms.set m (wrap64 (N - 1)) = ms1 at *
        have E1 := Lib.hid e1
        have E2 := Lib.hid e2
        have S2 := Lib.hid (fun (w5 : World) (h : St w w5 (b + 1) b ms1) => load_st h (k := m) (by omega) (N - 1) e2)
        have hn2 : cntB (bs.take (k + 1)) = N - 1 := by omega
        have HN := Lib.hid hn2
        clear hml' hmg' hn' e1 e2 hbk hn hn2
        by_cases h1 : N = 1
        · subst h1
          go_wp2_with (go_at_call 38; refine S1.out.mono ?_; rintro e w5 ⟨rfl, hs5⟩; have hx5 := hs5.old hx0)
          go_at_call 17
          refine (S2.out _ hs5).mono ?_
          rintro e w6 ⟨rfl, rfl⟩
          go_wp2
          go_roundw
          case rel => exact ⟨k + 1, ms1, by omega, by go_num, by rw [HN.out]; rfl, hs5, E1, Lib.hid (by rw [E2.out, HN.out])⟩
          case measure => simp [intOf]; omega
        · have q1 : (N == 1) = false := by simp [h1]
          have q2 : (N - 1 == 0) = false := by simp; omega
          go_wp2_with (go_at_call 38; refine S1.out.mono ?_; rintro e w5 ⟨rfl, hs5⟩; have hx5 := hs5.old hx0)
          go_at_call 17
          refine (S2.out _ hs5).mono ?_
          rintro e w6 ⟨rfl, rfl⟩
          go_wp2
          go_roundw
          case rel => exact ⟨k + 1, ms1, by omega, by go_num, by rw [HN.out], hs5, E1, Lib.hid (by rw [E2.out, HN.out])⟩
          case measure => simp [intOf]; omega
    · go_wp2
      go_ret
      exact ⟨rfl, hs.below⟩
theorem walkJoinSums (v0 v1 : Value) (w : World) (h0 : Arg Try.prog w 61 v0) (h1 : Arg Try.prog w 5 v1) :
    Calls Try.prog 12 #[v0, v1] w fun e w' => e = .returned (.bool true) ∧ Below w.heap.size w w' := by
  obtain ⟨ao, cap, bs, rfl, h2, h3, h4⟩ := h0.bools Try.underlying61 Try.underlying4 (by kernel_rfl)
  obtain ⟨m, rfl, hm⟩ := h1.int Try.underlying5
  simp [Lit.wf, IntKind.min, IntKind.max, IntKind.signed, IntKind.bits] at hm
  obtain ⟨m, rfl⟩ : ∃ n : Nat, m = n := ⟨m.toNat, by omega⟩
  by_cases hl : bs.length ≤ 1000
  · exact sums_core bs ao cap m w (by omega) h2 h3 hl h4
  · have hl' : 1000 < bs.length := by omega
    unfold maxLen at h3
    clear h4
    go_enter Try.func12, Try.ntmps12
    go_wp2_with (go_at_call 35; refine (works18_any _).mono ?_; rintro e w1 ⟨rfl, hb1⟩)
    go_ret
    exact ⟨rfl, hb1⟩
end Go.Proofs.Ytpijgjalabocpaa
