/- The walk through the law StoreTurns. -/
import Derived.Test.YtpijgjalabocpaaWorks09
set_option linter.unusedVariables false
set_option linter.unusedSimpArgs false
namespace Go.Proofs.Ytpijgjalabocpaa
open Go.RowKit
/-- The sum, as it goes round. -/
def sumW (l : List Int) : Int := l.foldl (fun s x => wrap64 (s + x)) 0
theorem sumW_next {zs : List Int} {k : Nat} (h : k < zs.length) : sumW (zs.take (k + 1)) = wrap64 (sumW (zs.take k) + zs.getD k 0) := by
  unfold sumW
  rw [List.take_succ_eq_append_getElem h, List.foldl_append]
  simp [h]
set_option maxHeartbeats 1000000
set_option maxRecDepth 100000
theorem turns_core (zs : List Int) (ao : Option Addr) (cap m : Nat) (w : World) (hm : m < 256) (hl : zs.length ≤ 500) (hli : Lies w ao cap zs) :
    Calls Try.prog 3 #[.slice ao zs.length cap, .int .u8 m] w fun e w' => e = .returned (.bool true) ∧ Below w.heap.size w w' := by
  have hc := hli.1
  have hc2 := hli.2.1
  unfold maxLen at hc2
  have N := Lib.hid (fun (w1 : World) (h : Below w.heap.size w w1) => new_st h 256 (List.replicate 256 0) rfl)
  go_enter Try.func3, Try.ntmps3
  go_wp2_with (go_at_call 14; refine (works09_any _).mono ?_; rintro e w1 ⟨rfl, hb1⟩)
  go_at_call 15
  refine (N.out _ hb1).mono ?_
  rintro e w2 ⟨rfl, hs2⟩
  have hml : (List.replicate 256 (0 : Int)).length = 256 := by simp
  have hmg : (List.replicate 256 (0 : Int)).getD m 0 = 0 := by rw [List.getD_eq_getElem?_getD, List.getElem?_replicate, if_pos hm]; rfl
  generalize List.replicate 256 (0 : Int) = ms0 at *
  have HL := Lib.hid hml
  have HG := Lib.hid hmg
  clear hml hmg hb1
  generalize w1.heap.size = b at *
  go_wp2_with fail
  go_loopw [6, 7] (fun n i wr => ∃ (k : Nat) (ms : List Int), k ≤ zs.length ∧ i = .int .i64 k ∧ n = .int .i64 (sumW (zs.take k)) ∧ St w wr (b + 1) b ms ∧ Hid (ms.length = 256) ∧ Hid (ms.getD m 0 = sumW (zs.take k))) (fun _ i _ => (zs.length - intOf i).toNat)
  case atStart => exact ⟨0, ms0, by omega, rfl, rfl, hs2, HL, HG⟩
  case round =>
    obtain ⟨k, ms, hk, rfl, rfl, hs, hml, hmg⟩ := hrel
    clear hs2 HL HG
    by_cases hlt : k < zs.length
    · obtain ⟨ad, rfl, hx0⟩ := hli.get hlt
      have hx := hs.old hx0
      have hn := Lib.hid (sumW_next hlt)
      have hml' := hml.out
      have hmg' := hmg.out
      generalize sumW (zs.take k) = N at *
      generalize zs.getD k 0 = X at *
      have S1 := Lib.hid (add_st hs (k := m) (by omega) X N hmg' _ rfl)
      have e1 : (ms.set m (wrap64 (N + X))).length = 256 := by simp [hml']
      have e2 : (ms.set m (wrap64 (N + X))).getD m 0 = wrap64 (N + X) := by simp [hml', hm]
      generalize ms.set m (wrap64 (N + X)) = ms1 at *
      have E1 := Lib.hid e1
      have E2 := Lib.hid e2
      clear hml' hmg' e1 e2
      go_wp2_with (go_at_call 16; refine S1.out.mono ?_; rintro e w5 ⟨rfl, hs5⟩; have hx5 := hs5.old hx0)
      go_roundw
      case rel => exact ⟨k + 1, ms1, by omega, by go_num, by rw [hn.out], hs5, E1, Lib.hid (by rw [E2.out, hn.out])⟩
      case measure => simp [intOf]; omega
    · have hml' := hml.out
      have S2 := Lib.hid (load_st hs (k := m) (by omega) _ hmg.out)
      generalize sumW (zs.take k) = N at *
      clear hml hml' hmg
      go_wp2_with (go_at_call 17; refine S2.out.mono ?_; rintro e w6 ⟨rfl, rfl⟩)
      go_ret
      exact ⟨rfl, hs.below⟩
theorem walkStoreTurns (v0 v1 : Value) (w : World) (h0 : Arg Try.prog w 22 v0) (h1 : Arg Try.prog w 5 v1) :
    Calls Try.prog 3 #[v0, v1] w fun e w' => e = .returned (.bool true) ∧ Below w.heap.size w w' := by
  obtain ⟨ao, cap, zs, rfl, hli, _, _⟩ := h0.lies Try.underlying22 Try.underlying3 (by kernel_rfl)
  obtain ⟨m, rfl, hm⟩ := h1.int Try.underlying5
  simp [Lit.wf, IntKind.min, IntKind.max, IntKind.signed, IntKind.bits] at hm
  obtain ⟨m, rfl⟩ : ∃ n : Nat, m = n := ⟨m.toNat, by omega⟩
  by_cases hl : zs.length ≤ 500
  · exact turns_core zs ao cap m w (by omega) hl hli
  · have hl' : 500 < zs.length := by omega
    have hc := hli.1
    have hc2 := hli.2.1
    unfold maxLen at hc2
    clear hli
    go_enter Try.func3, Try.ntmps3
    go_wp2_with (go_at_call 14; refine (works09_any _).mono ?_; rintro e w1 ⟨rfl, hb1⟩)
    go_ret
    exact ⟨rfl, hb1⟩
end Go.Proofs.Ytpijgjalabocpaa
