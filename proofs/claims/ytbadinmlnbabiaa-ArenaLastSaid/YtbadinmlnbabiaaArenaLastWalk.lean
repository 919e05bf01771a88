/- The walk through the law ArenaLast. -/
import Derived.Test.YtbadinmlnbabiaaArenaOnceWalk
set_option linter.unusedVariables false
set_option linter.unusedSimpArgs false
namespace Go.Proofs.Ytbadinmlnbabiaa
open Go.RowKit
/-- The i-th number that is given back. -/
def giv (n T i : Nat) : Int := ((i : Int) + T) % n + 1
def givL (n T k : Nat) : List Int := (List.range k).map fun i => giv n T i
theorem givL_succ (n T k : Nat) : givL n T (k + 1) = givL n T k ++ [giv n T k] := by simp [givL, List.range_succ]
theorem giv_nat {n T i : Nat} (hn : 1 ≤ n) : ∃ g : Nat, giv n T i = g ∧ 1 ≤ g ∧ g ≤ n := by
  have h1 : 0 ≤ ((i : Int) + T) % n := Int.emod_nonneg _ (by omega)
  have h2 : ((i : Int) + T) % n < n := Int.emod_lt_of_pos _ (by omega)
  exact ⟨(giv n T i).toNat, by unfold giv; omega, by unfold giv; omega, by unfold giv; omega⟩
theorem giv_inj {n T i j : Nat} (hi : i < n) (hj : j < n) (h : giv n T i = giv n T j) : i = j := by
  unfold giv at h
  have e : ((i : Int) + T) % n = ((j : Int) + T) % n := by omega
  rw [Int.emod_eq_emod_iff_emod_sub_eq_zero] at e
  have hd := Int.dvd_of_emod_eq_zero e
  obtain ⟨c, hc⟩ := hd
  have hc0 : c = 0 := by
    by_cases h0 : c = 0
    · exact h0
    · rcases Int.lt_or_gt_of_ne h0 with q | q
      · have : (n : Int) * c ≤ (n : Int) * (-1) := Int.mul_le_mul_of_nonneg_left (by omega) (by omega)
        omega
      · have : (n : Int) * 1 ≤ (n : Int) * c := Int.mul_le_mul_of_nonneg_left (by omega) (by omega)
        omega
  subst hc0
  omega
theorem giv_mem {n T k : Nat} {i : Nat} (hk : k ≤ n) (hi : i < n) (h : giv n T i ∈ givL n T k) : i < k := by
  unfold givL at h
  obtain ⟨j, hj, he⟩ := List.mem_map.1 h
  have hj' : j < k := by simpa using hj
  have := giv_inj (n := n) (T := T) (by omega) hi he
  omega
set_option maxHeartbeats 8000000
set_option maxRecDepth 100000
theorem alast_core (m T n : Nat) (w : World) (hm : m ≤ 255) (hT : T ≤ 255) (hn : (m : Int) % 100 + 1 = (n : Int)) :
    Calls Try.prog 9 #[.int .u8 m, .int .u8 T] w fun e w' => e = .returned (.bool true) ∧ Below w.heap.size w w' := by
  have NW := Lib.hid (fun (w1 : World) (h : Below w.heap.size w w1) => aNew_any n n (by omega) h)
  have hn1 : 1 ≤ n ∧ n ≤ 100 := by omega
  obtain ⟨hn1, hn2⟩ := hn1
  go_enter Try.func9, Try.ntmps9
  go_wp2_with (go_at_call 29; refine (works10_any _).mono ?_; rintro e w1 ⟨rfl, hb1⟩)
  go_at_call 30
  refine (NW.out _ hb1).mono ?_
  rintro e w2 ⟨rfl, h2⟩
  clear hb1 NW hn
  have hI0 := Lib.hid (AInv.new n)
  generalize List.replicate (n + 1) false = hs0 at *
  generalize w1.heap.size = hb at *
  go_wp2_with fail
  go_loopw [7] (fun i wr => ∃ (k : Nat) (hs : List Bool), k ≤ n ∧ i = .int .i64 ((k : Int) + 1) ∧ Hid (AInv n hs [] k) ∧ AOwn w wr (hb + 1) hb hs [] k k []) (fun i _ => (n + 1 - intOf i).toNat)
  case atStart => exact ⟨0, hs0, by omega, rfl, hI0, h2⟩
  case round =>
    clear h2 hI0
    obtain ⟨k, hs, hk, rfl, hI, hO⟩ := hrel
    have hlen := hI.out.len
    have hct := hI.out.ct
    simp at hct
    by_cases hlt : k < n
    · have hnx : nextA hs [] k = some (((k + 1 : Nat) : Int), [], k + 1) := by
        unfold nextA
        rw [if_pos rfl, if_neg (by omega)]
      obtain ⟨i, hi, i1, i2, i3, hI', _⟩ := hI.out.take hnx
      have hii : k + 1 = i := by omega
      subst hii
      have hct2 := hI'.ct
      simp at hct2
      have T1 := Lib.hid (take_yes hO (by omega) (by simp) (by omega) hnx (by omega) (hs.set (k + 1) true) ((k + 1 : Nat) : Int) rfl (by rw [cnt_count]; omega))
      replace hI' := Lib.hid hI'
      clear hnx hO hI hlen hct hct2 i3
      go_wp2_with (first | (go_at_call 32; refine T1.out.mono ?_; rintro e w5 ⟨rfl, h5⟩))
      go_roundw
      case rel => exact ⟨k + 1, _, by omega, by go_num, hI', h5⟩
      case measure => simp [intOf]; omega
    · obtain rfl : k = n := by omega
      clear hct hlen
      have d0 : decide ((k : Int) + 1 ≤ (k : Int)) = false := by simp; omega
      go_wp2_with fail
      go_loopw [10] (fun i wr => ∃ (j : Nat) (hs : List Bool), j ≤ k ∧ i = .int .i64 j ∧ Hid (AInv k hs (givL k T j) k) ∧ AOwn w wr (hb + 1) hb hs (givL k T j) k k []) (fun i _ => (k - intOf i).toNat)
      case atStart => exact ⟨0, hs, by omega, rfl, hI, hO⟩
      case round =>
        clear hO hI
        obtain ⟨j, hs, hj, rfl, hI, hO⟩ := hrel
        have hlen := hI.out.len
        by_cases hlt1 : j < k
        · obtain ⟨g, hg, g1, g2⟩ := giv_nat (n := k) (T := T) (i := j) hn1
          have hh : heldB hs (g : Int) = true := by
            rcases hI.out.cv g g1 g2 with q | q
            · exact heldB_of g1 (by omega) q
            · rw [← hg] at q
              have := giv_mem (by omega) hlt1 q
              omega
          have hbl : (givL k T j).length ≤ 100000 := by simp [givL]; omega
          obtain ⟨hI', _, _⟩ := hI.out.give hh
          have G := Lib.hid (give_yes hO (by omega) hbl g hh (hs.set g false) rfl)
          have hgs : givL k T j ++ [(g : Int)] = givL k T (j + 1) := by rw [givL_succ, hg]
          rw [hgs] at hI' G
          replace hI' := Lib.hid hI'
          have hgg : ((j : Int) + T) % k + 1 = g := hg
          clear hh hO hI hlen hgs hbl hg
          go_wp2_with (first | (go_at_call 34; refine G.out.mono ?_; rintro e w5 ⟨rfl, h5⟩))
          go_roundw
          case rel => exact ⟨j + 1, _, by omega, by go_num, hI', h5⟩
          case measure => simp [intOf]; omega
        · obtain rfl : j = k := by omega
          clear hlen
          go_wp2_with fail
          go_loopw [11] (fun i wr => ∃ (r : Nat) (hs : List Bool), r ≤ j ∧ i = .int .i64 ((r : Int) - 1) ∧ Hid (AInv j hs (givL j T r) j) ∧ AOwn w wr (hb + 1) hb hs (givL j T r) j j []) (fun i _ => (intOf i + 1).toNat)
          case atStart => exact ⟨j, hs, by omega, by simp, hI, hO⟩
          case round =>
            clear hO hI
            obtain ⟨r, hs, hr, rfl, hI, hO⟩ := hrel
            have hlen := hI.out.len
            by_cases hlt2 : 0 < r
            · obtain ⟨q, rfl⟩ : ∃ q, r = q + 1 := ⟨r - 1, by omega⟩
              obtain ⟨g, hg, g1, g2⟩ := giv_nat (n := j) (T := T) (i := q) hn1
              have hnx : nextA hs (givL j T (q + 1)) j = some ((g : Int), givL j T q, j) := by
                unfold nextA
                rw [if_neg (by rw [givL_succ]; simp), givL_succ]
                simp [hg]
              obtain ⟨i, hi, i1, i2, i3, hI', _⟩ := hI.out.take hnx
              have hii : g = i := by omega
              subst hii
              have hct := hI'.ct
              have hbl : (givL j T (q + 1)).length ≤ 100000 := by simp [givL]; omega
              have T1 := Lib.hid (take_yes hO (by omega) hbl (by omega) hnx (by omega) (hs.set g true) (j : Int) rfl (by rw [cnt_count]; omega))
              replace hI' := Lib.hid hI'
              have e0 : ((q + 1 : Nat) : Int) - 1 = (q : Int) := by omega
              rw [e0]
              have hgg : ((q : Int) + T) % j + 1 = g := hg
              clear hnx hO hI hlen hct i3 hbl hg e0
              go_wp2_with (first | (go_at_call 32; refine T1.out.mono ?_; rintro e w5 ⟨rfl, h5⟩))
              go_roundw
              case rel => exact ⟨q, _, by omega, by go_num, hI', h5⟩
              case measure => simp [intOf] <;> omega
            · obtain rfl : r = 0 := by omega
              have PK := Lib.hid (peak_own hO)
              go_wp2_with (first | (go_at_call 37; refine PK.out.mono ?_; rintro e w8 ⟨rfl, rfl⟩))
              go_ret
              exact ⟨rfl, hO.below⟩
theorem walkArenaLast (v0 v1 : Value) (w : World) (h0 : Arg Try.prog w 5 v0) (h1 : Arg Try.prog w 5 v1) :
    Calls Try.prog 9 #[v0, v1] w fun e w' => e = .returned (.bool true) ∧ Below w.heap.size w w' := by
  obtain ⟨m0, rfl, hs0⟩ := h0.int Try.underlying5
  obtain ⟨m1, rfl, hs1⟩ := h1.int Try.underlying5
  simp [Lit.wf, IntKind.min, IntKind.max, IntKind.signed, IntKind.bits] at hs0 hs1
  obtain ⟨m0, rfl⟩ : ∃ n : Nat, m0 = n := ⟨m0.toNat, by omega⟩
  obtain ⟨m1, rfl⟩ : ∃ n : Nat, m1 = n := ⟨m1.toNat, by omega⟩
  exact alast_core m0 m1 (m0 % 100 + 1) w (by omega) (by omega) (by omega)
end Go.Proofs.Ytbadinmlnbabiaa
