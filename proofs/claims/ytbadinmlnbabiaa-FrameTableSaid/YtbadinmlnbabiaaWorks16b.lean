/- Package frame: works. -/
import Derived.Test.YtbadinmlnbabiaaRoot
import Derived.Test.YtbadinmlnbabiaaStoreA
set_option linter.unusedVariables false
set_option linter.unusedSimpArgs false
namespace Go.Proofs.Ytbadinmlnbabiaa
open Go.RowKit
set_option maxRecDepth 100000
set_option maxHeartbeats 8000000
theorem works16_any (w : World) : Calls Try.prog 43 #[] w fun e w' => e = .returned (.bool true) ∧ Below w.heap.size w w' := by
  have hok : okPlan 1 2 2 3 = true := by decide
  go_enter Try.func43, Try.ntmps43
  go_wp2_with fail
  go_at_call 54
  refine (plan16_any 2 _).mono ?_
  rintro e w1 ⟨rfl, hb1⟩
  have hO1 := (Own.nil hb1).box #[.int .i64 1, .int .i64 2, .int .i64 2, .int .i64 3] 24
  go_upto_region 2 with fail
  generalize w1.alloc (.cells #[.int .i64 1, .int .i64 2, .int .i64 2, .int .i64 3] 24) = w2 at *
  generalize w1.heap.size = pb at *
  obtain ⟨x0, x1, x2, x3⟩ := cells4p 0 hO1 rfl
  go_wp2_with fail
  go_at_call 15
  refine (size_ok hok _).mono ?_
  rw [show sizeV 1 2 2 3 = 35 by decide]
  rintro e w3 ⟨rfl, hb3⟩
  have hO2 := hO1.grow hb3
  clear hO1 hb3 x0 x1 x2 x3 hb1
  go_wp2_with fail
  go_at_call 49
  refine (own_new hO2 35 (List.replicate 35 0) rfl).mono ?_
  rintro e w4 ⟨rfl, hO3⟩
  have hO4 := hO3.sel [1, 0] (by decide)
  generalize w3.heap.size + 1 = gs at *
  generalize w3.heap.size = sb at *
  clear hO2 hO3
  replace hO4 : Own w w4 (storeA gs sb (List.replicate 35 0) :: [cellsA pb #[.int .i64 1, .int .i64 2, .int .i64 2, .int .i64 3] 24]) := hO4
  obtain ⟨x0, x1, x2, x3⟩ := cells4p 1 hO4 rfl
  go_wp2_with fail
  go_at_call 48
  refine (tnew_any hO4 1 2 2 3 2 (by rw [if_pos hok]; rfl) (by decide)).mono ?_
  rintro e w5 ⟨tb, ag, hb, rb, rfl, hT⟩
  clear hO4 x0 x1 x2 x3
  go_wp2_with fail
  go_at_call 47
  refine (root_any _).mono ?_
  rintro e w6 ⟨rfl, hb6⟩
  have hT6 : TOwn w w6 tb gs sb ag hb rb 3 1 2 2 3 (List.replicate 35 0) ((madeCells zeroF (3 * 19)).toList) (List.replicate 3 false) [] 0 0 [cellsA pb #[.int .i64 1, .int .i64 2, .int .i64 2, .int .i64 3] 24] := AOwn.grow hT hb6
  clear hT hb6
  have hln : (madeCells zeroF (3 * 19)).toList.length = 3 * 19 := by kernel_rfl
  have MK := make_yes hT6 hok (id := 1) (bs' := []) (fr' := 1) hln rfl (by decide) (by decide) (by decide) rfl (by decide) [false, true, false] 1 rfl (by decide) rootV rfl (by simp [rootV, Value.oneCell']) (fillL (List.replicate 35 0) 7 14 0 35) (fillL (fillL (List.replicate 35 0) 7 14 0 35) 7 1 1 35) (by decide) (by decide) (by decide) (by decide)
  obtain ⟨xs, hxs⟩ : ∃ xs, setsL (madeCells zeroF (3 * 19)).toList (1 * 19) rootV.toList = xs := ⟨_, rfl⟩
  have hx19 : xs[19]? = some (.int .i64 1) := by rw [← hxs]; kernel_rfl
  obtain ⟨ms, hms⟩ : ∃ ms, fillL (fillL (List.replicate 35 0) 7 14 0 35) 7 1 1 35 = ms := ⟨_, rfl⟩
  have hm7 : ms.length = 35 ∧ ms.getD 7 0 = 1 := by rw [← hms]; decide
  rw [hxs, hms] at MK
  replace MK := Lib.hid MK
  clear hxs hms
  go_wp2_with fail
  go_at_call 50
  refine MK.out.mono ?_
  rintro e w7 ⟨rfl, hT7⟩
  clear hT6 MK
  go_wp2_with fail
  go_at_call 51
  refine (at_yes hT7 (by decide) 1 (by decide) (by decide)).mono ?_
  rintro e w8 ⟨rfl, rfl⟩
  have hP : (fun w' : World => w'.cell? ⟨pb, 0, none⟩ = some (.int .i64 1) ∧ w'.cell? ⟨pb, 1, none⟩ = some (.int .i64 2) ∧ w'.cell? ⟨pb, 2, none⟩ = some (.int .i64 2) ∧ w'.cell? ⟨pb, 3, none⟩ = some (.int .i64 3)) w7 := by
    obtain ⟨bv, hO⟩ := hT7
    exact cells4p 6 hO rfl
  obtain ⟨x0, x1, x2, x3⟩ := hP
  go_wp2_with fail
  go_at_call 17
  refine (frame_ok hok 1 _).mono ?_
  rw [show frameV 1 2 2 3 1 = 7 by decide]
  rintro e w9 ⟨rfl, hb9⟩
  have hT9 : TOwn w w9 tb gs sb ag hb rb 3 1 2 2 3 ms xs [false, true, false] [] 1 1 [cellsA pb #[.int .i64 1, .int .i64 2, .int .i64 2, .int .i64 3] 24] := AOwn.grow hT7 hb9
  clear hT7 hb9 x0 x1 x2 x3
  go_wp2_with fail
  go_at_call 65
  have LD : Calls Try.prog 65 #[.pointer (some ⟨gs, 0, none⟩), .int .i64 7] w9 fun e w' => e = .returned (.tuple #[.int .i64 1, .bool true]) ∧ w9 = w' := by
    obtain ⟨bv, hO⟩ := hT9
    exact own_load hO 4 rfl (k := 7) (by omega) 1 hm7.2
  refine LD.mono ?_
  rintro e w10 ⟨rfl, rfl⟩
  have hK : w9.cell? ⟨rb, 19, none⟩ = some (.int .i64 1) := by
    obtain ⟨bv, hO⟩ := hT9
    exact hO.row_get 5 rfl hx19
  have TU := tused hT9 (by decide)
  rw [show cnt [false, true, false] = 1 by decide] at TU
  replace TU := Lib.hid TU
  clear hT9 LD
  go_wp2_with fail
  go_at_call 52
  refine TU.out.mono ?_
  rintro e w11 ⟨rfl, hT11⟩
  go_wp2
  go_ret
  exact ⟨rfl, AOwn.below hT11⟩
end Go.Proofs.Ytbadinmlnbabiaa
