/- The walk through the law JoinDoes. -/
import Derived.Test.YtpijgjalabocpaaStoreOwn
import Derived.Test.YtpijgjalabocpaaJoin
import Derived.Test.YtpijgjalabocpaaArgs
set_option linter.unusedVariables false
set_option linter.unusedSimpArgs false
namespace Go.Proofs.Ytpijgjalabocpaa
open Go.RowKit
set_option maxHeartbeats 4000000
set_option maxRecDepth 100000
theorem jdoes_core (sz : Nat) (fs : List Int) (ls : List (List Int)) (fo lo : Option Addr) (fc lc : Nat) (w : World) (hsz : sz ≤ 255) (hf : Lies w fo fc fs) (hl1 : ls.length ≤ lc) (hl2 : lc ≤ maxLen) (hfl : fs.length ≤ 300) (hll : ls.length ≤ 200)
    (g2 off : Nat) (hl : ∀ i, i < ls.length → lo = some ⟨g2, off, none⟩ ∧ ∀ j, j < 2 → w.cell? ⟨g2, off + i * 2 + j, none⟩ = some (.int .i64 ((ls.getD i []).getD j 0))) :
    Calls Try.prog 13 #[.int .u8 sz, .slice fo fs.length fc, .slice lo ls.length lc] w fun e w' => e = .returned (.bool true) ∧ Below w.heap.size w w' := by
  obtain ⟨i0, hi, hz0, hz1', hz2'⟩ := info_parts' Try.infoIntS
  have hf1 := hf.1
  have hf2 := hf.2.1
  unfold maxLen at hl2 hf2
  replace hl := Lib.hid hl
  have N := Lib.hid (fun (w1 : World) (h : Below w.heap.size w w1) => own_new (Own.nil h) sz (List.replicate sz 0) (by congr 1; omega))
  go_enter Try.func13, Try.ntmps13
  go_wp2_with (go_at_call 35; refine (works18_any _).mono ?_; rintro e w1 ⟨rfl, hb1⟩)
  go_at_call 15
  refine (N.out _ hb1).mono ?_
  rintro e w2 ⟨rfl, hO0⟩
  clear hb1
  go_wp2_with (first | (refine wpList_make_int _ rfl _ _ 22 rfl 3 i0 (.int .i64 0) 8 Try.underlying22 hi hz0 hz1' hz2' rfl .i64 .i64 _ rfl rfl ?_ ?_ (by decide) ?_; all_goals (try omega)))
  have hO1 : Own w (w2.alloc (.cells (Array.replicate sz (.int .i64 0)) 3)) [storeA (w1.heap.size + 1) w1.heap.size (List.replicate sz 0), intsA w2.heap.size sz (List.replicate sz 0)] := hO0.ints_made (Array.replicate sz (.int .i64 0)) sz (by simp) (by unfold maxLen; omega)
  have hml0 : (List.replicate sz (0 : Int)).length = sz := by simp
  generalize List.replicate sz (0 : Int) = ms0 at *
  generalize w2.alloc (.cells (Array.replicate sz (.int .i64 0)) 3) = u at *
  generalize w2.heap.size = bm at *
  generalize w1.heap.size = b at *
  replace hml0 := Lib.hid hml0
  clear hO0
  go_loopw [9] (fun i wr => ∃ (k : Nat) (ms : List Int), k ≤ sz ∧ k ≤ fs.length ∧ i = .int .i64 k ∧ Hid (ms.length = sz) ∧ Own w wr [storeA (b + 1) b ms, intsA bm sz ms]) (fun i _ => (sz - intOf i).toNat)
  case atStart => exact ⟨0, ms0, by omega, by omega, rfl, hml0, hO1⟩
  case round =>
    clear hO1 hml0
    obtain ⟨k, ms, hk, hk2, rfl, hml, hO⟩ := hrel
    by_cases hlt : k < sz ∧ k < fs.length
    · obtain ⟨hlt1, hlt2⟩ := hlt
      obtain ⟨ad, rfl, hx0⟩ := hf.get hlt2
      have hx := hO.old hx0
      generalize fs.getD k 0 = X at *
      have S1 := Lib.hid (own_store hO 0 rfl (k := k) (by rw [hml.out]; exact hlt1) X _ rfl)
      have hml' := Lib.hid (show (ms.set k X).length = sz by rw [List.length_set, hml.out])
      generalize hms : ms.set k X = ms' at *
      replace hms := Lib.hid hms
      go_wp2_with (go_at_call 19; refine S1.out.mono ?_; rintro e w5 ⟨rfl, hO5⟩; have hx5 := hO5.old hx0; have y0 := hO5.ints_get 1 rfl (j := k) (by rw [hml.out]; exact hlt1); have y1 := hO5.ints_free 1 rfl (j := k) hlt1)
      go_roundw
      case rel => exact ⟨k + 1, ms', by omega, by omega, by go_num, hml', hO5.ints_set 1 rfl k X hms.out⟩
      case measure => simp [intOf]; omega
    · have hor : ¬ k < sz ∨ (k < sz ∧ ¬ k < fs.length) := by omega
      clear hlt
      rcases hor with hor | ⟨hor1, hor⟩
      all_goals
        go_wp2_with fail
        go_loopw [10] (fun i wr => ∃ (k : Nat) (ms : List Int), k ≤ ls.length ∧ i = .int .i64 k ∧ Hid (ms.length = sz) ∧ Own w wr [storeA (b + 1) b ms, intsA bm sz ms]) (fun i _ => (ls.length - intOf i).toNat)
        case atStart => exact ⟨0, ms, by omega, rfl, hml, hO⟩
        case round =>
          clear hO hml
          obtain ⟨k2, ms, hk3, rfl, hml, hO⟩ := hrel
          by_cases hlt : k2 < ls.length
          · obtain ⟨rfl, hx⟩ := hl.out k2 hlt
            have x0 := hx 0 (by omega)
            have x1 := hx 1 (by omega)
            generalize (ls.getD k2 []).getD 0 0 = kd at *
            generalize (ls.getD k2 []).getD 1 0 = at_ at *
            rw [Nat.add_zero] at x0
            have z0 := hO.old x0
            have z1 := hO.old x1
            replace x0 := Lib.hid x0
            replace x1 := Lib.hid x1
            clear hx
            have AI := fun (w5 : World) (ms' : List Int) (hml' : Hid (ms'.length = sz)) (h : Own w w5 [storeA (b + 1) b ms', intsA bm sz ms']) => own_all h 0 rfl
            have II := fun (w6 : World) (ms' : List Int) (hml' : Hid (ms'.length = sz)) (ao : Option Addr) (cap : Nat) (h : Own w w6 [storeA (b + 1) b ms', intsA bm sz ms']) (hli : Lies w6 ao cap ms') => ints_any ao (some ⟨bm, 0, none⟩) cap sz ms' ms' w6 hli (h.ints_lies 1 rfl hml'.out.symm)
            replace AI := Lib.hid AI
            replace II := Lib.hid II
            by_cases hin : 0 ≤ at_ ∧ at_ < sz
            · obtain ⟨hin1, hin2⟩ := hin
              obtain ⟨a, rfl⟩ : ∃ n : Nat, at_ = n := ⟨at_.toNat, by omega⟩
              have ha : a < sz := by omega
              by_cases hk0 : kd = 0
              · subst hk0
                have S1 := own_spawn hO 0 rfl (k := a) (by rw [hml.out]; exact ha) _ rfl _ rfl
                have hml' := Lib.hid (show (ms.set a (wrap64 (ms.getD a 0 + 1))).length = sz by rw [List.length_set, hml.out])
                have g0 := fun (w5 : World) (ms' : List Int) (h : Own w w5 [storeA (b + 1) b ms', intsA bm sz ms]) => h.ints_get 1 rfl (j := a) (by rw [hml.out]; exact ha)
                have g1 := fun (w5 : World) (ms' : List Int) (h : Own w w5 [storeA (b + 1) b ms', intsA bm sz ms]) => h.ints_free 1 rfl (j := a) ha
                have g2 := fun (w5 : World) (ms' : List Int) (h : Own w w5 [storeA (b + 1) b ms', intsA bm sz ms]) (hms : ms.set a (wrap64 (ms.getD a 0 + 1)) = ms') => h.ints_set 1 rfl a _ hms
                replace S1 := Lib.hid S1
                replace g0 := Lib.hid g0
                replace g1 := Lib.hid g1
                replace g2 := Lib.hid g2
                generalize hms : ms.set a (wrap64 (ms.getD a 0 + 1)) = ms' at *
                generalize ms.getD a 0 = X at *
                replace hms := Lib.hid hms
                go_wp2_with (go_at_call 37; refine S1.out.mono ?_; rintro e w5 ⟨rfl, hO5⟩; have y0 := g0.out _ _ hO5; have y1 := g1.out _ _ hO5)
                have hO6 := g2.out _ _ hO5 rfl
                have A := AI.out _ ms' hml' hO6
                rw [hml'.out] at A
                replace A := Lib.hid A
                go_at_call 18
                refine A.out.mono ?_
                rintro e w7 ⟨ao, cap, rfl, hO7, hli, _, _, _⟩
                go_wp2_with fail
                have I := II.out w7 ms' hml' ao cap hO7 hli
                rw [hml'.out, beq_self_eq_true] at I
                replace I := Lib.hid I
                go_at_call 23
                refine I.out.mono ?_
                rintro e w8 ⟨rfl, m8, hw8⟩
                have hO8 := hO7.drewN m8
                rw [← hw8] at hO8
                clear hw8
                go_wp2
                go_roundw
                case rel => exact ⟨k2 + 1, ms', by omega, by go_num, hml', hO8⟩
                case measure => simp [intOf]; omega
              · have e0 : (kd == 0) = false := by simp [hk0]
                by_cases hk1 : kd = 1
                · subst hk1
                  have S1 := own_leave hO 0 rfl (k := a) (by rw [hml.out]; exact ha) _ rfl _ rfl _ rfl
                  have hml' := Lib.hid (show (ms.set a (wrap64 (ms.getD a 0 - 1))).length = sz by rw [List.length_set, hml.out])
                  have g0 := fun (w5 : World) (ms' : List Int) (h : Own w w5 [storeA (b + 1) b ms', intsA bm sz ms]) => h.ints_get 1 rfl (j := a) (by rw [hml.out]; exact ha)
                  have g1 := fun (w5 : World) (ms' : List Int) (h : Own w w5 [storeA (b + 1) b ms', intsA bm sz ms]) => h.ints_free 1 rfl (j := a) ha
                  have g2 := fun (w5 : World) (ms' : List Int) (h : Own w w5 [storeA (b + 1) b ms', intsA bm sz ms]) (hms : ms.set a (wrap64 (ms.getD a 0 - 1)) = ms') => h.ints_set 1 rfl a _ hms
                  replace S1 := Lib.hid S1
                  replace g0 := Lib.hid g0
                  replace g1 := Lib.hid g1
                  replace g2 := Lib.hid g2
                  generalize hms : ms.set a (wrap64 (ms.getD a 0 - 1)) = ms' at *
                  generalize ms.getD a 0 = X at *
                  replace hms := Lib.hid hms
                  go_wp2_with (go_at_call 38; refine S1.out.mono ?_; rintro e w5 ⟨rfl, hO5⟩; have y0 := g0.out _ _ hO5; have y1 := g1.out _ _ hO5)
                  have hO6 := g2.out _ _ hO5 rfl
                  have A := AI.out _ ms' hml' hO6
                  rw [hml'.out] at A
                  replace A := Lib.hid A
                  go_at_call 18
                  refine A.out.mono ?_
                  rintro e w7 ⟨ao, cap, rfl, hO7, hli, _, _, _⟩
                  go_wp2_with fail
                  have I := II.out w7 ms' hml' ao cap hO7 hli
                  rw [hml'.out, beq_self_eq_true] at I
                  replace I := Lib.hid I
                  go_at_call 23
                  refine I.out.mono ?_
                  rintro e w8 ⟨rfl, m8, hw8⟩
                  have hO8 := hO7.drewN m8
                  rw [← hw8] at hO8
                  clear hw8
                  go_wp2
                  go_roundw
                  case rel => exact ⟨k2 + 1, ms', by omega, by go_num, hml', hO8⟩
                  case measure => simp [intOf]; omega
                · have e1 : (kd == 1) = false := by simp [hk1]
                  by_cases hk2 : kd = 2
                  · subst hk2
                    have S1 := own_again hO 0 rfl (k := a) (by rw [hml.out]; exact ha) _ rfl
                    have hml' := Lib.hid (show (ms.set a (1)).length = sz by rw [List.length_set, hml.out])
                    have g0 := fun (w5 : World) (ms' : List Int) (h : Own w w5 [storeA (b + 1) b ms', intsA bm sz ms]) => h.ints_get 1 rfl (j := a) (by rw [hml.out]; exact ha)
                    have g1 := fun (w5 : World) (ms' : List Int) (h : Own w w5 [storeA (b + 1) b ms', intsA bm sz ms]) => h.ints_free 1 rfl (j := a) ha
                    have g2 := fun (w5 : World) (ms' : List Int) (h : Own w w5 [storeA (b + 1) b ms', intsA bm sz ms]) (hms : ms.set a (1) = ms') => h.ints_set 1 rfl a _ hms
                    replace S1 := Lib.hid S1
                    replace g0 := Lib.hid g0
                    replace g1 := Lib.hid g1
                    replace g2 := Lib.hid g2
                    generalize hms : ms.set a (1) = ms' at *
                    generalize ms.getD a 0 = X at *
                    replace hms := Lib.hid hms
                    go_wp2_with (go_at_call 36; refine S1.out.mono ?_; rintro e w5 ⟨rfl, hO5⟩; have y0 := g0.out _ _ hO5; have y1 := g1.out _ _ hO5)
                    have hO6 := g2.out _ _ hO5 rfl
                    have A := AI.out _ ms' hml' hO6
                    rw [hml'.out] at A
                    replace A := Lib.hid A
                    go_at_call 18
                    refine A.out.mono ?_
                    rintro e w7 ⟨ao, cap, rfl, hO7, hli, _, _, _⟩
                    go_wp2_with fail
                    have I := II.out w7 ms' hml' ao cap hO7 hli
                    rw [hml'.out, beq_self_eq_true] at I
                    replace I := Lib.hid I
                    go_at_call 23
                    refine I.out.mono ?_
                    rintro e w8 ⟨rfl, m8, hw8⟩
                    have hO8 := hO7.drewN m8
                    rw [← hw8] at hO8
                    clear hw8
                    go_wp2
                    go_roundw
                    case rel => exact ⟨k2 + 1, ms', by omega, by go_num, hml', hO8⟩
                    case measure => simp [intOf]; omega
                  · have e2 : (kd == 2) = false := by simp [hk2]
                    clear hk0 hk1 hk2
                    go_wp2_with fail
                    have A := AI.out _ ms hml hO
                    rw [hml.out] at A
                    replace A := Lib.hid A
                    go_at_call 18
                    refine A.out.mono ?_
                    rintro e w7 ⟨ao, cap, rfl, hO7, hli, _, _, _⟩
                    go_wp2_with fail
                    have I := II.out w7 ms hml ao cap hO7 hli
                    rw [hml.out, beq_self_eq_true] at I
                    replace I := Lib.hid I
                    go_at_call 23
                    refine I.out.mono ?_
                    rintro e w8 ⟨rfl, m8, hw8⟩
                    have hO8 := hO7.drewN m8
                    rw [← hw8] at hO8
                    clear hw8
                    go_wp2
                    go_roundw
                    case rel => exact ⟨k2 + 1, ms, by omega, by go_num, hml, hO8⟩
                    case measure => simp [intOf]; omega
            · have hin' : at_ < 0 ∨ (sz : Int) ≤ at_ := by omega
              clear hin
              rcases hin' with hin | hin
              · have n1 : decide ((0 : Int) ≤ at_) = false := by simp; omega
                by_cases hk0 : kd = 0
                · subst hk0
                  have S1 := Lib.hid (spawn_out (hO.st 0 rfl) (k := at_) (by rw [hml.out]; omega))
                  go_wp2_with (go_at_call 37; refine S1.out.mono ?_; rintro e w5 ⟨rfl, rfl⟩)
                  have A := AI.out _ ms hml hO
                  rw [hml.out] at A
                  replace A := Lib.hid A
                  go_at_call 18
                  refine A.out.mono ?_
                  rintro e w7 ⟨ao, cap, rfl, hO7, hli, _, _, _⟩
                  go_wp2_with fail
                  have I := II.out w7 ms hml ao cap hO7 hli
                  rw [hml.out, beq_self_eq_true] at I
                  replace I := Lib.hid I
                  go_at_call 23
                  refine I.out.mono ?_
                  rintro e w8 ⟨rfl, m8, hw8⟩
                  have hO8 := hO7.drewN m8
                  rw [← hw8] at hO8
                  clear hw8
                  go_wp2
                  go_roundw
                  case rel => exact ⟨k2 + 1, ms, by omega, by go_num, hml, hO8⟩
                  case measure => simp [intOf]; omega
                · have e0 : (kd == 0) = false := by simp [hk0]
                  by_cases hk1 : kd = 1
                  · subst hk1
                    have S1 := Lib.hid (leave_out (hO.st 0 rfl) (k := at_) (by rw [hml.out]; omega))
                    go_wp2_with (go_at_call 38; refine S1.out.mono ?_; rintro e w5 ⟨rfl, rfl⟩)
                    have A := AI.out _ ms hml hO
                    rw [hml.out] at A
                    replace A := Lib.hid A
                    go_at_call 18
                    refine A.out.mono ?_
                    rintro e w7 ⟨ao, cap, rfl, hO7, hli, _, _, _⟩
                    go_wp2_with fail
                    have I := II.out w7 ms hml ao cap hO7 hli
                    rw [hml.out, beq_self_eq_true] at I
                    replace I := Lib.hid I
                    go_at_call 23
                    refine I.out.mono ?_
                    rintro e w8 ⟨rfl, m8, hw8⟩
                    have hO8 := hO7.drewN m8
                    rw [← hw8] at hO8
                    clear hw8
                    go_wp2
                    go_roundw
                    case rel => exact ⟨k2 + 1, ms, by omega, by go_num, hml, hO8⟩
                    case measure => simp [intOf]; omega
                  · have e1 : (kd == 1) = false := by simp [hk1]
                    by_cases hk2 : kd = 2
                    · subst hk2
                      have S1 := Lib.hid (again_out (hO.st 0 rfl) (k := at_) (by rw [hml.out]; omega))
                      go_wp2_with (go_at_call 36; refine S1.out.mono ?_; rintro e w5 ⟨rfl, rfl⟩)
                      have A := AI.out _ ms hml hO
                      rw [hml.out] at A
                      replace A := Lib.hid A
                      go_at_call 18
                      refine A.out.mono ?_
                      rintro e w7 ⟨ao, cap, rfl, hO7, hli, _, _, _⟩
                      go_wp2_with fail
                      have I := II.out w7 ms hml ao cap hO7 hli
                      rw [hml.out, beq_self_eq_true] at I
                      replace I := Lib.hid I
                      go_at_call 23
                      refine I.out.mono ?_
                      rintro e w8 ⟨rfl, m8, hw8⟩
                      have hO8 := hO7.drewN m8
                      rw [← hw8] at hO8
                      clear hw8
                      go_wp2
                      go_roundw
                      case rel => exact ⟨k2 + 1, ms, by omega, by go_num, hml, hO8⟩
                      case measure => simp [intOf]; omega
                    · have e2 : (kd == 2) = false := by simp [hk2]
                      clear hk0 hk1 hk2
                      go_wp2_with fail
                      have A := AI.out _ ms hml hO
                      rw [hml.out] at A
                      replace A := Lib.hid A
                      go_at_call 18
                      refine A.out.mono ?_
                      rintro e w7 ⟨ao, cap, rfl, hO7, hli, _, _, _⟩
                      go_wp2_with fail
                      have I := II.out w7 ms hml ao cap hO7 hli
                      rw [hml.out, beq_self_eq_true] at I
                      replace I := Lib.hid I
                      go_at_call 23
                      refine I.out.mono ?_
                      rintro e w8 ⟨rfl, m8, hw8⟩
                      have hO8 := hO7.drewN m8
                      rw [← hw8] at hO8
                      clear hw8
                      go_wp2
                      go_roundw
                      case rel => exact ⟨k2 + 1, ms, by omega, by go_num, hml, hO8⟩
                      case measure => simp [intOf]; omega
              · have n1 : decide ((0 : Int) ≤ at_) = true := by simp; omega
                have n2 : decide (at_ < (sz : Int)) = false := by simp; omega
                by_cases hk0 : kd = 0
                · subst hk0
                  have S1 := Lib.hid (spawn_out (hO.st 0 rfl) (k := at_) (by rw [hml.out]; omega))
                  go_wp2_with (go_at_call 37; refine S1.out.mono ?_; rintro e w5 ⟨rfl, rfl⟩)
                  have A := AI.out _ ms hml hO
                  rw [hml.out] at A
                  replace A := Lib.hid A
                  go_at_call 18
                  refine A.out.mono ?_
                  rintro e w7 ⟨ao, cap, rfl, hO7, hli, _, _, _⟩
                  go_wp2_with fail
                  have I := II.out w7 ms hml ao cap hO7 hli
                  rw [hml.out, beq_self_eq_true] at I
                  replace I := Lib.hid I
                  go_at_call 23
                  refine I.out.mono ?_
                  rintro e w8 ⟨rfl, m8, hw8⟩
                  have hO8 := hO7.drewN m8
                  rw [← hw8] at hO8
                  clear hw8
                  go_wp2
                  go_roundw
                  case rel => exact ⟨k2 + 1, ms, by omega, by go_num, hml, hO8⟩
                  case measure => simp [intOf]; omega
                · have e0 : (kd == 0) = false := by simp [hk0]
                  by_cases hk1 : kd = 1
                  · subst hk1
                    have S1 := Lib.hid (leave_out (hO.st 0 rfl) (k := at_) (by rw [hml.out]; omega))
                    go_wp2_with (go_at_call 38; refine S1.out.mono ?_; rintro e w5 ⟨rfl, rfl⟩)
                    have A := AI.out _ ms hml hO
                    rw [hml.out] at A
                    replace A := Lib.hid A
                    go_at_call 18
                    refine A.out.mono ?_
                    rintro e w7 ⟨ao, cap, rfl, hO7, hli, _, _, _⟩
                    go_wp2_with fail
                    have I := II.out w7 ms hml ao cap hO7 hli
                    rw [hml.out, beq_self_eq_true] at I
                    replace I := Lib.hid I
                    go_at_call 23
                    refine I.out.mono ?_
                    rintro e w8 ⟨rfl, m8, hw8⟩
                    have hO8 := hO7.drewN m8
                    rw [← hw8] at hO8
                    clear hw8
                    go_wp2
                    go_roundw
                    case rel => exact ⟨k2 + 1, ms, by omega, by go_num, hml, hO8⟩
                    case measure => simp [intOf]; omega
                  · have e1 : (kd == 1) = false := by simp [hk1]
                    by_cases hk2 : kd = 2
                    · subst hk2
                      have S1 := Lib.hid (again_out (hO.st 0 rfl) (k := at_) (by rw [hml.out]; omega))
                      go_wp2_with (go_at_call 36; refine S1.out.mono ?_; rintro e w5 ⟨rfl, rfl⟩)
                      have A := AI.out _ ms hml hO
                      rw [hml.out] at A
                      replace A := Lib.hid A
                      go_at_call 18
                      refine A.out.mono ?_
                      rintro e w7 ⟨ao, cap, rfl, hO7, hli, _, _, _⟩
                      go_wp2_with fail
                      have I := II.out w7 ms hml ao cap hO7 hli
                      rw [hml.out, beq_self_eq_true] at I
                      replace I := Lib.hid I
                      go_at_call 23
                      refine I.out.mono ?_
                      rintro e w8 ⟨rfl, m8, hw8⟩
                      have hO8 := hO7.drewN m8
                      rw [← hw8] at hO8
                      clear hw8
                      go_wp2
                      go_roundw
                      case rel => exact ⟨k2 + 1, ms, by omega, by go_num, hml, hO8⟩
                      case measure => simp [intOf]; omega
                    · have e2 : (kd == 2) = false := by simp [hk2]
                      clear hk0 hk1 hk2
                      go_wp2_with fail
                      have A := AI.out _ ms hml hO
                      rw [hml.out] at A
                      replace A := Lib.hid A
                      go_at_call 18
                      refine A.out.mono ?_
                      rintro e w7 ⟨ao, cap, rfl, hO7, hli, _, _, _⟩
                      go_wp2_with fail
                      have I := II.out w7 ms hml ao cap hO7 hli
                      rw [hml.out, beq_self_eq_true] at I
                      replace I := Lib.hid I
                      go_at_call 23
                      refine I.out.mono ?_
                      rintro e w8 ⟨rfl, m8, hw8⟩
                      have hO8 := hO7.drewN m8
                      rw [← hw8] at hO8
                      clear hw8
                      go_wp2
                      go_roundw
                      case rel => exact ⟨k2 + 1, ms, by omega, by go_num, hml, hO8⟩
                      case measure => simp [intOf]; omega
          · go_wp2_with fail
            go_ret
            exact ⟨rfl, hO.below⟩
theorem walkJoinDoes (v0 v1 v2 : Value) (w : World) (h0 : Arg Try.prog w 5 v0) (h1 : Arg Try.prog w 22 v1) (h2 : Arg Try.prog w 73 v2) :
    Calls Try.prog 13 #[v0, v1, v2] w fun e w' => e = .returned (.bool true) ∧ Below w.heap.size w w' := by
  obtain ⟨sz, rfl, hs⟩ := h0.int Try.underlying5
  simp [Lit.wf, IntKind.min, IntKind.max, IntKind.signed, IntKind.bits] at hs
  obtain ⟨sz, rfl⟩ : ∃ n : Nat, sz = n := ⟨sz.toNat, by omega⟩
  obtain ⟨fo, fc, fs, rfl, hf, _, _⟩ := h1.lies Try.underlying22 Try.underlying3 (by kernel_rfl)
  obtain ⟨lo, lc, ls, rfl, p1, p2, _, g2, off, p4⟩ := h2.structs' 2 Try.underlying73 (by kernel_rfl) Try.underlying3 (by kernel_rfl) (by kernel_rfl) (by decide)
  by_cases hl : ls.length ≤ 200 ∧ fs.length ≤ 300
  · exact jdoes_core sz fs ls fo lo fc lc w (by omega) hf p1 p2 hl.2 hl.1 g2 off p4
  · have q1 := hf.1
    have q2 := hf.2.1
    unfold maxLen at p2 q2
    clear hf p4
    by_cases hl1 : ls.length ≤ 200
    · have hl2 : 300 < fs.length := by omega
      go_enter Try.func13, Try.ntmps13
      go_wp2_with (go_at_call 35; refine (works18_any _).mono ?_; rintro e w1 ⟨rfl, hb1⟩)
      go_ret
      exact ⟨rfl, hb1⟩
    · have hl2 : 200 < ls.length := by omega
      go_enter Try.func13, Try.ntmps13
      go_wp2_with (go_at_call 35; refine (works18_any _).mono ?_; rintro e w1 ⟨rfl, hb1⟩)
      go_ret
      exact ⟨rfl, hb1⟩
end Go.Proofs.Ytpijgjalabocpaa
