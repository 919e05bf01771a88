/- The walk through the law ModelEqual. -/
import Derived.Test.YtofnjapgacgdlaaModelDoesWalk
import Derived.Test.YtofnjapgacgdlaaPair
import Derived.Test.YtofnjapgacgdlaaArgs
import Derived.Deep.Cut
import Derived.Deep.CutRange
import Derived.Deep.CutBlock
set_option linter.unusedVariables false
set_option linter.unusedSimpArgs false
namespace Go.Proofs.Ytofnjapgacgdlaa
open Go.RowKit
set_option maxRecDepth 100000
set_option maxHeartbeats 20000000
/-- Two deques, the two lists of steps, and the two deques' addresses, as they lie. -/
def Two (w0 w : World) (lb pb xb yb : Nat) (ao bo : Option Addr) (na ac nb bc : Nat) (xs ys : List Int) : Prop := ∃ bx by_, Own w0 w [cellsA xb #[bx, .int .i64 1000] 76, rowA 3 1 bx (xs).length ((xs).map (.int .i64)), cellsA yb #[by_, .int .i64 1000] 76, rowA 3 1 by_ (ys).length ((ys).map (.int .i64)), cellsA lb #[.slice ao na ac, .slice bo nb bc] 36, cellsA pb #[.pointer (some ⟨xb, 0, none⟩), .pointer (some ⟨yb, 0, none⟩)] 37]
section
variable {w0 w : World} {lb pb xb yb : Nat} {ao bo : Option Addr} {na ac nb bc : Nat} {xs ys : List Int}
theorem Two.x (h : Two w0 w lb pb xb yb ao bo na ac nb bc xs ys) {f : FuncId} {args : Array Value} {E : Ending} {xs' : List Int} (c : ∀ l, DOwn w0 w xb 1000 xs l → Calls Try.prog f args w fun e w' => e = E ∧ DOwn w0 w' xb 1000 xs' l) : Calls Try.prog f args w fun e w' => e = E ∧ Two w0 w' lb pb xb yb ao bo na ac nb bc xs' ys := by
  obtain ⟨bx, by_, hO⟩ := h
  refine (c [cellsA yb #[by_, .int .i64 1000] 76, rowA 3 1 by_ (ys).length ((ys).map (.int .i64)), cellsA lb #[.slice ao na ac, .slice bo nb bc] 36, cellsA pb #[.pointer (some ⟨xb, 0, none⟩), .pointer (some ⟨yb, 0, none⟩)] 37] ⟨bx, hO⟩).mono ?_
  rintro e w' ⟨he, bx2, h2⟩
  exact ⟨he, bx2, by_, h2⟩
theorem Two.y (h : Two w0 w lb pb xb yb ao bo na ac nb bc xs ys) {f : FuncId} {args : Array Value} {E : Ending} {ys' : List Int} (c : ∀ l, DOwn w0 w yb 1000 ys l → Calls Try.prog f args w fun e w' => e = E ∧ DOwn w0 w' yb 1000 ys' l) : Calls Try.prog f args w fun e w' => e = E ∧ Two w0 w' lb pb xb yb ao bo na ac nb bc xs ys' := by
  obtain ⟨bx, by_, hO⟩ := h
  refine (c [cellsA xb #[bx, .int .i64 1000] 76, rowA 3 1 bx (xs).length ((xs).map (.int .i64)), cellsA lb #[.slice ao na ac, .slice bo nb bc] 36, cellsA pb #[.pointer (some ⟨xb, 0, none⟩), .pointer (some ⟨yb, 0, none⟩)] 37] ⟨by_, hO.sel [2, 3, 0, 1, 4, 5] (by decide)⟩).mono ?_
  rintro e w' ⟨he, by2, h2⟩
  exact ⟨he, bx, by2, Own.sel h2 [2, 3, 0, 1, 4, 5] (by decide)⟩
theorem Two.old (h : Two w0 w lb pb xb yb ao bo na ac nb bc xs ys) {p : Addr} {v : Value} (hp : w0.cell? p = some v) : w.cell? p = some v := by
  obtain ⟨bx, by_, hO⟩ := h
  exact hO.old hp
theorem Two.cells (h : Two w0 w lb pb xb yb ao bo na ac nb bc xs ys) : w.cell? ⟨lb, 0, none⟩ = some (.slice ao na ac) ∧ w.cell? ⟨lb, 1, none⟩ = some (.slice bo nb bc) ∧ w.cell? ⟨pb, 0, none⟩ = some (.pointer (some ⟨xb, 0, none⟩)) ∧ w.cell? ⟨pb, 1, none⟩ = some (.pointer (some ⟨yb, 0, none⟩)) := by
  obtain ⟨bx, by_, hO⟩ := h
  exact ⟨(hO.cget 4 rfl 0).1, (hO.cget 4 rfl 1).1, (hO.cget 5 rfl 0).1, (hO.cget 5 rfl 1).1⟩
theorem Two.drewN (h : Two w0 w lb pb xb yb ao bo na ac nb bc xs ys) (m : Nat) : Two w0 (w.drewN m) lb pb xb yb ao bo na ac nb bc xs ys := by
  obtain ⟨bx, by_, hO⟩ := h
  exact ⟨bx, by_, hO.drewN m⟩
theorem Two.below (h : Two w0 w lb pb xb yb ao bo na ac nb bc xs ys) : Below w0.heap.size w0 w := by
  obtain ⟨bx, by_, hO⟩ := h
  exact hO.below
theorem Two.grow {w' : World} (h : Two w0 w lb pb xb yb ao bo na ac nb bc xs ys) (hb : Below w.heap.size w w') : Two w0 w' lb pb xb yb ao bo na ac nb bc xs ys := by
  obtain ⟨bx, by_, hO⟩ := h
  exact ⟨bx, by_, hO.grow hb⟩
theorem Two.ldx (h : Two w0 w lb pb xb yb ao bo na ac nb bc xs ys) : LDq w xb xs ∧ LDq w yb ys := by
  obtain ⟨bx, by_, hO⟩ := h
  exact ⟨DOwn.ldq (⟨bx, hO⟩ : DOwn w0 w xb 1000 xs [cellsA yb #[by_, .int .i64 1000] 76, rowA 3 1 by_ (ys).length ((ys).map (.int .i64)), cellsA lb #[.slice ao na ac, .slice bo nb bc] 36, cellsA pb #[.pointer (some ⟨xb, 0, none⟩), .pointer (some ⟨yb, 0, none⟩)] 37]), DOwn.ldq (⟨by_, hO.sel [2, 3, 0, 1, 4, 5] (by decide)⟩ : DOwn w0 w yb 1000 ys [cellsA xb #[bx, .int .i64 1000] 76, rowA 3 1 bx (xs).length ((xs).map (.int .i64)), cellsA lb #[.slice ao na ac, .slice bo nb bc] 36, cellsA pb #[.pointer (some ⟨xb, 0, none⟩), .pointer (some ⟨yb, 0, none⟩)] 37])⟩
end
theorem meq_core (us vs : List (List Int)) (ao bo : Option Addr) (ac bc ag aoff bg boff : Nat) (w : World) (h1 : us.length ≤ ac) (h2 : ac ≤ maxLen) (h3 : vs.length ≤ bc) (h4 : bc ≤ maxLen) (hla : us.length ≤ 100) (hlb : vs.length ≤ 100)
    (ha : ∀ i, i < us.length → ao = some ⟨ag, aoff, none⟩ ∧ ∀ j, j < 2 → w.cell? ⟨ag, aoff + i * 2 + j, none⟩ = some (.int .i64 ((us.getD i []).getD j 0)))
    (hb : ∀ i, i < vs.length → bo = some ⟨bg, boff, none⟩ ∧ ∀ j, j < 2 → w.cell? ⟨bg, boff + i * 2 + j, none⟩ = some (.int .i64 ((vs.getD i []).getD j 0))) :
    Calls Try.prog 4 #[.slice ao us.length ac, .slice bo vs.length bc] w fun e w' => e = .returned (.bool true) ∧ Below w.heap.size w w' := by
  unfold maxLen at h2 h4
  replace ha := Lib.hid ha
  replace hb := Lib.hid hb
  go_enter Try.func4, Try.ntmps4
  go_wp2_with (go_at_call 12; refine (works14_any _).mono ?_; rintro e wa ⟨rfl, hb1⟩)
  go_at_call 13
  refine (dNew_any 1000 1000 (by decide) (Own.nil hb1)).mono ?_
  rintro e w1 ⟨xb, rfl, bx, hX⟩
  clear hb1
  go_wp2_with fail
  go_at_call 13
  refine (dNew_any 1000 1000 (by decide) hX).mono ?_
  rintro e w2 ⟨yb, rfl, by_, hY⟩
  clear hX
  go_wp2_with fail
  have hT0 := Lib.hid (show Two w ((w2.alloc (.cells #[.slice ao us.length ac, .slice bo vs.length bc] 36)).alloc (.cells #[.pointer (some ⟨xb, 0, none⟩), .pointer (some ⟨yb, 0, none⟩)] 37)) w2.heap.size (w2.heap.size + 1) xb yb ao bo us.length ac vs.length bc [] [] from
    ⟨bx, by_, by
      have q := (hY.box #[.slice ao us.length ac, .slice bo vs.length bc] 36).box #[.pointer (some ⟨xb, 0, none⟩), .pointer (some ⟨yb, 0, none⟩)] 37
      rw [World.size_alloc] at q
      exact q.sel [2, 3, 0, 1, 4, 5] (by decide)⟩)
  clear hY
  generalize (w2.alloc (.cells #[.slice ao us.length ac, .slice bo vs.length bc] 36)).alloc (.cells #[.pointer (some ⟨xb, 0, none⟩), .pointer (some ⟨yb, 0, none⟩)] 37) = w3 at *
  obtain ⟨pb, hpb⟩ : ∃ pb, w2.heap.size + 1 = pb := ⟨_, rfl⟩
  rw [hpb] at hT0 ⊢
  clear hpb
  generalize w2.heap.size = lb at *
  go_loopw [9] (fun kv wr => ∃ (k : Nat) (xs ys : List Int), k ≤ 2 ∧ kv = .int .i64 k ∧ xs.length ≤ 1000 ∧ ys.length ≤ 1000 ∧ Hid (Two w wr lb pb xb yb ao bo us.length ac vs.length bc xs ys)) (fun kv _ => (2 - intOf kv).toNat)
  case atStart => exact ⟨0, [], [], by omega, rfl, by simp, by simp, hT0⟩
  case round =>
    clear hT0
    obtain ⟨k, xs, ys, hk, hkv, hx, hy, hT⟩ := hrel
    rcases (show k = 0 ∨ k = 1 ∨ k = 2 by omega) with rfl | rfl | rfl
    all_goals
      first | rw [show ((0 : Nat) : Int) = 0 from rfl] at hkv | rw [show ((1 : Nat) : Int) = 1 from rfl] at hkv | rw [show ((2 : Nat) : Int) = 2 from rfl] at hkv
      subst hkv
    · go_wp2_with fail
      have hc0 := hT.out.cells
      obtain ⟨cc0, cc1, cc2, cc3⟩ := hc0
      clear cc0 cc1 cc2 cc3
      go_loopw [10] (fun jv wr => ∃ (j : Nat) (xs ys : List Int), j ≤ us.length ∧ jv = .int .i64 j ∧ xs.length ≤ 1000 ∧ ys.length ≤ 1000 ∧ Hid (Two w wr lb pb xb yb ao bo us.length ac vs.length bc xs ys)) (fun jv _ => (us.length - intOf jv).toNat)
      case atStart => exact ⟨0, xs, ys, by omega, rfl, hx, hy, hT⟩
      case round =>
        clear hT hx hy
        obtain ⟨j, xs, ys, hj, rfl, hx, hy, hT⟩ := hrel
        obtain ⟨cc0, cc1, cc2, cc3⟩ := hT.out.cells
        by_cases hlt : j < us.length
        · obtain ⟨rfl, hcell⟩ := ha.out j hlt
          have y0 := hcell 0 (by omega)
          have y1 := hcell 1 (by omega)
          rw [Nat.add_zero] at y0
          have x0 := hT.out.old y0
          have x1 := hT.out.old y1
          clear hcell
          generalize (us.getD j []).getD 0 0 = K at *
          generalize (us.getD j []).getD 1 0 = X at *
          by_cases hK2 : K = 2
          · subst hK2
            by_cases he : xs.length = 0
            · obtain rfl : xs = [] := List.eq_nil_of_length_eq_zero he
              have P := Lib.hid (Two.x hT.out (xs' := []) fun l h => (dPop_no h).mono fun e w' ⟨he, hw⟩ => ⟨he, hw ▸ h⟩)
              go_wp2_with (go_at_call 14; refine P.out.mono ?_; rintro e w5 ⟨rfl, h5⟩)
              go_roundw
              case rel => exact ⟨j + 1, [], ys, by omega, by go_num, by first | assumption | simp, by first | assumption | simp, Lib.hid h5⟩
              case measure => simp [intOf]; omega
            · have P := Lib.hid (Two.x hT.out fun l h => dPop_as h (xs.getD (xs.length - 1) 0) (xs.take (xs.length - 1)) (snoc_of (by omega)) (by omega))
              go_wp2_with (go_at_call 14; refine P.out.mono ?_; rintro e w5 ⟨rfl, h5⟩)
              go_roundw
              case rel => exact ⟨j + 1, xs.take (xs.length - 1), ys, by omega, by go_num, by first | assumption | (simp; omega), by first | assumption | (simp; omega), Lib.hid h5⟩
              case measure => simp [intOf]; omega
          · by_cases hK3 : K = 3
            · subst hK3
              by_cases he : xs.length = 0
              · obtain rfl : xs = [] := List.eq_nil_of_length_eq_zero he
                have P := Lib.hid (Two.x hT.out (xs' := []) fun l h => (dSteal_no h).mono fun e w' ⟨he, hw⟩ => ⟨he, hw ▸ h⟩)
                go_wp2_with (go_at_call 15; refine P.out.mono ?_; rintro e w5 ⟨rfl, h5⟩)
                go_roundw
                case rel => exact ⟨j + 1, [], ys, by omega, by go_num, by first | assumption | simp, by first | assumption | simp, Lib.hid h5⟩
                case measure => simp [intOf]; omega
              · have P := Lib.hid (Two.x hT.out fun l h => dSteal_as h (xs.getD 0 0) (xs.drop 1) (cons_of (n := xs.length - 1) (by omega)) (by omega))
                go_wp2_with (go_at_call 15; refine P.out.mono ?_; rintro e w5 ⟨rfl, h5⟩)
                go_roundw
                case rel => exact ⟨j + 1, xs.drop 1, ys, by omega, by go_num, by first | assumption | (simp; omega), by first | assumption | (simp; omega), Lib.hid h5⟩
                case measure => simp [intOf]; omega
            · have KS := Lib.hid (fun (w1 : World) (xs ys : List Int) (h : Two w w1 lb pb xb yb (some ⟨ag, aoff, none⟩) bo us.length ac vs.length bc xs ys) => show (fun w' : World => w'.cell? ⟨pb, 0, none⟩ = some (.pointer (some ⟨xb, 0, none⟩)) ∧ w'.cell? ⟨lb, 0, none⟩ = some (.slice (some ⟨ag, aoff, none⟩) us.length ac) ∧ w'.cell? ⟨ag, aoff + j * 2 + 1, none⟩ = some (.int .i64 X)) w1 from ⟨h.cells.2.2.1, h.cells.1, h.old y1⟩)
              have hS0 := KS.out _ _ _ (hT.out.drewN 1)
              have hP : ∃ zs : List Int, zs.length ≤ 1000 ∧ ∃ b, Calls Try.prog 16 #[.pointer (some ⟨xb, 0, none⟩), .int .i64 X] (wr.drewN 1) fun e w' => e = .returned (.bool b) ∧ Two w w' lb pb xb yb (some ⟨ag, aoff, none⟩) bo us.length ac vs.length bc zs ys := by
                by_cases hf : xs.length < 1000
                · exact ⟨xs ++ [X], by simp; omega, true, Two.x (hT.out.drewN 1) fun l h => dPush_yes h X (by omega) (by omega)⟩
                · exact ⟨xs, by omega, false, Two.x (hT.out.drewN 1) fun l h => dPush_no h X (by omega)⟩
              obtain ⟨zs, hz, b, P⟩ := hP
              replace P := Lib.hid P
              go_upto_region 15 with fail
              refine lin_start (S := (fun w' : World => w'.cell? ⟨pb, 0, none⟩ = some (.pointer (some ⟨xb, 0, none⟩)) ∧ w'.cell? ⟨lb, 0, none⟩ = some (.slice (some ⟨ag, aoff, none⟩) us.length ac) ∧ w'.cell? ⟨ag, aoff + j * 2 + 1, none⟩ = some (.int .i64 X))) rfl 11 rfl hS0 ?_
              simp only [numbered, Nat.zero_add, Nat.reduceAdd]
              refine lin_take (v := ?_) (by kernel_rfl) (by kernel_rfl) (fun _ _ _ h => h) (Or.inl ⟨by rfl, ?_⟩) (by assumption) ?_; (rotate_left; (intro wS hSw; (try dsimp only at hSw); go_simp; (try with_reducible rfl)); rotate_left); simp only [Act.put, List.setIfInBounds_toArray, List.set_cons_zero, List.set_cons_succ]
              refine lin_take (v := ?_) (by kernel_rfl) (by kernel_rfl) (fun _ _ _ h => h) (Or.inl ⟨by rfl, ?_⟩) (by assumption) ?_; (rotate_left; (intro wS hSw; (try dsimp only at hSw); go_simp; (try with_reducible rfl)); rotate_left); simp only [Act.put, List.setIfInBounds_toArray, List.set_cons_zero, List.set_cons_succ]
              refine lin_take (v := ?_) (by kernel_rfl) (by kernel_rfl) (fun _ _ _ h => h) (Or.inl ⟨by rfl, ?_⟩) (by assumption) ?_; (rotate_left; (intro wS hSw; (try dsimp only at hSw); go_simp; (try with_reducible rfl)); rotate_left); simp only [Act.put, List.setIfInBounds_toArray, List.set_cons_zero, List.set_cons_succ]
              refine lin_take (v := ?_) (by kernel_rfl) (by kernel_rfl) (fun _ _ _ h => h) (Or.inl ⟨by rfl, ?_⟩) (by assumption) ?_; (rotate_left; (intro wS hSw; (try dsimp only at hSw); go_simp; (try with_reducible rfl)); rotate_left); simp only [Act.put, List.setIfInBounds_toArray, List.set_cons_zero, List.set_cons_succ]
              refine lin_take (v := ?_) (by kernel_rfl) (by kernel_rfl) (fun _ _ _ h => h) (Or.inl ⟨by rfl, ?_⟩) (by assumption) ?_; (rotate_left; (intro wS hSw; (try dsimp only at hSw); go_simp; (try with_reducible rfl)); rotate_left); simp only [Act.put, List.setIfInBounds_toArray, List.set_cons_zero, List.set_cons_succ]
              refine lin_take (v := ?_) (by kernel_rfl) (by kernel_rfl) (fun _ _ _ h => h) (Or.inl ⟨by rfl, ?_⟩) (by assumption) ?_; (rotate_left; (intro wS hSw; (try dsimp only at hSw); go_simp; (try with_reducible rfl)); rotate_left); simp only [Act.put, List.setIfInBounds_toArray, List.set_cons_zero, List.set_cons_succ]
              refine lin_take (v := ?_) (by kernel_rfl) (by kernel_rfl) (fun _ _ _ h => h) (Or.inl ⟨by rfl, ?_⟩) (by assumption) ?_; (rotate_left; (intro wS hSw; (try dsimp only at hSw); go_simp; (try with_reducible rfl)); rotate_left); simp only [Act.put, List.setIfInBounds_toArray, List.set_cons_zero, List.set_cons_succ]
              refine lin_take (v := ?_) (by kernel_rfl) (by kernel_rfl) (fun _ _ _ h => h) (Or.inl ⟨by rfl, ?_⟩) (by assumption) ?_; (rotate_left; (intro wS hSw; (try dsimp only at hSw); go_simp; (try with_reducible rfl)); rotate_left); simp only [Act.put, List.setIfInBounds_toArray, List.set_cons_zero, List.set_cons_succ]
              refine lin_take (v := ?_) (by kernel_rfl) (by kernel_rfl) (fun _ _ _ h => h) (Or.inl ⟨by rfl, ?_⟩) (by assumption) ?_; (rotate_left; (intro wS hSw; (try dsimp only at hSw); go_simp; (try with_reducible rfl)); rotate_left); simp only [Act.put, List.setIfInBounds_toArray, List.set_cons_zero, List.set_cons_succ]
              refine lin_take (v := ?_) (by kernel_rfl) (by kernel_rfl) (fun _ _ _ h => h) (Or.inl ⟨by rfl, ?_⟩) (by assumption) ?_; (rotate_left; (intro wS hSw; (try dsimp only at hSw); go_simp; (try with_reducible rfl)); rotate_left); simp only [Act.put, List.setIfInBounds_toArray, List.set_cons_zero, List.set_cons_succ]
              refine lin_sole (by kernel_rfl) (fun K hK => ?_)
              go_simp
              refine P.out.mono ?_
              rintro e w5 ⟨rfl, h5⟩
              refine hK.out _ _ ?_ (fun hHeld => ?_)
              · exact KS.out _ _ _ h5
              try simp only [Act.put, List.setIfInBounds_toArray, List.set_cons_zero, List.set_cons_succ]
              refine lin_done (by kernel_rfl) ?_
              go_wp2_with fail
              go_roundw
              case rel => exact ⟨j + 1, zs, ys, by omega, by go_num, by assumption, by assumption, Lib.hid h5⟩
              case measure => simp [intOf]; omega
        · go_wp2_with fail
          go_roundw
          case rel => exact ⟨1, xs, ys, by omega, by go_num, hx, hy, hT⟩
          case measure => simp [intOf]
    · go_wp2_with fail
      have hc0 := hT.out.cells
      obtain ⟨cc0, cc1, cc2, cc3⟩ := hc0
      clear cc0 cc1 cc2 cc3
      go_loopw [10] (fun jv wr => ∃ (j : Nat) (xs ys : List Int), j ≤ vs.length ∧ jv = .int .i64 j ∧ xs.length ≤ 1000 ∧ ys.length ≤ 1000 ∧ Hid (Two w wr lb pb xb yb ao bo us.length ac vs.length bc xs ys)) (fun jv _ => (vs.length - intOf jv).toNat)
      case atStart => exact ⟨0, xs, ys, by omega, rfl, hx, hy, hT⟩
      case round =>
        clear hT hx hy
        obtain ⟨j, xs, ys, hj, rfl, hx, hy, hT⟩ := hrel
        obtain ⟨cc0, cc1, cc2, cc3⟩ := hT.out.cells
        by_cases hlt : j < vs.length
        · obtain ⟨rfl, hcell⟩ := hb.out j hlt
          have y0 := hcell 0 (by omega)
          have y1 := hcell 1 (by omega)
          rw [Nat.add_zero] at y0
          have x0 := hT.out.old y0
          have x1 := hT.out.old y1
          clear hcell
          generalize (vs.getD j []).getD 0 0 = K at *
          generalize (vs.getD j []).getD 1 0 = X at *
          by_cases hK2 : K = 2
          · subst hK2
            by_cases he : ys.length = 0
            · obtain rfl : ys = [] := List.eq_nil_of_length_eq_zero he
              have P := Lib.hid (Two.y hT.out (ys' := []) fun l h => (dPop_no h).mono fun e w' ⟨he, hw⟩ => ⟨he, hw ▸ h⟩)
              go_wp2_with (go_at_call 14; refine P.out.mono ?_; rintro e w5 ⟨rfl, h5⟩)
              go_roundw
              case rel => exact ⟨j + 1, xs, [], by omega, by go_num, by first | assumption | simp, by first | assumption | simp, Lib.hid h5⟩
              case measure => simp [intOf]; omega
            · have P := Lib.hid (Two.y hT.out fun l h => dPop_as h (ys.getD (ys.length - 1) 0) (ys.take (ys.length - 1)) (snoc_of (by omega)) (by omega))
              go_wp2_with (go_at_call 14; refine P.out.mono ?_; rintro e w5 ⟨rfl, h5⟩)
              go_roundw
              case rel => exact ⟨j + 1, xs, ys.take (ys.length - 1), by omega, by go_num, by first | assumption | (simp; omega), by first | assumption | (simp; omega), Lib.hid h5⟩
              case measure => simp [intOf]; omega
          · by_cases hK3 : K = 3
            · subst hK3
              by_cases he : ys.length = 0
              · obtain rfl : ys = [] := List.eq_nil_of_length_eq_zero he
                have P := Lib.hid (Two.y hT.out (ys' := []) fun l h => (dSteal_no h).mono fun e w' ⟨he, hw⟩ => ⟨he, hw ▸ h⟩)
                go_wp2_with (go_at_call 15; refine P.out.mono ?_; rintro e w5 ⟨rfl, h5⟩)
                go_roundw
                case rel => exact ⟨j + 1, xs, [], by omega, by go_num, by first | assumption | simp, by first | assumption | simp, Lib.hid h5⟩
                case measure => simp [intOf]; omega
              · have P := Lib.hid (Two.y hT.out fun l h => dSteal_as h (ys.getD 0 0) (ys.drop 1) (cons_of (n := ys.length - 1) (by omega)) (by omega))
                go_wp2_with (go_at_call 15; refine P.out.mono ?_; rintro e w5 ⟨rfl, h5⟩)
                go_roundw
                case rel => exact ⟨j + 1, xs, ys.drop 1, by omega, by go_num, by first | assumption | (simp; omega), by first | assumption | (simp; omega), Lib.hid h5⟩
                case measure => simp [intOf]; omega
            · have KS := Lib.hid (fun (w1 : World) (xs ys : List Int) (h : Two w w1 lb pb xb yb ao (some ⟨bg, boff, none⟩) us.length ac vs.length bc xs ys) => show (fun w' : World => w'.cell? ⟨pb, 1, none⟩ = some (.pointer (some ⟨yb, 0, none⟩)) ∧ w'.cell? ⟨lb, 1, none⟩ = some (.slice (some ⟨bg, boff, none⟩) vs.length bc) ∧ w'.cell? ⟨bg, boff + j * 2 + 1, none⟩ = some (.int .i64 X)) w1 from ⟨h.cells.2.2.2, h.cells.2.1, h.old y1⟩)
              have hS0 := KS.out _ _ _ (hT.out.drewN 1)
              have hP : ∃ zs : List Int, zs.length ≤ 1000 ∧ ∃ b, Calls Try.prog 16 #[.pointer (some ⟨yb, 0, none⟩), .int .i64 X] (wr.drewN 1) fun e w' => e = .returned (.bool b) ∧ Two w w' lb pb xb yb ao (some ⟨bg, boff, none⟩) us.length ac vs.length bc xs zs := by
                by_cases hf : ys.length < 1000
                · exact ⟨ys ++ [X], by simp; omega, true, Two.y (hT.out.drewN 1) fun l h => dPush_yes h X (by omega) (by omega)⟩
                · exact ⟨ys, by omega, false, Two.y (hT.out.drewN 1) fun l h => dPush_no h X (by omega)⟩
              obtain ⟨zs, hz, b, P⟩ := hP
              replace P := Lib.hid P
              go_upto_region 15 with fail
              refine lin_start (S := (fun w' : World => w'.cell? ⟨pb, 1, none⟩ = some (.pointer (some ⟨yb, 0, none⟩)) ∧ w'.cell? ⟨lb, 1, none⟩ = some (.slice (some ⟨bg, boff, none⟩) vs.length bc) ∧ w'.cell? ⟨bg, boff + j * 2 + 1, none⟩ = some (.int .i64 X))) rfl 11 rfl hS0 ?_
              simp only [numbered, Nat.zero_add, Nat.reduceAdd]
              refine lin_take (v := ?_) (by kernel_rfl) (by kernel_rfl) (fun _ _ _ h => h) (Or.inl ⟨by rfl, ?_⟩) (by assumption) ?_; (rotate_left; (intro wS hSw; (try dsimp only at hSw); go_simp; (try with_reducible rfl)); rotate_left); simp only [Act.put, List.setIfInBounds_toArray, List.set_cons_zero, List.set_cons_succ]
              refine lin_take (v := ?_) (by kernel_rfl) (by kernel_rfl) (fun _ _ _ h => h) (Or.inl ⟨by rfl, ?_⟩) (by assumption) ?_; (rotate_left; (intro wS hSw; (try dsimp only at hSw); go_simp; (try with_reducible rfl)); rotate_left); simp only [Act.put, List.setIfInBounds_toArray, List.set_cons_zero, List.set_cons_succ]
              refine lin_take (v := ?_) (by kernel_rfl) (by kernel_rfl) (fun _ _ _ h => h) (Or.inl ⟨by rfl, ?_⟩) (by assumption) ?_; (rotate_left; (intro wS hSw; (try dsimp only at hSw); go_simp; (try with_reducible rfl)); rotate_left); simp only [Act.put, List.setIfInBounds_toArray, List.set_cons_zero, List.set_cons_succ]
              refine lin_take (v := ?_) (by kernel_rfl) (by kernel_rfl) (fun _ _ _ h => h) (Or.inl ⟨by rfl, ?_⟩) (by assumption) ?_; (rotate_left; (intro wS hSw; (try dsimp only at hSw); go_simp; (try with_reducible rfl)); rotate_left); simp only [Act.put, List.setIfInBounds_toArray, List.set_cons_zero, List.set_cons_succ]
              refine lin_take (v := ?_) (by kernel_rfl) (by kernel_rfl) (fun _ _ _ h => h) (Or.inl ⟨by rfl, ?_⟩) (by assumption) ?_; (rotate_left; (intro wS hSw; (try dsimp only at hSw); go_simp; (try with_reducible rfl)); rotate_left); simp only [Act.put, List.setIfInBounds_toArray, List.set_cons_zero, List.set_cons_succ]
              refine lin_take (v := ?_) (by kernel_rfl) (by kernel_rfl) (fun _ _ _ h => h) (Or.inl ⟨by rfl, ?_⟩) (by assumption) ?_; (rotate_left; (intro wS hSw; (try dsimp only at hSw); go_simp; (try with_reducible rfl)); rotate_left); simp only [Act.put, List.setIfInBounds_toArray, List.set_cons_zero, List.set_cons_succ]
              refine lin_take (v := ?_) (by kernel_rfl) (by kernel_rfl) (fun _ _ _ h => h) (Or.inl ⟨by rfl, ?_⟩) (by assumption) ?_; (rotate_left; (intro wS hSw; (try dsimp only at hSw); go_simp; (try with_reducible rfl)); rotate_left); simp only [Act.put, List.setIfInBounds_toArray, List.set_cons_zero, List.set_cons_succ]
              refine lin_take (v := ?_) (by kernel_rfl) (by kernel_rfl) (fun _ _ _ h => h) (Or.inl ⟨by rfl, ?_⟩) (by assumption) ?_; (rotate_left; (intro wS hSw; (try dsimp only at hSw); go_simp; (try with_reducible rfl)); rotate_left); simp only [Act.put, List.setIfInBounds_toArray, List.set_cons_zero, List.set_cons_succ]
              refine lin_take (v := ?_) (by kernel_rfl) (by kernel_rfl) (fun _ _ _ h => h) (Or.inl ⟨by rfl, ?_⟩) (by assumption) ?_; (rotate_left; (intro wS hSw; (try dsimp only at hSw); go_simp; (try with_reducible rfl)); rotate_left); simp only [Act.put, List.setIfInBounds_toArray, List.set_cons_zero, List.set_cons_succ]
              refine lin_take (v := ?_) (by kernel_rfl) (by kernel_rfl) (fun _ _ _ h => h) (Or.inl ⟨by rfl, ?_⟩) (by assumption) ?_; (rotate_left; (intro wS hSw; (try dsimp only at hSw); go_simp; (try with_reducible rfl)); rotate_left); simp only [Act.put, List.setIfInBounds_toArray, List.set_cons_zero, List.set_cons_succ]
              refine lin_sole (by kernel_rfl) (fun K hK => ?_)
              go_simp
              refine P.out.mono ?_
              rintro e w5 ⟨rfl, h5⟩
              refine hK.out _ _ ?_ (fun hHeld => ?_)
              · exact KS.out _ _ _ h5
              try simp only [Act.put, List.setIfInBounds_toArray, List.set_cons_zero, List.set_cons_succ]
              refine lin_done (by kernel_rfl) ?_
              go_wp2_with fail
              go_roundw
              case rel => exact ⟨j + 1, xs, zs, by omega, by go_num, by assumption, by assumption, Lib.hid h5⟩
              case measure => simp [intOf]; omega
        · go_wp2_with fail
          go_roundw
          case rel => exact ⟨2, xs, ys, by omega, by go_num, hx, hy, hT⟩
          case measure => simp [intOf]
    · have hck := hT.out.ldx
      have hBl := hT.out.below
      have E1 := eq_any hck.1 hck.2
      obtain ⟨B, hB⟩ : ∃ B, (xs == ys) = B := ⟨_, rfl⟩
      have hB2 : (ys == xs) = B := by rw [← hB]; exact BEq.comm
      rw [hB] at E1
      replace E1 := Lib.hid E1
      go_wp2_with fail
      go_at_call 20
      refine E1.out.mono ?_
      rintro e w4 ⟨rfl, m1, rfl⟩
      obtain ⟨bx, by_, hO⟩ := hT.out.drewN m1
      clear hT hck E1
      generalize wr.drewN m1 = w4 at *
      have A1 := Lib.hid (all_own (⟨bx, hO⟩ : DOwn w w4 xb 1000 xs [cellsA yb #[by_, .int .i64 1000] 76, rowA 3 1 by_ (ys).length ((ys).map (.int .i64)), cellsA lb #[.slice ao us.length ac, .slice bo vs.length bc] 36, cellsA pb #[.pointer (some ⟨xb, 0, none⟩), .pointer (some ⟨yb, 0, none⟩)] 37]) hx)
      go_wp2_with fail
      go_at_call 19
      refine A1.out.mono ?_
      rintro e w5 ⟨so, sc, rfl, bx2, h5⟩
      clear A1 hO
      have A2 := Lib.hid (all_own (⟨by_, h5.sel [2, 3, 0, 1, 6] (by decide)⟩ : DOwn w w5 yb 1000 ys [cellsA xb #[bx2, .int .i64 1000] 76, rowA 3 1 bx2 (xs).length ((xs).map (.int .i64)), rowA 3 1 (.slice so xs.length sc) xs.length (xs.map (.int .i64))]) hy)
      go_wp2_with fail
      go_at_call 19
      refine A2.out.mono ?_
      rintro e w6 ⟨so2, tc, rfl, h6⟩
      clear A2 h5
      have I := ints_any so so2 sc tc xs ys w6 (Lies.of_row (h6.row 2 rfl) rfl) (Lies.of_row (h6.row 3 rfl) rfl)
      rw [hB] at I
      replace I := Lib.hid I
      go_wp2_with fail
      go_at_call 18
      refine I.out.mono ?_
      rintro e w7 ⟨rfl, m2, rfl⟩
      have h7 := h6.drewN m2
      clear I h6
      generalize w6.drewN m2 = w7 at *
      obtain ⟨by2, h7⟩ := h7
      have ly : LDq w7 yb ys := DOwn.ldq (⟨by2, h7⟩ : DOwn w w7 yb 1000 ys _)
      have lx : LDq w7 xb xs := DOwn.ldq (⟨bx2, h7.sel [2, 3] (by decide)⟩ : DOwn w w7 xb 1000 xs [])
      have E2 := eq_any ly lx
      rw [hB2] at E2
      replace E2 := Lib.hid E2
      go_wp2_with fail
      go_at_call 20
      refine E2.out.mono ?_
      rintro e w8 ⟨rfl, m3, rfl⟩
      have h8 := h7.drewN m3
      clear E2 h7 ly lx
      generalize w7.drewN m3 = w8 at *
      have ly : LDq w8 yb ys := DOwn.ldq (⟨by2, h8⟩ : DOwn w w8 yb 1000 ys _)
      have lx : LDq w8 xb xs := DOwn.ldq (⟨bx2, h8.sel [2, 3] (by decide)⟩ : DOwn w w8 xb 1000 xs [])
      have E3 := eq_any lx ly
      rw [hB] at E3
      replace E3 := Lib.hid E3
      go_wp2_with fail
      go_at_call 20
      refine E3.out.mono ?_
      rintro e w9 ⟨rfl, m4, rfl⟩
      have h9 := h8.drewN m4
      clear E3 h8 ly lx
      generalize w8.drewN m4 = w9 at *
      have dx : DOwn w w9 xb 1000 xs [] := ⟨bx2, h9.sel [2, 3] (by decide)⟩
      have E4 := eq_none dx.ldq
      have L4 := dLen dx
      obtain ⟨C, hC⟩ : ∃ C, (xs.length == 0) = C := ⟨_, rfl⟩
      have hC2 : ((xs.length : Int) == 0) = C := by
        rw [← hC]
        cases xs <;> simp
        omega
      rw [hC] at E4
      replace E4 := Lib.hid E4
      replace L4 := Lib.hid L4
      have hF := h9.below
      clear h9 dx
      go_wp2_with (first | (go_at_call 20; refine E4.out.mono ?_; rintro e w10 ⟨rfl, rfl⟩) | (go_at_call 17; refine L4.out.mono ?_; rintro e w11 ⟨rfl, rfl⟩))
      go_ret
      exact ⟨by simp, hF⟩
theorem walkModelEqual (v0 v1 : Value) (w : World) (h0 : Arg Try.prog w 22 v0) (h1 : Arg Try.prog w 22 v1) :
    Calls Try.prog 4 #[v0, v1] w fun e w' => e = .returned (.bool true) ∧ Below w.heap.size w w' := by
  obtain ⟨ao, ac, us, rfl, p1, p2, _, ag, aoff, p4⟩ := h0.structs' 2 Try.underlying22 (by kernel_rfl) Try.underlying3 (by kernel_rfl) (by kernel_rfl) (by omega)
  obtain ⟨bo, bc, vs, rfl, q1, q2, _, bg, boff, q4⟩ := h1.structs' 2 Try.underlying22 (by kernel_rfl) Try.underlying3 (by kernel_rfl) (by kernel_rfl) (by omega)
  by_cases hl : us.length ≤ 100 ∧ vs.length ≤ 100
  · exact meq_core us vs ao bo ac bc ag aoff bg boff w p1 p2 q1 q2 hl.1 hl.2 p4 q4
  · unfold maxLen at p2 q2
    clear p4 q4
    by_cases hl1 : us.length ≤ 100
    · have hl2 : 100 < vs.length := by omega
      go_enter Try.func4, Try.ntmps4
      go_wp2_with (go_at_call 12; refine (works14_any _).mono ?_; rintro e w1 ⟨rfl, hb1⟩)
      go_ret
      exact ⟨rfl, hb1⟩
    · have hl2 : 100 < us.length := by omega
      go_enter Try.func4, Try.ntmps4
      go_wp2_with (go_at_call 12; refine (works14_any _).mono ?_; rintro e w1 ⟨rfl, hb1⟩)
      go_ret
      exact ⟨rfl, hb1⟩
end Go.Proofs.Ytofnjapgacgdlaa
