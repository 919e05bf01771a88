/- Package build: forebaylaw07.works. -/
import Derived.Test.YtboiogjklecpaaaBldStep
import Derived.Test.YtboiogjklecpaaaPgmSame
set_option linter.unusedVariables false
set_option linter.unusedSimpArgs false
namespace Go.Proofs.Ytboiogjklecpaaa
open Go.RowKit
set_option maxRecDepth 100000
set_option maxHeartbeats 4000000
theorem BOwn.box {w0 w : World} {bb : Nat} {mem : Int} {B : List BF} {l : List Ast} (h : BOwn w0 w bb mem B l) (cs : Array Value) (t : TypeId) : BOwn w0 (w.alloc (.cells cs t)) bb mem B (cellsA w.heap.size cs t :: l) := by
  obtain ⟨lv, Ms, hM, hO⟩ := h
  refine ⟨lv, Ms, hM, ?_⟩
  have h1 : Own w0 _ (bldC bb mem lv :: bldR lv Ms :: (fnAll Ms ++ l ++ [cellsA w.heap.size cs t])) := hO.box cs t
  refine h1.pm (.cons _ (.cons _ ?_))
  rw [List.append_assoc]
  exact List.Perm.append_left _ List.perm_append_comm
theorem BOwn.cell {w0 w : World} {bb : Nat} {mem : Int} {B : List BF} {l : List Ast} (h : BOwn w0 w bb mem B l) {b : Nat} {cs : Array Value} {t : TypeId} (hm : cellsA b cs t ∈ l) (j : Nat) : w.cell? ⟨b, j, none⟩ = cs[j]? := by
  obtain ⟨lv, Ms, hM, hO⟩ := h
  have : (cellsA b cs t).hold w := hO.all _ (List.mem_cons_of_mem _ (List.mem_cons_of_mem _ (List.mem_append_right _ hm)))
  exact cell_at this j
theorem BOwn.below {w0 w : World} {bb : Nat} {mem : Int} {B : List BF} {l : List Ast} (h : BOwn w0 w bb mem B l) : Below w0.heap.size w0 w := by
  obtain ⟨lv, Ms, hM, hO⟩ := h
  exact hO.below
theorem liesF_lit (w : World) (l : List I4) (n : Nat) (hn : l.length = n) (hm : n ≤ 1000) : LiesF ((w.alloc (.cells (insL l).toArray 30)).alloc (.cells #[.slice (some ⟨w.heap.size, 0, none⟩) n n] 52)) (some ⟨w.heap.size + 1, 0, none⟩) 1 [l] := by
  subst hn
  have h1 := (Own.nil (Below.refl _ w)).row_made 30 4 (insL l).toArray l.length (by unfold maxLen; omega) (by simp [insL_len])
  have h2 := h1.lit1 52 (.slice (some ⟨w.heap.size, 0, none⟩) l.length l.length)
  rw [World.size_alloc] at h2
  have hr : Row _ 52 1 (.slice (some ⟨w.heap.size + 1, 0, none⟩) 1 1) 1 ([((some ⟨w.heap.size, 0, none⟩, l.length), l)].map hdr) := h2.row 1 rfl
  refine liesF_of hr ?_ rfl
  intro p hp
  simp at hp
  subst hp
  exact h2.row 0 rfl
theorem insL_lit2 (x y : I4) : (insL [x, y]).toArray = #[.int .i64 x.1, .int .i64 x.2.1, .int .i64 x.2.2.1, .int .i64 x.2.2.2, .int .i64 y.1, .int .i64 y.2.1, .int .i64 y.2.2.1, .int .i64 y.2.2.2] := rfl
/-- One instruction is added. -/
theorem badd1 {w0 w : World} {bb : Nat} {mem : Int} {B : List BF} {f : BF} {l : List Ast} (x : I4) (hn : B.length ≤ 1000) (h : BOwn w0 w bb mem (B ++ [f]) l) (hl : f.code.length ≤ 1000) :
    Calls Try.prog 42 #[.pointer (some ⟨bb, 0, none⟩), .slice (some ⟨w.heap.size, 0, none⟩) 1 1] (w.alloc (.cells #[.int .i64 x.1, .int .i64 x.2.1, .int .i64 x.2.2.1, .int .i64 x.2.2.2] 30)) fun e w' => e = .returned (.int .i64 ((f.code.length : Int) + 1)) ∧ BOwn w0 w' bb mem (B ++ [{ f with code := f.code ++ [x] }]) l := by
  have P := badd hn (h.grow (w' := w.alloc (.cells #[.int .i64 x.1, .int .i64 x.2.1, .int .i64 x.2.2.1, .int .i64 x.2.2.2] 30)) (by go_grown)) [x] _ 1 (liesI_lit w x) (by simp; omega)
  exact P.mono fun e w' ⟨he, hw⟩ => ⟨by rw [he]; rfl, hw⟩
def nmA : ByteArray := ⟨#[97]⟩
theorem nmA_size : (⟨#[97]⟩ : ByteArray).size ≤ maxLen := by decide
def wB : List BF := [⟨[(18, 0, 0, 0), (0, 0, 0, 0)], [(nmA, 1)], [(0, nmA)]⟩]
theorem wB_end : endB 1 wB = (1, [[(18, 1, 0, 0), (0, 0, 0, 0)]], 0) := by rfl
theorem wB_ok : ∀ f ∈ wB, FnOk f := by
  intro f hf
  simp [wB] at hf
  subst hf
  exact ⟨by simp, by simp, by simp, by simp only [List.mem_singleton]; rintro p rfl; exact nmA_size⟩
theorem works07_any (w : World) : Calls Try.prog 38 #[] w fun e w' => e = .returned (.bool true) ∧ Below w.heap.size w w' := by
  have P1 := Lib.hid (bnew 1 (Own.nil (Below.refl w.heap.size w)))
  go_enter Try.func38, Try.ntmps38
  go_upto_region 2 with (go_at_call 39; refine P1.out.mono ?_; rintro e w1 ⟨bb, rfl, hB1⟩; replace hB1 := Lib.hid hB1)
  have P2 := Lib.hid (bfunc (by simp) hB1.out)
  go_upto_region 3 with (go_at_call 40; refine P2.out.mono ?_; rintro e w2 ⟨rfl, hB2⟩; replace hB2 := Lib.hid hB2)
  have P3 := Lib.hid (bgoto_some (B := []) (by simp) hB2.out nmA (by simp [BF.none_]) (by simp [BF.none_]))
  unfold nmA at P3
  go_upto_region 4 with (go_at_call 43; refine P3.out.mono ?_; rintro e w3 ⟨rfl, hB3⟩; replace hB3 := Lib.hid hB3)
  have P4 := Lib.hid (blabel_new (B := []) (by simp) hB3.out ⟨#[97]⟩ nmA_size rfl (by simp [BF.none_]))
  go_upto_region 5 with (go_at_call 41; refine P4.out.mono ?_; rintro e w4 ⟨rfl, hB4⟩; replace hB4 := Lib.hid hB4)
  have P5 := Lib.hid (badd1 (B := []) (0, 0, 0, 0) (by simp) hB4.out (by simp [BF.none_]))
  go_upto_region 6 with (go_at_call 42; refine P5.out.mono ?_; rintro e w5 ⟨rfl, hB5⟩; replace hB5 := Lib.hid hB5)
  have hb5 : BOwn w w5 bb 1 wB [] := hB5.out
  have P6 := bend (by simp [wB]) wB_ok hb5
  rw [wB_end] at P6
  replace P6 := Lib.hid P6
  have hbe := hb5.below
  clear P1 P2 P3 P4 P5 hB1 hB2 hB3 hB4 hB5 hb5
  go_upto_region 7 with (go_at_call 44; refine P6.out.mono ?_; rintro e w6 ⟨ao, c, rfl, hL, hb6⟩)
  have hL1 := Lib.hid (hL.below (w' := w6.alloc (.cells #[.int .i64 1, .slice ao 1 c] 42)) (by go_grown))
  have hb7 := Lib.hid (show Below w.heap.size w (w6.alloc (.cells #[.int .i64 1, .slice ao 1 c] 42)) from below_chain hbe (below_chain hb6 (by go_grown)))
  clear hL hbe hb6 P6
  have c0 : (w6.alloc (.cells #[.int .i64 1, .slice ao 1 c] 42)).cell? ⟨w6.heap.size, 0, none⟩ = some (.int .i64 1) := cell_at (alloc_new _ _) 0
  have c1 : (w6.alloc (.cells #[.int .i64 1, .slice ao 1 c] 42)).cell? ⟨w6.heap.size, 1, none⟩ = some (.slice ao 1 c) := cell_at (alloc_new _ _) 1
  obtain ⟨pb, hpb⟩ : ∃ pb, w6.heap.size = pb := ⟨_, rfl⟩
  rw [hpb] at c0 c1 ⊢
  generalize w6.alloc (.cells #[.int .i64 1, .slice ao 1 c] 42) = u at *
  clear hpb
  have hlt := liesF_lit u [(18, 1, 0, 0), (0, 0, 0, 0)] 2 rfl (by omega)
  rw [insL_lit2] at hlt
  have P7 := Lib.hid (same_any 1 1 [[(18, 1, 0, 0), (0, 0, 0, 0)]] [[(18, 1, 0, 0), (0, 0, 0, 0)]] _ _ _ _ _ (hL1.out.below (by go_grown)) hlt)
  rw [show sameP 1 [[(18, 1, 0, 0), (0, 0, 0, 0)]] 1 [[(18, 1, 0, 0), (0, 0, 0, 0)]] = true by decide] at P7
  clear hlt
  go_wp2_with (go_at_call 34; refine P7.out.mono ?_; rintro e w8 ⟨rfl, hb8⟩; replace hb8 := Lib.hid hb8)
  go_ret
  exact ⟨rfl, below_chain hb7.out (below_chain (by go_grown) hb8.out)⟩
end Go.Proofs.Ytboiogjklecpaaa
