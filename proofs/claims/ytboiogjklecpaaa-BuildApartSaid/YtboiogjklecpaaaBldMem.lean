/- Package build: a function that is put together, in memory: its code, its labels (a map), its jumps. -/
import Derived.Test.YtboiogjklecpaaaBldSpec
import Derived.Test.YtboiogjklecpaaaPgmRows
import Derived.Maps.OwnSet
import Derived.Maps.Views
set_option linter.unusedVariables false
set_option linter.unusedSimpArgs false
namespace Go.Proofs.Ytboiogjklecpaaa
open Go.RowKit
theorem Own.pm {w0 w : World} {l l' : List Ast} (h : Own w0 w l) (hp : l.Perm l') : Own w0 w l' :=
  ⟨h.below, fun A hA => h.all A (hp.mem_iff.2 hA), fun A hA => h.own A (hp.mem_iff.2 hA), hp.pairwise h.sep (fun hab k hk hk' => hab k hk' hk)⟩
def keyL (s : ByteArray) : Lit := .string s.data.toList
theorem keyL_is (s : ByteArray) : WideAt.IsKeyLit (keyL s) := show WideAt.IsKeyLit (.string s.data.toList) from trivial
theorem keyL_inj {a b : ByteArray} (h : keyL a = keyL b) : a = b := by
  unfold keyL at h
  simp only [Lit.string.injEq] at h
  obtain ⟨⟨la⟩⟩ := a
  obtain ⟨⟨lb⟩⟩ := b
  simp at h
  subst h
  rfl
/-- A map's reading is these labels. -/
def LabD (D : DataW Unit) (ls : List (ByteArray × Nat)) : Prop :=
  Maps.IsMap D ∧ ∀ n, Maps.has D (keyL n) = (lookB ls n).isSome ∧ ∀ v, lookB ls n = some v → D.atKey (keyL n) (.lit (.int .i64 0)) = .lit (.int .i64 (v : Int))
theorem LabD.none_ : LabD (.map []) [] := ⟨Maps.isMap_empty, fun n => ⟨rfl, fun v h => by cases h⟩⟩
theorem LabD.put {D : DataW Unit} {ls : List (ByteArray × Nat)} (h : LabD D ls) {k : ByteArray} (hk : lookB ls k = none) (v : Nat) : LabD (D.put (keyL k) (.lit (.int .i64 (v : Int)))) (ls ++ [(k, v)]) := by
  refine ⟨h.1.put _ _, fun n => ?_⟩
  rw [look_snoc]
  by_cases e : k = n
  · subst e
    rw [hk]
    dsimp only
    rw [if_pos rfl]
    refine ⟨by rw [Maps.has_put_same h.1 (keyL_is _)]; rfl, fun v' hv => ?_⟩
    cases hv
    exact Maps.atKey_put_same h.1 (keyL_is _) _ _
  · have hne : keyL n ≠ keyL k := fun q => e (keyL_inj q).symm
    obtain ⟨h1, h2⟩ := h.2 n
    cases hl : lookB ls n with
    | some a =>
      rw [hl] at h1 h2
      dsimp only
      exact ⟨by rw [Maps.has_put_other hne]; exact h1, fun v' hv => by rw [Maps.atKey_put_other hne]; exact h2 v' hv⟩
    | none =>
      rw [hl] at h1
      dsimp only
      rw [if_neg e]
      exact ⟨by rw [Maps.has_put_other hne]; exact h1, fun v' hv => by cases hv⟩
/-- The labels' map. -/
def mapA (mb : Nat) (ls : List (ByteArray × Nat)) : Ast where
  F k := k = mb
  hold w := ∃ D : DataW Unit, w.ownsMap Try.prog 9 (plainElem Try.prog 3) mb ls.length D ∧ LabD D ls
  loc h hb := by
    obtain ⟨D, ⟨es, clock, hh, hr⟩, hl⟩ := h
    exact ⟨D, ⟨es, clock, (hb mb rfl).trans hh, hr⟩, hl⟩
  lt h k hk := by
    subst hk
    obtain ⟨D, ho, _⟩ := h
    exact ho.lt
theorem Own.mapMade {w0 w : World} {l : List Ast} (h : Own w0 w l) : Own w0 (w.alloc (.map #[] 0)) (l ++ [mapA w.heap.size []]) :=
  h.push (by go_grown) (mapA _ _) ⟨.map [], World.ownsMap_made w Try.prog 9 _, LabD.none_⟩ (fun k hk => by cases hk; exact Nat.le_refl _)
/-- Where a function lies: its own cells, its code, its map, its jumps. -/
structure FM where
  fb : Nat
  cv : Value
  mb : Nat
  jv : Value
def jmpL (js : List (Nat × ByteArray)) : List Value := js.flatMap fun p => [.int .i64 (p.1 : Int), .string p.2]
theorem jmpL_len (js : List (Nat × ByteArray)) : (jmpL js).length = js.length * 2 := by
  induction js with
  | nil => rfl
  | cons a l ih => simp [jmpL] at ih ⊢; omega
theorem jmpL_app (a b : List (Nat × ByteArray)) : jmpL (a ++ b) = jmpL a ++ jmpL b := by simp [jmpL]
def fnC (x : FM) : Ast := cellsA x.fb #[x.cv, .map (some x.mb), x.jv] 96
def fnP (x : FM) (f : BF) : List Ast := [fnC x, rowA 30 4 x.cv f.code.length (insL f.code), mapA x.mb f.labels, rowA 108 2 x.jv f.jumps.length (jmpL f.jumps)]
def fnAll (Ms : List (FM × BF)) : List Ast := Ms.flatMap fun p => fnP p.1 p.2
def fptr (p : FM × BF) : Value := .pointer (some ⟨p.1.fb, 0, none⟩)
/-- A builder: its cells, the row of its functions, and these. -/
def bldC (bb : Nat) (mem : Int) (lv : Value) : Ast := cellsA bb #[.int .i64 mem, lv] 91
def bldR (lv : Value) (Ms : List (FM × BF)) : Ast := rowA 92 1 lv Ms.length (Ms.map fptr)
def BOwn (w0 w : World) (bb : Nat) (mem : Int) (B : List BF) (l : List Ast) : Prop :=
  ∃ (lv : Value) (Ms : List (FM × BF)), Ms.map (·.2) = B ∧ Own w0 w (bldC bb mem lv :: bldR lv Ms :: (fnAll Ms ++ l))
theorem fnAll_snoc (Ms : List (FM × BF)) (x : FM) (f : BF) : fnAll (Ms ++ [(x, f)]) = fnAll Ms ++ fnP x f := by simp [fnAll]
theorem fnAll_perm (Ms : List (FM × BF)) (x : FM) (f : BF) (l : List Ast) : (fnAll (Ms ++ [(x, f)]) ++ l).Perm (fnP x f ++ (fnAll Ms ++ l)) := by
  rw [fnAll_snoc, ← List.append_assoc]
  exact List.Perm.append_right _ List.perm_append_comm
/-- The last function's pieces ahead of all others. -/
theorem bld_last {w0 w : World} {bb : Nat} {mem : Int} {lv : Value} {Ms : List (FM × BF)} {x : FM} {f : BF} {l : List Ast} (h : Own w0 w (bldC bb mem lv :: bldR lv (Ms ++ [(x, f)]) :: (fnAll (Ms ++ [(x, f)]) ++ l))) : Own w0 w (bldC bb mem lv :: bldR lv (Ms ++ [(x, f)]) :: (fnP x f ++ (fnAll Ms ++ l))) :=
  h.pm (.cons _ (.cons _ (fnAll_perm Ms x f l)))
theorem bldR_map {lv : Value} {Ms Ms' : List (FM × BF)} (h : Ms.map fptr = Ms'.map fptr) : bldR lv Ms = bldR lv Ms' := by
  have hl : Ms.length = Ms'.length := by simpa using congrArg List.length h
  unfold bldR
  rw [h, hl]
/-- .. and back, with another function in the same cells. -/
theorem bld_back {w0 w : World} {bb : Nat} {mem : Int} {lv : Value} {Ms : List (FM × BF)} {x x' : FM} {f f' : BF} {l : List Ast} (hx : x'.fb = x.fb) (h : Own w0 w (bldC bb mem lv :: bldR lv (Ms ++ [(x, f)]) :: (fnP x' f' ++ (fnAll Ms ++ l)))) : BOwn w0 w bb mem (Ms.map (·.2) ++ [f']) l := by
  refine ⟨lv, Ms ++ [(x', f')], by simp, ?_⟩
  have e : bldR lv (Ms ++ [(x, f)]) = bldR lv (Ms ++ [(x', f')]) := bldR_map (by simp [fptr, hx])
  rw [e] at h
  exact h.pm (.cons _ (.cons _ (fnAll_perm Ms x' f' l).symm))
end Go.Proofs.Ytboiogjklecpaaa
