/- DequeDoes: what the loop keeps in memory. -/
import Derived.Test.YtofnjapgacgdlaaDqRefs
import Derived.Test.YtofnjapgacgdlaaDqRel
set_option linter.unusedVariables false
set_option linter.unusedSimpArgs false
namespace Go.Proofs.Ytofnjapgacgdlaa
open Go.RowKit
set_option maxRecDepth 100000
set_option maxHeartbeats 4000000
/-- The cells of the document's walk, one by one. -/
def refF (kd : Int) (B : Nat) (D : Int) (s : WS) : Nat → Value
  | 0 => .int .i64 kd
  | 1 => .int .i64 (B : Int)
  | 2 => .int .i64 D
  | 3 => .int .i64 (refAt s.pc)
  | 4 => .int .i64 s.t
  | 5 => .int .i64 s.x
  | 6 => .int .i64 s.n
  | 7 => .int .i64 s.h
  | 8 => .bool s.got
  | _ => .bool s.full
/-- One of the four: no walk yet, or one with the document's beside it (an ended one's is of no account). -/
def WD (D k : Int) (B : Nat) (o : Option WS) (v : Value) (A : Ast) (f : Nat → Value) : Prop :=
  (o = none ∧ v = .pointer none ∧ A = emptyA) ∨ ∃ s wb cs bx, o = some s ∧ v = .pointer (some ⟨wb, 0, none⟩) ∧ WkIs 2 D k B wb s cs bx ∧ A = walkA wb cs bx ∧ (s.pc = 99 ∨ (pcOk s.pc ∧ ∃ y, RefX s y ∧ ∀ j, j < 10 → f j = refF (refKind s.pc) B D { s with x := y } j))
theorem WD.turn {D k : Int} {B : Nat} {ws : Nat → Option WS} {P : Nat → Value} {As : Nat → Ast} {R : Nat → Nat → Value} (h : ∀ i, i < 4 → WD D k B (ws i) (P i) (As i) (R i)) {K : Nat} {o : Option WS} {v : Value} {A : Ast} {f : Nat → Value} (hk : WD D k B o v A f) : ∀ i, i < 4 → WD D k B (upd ws K o i) (updV P K v i) (updA As K A i) (setR R K f i) := by
  intro i hi
  unfold updV updA upd
  by_cases e : i = K
  · subst e
    rw [if_pos rfl, if_pos rfl, if_pos rfl]
    have : setR R i f i = f := by funext j; unfold setR; rw [if_pos rfl]
    rw [this]
    exact hk
  · rw [if_neg e, if_neg e, if_neg e]
    have : setR R K f i = R i := by funext j; unfold setR; rw [if_neg e]
    rw [this]
    exact h i hi
/-- The pieces behind a walk. -/
def DB (pb wkb rfb : Nat) (D : Int) (P : Nat → Value) (R : Nat → Nat → Value) (mv : Value) (m : List Int) (rest : List Ast) : List Ast :=
  planA pb 2 D :: wrow wkb P :: mRow mv m :: rrA rfb R :: rest
theorem DB.perm {pb wkb rfb : Nat} {D : Int} {P : Nat → Value} {R : Nat → Nat → Value} {mv : Value} {m : List Int} {S A : Ast} {rest l : List Ast} (h : (A :: rest).Perm l) : (S :: A :: DB pb wkb rfb D P R mv m rest).Perm (S :: DB pb wkb rfb D P R mv m l) := by
  refine .cons _ ?_
  unfold DB
  have h1 : (A :: ([planA pb 2 D, wrow wkb P, mRow mv m, rrA rfb R] ++ rest)).Perm ([planA pb 2 D, wrow wkb P, mRow mv m, rrA rfb R] ++ A :: rest) := List.perm_middle.symm
  exact h1.trans (List.Perm.append_left _ h)
def DState (w0 w : World) (g sb pb wkb rfb : Nat) (mv : Value) (D k : Int) (B : Nat) (m : List Int) (ws : Nat → Option WS) : Prop :=
  ∃ (P : Nat → Value) (As : Nat → Ast) (R : Nat → Nat → Value), (∀ i, i < 4 → WD D k B (ws i) (P i) (As i) (R i)) ∧ Own w0 w (storeA g sb m :: DB pb wkb rfb D P R mv m [As 0, As 1, As 2, As 3])
theorem DState.pick {w0 w : World} {g sb pb wkb rfb : Nat} {mv : Value} {D k : Int} {B : Nat} {m : List Int} {ws : Nat → Option WS} (h : DState w0 w g sb pb wkb rfb mv D k B m ws) {K : Nat} (hK : K < 4) :
    ∃ (P : Nat → Value) (As : Nat → Ast) (R : Nat → Nat → Value) (rest : List Ast), (∀ i, i < 4 → WD D k B (ws i) (P i) (As i) (R i)) ∧ (∀ A, (A :: rest).Perm [updA As K A 0, updA As K A 1, updA As K A 2, updA As K A 3]) ∧ Own w0 w (storeA g sb m :: As K :: DB pb wkb rfb D P R mv m rest) := by
  obtain ⟨P, As, R, h1, hO⟩ := h
  obtain ⟨rest, hr⟩ := four_pick As hK
  have h2 := hr (As K)
  rw [updA_same] at h2
  exact ⟨P, As, R, rest, h1, hr, hO.pm (DB.perm h2).symm⟩
theorem DState.put {w0 w : World} {g sb pb wkb rfb : Nat} {mv : Value} {D k : Int} {B : Nat} {m : List Int} {ws : Nat → Option WS} {P : Nat → Value} {As : Nat → Ast} {R : Nat → Nat → Value} {rest : List Ast} (hw : ∀ i, i < 4 → WD D k B (ws i) (P i) (As i) (R i)) {K : Nat} (hr : ∀ A, (A :: rest).Perm [updA As K A 0, updA As K A 1, updA As K A 2, updA As K A 3])
    {o : Option WS} {v : Value} {A : Ast} {f : Nat → Value} (hk : WD D k B o v A f) (hO : Own w0 w (storeA g sb m :: A :: DB pb wkb rfb D (updV P K v) (setR R K f) mv m rest)) : DState w0 w g sb pb wkb rfb mv D k B m (upd ws K o) :=
  ⟨updV P K v, updA As K A, setR R K f, WD.turn hw hk, hO.pm (DB.perm (hr A))⟩
end Go.Proofs.Ytofnjapgacgdlaa
