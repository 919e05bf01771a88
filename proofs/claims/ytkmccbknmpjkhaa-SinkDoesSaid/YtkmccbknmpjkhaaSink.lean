/- Lists of integers read side by side: equal, first difference, prefix. Contracts of package sink's readers and their references. -/
import Derived.Test.YtkmccbknmpjkhaaRow
set_option linter.unusedVariables false
set_option linter.unusedSimpArgs false
namespace Go.Proofs.Ytkmccbknmpjkhaa
open Go.RowKit

/-- The first place at which two lists part, or the shorter one's length. -/
def dAt : List Int → List Int → Nat
  | x :: a, y :: b => if x = y then dAt a b + 1 else 0
  | _, _ => 0
theorem dAt_le : ∀ (a b : List Int), dAt a b ≤ a.length ∧ dAt a b ≤ b.length
  | [], _ => by simp [dAt]
  | _ :: _, [] => by simp [dAt]
  | x :: a, y :: b => by
    have := dAt_le a b
    simp only [dAt, List.length_cons]; split <;> omega
theorem dAt_take : ∀ (a b : List Int), a.take (dAt a b) = b.take (dAt a b)
  | [], _ => by simp [dAt]
  | _ :: _, [] => by simp [dAt]
  | x :: a, y :: b => by
    have := dAt_take a b
    simp only [dAt]; split
    · rename_i h; simp [h, this]
    · simp
theorem dAt_of {r : Nat} : ∀ {a b : List Int}, r ≤ a.length → r ≤ b.length → a.take r = b.take r → (r = a.length ∨ r = b.length ∨ a.getD r 0 ≠ b.getD r 0) → dAt a b = r := by
  induction r with
  | zero =>
    intro a b _ _ _ h
    match a, b with
    | [], _ => rfl
    | _ :: _, [] => rfl
    | x :: a, y :: b => simp at h; simp [dAt, h]
  | succ r ih =>
    intro a b ha hb ht h
    match a, b, ha, hb with
    | x :: a, y :: b, ha, hb =>
      simp at ha hb ht h
      simp only [dAt, ht.1, if_true]
      rw [ih ha hb ht.2 (by simpa using h)]
theorem take_next {a b : List Int} {r : Nat} (ha : r < a.length) (hb : r < b.length) (ht : a.take r = b.take r) (h : a.getD r 0 = b.getD r 0) : a.take (r + 1) = b.take (r + 1) := by
  rw [List.take_succ_eq_append_getElem ha, List.take_succ_eq_append_getElem hb, ht]
  simp only [List.getD_eq_getElem?_getD, List.getElem?_eq_getElem ha, List.getElem?_eq_getElem hb, Option.getD_some] at h
  rw [h]
/-- A slice of integers that lies in w. -/
def Lies (w : World) (ao : Option Addr) (c : Nat) (a : List Int) : Prop :=
  a.length ≤ c ∧ c ≤ maxLen ∧ ((ao = none ∧ a = []) ∨ ∃ ad, ao = some ad ∧ ∀ j, j < a.length → w.cell? (ad.add j) = some (.int .i64 (a.getD j 0)))
theorem Lies.get {w : World} {ao : Option Addr} {c : Nat} {a : List Int} (h : Lies w ao c a) {r : Nat} (hr : r < a.length) : ∃ ad, ao = some ad ∧ w.cell? (ad.add r) = some (.int .i64 (a.getD r 0)) := by
  rcases h.2.2 with ⟨_, h0⟩ | ⟨ad, h0, h1⟩
  · subst h0; simp at hr
  · exact ⟨ad, h0, h1 r hr⟩
theorem Lies.take {w : World} {ao : Option Addr} {c : Nat} {a : List Int} (h : Lies w ao c a) {n : Nat} (hn : n ≤ a.length) : Lies w ao c (a.take n) := by
  refine ⟨by rw [List.length_take]; have := h.1; omega, h.2.1, ?_⟩
  rcases h.2.2 with ⟨h1, h0⟩ | ⟨ad, h0, h1⟩
  · subst h0; exact .inl ⟨h1, by simp⟩
  · refine .inr ⟨ad, h0, fun j hj => ?_⟩
    rw [List.length_take] at hj
    rw [h1 j (by omega), List.getD_eq_getElem?_getD, List.getD_eq_getElem?_getD, List.getElem?_take_of_lt (by omega)]
theorem Lies.same {w w' : World} {ao : Option Addr} {c : Nat} {a : List Int} (h : Lies w ao c a) (hs : ∀ p : Addr, (w.cell? p).isSome = true → w'.cell? p = w.cell? p) : Lies w' ao c a := by
  refine ⟨h.1, h.2.1, ?_⟩
  rcases h.2.2 with h0 | ⟨ad, h0, h1⟩
  · exact .inl h0
  · exact .inr ⟨ad, h0, fun j hj => by rw [hs _ (by rw [h1 j hj]; rfl), h1 j hj]⟩
theorem drewN_two {w : World} {m k : Nat} : (w.drewN m).drewN k = w.drewN (m + k) := by rw [World.drewN_drewN]
theorem drewN_all {w w' : World} {m k : Nat} (h : w' = w.drewN m) : w'.drewN k = w.drewN (m + k) := by rw [h, World.drewN_drewN]

set_option maxHeartbeats 1000000
set_option maxRecDepth 100000
theorem equal_any (ao bo : Option Addr) (c d : Nat) (a b : List Int) (w : World) (ha : Lies w ao c a) (hb : Lies w bo d b) :
    Calls Try.prog 48 #[.slice ao a.length c, .slice bo b.length d] w fun e w' => e = .returned (.bool (a == b)) ∧ ∃ m, w' = w.drewN m := by
  have hc := ha.1
  have hc2 := ha.2.1
  have hd := hb.1
  have hd2 := hb.2.1
  unfold maxLen at hc2 hd2
  by_cases hl : a.length = b.length
  · go_enter Try.func48, Try.ntmps48
    go_wp2
    go_loopw [13, 5] (fun i x wr => ∃ r m : Nat, r ≤ a.length ∧ i = .int .i64 r ∧ a.take r = b.take r ∧ wr = w.drewN m) (fun i _ _ => (a.length - intOf i).toNat)
    case atStart => exact ⟨0, 0, by omega, rfl, rfl, rfl⟩
    case round =>
      obtain ⟨r, m, hr, rfl, ht, rfl⟩ := hrel
      by_cases hlt : r < a.length
      · obtain ⟨ad, rfl, hx⟩ := ha.get hlt
        obtain ⟨bd, rfl, hy⟩ := hb.get (r := r) (by omega)
        by_cases hq : a.getD r 0 = b.getD r 0
        · have ht' := Lib.hid (take_next hlt (by omega) ht hq)
          generalize a.getD r 0 = X at *
          generalize b.getD r 0 = Y at *
          subst hq
          clear ht
          go_wp2
          go_quiet (fail)
          go_wp2
          go_round
          case rel => exact ⟨r + 1, _, by omega, by go_num, ht'.out, rfl⟩
          case measure => simp [intOf]; omega
        · have hne : (a == b) = false := by
            rw [beq_eq_false_iff_ne]
            rintro rfl
            exact hq rfl
          have hne' := Lib.hid hne
          generalize a.getD r 0 = X at *
          generalize b.getD r 0 = Y at *
          clear ht hne
          go_wp2
          go_quiet (fail)
          go_wp2
          go_ret
          exact ⟨ret_bool hne'.out.symm, _, drewN_two⟩
      · obtain rfl : r = a.length := by omega
        have he : (a == b) = true := by
          rw [beq_iff_eq]
          rw [List.take_length, hl, List.take_length] at ht
          exact ht
        have he' := Lib.hid he
        clear he ht
        go_wp2
        go_ret
        exact ⟨ret_bool he'.out.symm, _, rfl⟩
  · have hne : (a == b) = false := by
      rw [beq_eq_false_iff_ne]
      rintro rfl
      exact hl rfl
    have hne' := Lib.hid hne
    clear hne
    go_enter Try.func48, Try.ntmps48
    go_wp2
    go_ret
    exact ⟨ret_bool hne'.out.symm, 0, rfl⟩

theorem tuple2 {a b : Int} {p q : Bool} (h : a = b) (k : p = q) : Ending.returned (.tuple #[.int .i64 a, .bool p]) = .returned (.tuple #[.int .i64 b, .bool q]) := by rw [h, k]
theorem differ_core (ao bo : Option Addr) (c d : Nat) (a b : List Int) (w : World) (ha : Lies w ao c a) (hb : Lies w bo d b) (D : Int) (E : Bool) (hD : D = if a = b then 0 else (dAt a b : Int)) (hE : E = !(a == b)) :
    Calls Try.prog 33 #[.slice ao a.length c, .slice bo b.length d] w fun e w' => e = .returned (.tuple #[.int .i64 D, .bool E]) ∧ ∃ m, w' = w.drewN m := by
  have hc := ha.1
  have hc2 := ha.2.1
  have hd := hb.1
  have hd2 := hb.2.1
  unfold maxLen at hc2 hd2
  have HD := Lib.hid hD
  have HE := Lib.hid hE
  clear hD hE
  have hle : a.length ≤ b.length ∨ ¬ a.length ≤ b.length := Classical.em _
  rcases hle with hle | hle
  all_goals
    go_enter Try.func33, Try.ntmps33
    go_wp2
    go_loopw [12] (fun i wr => ∃ r m : Nat, r ≤ a.length ∧ r ≤ b.length ∧ i = .int .i64 r ∧ a.take r = b.take r ∧ wr = w.drewN m) (fun i _ => (min a.length b.length - intOf i).toNat)
    case atStart => exact ⟨0, 0, by omega, by omega, rfl, rfl, rfl⟩
    case round =>
      obtain ⟨r, m, hr, hr2, rfl, ht, rfl⟩ := hrel
      by_cases hlt : r < a.length ∧ r < b.length
      · obtain ⟨hlt1, hlt2⟩ := hlt
        obtain ⟨ad, rfl, hx⟩ := ha.get hlt1
        obtain ⟨bd, rfl, hy⟩ := hb.get hlt2
        by_cases hq : a.getD r 0 = b.getD r 0
        · have ht' := Lib.hid (take_next hlt1 hlt2 ht hq)
          generalize a.getD r 0 = X at *
          generalize b.getD r 0 = Y at *
          subst hq
          clear ht
          go_wp2
          go_quiet (fail)
          go_wp2
          go_round
          case rel => exact ⟨r + 1, _, by omega, by omega, by go_num, ht'.out, by first | rfl | exact drewN_two⟩
          case measure => simp [intOf]; omega
        · have hne : ¬ a = b := by
            rintro rfl
            exact hq rfl
          have hv := dAt_of hr hr2 ht (.inr (.inr hq))
          have e1 : (r : Int) = D := by rw [HD.out, if_neg hne, hv]
          have e2 : true = E := by rw [HE.out]; simp [hne]
          have e1' := Lib.hid e1
          have e2' := Lib.hid e2
          generalize a.getD r 0 = X at *
          generalize b.getD r 0 = Y at *
          clear ht hne hv e1 e2
          go_wp2
          go_quiet (fail)
          go_wp2
          refine bodyPost_ret (by simp [results, Try.results33, go_sem]) rfl ⟨tuple2 e1'.out e2'.out, _, drewN_two⟩
      · have hv := dAt_of hr hr2 ht (by omega)
        by_cases hl : a.length = b.length
        · have hab : a = b := by
            have h0 : r = a.length := by omega
            rw [h0, List.take_length, hl, List.take_length] at ht
            exact ht
          have e1 : (0 : Int) = D := by rw [HD.out, if_pos hab]
          have e2 : false = E := by rw [HE.out]; simp [hab]
          have e1' := Lib.hid e1
          have e2' := Lib.hid e2
          clear ht hv e1 e2 hab
          go_wp2
          all_goals refine bodyPost_ret (by simp [results, Try.results33, go_sem]) rfl ⟨tuple2 e1'.out e2'.out, _, rfl⟩
        · have hne : ¬ a = b := by
            rintro rfl
            exact hl rfl
          have e1 : (r : Int) = D := by rw [HD.out, if_neg hne, hv]
          have e2 : true = E := by rw [HE.out]; simp [hne]
          have e1' := Lib.hid e1
          have e2' := Lib.hid e2
          clear ht hv e1 e2 hne
          have hrm : r = a.length ∨ r = b.length := by omega
          go_wp2
          all_goals first
            | exact bodyPost_ret (by simp [results, Try.results33, go_sem]) rfl ⟨tuple2 (a := (a.length : Int)) (by rw [← e1'.out]; omega) e2'.out, _, rfl⟩
            | exact bodyPost_ret (by simp [results, Try.results33, go_sem]) rfl ⟨tuple2 (a := (b.length : Int)) (by rw [← e1'.out]; omega) e2'.out, _, rfl⟩
theorem rbegins_any (ao bo : Option Addr) (c d : Nat) (a b : List Int) (w : World) (ha : Lies w ao c a) (hb : Lies w bo d b) :
    Calls Try.prog 36 #[.slice ao a.length c, .slice bo b.length d] w fun e w' => e = .returned (.bool (a.isPrefixOf b)) ∧ ∃ m, w' = w.drewN m := by
  have hc := ha.1
  have hc2 := ha.2.1
  have hd := hb.1
  have hd2 := hb.2.1
  unfold maxLen at hc2 hd2
  go_enter Try.func36, Try.ntmps36
  go_wp2
  go_loopw [5] (fun i wr => ∃ r m : Nat, r ≤ a.length ∧ r ≤ b.length ∧ i = .int .i64 r ∧ a.take r = b.take r ∧ wr = w.drewN m) (fun i _ => (a.length - intOf i).toNat)
  case atStart => exact ⟨0, 0, by omega, by omega, rfl, rfl, rfl⟩
  case round =>
    obtain ⟨r, m, hr, hr2, rfl, ht, rfl⟩ := hrel
    by_cases hlt1 : r < a.length
    · by_cases hlt2 : r < b.length
      · have hg : decide ((b.length : Int) ≤ (r : Int)) = false := by simp; omega
        obtain ⟨ad, rfl, hx⟩ := ha.get hlt1
        obtain ⟨bd, rfl, hy⟩ := hb.get hlt2
        by_cases hq : a.getD r 0 = b.getD r 0
        · have ht' := Lib.hid (take_next hlt1 hlt2 ht hq)
          generalize a.getD r 0 = X at *
          generalize b.getD r 0 = Y at *
          subst hq
          clear ht
          go_wp2
          go_quiet (fail)
          go_wp2
          go_round
          case rel => exact ⟨r + 1, _, by omega, by omega, by go_num, ht'.out, by first | rfl | exact drewN_two⟩
          case measure => simp [intOf]; omega
        · have hp : false = a.isPrefixOf b := by
            rw [eq_comm, Bool.eq_false_iff]
            intro h
            rw [List.isPrefixOf_iff_prefix, List.prefix_iff_eq_take] at h
            apply hq
            rw [h, List.getD_eq_getElem?_getD, List.getD_eq_getElem?_getD, List.getElem?_take_of_lt hlt1]
          have hp' := Lib.hid hp
          generalize a.getD r 0 = X at *
          generalize b.getD r 0 = Y at *
          have hqb : (X != Y) = true := by simp [hq]
          clear ht hp
          go_wp2
          go_quiet (fail)
          go_wp2
          go_ret
          exact ⟨ret_bool hp'.out, _, by first | rfl | exact drewN_two⟩
      · have hp : false = a.isPrefixOf b := by
          rw [eq_comm, Bool.eq_false_iff]
          intro h
          rw [List.isPrefixOf_iff_prefix] at h
          have := h.length_le
          omega
        have hg : decide ((b.length : Int) ≤ (r : Int)) = true := by simp; omega
        have hp' := Lib.hid hp
        clear ht hp
        go_wp2
        go_quiet (fail)
        go_wp2
        go_ret
        exact ⟨ret_bool hp'.out, _, by first | rfl | exact drewN_two⟩
    · have hp : true = a.isPrefixOf b := by
        rw [eq_comm, List.isPrefixOf_iff_prefix, List.prefix_iff_eq_take]
        have h0 : r = a.length := by omega
        rw [h0, List.take_length] at ht
        exact ht
      have hp' := Lib.hid hp
      clear ht hp
      go_wp2
      go_ret
      exact ⟨ret_bool hp'.out, _, rfl⟩
theorem begins_any (ao bo : Option Addr) (c d : Nat) (a b : List Int) (w : World) (ha : Lies w ao c a) (hb : Lies w bo d b) :
    Calls Try.prog 35 #[.slice ao a.length c, .slice bo b.length d] w fun e w' => e = .returned (.bool (a.isPrefixOf b)) ∧ ∃ m, w' = w.drewN m := by
  have hc := ha.1
  have hc2 := ha.2.1
  have hd := hb.1
  have hd2 := hb.2.1
  unfold maxLen at hc2 hd2
  by_cases hl : a.length ≤ b.length
  · have he := equal_any ao bo c d a (b.take a.length) w ha (hb.take hl)
    rw [List.length_take, Nat.min_eq_left hl] at he
    have hp : (a == b.take a.length) = a.isPrefixOf b := by
      rw [Bool.eq_iff_iff, beq_iff_eq, List.isPrefixOf_iff_prefix, List.prefix_iff_eq_take]
    rw [hp] at he
    have he' := Lib.hid he
    clear he hp
    go_enter Try.func35, Try.ntmps35
    go_wp2_with (first | (go_at_call 48; refine he'.out.mono ?_; rintro e w1 ⟨rfl, m, rfl⟩))
    go_ret
    exact ⟨rfl, _, rfl⟩
  · have hp : a.isPrefixOf b = false := by
      rw [Bool.eq_false_iff]
      intro h
      rw [List.isPrefixOf_iff_prefix] at h
      exact hl h.length_le
    have hp' := Lib.hid hp
    clear hp
    go_enter Try.func35, Try.ntmps35
    go_wp2
    go_ret
    exact ⟨ret_bool hp'.out.symm, 0, rfl⟩
theorem differ_any (ao bo : Option Addr) (c d : Nat) (a b : List Int) (w : World) (ha : Lies w ao c a) (hb : Lies w bo d b) :
    Calls Try.prog 33 #[.slice ao a.length c, .slice bo b.length d] w fun e w' => e = .returned (.tuple #[.int .i64 (if a = b then 0 else (dAt a b : Int)), .bool (!(a == b))]) ∧ ∃ m, w' = w.drewN m :=
  differ_core ao bo c d a b w ha hb _ _ rfl rfl
theorem rdiffer_core (ao bo : Option Addr) (c d : Nat) (a b : List Int) (w : World) (ha : Lies w ao c a) (hb : Lies w bo d b) (D : Int) (E : Bool) (hD : D = if a = b then 0 else (dAt a b : Int)) (hE : E = !(a == b)) :
    Calls Try.prog 34 #[.slice ao a.length c, .slice bo b.length d] w fun e w' => e = .returned (.tuple #[.int .i64 D, .bool E]) ∧ ∃ m, w' = w.drewN m := by
  have hc := ha.1
  have hc2 := ha.2.1
  have hd := hb.1
  have hd2 := hb.2.1
  unfold maxLen at hc2 hd2
  have HD := Lib.hid hD
  have HE := Lib.hid hE
  clear hD hE
  go_enter Try.func34, Try.ntmps34
  go_wp2
  go_loopw [6] (fun i wr => ∃ r m : Nat, r ≤ a.length ∧ r ≤ b.length ∧ i = .int .i64 r ∧ a.take r = b.take r ∧ wr = w.drewN m) (fun i _ => (a.length - intOf i).toNat)
  case atStart => exact ⟨0, 0, by omega, by omega, rfl, rfl, rfl⟩
  case round =>
    obtain ⟨r, m, hr, hr2, rfl, ht, rfl⟩ := hrel
    by_cases hlt1 : r < a.length
    · have hg1 : decide ((a.length : Int) ≤ (r : Int)) = false := by simp; omega
      have hf1 : decide ((r : Int) < (a.length : Int)) = true := by simp; omega
      by_cases hlt2 : r < b.length
      · have hg : decide ((b.length : Int) ≤ (r : Int)) = false := by simp; omega
        obtain ⟨ad, rfl, hx⟩ := ha.get hlt1
        obtain ⟨bd, rfl, hy⟩ := hb.get hlt2
        by_cases hq : a.getD r 0 = b.getD r 0
        · have ht' := Lib.hid (take_next hlt1 hlt2 ht hq)
          generalize a.getD r 0 = X at *
          generalize b.getD r 0 = Y at *
          subst hq
          clear ht
          go_wp2
          go_quiet (fail)
          go_wp2
          go_round
          case rel => exact ⟨r + 1, _, by omega, by omega, by go_num, ht'.out, by first | rfl | exact drewN_two⟩
          case measure => simp [intOf]; omega
        · have hne : ¬ a = b := by
            rintro rfl
            exact hq rfl
          have hv := dAt_of hr hr2 ht (.inr (.inr hq))
          have e1 : (r : Int) = D := by rw [HD.out, if_neg hne, hv]
          have e2 : true = E := by rw [HE.out]; simp [hne]
          have e1' := Lib.hid e1
          have e2' := Lib.hid e2
          generalize a.getD r 0 = X at *
          generalize b.getD r 0 = Y at *
          have hqb : (X != Y) = true := by simp [hq]
          clear ht hne hv e1 e2
          go_wp2
          go_quiet (fail)
          go_wp2
          all_goals refine bodyPost_ret (by simp [results, Try.results34, go_sem]) rfl ⟨tuple2 e1'.out e2'.out, _, by first | rfl | exact drewN_two⟩
      · have hv := dAt_of hr hr2 ht (by omega)
        have hne : ¬ a = b := by
          rintro rfl
          omega
        have e1 : (r : Int) = D := by rw [HD.out, if_neg hne, hv]
        have e2 : true = E := by rw [HE.out]; simp [hne]
        have e1' := Lib.hid e1
        have e2' := Lib.hid e2
        have hg : decide ((b.length : Int) ≤ (r : Int)) = true := by simp; omega
        clear ht hne hv e1 e2
        go_wp2
        go_quiet (fail)
        go_wp2
        all_goals refine bodyPost_ret (by simp [results, Try.results34, go_sem]) rfl ⟨tuple2 e1'.out e2'.out, _, by first | rfl | exact drewN_two⟩
    · have hf1 : decide ((r : Int) < (a.length : Int)) = false := by simp; omega
      by_cases hlt2 : r < b.length
      · have hv := dAt_of hr hr2 ht (by omega)
        have hne : ¬ a = b := by
          rintro rfl
          omega
        have e1 : (r : Int) = D := by rw [HD.out, if_neg hne, hv]
        have e2 : true = E := by rw [HE.out]; simp [hne]
        have e1' := Lib.hid e1
        have e2' := Lib.hid e2
        have hf2 : decide ((r : Int) < (b.length : Int)) = true := by simp; omega
        clear ht hne hv e1 e2 hf1
        obtain rfl : r = a.length := by omega
        have hg : decide ((a.length : Int) ≤ (a.length : Int)) = true := by simp
        go_wp2
        go_quiet (fail)
        go_wp2
        all_goals refine bodyPost_ret (by simp [results, Try.results34, go_sem]) rfl ⟨tuple2 e1'.out e2'.out, _, by first | rfl | exact drewN_two⟩
      · have hab : a = b := by
          have h0 : r = a.length := by omega
          have h1 : a.length = b.length := by omega
          rw [h0, List.take_length, h1, List.take_length] at ht
          exact ht
        have e1 : (0 : Int) = D := by rw [HD.out, if_pos hab]
        have e2 : false = E := by rw [HE.out]; simp [hab]
        have e1' := Lib.hid e1
        have e2' := Lib.hid e2
        have hf2 : decide ((r : Int) < (b.length : Int)) = false := by simp; omega
        clear ht e1 e2 hab
        go_wp2
        all_goals refine bodyPost_ret (by simp [results, Try.results34, go_sem]) rfl ⟨tuple2 e1'.out e2'.out, _, rfl⟩
theorem rdiffer_any (ao bo : Option Addr) (c d : Nat) (a b : List Int) (w : World) (ha : Lies w ao c a) (hb : Lies w bo d b) :
    Calls Try.prog 34 #[.slice ao a.length c, .slice bo b.length d] w fun e w' => e = .returned (.tuple #[.int .i64 (if a = b then 0 else (dAt a b : Int)), .bool (!(a == b))]) ∧ ∃ m, w' = w.drewN m :=
  rdiffer_core ao bo c d a b w ha hb _ _ rfl rfl
end Go.Proofs.Ytkmccbknmpjkhaa
