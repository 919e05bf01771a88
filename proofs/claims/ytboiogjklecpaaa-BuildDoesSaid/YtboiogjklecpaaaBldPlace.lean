/- Package build: where the document finds a label. -/
import Derived.Test.YtboiogjklecpaaaBldOps
set_option linter.unusedVariables false
set_option linter.unusedSimpArgs false
namespace Go.Proofs.Ytboiogjklecpaaa
open Go.RowKit
set_option maxRecDepth 100000
set_option maxHeartbeats 2000000
def plc (o : Option Nat) : Int := match o with | none => -1 | some k => (k : Int)
theorem str_ne {a b : ByteArray} (h : ¬ a = b) : (a.toList == b.toList) = false := by
  rw [beq_eq_false_iff_ne]
  intro e
  rw [ByteArray.toList_eq, ByteArray.toList_eq] at e
  exact h (by cases a; cases b; simp at e; rw [e])
theorem rplace_any (os : List BO) (ao : Option Addr) (c : Nat) (nm : ByteArray) (w : World) (h : LiesO w ao c os) : Calls Try.prog 71 #[.slice ao os.length c, .string nm] w fun e w' => e = .returned (.int .i64 (plc (placeB 0 os nm))) ∧ w = w' := by
  have hm := h.2.1
  have hm0 := h.1
  unfold maxLen at hm
  replace h := Lib.hid h
  go_enter Try.func71, Try.ntmps71
  go_wp2_with fail
  go_loopw [5, 6] (fun a i wr => ∃ (r k : Nat), r ≤ os.length ∧ k ≤ r ∧ a = .int .i64 k ∧ i = .int .i64 r ∧ wr = w ∧ Hid (placeB 0 os nm = placeB k (os.drop r) nm)) (fun _ i _ => (os.length - intOf i).toNat)
  case atStart => exact ⟨0, 0, by omega, by omega, rfl, rfl, rfl, Lib.hid rfl⟩
  case round =>
    obtain ⟨r, k, hr, hk, rfl, rfl, rfl, hp⟩ := hrel
    by_cases hlt : r < os.length
    · obtain ⟨g, off, rfl, s0, _, s2, _⟩ := h.out.get hlt
      obtain ⟨o, ho⟩ : ∃ o, os.getD r dfO = o := ⟨_, rfl⟩
      rw [ho] at s0 s2
      have hd := Lib.hid ((drop_at hlt dfO).trans (by rw [ho]))
      clear ho
      by_cases e2 : o.kind = 2
      · by_cases en : o.name = nm
        · have hR := Lib.hid (show placeB 0 os nm = some k by rw [hp.out, hd.out, place_cons, if_pos ⟨e2, en⟩])
          rw [e2] at s0
          rw [en] at s2
          clear e2 en
          simp at s0
          go_wp2
          go_ret
          exact ⟨by rw [hR.out]; rfl, rfl⟩
        · have hR := Lib.hid (show placeB 0 os nm = placeB k (os.drop (r + 1)) nm by rw [hp.out, hd.out, place_cons, if_neg (fun h => en h.2), if_pos e2])
          rw [e2] at s0
          have en' := str_ne en
          have en2 : (o.name.toList == nm.toList) = false := en'
          simp at s0
          clear e2
          go_wp2
          go_round
          case rel => exact ⟨r + 1, k, by omega, by omega, by first | rfl | trivial | go_num, by first | rfl | trivial | go_num, by first | rfl | trivial | go_num, hR⟩
          case measure => simp [intOf]; omega
      · have hR := Lib.hid (show placeB 0 os nm = placeB (k + 1) (os.drop (r + 1)) nm by rw [hp.out, hd.out, place_cons, if_neg (fun h => e2 h.1), if_neg e2])
        have e3 : ¬ (o.kind : Int) = 2 := by omega
        clear e2
        generalize (o.kind : Int) = K at *
        go_wp2
        go_round
        case rel => exact ⟨r + 1, k + 1, by omega, by omega, by first | rfl | trivial | go_num, by first | rfl | trivial | go_num, by first | rfl | trivial | go_num, hR⟩
        case measure => simp [intOf]; omega
    · obtain rfl : r = os.length := by omega
      have hR := Lib.hid (show placeB 0 os nm = none by rw [hp.out, List.drop_length]; rfl)
      go_wp2
      go_ret
      exact ⟨by rw [hR.out]; rfl, rfl⟩
end Go.Proofs.Ytboiogjklecpaaa
