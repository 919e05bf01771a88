/- The walk through the law BitsOrder. -/
import Derived.Test.YtkmccbknmpjkhaaWorks02
set_option linter.unusedVariables false
namespace Go.Proofs.Ytkmccbknmpjkhaa
open Go.RowKit
theorem low4 (a : Int) (a0 : 0 ≤ a) (a1 : a ≤ 4294967295) : ∃ x y z u : Nat, x < 256 ∧ y < 256 ∧ z < 256 ∧ u < 256 ∧ low a 4 = [UInt8.ofNat x, UInt8.ofNat y, UInt8.ofNat z, UInt8.ofNat u] ∧ a = ((x * 256 + y) * 256 + z) * 256 + u := by
  refine ⟨(a / 16777216 % 256).toNat, (a / 65536 % 256).toNat, (a / 256 % 256).toNat, (a % 256).toNat, by omega, by omega, by omega, by omega, by simp [low], by omega⟩
theorem less_low (a b : Int) (a0 : 0 ≤ a) (a1 : a ≤ 4294967295) (b0 : 0 ≤ b) (b1 : b ≤ 4294967295) : Op.bytesLess (low a 4) (low b 4) = decide (a < b) := by
  obtain ⟨x, y, z, u, hx, hy, hz, hu, e, rfl⟩ := low4 a a0 a1
  obtain ⟨x', y', z', u', hx', hy', hz', hu', e', rfl⟩ := low4 b b0 b1
  rw [e, e', Bool.eq_iff_iff]
  simp only [Op.bytesLess, Bool.or_eq_true, Bool.and_eq_true, decide_eq_true_eq, beq_iff_eq, UInt8.lt_iff_toNat_lt, ← UInt8.toNat_inj, UInt8.toNat_ofNat', Nat.mod_eq_of_lt hx, Nat.mod_eq_of_lt hy, Nat.mod_eq_of_lt hz, Nat.mod_eq_of_lt hu, Nat.mod_eq_of_lt hx', Nat.mod_eq_of_lt hy', Nat.mod_eq_of_lt hz', Nat.mod_eq_of_lt hu', Bool.false_eq_true]
  constructor
  · rintro (h | ⟨rfl, h | ⟨rfl, h | ⟨rfl, h | ⟨_, h⟩⟩⟩⟩) <;> first | exact h.elim | omega
  · intro h
    rcases Nat.lt_trichotomy x x' with h1 | rfl | h1
    · exact .inl h1
    · refine .inr ⟨rfl, ?_⟩
      rcases Nat.lt_trichotomy y y' with h1 | rfl | h1
      · exact .inl h1
      · refine .inr ⟨rfl, ?_⟩
        rcases Nat.lt_trichotomy z z' with h1 | rfl | h1
        · exact .inl h1
        · exact .inr ⟨rfl, .inl (by omega)⟩
        · omega
      · omega
    · omega
theorem same_low (a b : Int) (a0 : 0 ≤ a) (a1 : a ≤ 4294967295) (b0 : 0 ≤ b) (b1 : b ≤ 4294967295) : (low a 4 == low b 4) = (a == b) := by
  obtain ⟨x, y, z, u, hx, hy, hz, hu, e, rfl⟩ := low4 a a0 a1
  obtain ⟨x', y', z', u', hx', hy', hz', hu', e', rfl⟩ := low4 b b0 b1
  rw [e, e', Bool.eq_iff_iff]
  simp only [beq_iff_eq, List.cons.injEq, and_true, ← UInt8.toNat_inj, UInt8.toNat_ofNat', Nat.mod_eq_of_lt hx, Nat.mod_eq_of_lt hy, Nat.mod_eq_of_lt hz, Nat.mod_eq_of_lt hu, Nat.mod_eq_of_lt hx', Nat.mod_eq_of_lt hy', Nat.mod_eq_of_lt hz', Nat.mod_eq_of_lt hu']
  omega
theorem sgn_low (a : Int) (a0 : 0 ≤ a) (a1 : a ≤ 4294967295) : (sgn a 4 == a) = decide (a < 2147483648) := by
  rw [Bool.eq_iff_iff]
  unfold sgn
  simp
  split <;> omega
set_option maxHeartbeats 1000000
set_option maxRecDepth 100000
theorem walkBitsOrder (v0 v1 : Value) (w : World) (h0 : Arg Try.prog w 36 v0) (h1 : Arg Try.prog w 36 v1) :
    Calls Try.prog 6 #[v0, v1] w fun e w' => e = .returned (.bool true) ∧ Below w.heap.size w w' := by
  obtain ⟨a, rfl, wa⟩ := h0.int Try.underlying36
  obtain ⟨b, rfl, wb⟩ := h1.int Try.underlying36
  obtain ⟨a0, a1⟩ := bounds_u32 wa
  obtain ⟨b0, b1⟩ := bounds_u32 wb
  have l1 := low_len a (hs 4)
  have l2 := low_len b (hs 4)
  have h4 : hs 4 = 4 := by decide
  have hle : hs 4 ≤ 4 := by omega
  have q1 : Op.bytesLess (low a (hs 4)) (low b (hs 4)) = decide (a < b) := by rw [h4]; exact less_low a b a0 a1 b0 b1
  have q2 : (low a (hs 4) == low b (hs 4)) = (a == b) := by rw [h4]; exact same_low a b a0 a1 b0 b1
  have q3 : (sgn a (hs 4) == a) = decide (a < 2147483648) := by rw [h4]; exact sgn_low a a0 a1
  clear h4
  go_enter Try.func6, Try.ntmps6
  go_wp2_with (first | (go_at_call 12; refine (works02_any _).mono ?_; rintro e w1 ⟨rfl, hb1⟩) | (go_at_call 19; refine (put_any _ _ _ _ (by first | decide | (rw [low_len]; decide))).mono ?_; rintro e w2 ⟨rfl, hb2⟩) | (go_at_call 21; refine (signed_any _ _ _).mono ?_; rintro e w4 ⟨rfl, rfl⟩) | (go_at_call 23; refine (fits_any _ _ _).mono ?_; rintro e w6 ⟨rfl, rfl⟩))
  go_ret
  refine ⟨ret_bool ?_, ?_⟩
  · rw [ByteArray.mk_append_mk, ByteArray.toList_mk, beq_self_eq_true]
  · repeat (first | assumption | (refine below_chain ?_ (by assumption)))
end Go.Proofs.Ytkmccbknmpjkhaa
