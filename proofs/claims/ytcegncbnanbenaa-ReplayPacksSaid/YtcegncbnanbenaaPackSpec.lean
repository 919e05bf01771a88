/- Scripts in short: runs of picks as bytes, and back. No program in sight. -/
import Derived.Test.YtcegncbnanbenaaBase
set_option linter.unusedVariables false
set_option linter.unusedSimpArgs false
namespace Go.Proofs.Ytcegncbnanbenaa
open Go.RowKit
abbrev Pk := Int × Int
def fitsP (x : Pk) : Bool := decide (0 ≤ x.1 ∧ x.1 ≤ 255 ∧ 0 ≤ x.2 ∧ x.2 ≤ 255)
def trip (x : Pk) (m : Nat) : List UInt8 := [UInt8.ofNat x.1.toNat, UInt8.ofNat x.2.toNat, UInt8.ofNat m]
/-- The bytes, when m picks like the first one have gone by. -/
def encR : Nat → List Pk → List UInt8
  | _, [] => []
  | m, [x] => trip x m
  | m, x :: y :: r => if y = x ∧ m + 1 < 256 then encR (m + 1) (y :: r) else trip x m ++ encR 0 (y :: r)
theorem encR_cons (m : Nat) (x y : Pk) (r : List Pk) : encR m (x :: y :: r) = if y = x ∧ m + 1 < 256 then encR (m + 1) (y :: r) else trip x m ++ encR 0 (y :: r) := by rw [encR]
/-- How many picks at the front are the same, up to as many as fit. -/
def sameR : Nat → List Pk → Nat
  | _, [] => 0
  | _, [_] => 1
  | m, x :: y :: r => if y = x ∧ m + 1 < 256 then sameR (m + 1) (y :: r) + 1 else 1
theorem sameR_pos : ∀ (m : Nat) (x : Pk) (r : List Pk), 1 ≤ sameR m (x :: r) ∧ sameR m (x :: r) ≤ (x :: r).length
  | m, x, [] => by simp [sameR]
  | m, x, y :: r => by
    rw [sameR]
    split
    · have := sameR_pos (m + 1) y r
      simp at this ⊢; omega
    · simp
theorem sameR_bd : ∀ (m : Nat) (x : Pk) (r : List Pk), m < 256 → m + sameR m (x :: r) ≤ 256
  | m, x, [], h => by simp [sameR]; omega
  | m, x, y :: r, h => by
    rw [sameR]
    split
    · rename_i hc
      have := sameR_bd (m + 1) y r (by omega)
      omega
    · omega
theorem encR_run : ∀ (m : Nat) (x : Pk) (r : List Pk), encR m (x :: r) = trip x (m + sameR m (x :: r) - 1) ++ encR 0 ((x :: r).drop (sameR m (x :: r)))
  | m, x, [] => by simp [encR, sameR]
  | m, x, y :: r => by
    rw [encR, sameR]
    split
    · rename_i hc
      obtain ⟨rfl, h2⟩ := hc
      rw [encR_run (m + 1) y r]
      have h1 := (sameR_pos (m + 1) y r).1
      rw [show m + (sameR (m + 1) (y :: r) + 1) - 1 = m + 1 + sameR (m + 1) (y :: r) - 1 by omega, List.drop_succ_cons]
    · simp
/-- The script that bytes are. -/
def decP : List UInt8 → List Pk
  | a :: b :: c :: r => List.replicate (c.toNat + 1) ((a.toNat : Int), (b.toNat : Int)) ++ decP r
  | _ => []
theorem byte_nat {n : Nat} (h : n < 256) : (UInt8.ofNat n).toNat = n := by rw [UInt8.toNat_ofNat']; omega
theorem dec_trip {x : Pk} (hx : fitsP x = true) {m : Nat} (hm : m < 256) (r : List UInt8) : decP (trip x m ++ r) = List.replicate (m + 1) x ++ decP r := by
  obtain ⟨a, b⟩ := x
  simp [fitsP] at hx
  show decP (UInt8.ofNat a.toNat :: UInt8.ofNat b.toNat :: UInt8.ofNat m :: r) = _
  rw [decP, byte_nat hm, byte_nat (show a.toNat < 256 by omega), byte_nat (show b.toNat < 256 by omega)]
  congr 2
  simp; omega
/-- Packed and unpacked. -/
theorem dec_enc : ∀ (l : List Pk) (m : Nat) (x : Pk), (∀ y ∈ x :: l, fitsP y = true) → m < 256 → decP (encR m (x :: l)) = List.replicate m x ++ (x :: l)
  | [], m, x, h, hm => by
    have := dec_trip (h x (by simp)) hm []
    rw [List.append_nil] at this
    rw [encR, this, List.replicate_succ']
    simp [decP]
  | y :: l, m, x, h, hm => by
    rw [encR]
    split
    · rename_i hc
      obtain ⟨rfl, h2⟩ := hc
      rw [dec_enc l (m + 1) y (fun z hz => h z (List.mem_cons_of_mem _ hz)) h2, List.replicate_succ', List.append_assoc]
      rfl
    · rw [dec_trip (h x (by simp)) hm, dec_enc l 0 y (fun z hz => h z (List.mem_cons_of_mem _ hz)) (by decide), List.replicate_succ']
      simp
theorem dec_enc0 (l : List Pk) (h : ∀ y ∈ l, fitsP y = true) : decP (encR 0 l) = l := by
  cases l with
  | nil => rfl
  | cons x l => rw [dec_enc l 0 x h (by decide)]; rfl
theorem enc_len3 : ∀ (m : Nat) (l : List Pk), ∃ n, (encR m l).length = 3 * n
  | _, [] => ⟨0, rfl⟩
  | m, [x] => ⟨1, rfl⟩
  | m, x :: y :: r => by
    rw [encR]
    split
    · exact enc_len3 (m + 1) (y :: r)
    · obtain ⟨n, hn⟩ := enc_len3 0 (y :: r)
      exact ⟨n + 1, by rw [List.length_append, hn]; simp [trip]; omega⟩
theorem enc_mono : ∀ (l : List Pk) (y : Pk) (m1 m2 : Nat), m1 ≤ m2 → m2 < 256 → (encR m1 (y :: l)).length ≤ (encR m2 (y :: l)).length ∧ (encR m2 (y :: l)).length ≤ 3 + (encR m1 (y :: l)).length
  | [], y, m1, m2, _, _ => by simp [encR, trip]
  | z :: l, y, m1, m2, h1, h2 => by
    rw [encR_cons, encR_cons]
    by_cases hz : z = y
    · by_cases c2 : m2 + 1 < 256
      · rw [if_pos (show z = y ∧ m1 + 1 < 256 from ⟨hz, by omega⟩), if_pos (show z = y ∧ m2 + 1 < 256 from ⟨hz, c2⟩)]
        exact enc_mono l z (m1 + 1) (m2 + 1) (by omega) c2
      · rw [if_neg (show ¬ (z = y ∧ m2 + 1 < 256) from fun h => c2 h.2)]
        by_cases c1 : m1 + 1 < 256
        · rw [if_pos (show z = y ∧ m1 + 1 < 256 from ⟨hz, c1⟩), List.length_append]
          have := enc_mono l z 0 (m1 + 1) (by omega) c1
          simp [trip]; omega
        · rw [if_neg (show ¬ (z = y ∧ m1 + 1 < 256) from fun h => c1 h.2), List.length_append, List.length_append]
          simp [trip]
    · rw [if_neg (show ¬ (z = y ∧ m1 + 1 < 256) from fun h => hz h.1), if_neg (show ¬ (z = y ∧ m2 + 1 < 256) from fun h => hz h.1), List.length_append, List.length_append]
      simp [trip]
theorem enc_one (x : Pk) (r : List Pk) (m : Nat) (hm : m < 256) : (encR m (x :: r)).length ≤ 3 + (encR 0 r).length := by
  cases r with
  | nil => simp [encR, trip]
  | cons y r =>
    rw [encR]
    split
    · rename_i hc
      exact (enc_mono r y 0 (m + 1) (by omega) hc.2).2
    · rw [List.length_append]; simp [trip]
theorem enc_rep (x : Pk) (r : List Pk) : ∀ (a m : Nat), m + (a + 1) ≤ 256 → (encR m (List.replicate (a + 1) x ++ r)).length ≤ 3 + (encR 0 r).length
  | 0, m, h => by
    show (encR m (x :: r)).length ≤ _
    exact enc_one x r m (by omega)
  | a + 1, m, h => by
    have ih := enc_rep x r a (m + 1) (by omega)
    rw [show List.replicate (a + 1 + 1) x ++ r = x :: x :: (List.replicate a x ++ r) by simp [List.replicate_succ]]
    rw [show List.replicate (a + 1) x ++ r = x :: (List.replicate a x ++ r) by simp [List.replicate_succ]] at ih
    rw [encR, if_pos ⟨rfl, by omega⟩]
    exact ih
/-- Unpacked and packed is no longer than it was. -/
theorem enc_dec : ∀ (s : List UInt8), (encR 0 (decP s)).length ≤ s.length
  | [] => by simp [decP, encR]
  | [_] => by simp [decP, encR]
  | [_, _] => by simp [decP, encR]
  | a :: b :: c :: r => by
    have h := enc_rep ((a.toNat : Int), (b.toNat : Int)) (decP r) c.toNat 0 (by have := c.toNat_lt; omega)
    have ih := enc_dec r
    rw [decP]
    simp at h ⊢
    omega
theorem dec_fits : ∀ (s : List UInt8), ∀ x ∈ decP s, fitsP x = true
  | [], x, h => by simp [decP] at h
  | [_], x, h => by simp [decP] at h
  | [_, _], x, h => by simp [decP] at h
  | a :: b :: c :: r, x, h => by
    rw [decP] at h
    rcases List.mem_append.1 h with h | h
    · have := List.eq_of_mem_replicate h
      subst this
      have h1 := a.toNat_lt
      have h2 := b.toNat_lt
      simp [fitsP]; omega
    · exact dec_fits r x h
end Go.Proofs.Ytcegncbnanbenaa
