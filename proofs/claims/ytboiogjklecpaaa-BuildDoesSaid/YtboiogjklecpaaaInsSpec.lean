/- What an instruction is, as bytes: its form, what is wrong with it, its four bytes, and back. No program in sight. -/
import Derived.Test.YtboiogjklecpaaaBits
import Derived.Test.YtboiogjklecpaaaCut
set_option linter.unusedVariables false
set_option linter.unusedSimpArgs false
namespace Go.Proofs.Ytboiogjklecpaaa
open Go.RowKit
/-- An operation's operands, a letter each: r 114, n 110, t 116, f 102. -/
def formL (op : Int) : List UInt8 :=
  if (3 ≤ op ∧ op ≤ 12) ∨ op = 15 ∨ op = 16 then [114, 114, 114]
  else if op = 2 ∨ op = 13 ∨ op = 14 then [114, 114]
  else if op = 17 ∨ op = 23 ∨ op = 24 then [114]
  else if op = 1 then [114, 110]
  else if op = 19 then [114, 116]
  else if op = 18 then [116]
  else if op = 20 ∨ op = 22 then [102]
  else []
def fitB (c : UInt8) (n : Int) : Bool :=
  if c = 114 then decide (0 ≤ n ∧ n ≤ 7) else if c = 102 then decide (0 ≤ n ∧ n ≤ 15) else if c = 116 then decide (0 ≤ n ∧ n ≤ 199) else decide (-32768 ≤ n ∧ n ≤ 32767)
def checkF : List UInt8 → List Int → Int
  | [], l => if l.all (· == 0) = true then 0 else 4
  | c :: cs, n :: l => if fitB c n = true then checkF cs l else 3
  | _ :: _, [] => 0
def checkI (op a b c : Int) : Int := if op < 0 ∨ 25 < op then 5 else checkF (formL op) [a, b, c]
def wideL (c : UInt8) : Nat := if c = 110 ∨ c = 116 then 2 else 1
def putF : List UInt8 → List Int → List UInt8
  | c :: cs, n :: l => low n (wideL c) ++ putF cs l
  | _, _ => []
def putI (op a b c : Int) : List UInt8 := (low op 1 ++ putF (formL op) [a, b, c]) ++ List.replicate (4 - (1 + (putF (formL op) [a, b, c]).length)) 0
/-- The operands that bytes are, and the bytes behind. -/
def readF : List UInt8 → List UInt8 → List Int × List UInt8
  | [], bs => ([], bs)
  | c :: cs, bs => ((if c = 110 then sgn (ofB (bs.take (wideL c))) 2 else ofB (bs.take (wideL c))) :: (readF cs (bs.drop (wideL c))).1, (readF cs (bs.drop (wideL c))).2)
def getI (l : List UInt8) : (Int × Int × Int × Int) × Int :=
  let op : Int := ofB (l.take 1)
  let r := readF (formL op) (l.drop 1)
  let e := checkI op (r.1.getD 0 0) (r.1.getD 1 0) (r.1.getD 2 0)
  if e ≠ 0 then ((0, 0, 0, 0), e) else if r.2.all (· == 0) = true then ((op, r.1.getD 0 0, r.1.getD 1 0, r.1.getD 2 0), 0) else ((0, 0, 0, 0), 4)
theorem form_cases (op : Int) : (formL op = [114, 114, 114] ∧ 3 ≤ op ∧ op ≤ 16) ∨ (formL op = [114, 114] ∧ 2 ≤ op ∧ op ≤ 14) ∨ (formL op = [114] ∧ 17 ≤ op ∧ op ≤ 24) ∨ (formL op = [114, 110] ∧ op = 1) ∨ (formL op = [114, 116] ∧ op = 19) ∨ (formL op = [116] ∧ op = 18) ∨ (formL op = [102] ∧ 20 ≤ op ∧ op ≤ 22) ∨ (formL op = [] ∧ (op < 0 ∨ op = 0 ∨ op = 21 ∨ 25 ≤ op)) := by
  unfold formL
  repeat' split
  all_goals simp
  all_goals omega
theorem ofB_one (x : UInt8) : ofB [x] = x.toNat := by simp [ofB]
theorem ofB_two (x y : UInt8) : ofB [x, y] = 256 * x.toNat + y.toNat := by simp [ofB]
theorem low_one (n : Int) : low n 1 = [UInt8.ofNat (n % 256).toNat] := by simp [low]
theorem low_two (n : Int) : low n 2 = [UInt8.ofNat (n / 256 % 256).toNat, UInt8.ofNat (n % 256).toNat] := by simp [low]
theorem byte_back (n : Int) : ((UInt8.ofNat (n % 256).toNat).toNat : Int) = n % 256 := by
  rw [UInt8.toNat_ofNat']
  omega
theorem byte_in {n : Int} (h0 : 0 ≤ n) (h1 : n ≤ 255) : ((UInt8.ofNat (n % 256).toNat).toNat : Int) = n := by rw [byte_back]; omega
theorem byte_eq (x : UInt8) {n : Int} (h : n = x.toNat) : UInt8.ofNat (n % 256).toNat = x := by
  subst h
  apply UInt8.toNat_inj.1
  have := x.toNat_lt
  rw [UInt8.toNat_ofNat']
  omega
end Go.Proofs.Ytboiogjklecpaaa
