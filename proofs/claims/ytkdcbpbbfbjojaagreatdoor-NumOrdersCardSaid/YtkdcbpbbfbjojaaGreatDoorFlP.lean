import Ieee.Arith
import GoSem.Core.Float
/- How floats of 64 bits are ordered, by their bits: the order of two floats that are numbers is that of their signed rungs. -/
namespace Go.Proofs.YtkdcbpbbfbjojaaGreatDoor.FlP
open Ieee
set_option linter.unusedVariables false
set_option linter.unusedSimpArgs false

/-- the place above the least, and the digits, of a finite rung -/
def ex (r : Nat) : Nat := r / 4503599627370496 - 1
def mg (r : Nat) : Nat := if r < 4503599627370496 then r else 4503599627370496 + r % 4503599627370496
def vl (r : Nat) : Nat := mg r * 2 ^ ex r

theorem vl_step (r : Nat) : vl r < vl (r + 1) := by
  unfold vl mg ex
  by_cases h1 : r + 1 < 4503599627370496
  · rw [if_pos (by omega), if_pos h1, Nat.div_eq_of_lt h1, Nat.div_eq_of_lt (by omega)]; simp
  · by_cases h2 : r + 1 = 4503599627370496
    · obtain rfl : r = 4503599627370495 := by omega
      decide
    · rw [if_neg (by omega), if_neg (by omega)]
      by_cases h3 : r % 4503599627370496 + 1 < 4503599627370496
      · have e1 : (r + 1) / 4503599627370496 = r / 4503599627370496 := by omega
        have e2 : (r + 1) % 4503599627370496 = r % 4503599627370496 + 1 := by omega
        rw [e1, e2]
        exact Nat.mul_lt_mul_of_pos_right (by omega) (Nat.pow_pos (by decide))
      · have e1 : (r + 1) / 4503599627370496 = r / 4503599627370496 + 1 := by omega
        have e2 : (r + 1) % 4503599627370496 = 0 := by omega
        have e3 : 1 ≤ r / 4503599627370496 := by omega
        rw [e1, e2, show r / 4503599627370496 + 1 - 1 = (r / 4503599627370496 - 1) + 1 by omega, Nat.pow_succ]
        generalize r / 4503599627370496 - 1 = q
        have hp : 0 < 2 ^ q := Nat.pow_pos (by decide)
        have e4 : r % 4503599627370496 = 4503599627370495 := by omega
        rw [e4]
        generalize 2 ^ q = p at hp ⊢
        omega

theorem vl_mono {r s : Nat} (h : r < s) : vl r < vl s := by
  induction s with
  | zero => omega
  | succ s ih =>
    by_cases e : r = s
    · subst e; exact vl_step r
    · exact Nat.lt_trans (ih (by omega)) (vl_step s)

def neg (a : Nat) : Bool := a / 9223372036854775808 % 2 == 1
def rung (a : Nat) : Nat := a % 9223372036854775808
def isNaN (a : Nat) : Bool := decide (9218868437227405312 < rung a)
def isInf (a : Nat) : Bool := decide (rung a = 9218868437227405312)
def skey (a : Nat) : Int := if neg a then - (rung a : Int) else (rung a : Int)

theorem read_eq (a : Nat) : double.read a =
    if rung a < 9218868437227405312 then .number (neg a) (mg (rung a)) (-1074 + (ex (rung a) : Nat))
    else if rung a = 9218868437227405312 then .infinity (neg a) else .nan (neg a) (rung a - 9218868437227405312) := by
  unfold Format.read rung neg mg ex Format.signWeight Format.binade Format.infRung Format.leastPlace Format.binade double
  simp only [show (2 : Nat) ^ (11 + 52) = 9223372036854775808 by decide, show (2 : Nat) ^ 52 = 4503599627370496 by decide, show (2 ^ 11 - 1) * 4503599627370496 = 9218868437227405312 by decide]
  generalize a % 9223372036854775808 = r
  by_cases h1 : r < 4503599627370496
  · rw [if_pos h1, if_pos (by omega), if_pos h1, Nat.div_eq_of_lt h1]; rfl
  · rw [if_neg h1, if_neg h1]
    by_cases h2 : r < 9218868437227405312
    · rw [if_pos h2, if_pos h2]; rfl
    · rw [if_neg h2, if_neg h2]

theorem order_num (s t : Bool) (m n : Nat) (i j : Nat) : (Datum.number s m (-1074 + (i : Nat))).order (.number t n (-1074 + (j : Nat))) =
    some (compare (if s then -((m * 2 ^ i : Nat) : Int) else ((m * 2 ^ i : Nat) : Int)) (if t then -((n * 2 ^ j : Nat) : Int) else ((n * 2 ^ j : Nat) : Int))) := by
  simp only [Datum.order, signed, Nat.shiftLeft_eq]
  congr 1
  by_cases h : i ≤ j
  · obtain ⟨d, rfl⟩ : ∃ d, j = i + d := ⟨j - i, by omega⟩
    rw [show min ((-1074 : Int) + (i : Nat)) (-1074 + ((i + d : Nat) : Int)) = -1074 + (i : Nat) by omega]
    rw [show ((-1074 : Int) + (i : Nat) - (-1074 + (i : Nat))).toNat = 0 by omega, show ((-1074 : Int) + ((i + d : Nat) : Int) - (-1074 + (i : Nat))).toNat = d by omega]
    rw [Nat.pow_zero, Nat.mul_one, Nat.pow_add]
    have hp : (0 : Int) < ((2 ^ i : Nat) : Int) := by have : 0 < 2 ^ i := Nat.pow_pos (by decide); omega
    rw [show ((n * (2 ^ i * 2 ^ d) : Nat) : Int) = ((n * 2 ^ d : Nat) : Int) * ((2 ^ i : Nat) : Int) by push_cast; rw [Int.mul_assoc, Int.mul_comm ((2:Int) ^ d)]]
    rw [show ((m * 2 ^ i : Nat) : Int) = ((m : Nat) : Int) * ((2 ^ i : Nat) : Int) by push_cast; rfl]
    generalize ((2 ^ i : Nat) : Int) = p at hp ⊢
    generalize ((n * 2 ^ d : Nat) : Int) = y
    generalize ((m : Nat) : Int) = x
    have key : ∀ u v : Int, compare (u * p) (v * p) = compare u v := by
      intro u v
      simp only [compare, compareOfLessAndEq]
      have a1 : (u * p < v * p) ↔ u < v := ⟨fun h => Int.lt_of_mul_lt_mul_right h (by omega), fun h => Int.mul_lt_mul_of_pos_right h hp⟩
      have a2 : (u * p = v * p) ↔ u = v := ⟨fun h => Int.eq_of_mul_eq_mul_right (by omega) h, fun h => by rw [h]⟩
      simp only [a1, a2]
    cases s <;> cases t <;> simp only [if_true, if_false, Bool.false_eq_true, ← Int.neg_mul, key]
  · obtain ⟨d, rfl⟩ : ∃ d, i = j + d := ⟨i - j, by omega⟩
    rw [show min ((-1074 : Int) + ((j + d : Nat) : Int)) (-1074 + (j : Nat)) = -1074 + (j : Nat) by omega]
    rw [show ((-1074 : Int) + (j : Nat) - (-1074 + (j : Nat))).toNat = 0 by omega, show ((-1074 : Int) + ((j + d : Nat) : Int) - (-1074 + (j : Nat))).toNat = d by omega]
    rw [Nat.pow_zero, Nat.mul_one, Nat.pow_add]
    have hp : (0 : Int) < ((2 ^ j : Nat) : Int) := by have : 0 < 2 ^ j := Nat.pow_pos (by decide); omega
    rw [show ((m * (2 ^ j * 2 ^ d) : Nat) : Int) = ((m * 2 ^ d : Nat) : Int) * ((2 ^ j : Nat) : Int) by push_cast; rw [Int.mul_assoc, Int.mul_comm ((2:Int) ^ d)]]
    rw [show ((n * 2 ^ j : Nat) : Int) = ((n : Nat) : Int) * ((2 ^ j : Nat) : Int) by push_cast; rfl]
    generalize ((2 ^ j : Nat) : Int) = p at hp ⊢
    generalize ((m * 2 ^ d : Nat) : Int) = y
    generalize ((n : Nat) : Int) = x
    have key : ∀ u v : Int, compare (u * p) (v * p) = compare u v := by
      intro u v
      simp only [compare, compareOfLessAndEq]
      have a1 : (u * p < v * p) ↔ u < v := ⟨fun h => Int.lt_of_mul_lt_mul_right h (by omega), fun h => Int.mul_lt_mul_of_pos_right h hp⟩
      have a2 : (u * p = v * p) ↔ u = v := ⟨fun h => Int.eq_of_mul_eq_mul_right (by omega) h, fun h => by rw [h]⟩
      simp only [a1, a2]
    cases s <;> cases t <;> simp only [if_true, if_false, Bool.false_eq_true, ← Int.neg_mul, key]

theorem vl_zero : vl 0 = 0 := by decide
theorem vl_lt_iff {r s : Nat} : vl r < vl s ↔ r < s := by
  constructor
  · intro h
    by_cases e : r < s
    · exact e
    · by_cases e2 : r = s
      · subst e2; exact absurd h (Nat.lt_irrefl _)
      · exact absurd (Nat.lt_trans h (vl_mono (by omega : s < r))) (Nat.lt_irrefl _)
  · exact vl_mono
theorem vl_eq_iff {r s : Nat} : vl r = vl s ↔ r = s := by
  constructor
  · intro h
    by_cases e : r < s
    · exact absurd h (Nat.ne_of_lt (vl_mono e))
    · by_cases e2 : s < r
      · exact absurd h.symm (Nat.ne_of_lt (vl_mono e2))
      · omega
  · intro h; rw [h]

/-- the order of two floats: none, if one is no number; else that of the signed rungs -/
theorem order_eq (a b : Nat) : double.order a b = if isNaN a || isNaN b then none else some (compare (skey a) (skey b)) := by
  unfold Format.order
  rw [read_eq, read_eq]
  unfold isNaN skey
  generalize rung a = r
  generalize rung b = s
  generalize neg a = x
  generalize neg b = y
  by_cases ha : 9218868437227405312 < r
  · rw [if_neg (by omega), if_neg (by omega), decide_eq_true ha]; simp [Datum.order]
  · by_cases hb : 9218868437227405312 < s
    · rw [if_neg (show ¬ s < 9218868437227405312 by omega), if_neg (show ¬ s = 9218868437227405312 by omega), decide_eq_true hb]
      simp only [Bool.or_true, if_true]
      split <;> first | rfl | (split <;> rfl)
    · rw [decide_eq_false ha, decide_eq_false hb]
      simp only [Bool.or_self, Bool.false_eq_true, if_false]
      have pr := @vl_lt_iff r s
      have pe := @vl_eq_iff r s
      have pr2 := @vl_lt_iff s r
      by_cases h1 : r < 9218868437227405312
      · by_cases h2 : s < 9218868437227405312
        · rw [if_pos h1, if_pos h2, order_num]
          change some (compare (if x = true then -((vl r : Nat) : Int) else ((vl r : Nat) : Int)) (if y = true then -((vl s : Nat) : Int) else ((vl s : Nat) : Int))) = _
          congr 1
          have z1 : vl r = 0 ↔ r = 0 := by rw [← vl_zero]; exact vl_eq_iff
          have z2 : vl s = 0 ↔ s = 0 := by rw [← vl_zero]; exact vl_eq_iff
          generalize vl r = u at *
          generalize vl s = v at *
          cases x <;> cases y <;> simp only [compare, compareOfLessAndEq, if_true, if_false, Bool.false_eq_true] <;> (repeat' split) <;> first | (with_reducible rfl) | (exfalso; omega)
        · have hs : s = 9218868437227405312 := by omega
          rw [if_pos h1, if_neg h2, if_pos hs]
          have hl : r < s := by omega
          have hz : 0 < s := by omega
          clear hs h1 h2 ha hb
          cases x <;> cases y <;> simp only [Datum.order, compare, compareOfLessAndEq, if_true, if_false, Bool.false_eq_true] <;> congr 1 <;> (repeat' split) <;> first | (with_reducible rfl) | (exfalso; omega)
      · have hr : r = 9218868437227405312 := by omega
        by_cases h2 : s < 9218868437227405312
        · rw [if_neg h1, if_pos hr, if_pos h2]
          have hl : s < r := by omega
          have hz : 0 < r := by omega
          clear hr h1 h2 ha hb
          cases x <;> cases y <;> simp only [Datum.order, compare, compareOfLessAndEq, if_true, if_false, Bool.false_eq_true] <;> congr 1 <;> (repeat' split) <;> first | (with_reducible rfl) | (exfalso; omega)
        · have hs : s = r := by omega
          rw [if_neg h1, if_pos hr, if_neg h2, if_pos (by omega), hs]
          have hz : 0 < r := by omega
          clear hs hr h1 h2 ha hb
          cases x <;> cases y <;> simp only [Datum.order, compare, compareOfLessAndEq, if_true, if_false, Bool.false_eq_true, Bool.toNat_true, Bool.toNat_false] <;> congr 1 <;> (repeat' split) <;> first | (with_reducible rfl) | (exfalso; omega)
end Go.Proofs.YtkdcbpbbfbjojaaGreatDoor.FlP
