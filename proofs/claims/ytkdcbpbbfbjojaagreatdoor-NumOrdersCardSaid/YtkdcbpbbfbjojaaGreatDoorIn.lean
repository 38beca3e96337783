import Derived.Test.YtkdcbpbbfbjojaaGreatDoorFl
import Derived.Laws.BitsAllLaws
/- The contracts of math.IsInf, math.Signbit and math.Abs at floats of 64 bits. -/
namespace Go.Proofs.YtkdcbpbbfbjojaaGreatDoor.In
open Go.RowKit Go.Proofs.YtkdcbpbbfbjojaaGreatDoor.Fl
set_option linter.unusedVariables false
set_option linter.unusedSimpArgs false

def absI (a : Nat) : Int := bits .andNot .u64 (a : Int) 9223372036854775808
theorem abs_eq (a : Nat) (ha : a < 18446744073709551616) : (absI a).toNat = FlP.rung a := by
  unfold absI FlP.rung
  rw [u64_andNot (a : Int) 9223372036854775808 (by omega) (by omega) (by decide) (by decide)]
  rw [Int.toNat_natCast, Int.toNat_natCast, show (18446744073709551615 - (9223372036854775808 : Int).toNat) = 2 ^ 63 - 1 by decide, Nat.and_two_pow_sub_one_eq_mod]
set_option maxRecDepth 100000 in
theorem Abs_calls (a : Nat) (w : World) : Calls Tryz.prog 46 #[.float .f64 a] w fun e w' => e = .returned (.float .f64 (absI a).toNat) ∧ w = w' := by
  have h1 := bits_run
  have h2 := frombits_run
  go_enter Tryz.func46, Tryz.ntmps46
  go_wp2
  go_ret
  exact ⟨rfl, rfl⟩
set_option maxRecDepth 100000 in
theorem IsInf_raw (a : Nat) (w : World) : Calls Tryz.prog 28 #[.float .f64 a, .int .i64 0] w fun e w' => e = .returned (.bool (FloatKind.f64.format.order (absI a).toNat 9218868437227405311 == some .gt)) ∧ w = w' := by
  go_enter Tryz.func28, Tryz.ntmps28
  go_wp2_with fail
  refine (Abs_calls _ _).mono ?_
  rintro e w' ⟨rfl, rfl⟩
  go_wp2
  go_ret
  exact ⟨rfl, rfl⟩
theorem isInf_eq (a : Nat) (ha : a < 18446744073709551616) : (FloatKind.f64.format.order (absI a).toNat 9218868437227405311 == some .gt) = FlP.isInf a := by
  rw [abs_eq a ha]
  have hr : FlP.rung a < 9223372036854775808 := by unfold FlP.rung; omega
  have hrr : FlP.rung (FlP.rung a) = FlP.rung a := by unfold FlP.rung; omega
  have hneg : FlP.neg (FlP.rung a) = false := by
    unfold FlP.neg
    rw [Nat.div_eq_of_lt hr]; rfl
  have hm : FlP.skey 9218868437227405311 = 9218868437227405311 := by decide
  have hk : FlP.skey (FlP.rung a) = (FlP.rung a : Int) := by unfold FlP.skey; rw [hneg, hrr]; rfl
  have hnan : FlP.isNaN (FlP.rung a) = FlP.isNaN a := by unfold FlP.isNaN; rw [hrr]
  rw [ord, hnan, show FlP.isNaN 9218868437227405311 = false by decide, Bool.or_false]
  cases hn : FlP.isNaN a
  · rw [if_neg (by decide), cmp_gt, hm, hk]
    unfold FlP.isNaN at hn
    rw [decide_eq_false_iff_not] at hn
    unfold FlP.isInf
    rw [Bool.eq_iff_iff, decide_eq_true_iff, decide_eq_true_iff]
    omega
  · rw [if_pos rfl]
    unfold FlP.isNaN at hn
    rw [decide_eq_true_iff] at hn
    unfold FlP.isInf
    rw [decide_eq_false (by omega)]; rfl
theorem IsInf_calls (a : Nat) (ha : a < 18446744073709551616) (w : World) : Calls Tryz.prog 28 #[.float .f64 a, .int .i64 0] w fun e w' => e = .returned (.bool (FlP.isInf a)) ∧ w = w' := by
  rw [← isInf_eq a ha]; exact IsInf_raw a w
end Go.Proofs.YtkdcbpbbfbjojaaGreatDoor.In
