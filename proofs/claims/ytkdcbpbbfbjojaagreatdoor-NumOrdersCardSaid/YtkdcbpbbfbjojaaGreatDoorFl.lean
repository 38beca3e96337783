import Derived.Test.YtkdcbpbbfbjojaaGreatDoorProg
import Derived.WalkKit
import Derived.RowKit3
import Derived.KernelRfl
import Derived.Laws.FloatArith
import Derived.Laws.Externs
import Derived.WalkLawsBesides
import Derived.Outline
import Derived.Lib.Hide
import Derived.Test.YtkdcbpbbfbjojaaGreatDoorFlP
/- The contracts of math.Float64bits, math.Float64frombits and their kin: what each call returns. -/
namespace Go.Proofs.YtkdcbpbbfbjojaaGreatDoor.Fl
open Go.RowKit
set_option linter.unusedVariables false
set_option linter.unusedSimpArgs false

theorem bits_run (a : Nat) (w : World) : (callFunc 29 #[.float .f64 a]).run Tryz.prog w = .ok (.value (.int .u64 a)) w := by
  rw [run_callFunc_extern (e := Extern.MathFloatBits.float64bits) Tryz.func29 (by kernel_rfl) (by kernel_rfl) (by kernel_rfl) (by kernel_rfl)]; rfl
theorem frombits_run (a : Int) (w : World) : (callFunc 17 #[.int .u64 a]).run Tryz.prog w = .ok (.value (.float .f64 a.toNat)) w := by
  rw [run_callFunc_extern (e := Extern.MathFloatBits.float64frombits) Tryz.func17 (by kernel_rfl) (by kernel_rfl) (by kernel_rfl) (by kernel_rfl)]; rfl
theorem sbits_run (a : Nat) (w : World) : (callFunc 103 #[.float .f64 a]).run Tryz.prog w = .ok (.value (.int .u64 a)) w := by
  rw [run_callFunc_extern (e := Extern.MathFloatBits.float64bits) Tryz.func103 (by kernel_rfl) (by kernel_rfl) (by kernel_rfl) (by kernel_rfl)]; rfl
theorem sfrombits_run (a : Int) (w : World) : (callFunc 129 #[.int .u64 a]).run Tryz.prog w = .ok (.value (.float .f64 a.toNat)) w := by
  rw [run_callFunc_extern (e := Extern.MathFloatBits.float64frombits) Tryz.func129 (by kernel_rfl) (by kernel_rfl) (by kernel_rfl) (by kernel_rfl)]; rfl

theorem IsNaN_calls (a : Nat) (w : World) : Calls Tryz.prog 21 #[.float .f64 a] w fun e w' => e = .returned (.bool (FloatKind.f64.format.order a a != some .eq)) ∧ w = w' := by
  go_enter Tryz.func21, Tryz.ntmps21
  go_wp2
  go_ret
  exact ⟨rfl, rfl⟩

theorem same_calls (a b : Nat) (w : World) : Calls Tryz.prog 10 #[.float .f64 a, .float .f64 b] w fun e w' => e = .returned (.bool ((a : Int) == (b : Int))) ∧ w = w' := by
  have h1 := bits_run
  go_enter Tryz.func10, Tryz.ntmps10
  go_wp2
  go_ret
  exact ⟨rfl, rfl⟩


def rankI (a : Nat) : Int := if (FloatKind.f64.format.order a a != some .eq) = true then 18446744073709551615 else if wrap64 (a : Int) < 0 then bits .xor .u64 IntKind.u64.max (a : Int) else bits .or .u64 (a : Int) 9223372036854775808

theorem ret_int {k : IntKind} {a b : Int} (h : a = b) : Ending.returned (.int k a) = .returned (.int k b) := by rw [h]
theorem ret_bool {a b : Bool} (h : a = b) : Ending.returned (.bool a) = .returned (.bool b) := by rw [h]

theorem rank_calls (a : Nat) (w : World) : Calls Tryz.prog 33 #[.float .f64 a] w fun e w' => e = .returned (.int .u64 (rankI a)) ∧ w = w' := by
  have h1 := bits_run
  by_cases hn : (FloatKind.f64.format.order a a != some Ordering.eq) = true
  · have e1 : rankI a = 18446744073709551615 := by unfold rankI; rw [if_pos hn]
    have E1 := Lib.hid e1
    clear e1
    go_enter Tryz.func33, Tryz.ntmps33
    go_wp2
    go_ret
    exact ⟨ret_int E1.out.symm, rfl⟩
  · have hn' : (FloatKind.f64.format.order a a != some Ordering.eq) = false := by simpa using hn
    by_cases hs : wrap64 (a : Int) < 0
    · have e1 : rankI a = bits .xor .u64 IntKind.u64.max (a : Int) := by unfold rankI; rw [if_neg hn, if_pos hs]
      have E1 := Lib.hid e1
      clear e1 hn
      have hs' : decide (wrap64 (a : Int) < 0) = true := decide_eq_true hs
      go_enter Tryz.func33, Tryz.ntmps33
      go_wp2
      go_ret
      exact ⟨ret_int E1.out.symm, rfl⟩
    · have e1 : rankI a = bits .or .u64 (a : Int) 9223372036854775808 := by unfold rankI; rw [if_neg hn, if_neg hs]
      have E1 := Lib.hid e1
      clear e1 hn
      have hs' : decide (wrap64 (a : Int) < 0) = false := decide_eq_false hs
      go_enter Tryz.func33, Tryz.ntmps33
      go_wp2
      go_ret
      exact ⟨ret_int E1.out.symm, rfl⟩

theorem Less_calls (a b : Nat) (w : World) : Calls Tryz.prog 18 #[.float .f64 a, .float .f64 b] w fun e w' => e = .returned (.bool (decide (rankI a < rankI b))) ∧ w = w' := by
  go_enter Tryz.func18, Tryz.ntmps18
  go_wp2_with fail
  refine (rank_calls _ _).mono ?_
  rintro e w' ⟨rfl, rfl⟩
  go_wp2_with fail
  refine (rank_calls _ _).mono ?_
  rintro e w' ⟨rfl, rfl⟩
  go_wp2
  go_ret
  exact ⟨rfl, rfl⟩

theorem Same_calls (a b : Nat) (w : World) : Calls Tryz.prog 20 #[.float .f64 a, .float .f64 b] w fun e w' => e = .returned (.bool (rankI a == rankI b)) ∧ w = w' := by
  go_enter Tryz.func20, Tryz.ntmps20
  go_wp2_with fail
  refine (rank_calls _ _).mono ?_
  rintro e w' ⟨rfl, rfl⟩
  go_wp2_with fail
  refine (rank_calls _ _).mono ?_
  rintro e w' ⟨rfl, rfl⟩
  go_wp2
  go_ret
  exact ⟨rfl, rfl⟩


abbrev refLessB (a b : Nat) : Bool := if (FloatKind.f64.format.order a a != some .eq) = true then false else if (FloatKind.f64.format.order b b != some .eq) = true then true
  else if (FloatKind.f64.format.order a 0 == some .eq) = true ∧ (FloatKind.f64.format.order b 0 == some .eq) = true then (a == 9223372036854775808 && b == 0) else FloatKind.f64.format.order a b == some .lt

theorem quo_one (a r : Nat) (h : floatBits .quo .f64 4607182418800017408 a = some r) (t : TypeId) (w : World) : (binOp .quo t (.float .f64 4607182418800017408) (.float .f64 a)).run Tryz.prog w = .ok (.float .f64 r) w := run_float_arith w .quo t .f64 _ _ _ h

theorem zero_of (a : Nat) (ha : a < 18446744073709551616) (h : (FloatKind.f64.format.order a 0 == some .eq) = true) : a = 0 ∨ a = 9223372036854775808 := by
  have h' : FloatKind.f64.format.order a 0 = some .eq := by simpa using h
  change Ieee.double.order a 0 = some .eq at h'
  rw [FlP.order_eq] at h'
  split at h'
  · cases h'
  · simp only [FlP.skey, show FlP.neg 0 = false by decide, show FlP.rung 0 = 0 by decide, Option.some.injEq, compare, compareOfLessAndEq] at h'
    have hr : FlP.rung a = 0 := by
      cases hn : FlP.neg a <;> simp only [hn, if_true, if_false, Bool.false_eq_true] at h' <;> (repeat' split at h') <;> first | (cases h'; done) | omega
    unfold FlP.rung at hr
    omega

theorem refLess_calls (a b : Nat) (ha : a < 18446744073709551616) (hb : b < 18446744073709551616) (w : World) : Calls Tryz.prog 19 #[.float .f64 a, .float .f64 b] w fun e w' => e = .returned (.bool (refLessB a b)) ∧ w = w' := by
  by_cases hna : (FloatKind.f64.format.order a a != some Ordering.eq) = true
  · have E1 := Lib.hid (show refLessB a b = false by unfold refLessB; rw [if_pos hna])
    go_enter Tryz.func19, Tryz.ntmps19
    go_wp2
    go_ret
    exact ⟨ret_bool E1.out.symm, rfl⟩
  have hna' : (FloatKind.f64.format.order a a != some Ordering.eq) = false := by simpa using hna
  by_cases hnb : (FloatKind.f64.format.order b b != some Ordering.eq) = true
  · have E1 := Lib.hid (show refLessB a b = true by unfold refLessB; rw [if_neg hna, if_pos hnb])
    clear hna
    go_enter Tryz.func19, Tryz.ntmps19
    go_wp2
    go_ret
    exact ⟨ret_bool E1.out.symm, rfl⟩
  have hnb' : (FloatKind.f64.format.order b b != some Ordering.eq) = false := by simpa using hnb
  by_cases hz : (FloatKind.f64.format.order a 0 == some Ordering.eq) = true
  · by_cases hy : (FloatKind.f64.format.order b 0 == some Ordering.eq) = true
    · have E1 := Lib.hid (show refLessB a b = (a == 9223372036854775808 && b == 0) by unfold refLessB; rw [if_neg hna, if_neg hnb, if_pos ⟨hz, hy⟩])
      have q0 := quo_one 0 9218868437227405312 (by kernel_rfl)
      have q1 := quo_one 9223372036854775808 18442240474082181120 (by kernel_rfl)
      have o1 : FloatKind.f64.format.order 9218868437227405312 0 = some Ordering.gt := by kernel_rfl
      have o2 : FloatKind.f64.format.order 18442240474082181120 0 = some Ordering.lt := by kernel_rfl
      rcases zero_of a ha hz with rfl | rfl <;> rcases zero_of b hb hy with rfl | rfl
      all_goals
        clear hna hnb
        go_enter Tryz.func19, Tryz.ntmps19
        go_wp2
        go_ret
        exact ⟨ret_bool (by rw [E1.out]; rfl), rfl⟩
    · have E1 := Lib.hid (show refLessB a b = (FloatKind.f64.format.order a b == some .lt) by unfold refLessB; rw [if_neg hna, if_neg hnb, if_neg (fun h => hy h.2)])
      have hy' : (FloatKind.f64.format.order b 0 == some Ordering.eq) = false := by simpa using hy
      clear hna hnb hy
      go_enter Tryz.func19, Tryz.ntmps19
      go_wp2
      go_ret
      exact ⟨ret_bool E1.out.symm, rfl⟩
  · have E1 := Lib.hid (show refLessB a b = (FloatKind.f64.format.order a b == some .lt) by unfold refLessB; rw [if_neg hna, if_neg hnb, if_neg (fun h => hz h.1)])
    have hz' : (FloatKind.f64.format.order a 0 == some Ordering.eq) = false := by simpa using hz
    clear hna hnb hz
    go_enter Tryz.func19, Tryz.ntmps19
    go_wp2
    go_ret
    exact ⟨ret_bool E1.out.symm, rfl⟩

theorem rankI_eq (a : Nat) (ha : a < 18446744073709551616) : rankI a = if FlP.isNaN a = true then 18446744073709551615 else if FlP.neg a = true then 18446744073709551615 - (a : Int) else (a : Int) + 9223372036854775808 := by
  have hn : (FloatKind.f64.format.order a a != some .eq) = FlP.isNaN a := by
    change (Ieee.double.order a a != some .eq) = _
    rw [FlP.order_eq]
    cases h : FlP.isNaN a
    · simp [compare, compareOfLessAndEq]
    · simp
  have hs : wrap64 (a : Int) < 0 ↔ FlP.neg a = true := by
    unfold FlP.neg wrap64
    simp only [beq_iff_eq]
    omega
  unfold rankI
  rw [hn]
  by_cases h1 : FlP.isNaN a = true
  · rw [if_pos h1, if_pos h1]
  · rw [if_neg h1, if_neg h1]
    have hd : FlP.neg a = true ↔ 9223372036854775808 ≤ a := by unfold FlP.neg; simp only [beq_iff_eq]; omega
    by_cases h2 : FlP.neg a = true
    · rw [if_pos (hs.2 h2), if_pos h2]
      have := bits_xor_u64_nat 18446744073709551615 a (by decide) ha
      rw [show (IntKind.u64.max : Int) = ((18446744073709551615 : Nat) : Int) by decide, this]
      have hx : 18446744073709551615 ^^^ a = 18446744073709551615 - a := by
        rw [Nat.xor_comm]
        apply Nat.eq_of_testBit_eq
        intro i
        rw [show 18446744073709551615 - a = 2 ^ 64 - (a + 1) by omega, Nat.testBit_two_pow_sub_succ ha, Nat.testBit_xor, show (18446744073709551615 : Nat) = 2 ^ 64 - 1 by decide, Nat.testBit_two_pow_sub_one]
        by_cases hi : i < 64
        · simp [hi]
        · have : a.testBit i = false := Nat.testBit_lt_two_pow (Nat.lt_of_lt_of_le ha (Nat.pow_le_pow_right (n := 2) (by decide) (by omega : 64 ≤ i)))
          simp [hi, this]
      rw [hx]
      omega
    · rw [if_neg (fun h => h2 (hs.1 h)), if_neg h2]
      have hlt : ¬ 9223372036854775808 ≤ a := fun h => h2 (hd.2 h)
      replace hlt : a < 9223372036854775808 := by omega
      have := bits_or_u64_nat a 9223372036854775808 ha (by decide)
      rw [show (9223372036854775808 : Int) = ((9223372036854775808 : Nat) : Int) by decide, this]
      have : a ||| 9223372036854775808 = a + 9223372036854775808 := by
        rw [Nat.or_comm]
        have := Nat.two_pow_add_eq_or_of_lt (i := 63) (b := a) hlt 1
        rw [show (9223372036854775808 : Nat) = 2 ^ 63 * 1 by decide, ← this]
        omega
      rw [this]
      omega

theorem cmp_lt (x y : Int) : (some (compare x y) == some Ordering.lt) = decide (x < y) := by
  simp only [compare, compareOfLessAndEq]
  (repeat' split) <;> simp_all
theorem cmp_eq (x y : Int) : (some (compare x y) == some Ordering.eq) = decide (x = y) := by
  simp only [compare, compareOfLessAndEq]
  (repeat' split) <;> simp_all <;> omega
theorem cmp_gt (x y : Int) : (some (compare x y) == some Ordering.gt) = decide (y < x) := by
  simp only [compare, compareOfLessAndEq]
  (repeat' split) <;> simp_all <;> omega

theorem ord (a b : Nat) : FloatKind.f64.format.order a b = if FlP.isNaN a || FlP.isNaN b then none else some (compare (FlP.skey a) (FlP.skey b)) := FlP.order_eq a b
theorem ne_self (a : Nat) : (FloatKind.f64.format.order a a != some .eq) = FlP.isNaN a := by
  rw [ord]
  cases h : FlP.isNaN a
  · simp [compare, compareOfLessAndEq]
  · simp
theorem ord_lt (a b : Nat) (ha : FlP.isNaN a = false) (hb : FlP.isNaN b = false) : (FloatKind.f64.format.order a b == some .lt) = decide (FlP.skey a < FlP.skey b) := by
  rw [ord, ha, hb]; exact cmp_lt _ _
theorem ord_eq (a b : Nat) (ha : FlP.isNaN a = false) (hb : FlP.isNaN b = false) : (FloatKind.f64.format.order a b == some .eq) = decide (FlP.skey a = FlP.skey b) := by
  rw [ord, ha, hb]; exact cmp_eq _ _
theorem ord_gt (a b : Nat) (ha : FlP.isNaN a = false) (hb : FlP.isNaN b = false) : (FloatKind.f64.format.order a b == some .gt) = decide (FlP.skey b < FlP.skey a) := by
  rw [ord, ha, hb]; exact cmp_gt _ _

theorem skey_cases (a : Nat) (ha : a < 18446744073709551616) : (FlP.neg a = true ∧ 9223372036854775808 ≤ a ∧ FlP.skey a = 9223372036854775808 - (a : Int)) ∨ (FlP.neg a = false ∧ a < 9223372036854775808 ∧ FlP.skey a = (a : Int)) := by
  cases hn : FlP.neg a
  · right
    have h : ¬ (FlP.neg a = true) := by rw [hn]; decide
    unfold FlP.neg at h
    simp only [beq_iff_eq] at h
    refine ⟨rfl, by omega, ?_⟩
    unfold FlP.skey FlP.rung
    rw [hn]
    simp only [Bool.false_eq_true, if_false]
    omega
  · left
    have h := hn
    unfold FlP.neg at h
    simp only [beq_iff_eq] at h
    refine ⟨rfl, by omega, ?_⟩
    unfold FlP.skey FlP.rung
    rw [hn]
    simp only [if_true]
    omega
theorem nan_bound (a : Nat) (ha : a < 18446744073709551616) : FlP.isNaN a = true ↔ (9218868437227405312 < a ∧ a < 9223372036854775808) ∨ 18442240474082181120 < a := by
  unfold FlP.isNaN FlP.rung
  rw [decide_eq_true_iff]
  omega

theorem rank_lt (a b : Nat) (ha : a < 18446744073709551616) (hb : b < 18446744073709551616) : decide (rankI a < rankI b) = refLessB a b := by
  unfold refLessB
  rw [rankI_eq a ha, rankI_eq b hb, ne_self, ne_self]
  have na := nan_bound a ha
  have nb := nan_bound b hb
  cases hna : FlP.isNaN a
  · cases hnb : FlP.isNaN b
    · rw [ord_eq a 0 hna (by decide), ord_eq b 0 hnb (by decide), ord_lt a b hna hnb, show FlP.skey 0 = 0 by decide]
      rw [hna] at na
      rw [hnb] at nb
      simp only [Bool.false_eq_true, if_false, decide_eq_true_eq, false_iff, not_or, not_and, Nat.not_lt] at na nb ⊢
      rcases skey_cases a ha with ⟨g1, g2, g3⟩ | ⟨g1, g2, g3⟩ <;> rcases skey_cases b hb with ⟨k1, k2, k3⟩ | ⟨k1, k2, k3⟩ <;> rw [g1, k1, g3, k3] <;> simp only [Bool.false_eq_true, if_false, if_true]
      all_goals
        split
        · rename_i h
          rw [Bool.eq_iff_iff]
          simp only [decide_eq_true_eq, Bool.and_eq_true, beq_iff_eq]
          omega
        · rename_i h
          rw [Bool.eq_iff_iff]
          simp only [decide_eq_true_eq]
          omega
    · rw [hna] at na
      simp only [Bool.false_eq_true, if_false, if_true, false_iff, not_or, not_and, Nat.not_lt] at na ⊢
      rcases skey_cases a ha with ⟨g1, g2, g3⟩ | ⟨g1, g2, g3⟩ <;> rw [g1] <;> simp only [Bool.false_eq_true, if_false, if_true, decide_eq_true_eq] <;> omega
  · cases hnb : FlP.isNaN b
    · simp only [Bool.false_eq_true, if_false, if_true, decide_eq_false_iff_not]
      rcases skey_cases b hb with ⟨g1, g2, g3⟩ | ⟨g1, g2, g3⟩ <;> rw [g1] <;> simp only [Bool.false_eq_true, if_false, if_true] <;> omega
    · simp

theorem rank_eq (a b : Nat) (ha : a < 18446744073709551616) (hb : b < 18446744073709551616) : (rankI a == rankI b) = (a == b || (FlP.isNaN a && FlP.isNaN b)) := by
  rw [rankI_eq a ha, rankI_eq b hb]
  have na := nan_bound a ha
  have nb := nan_bound b hb
  rw [Bool.eq_iff_iff]
  simp only [beq_iff_eq, Bool.or_eq_true, Bool.and_eq_true]
  rcases skey_cases a ha with ⟨g1, g2, g3⟩ | ⟨g1, g2, g3⟩ <;> rcases skey_cases b hb with ⟨k1, k2, k3⟩ | ⟨k1, k2, k3⟩ <;> rw [g1, k1] <;> clear g3 k3 g1 k1 <;> by_cases hna : FlP.isNaN a = true <;> by_cases hnb : FlP.isNaN b = true <;> simp only [hna, hnb, if_true, if_false, Bool.false_eq_true, true_iff, false_iff, and_self, and_true, and_false, or_true, or_false] at na nb ⊢ <;> omega
end Go.Proofs.YtkdcbpbbfbjojaaGreatDoor.Fl
