import Derived.Test.YtkdcbpbbfbjojaaGreatDoorFl
import Derived.Below
import Derived.Deep.QuietTactic
import Derived.BigQuiet
/- NumOrders: its walk, once the fixed fact (alive) holds. -/
namespace Go.Proofs.YtkdcbpbbfbjojaaGreatDoor.Ord
open Go.RowKit Go.Proofs.YtkdcbpbbfbjojaaGreatDoor.Fl
set_option linter.unusedVariables false
set_option linter.unusedSimpArgs false

def LB (a b : Nat) : Bool := decide (rankI a < rankI b)
def EB (a b : Nat) : Bool := rankI a == rankI b
def NB (a : Nat) : Bool := FlP.isNaN a

theorem Less_b (a b : Nat) (w : World) : Calls Tryz.prog 18 #[.float .f64 a, .float .f64 b] w fun e w' => e = .returned (.bool (LB a b)) ∧ w = w' := Less_calls a b w
theorem Same_b (a b : Nat) (w : World) : Calls Tryz.prog 20 #[.float .f64 a, .float .f64 b] w fun e w' => e = .returned (.bool (EB a b)) ∧ w = w' := Same_calls a b w
theorem refLess_b (a b : Nat) (ha : a < 18446744073709551616) (hb : b < 18446744073709551616) (w : World) : Calls Tryz.prog 19 #[.float .f64 a, .float .f64 b] w fun e w' => e = .returned (.bool (LB a b)) ∧ w = w' := by
  unfold LB; rw [rank_lt a b ha hb]; exact refLess_calls a b ha hb w
theorem NaN_b (a : Nat) (w : World) : Calls Tryz.prog 21 #[.float .f64 a] w fun e w' => e = .returned (.bool (NB a)) ∧ w = w' := by
  unfold NB; rw [← ne_self]; exact IsNaN_calls a w

theorem L_trans {a b c : Nat} (h1 : LB a b = true) (h2 : LB b c = true) : LB a c = true := by
  unfold LB at *; simp only [decide_eq_true_eq] at *; omega
theorem L_irr (a : Nat) : LB a a = false := by unfold LB; simp
theorem E_refl (a : Nat) : EB a a = true := by unfold EB; simp
theorem E_def (a b : Nat) : EB a b = (!LB a b && !LB b a) := by
  unfold EB LB
  rw [Bool.eq_iff_iff]
  simp only [beq_iff_eq, Bool.and_eq_true, Bool.not_eq_true', decide_eq_false_iff_not]
  omega
theorem E_iff (a b : Nat) (ha : a < 18446744073709551616) (hb : b < 18446744073709551616) : EB a b = (((a : Int) == (b : Int)) || (NB a && NB b)) := by
  unfold EB NB; rw [rank_eq a b ha hb]; congr 1; rw [Bool.eq_iff_iff]; simp only [beq_iff_eq]; omega

set_option maxHeartbeats 4000000 in
theorem NumOrders_calls (x y z : Nat) (hx : x < 18446744073709551616) (hy : y < 18446744073709551616) (hz : z < 18446744073709551616) (w : World)
    (hal : Calls Tryz.prog 6 #[] w fun e w' => e = .returned (.bool true) ∧ Below w.heap.size w w') :
    Calls Tryz.prog 5 #[.int .u64 x, .int .u64 y, .int .u64 z] w fun e w' => e = .returned (.bool true) ∧ Below w.heap.size w w' := by
  have f1 := frombits_run
  have E1 := E_iff x y hx hy
  have E2 := E_def x y
  have HX := Lib.hid hx
  have HY := Lib.hid hy
  have HZ := Lib.hid hz
  have T1 := Lib.hid (@L_trans x y z)
  have l1 := L_irr x
  have e1 := E_refl x
  clear hx hy hz
  have hw : ((x : Int) == (y : Int)) = true ∨ ((x : Int) == (y : Int)) = false := by cases ((x : Int) == (y : Int)) <;> simp
  cases h1 : LB x y <;> cases h2 : LB y x <;> cases h3 : EB x y <;> cases h4 : NB x <;> cases h5 : NB y <;> rcases hw with h6 | h6 <;> rw [h1, h2, h3] at E2 <;> rw [h3, h4, h5, h6] at E1 <;> first | (exact absurd E1 (by decide)) | (exact absurd E2 (by decide)) | skip
  all_goals clear E1 E2
  all_goals cases h7 : LB y z <;> cases h8 : LB x z <;> first | (exact absurd (T1.out h1 h7) (by rw [h8]; decide)) | skip
  all_goals clear T1
  all_goals
    go_enter Tryz.func5, Tryz.ntmps5
    go_wp2_with fail
    refine hal.mono ?_
    rintro e w1 ⟨rfl, hb⟩
    go_wp2_with (first | (go_at_call 18; refine (Less_b _ _ _).mono ?_; rintro e w' ⟨rfl, rfl⟩) | (go_at_call 20; refine (Same_b _ _ _).mono ?_; rintro e w' ⟨rfl, rfl⟩) | (go_at_call 19; refine (refLess_b _ _ ?_ ?_ _).mono ?_; (first | exact HX.out | exact HY.out | exact HZ.out); (first | exact HX.out | exact HY.out | exact HZ.out); rintro e w' ⟨rfl, rfl⟩) | (go_at_call 21; refine (NaN_b _ _).mono ?_; rintro e w' ⟨rfl, rfl⟩) | (go_at_call 10; refine (same_calls _ _ _).mono ?_; rintro e w' ⟨rfl, rfl⟩))
    go_ret
    exact ⟨rfl, hb⟩
end Go.Proofs.YtkdcbpbbfbjojaaGreatDoor.Ord
