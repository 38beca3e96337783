import Derived.Test.YtkdcbpbbfbjojaaGreatDoorPe
import Derived.Test.YtkdcbpbbfbjojaaGreatDoorSh
import Derived.Test.YtkdcbpbbfbjojaaGreatDoorWWords
/- The contracts of num.asks, num's exponent, whole and Whole. -/
namespace Go.Proofs.YtkdcbpbbfbjojaaGreatDoor.Nu
open Go.RowKit Go.Proofs.YtkdcbpbbfbjojaaGreatDoorW.PrintWords Go.Proofs.YtkdcbpbbfbjojaaGreatDoor.B Go.Proofs.YtkdcbpbbfbjojaaGreatDoor.Pa Go.Proofs.YtkdcbpbbfbjojaaGreatDoor.Pe Go.Proofs.YtkdcbpbbfbjojaaGreatDoor.Sh
set_option linter.unusedVariables false
set_option linter.unusedSimpArgs false

theorem bcell {W w1 : World} (hb : Below W.heap.size W w1) : (∀ b o, b < W.heap.size → w1.cell? ⟨b, o, none⟩ = W.cell? ⟨b, o, none⟩) ∧ (∀ b o, b < W.heap.size → w1.frozen? ⟨b, o, none⟩ = W.frozen? ⟨b, o, none⟩) :=
  ⟨fun b o h => hb.cell (p := ⟨b, o, none⟩) h, fun b o h => hb.frozen (p := ⟨b, o, none⟩) h⟩
def errV : Option Int → Value
  | none => .nilIface
  | some c => .iface 58 (.int .i64 c)

def asksF (s : ByteArray) : Option Int := if 64 < s.size then some 3 else if (parseF s).2.2.2.2 = true then none else some 2
theorem asks_ok (s : ByteArray) (w : World) (hs : s.size ≤ 140737488351232) (a b c d) (hp : parseF s = (a, b, c, d, true)) (h : s.size ≤ 64) :
    Calls Tryz.prog 22 #[.string s] w fun e w' => e = .returned (.tuple #[.agg #[.bool a, .string b, .string c, .string d], .nilIface]) ∧ Below w.heap.size w w' := by
  have H := parse_calls s; rw [hp] at H; unfold pv at H; simp only [] at H; have HH := Lib.hid H; clear H hp
  go_enter Tryz.func22, Tryz.ntmps22; go_wp2_with fail; refine (HH.out _ hs).mono ?_; rintro e w1 ⟨rfl, hb⟩; obtain ⟨hc, hf⟩ := bcell hb; have hz : w.heap.size < w1.heap.size := (by have := hb.size; simp at this; omega); have hB0 := blk_below (blk_new w (.cells #[.bool false, .string ⟨#[]⟩, .string ⟨#[]⟩, .string ⟨#[]⟩] 51)) hb; go_wp2; refine bodyPost_ret (results_ct rfl _ _ w.heap.size 51 _ (0, 0) _ rfl (blk_alloc (blk_set (blk_set (blk_set (blk_set hB0 0 _) 1 _) 2 _) 3 _) _) Tryz.underlying51 rfl (by kernel_rfl)) rfl ?_; have hb2 := trivial; have hb3 := trivial; have hb4 := trivial; exact ⟨rfl, (by (repeat (first | with_reducible exact Below.refl _ _ | with_reducible refine below_drewN ?_ _ | with_reducible refine Below.setCell ?_ ?_ _ | with_reducible refine below_alloc ?_ ?_ _ | with_reducible refine Below.trans ?_ (Below.mono hb ?_) | with_reducible refine Below.trans ?_ (Below.mono hb2 ?_) | with_reducible refine Below.trans ?_ (Below.mono hb3 ?_) | with_reducible refine Below.trans ?_ (Below.mono hb4 ?_))); all_goals first | exact Nat.le_refl _ | (simp; done) | (simp; omega) | omega)⟩
theorem asks_form (s : ByteArray) (w : World) (hs : s.size ≤ 140737488351232) (a b c d) (hp : parseF s = (a, b, c, d, false)) (h : s.size ≤ 64) :
    Calls Tryz.prog 22 #[.string s] w fun e w' => e = .returned (.tuple #[.agg #[.bool false, .string ⟨#[]⟩, .string ⟨#[]⟩, .string ⟨#[]⟩], errV (some 2)]) ∧ Below w.heap.size w w' := by
  unfold errV
  have H := parse_calls s; rw [hp] at H; unfold pv at H; simp only [] at H; have HH := Lib.hid H; clear H hp
  go_enter Tryz.func22, Tryz.ntmps22; go_wp2_with fail; refine (HH.out _ hs).mono ?_; rintro e w1 ⟨rfl, hb⟩; obtain ⟨hc, hf⟩ := bcell hb; have hz : w.heap.size < w1.heap.size := (by have := hb.size; simp at this; omega); have hB0 := blk_below (blk_new w (.cells #[.bool false, .string ⟨#[]⟩, .string ⟨#[]⟩, .string ⟨#[]⟩] 51)) hb; go_wp2; refine bodyPost_ret (results_ct rfl _ _ w.heap.size 51 _ (0, 0) _ rfl (blk_alloc (blk_set (blk_set (blk_set (blk_set hB0 0 _) 1 _) 2 _) 3 _) _) Tryz.underlying51 rfl (by kernel_rfl)) rfl ?_; have hb2 := trivial; have hb3 := trivial; have hb4 := trivial; exact ⟨rfl, (by (repeat (first | with_reducible exact Below.refl _ _ | with_reducible refine below_drewN ?_ _ | with_reducible refine Below.setCell ?_ ?_ _ | with_reducible refine below_alloc ?_ ?_ _ | with_reducible refine Below.trans ?_ (Below.mono hb ?_) | with_reducible refine Below.trans ?_ (Below.mono hb2 ?_) | with_reducible refine Below.trans ?_ (Below.mono hb3 ?_) | with_reducible refine Below.trans ?_ (Below.mono hb4 ?_))); all_goals first | exact Nat.le_refl _ | (simp; done) | (simp; omega) | omega)⟩
theorem asks_long (s : ByteArray) (w : World) (hs : s.size ≤ 140737488351232) (h : 64 < s.size) :
    Calls Tryz.prog 22 #[.string s] w fun e w' => e = .returned (.tuple #[.agg #[.bool false, .string ⟨#[]⟩, .string ⟨#[]⟩, .string ⟨#[]⟩], errV (some 3)]) ∧ Below w.heap.size w w' := by
  unfold errV
  have hp : parseF s = zz := by unfold parseF; rw [if_pos h]
  unfold zz at hp
  have H := parse_calls s; rw [hp] at H; unfold pv at H; simp only [] at H; have HH := Lib.hid H; clear H hp
  go_enter Tryz.func22, Tryz.ntmps22; go_wp2_with fail; refine (HH.out _ hs).mono ?_; rintro e w1 ⟨rfl, hb⟩; obtain ⟨hc, hf⟩ := bcell hb; have hz : w.heap.size < w1.heap.size := (by have := hb.size; simp at this; omega); have hB0 := blk_below (blk_new w (.cells #[.bool false, .string ⟨#[]⟩, .string ⟨#[]⟩, .string ⟨#[]⟩] 51)) hb; go_wp2; refine bodyPost_ret (results_ct rfl _ _ w.heap.size 51 _ (0, 0) _ rfl (blk_alloc (blk_set (blk_set (blk_set (blk_set hB0 0 _) 1 _) 2 _) 3 _) _) Tryz.underlying51 rfl (by kernel_rfl)) rfl ?_; have hb2 := trivial; have hb3 := trivial; have hb4 := trivial; exact ⟨rfl, (by (repeat (first | with_reducible exact Below.refl _ _ | with_reducible refine below_drewN ?_ _ | with_reducible refine Below.setCell ?_ ?_ _ | with_reducible refine below_alloc ?_ ?_ _ | with_reducible refine Below.trans ?_ (Below.mono hb ?_) | with_reducible refine Below.trans ?_ (Below.mono hb2 ?_) | with_reducible refine Below.trans ?_ (Below.mono hb3 ?_) | with_reducible refine Below.trans ?_ (Below.mono hb4 ?_))); all_goals first | exact Nat.le_refl _ | (simp; done) | (simp; omega) | omega)⟩

end Go.Proofs.YtkdcbpbbfbjojaaGreatDoor.Nu
