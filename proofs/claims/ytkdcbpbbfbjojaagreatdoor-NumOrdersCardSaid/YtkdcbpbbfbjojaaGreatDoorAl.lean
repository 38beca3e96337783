import Derived.Test.YtkdcbpbbfbjojaaGreatDoorFl
import Derived.Test.YtkdcbpbbfbjojaaGreatDoorWn
import Derived.Test.YtkdcbpbbfbjojaaGreatDoorIn
/- The fixed fact of layer 12, its parts: the readings of three texts. -/
namespace Go.Proofs.YtkdcbpbbfbjojaaGreatDoor.Al
open Go.RowKit Go.Proofs.YtkdcbpbbfbjojaaGreatDoor.B Go.Proofs.YtkdcbpbbfbjojaaGreatDoor.Pa Go.Proofs.YtkdcbpbbfbjojaaGreatDoor.Pe Go.Proofs.YtkdcbpbbfbjojaaGreatDoor.Sh Go.Proofs.YtkdcbpbbfbjojaaGreatDoor.Nu Go.Proofs.YtkdcbpbbfbjojaaGreatDoor.Ex Go.Proofs.YtkdcbpbbfbjojaaGreatDoor.Wh Go.Proofs.YtkdcbpbbfbjojaaGreatDoor.Wn Go.Proofs.YtkdcbpbbfbjojaaGreatDoor.Fl Go.Proofs.YtkdcbpbbfbjojaaGreatDoor.In
set_option linter.unusedVariables false
set_option linter.unusedSimpArgs false

set_option maxRecDepth 100000 in
set_option maxHeartbeats 1000000 in
theorem read0 (w : World) :
    Calls Tryz.prog 120 #[.string ⟨#[45, 48, 46, 48]⟩] w fun e w' => e = .returned (.tuple #[.int .u64 0, .int .i64 0, .bool true, .bool false, .bool false, .int .i64 4, .bool true]) ∧ w = w' := by
  go_enter Tryz.func120, Tryz.ntmps120
  go_wp2
  go_step3
  go_wp2
  go_step3
  go_wp2
  go_rounds 6
  rw [Exit.noGoto_ret]
  change bodyPost Tryz.prog Tryz.f120 _ _ _ _
  go_returns
  exact ⟨rfl, rfl⟩
set_option maxHeartbeats 1000000 in
theorem special0 (w : World) :
    Calls Tryz.prog 119 #[.string ⟨#[45, 48, 46, 48]⟩] w fun e w' => e = .returned (.tuple #[.float .f64 0, .int .i64 0, .bool false]) ∧ w = w' := by
  go_enter Tryz.func119, Tryz.ntmps119
  go_wp2
  go_rounds 2
  go_returns
  exact ⟨rfl, rfl⟩

set_option maxRecDepth 100000 in
set_option maxHeartbeats 1000000 in
theorem atof0 (w : World) (ho : w.cell? ⟨4, 0, none⟩ = some (.bool true)) :
    Calls Tryz.prog 96 #[.string ⟨#[45, 48, 46, 48]⟩] w fun e w' => e = .returned (.tuple #[.float .f64 9223372036854775808, .int .i64 4, .nilIface]) ∧ w = w' := by
  have hx := sfrombits_run
  go_enter Tryz.func96, Tryz.ntmps96
  go_wp2_with (first | (go_at_call 119; refine (special0 _).mono ?_; rintro e w' ⟨rfl, rfl⟩) | (go_at_call 120; refine (read0 _).mono ?_; rintro e w' ⟨rfl, rfl⟩) | (go_at_call 128; go_in))
  go_returns
  exact ⟨rfl, rfl⟩

theorem opt_cell {w : World} (G : Glob w) : w.cell? ⟨4, 0, none⟩ = some (.bool true) := by
  rw [World.var?_cell (P := Tryz.prog) (by kernel_rfl) G.opt]; rfl
theorem pf0 (w : World) (G : Glob w) :
    Calls Tryz.prog 27 #[.string ⟨#[45, 48, 46, 48]⟩, .int .i64 64] w fun e w' => e = .returned (.tuple #[.float .f64 9223372036854775808, .nilIface]) ∧ w = w' := by
  have ho := opt_cell G
  have HO := Lib.hid ho
  clear ho G
  go_enter Tryz.func27, Tryz.ntmps27
  go_wp2_with (first | (go_at_call 45; go_in) | (go_at_call 72; go_in) | (go_at_call 96; refine (atof0 _ HO.out).mono ?_; rintro e w' ⟨rfl, rfl⟩))
  go_returns
  exact ⟨rfl, rfl⟩
def s0 : ByteArray := ⟨#[45, 48, 46, 48]⟩
theorem Float0 (w : World) (G : Glob w) :
    Calls Tryz.prog 9 #[.string ⟨#[45, 48, 46, 48]⟩] w fun e w' => e = .returned (.tuple #[.float .f64 9223372036854775808, .nilIface]) ∧ Below w.heap.size w w' := by
  have HP := Lib.hid (show parseF s0 = (true, ⟨#[48]⟩, ⟨#[48]⟩, ⟨#[]⟩, true) by kernel_rfl)
  have G0 := Lib.hid G
  clear G
  go_enter Tryz.func9, Tryz.ntmps9
  go_wp2_with fail
  refine (asks_ok s0 _ (by decide) _ _ _ _ HP.out (by decide)).mono ?_
  rintro e w1 ⟨rfl, hb⟩
  have G1 := Lib.hid (Glob.below G0.out hb)
  go_wp2_with fail
  refine (pf0 _ (Glob.alloc G1.out _)).mono ?_
  rintro e w' ⟨rfl, rfl⟩
  have hi : FlP.isInf 9223372036854775808 = false := by decide
  have HI := Lib.hid hi
  clear hi
  go_wp2_with fail
  refine (IsInf_calls 9223372036854775808 (by decide) _).mono ?_
  rw [HI.out]
  rintro e w' ⟨rfl, rfl⟩
  go_wp2_with fail
  go_returns
  have hb2 := trivial
  have hb3 := trivial
  have hb4 := trivial
  have hz1 := hb.size
  exact ⟨rfl, (by (repeat (first | with_reducible exact Below.refl _ _ | with_reducible refine below_drewN ?_ _ | with_reducible refine Below.drew ?_ | with_reducible refine Below.setCell ?_ ?_ _ | with_reducible refine below_alloc ?_ ?_ _ | with_reducible refine Below.trans ?_ (Below.mono hb ?_) | with_reducible refine Below.trans ?_ (Below.mono hb2 ?_) | with_reducible refine Below.trans ?_ (Below.mono hb3 ?_) | with_reducible refine Below.trans ?_ (Below.mono hb4 ?_))); all_goals first | exact Nat.le_refl _ | (simp; done) | (simp; omega) | omega)⟩
set_option maxRecDepth 100000 in
theorem Text0 (w : World) :
    Calls Tryz.prog 24 #[.float .f64 9223372036854775808] w fun e w' => e = .returned (.tuple #[.string ⟨#[45, 48]⟩, .nilIface]) ∧ w = w' := by
  have hx := bits_run
  have o1 : FloatKind.f64.format.order 9223372036854775808 9223372036854775808 = some Ordering.eq := by kernel_rfl
  have o2 : FloatKind.f64.format.order 9223372036854775808 0 = some Ordering.eq := by kernel_rfl
  have HI := Lib.hid (show FlP.isInf 9223372036854775808 = false by decide)
  have hw : wrap64 9223372036854775808 < 0 := by unfold wrap64; omega
  go_enter Tryz.func24, Tryz.ntmps24
  go_wp2_with (first | (go_at_call 28; refine (IsInf_calls 9223372036854775808 (by decide) _).mono ?_; rw [HI.out]; rintro e w' ⟨rfl, rfl⟩) | (go_at_call 21; refine (IsNaN_calls _ _).mono ?_; rintro e w' ⟨rfl, rfl⟩) | (go_at_call 35; go_in))
  go_returns
  exact ⟨rfl, rfl⟩
set_option maxHeartbeats 1000000 in
theorem Canon_whole (s : ByteArray) (w : World) (G : Glob w) (hs : s.size ≤ 64) (a : Bool) (b c d : ByteArray) (hp : parseF s = (a, b, c, d, true)) (n : Int) (h0 : -9223372036854775808 ≤ n) (h1 : n ≤ 9223372036854775807) (hn : (n != 0) = true)
    (hw : ∀ W, Glob W → Calls Tryz.prog 8 #[.string s] W fun e w' => e = .returned (.tuple #[.int .i64 n, .nilIface]) ∧ Below W.heap.size W w') :
    Calls Tryz.prog 7 #[.string s] w fun e w' => e = .returned (.tuple #[.string (str (Lib.itoa n)), .nilIface]) ∧ Below w.heap.size w w' := by
  have HP := Lib.hid hp
  have HW := Lib.hid hw
  have G0 := Lib.hid G
  clear hp hw G
  go_enter Tryz.func7, Tryz.ntmps7
  go_wp2_with fail
  refine (asks_ok s _ (by omega) _ _ _ _ HP.out hs).mono ?_
  rintro e w1 ⟨rfl, hb⟩
  go_wp2_with fail
  refine (HW.out _ (Glob.alloc (Glob.below G0.out hb) _)).mono ?_
  rintro e w2 ⟨rfl, hb2⟩
  go_wp2_with fail
  refine (Itoa_calls n h0 h1 _ (Glob.below (Glob.alloc (Glob.below G0.out hb) _) hb2)).mono ?_
  rintro e w3 ⟨rfl, hb3⟩
  go_wp2_with fail
  go_returns
  have hb4 := trivial
  have hz1 := hb.size
  have hz2 : w1.heap.size < w2.heap.size := (by have := hb2.size; simp at this; omega)
  exact ⟨rfl, (by (repeat (first | with_reducible exact Below.refl _ _ | with_reducible refine below_drewN ?_ _ | with_reducible refine Below.drew ?_ | with_reducible refine Below.setCell ?_ ?_ _ | with_reducible refine below_alloc ?_ ?_ _ | with_reducible refine Below.trans ?_ (Below.mono hb ?_) | with_reducible refine Below.trans ?_ (Below.mono hb2 ?_) | with_reducible refine Below.trans ?_ (Below.mono hb3 ?_) | with_reducible refine Below.trans ?_ (Below.mono hb4 ?_))); all_goals first | exact Nat.le_refl _ | (simp; done) | (simp; omega) | omega)⟩

theorem whole_of (s : ByteArray) (hs : s.size ≤ 64) (a : Bool) (b c d : ByteArray) (hp : parseF s = (a, b, c, d, true)) (hbs : b.size ≤ 64) (hcs : c.size ≤ 64) (hds : d.size ≤ 64) (v : ByteArray) (hw : wholeF b c d = some v) (hv : v.size ≤ 20) (n : Int) (hn : Lib.parseIntB 64 (sgn a v).data.toList = .ok n) :
    ∀ W, Glob W → Calls Tryz.prog 8 #[.string s] W fun e w' => e = .returned (.tuple #[.int .i64 n, .nilIface]) ∧ Below W.heap.size W w' :=
  fun W G => Whole_ok s W G (by omega) hs a b c d hp hbs hcs hds v hw hv n hn

def s1 : ByteArray := ⟨#[49, 46, 53, 48, 101, 49]⟩
def s2 : ByteArray := ⟨#[49, 101, 50]⟩
theorem p1 : parseF s1 = (false, ⟨#[49]⟩, ⟨#[53, 48]⟩, ⟨#[49]⟩, true) := by kernel_rfl
theorem p2 : parseF s2 = (false, ⟨#[49]⟩, ⟨#[]⟩, ⟨#[50]⟩, true) := by kernel_rfl
theorem p0 : parseF s0 = (true, ⟨#[48]⟩, ⟨#[48]⟩, ⟨#[]⟩, true) := by kernel_rfl
theorem q1 : wholeF ⟨#[49]⟩ ⟨#[53, 48]⟩ ⟨#[49]⟩ = some ⟨#[49, 53]⟩ := by kernel_rfl
theorem q2 : wholeF ⟨#[49]⟩ ⟨#[]⟩ ⟨#[50]⟩ = some ⟨#[49, 48, 48]⟩ := by kernel_rfl
theorem q0 : wholeF ⟨#[48]⟩ ⟨#[48]⟩ ⟨#[]⟩ = some ⟨#[48]⟩ := by kernel_rfl
theorem r1 : Lib.parseIntB 64 (sgn false ⟨#[49, 53]⟩).data.toList = .ok 15 := by kernel_rfl
theorem r2 : Lib.parseIntB 64 (sgn false ⟨#[49, 48, 48]⟩).data.toList = .ok 100 := by kernel_rfl
theorem r0 : Lib.parseIntB 64 (sgn true ⟨#[48]⟩).data.toList = .ok 0 := by kernel_rfl
theorem i1 : str (Lib.itoa 15) = ⟨#[49, 53]⟩ := by kernel_rfl
theorem i2 : str (Lib.itoa 100) = ⟨#[49, 48, 48]⟩ := by kernel_rfl
theorem Canon1 (w : World) (G : Glob w) : Calls Tryz.prog 7 #[.string ⟨#[49, 46, 53, 48, 101, 49]⟩] w fun e w' => e = .returned (.tuple #[.string ⟨#[49, 53]⟩, .nilIface]) ∧ Below w.heap.size w w' := by
  rw [← i1]
  exact Canon_whole s1 w G (by decide) _ _ _ _ p1 15 (by decide) (by decide) (by decide) (whole_of s1 (by decide) _ _ _ _ p1 (by decide) (by decide) (by decide) _ q1 (by decide) _ r1)
theorem Canon2 (w : World) (G : Glob w) : Calls Tryz.prog 7 #[.string ⟨#[49, 101, 50]⟩] w fun e w' => e = .returned (.tuple #[.string ⟨#[49, 48, 48]⟩, .nilIface]) ∧ Below w.heap.size w w' := by
  rw [← i2]
  exact Canon_whole s2 w G (by decide) _ _ _ _ p2 100 (by decide) (by decide) (by decide) (whole_of s2 (by decide) _ _ _ _ p2 (by decide) (by decide) (by decide) _ q2 (by decide) _ r2)
set_option maxHeartbeats 1000000 in
theorem Canon0 (w : World) (G : Glob w) : Calls Tryz.prog 7 #[.string ⟨#[45, 48, 46, 48]⟩] w fun e w' => e = .returned (.tuple #[.string ⟨#[45, 48]⟩, .nilIface]) ∧ Below w.heap.size w w' := by
  have G0 := Lib.hid G
  clear G
  go_enter Tryz.func7, Tryz.ntmps7
  go_wp2_with fail
  refine (asks_ok s0 _ (by decide) _ _ _ _ p0 (by decide)).mono ?_
  rintro e w1 ⟨rfl, hb⟩
  go_wp2_with fail
  refine (whole_of s0 (by decide) _ _ _ _ p0 (by decide) (by decide) (by decide) _ q0 (by decide) _ r0 _ (Glob.alloc (Glob.below G0.out hb) _)).mono ?_
  rintro e w2 ⟨rfl, hb2⟩
  go_wp2_with fail
  refine (Float0 _ (Glob.below (Glob.alloc (Glob.below G0.out hb) _) hb2)).mono ?_
  rintro e w3 ⟨rfl, hb3⟩
  go_wp2_with fail
  refine (Text0 _).mono ?_
  rintro e w' ⟨rfl, rfl⟩
  go_wp2_with fail
  go_returns
  have hb4 := trivial
  have hz1 := hb.size
  have hz2 : w1.heap.size < w2.heap.size := (by have := hb2.size; simp at this; omega)
  exact ⟨rfl, (by (repeat (first | with_reducible exact Below.refl _ _ | with_reducible refine below_drewN ?_ _ | with_reducible refine Below.drew ?_ | with_reducible refine Below.setCell ?_ ?_ _ | with_reducible refine below_alloc ?_ ?_ _ | with_reducible refine Below.trans ?_ (Below.mono hb ?_) | with_reducible refine Below.trans ?_ (Below.mono hb2 ?_) | with_reducible refine Below.trans ?_ (Below.mono hb3 ?_) | with_reducible refine Below.trans ?_ (Below.mono hb4 ?_))); all_goals first | exact Nat.le_refl _ | (simp; done) | (simp; omega) | omega)⟩
set_option maxHeartbeats 1000000 in
theorem alive_calls (w : World) (G : Glob w) : Calls Tryz.prog 6 #[] w fun e w' => e = .returned (.bool true) ∧ Below w.heap.size w w' := by
  have G0 := Lib.hid G
  clear G
  go_enter Tryz.func6, Tryz.ntmps6
  go_wp2_with fail
  refine (Canon1 _ G0.out).mono ?_
  rintro e w1 ⟨rfl, hb⟩
  go_wp2_with fail
  refine (Canon2 _ (Glob.below G0.out hb)).mono ?_
  rintro e w2 ⟨rfl, hb2⟩
  go_wp2_with fail
  refine (Canon0 _ (Glob.below (Glob.below G0.out hb) hb2)).mono ?_
  rintro e w3 ⟨rfl, hb3⟩
  go_wp2
  go_returns
  have hb4 := trivial
  have hz1 := hb.size
  have hz2 := hb2.size
  exact ⟨rfl, (by (repeat (first | with_reducible exact Below.refl _ _ | with_reducible refine below_drewN ?_ _ | with_reducible refine Below.drew ?_ | with_reducible refine Below.setCell ?_ ?_ _ | with_reducible refine below_alloc ?_ ?_ _ | with_reducible refine Below.trans ?_ (Below.mono hb ?_) | with_reducible refine Below.trans ?_ (Below.mono hb2 ?_) | with_reducible refine Below.trans ?_ (Below.mono hb3 ?_) | with_reducible refine Below.trans ?_ (Below.mono hb4 ?_))); all_goals first | exact Nat.le_refl _ | (simp; done) | (simp; omega) | omega)⟩
end Go.Proofs.YtkdcbpbbfbjojaaGreatDoor.Al
