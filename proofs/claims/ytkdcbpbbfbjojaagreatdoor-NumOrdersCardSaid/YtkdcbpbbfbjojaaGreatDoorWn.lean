import Derived.Test.YtkdcbpbbfbjojaaGreatDoorWh
/- The contract of num.Whole. -/
namespace Go.Proofs.YtkdcbpbbfbjojaaGreatDoor.Wn
open Go.RowKit Go.Proofs.YtkdcbpbbfbjojaaGreatDoorW.PrintWords Go.Proofs.YtkdcbpbbfbjojaaGreatDoor.B Go.Proofs.YtkdcbpbbfbjojaaGreatDoor.Pa Go.Proofs.YtkdcbpbbfbjojaaGreatDoor.Pe Go.Proofs.YtkdcbpbbfbjojaaGreatDoor.Sh Go.Proofs.YtkdcbpbbfbjojaaGreatDoor.Nu Go.Proofs.YtkdcbpbbfbjojaaGreatDoor.Ex Go.Proofs.YtkdcbpbbfbjojaaGreatDoor.Wh
set_option linter.unusedVariables false
set_option linter.unusedSimpArgs false
theorem var_lt {P : Program} {w : World} {n : String} {g : Nat} {cs : Array Value} (hg : P.globalNamed n = some g) (h : w.var? P n = some cs) : g < w.heap.size := by
  unfold World.var? at h
  rw [hg] at h
  by_cases hlt : g < w.heap.size
  · exact hlt
  · simp [Array.getElem?_eq_none (Nat.le_of_not_lt hlt)] at h
theorem var_below {P : Program} {w w' : World} {n : String} {g : Nat} {cs : Array Value} (hg : P.globalNamed n = some g) (hb : Below w.heap.size w w') (h : w.var? P n = some cs) : w'.var? P n = some cs :=
  var?_below hb hg (var_lt hg h) h
theorem Glob.below {w w' : World} (G : Glob w) (hb : Below w.heap.size w w') : Glob w' :=
  ⟨var_below (g := 3) (by kernel_rfl) hb G.pow,
   let ⟨tp, p, h⟩ := G.esyn; ⟨tp, p, var_below (g := 1) (by kernel_rfl) hb h⟩,
   let ⟨tp, p, h⟩ := G.erng; ⟨tp, p, var_below (g := 2) (by kernel_rfl) hb h⟩,
   var_below (g := 4) (by kernel_rfl) hb G.opt⟩
theorem Whole_long (s : ByteArray) (w : World) (hs : s.size ≤ 140737488351232) (h : 64 < s.size) :
    Calls Tryz.prog 8 #[.string s] w fun e w' => e = .returned (.tuple #[.int .i64 0, errV (some 3)]) ∧ Below w.heap.size w w' := by
  unfold errV
  go_enter Tryz.func8, Tryz.ntmps8
  go_wp2_with fail
  refine (asks_long s _ hs h).mono ?_
  rintro e w1 ⟨rfl, hb⟩
  unfold errV
  go_wp2
  go_returns
  have hz1 := hb.size; have hb2 := trivial; have hb3 := trivial; have hb4 := trivial
  exact ⟨rfl, (by (repeat (first | with_reducible exact Below.refl _ _ | with_reducible refine below_drewN ?_ _ | with_reducible refine Below.drew ?_ | with_reducible refine Below.setCell ?_ ?_ _ | with_reducible refine below_alloc ?_ ?_ _ | with_reducible refine Below.trans ?_ (Below.mono hb ?_) | with_reducible refine Below.trans ?_ (Below.mono hb2 ?_) | with_reducible refine Below.trans ?_ (Below.mono hb3 ?_) | with_reducible refine Below.trans ?_ (Below.mono hb4 ?_))); all_goals first | exact Nat.le_refl _ | (simp; done) | (simp; omega) | omega)⟩
theorem Whole_form (s : ByteArray) (w : World) (hs : s.size ≤ 140737488351232) (h : s.size ≤ 64) (a b c d) (hp : parseF s = (a, b, c, d, false)) :
    Calls Tryz.prog 8 #[.string s] w fun e w' => e = .returned (.tuple #[.int .i64 0, errV (some 2)]) ∧ Below w.heap.size w w' := by
  unfold errV
  have HP := Lib.hid hp
  clear hp
  go_enter Tryz.func8, Tryz.ntmps8
  go_wp2_with fail
  refine (asks_form s _ hs a b c d HP.out h).mono ?_
  rintro e w1 ⟨rfl, hb⟩
  unfold errV
  go_wp2
  go_returns
  have hz1 := hb.size; have hb2 := trivial; have hb3 := trivial; have hb4 := trivial
  exact ⟨rfl, (by (repeat (first | with_reducible exact Below.refl _ _ | with_reducible refine below_drewN ?_ _ | with_reducible refine Below.drew ?_ | with_reducible refine Below.setCell ?_ ?_ _ | with_reducible refine below_alloc ?_ ?_ _ | with_reducible refine Below.trans ?_ (Below.mono hb ?_) | with_reducible refine Below.trans ?_ (Below.mono hb2 ?_) | with_reducible refine Below.trans ?_ (Below.mono hb3 ?_) | with_reducible refine Below.trans ?_ (Below.mono hb4 ?_))); all_goals first | exact Nat.le_refl _ | (simp; done) | (simp; omega) | omega)⟩
theorem Whole_kind (s : ByteArray) (w : World) (G : Glob w) (hs : s.size ≤ 140737488351232) (h : s.size ≤ 64) (a : Bool) (b c d : ByteArray) (hp : parseF s = (a, b, c, d, true)) (hbs : b.size ≤ 64) (hcs : c.size ≤ 64) (hds : d.size ≤ 64) (hw : wholeF b c d = none) :
    Calls Tryz.prog 8 #[.string s] w fun e w' => e = .returned (.tuple #[.int .i64 0, errV (some 11)]) ∧ Below w.heap.size w w' := by
  unfold errV
  have HP := Lib.hid hp; have HW := Lib.hid hw; have G0 := Lib.hid G; clear hp hw G
  go_enter Tryz.func8, Tryz.ntmps8
  go_wp2_with fail; refine (asks_ok s _ hs _ b c d HP.out h).mono ?_; rintro e w1 ⟨rfl, hb⟩; go_wp2_with fail; refine (whole_calls _ b c d _ (Glob.alloc (Glob.below G0.out hb) _) hbs hcs hds).mono ?_; rw [HW.out]; unfold wholeV; rintro e w2 ⟨rfl, hb2⟩; obtain ⟨hc, hf⟩ := bcell hb2; have hz : w1.heap.size < w2.heap.size := (by have := hb2.size; simp at this; omega)
  go_wp2
  go_returns
  have hz1 := hb.size; have hb3 := trivial; have hb4 := trivial; exact ⟨rfl, (by (repeat (first | with_reducible exact Below.refl _ _ | with_reducible refine below_drewN ?_ _ | with_reducible refine Below.drew ?_ | with_reducible refine Below.setCell ?_ ?_ _ | with_reducible refine below_alloc ?_ ?_ _ | with_reducible refine Below.trans ?_ (Below.mono hb ?_) | with_reducible refine Below.trans ?_ (Below.mono hb2 ?_) | with_reducible refine Below.trans ?_ (Below.mono hb3 ?_) | with_reducible refine Below.trans ?_ (Below.mono hb4 ?_))); all_goals first | exact Nat.le_refl _ | (simp; done) | (simp; omega) | omega)⟩
theorem Whole_many (s : ByteArray) (w : World) (G : Glob w) (hs : s.size ≤ 140737488351232) (h : s.size ≤ 64) (a : Bool) (b c d : ByteArray) (hp : parseF s = (a, b, c, d, true)) (hbs : b.size ≤ 64) (hcs : c.size ≤ 64) (hds : d.size ≤ 64) (v : ByteArray) (hw : wholeF b c d = some v) (hv : 20 < v.size) :
    Calls Tryz.prog 8 #[.string s] w fun e w' => e = .returned (.tuple #[.int .i64 0, errV (some 1)]) ∧ Below w.heap.size w w' := by
  unfold errV
  have HP := Lib.hid hp; have HW := Lib.hid hw; have G0 := Lib.hid G; clear hp hw G
  go_enter Tryz.func8, Tryz.ntmps8
  go_wp2_with fail; refine (asks_ok s _ hs _ b c d HP.out h).mono ?_; rintro e w1 ⟨rfl, hb⟩; go_wp2_with fail; refine (whole_calls _ b c d _ (Glob.alloc (Glob.below G0.out hb) _) hbs hcs hds).mono ?_; rw [HW.out]; unfold wholeV; rintro e w2 ⟨rfl, hb2⟩; obtain ⟨hc, hf⟩ := bcell hb2; have hz : w1.heap.size < w2.heap.size := (by have := hb2.size; simp at this; omega)
  go_wp2
  go_returns
  have hz1 := hb.size; have hb3 := trivial; have hb4 := trivial; exact ⟨rfl, (by (repeat (first | with_reducible exact Below.refl _ _ | with_reducible refine below_drewN ?_ _ | with_reducible refine Below.drew ?_ | with_reducible refine Below.setCell ?_ ?_ _ | with_reducible refine below_alloc ?_ ?_ _ | with_reducible refine Below.trans ?_ (Below.mono hb ?_) | with_reducible refine Below.trans ?_ (Below.mono hb2 ?_) | with_reducible refine Below.trans ?_ (Below.mono hb3 ?_) | with_reducible refine Below.trans ?_ (Below.mono hb4 ?_))); all_goals first | exact Nat.le_refl _ | (simp; done) | (simp; omega) | omega)⟩
def sgn (a : Bool) (v : ByteArray) : ByteArray := if a = true then ⟨#[45]⟩ ++ v else v
theorem sgn_le (a : Bool) (v : ByteArray) : (sgn a v).size ≤ v.size + 1 := by
  unfold sgn
  split
  · rw [ByteArray.size_append]; show 1 + _ ≤ _; omega
  · omega
theorem Whole_ok (s : ByteArray) (w : World) (G : Glob w) (hs : s.size ≤ 140737488351232) (h : s.size ≤ 64) (a : Bool) (b c d : ByteArray) (hp : parseF s = (a, b, c, d, true)) (hbs : b.size ≤ 64) (hcs : c.size ≤ 64) (hds : d.size ≤ 64) (v : ByteArray) (hw : wholeF b c d = some v) (hv : v.size ≤ 20) (n : Int) (hn : Lib.parseIntB 64 (sgn a v).data.toList = .ok n) :
    Calls Tryz.prog 8 #[.string s] w fun e w' => e = .returned (.tuple #[.int .i64 n, .nilIface]) ∧ Below w.heap.size w w' := by
  have HN := Lib.hid hn
  clear hn
  have HP := Lib.hid hp; have HW := Lib.hid hw; have G0 := Lib.hid G; clear hp hw G
  cases a
  all_goals
    go_enter Tryz.func8, Tryz.ntmps8
    go_wp2_with fail; refine (asks_ok s _ hs _ b c d HP.out h).mono ?_; rintro e w1 ⟨rfl, hb⟩; go_wp2_with fail; refine (whole_calls _ b c d _ (Glob.alloc (Glob.below G0.out hb) _) hbs hcs hds).mono ?_; rw [HW.out]; unfold wholeV; rintro e w2 ⟨rfl, hb2⟩; obtain ⟨hc, hf⟩ := bcell hb2; have hz : w1.heap.size < w2.heap.size := (by have := hb2.size; simp at this; omega)
    go_wp2_with fail
    refine (ParseInt_ok _ ?_ n HN.out _).mono ?_; exact Nat.le_trans (sgn_le _ _) (by omega); rintro e w3 ⟨rfl, hb3⟩
    go_wp2
    go_returns
    have hz2 := hb2.size
    have hz1 := hb.size
    have hb4 := trivial
    exact ⟨rfl, (by (repeat (first | with_reducible exact Below.refl _ _ | with_reducible refine below_drewN ?_ _ | with_reducible refine Below.drew ?_ | with_reducible refine Below.setCell ?_ ?_ _ | with_reducible refine below_alloc ?_ ?_ _ | with_reducible refine Below.trans ?_ (Below.mono hb ?_) | with_reducible refine Below.trans ?_ (Below.mono hb2 ?_) | with_reducible refine Below.trans ?_ (Below.mono hb3 ?_) | with_reducible refine Below.trans ?_ (Below.mono hb4 ?_))); all_goals first | exact Nat.le_refl _ | (simp; done) | (simp; omega) | omega)⟩
theorem Whole_range (s : ByteArray) (w : World) (G : Glob w) (hs : s.size ≤ 140737488351232) (h : s.size ≤ 64) (a : Bool) (b c d : ByteArray) (hp : parseF s = (a, b, c, d, true)) (hbs : b.size ≤ 64) (hcs : c.size ≤ 64) (hds : d.size ≤ 64) (v : ByteArray) (hw : wholeF b c d = some v) (hv : v.size ≤ 20) (hn : ∀ n, Lib.parseIntB 64 (sgn a v).data.toList ≠ .ok n) :
    Calls Tryz.prog 8 #[.string s] w fun e w' => e = .returned (.tuple #[.int .i64 0, errV (some 1)]) ∧ Below w.heap.size w w' := by
  unfold errV
  have HN := Lib.hid hn
  clear hn
  have HP := Lib.hid hp; have HW := Lib.hid hw; have G0 := Lib.hid G; clear hp hw G
  cases a
  all_goals
    go_enter Tryz.func8, Tryz.ntmps8
    go_wp2_with fail; refine (asks_ok s _ hs _ b c d HP.out h).mono ?_; rintro e w1 ⟨rfl, hb⟩; go_wp2_with fail; refine (whole_calls _ b c d _ (Glob.alloc (Glob.below G0.out hb) _) hbs hcs hds).mono ?_; rw [HW.out]; unfold wholeV; rintro e w2 ⟨rfl, hb2⟩; obtain ⟨hc, hf⟩ := bcell hb2; have hz : w1.heap.size < w2.heap.size := (by have := hb2.size; simp at this; omega)
    go_wp2_with fail
    refine (ParseInt_bad _ ?_ HN.out _ (Glob.below (Glob.alloc (Glob.below G0.out hb) _) hb2)).mono ?_; exact Nat.le_trans (sgn_le _ _) (by omega); rintro e w3 ⟨n, t, p, rfl, hb3⟩
    go_wp2
    go_returns
    have hz2 := hb2.size
    have hz1 := hb.size
    have hb4 := trivial
    exact ⟨rfl, (by (repeat (first | with_reducible exact Below.refl _ _ | with_reducible refine below_drewN ?_ _ | with_reducible refine Below.drew ?_ | with_reducible refine Below.setCell ?_ ?_ _ | with_reducible refine below_alloc ?_ ?_ _ | with_reducible refine Below.trans ?_ (Below.mono hb ?_) | with_reducible refine Below.trans ?_ (Below.mono hb2 ?_) | with_reducible refine Below.trans ?_ (Below.mono hb3 ?_) | with_reducible refine Below.trans ?_ (Below.mono hb4 ?_))); all_goals first | exact Nat.le_refl _ | (simp; done) | (simp; omega) | omega)⟩
end Go.Proofs.YtkdcbpbbfbjojaaGreatDoor.Wn
