import Derived.Test.YtkdcbpbbfbjojaaGreatDoorEx
import Derived.Deep.RegionWith
/- The contract of a number's text's whole figures. -/
namespace Go.Proofs.YtkdcbpbbfbjojaaGreatDoor.Wh
open Go.RowKit Go.Proofs.YtkdcbpbbfbjojaaGreatDoorW.PrintWords Go.Proofs.YtkdcbpbbfbjojaaGreatDoor.B Go.Proofs.YtkdcbpbbfbjojaaGreatDoor.Pa Go.Proofs.YtkdcbpbbfbjojaaGreatDoor.Pe Go.Proofs.YtkdcbpbbfbjojaaGreatDoor.Sh Go.Proofs.YtkdcbpbbfbjojaaGreatDoor.Nu Go.Proofs.YtkdcbpbbfbjojaaGreatDoor.Ex
set_option linter.unusedVariables false
set_option linter.unusedSimpArgs false
theorem Glob.drew {w : World} (G : Glob w) : Glob w.drew := ⟨G.pow, G.esyn, G.erng, G.opt⟩
theorem Glob.drewN {w : World} (G : Glob w) (n : Nat) : Glob (w.drewN n) := ⟨G.pow, G.esyn, G.erng, G.opt⟩
def cutI (b c : ByteArray) (x : Int) : Int := min (max ((b.size : Int) + x) 0) ((b.size : Int) + (c.size : Int))
set_option maxHeartbeats 1000000 in
theorem wh_1 (a : Bool) (b c d : ByteArray) (w : World) (G : Glob w) (hbs : b.size ≤ 64) (hcs : c.size ≤ 64) (hds : d.size ≤ 64) (x : Int) (hx : exF d = x) (h1 : -128 ≤ x) (h2 : x ≤ 128) (t : ByteArray) (ht : str (Lib.trimB ((b ++ c).extract (min (max ((b.size : Int) + x) 0) ((b.size : Int) + (c.size : Int))).toNat (b.size + c.size)).data.toList 48) = t) (hn : ¬ t.toList = []) (hn2 : t.toList.isEmpty = false) :
    Calls Tryz.prog 25 #[.agg #[.bool a, .string b, .string c, .string d]] w fun e w' => e = .returned (.tuple #[.string ⟨#[]⟩, .bool false]) ∧ Below w.heap.size w w' := by
  have G1 := Lib.hid (Glob.alloc G (.cells #[.bool a, .string b, .string c, .string d] 51)); have HX := Lib.hid hx; have HT := Lib.hid ht; clear hx G ht
  go_enter Tryz.func25, Tryz.ntmps25
  go_wp2_with fail
  go_region_with (go_at_call 39; refine (ex_calls a b c d _ ?_ ?_).mono ?_; exact Glob.drew G1.out; omega; rintro e w1 ⟨rfl, hb⟩; rw [HX.out]; obtain ⟨hc, hf⟩ := bcell hb)
  all_goals
    have hz : w.heap.size < w1.heap.size := (by have := hb.size; simp at this; omega)
    go_wp2_with fail; refine (Trim0_calls _ _ ?_).mono ?_; exact Nat.le_trans (ext_le _ _ _) (by rw [ByteArray.size_append]; omega); rw [HT.out]; rintro e w2 ⟨rfl, hb2⟩
    go_wp2_with fail
    go_returns
    have hb3 := trivial
    have hb4 := trivial
    exact ⟨rfl, (by (repeat (first | with_reducible exact Below.refl _ _ | with_reducible refine below_drewN ?_ _ | with_reducible refine Below.drew ?_ | with_reducible refine Below.setCell ?_ ?_ _ | with_reducible refine below_alloc ?_ ?_ _ | with_reducible refine Below.trans ?_ (Below.mono hb ?_) | with_reducible refine Below.trans ?_ (Below.mono hb2 ?_) | with_reducible refine Below.trans ?_ (Below.mono hb3 ?_) | with_reducible refine Below.trans ?_ (Below.mono hb4 ?_))); all_goals first | exact Nat.le_refl _ | (simp; done) | (simp; omega) | omega)⟩
set_option maxHeartbeats 1000000 in
theorem wh_2 (a : Bool) (b c d : ByteArray) (w : World) (G : Glob w) (hbs : b.size ≤ 64) (hcs : c.size ≤ 64) (hds : d.size ≤ 64) (x : Int) (hx : exF d = x) (h1 : -128 ≤ x) (h2 : x ≤ 128) (t : ByteArray) (ht : str (Lib.trimB ((b ++ c).extract (min (max ((b.size : Int) + x) 0) ((b.size : Int) + (c.size : Int))).toNat (b.size + c.size)).data.toList 48) = t) (hn : t.toList = []) (u : ByteArray) (hu : str (Lib.trimLeftB ((b ++ c).extract 0 (min (max ((b.size : Int) + x) 0) ((b.size : Int) + (c.size : Int))).toNat).data.toList 48) = u) (hk : u.toList = []) :
    Calls Tryz.prog 25 #[.agg #[.bool a, .string b, .string c, .string d]] w fun e w' => e = .returned (.tuple #[.string ⟨#[48]⟩, .bool true]) ∧ Below w.heap.size w w' := by
  have HU := Lib.hid hu
  clear hu
  have G1 := Lib.hid (Glob.alloc G (.cells #[.bool a, .string b, .string c, .string d] 51)); have HX := Lib.hid hx; have HT := Lib.hid ht; clear hx G ht
  go_enter Tryz.func25, Tryz.ntmps25
  go_wp2_with fail
  go_region_with (go_at_call 39; refine (ex_calls a b c d _ ?_ ?_).mono ?_; exact Glob.drew G1.out; omega; rintro e w1 ⟨rfl, hb⟩; rw [HX.out]; obtain ⟨hc, hf⟩ := bcell hb)
  all_goals
    have hz : w.heap.size < w1.heap.size := (by have := hb.size; simp at this; omega)
    go_wp2_with fail; refine (Trim0_calls _ _ ?_).mono ?_; exact Nat.le_trans (ext_le _ _ _) (by rw [ByteArray.size_append]; omega); rw [HT.out]; rintro e w2 ⟨rfl, hb2⟩
    go_wp2_with fail; refine (TrimLeft0_calls _ _).mono ?_; rw [HU.out]; rintro e w3 ⟨rfl, rfl⟩
    go_wp2_with fail
    go_returns
    have hb3 := trivial
    have hb4 := trivial
    exact ⟨rfl, (by (repeat (first | with_reducible exact Below.refl _ _ | with_reducible refine below_drewN ?_ _ | with_reducible refine Below.drew ?_ | with_reducible refine Below.setCell ?_ ?_ _ | with_reducible refine below_alloc ?_ ?_ _ | with_reducible refine Below.trans ?_ (Below.mono hb ?_) | with_reducible refine Below.trans ?_ (Below.mono hb2 ?_) | with_reducible refine Below.trans ?_ (Below.mono hb3 ?_) | with_reducible refine Below.trans ?_ (Below.mono hb4 ?_))); all_goals first | exact Nat.le_refl _ | (simp; done) | (simp; omega) | omega)⟩

set_option maxHeartbeats 1000000 in
theorem wh_3 (a : Bool) (b c d : ByteArray) (w : World) (G : Glob w) (hbs : b.size ≤ 64) (hcs : c.size ≤ 64) (hds : d.size ≤ 64) (x : Int) (hx : exF d = x) (h1 : -128 ≤ x) (h2 : x ≤ 128) (t : ByteArray) (ht : str (Lib.trimB ((b ++ c).extract (min (max ((b.size : Int) + x) 0) ((b.size : Int) + (c.size : Int))).toNat (b.size + c.size)).data.toList 48) = t) (hn : t.toList = []) (u : ByteArray) (hu : str (Lib.trimLeftB ((b ++ c).extract 0 (min (max ((b.size : Int) + x) 0) ((b.size : Int) + (c.size : Int))).toNat).data.toList 48) = u) (hk : ¬ u.toList = []) (hk2 : u.toList.isEmpty = false) (hus : u.size ≤ 128) (m : Int) (hm : (b.size : Int) + x - (min (max ((b.size : Int) + x) 0) ((b.size : Int) + (c.size : Int))) = m) (hm0 : 0 ≤ m) (hm1 : m ≤ 1000) (v : ByteArray) (hv : str (Lib.repeatL [48] m.toNat) = v) (hvs : v.size ≤ 1000) :
    Calls Tryz.prog 25 #[.agg #[.bool a, .string b, .string c, .string d]] w fun e w' => e = .returned (.tuple #[.string (u ++ v), .bool true]) ∧ Below w.heap.size w w' := by
  have HU := Lib.hid hu
  have HM := Lib.hid hm
  have HV := Lib.hid hv
  clear hu hm hv
  have G1 := Lib.hid (Glob.alloc G (.cells #[.bool a, .string b, .string c, .string d] 51)); have HX := Lib.hid hx; have HT := Lib.hid ht; clear hx G ht
  go_enter Tryz.func25, Tryz.ntmps25
  go_wp2_with fail
  go_region_with (go_at_call 39; refine (ex_calls a b c d _ ?_ ?_).mono ?_; exact Glob.drew G1.out; omega; rintro e w1 ⟨rfl, hb⟩; rw [HX.out]; obtain ⟨hc, hf⟩ := bcell hb)
  all_goals
    have hz : w.heap.size < w1.heap.size := (by have := hb.size; simp at this; omega)
    go_wp2_with fail; refine (Trim0_calls _ _ ?_).mono ?_; exact Nat.le_trans (ext_le _ _ _) (by rw [ByteArray.size_append]; omega); rw [HT.out]; rintro e w2 ⟨rfl, hb2⟩
    go_wp2_with fail; refine (TrimLeft0_calls _ _).mono ?_; rw [HU.out]; rintro e w3 ⟨rfl, rfl⟩
    go_wp2_with fail
    rw [HM.out]
    refine (Repeat_calls ⟨#[48]⟩ m hm0 (by omega) (by show 1 * m.toNat ≤ _; omega) _).mono ?_
    rintro e w4 ⟨rfl, hb3⟩
    have hv : str (Lib.repeatL (⟨#[48]⟩ : ByteArray).data.toList m.toNat) = v := HV.out
    rw [hv]
    clear hv
    go_wp2_with fail
    go_returns
    have hb4 := trivial
    have hz2 := hb2.size
    exact ⟨rfl, (by (repeat (first | with_reducible exact Below.refl _ _ | with_reducible refine below_drewN ?_ _ | with_reducible refine Below.drew ?_ | with_reducible refine Below.setCell ?_ ?_ _ | with_reducible refine below_alloc ?_ ?_ _ | with_reducible refine Below.trans ?_ (Below.mono hb ?_) | with_reducible refine Below.trans ?_ (Below.mono hb2 ?_) | with_reducible refine Below.trans ?_ (Below.mono hb3 ?_) | with_reducible refine Below.trans ?_ (Below.mono hb4 ?_))); all_goals first | exact Nat.le_refl _ | (simp; done) | (simp; omega) | omega)⟩

/-- the whole figures -/
def wholeF (b c d : ByteArray) : Option ByteArray :=
  let x := exF d
  if ¬ (str (Lib.trimB ((b ++ c).extract (min (max ((b.size : Int) + x) 0) ((b.size : Int) + (c.size : Int))).toNat (b.size + c.size)).data.toList 48)).toList = [] then none
  else if (str (Lib.trimLeftB ((b ++ c).extract 0 (min (max ((b.size : Int) + x) 0) ((b.size : Int) + (c.size : Int))).toNat).data.toList 48)).toList = [] then some ⟨#[48]⟩
  else some (str (Lib.trimLeftB ((b ++ c).extract 0 (min (max ((b.size : Int) + x) 0) ((b.size : Int) + (c.size : Int))).toNat).data.toList 48) ++ str (Lib.repeatL [48] ((b.size : Int) + x - (min (max ((b.size : Int) + x) 0) ((b.size : Int) + (c.size : Int)))).toNat))
def wholeV : Option ByteArray → Value
  | none => .tuple #[.string ⟨#[]⟩, .bool false]
  | some s => .tuple #[.string s, .bool true]
theorem size_str (l : List UInt8) : (str l).size = l.length := by unfold str; show l.toArray.size = _; simp
theorem exF_bounds (d : ByteArray) : -128 ≤ exF d ∧ exF d ≤ 128 := by
  have hf : -128 ≤ farF d ∧ farF d ≤ 128 := by unfold farF; split <;> omega
  unfold exF
  split
  · omega
  · split
    · split
      · exact hf
      · omega
    · exact hf
theorem trimLeft_le (l : List UInt8) (c : UInt8) : (Lib.trimLeftB l c).length ≤ l.length := by
  unfold Lib.trimLeftB; exact (List.dropWhile_suffix _).length_le
theorem whole_calls (a : Bool) (b c d : ByteArray) (w : World) (G : Glob w) (hbs : b.size ≤ 64) (hcs : c.size ≤ 64) (hds : d.size ≤ 64) :
    Calls Tryz.prog 25 #[.agg #[.bool a, .string b, .string c, .string d]] w fun e w' => e = .returned (wholeV (wholeF b c d)) ∧ Below w.heap.size w w' := by
  obtain ⟨h1, h2⟩ := exF_bounds d
  unfold wholeF
  simp only []
  generalize hx : exF d = x at *
  by_cases ht : (str (Lib.trimB ((b ++ c).extract (min (max ((b.size : Int) + x) 0) ((b.size : Int) + (c.size : Int))).toNat (b.size + c.size)).data.toList 48)).toList = []
  · rw [if_neg (fun h => h ht)]
    have hul : (str (Lib.trimLeftB ((b ++ c).extract 0 (min (max ((b.size : Int) + x) 0) ((b.size : Int) + (c.size : Int))).toNat).data.toList 48)).size ≤ (b ++ c).size := by
      rw [size_str]
      refine Nat.le_trans (trimLeft_le _ _) ?_
      exact ext_le _ _ _
    by_cases hk : (str (Lib.trimLeftB ((b ++ c).extract 0 (min (max ((b.size : Int) + x) 0) ((b.size : Int) + (c.size : Int))).toNat).data.toList 48)).toList = []
    · rw [if_pos hk]
      exact wh_2 a b c d w G hbs hcs hds x hx h1 h2 _ rfl ht _ rfl hk
    · rw [if_neg hk]
      have hk2 := ne_facts _ hk
      have hpos : 0 < (min (max ((b.size : Int) + x) 0) ((b.size : Int) + (c.size : Int))).toNat := by
        have h0 := hk2.2
        rw [size_str] at h0
        have h3 := trimLeft_le ((b ++ c).extract 0 (min (max ((b.size : Int) + x) 0) ((b.size : Int) + (c.size : Int))).toNat).data.toList 48
        have h4 : ((b ++ c).extract 0 (min (max ((b.size : Int) + x) 0) ((b.size : Int) + (c.size : Int))).toNat).data.toList.length = ((b ++ c).extract 0 (min (max ((b.size : Int) + x) 0) ((b.size : Int) + (c.size : Int))).toNat).size := Array.length_toList
        rw [h4, ByteArray.size_extract] at h3
        omega
      have hap : (b ++ c).size = b.size + c.size := ByteArray.size_append
      refine wh_3 a b c d w G hbs hcs hds x hx h1 h2 _ rfl ht _ rfl hk hk2.1 (by omega) _ rfl (by omega) (by omega) _ rfl ?_
      rw [size_str, Lib.repeatL_length]
      show _ * 1 ≤ _
      omega
  · rw [if_pos ht]
    exact wh_1 a b c d w G hbs hcs hds x hx h1 h2 _ rfl ht (ne_facts _ ht).1
end Go.Proofs.YtkdcbpbbfbjojaaGreatDoor.Wh
