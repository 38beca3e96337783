import Derived.Test.YtkdcbpbbfbjojaaGreatDoorNu
import Derived.Stop.LaidErr
/- The contract of the exponent of a number's text. -/
namespace Go.Proofs.YtkdcbpbbfbjojaaGreatDoor.Ex
open Go.RowKit Go.Proofs.YtkdcbpbbfbjojaaGreatDoorW.PrintWords Go.Proofs.YtkdcbpbbfbjojaaGreatDoor.B Go.Proofs.YtkdcbpbbfbjojaaGreatDoor.Pa Go.Proofs.YtkdcbpbbfbjojaaGreatDoor.Pe Go.Proofs.YtkdcbpbbfbjojaaGreatDoor.Sh Go.Proofs.YtkdcbpbbfbjojaaGreatDoor.Nu
set_option linter.unusedVariables false
set_option linter.unusedSimpArgs false
theorem HasPrefix_calls (s p : ByteArray) (w : World) (hs : s.size ≤ 140737488351232) (hp : p.size ≤ 140737488351232) :
    Calls Tryz.prog 54 #[.string s, .string p] w fun e w' => e = .returned (.bool (cutOk s p)) ∧ w = w' := by
  by_cases h1 : p.size ≤ s.size
  · cases h2 : (s.extract 0 p.size).toList == p.toList
    · have e1 : cutOk s p = false := by unfold cutOk; rw [h2]; simp
      rw [e1]
      clear e1
      go_enter Tryz.func54, Tryz.ntmps54
      go_wp2
      go_ret
      exact ⟨rfl, rfl⟩
    · have e1 : cutOk s p = true := by unfold cutOk; rw [h2]; simp [h1]
      rw [e1]
      clear e1
      go_enter Tryz.func54, Tryz.ntmps54
      go_wp2
      go_ret
      exact ⟨rfl, rfl⟩
  · have e1 : cutOk s p = false := by unfold cutOk; simp [h1]
    rw [e1]
    clear e1
    go_enter Tryz.func54, Tryz.ntmps54
    go_wp2
    go_ret
    exact ⟨rfl, rfl⟩

/-- an exponent that is as good -/
def farF (pw : ByteArray) : Int := if cutOk pw ⟨#[45]⟩ = true then -128 else 128
/-- the exponent -/
def exF (pw : ByteArray) : Int :=
  if pw.toList = [] then 0 else
  match Lib.atoiAll pw.data.toList with
  | .ok n => if 128 < n ∨ n < -128 then farF pw else n
  | _ => farF pw

theorem Atoi_bad (s : ByteArray) (hs : s.size ≤ 140737488351232) (h : ∀ v, Lib.atoiAll s.data.toList ≠ .ok v) (w : World) (G : Glob w) :
    Calls Tryz.prog 53 #[.string s] w fun e w' => ∃ n t p, e = .returned (.tuple #[.int .i64 n, .iface t p]) ∧ Below w.heap.size w w' := by
  cases hr : Lib.atoiAll s.data.toList
  · exact absurd hr (h _)
  · obtain ⟨tp, p, hv⟩ := G.esyn
    refine (Any.strconv_Atoi_syntax_var Tryz.laysC172 s (by omega) hr tp p w hv).mono ?_
    rintro e w' ⟨N, rfl, _, _, hb⟩
    exact ⟨_, _, _, rfl, hb⟩
  · obtain ⟨tp, p, hv⟩ := G.erng
    refine (Tryz.strconv_Atoi_range_var s (by omega) hr tp p w hv).mono ?_
    rintro e w' ⟨N, rfl, _, _, hb⟩
    exact ⟨_, _, _, rfl, hb⟩

theorem Glob.alloc {w : World} (G : Glob w) (o : Obj) : Glob (w.alloc o) :=
  ⟨var?_alloc G.pow, let ⟨tp, p, h⟩ := G.esyn; ⟨tp, p, var?_alloc h⟩, let ⟨tp, p, h⟩ := G.erng; ⟨tp, p, var?_alloc h⟩, var?_alloc G.opt⟩

theorem ex_nil (a : Bool) (b c d : ByteArray) (w : World) (h : d.toList = []) :
    Calls Tryz.prog 39 #[.agg #[.bool a, .string b, .string c, .string d]] w fun e w' => e = .returned (.int .i64 0) ∧ Below w.heap.size w w' := by
  go_enter Tryz.func39, Tryz.ntmps39
  go_wp2
  go_returns
  have hb2 := trivial; have hb3 := trivial; have hb4 := trivial; have hb := trivial; exact ⟨rfl, (by (repeat (first | with_reducible exact Below.refl _ _ | with_reducible refine below_drewN ?_ _ | with_reducible refine Below.setCell ?_ ?_ _ | with_reducible refine below_alloc ?_ ?_ _ | with_reducible refine Below.trans ?_ (Below.mono hb ?_) | with_reducible refine Below.trans ?_ (Below.mono hb2 ?_) | with_reducible refine Below.trans ?_ (Below.mono hb3 ?_) | with_reducible refine Below.trans ?_ (Below.mono hb4 ?_))); all_goals first | exact Nat.le_refl _ | (simp; done) | (simp; omega) | omega)⟩
theorem ex_ok (a : Bool) (b c d : ByteArray) (w : World) (hs : d.size ≤ 140737488351232) (h : ¬ d.toList = []) (n : Int) (hn : Lib.atoiAll d.data.toList = .ok n) (h1 : n ≤ 128) (h2 : -128 ≤ n) :
    Calls Tryz.prog 39 #[.agg #[.bool a, .string b, .string c, .string d]] w fun e w' => e = .returned (.int .i64 n) ∧ Below w.heap.size w w' := by
  have HN := Lib.hid hn
  have h0 := (ne_facts d h).1
  clear hn
  go_enter Tryz.func39, Tryz.ntmps39
  go_wp2_with fail
  refine (Atoi_ok d hs n HN.out _).mono ?_
  rintro e w1 ⟨rfl, hb⟩
  go_wp2
  go_returns
  have hb2 := trivial; have hb3 := trivial; have hb4 := trivial; exact ⟨rfl, (by (repeat (first | with_reducible exact Below.refl _ _ | with_reducible refine below_drewN ?_ _ | with_reducible refine Below.setCell ?_ ?_ _ | with_reducible refine below_alloc ?_ ?_ _ | with_reducible refine Below.trans ?_ (Below.mono hb ?_) | with_reducible refine Below.trans ?_ (Below.mono hb2 ?_) | with_reducible refine Below.trans ?_ (Below.mono hb3 ?_) | with_reducible refine Below.trans ?_ (Below.mono hb4 ?_))); all_goals first | exact Nat.le_refl _ | (simp; done) | (simp; omega) | omega)⟩
theorem ex_far (a : Bool) (b c d : ByteArray) (w : World) (hs : d.size ≤ 140737488351232) (h : ¬ d.toList = []) (n : Int) (hn : Lib.atoiAll d.data.toList = .ok n) (h1 : 128 < n ∨ n < -128) :
    Calls Tryz.prog 39 #[.agg #[.bool a, .string b, .string c, .string d]] w fun e w' => e = .returned (.int .i64 (farF d)) ∧ Below w.heap.size w w' := by
  have HN := Lib.hid hn
  have h0 := (ne_facts d h).1
  clear hn
  unfold farF
  by_cases hp : cutOk d ⟨#[45]⟩ = true <;> rcases h1 with h1 | h1
  all_goals
    simp only [hp, if_true, if_false, Bool.false_eq_true]
    go_enter Tryz.func39, Tryz.ntmps39
    go_wp2_with fail
    refine (Atoi_ok d hs n HN.out _).mono ?_
    rintro e w1 ⟨rfl, hb⟩
    obtain ⟨hc, hf⟩ := bcell hb; have hz : w.heap.size < w1.heap.size := (by have := hb.size; simp at this; omega)
    go_wp2_with (go_at_call 54; refine (HasPrefix_calls _ _ _ ?_ ?_).mono ?_; omega; decide; rintro e w' ⟨rfl, rfl⟩)
    go_returns
    have hb2 := trivial; have hb3 := trivial; have hb4 := trivial; exact ⟨rfl, (by (repeat (first | with_reducible exact Below.refl _ _ | with_reducible refine below_drewN ?_ _ | with_reducible refine Below.setCell ?_ ?_ _ | with_reducible refine below_alloc ?_ ?_ _ | with_reducible refine Below.trans ?_ (Below.mono hb ?_) | with_reducible refine Below.trans ?_ (Below.mono hb2 ?_) | with_reducible refine Below.trans ?_ (Below.mono hb3 ?_) | with_reducible refine Below.trans ?_ (Below.mono hb4 ?_))); all_goals first | exact Nat.le_refl _ | (simp; done) | (simp; omega) | omega)⟩
theorem ex_bad (a : Bool) (b c d : ByteArray) (w : World) (G : Glob w) (hs : d.size ≤ 140737488351232) (h : ¬ d.toList = []) (hn : ∀ v, Lib.atoiAll d.data.toList ≠ .ok v) :
    Calls Tryz.prog 39 #[.agg #[.bool a, .string b, .string c, .string d]] w fun e w' => e = .returned (.int .i64 (farF d)) ∧ Below w.heap.size w w' := by
  have HN := Lib.hid hn
  have h0 := (ne_facts d h).1
  have G1 := Lib.hid (Glob.alloc G (.cells #[.bool a, .string b, .string c, .string d] 51))
  clear hn G
  unfold farF
  by_cases hp : cutOk d ⟨#[45]⟩ = true
  all_goals
    simp only [hp, if_true, if_false, Bool.false_eq_true]
    go_enter Tryz.func39, Tryz.ntmps39
    go_wp2_with fail
    refine (Atoi_bad d hs HN.out _ G1.out).mono ?_
    rintro e w1 ⟨n, t, p, rfl, hb⟩
    obtain ⟨hc, hf⟩ := bcell hb; have hz : w.heap.size < w1.heap.size := (by have := hb.size; simp at this; omega)
    go_wp2_with (go_at_call 54; refine (HasPrefix_calls _ _ _ ?_ ?_).mono ?_; omega; decide; rintro e w' ⟨rfl, rfl⟩)
    go_returns
    have hb2 := trivial; have hb3 := trivial; have hb4 := trivial; exact ⟨rfl, (by (repeat (first | with_reducible exact Below.refl _ _ | with_reducible refine below_drewN ?_ _ | with_reducible refine Below.setCell ?_ ?_ _ | with_reducible refine below_alloc ?_ ?_ _ | with_reducible refine Below.trans ?_ (Below.mono hb ?_) | with_reducible refine Below.trans ?_ (Below.mono hb2 ?_) | with_reducible refine Below.trans ?_ (Below.mono hb3 ?_) | with_reducible refine Below.trans ?_ (Below.mono hb4 ?_))); all_goals first | exact Nat.le_refl _ | (simp; done) | (simp; omega) | omega)⟩
theorem ex_calls (a : Bool) (b c d : ByteArray) (w : World) (G : Glob w) (hs : d.size ≤ 140737488351232) :
    Calls Tryz.prog 39 #[.agg #[.bool a, .string b, .string c, .string d]] w fun e w' => e = .returned (.int .i64 (exF d)) ∧ Below w.heap.size w w' := by
  unfold exF
  by_cases h : d.toList = []
  · rw [if_pos h]; exact ex_nil a b c d w h
  rw [if_neg h]
  cases hn : Lib.atoiAll d.data.toList
  · rename_i n
    simp only []
    by_cases h1 : 128 < n ∨ n < -128
    · rw [if_pos h1]; exact ex_far a b c d w hs h n hn h1
    · rw [if_neg h1]; exact ex_ok a b c d w hs h n hn (by omega) (by omega)
  · exact ex_bad a b c d w G hs h (by rw [hn]; intro v hv; cases hv)
  · exact ex_bad a b c d w G hs h (by rw [hn]; intro v hv; cases hv)
end Go.Proofs.YtkdcbpbbfbjojaaGreatDoor.Ex
