import Derived.Test.YtkdcbpbbfbjojaaGreatDoorRows
import Derived.Test.YtkdcbpbbfbjojaaGreatDoorSh
import Derived.LaidOnce
import Derived.Lib.LaidTab
import Derived.Stop.LaidErr
/- What the listed package-level variables hold, as the walks want it: out of the row's condition. -/
namespace Go.Proofs.YtkdcbpbbfbjojaaGreatDoor.Gl
open Go.ChangeShapes Go.WideShapes Go.ChangeAt Go.RowKit
set_option linter.unusedVariables false
abbrev laid : List (String × DataW Unit) := Rows.numOrdersRow.laid
theorem rowE (u : TypeId) (h : Tryz.prog.typeName? 3 u = some "*errors.errorString") : u = 155 :=
  typeName_ptr_named (nm := "errors.errorString") (by kernel_rfl) (by kernel_rfl) (by decide) u h
theorem cellsE : Tryz.prog.cellsOf 157 = 1 := by kernel_rfl
theorem cellsT : Tryz.prog.cellsOf 9 = 1 := by kernel_rfl
theorem laid_bool {P : Program} {n : String} {b : Bool} {r : List (String × DataW Unit)} {W : World} {g : Nat} {t : TypeId}
    (h : laidMet P ((n, .lit (.bool b)) :: r) W) (hg : P.globalNamed n = some g) (ht : (P.globals[g]?).map (·.type) = some t) (hu : P.underlying t = some .bool) : W.var? P n = some #[.bool b] := by
  obtain ⟨ps, ⟨g', t', cs, fuel, p, q, hg', ht', hvar, hd, _, _⟩, _⟩ := h
  obtain rfl := Option.some.inj (hg.symm.trans hg')
  obtain rfl := Option.some.inj (ht.symm.trans ht')
  rw [hvar]
  cases fuel with
  | zero => simp [DataW.trod] at hd
  | succ fuel =>
    obtain ⟨l⟩ := cs
    simp [DataW.trod, hu] at hd
    rcases l with _ | ⟨v, _ | ⟨v2, l⟩⟩
    · simp at hd
    · cases v <;> simp at hd
      obtain ⟨rfl, _⟩ := hd
      rfl
    · cases v <;> simp at hd
theorem glob {W : World} (h : laidMet Tryz.prog laid W) : Sh.Glob W := by
  have h8 := h.tail.tail.tail.tail.tail.tail.tail.tail
  refine ⟨?_, ?_, ?_, ?_⟩
  · exact Lib.tabIs_of_head (g := 3) (by kernel_rfl) rfl Tryz.underlying133 Tryz.underlying46 (by kernel_rfl) (by kernel_rfl) h8
  · obtain ⟨a, s, hv, _⟩ := laid_sentinel (g := 1) h8.tail.tail.tail (by kernel_rfl) rfl Tryz.underlying24 rowE Tryz.underlying155 Tryz.underlying157 rfl rfl Tryz.underlying9 cellsE cellsT
    exact ⟨_, _, hv⟩
  · obtain ⟨a, s, hv, _⟩ := laid_sentinel (g := 2) h8.tail.tail (by kernel_rfl) rfl Tryz.underlying24 rowE Tryz.underlying155 Tryz.underlying157 rfl rfl Tryz.underlying9 cellsE cellsT
    exact ⟨_, _, hv⟩
  · exact laid_bool (g := 4) h.tail.tail.tail.tail (by kernel_rfl) rfl Tryz.underlying4
end Go.Proofs.YtkdcbpbbfbjojaaGreatDoor.Gl
