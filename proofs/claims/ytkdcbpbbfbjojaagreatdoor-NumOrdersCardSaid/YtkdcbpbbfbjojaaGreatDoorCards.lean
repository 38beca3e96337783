/-
  DERIVED. GIVEN WITH THE SEED: THE CARDS: each row of YtkdcbpbbfbjojaaGreatDoorRows.lean that lists a variable, with what it lists TIED to the program's text (the seventh form; the later family's looks); each row that meets fmt, with fmt's text TOLD by the authors' own Lean function (tested against real Go, not proved from fmt's source: count such statements apart). THE CARD IS WHAT COUNTS. Prove the row's statement (the work); the ties are given (YtkdcbpbbfbjojaaGreatDoorTie.lean); close each card by the builder's one call (the guide's Derived/Test/ToyasCard.lean, 'card_holds'). Laid BY PROGRAM, IN A SANDBOX (cutbox-door.mjs). By AI agents, Wed Nov 11 2026. No macro, syntax, notation, axiom, sorry.
-/
import Derived.Test.YtkdcbpbbfbjojaaGreatDoorRows
import GoSem.ClaimSeven
namespace Go.Proofs.YtkdcbpbbfbjojaaGreatDoor
namespace Rows

/-- THE TIED CARD OF 'crossdocklaw12.NumCanon'. -/
def numCanonCard : Claim7 := { stood := { row := numCanonRow, standIns := [], harness := (true, "bbb9094447af12e5c23f59ed3a3ee41aa7d2728bcb257b617a8111ace90f1c05"), looks := true }, kinds := [], alts := [], laidByText := true, laidKinds := [.data, .data, .widerDeep, .widerDeep, .data, .data, .data, .data, .data, .data, .sentinel, .sentinel, .pinned, .pinned, .pinned], laidTests := true, laidLooks := .later }
def NumCanonCardSaid : Prop := Claim7.holds Tryz.pinned (.plain (OpenSpec.ofChange numCanonSpec)) numCanonCard

/-- THE TIED CARD OF 'crossdocklaw12.NumTakes'. -/
def numTakesCard : Claim7 := { stood := { row := numTakesRow, standIns := [], harness := (true, "bbb9094447af12e5c23f59ed3a3ee41aa7d2728bcb257b617a8111ace90f1c05"), looks := true }, kinds := [], alts := [], laidByText := true, laidKinds := [.data, .data, .widerDeep, .widerDeep, .data, .data, .data, .data, .data, .data, .sentinel, .sentinel, .pinned, .pinned, .pinned], laidTests := true, laidLooks := .later }
def NumTakesCardSaid : Prop := Claim7.holds Tryz.pinned (.plain (OpenSpec.ofChange numTakesSpec)) numTakesCard

/-- THE TIED CARD OF 'crossdocklaw12.NumOrders'. -/
def numOrdersCard : Claim7 := { stood := { row := numOrdersRow, standIns := [], harness := (true, "bbb9094447af12e5c23f59ed3a3ee41aa7d2728bcb257b617a8111ace90f1c05"), looks := true }, kinds := [], alts := [], laidByText := true, laidKinds := [.data, .data, .widerDeep, .widerDeep, .data, .data, .data, .data, .data, .data, .sentinel, .sentinel, .pinned, .pinned, .pinned], laidTests := true, laidLooks := .later }
def NumOrdersCardSaid : Prop := Claim7.holds Tryz.pinned (.plain (OpenSpec.ofChange numOrdersSpec)) numOrdersCard

/-- THE SECOND FORM's CARD OF 'crossdocklaw12.NumCanon'. -/
def numCanonUptoCard : Claim7 := { stood := { row := numCanonUptoRow, standIns := [], harness := (true, "bbb9094447af12e5c23f59ed3a3ee41aa7d2728bcb257b617a8111ace90f1c05"), looks := true }, kinds := [], alts := [], laidByText := true, laidKinds := [.data, .data, .widerDeep, .widerDeep, .data, .data, .data, .data, .data, .data, .sentinel, .sentinel, .pinned, .pinned, .pinned], laidTests := true, laidLooks := .later }
def NumCanonUptoCardSaid : Prop := Claim7.holds Tryz.pinned (.plain (OpenSpec.upto numCanonSpec)) numCanonUptoCard

/-- THE SECOND FORM's CARD OF 'crossdocklaw12.NumTakes'. -/
def numTakesUptoCard : Claim7 := { stood := { row := numTakesUptoRow, standIns := [], harness := (true, "bbb9094447af12e5c23f59ed3a3ee41aa7d2728bcb257b617a8111ace90f1c05"), looks := true }, kinds := [], alts := [], laidByText := true, laidKinds := [.data, .data, .widerDeep, .widerDeep, .data, .data, .data, .data, .data, .data, .sentinel, .sentinel, .pinned, .pinned, .pinned], laidTests := true, laidLooks := .later }
def NumTakesUptoCardSaid : Prop := Claim7.holds Tryz.pinned (.plain (OpenSpec.upto numTakesSpec)) numTakesUptoCard

/-- THE SECOND FORM's CARD OF 'crossdocklaw12.NumOrders'. -/
def numOrdersUptoCard : Claim7 := { stood := { row := numOrdersUptoRow, standIns := [], harness := (true, "bbb9094447af12e5c23f59ed3a3ee41aa7d2728bcb257b617a8111ace90f1c05"), looks := true }, kinds := [], alts := [], laidByText := true, laidKinds := [.data, .data, .widerDeep, .widerDeep, .data, .data, .data, .data, .data, .data, .sentinel, .sentinel, .pinned, .pinned, .pinned], laidTests := true, laidLooks := .later }
def NumOrdersUptoCardSaid : Prop := Claim7.holds Tryz.pinned (.plain (OpenSpec.upto numOrdersSpec)) numOrdersUptoCard
end Rows
end Go.Proofs.YtkdcbpbbfbjojaaGreatDoor
