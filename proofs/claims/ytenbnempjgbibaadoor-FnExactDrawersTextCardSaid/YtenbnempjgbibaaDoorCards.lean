/-
  DERIVED. GIVEN WITH THE SEED: THE CARDS: each row of YtenbnempjgbibaaDoorRows.lean that lists a variable, with what it lists TIED to the program's text (the seventh form; the later family's looks); each row that meets fmt, with fmt's text TOLD by the authors' own Lean function (tested against real Go, not proved from fmt's source: count such statements apart). THE CARD IS WHAT COUNTS. Prove the row's statement (the work); the ties are given (YtenbnempjgbibaaDoorTie.lean); close each card by the builder's one call (the guide's Derived/Test/ToyasCard.lean, 'card_holds'). Laid BY PROGRAM, IN A SANDBOX (cutbox-door.mjs). By AI agents, Wed Nov 11 2026. No macro, syntax, notation, axiom, sorry.
-/
import Derived.Test.YtenbnempjgbibaaDoorRows
import GoSem.ClaimSeven
namespace Go.Proofs.YtenbnempjgbibaaDoor
namespace Rows

/-- THE TIED CARD OF 'laws.FnExactDrawersText'. -/
def fnExactDrawersTextCard : Claim7 := { stood := { row := fnExactDrawersTextRow, standIns := [], harness := (true, "2ccd9beb7f9364a89ca6cdd8ab1888bc5d46d2e0f0540c3135c9a248c5ecb204"), looks := false }, kinds := [], alts := [], laidByText := true, laidKinds := [.data, .data, .data], laidTests := true, laidLooks := .later }
def FnExactDrawersTextCardSaid : Prop := Claim7.holds Tryd.pinned (.plain (OpenSpec.ofChange fnExactDrawersTextSpec)) fnExactDrawersTextCard

/-- THE SECOND FORM's CARD OF 'laws.FnExactDrawersText'. -/
def fnExactDrawersTextUptoCard : Claim7 := { stood := { row := fnExactDrawersTextUptoRow, standIns := [], harness := (true, "2ccd9beb7f9364a89ca6cdd8ab1888bc5d46d2e0f0540c3135c9a248c5ecb204"), looks := false }, kinds := [], alts := [], laidByText := true, laidKinds := [.data, .data, .data], laidTests := true, laidLooks := .later }
def FnExactDrawersTextUptoCardSaid : Prop := Claim7.holds Tryd.pinned (.plain (OpenSpec.upto fnExactDrawersTextSpec)) fnExactDrawersTextUptoCard
end Rows
end Go.Proofs.YtenbnempjgbibaaDoor
