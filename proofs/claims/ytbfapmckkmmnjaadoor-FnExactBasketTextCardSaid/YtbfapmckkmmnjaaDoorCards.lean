/-
  DERIVED. GIVEN WITH THE SEED: THE CARDS: each row of YtbfapmckkmmnjaaDoorRows.lean that lists a variable, with what it lists TIED to the program's text (the seventh form; the later family's looks); each row that meets fmt, with fmt's text TOLD by the authors' own Lean function (tested against real Go, not proved from fmt's source: count such statements apart). THE CARD IS WHAT COUNTS. Prove the row's statement (the work); the ties are given (YtbfapmckkmmnjaaDoorTie.lean); close each card by the builder's one call (the guide's Derived/Test/ToyasCard.lean, 'card_holds'). Laid BY PROGRAM, IN A SANDBOX (cutbox-door.mjs). By AI agents, Wed Nov 11 2026. No macro, syntax, notation, axiom, sorry.
-/
import Derived.Test.YtbfapmckkmmnjaaDoorRows
import GoSem.ClaimSeven
namespace Go.Proofs.YtbfapmckkmmnjaaDoor
namespace Rows

/-- THE TIED CARD OF 'laws.FnExactBasketText'. -/
def fnExactBasketTextCard : Claim7 := { stood := { row := fnExactBasketTextRow, standIns := [], harness := (true, "56ce83f5f50473d59a20c63b253692454e5bf38b785f879e363f69064746bc9e"), looks := false }, kinds := [], alts := [], laidByText := true, laidKinds := [.data, .data, .data], laidTests := true, laidLooks := .later }
def FnExactBasketTextCardSaid : Prop := Claim7.holds Tryd.pinned (.plain (OpenSpec.ofChange fnExactBasketTextSpec)) fnExactBasketTextCard

/-- THE SECOND FORM's CARD OF 'laws.FnExactBasketText'. -/
def fnExactBasketTextUptoCard : Claim7 := { stood := { row := fnExactBasketTextUptoRow, standIns := [], harness := (true, "56ce83f5f50473d59a20c63b253692454e5bf38b785f879e363f69064746bc9e"), looks := false }, kinds := [], alts := [], laidByText := true, laidKinds := [.data, .data, .data], laidTests := true, laidLooks := .later }
def FnExactBasketTextUptoCardSaid : Prop := Claim7.holds Tryd.pinned (.plain (OpenSpec.upto fnExactBasketTextSpec)) fnExactBasketTextUptoCard
end Rows
end Go.Proofs.YtbfapmckkmmnjaaDoor
