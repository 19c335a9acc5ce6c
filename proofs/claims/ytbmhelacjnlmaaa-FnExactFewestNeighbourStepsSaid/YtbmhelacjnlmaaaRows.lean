/-
  No cell of these rows narrows 'for every input' (looked for: loops, veiled, ifaces, maps, wideKeys, modest, calm, conditions, laid).
  DERIVED. THE GIVEN ROWS OF THIS SEAT. 5 by the template 'for every input the law returns true; each argument reads behind the call as it read before'; 0 by the template 'total and deterministic' (their statements: YtbmhelacjnlmaaaTotals.lean).
  GIVEN WITH THE SEED: the statements are not yours to turn. If you find one false, say at which input.
  Laid BY PROGRAM, IN A SANDBOX (cutbox-rows.mjs): the forced cells as the released guide's own fill.sh prints them over the translation c231570083d18f45… (all of the seat's roots in one cut). By AI agents, Wed Nov 11 2026. No macro, syntax, notation, axiom, sorry.
-/
import Derived.Test.YtbmhelacjnlmaaaChecked
import GoSem.Claim
import GoSem.ClaimJoined
import GoSem.ClaimMapViews
import Derived.JoinedTies
import Derived.KernelRfl
namespace Go.Proofs.Ytbmhelacjnlmaaa
/- THE CELL 'sum', in the pinned program and in every row, IS THE sha256 OF THE DUMP (.gsa) THAT YtbmhelacjnlmaaaProg.lean LOADS. Nothing in Lean hashes anything: it is a label: what it is worth is what the hold of that sum in a sandbox is worth. -/
noncomputable def Try.pinned : Pinned := { name := "ytbmhelacjnlmaaa", sum := "c231570083d18f45dab9d1481af08ca5c6c5fe25323899bcf36f14e17a1091a3", checked := Try.checked }
namespace Rows
def none {H : Type} : Left H := { results := [], args := [] }

/-- 'laws.FnExactAreSizes': WHATEVER THE INPUT: true; the input reads as it did. -/
def fnExactAreSizesSpec : ChangeSpec := { name := "fnExactAreSizes", fn := fun _ => fun
  | [d] => { results := [.lit (.bool true)], args := [d] }
  | _ => none }
def fnExactAreSizesRow : OpenClaim := { program := "ytbmhelacjnlmaaa", sum := "c231570083d18f45dab9d1481af08ca5c6c5fe25323899bcf36f14e17a1091a3", func := "loop.example/g01372/laws.FnExactAreSizes", spec := "fnExactAreSizes", unfollowed := true, recurses := true, apart := false }
def FnExactAreSizesSaid : Prop := fnExactAreSizesRow.holds Try.pinned (OpenSpec.ofChange fnExactAreSizesSpec)

/-- ITS FALSE NEIGHBOUR: 'it returns false'. Refute it at one input. -/
def fnExactAreSizesWrong : ChangeSpec := { name := "fnExactAreSizes", fn := fun _ => fun
  | [d] => { results := [.lit (.bool false)], args := [d] }
  | _ => none }
def FnExactAreSizesWrongFalsely : Prop := fnExactAreSizesRow.holds Try.pinned (OpenSpec.ofChange fnExactAreSizesWrong)

/-- 'laws.FnExactIsRack': WHATEVER THE INPUT: true; the input reads as it did. -/
def fnExactIsRackSpec : ChangeSpec := { name := "fnExactIsRack", fn := fun _ => fun
  | [d] => { results := [.lit (.bool true)], args := [d] }
  | _ => none }
def fnExactIsRackRow : OpenClaim := { program := "ytbmhelacjnlmaaa", sum := "c231570083d18f45dab9d1481af08ca5c6c5fe25323899bcf36f14e17a1091a3", func := "loop.example/g01372/laws.FnExactIsRack", spec := "fnExactIsRack", apart := false }
def FnExactIsRackSaid : Prop := fnExactIsRackRow.holds Try.pinned (OpenSpec.ofChange fnExactIsRackSpec)

/-- ITS FALSE NEIGHBOUR: 'it returns false'. Refute it at one input. -/
def fnExactIsRackWrong : ChangeSpec := { name := "fnExactIsRack", fn := fun _ => fun
  | [d] => { results := [.lit (.bool false)], args := [d] }
  | _ => none }
def FnExactIsRackWrongFalsely : Prop := fnExactIsRackRow.holds Try.pinned (OpenSpec.ofChange fnExactIsRackWrong)

/-- 'laws.FnExactExchangeShoes': WHATEVER THE INPUT: true; the input reads as it did. -/
def fnExactExchangeShoesSpec : ChangeSpec := { name := "fnExactExchangeShoes", fn := fun _ => fun
  | [d1, d2, d3] => { results := [.lit (.bool true)], args := [d1, d2, d3] }
  | _ => none }
def fnExactExchangeShoesRow : OpenClaim := { program := "ytbmhelacjnlmaaa", sum := "c231570083d18f45dab9d1481af08ca5c6c5fe25323899bcf36f14e17a1091a3", func := "loop.example/g01372/laws.FnExactExchangeShoes", spec := "fnExactExchangeShoes", apart := false }
def FnExactExchangeShoesSaid : Prop := fnExactExchangeShoesRow.holds Try.pinned (OpenSpec.ofChange fnExactExchangeShoesSpec)

/-- ITS FALSE NEIGHBOUR: 'it returns false'. Refute it at one input. -/
def fnExactExchangeShoesWrong : ChangeSpec := { name := "fnExactExchangeShoes", fn := fun _ => fun
  | [d1, d2, d3] => { results := [.lit (.bool false)], args := [d1, d2, d3] }
  | _ => none }
def FnExactExchangeShoesWrongFalsely : Prop := fnExactExchangeShoesRow.holds Try.pinned (OpenSpec.ofChange fnExactExchangeShoesWrong)

/-- 'laws.FnExactFewestNeighbourSteps': WHATEVER THE INPUT: true; the input reads as it did. -/
def fnExactFewestNeighbourStepsSpec : ChangeSpec := { name := "fnExactFewestNeighbourSteps", fn := fun _ => fun
  | [d] => { results := [.lit (.bool true)], args := [d] }
  | _ => none }
def fnExactFewestNeighbourStepsRow : OpenClaim := { program := "ytbmhelacjnlmaaa", sum := "c231570083d18f45dab9d1481af08ca5c6c5fe25323899bcf36f14e17a1091a3", func := "loop.example/g01372/laws.FnExactFewestNeighbourSteps", spec := "fnExactFewestNeighbourSteps", apart := false }
def FnExactFewestNeighbourStepsSaid : Prop := fnExactFewestNeighbourStepsRow.holds Try.pinned (OpenSpec.ofChange fnExactFewestNeighbourStepsSpec)

/-- ITS FALSE NEIGHBOUR: 'it returns false'. Refute it at one input. -/
def fnExactFewestNeighbourStepsWrong : ChangeSpec := { name := "fnExactFewestNeighbourSteps", fn := fun _ => fun
  | [d] => { results := [.lit (.bool false)], args := [d] }
  | _ => none }
def FnExactFewestNeighbourStepsWrongFalsely : Prop := fnExactFewestNeighbourStepsRow.holds Try.pinned (OpenSpec.ofChange fnExactFewestNeighbourStepsWrong)

/-- 'laws.FnExactFewestExchanges': WHATEVER THE INPUT: true; the input reads as it did. -/
def fnExactFewestExchangesSpec : ChangeSpec := { name := "fnExactFewestExchanges", fn := fun _ => fun
  | [d] => { results := [.lit (.bool true)], args := [d] }
  | _ => none }
def fnExactFewestExchangesRow : OpenClaim := { program := "ytbmhelacjnlmaaa", sum := "c231570083d18f45dab9d1481af08ca5c6c5fe25323899bcf36f14e17a1091a3", func := "loop.example/g01372/laws.FnExactFewestExchanges", spec := "fnExactFewestExchanges", apart := false }
def FnExactFewestExchangesSaid : Prop := fnExactFewestExchangesRow.holds Try.pinned (OpenSpec.ofChange fnExactFewestExchangesSpec)

/-- ITS FALSE NEIGHBOUR: 'it returns false'. Refute it at one input. -/
def fnExactFewestExchangesWrong : ChangeSpec := { name := "fnExactFewestExchanges", fn := fun _ => fun
  | [d] => { results := [.lit (.bool false)], args := [d] }
  | _ => none }
def FnExactFewestExchangesWrongFalsely : Prop := fnExactFewestExchangesRow.holds Try.pinned (OpenSpec.ofChange fnExactFewestExchangesWrong)

/- THE SECOND FORM. 'bulk': how many values and letters a reading holds, each counted each time it is reached (what is shared counts as often as it is met; a slice's spare places count too). A statement '..UptoSaid' is the law's where the arguments, and the package variables that the reading takes, are together of bulk at most 1048576: NARROWER than '..Said'. Prove '..Said' where nothing that the law and all that it calls make is longer than what came in: it says more and counts as full. Else prove '..UptoSaid'. A law counts once. -/
mutual
def uptoBulk {H : Type} : DataW H → Nat
  | .lit (.string bytes) => bytes.length + 1
  | .lit _ => 1
  | .nil => 1
  | .ptr d => uptoBulk d + 1
  | .slice elems spare => uptoBulkAll elems + uptoBulkAll spare + 1
  | .agg parts => uptoBulkAll parts + 1
  | .iface _ d => uptoBulk d + 1
  | .map entries => uptoBulkEntries entries + 1
  | .held _ => 1
def uptoBulkAll {H : Type} : List (DataW H) → Nat
  | [] => 0
  | d :: r => uptoBulk d + uptoBulkAll r
def uptoBulkEntries {H : Type} : List (Lit × DataW H) → Nat
  | [] => 0
  | x :: r => uptoBulkEntry x + uptoBulkEntries r
def uptoBulkEntry {H : Type} : Lit × DataW H → Nat
  | (.string bytes, d) => bytes.length + uptoBulk d + 1
  | (_, d) => uptoBulk d + 1
 end
def uptoSmall : (H : Type) → List (DataW H) → Bool := fun _ ds => decide (uptoBulkAll ds ≤ 1048576)
def OpenSpec.upto (s : _root_.Go.ChangeSpec) : _root_.Go.OpenSpec := { _root_.Go.OpenSpec.ofChange s with cond := some uptoSmall }

/-- 'laws.FnExactAreSizes', WHERE WHAT IT READS IS OF BULK AT MOST 1048576: true; the input reads as it did. -/
def fnExactAreSizesUptoRow : OpenClaim := { program := "ytbmhelacjnlmaaa", sum := "c231570083d18f45dab9d1481af08ca5c6c5fe25323899bcf36f14e17a1091a3", func := "loop.example/g01372/laws.FnExactAreSizes", spec := "fnExactAreSizes", unfollowed := true, recurses := true, apart := false, narrowed := true }
def FnExactAreSizesUptoSaid : Prop := fnExactAreSizesUptoRow.holds Try.pinned (OpenSpec.upto fnExactAreSizesSpec)

/-- 'laws.FnExactIsRack', WHERE WHAT IT READS IS OF BULK AT MOST 1048576: true; the input reads as it did. -/
def fnExactIsRackUptoRow : OpenClaim := { program := "ytbmhelacjnlmaaa", sum := "c231570083d18f45dab9d1481af08ca5c6c5fe25323899bcf36f14e17a1091a3", func := "loop.example/g01372/laws.FnExactIsRack", spec := "fnExactIsRack", apart := false, narrowed := true }
def FnExactIsRackUptoSaid : Prop := fnExactIsRackUptoRow.holds Try.pinned (OpenSpec.upto fnExactIsRackSpec)

/-- 'laws.FnExactExchangeShoes', WHERE WHAT IT READS IS OF BULK AT MOST 1048576: true; the input reads as it did. -/
def fnExactExchangeShoesUptoRow : OpenClaim := { program := "ytbmhelacjnlmaaa", sum := "c231570083d18f45dab9d1481af08ca5c6c5fe25323899bcf36f14e17a1091a3", func := "loop.example/g01372/laws.FnExactExchangeShoes", spec := "fnExactExchangeShoes", apart := false, narrowed := true }
def FnExactExchangeShoesUptoSaid : Prop := fnExactExchangeShoesUptoRow.holds Try.pinned (OpenSpec.upto fnExactExchangeShoesSpec)

/-- 'laws.FnExactFewestNeighbourSteps', WHERE WHAT IT READS IS OF BULK AT MOST 1048576: true; the input reads as it did. -/
def fnExactFewestNeighbourStepsUptoRow : OpenClaim := { program := "ytbmhelacjnlmaaa", sum := "c231570083d18f45dab9d1481af08ca5c6c5fe25323899bcf36f14e17a1091a3", func := "loop.example/g01372/laws.FnExactFewestNeighbourSteps", spec := "fnExactFewestNeighbourSteps", apart := false, narrowed := true }
def FnExactFewestNeighbourStepsUptoSaid : Prop := fnExactFewestNeighbourStepsUptoRow.holds Try.pinned (OpenSpec.upto fnExactFewestNeighbourStepsSpec)

/-- 'laws.FnExactFewestExchanges', WHERE WHAT IT READS IS OF BULK AT MOST 1048576: true; the input reads as it did. -/
def fnExactFewestExchangesUptoRow : OpenClaim := { program := "ytbmhelacjnlmaaa", sum := "c231570083d18f45dab9d1481af08ca5c6c5fe25323899bcf36f14e17a1091a3", func := "loop.example/g01372/laws.FnExactFewestExchanges", spec := "fnExactFewestExchanges", apart := false, narrowed := true }
def FnExactFewestExchangesUptoSaid : Prop := fnExactFewestExchangesUptoRow.holds Try.pinned (OpenSpec.upto fnExactFewestExchangesSpec)

end Rows
end Go.Proofs.Ytbmhelacjnlmaaa
