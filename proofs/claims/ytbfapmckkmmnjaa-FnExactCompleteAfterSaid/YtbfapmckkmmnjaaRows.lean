/-
  No cell of these rows narrows 'for every input' (looked for: loops, veiled, ifaces, maps, wideKeys, modest, calm, conditions, laid).
  DERIVED. THE GIVEN ROWS OF THIS SEAT. 7 by the template 'for every input the law returns true; each argument reads behind the call as it read before'; 0 by the template 'total and deterministic' (their statements: YtbfapmckkmmnjaaTotals.lean).
  GIVEN WITH THE SEED: the statements are not yours to turn. If you find one false, say at which input.
  Laid BY PROGRAM, IN A SANDBOX (cutbox-rows.mjs): the forced cells as the released guide's own fill.sh prints them over the translation 261dbcab23ea3da9… (all of the seat's roots in one cut). By AI agents, Wed Nov 11 2026. No macro, syntax, notation, axiom, sorry.
-/
import Derived.Test.YtbfapmckkmmnjaaChecked
import GoSem.Claim
import GoSem.ClaimJoined
import GoSem.ClaimMapViews
import Derived.JoinedTies
import Derived.KernelRfl
namespace Go.Proofs.Ytbfapmckkmmnjaa
/- THE CELL 'sum', in the pinned program and in every row, IS THE sha256 OF THE DUMP (.gsa) THAT YtbfapmckkmmnjaaProg.lean LOADS. Nothing in Lean hashes anything: it is a label: what it is worth is what the hold of that sum in a sandbox is worth. -/
noncomputable def Try.pinned : Pinned := { name := "ytbfapmckkmmnjaa", sum := "261dbcab23ea3da939a61ed28594a7ea131d0df77ed3dbdb414539eb59326500", checked := Try.checked }
namespace Rows
def none {H : Type} : Left H := { results := [], args := [] }

/-- 'laws.FnExactIsBasket': WHATEVER THE INPUT: true; the input reads as it did. -/
def fnExactIsBasketSpec : ChangeSpec := { name := "fnExactIsBasket", fn := fun _ => fun
  | [d1, d2] => { results := [.lit (.bool true)], args := [d1, d2] }
  | _ => none }
def fnExactIsBasketRow : OpenClaim := { program := "ytbfapmckkmmnjaa", sum := "261dbcab23ea3da939a61ed28594a7ea131d0df77ed3dbdb414539eb59326500", func := "loop.example/g01372/laws.FnExactIsBasket", spec := "fnExactIsBasket", apart := false }
def FnExactIsBasketSaid : Prop := fnExactIsBasketRow.holds Try.pinned (OpenSpec.ofChange fnExactIsBasketSpec)

/-- ITS FALSE NEIGHBOUR: 'it returns false'. Refute it at one input. -/
def fnExactIsBasketWrong : ChangeSpec := { name := "fnExactIsBasket", fn := fun _ => fun
  | [d1, d2] => { results := [.lit (.bool false)], args := [d1, d2] }
  | _ => none }
def FnExactIsBasketWrongFalsely : Prop := fnExactIsBasketRow.holds Try.pinned (OpenSpec.ofChange fnExactIsBasketWrong)

/-- 'laws.FnExactCompleteAfter': WHATEVER THE INPUT: true; the input reads as it did. -/
def fnExactCompleteAfterSpec : ChangeSpec := { name := "fnExactCompleteAfter", fn := fun _ => fun
  | [d1, d2] => { results := [.lit (.bool true)], args := [d1, d2] }
  | _ => none }
def fnExactCompleteAfterRow : OpenClaim := { program := "ytbfapmckkmmnjaa", sum := "261dbcab23ea3da939a61ed28594a7ea131d0df77ed3dbdb414539eb59326500", func := "loop.example/g01372/laws.FnExactCompleteAfter", spec := "fnExactCompleteAfter", apart := false }
def FnExactCompleteAfterSaid : Prop := fnExactCompleteAfterRow.holds Try.pinned (OpenSpec.ofChange fnExactCompleteAfterSpec)

/-- ITS FALSE NEIGHBOUR: 'it returns false'. Refute it at one input. -/
def fnExactCompleteAfterWrong : ChangeSpec := { name := "fnExactCompleteAfter", fn := fun _ => fun
  | [d1, d2] => { results := [.lit (.bool false)], args := [d1, d2] }
  | _ => none }
def FnExactCompleteAfterWrongFalsely : Prop := fnExactCompleteAfterRow.holds Try.pinned (OpenSpec.ofChange fnExactCompleteAfterWrong)

/-- 'laws.FnExactBasketAfter': WHATEVER THE INPUT: true; the input reads as it did. -/
def fnExactBasketAfterSpec : ChangeSpec := { name := "fnExactBasketAfter", fn := fun _ => fun
  | [d1, d2] => { results := [.lit (.bool true)], args := [d1, d2] }
  | _ => none }
def fnExactBasketAfterRow : OpenClaim := { program := "ytbfapmckkmmnjaa", sum := "261dbcab23ea3da939a61ed28594a7ea131d0df77ed3dbdb414539eb59326500", func := "loop.example/g01372/laws.FnExactBasketAfter", spec := "fnExactBasketAfter", apart := false }
def FnExactBasketAfterSaid : Prop := fnExactBasketAfterRow.holds Try.pinned (OpenSpec.ofChange fnExactBasketAfterSpec)

/-- ITS FALSE NEIGHBOUR: 'it returns false'. Refute it at one input. -/
def fnExactBasketAfterWrong : ChangeSpec := { name := "fnExactBasketAfter", fn := fun _ => fun
  | [d1, d2] => { results := [.lit (.bool false)], args := [d1, d2] }
  | _ => none }
def FnExactBasketAfterWrongFalsely : Prop := fnExactBasketAfterRow.holds Try.pinned (OpenSpec.ofChange fnExactBasketAfterWrong)

/-- 'laws.FnExactCompleteIn': WHATEVER THE INPUT: true; the input reads as it did. -/
def fnExactCompleteInSpec : ChangeSpec := { name := "fnExactCompleteIn", fn := fun _ => fun
  | [d1, d2] => { results := [.lit (.bool true)], args := [d1, d2] }
  | _ => none }
def fnExactCompleteInRow : OpenClaim := { program := "ytbfapmckkmmnjaa", sum := "261dbcab23ea3da939a61ed28594a7ea131d0df77ed3dbdb414539eb59326500", func := "loop.example/g01372/laws.FnExactCompleteIn", spec := "fnExactCompleteIn", apart := false }
def FnExactCompleteInSaid : Prop := fnExactCompleteInRow.holds Try.pinned (OpenSpec.ofChange fnExactCompleteInSpec)

/-- ITS FALSE NEIGHBOUR: 'it returns false'. Refute it at one input. -/
def fnExactCompleteInWrong : ChangeSpec := { name := "fnExactCompleteIn", fn := fun _ => fun
  | [d1, d2] => { results := [.lit (.bool false)], args := [d1, d2] }
  | _ => none }
def FnExactCompleteInWrongFalsely : Prop := fnExactCompleteInRow.holds Try.pinned (OpenSpec.ofChange fnExactCompleteInWrong)

/-- 'laws.FnExactGoneFrom': WHATEVER THE INPUT: true; the input reads as it did. -/
def fnExactGoneFromSpec : ChangeSpec := { name := "fnExactGoneFrom", fn := fun _ => fun
  | [d1, d2] => { results := [.lit (.bool true)], args := [d1, d2] }
  | _ => none }
def fnExactGoneFromRow : OpenClaim := { program := "ytbfapmckkmmnjaa", sum := "261dbcab23ea3da939a61ed28594a7ea131d0df77ed3dbdb414539eb59326500", func := "loop.example/g01372/laws.FnExactGoneFrom", spec := "fnExactGoneFrom", apart := false }
def FnExactGoneFromSaid : Prop := fnExactGoneFromRow.holds Try.pinned (OpenSpec.ofChange fnExactGoneFromSpec)

/-- ITS FALSE NEIGHBOUR: 'it returns false'. Refute it at one input. -/
def fnExactGoneFromWrong : ChangeSpec := { name := "fnExactGoneFrom", fn := fun _ => fun
  | [d1, d2] => { results := [.lit (.bool false)], args := [d1, d2] }
  | _ => none }
def FnExactGoneFromWrongFalsely : Prop := fnExactGoneFromRow.holds Try.pinned (OpenSpec.ofChange fnExactGoneFromWrong)

/-- 'laws.FnExactSinglesIn': WHATEVER THE INPUT: true; the input reads as it did. -/
def fnExactSinglesInSpec : ChangeSpec := { name := "fnExactSinglesIn", fn := fun _ => fun
  | [d1, d2] => { results := [.lit (.bool true)], args := [d1, d2] }
  | _ => none }
def fnExactSinglesInRow : OpenClaim := { program := "ytbfapmckkmmnjaa", sum := "261dbcab23ea3da939a61ed28594a7ea131d0df77ed3dbdb414539eb59326500", func := "loop.example/g01372/laws.FnExactSinglesIn", spec := "fnExactSinglesIn", apart := false }
def FnExactSinglesInSaid : Prop := fnExactSinglesInRow.holds Try.pinned (OpenSpec.ofChange fnExactSinglesInSpec)

/-- ITS FALSE NEIGHBOUR: 'it returns false'. Refute it at one input. -/
def fnExactSinglesInWrong : ChangeSpec := { name := "fnExactSinglesIn", fn := fun _ => fun
  | [d1, d2] => { results := [.lit (.bool false)], args := [d1, d2] }
  | _ => none }
def FnExactSinglesInWrongFalsely : Prop := fnExactSinglesInRow.holds Try.pinned (OpenSpec.ofChange fnExactSinglesInWrong)

/-- 'laws.FnExactJoinBaskets': WHATEVER THE INPUT: true; the input reads as it did. -/
def fnExactJoinBasketsSpec : ChangeSpec := { name := "fnExactJoinBaskets", fn := fun _ => fun
  | [d1, d2, d3] => { results := [.lit (.bool true)], args := [d1, d2, d3] }
  | _ => none }
def fnExactJoinBasketsRow : OpenClaim := { program := "ytbfapmckkmmnjaa", sum := "261dbcab23ea3da939a61ed28594a7ea131d0df77ed3dbdb414539eb59326500", func := "loop.example/g01372/laws.FnExactJoinBaskets", spec := "fnExactJoinBaskets", apart := false }
def FnExactJoinBasketsSaid : Prop := fnExactJoinBasketsRow.holds Try.pinned (OpenSpec.ofChange fnExactJoinBasketsSpec)

/-- ITS FALSE NEIGHBOUR: 'it returns false'. Refute it at one input. -/
def fnExactJoinBasketsWrong : ChangeSpec := { name := "fnExactJoinBaskets", fn := fun _ => fun
  | [d1, d2, d3] => { results := [.lit (.bool false)], args := [d1, d2, d3] }
  | _ => none }
def FnExactJoinBasketsWrongFalsely : Prop := fnExactJoinBasketsRow.holds Try.pinned (OpenSpec.ofChange fnExactJoinBasketsWrong)

/- THE SECOND FORM. 'bulk': how many values and letters a reading holds, each counted each time it is reached (what is shared counts as often as it is met; a slice's spare places count too). A statement '..UptoSaid' is the law's where the arguments, and the package variables that the reading takes, are together of bulk at most 1048576: NARROWER than '..Said'. Prove '..Said' where nothing that the law and all that it calls make is longer than what came in: it says more and counts as full. Else prove '..UptoSaid'. A law counts once. -/
mutual
def uptoBulk {H : Type} : DataW H → Nat
  | .lit (.string bytes) => bytes.length + 1
  | .lit _ => 1
  | .nil => 1
  | .ptr d => uptoBulk d + 1
  | .slice elems spare => uptoBulkAll elems + uptoBulkAll spare + 1
  | .agg parts => uptoBulkAll parts + 1
  | .iface _ d => uptoBulk d + 1
  | .map entries => uptoBulkEntries entries + 1
  | .held _ => 1
def uptoBulkAll {H : Type} : List (DataW H) → Nat
  | [] => 0
  | d :: r => uptoBulk d + uptoBulkAll r
def uptoBulkEntries {H : Type} : List (Lit × DataW H) → Nat
  | [] => 0
  | x :: r => uptoBulkEntry x + uptoBulkEntries r
def uptoBulkEntry {H : Type} : Lit × DataW H → Nat
  | (.string bytes, d) => bytes.length + uptoBulk d + 1
  | (_, d) => uptoBulk d + 1
 end
def uptoSmall : (H : Type) → List (DataW H) → Bool := fun _ ds => decide (uptoBulkAll ds ≤ 1048576)
def OpenSpec.upto (s : _root_.Go.ChangeSpec) : _root_.Go.OpenSpec := { _root_.Go.OpenSpec.ofChange s with cond := some uptoSmall }

/-- 'laws.FnExactIsBasket', WHERE WHAT IT READS IS OF BULK AT MOST 1048576: true; the input reads as it did. -/
def fnExactIsBasketUptoRow : OpenClaim := { program := "ytbfapmckkmmnjaa", sum := "261dbcab23ea3da939a61ed28594a7ea131d0df77ed3dbdb414539eb59326500", func := "loop.example/g01372/laws.FnExactIsBasket", spec := "fnExactIsBasket", apart := false, narrowed := true }
def FnExactIsBasketUptoSaid : Prop := fnExactIsBasketUptoRow.holds Try.pinned (OpenSpec.upto fnExactIsBasketSpec)

/-- 'laws.FnExactCompleteAfter', WHERE WHAT IT READS IS OF BULK AT MOST 1048576: true; the input reads as it did. -/
def fnExactCompleteAfterUptoRow : OpenClaim := { program := "ytbfapmckkmmnjaa", sum := "261dbcab23ea3da939a61ed28594a7ea131d0df77ed3dbdb414539eb59326500", func := "loop.example/g01372/laws.FnExactCompleteAfter", spec := "fnExactCompleteAfter", apart := false, narrowed := true }
def FnExactCompleteAfterUptoSaid : Prop := fnExactCompleteAfterUptoRow.holds Try.pinned (OpenSpec.upto fnExactCompleteAfterSpec)

/-- 'laws.FnExactBasketAfter', WHERE WHAT IT READS IS OF BULK AT MOST 1048576: true; the input reads as it did. -/
def fnExactBasketAfterUptoRow : OpenClaim := { program := "ytbfapmckkmmnjaa", sum := "261dbcab23ea3da939a61ed28594a7ea131d0df77ed3dbdb414539eb59326500", func := "loop.example/g01372/laws.FnExactBasketAfter", spec := "fnExactBasketAfter", apart := false, narrowed := true }
def FnExactBasketAfterUptoSaid : Prop := fnExactBasketAfterUptoRow.holds Try.pinned (OpenSpec.upto fnExactBasketAfterSpec)

/-- 'laws.FnExactCompleteIn', WHERE WHAT IT READS IS OF BULK AT MOST 1048576: true; the input reads as it did. -/
def fnExactCompleteInUptoRow : OpenClaim := { program := "ytbfapmckkmmnjaa", sum := "261dbcab23ea3da939a61ed28594a7ea131d0df77ed3dbdb414539eb59326500", func := "loop.example/g01372/laws.FnExactCompleteIn", spec := "fnExactCompleteIn", apart := false, narrowed := true }
def FnExactCompleteInUptoSaid : Prop := fnExactCompleteInUptoRow.holds Try.pinned (OpenSpec.upto fnExactCompleteInSpec)

/-- 'laws.FnExactGoneFrom', WHERE WHAT IT READS IS OF BULK AT MOST 1048576: true; the input reads as it did. -/
def fnExactGoneFromUptoRow : OpenClaim := { program := "ytbfapmckkmmnjaa", sum := "261dbcab23ea3da939a61ed28594a7ea131d0df77ed3dbdb414539eb59326500", func := "loop.example/g01372/laws.FnExactGoneFrom", spec := "fnExactGoneFrom", apart := false, narrowed := true }
def FnExactGoneFromUptoSaid : Prop := fnExactGoneFromUptoRow.holds Try.pinned (OpenSpec.upto fnExactGoneFromSpec)

/-- 'laws.FnExactSinglesIn', WHERE WHAT IT READS IS OF BULK AT MOST 1048576: true; the input reads as it did. -/
def fnExactSinglesInUptoRow : OpenClaim := { program := "ytbfapmckkmmnjaa", sum := "261dbcab23ea3da939a61ed28594a7ea131d0df77ed3dbdb414539eb59326500", func := "loop.example/g01372/laws.FnExactSinglesIn", spec := "fnExactSinglesIn", apart := false, narrowed := true }
def FnExactSinglesInUptoSaid : Prop := fnExactSinglesInUptoRow.holds Try.pinned (OpenSpec.upto fnExactSinglesInSpec)

/-- 'laws.FnExactJoinBaskets', WHERE WHAT IT READS IS OF BULK AT MOST 1048576: true; the input reads as it did. -/
def fnExactJoinBasketsUptoRow : OpenClaim := { program := "ytbfapmckkmmnjaa", sum := "261dbcab23ea3da939a61ed28594a7ea131d0df77ed3dbdb414539eb59326500", func := "loop.example/g01372/laws.FnExactJoinBaskets", spec := "fnExactJoinBaskets", apart := false, narrowed := true }
def FnExactJoinBasketsUptoSaid : Prop := fnExactJoinBasketsUptoRow.holds Try.pinned (OpenSpec.upto fnExactJoinBasketsSpec)

end Rows
end Go.Proofs.Ytbfapmckkmmnjaa
