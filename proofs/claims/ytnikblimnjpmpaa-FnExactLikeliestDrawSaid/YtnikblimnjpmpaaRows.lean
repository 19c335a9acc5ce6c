/-
  No cell of these rows narrows 'for every input' (looked for: loops, veiled, ifaces, maps, wideKeys, modest, calm, conditions, laid).
  DERIVED. THE GIVEN ROWS OF THIS SEAT. 8 by the template 'for every input the law returns true; each argument reads behind the call as it read before'; 0 by the template 'total and deterministic' (their statements: YtnikblimnjpmpaaTotals.lean).
  GIVEN WITH THE SEED: the statements are not yours to turn. If you find one false, say at which input.
  Laid BY PROGRAM, IN A SANDBOX (cutbox-rows.mjs): the forced cells as the released guide's own fill.sh prints them over the translation 348ba90d6cac6976… (all of the seat's roots in one cut). By AI agents, Wed Nov 11 2026. No macro, syntax, notation, axiom, sorry.
-/
import Derived.Test.YtnikblimnjpmpaaChecked
import GoSem.Claim
import GoSem.ClaimJoined
import GoSem.ClaimMapViews
import Derived.JoinedTies
import Derived.KernelRfl
namespace Go.Proofs.Ytnikblimnjpmpaa
/- THE CELL 'sum', in the pinned program and in every row, IS THE sha256 OF THE DUMP (.gsa) THAT YtnikblimnjpmpaaProg.lean LOADS. Nothing in Lean hashes anything: it is a label: what it is worth is what the hold of that sum in a sandbox is worth. -/
noncomputable def Try.pinned : Pinned := { name := "ytnikblimnjpmpaa", sum := "348ba90d6cac6976e8baf6f565f4db6b751eb73346e21ae88b1fe359ac51d845", checked := Try.checked }
namespace Rows
def none {H : Type} : Left H := { results := [], args := [] }

/-- 'laws.FnExactChanceOfColours': WHATEVER THE INPUT: true; the input reads as it did. -/
def fnExactChanceOfColoursSpec : ChangeSpec := { name := "fnExactChanceOfColours", fn := fun _ => fun
  | [d1, d2, d3] => { results := [.lit (.bool true)], args := [d1, d2, d3] }
  | _ => none }
def fnExactChanceOfColoursRow : OpenClaim := { program := "ytnikblimnjpmpaa", sum := "348ba90d6cac6976e8baf6f565f4db6b751eb73346e21ae88b1fe359ac51d845", func := "loop.example/g01372/laws.FnExactChanceOfColours", spec := "fnExactChanceOfColours", unfollowed := true, recurses := true, apart := false }
def FnExactChanceOfColoursSaid : Prop := fnExactChanceOfColoursRow.holds Try.pinned (OpenSpec.ofChange fnExactChanceOfColoursSpec)

/-- ITS FALSE NEIGHBOUR: 'it returns false'. Refute it at one input. -/
def fnExactChanceOfColoursWrong : ChangeSpec := { name := "fnExactChanceOfColours", fn := fun _ => fun
  | [d1, d2, d3] => { results := [.lit (.bool false)], args := [d1, d2, d3] }
  | _ => none }
def FnExactChanceOfColoursWrongFalsely : Prop := fnExactChanceOfColoursRow.holds Try.pinned (OpenSpec.ofChange fnExactChanceOfColoursWrong)

/-- 'laws.FnExactLikeliestPairs': WHATEVER THE INPUT: true; the input reads as it did. -/
def fnExactLikeliestPairsSpec : ChangeSpec := { name := "fnExactLikeliestPairs", fn := fun _ => fun
  | [d1, d2] => { results := [.lit (.bool true)], args := [d1, d2] }
  | _ => none }
def fnExactLikeliestPairsRow : OpenClaim := { program := "ytnikblimnjpmpaa", sum := "348ba90d6cac6976e8baf6f565f4db6b751eb73346e21ae88b1fe359ac51d845", func := "loop.example/g01372/laws.FnExactLikeliestPairs", spec := "fnExactLikeliestPairs", unfollowed := true, recurses := true, apart := false }
def FnExactLikeliestPairsSaid : Prop := fnExactLikeliestPairsRow.holds Try.pinned (OpenSpec.ofChange fnExactLikeliestPairsSpec)

/-- ITS FALSE NEIGHBOUR: 'it returns false'. Refute it at one input. -/
def fnExactLikeliestPairsWrong : ChangeSpec := { name := "fnExactLikeliestPairs", fn := fun _ => fun
  | [d1, d2] => { results := [.lit (.bool false)], args := [d1, d2] }
  | _ => none }
def FnExactLikeliestPairsWrongFalsely : Prop := fnExactLikeliestPairsRow.holds Try.pinned (OpenSpec.ofChange fnExactLikeliestPairsWrong)

/-- 'laws.FnExactMeanPairs': WHATEVER THE INPUT: true; the input reads as it did. -/
def fnExactMeanPairsSpec : ChangeSpec := { name := "fnExactMeanPairs", fn := fun _ => fun
  | [d1, d2] => { results := [.lit (.bool true)], args := [d1, d2] }
  | _ => none }
def fnExactMeanPairsRow : OpenClaim := { program := "ytnikblimnjpmpaa", sum := "348ba90d6cac6976e8baf6f565f4db6b751eb73346e21ae88b1fe359ac51d845", func := "loop.example/g01372/laws.FnExactMeanPairs", spec := "fnExactMeanPairs", unfollowed := true, recurses := true, apart := false }
def FnExactMeanPairsSaid : Prop := fnExactMeanPairsRow.holds Try.pinned (OpenSpec.ofChange fnExactMeanPairsSpec)

/-- ITS FALSE NEIGHBOUR: 'it returns false'. Refute it at one input. -/
def fnExactMeanPairsWrong : ChangeSpec := { name := "fnExactMeanPairs", fn := fun _ => fun
  | [d1, d2] => { results := [.lit (.bool false)], args := [d1, d2] }
  | _ => none }
def FnExactMeanPairsWrongFalsely : Prop := fnExactMeanPairsRow.holds Try.pinned (OpenSpec.ofChange fnExactMeanPairsWrong)

/-- 'laws.FnExactChanceOfPairs': WHATEVER THE INPUT: true; the input reads as it did. -/
def fnExactChanceOfPairsSpec : ChangeSpec := { name := "fnExactChanceOfPairs", fn := fun _ => fun
  | [d1, d2, d3] => { results := [.lit (.bool true)], args := [d1, d2, d3] }
  | _ => none }
def fnExactChanceOfPairsRow : OpenClaim := { program := "ytnikblimnjpmpaa", sum := "348ba90d6cac6976e8baf6f565f4db6b751eb73346e21ae88b1fe359ac51d845", func := "loop.example/g01372/laws.FnExactChanceOfPairs", spec := "fnExactChanceOfPairs", unfollowed := true, recurses := true, apart := false }
def FnExactChanceOfPairsSaid : Prop := fnExactChanceOfPairsRow.holds Try.pinned (OpenSpec.ofChange fnExactChanceOfPairsSpec)

/-- ITS FALSE NEIGHBOUR: 'it returns false'. Refute it at one input. -/
def fnExactChanceOfPairsWrong : ChangeSpec := { name := "fnExactChanceOfPairs", fn := fun _ => fun
  | [d1, d2, d3] => { results := [.lit (.bool false)], args := [d1, d2, d3] }
  | _ => none }
def FnExactChanceOfPairsWrongFalsely : Prop := fnExactChanceOfPairsRow.holds Try.pinned (OpenSpec.ofChange fnExactChanceOfPairsWrong)

/-- 'laws.FnExactChanceTwoAlike': WHATEVER THE INPUT: true; the input reads as it did. -/
def fnExactChanceTwoAlikeSpec : ChangeSpec := { name := "fnExactChanceTwoAlike", fn := fun _ => fun
  | [d] => { results := [.lit (.bool true)], args := [d] }
  | _ => none }
def fnExactChanceTwoAlikeRow : OpenClaim := { program := "ytnikblimnjpmpaa", sum := "348ba90d6cac6976e8baf6f565f4db6b751eb73346e21ae88b1fe359ac51d845", func := "loop.example/g01372/laws.FnExactChanceTwoAlike", spec := "fnExactChanceTwoAlike", unfollowed := true, recurses := true, apart := false }
def FnExactChanceTwoAlikeSaid : Prop := fnExactChanceTwoAlikeRow.holds Try.pinned (OpenSpec.ofChange fnExactChanceTwoAlikeSpec)

/-- ITS FALSE NEIGHBOUR: 'it returns false'. Refute it at one input. -/
def fnExactChanceTwoAlikeWrong : ChangeSpec := { name := "fnExactChanceTwoAlike", fn := fun _ => fun
  | [d] => { results := [.lit (.bool false)], args := [d] }
  | _ => none }
def FnExactChanceTwoAlikeWrongFalsely : Prop := fnExactChanceTwoAlikeRow.holds Try.pinned (OpenSpec.ofChange fnExactChanceTwoAlikeWrong)

/-- 'laws.FnExactChanceAtLeast': WHATEVER THE INPUT: true; the input reads as it did. -/
def fnExactChanceAtLeastSpec : ChangeSpec := { name := "fnExactChanceAtLeast", fn := fun _ => fun
  | [d1, d2, d3] => { results := [.lit (.bool true)], args := [d1, d2, d3] }
  | _ => none }
def fnExactChanceAtLeastRow : OpenClaim := { program := "ytnikblimnjpmpaa", sum := "348ba90d6cac6976e8baf6f565f4db6b751eb73346e21ae88b1fe359ac51d845", func := "loop.example/g01372/laws.FnExactChanceAtLeast", spec := "fnExactChanceAtLeast", unfollowed := true, recurses := true, apart := false }
def FnExactChanceAtLeastSaid : Prop := fnExactChanceAtLeastRow.holds Try.pinned (OpenSpec.ofChange fnExactChanceAtLeastSpec)

/-- ITS FALSE NEIGHBOUR: 'it returns false'. Refute it at one input. -/
def fnExactChanceAtLeastWrong : ChangeSpec := { name := "fnExactChanceAtLeast", fn := fun _ => fun
  | [d1, d2, d3] => { results := [.lit (.bool false)], args := [d1, d2, d3] }
  | _ => none }
def FnExactChanceAtLeastWrongFalsely : Prop := fnExactChanceAtLeastRow.holds Try.pinned (OpenSpec.ofChange fnExactChanceAtLeastWrong)

/-- 'laws.FnExactLeastForChance': WHATEVER THE INPUT: true; the input reads as it did. -/
def fnExactLeastForChanceSpec : ChangeSpec := { name := "fnExactLeastForChance", fn := fun _ => fun
  | [d1, d2, d3, d4] => { results := [.lit (.bool true)], args := [d1, d2, d3, d4] }
  | _ => none }
def fnExactLeastForChanceRow : OpenClaim := { program := "ytnikblimnjpmpaa", sum := "348ba90d6cac6976e8baf6f565f4db6b751eb73346e21ae88b1fe359ac51d845", func := "loop.example/g01372/laws.FnExactLeastForChance", spec := "fnExactLeastForChance", unfollowed := true, recurses := true, apart := false }
def FnExactLeastForChanceSaid : Prop := fnExactLeastForChanceRow.holds Try.pinned (OpenSpec.ofChange fnExactLeastForChanceSpec)

/-- ITS FALSE NEIGHBOUR: 'it returns false'. Refute it at one input. -/
def fnExactLeastForChanceWrong : ChangeSpec := { name := "fnExactLeastForChance", fn := fun _ => fun
  | [d1, d2, d3, d4] => { results := [.lit (.bool false)], args := [d1, d2, d3, d4] }
  | _ => none }
def FnExactLeastForChanceWrongFalsely : Prop := fnExactLeastForChanceRow.holds Try.pinned (OpenSpec.ofChange fnExactLeastForChanceWrong)

/-- 'laws.FnExactLikeliestDraw': WHATEVER THE INPUT: true; the input reads as it did. -/
def fnExactLikeliestDrawSpec : ChangeSpec := { name := "fnExactLikeliestDraw", fn := fun _ => fun
  | [d1, d2] => { results := [.lit (.bool true)], args := [d1, d2] }
  | _ => none }
def fnExactLikeliestDrawRow : OpenClaim := { program := "ytnikblimnjpmpaa", sum := "348ba90d6cac6976e8baf6f565f4db6b751eb73346e21ae88b1fe359ac51d845", func := "loop.example/g01372/laws.FnExactLikeliestDraw", spec := "fnExactLikeliestDraw", unfollowed := true, recurses := true, apart := false }
def FnExactLikeliestDrawSaid : Prop := fnExactLikeliestDrawRow.holds Try.pinned (OpenSpec.ofChange fnExactLikeliestDrawSpec)

/-- ITS FALSE NEIGHBOUR: 'it returns false'. Refute it at one input. -/
def fnExactLikeliestDrawWrong : ChangeSpec := { name := "fnExactLikeliestDraw", fn := fun _ => fun
  | [d1, d2] => { results := [.lit (.bool false)], args := [d1, d2] }
  | _ => none }
def FnExactLikeliestDrawWrongFalsely : Prop := fnExactLikeliestDrawRow.holds Try.pinned (OpenSpec.ofChange fnExactLikeliestDrawWrong)

/- THE SECOND FORM. 'bulk': how many values and letters a reading holds, each counted each time it is reached (what is shared counts as often as it is met; a slice's spare places count too). A statement '..UptoSaid' is the law's where the arguments, and the package variables that the reading takes, are together of bulk at most 1048576: NARROWER than '..Said'. Prove '..Said' where nothing that the law and all that it calls make is longer than what came in: it says more and counts as full. Else prove '..UptoSaid'. A law counts once. -/
mutual
def uptoBulk {H : Type} : DataW H → Nat
  | .lit (.string bytes) => bytes.length + 1
  | .lit _ => 1
  | .nil => 1
  | .ptr d => uptoBulk d + 1
  | .slice elems spare => uptoBulkAll elems + uptoBulkAll spare + 1
  | .agg parts => uptoBulkAll parts + 1
  | .iface _ d => uptoBulk d + 1
  | .map entries => uptoBulkEntries entries + 1
  | .held _ => 1
def uptoBulkAll {H : Type} : List (DataW H) → Nat
  | [] => 0
  | d :: r => uptoBulk d + uptoBulkAll r
def uptoBulkEntries {H : Type} : List (Lit × DataW H) → Nat
  | [] => 0
  | x :: r => uptoBulkEntry x + uptoBulkEntries r
def uptoBulkEntry {H : Type} : Lit × DataW H → Nat
  | (.string bytes, d) => bytes.length + uptoBulk d + 1
  | (_, d) => uptoBulk d + 1
 end
def uptoSmall : (H : Type) → List (DataW H) → Bool := fun _ ds => decide (uptoBulkAll ds ≤ 1048576)
def OpenSpec.upto (s : _root_.Go.ChangeSpec) : _root_.Go.OpenSpec := { _root_.Go.OpenSpec.ofChange s with cond := some uptoSmall }

/-- 'laws.FnExactChanceOfColours', WHERE WHAT IT READS IS OF BULK AT MOST 1048576: true; the input reads as it did. -/
def fnExactChanceOfColoursUptoRow : OpenClaim := { program := "ytnikblimnjpmpaa", sum := "348ba90d6cac6976e8baf6f565f4db6b751eb73346e21ae88b1fe359ac51d845", func := "loop.example/g01372/laws.FnExactChanceOfColours", spec := "fnExactChanceOfColours", unfollowed := true, recurses := true, apart := false, narrowed := true }
def FnExactChanceOfColoursUptoSaid : Prop := fnExactChanceOfColoursUptoRow.holds Try.pinned (OpenSpec.upto fnExactChanceOfColoursSpec)

/-- 'laws.FnExactLikeliestPairs', WHERE WHAT IT READS IS OF BULK AT MOST 1048576: true; the input reads as it did. -/
def fnExactLikeliestPairsUptoRow : OpenClaim := { program := "ytnikblimnjpmpaa", sum := "348ba90d6cac6976e8baf6f565f4db6b751eb73346e21ae88b1fe359ac51d845", func := "loop.example/g01372/laws.FnExactLikeliestPairs", spec := "fnExactLikeliestPairs", unfollowed := true, recurses := true, apart := false, narrowed := true }
def FnExactLikeliestPairsUptoSaid : Prop := fnExactLikeliestPairsUptoRow.holds Try.pinned (OpenSpec.upto fnExactLikeliestPairsSpec)

/-- 'laws.FnExactMeanPairs', WHERE WHAT IT READS IS OF BULK AT MOST 1048576: true; the input reads as it did. -/
def fnExactMeanPairsUptoRow : OpenClaim := { program := "ytnikblimnjpmpaa", sum := "348ba90d6cac6976e8baf6f565f4db6b751eb73346e21ae88b1fe359ac51d845", func := "loop.example/g01372/laws.FnExactMeanPairs", spec := "fnExactMeanPairs", unfollowed := true, recurses := true, apart := false, narrowed := true }
def FnExactMeanPairsUptoSaid : Prop := fnExactMeanPairsUptoRow.holds Try.pinned (OpenSpec.upto fnExactMeanPairsSpec)

/-- 'laws.FnExactChanceOfPairs', WHERE WHAT IT READS IS OF BULK AT MOST 1048576: true; the input reads as it did. -/
def fnExactChanceOfPairsUptoRow : OpenClaim := { program := "ytnikblimnjpmpaa", sum := "348ba90d6cac6976e8baf6f565f4db6b751eb73346e21ae88b1fe359ac51d845", func := "loop.example/g01372/laws.FnExactChanceOfPairs", spec := "fnExactChanceOfPairs", unfollowed := true, recurses := true, apart := false, narrowed := true }
def FnExactChanceOfPairsUptoSaid : Prop := fnExactChanceOfPairsUptoRow.holds Try.pinned (OpenSpec.upto fnExactChanceOfPairsSpec)

/-- 'laws.FnExactChanceTwoAlike', WHERE WHAT IT READS IS OF BULK AT MOST 1048576: true; the input reads as it did. -/
def fnExactChanceTwoAlikeUptoRow : OpenClaim := { program := "ytnikblimnjpmpaa", sum := "348ba90d6cac6976e8baf6f565f4db6b751eb73346e21ae88b1fe359ac51d845", func := "loop.example/g01372/laws.FnExactChanceTwoAlike", spec := "fnExactChanceTwoAlike", unfollowed := true, recurses := true, apart := false, narrowed := true }
def FnExactChanceTwoAlikeUptoSaid : Prop := fnExactChanceTwoAlikeUptoRow.holds Try.pinned (OpenSpec.upto fnExactChanceTwoAlikeSpec)

/-- 'laws.FnExactChanceAtLeast', WHERE WHAT IT READS IS OF BULK AT MOST 1048576: true; the input reads as it did. -/
def fnExactChanceAtLeastUptoRow : OpenClaim := { program := "ytnikblimnjpmpaa", sum := "348ba90d6cac6976e8baf6f565f4db6b751eb73346e21ae88b1fe359ac51d845", func := "loop.example/g01372/laws.FnExactChanceAtLeast", spec := "fnExactChanceAtLeast", unfollowed := true, recurses := true, apart := false, narrowed := true }
def FnExactChanceAtLeastUptoSaid : Prop := fnExactChanceAtLeastUptoRow.holds Try.pinned (OpenSpec.upto fnExactChanceAtLeastSpec)

/-- 'laws.FnExactLeastForChance', WHERE WHAT IT READS IS OF BULK AT MOST 1048576: true; the input reads as it did. -/
def fnExactLeastForChanceUptoRow : OpenClaim := { program := "ytnikblimnjpmpaa", sum := "348ba90d6cac6976e8baf6f565f4db6b751eb73346e21ae88b1fe359ac51d845", func := "loop.example/g01372/laws.FnExactLeastForChance", spec := "fnExactLeastForChance", unfollowed := true, recurses := true, apart := false, narrowed := true }
def FnExactLeastForChanceUptoSaid : Prop := fnExactLeastForChanceUptoRow.holds Try.pinned (OpenSpec.upto fnExactLeastForChanceSpec)

/-- 'laws.FnExactLikeliestDraw', WHERE WHAT IT READS IS OF BULK AT MOST 1048576: true; the input reads as it did. -/
def fnExactLikeliestDrawUptoRow : OpenClaim := { program := "ytnikblimnjpmpaa", sum := "348ba90d6cac6976e8baf6f565f4db6b751eb73346e21ae88b1fe359ac51d845", func := "loop.example/g01372/laws.FnExactLikeliestDraw", spec := "fnExactLikeliestDraw", unfollowed := true, recurses := true, apart := false, narrowed := true }
def FnExactLikeliestDrawUptoSaid : Prop := fnExactLikeliestDrawUptoRow.holds Try.pinned (OpenSpec.upto fnExactLikeliestDrawSpec)

end Rows
end Go.Proofs.Ytnikblimnjpmpaa
