/-
  No cell of these rows narrows 'for every input' (looked for: loops, veiled, ifaces, maps, wideKeys, modest, calm, conditions, laid).
  DERIVED. THE GIVEN ROWS OF THIS SEAT. 10 by the template 'for every input the law returns true; each argument reads behind the call as it read before'; 0 by the template 'total and deterministic' (their statements: YtdbkbccobmndbaaTotals.lean).
  GIVEN WITH THE SEED: the statements are not yours to turn. If you find one false, say at which input.
  Laid BY PROGRAM, IN A SANDBOX (cutbox-rows.mjs): the forced cells as the released guide's own fill.sh prints them over the translation a772df1884b9f295… (all of the seat's roots in one cut). By AI agents, Wed Nov 11 2026. No macro, syntax, notation, axiom, sorry.
-/
import Derived.Test.YtdbkbccobmndbaaChecked
import GoSem.Claim
import GoSem.ClaimJoined
import GoSem.ClaimMapViews
import Derived.JoinedTies
import Derived.KernelRfl
namespace Go.Proofs.Ytdbkbccobmndbaa
/- THE CELL 'sum', in the pinned program and in every row, IS THE sha256 OF THE DUMP (.gsa) THAT YtdbkbccobmndbaaProg.lean LOADS. Nothing in Lean hashes anything: it is a label: what it is worth is what the hold of that sum in a sandbox is worth. -/
noncomputable def Try.pinned : Pinned := { name := "ytdbkbccobmndbaa", sum := "a772df1884b9f29571aa12276a7c5664ebfe155c39a318d228dc5d93b5a1ecfe", checked := Try.checked }
namespace Rows
def none {H : Type} : Left H := { results := [], args := [] }

/-- 'laws.FnExactMostComplete': WHATEVER THE INPUT: true; the input reads as it did. -/
def fnExactMostCompleteSpec : ChangeSpec := { name := "fnExactMostComplete", fn := fun _ => fun
  | [d1, d2] => { results := [.lit (.bool true)], args := [d1, d2] }
  | _ => none }
def fnExactMostCompleteRow : OpenClaim := { program := "ytdbkbccobmndbaa", sum := "a772df1884b9f29571aa12276a7c5664ebfe155c39a318d228dc5d93b5a1ecfe", func := "loop.example/g01372/laws.FnExactMostComplete", spec := "fnExactMostComplete", apart := false }
def FnExactMostCompleteSaid : Prop := fnExactMostCompleteRow.holds Try.pinned (OpenSpec.ofChange fnExactMostCompleteSpec)

/-- ITS FALSE NEIGHBOUR: 'it returns false'. Refute it at one input. -/
def fnExactMostCompleteWrong : ChangeSpec := { name := "fnExactMostComplete", fn := fun _ => fun
  | [d1, d2] => { results := [.lit (.bool false)], args := [d1, d2] }
  | _ => none }
def FnExactMostCompleteWrongFalsely : Prop := fnExactMostCompleteRow.holds Try.pinned (OpenSpec.ofChange fnExactMostCompleteWrong)

/-- 'laws.FnExactAlikeToBuy': WHATEVER THE INPUT: true; the input reads as it did. -/
def fnExactAlikeToBuySpec : ChangeSpec := { name := "fnExactAlikeToBuy", fn := fun _ => fun
  | [d1, d2] => { results := [.lit (.bool true)], args := [d1, d2] }
  | _ => none }
def fnExactAlikeToBuyRow : OpenClaim := { program := "ytdbkbccobmndbaa", sum := "a772df1884b9f29571aa12276a7c5664ebfe155c39a318d228dc5d93b5a1ecfe", func := "loop.example/g01372/laws.FnExactAlikeToBuy", spec := "fnExactAlikeToBuy", apart := false }
def FnExactAlikeToBuySaid : Prop := fnExactAlikeToBuyRow.holds Try.pinned (OpenSpec.ofChange fnExactAlikeToBuySpec)

/-- ITS FALSE NEIGHBOUR: 'it returns false'. Refute it at one input. -/
def fnExactAlikeToBuyWrong : ChangeSpec := { name := "fnExactAlikeToBuy", fn := fun _ => fun
  | [d1, d2] => { results := [.lit (.bool false)], args := [d1, d2] }
  | _ => none }
def FnExactAlikeToBuyWrongFalsely : Prop := fnExactAlikeToBuyRow.holds Try.pinned (OpenSpec.ofChange fnExactAlikeToBuyWrong)

/-- 'laws.FnExactLeastComplete': WHATEVER THE INPUT: true; the input reads as it did. -/
def fnExactLeastCompleteSpec : ChangeSpec := { name := "fnExactLeastComplete", fn := fun _ => fun
  | [d1, d2] => { results := [.lit (.bool true)], args := [d1, d2] }
  | _ => none }
def fnExactLeastCompleteRow : OpenClaim := { program := "ytdbkbccobmndbaa", sum := "a772df1884b9f29571aa12276a7c5664ebfe155c39a318d228dc5d93b5a1ecfe", func := "loop.example/g01372/laws.FnExactLeastComplete", spec := "fnExactLeastComplete", apart := false }
def FnExactLeastCompleteSaid : Prop := fnExactLeastCompleteRow.holds Try.pinned (OpenSpec.ofChange fnExactLeastCompleteSpec)

/-- ITS FALSE NEIGHBOUR: 'it returns false'. Refute it at one input. -/
def fnExactLeastCompleteWrong : ChangeSpec := { name := "fnExactLeastComplete", fn := fun _ => fun
  | [d1, d2] => { results := [.lit (.bool false)], args := [d1, d2] }
  | _ => none }
def FnExactLeastCompleteWrongFalsely : Prop := fnExactLeastCompleteRow.holds Try.pinned (OpenSpec.ofChange fnExactLeastCompleteWrong)

/-- 'laws.FnExactPairsToBuy': WHATEVER THE INPUT: true; the input reads as it did. -/
def fnExactPairsToBuySpec : ChangeSpec := { name := "fnExactPairsToBuy", fn := fun _ => fun
  | [d1, d2] => { results := [.lit (.bool true)], args := [d1, d2] }
  | _ => none }
def fnExactPairsToBuyRow : OpenClaim := { program := "ytdbkbccobmndbaa", sum := "a772df1884b9f29571aa12276a7c5664ebfe155c39a318d228dc5d93b5a1ecfe", func := "loop.example/g01372/laws.FnExactPairsToBuy", spec := "fnExactPairsToBuy", apart := false }
def FnExactPairsToBuySaid : Prop := fnExactPairsToBuyRow.holds Try.pinned (OpenSpec.ofChange fnExactPairsToBuySpec)

/-- ITS FALSE NEIGHBOUR: 'it returns false'. Refute it at one input. -/
def fnExactPairsToBuyWrong : ChangeSpec := { name := "fnExactPairsToBuy", fn := fun _ => fun
  | [d1, d2] => { results := [.lit (.bool false)], args := [d1, d2] }
  | _ => none }
def FnExactPairsToBuyWrongFalsely : Prop := fnExactPairsToBuyRow.holds Try.pinned (OpenSpec.ofChange fnExactPairsToBuyWrong)

/-- 'laws.FnExactWashingsAtBest': WHATEVER THE INPUT: true; the input reads as it did. -/
def fnExactWashingsAtBestSpec : ChangeSpec := { name := "fnExactWashingsAtBest", fn := fun _ => fun
  | [d1, d2, d3] => { results := [.lit (.bool true)], args := [d1, d2, d3] }
  | _ => none }
def fnExactWashingsAtBestRow : OpenClaim := { program := "ytdbkbccobmndbaa", sum := "a772df1884b9f29571aa12276a7c5664ebfe155c39a318d228dc5d93b5a1ecfe", func := "loop.example/g01372/laws.FnExactWashingsAtBest", spec := "fnExactWashingsAtBest", unfollowed := true, recurses := true, apart := false }
def FnExactWashingsAtBestSaid : Prop := fnExactWashingsAtBestRow.holds Try.pinned (OpenSpec.ofChange fnExactWashingsAtBestSpec)

/-- ITS FALSE NEIGHBOUR: 'it returns false'. Refute it at one input. -/
def fnExactWashingsAtBestWrong : ChangeSpec := { name := "fnExactWashingsAtBest", fn := fun _ => fun
  | [d1, d2, d3] => { results := [.lit (.bool false)], args := [d1, d2, d3] }
  | _ => none }
def FnExactWashingsAtBestWrongFalsely : Prop := fnExactWashingsAtBestRow.holds Try.pinned (OpenSpec.ofChange fnExactWashingsAtBestWrong)

/-- 'laws.FnExactWashingsAtWorst': WHATEVER THE INPUT: true; the input reads as it did. -/
def fnExactWashingsAtWorstSpec : ChangeSpec := { name := "fnExactWashingsAtWorst", fn := fun _ => fun
  | [d1, d2, d3] => { results := [.lit (.bool true)], args := [d1, d2, d3] }
  | _ => none }
def fnExactWashingsAtWorstRow : OpenClaim := { program := "ytdbkbccobmndbaa", sum := "a772df1884b9f29571aa12276a7c5664ebfe155c39a318d228dc5d93b5a1ecfe", func := "loop.example/g01372/laws.FnExactWashingsAtWorst", spec := "fnExactWashingsAtWorst", unfollowed := true, recurses := true, apart := false }
def FnExactWashingsAtWorstSaid : Prop := fnExactWashingsAtWorstRow.holds Try.pinned (OpenSpec.ofChange fnExactWashingsAtWorstSpec)

/-- ITS FALSE NEIGHBOUR: 'it returns false'. Refute it at one input. -/
def fnExactWashingsAtWorstWrong : ChangeSpec := { name := "fnExactWashingsAtWorst", fn := fun _ => fun
  | [d1, d2, d3] => { results := [.lit (.bool false)], args := [d1, d2, d3] }
  | _ => none }
def FnExactWashingsAtWorstWrongFalsely : Prop := fnExactWashingsAtWorstRow.holds Try.pinned (OpenSpec.ofChange fnExactWashingsAtWorstWrong)

/-- 'laws.FnExactMeanComplete': WHATEVER THE INPUT: true; the input reads as it did. -/
def fnExactMeanCompleteSpec : ChangeSpec := { name := "fnExactMeanComplete", fn := fun _ => fun
  | [d1, d2] => { results := [.lit (.bool true)], args := [d1, d2] }
  | _ => none }
def fnExactMeanCompleteRow : OpenClaim := { program := "ytdbkbccobmndbaa", sum := "a772df1884b9f29571aa12276a7c5664ebfe155c39a318d228dc5d93b5a1ecfe", func := "loop.example/g01372/laws.FnExactMeanComplete", spec := "fnExactMeanComplete", apart := false }
def FnExactMeanCompleteSaid : Prop := fnExactMeanCompleteRow.holds Try.pinned (OpenSpec.ofChange fnExactMeanCompleteSpec)

/-- ITS FALSE NEIGHBOUR: 'it returns false'. Refute it at one input. -/
def fnExactMeanCompleteWrong : ChangeSpec := { name := "fnExactMeanComplete", fn := fun _ => fun
  | [d1, d2] => { results := [.lit (.bool false)], args := [d1, d2] }
  | _ => none }
def FnExactMeanCompleteWrongFalsely : Prop := fnExactMeanCompleteRow.holds Try.pinned (OpenSpec.ofChange fnExactMeanCompleteWrong)

/-- 'laws.FnExactCountLosses': WHATEVER THE INPUT: true; the input reads as it did. -/
def fnExactCountLossesSpec : ChangeSpec := { name := "fnExactCountLosses", fn := fun _ => fun
  | [d1, d2, d3] => { results := [.lit (.bool true)], args := [d1, d2, d3] }
  | _ => none }
def fnExactCountLossesRow : OpenClaim := { program := "ytdbkbccobmndbaa", sum := "a772df1884b9f29571aa12276a7c5664ebfe155c39a318d228dc5d93b5a1ecfe", func := "loop.example/g01372/laws.FnExactCountLosses", spec := "fnExactCountLosses", apart := false }
def FnExactCountLossesSaid : Prop := fnExactCountLossesRow.holds Try.pinned (OpenSpec.ofChange fnExactCountLossesSpec)

/-- ITS FALSE NEIGHBOUR: 'it returns false'. Refute it at one input. -/
def fnExactCountLossesWrong : ChangeSpec := { name := "fnExactCountLosses", fn := fun _ => fun
  | [d1, d2, d3] => { results := [.lit (.bool false)], args := [d1, d2, d3] }
  | _ => none }
def FnExactCountLossesWrongFalsely : Prop := fnExactCountLossesRow.holds Try.pinned (OpenSpec.ofChange fnExactCountLossesWrong)

/-- 'laws.FnExactLikeliestComplete': WHATEVER THE INPUT: true; the input reads as it did. -/
def fnExactLikeliestCompleteSpec : ChangeSpec := { name := "fnExactLikeliestComplete", fn := fun _ => fun
  | [d1, d2] => { results := [.lit (.bool true)], args := [d1, d2] }
  | _ => none }
def fnExactLikeliestCompleteRow : OpenClaim := { program := "ytdbkbccobmndbaa", sum := "a772df1884b9f29571aa12276a7c5664ebfe155c39a318d228dc5d93b5a1ecfe", func := "loop.example/g01372/laws.FnExactLikeliestComplete", spec := "fnExactLikeliestComplete", apart := false }
def FnExactLikeliestCompleteSaid : Prop := fnExactLikeliestCompleteRow.holds Try.pinned (OpenSpec.ofChange fnExactLikeliestCompleteSpec)

/-- ITS FALSE NEIGHBOUR: 'it returns false'. Refute it at one input. -/
def fnExactLikeliestCompleteWrong : ChangeSpec := { name := "fnExactLikeliestComplete", fn := fun _ => fun
  | [d1, d2] => { results := [.lit (.bool false)], args := [d1, d2] }
  | _ => none }
def FnExactLikeliestCompleteWrongFalsely : Prop := fnExactLikeliestCompleteRow.holds Try.pinned (OpenSpec.ofChange fnExactLikeliestCompleteWrong)

/-- 'laws.FnExactChanceComplete': WHATEVER THE INPUT: true; the input reads as it did. -/
def fnExactChanceCompleteSpec : ChangeSpec := { name := "fnExactChanceComplete", fn := fun _ => fun
  | [d1, d2, d3] => { results := [.lit (.bool true)], args := [d1, d2, d3] }
  | _ => none }
def fnExactChanceCompleteRow : OpenClaim := { program := "ytdbkbccobmndbaa", sum := "a772df1884b9f29571aa12276a7c5664ebfe155c39a318d228dc5d93b5a1ecfe", func := "loop.example/g01372/laws.FnExactChanceComplete", spec := "fnExactChanceComplete", apart := false }
def FnExactChanceCompleteSaid : Prop := fnExactChanceCompleteRow.holds Try.pinned (OpenSpec.ofChange fnExactChanceCompleteSpec)

/-- ITS FALSE NEIGHBOUR: 'it returns false'. Refute it at one input. -/
def fnExactChanceCompleteWrong : ChangeSpec := { name := "fnExactChanceComplete", fn := fun _ => fun
  | [d1, d2, d3] => { results := [.lit (.bool false)], args := [d1, d2, d3] }
  | _ => none }
def FnExactChanceCompleteWrongFalsely : Prop := fnExactChanceCompleteRow.holds Try.pinned (OpenSpec.ofChange fnExactChanceCompleteWrong)

/- THE SECOND FORM. 'bulk': how many values and letters a reading holds, each counted each time it is reached (what is shared counts as often as it is met; a slice's spare places count too). A statement '..UptoSaid' is the law's where the arguments, and the package variables that the reading takes, are together of bulk at most 1048576: NARROWER than '..Said'. Prove '..Said' where nothing that the law and all that it calls make is longer than what came in: it says more and counts as full. Else prove '..UptoSaid'. A law counts once. -/
mutual
def uptoBulk {H : Type} : DataW H → Nat
  | .lit (.string bytes) => bytes.length + 1
  | .lit _ => 1
  | .nil => 1
  | .ptr d => uptoBulk d + 1
  | .slice elems spare => uptoBulkAll elems + uptoBulkAll spare + 1
  | .agg parts => uptoBulkAll parts + 1
  | .iface _ d => uptoBulk d + 1
  | .map entries => uptoBulkEntries entries + 1
  | .held _ => 1
def uptoBulkAll {H : Type} : List (DataW H) → Nat
  | [] => 0
  | d :: r => uptoBulk d + uptoBulkAll r
def uptoBulkEntries {H : Type} : List (Lit × DataW H) → Nat
  | [] => 0
  | x :: r => uptoBulkEntry x + uptoBulkEntries r
def uptoBulkEntry {H : Type} : Lit × DataW H → Nat
  | (.string bytes, d) => bytes.length + uptoBulk d + 1
  | (_, d) => uptoBulk d + 1
 end
def uptoSmall : (H : Type) → List (DataW H) → Bool := fun _ ds => decide (uptoBulkAll ds ≤ 1048576)
def OpenSpec.upto (s : _root_.Go.ChangeSpec) : _root_.Go.OpenSpec := { _root_.Go.OpenSpec.ofChange s with cond := some uptoSmall }

/-- 'laws.FnExactMostComplete', WHERE WHAT IT READS IS OF BULK AT MOST 1048576: true; the input reads as it did. -/
def fnExactMostCompleteUptoRow : OpenClaim := { program := "ytdbkbccobmndbaa", sum := "a772df1884b9f29571aa12276a7c5664ebfe155c39a318d228dc5d93b5a1ecfe", func := "loop.example/g01372/laws.FnExactMostComplete", spec := "fnExactMostComplete", apart := false, narrowed := true }
def FnExactMostCompleteUptoSaid : Prop := fnExactMostCompleteUptoRow.holds Try.pinned (OpenSpec.upto fnExactMostCompleteSpec)

/-- 'laws.FnExactAlikeToBuy', WHERE WHAT IT READS IS OF BULK AT MOST 1048576: true; the input reads as it did. -/
def fnExactAlikeToBuyUptoRow : OpenClaim := { program := "ytdbkbccobmndbaa", sum := "a772df1884b9f29571aa12276a7c5664ebfe155c39a318d228dc5d93b5a1ecfe", func := "loop.example/g01372/laws.FnExactAlikeToBuy", spec := "fnExactAlikeToBuy", apart := false, narrowed := true }
def FnExactAlikeToBuyUptoSaid : Prop := fnExactAlikeToBuyUptoRow.holds Try.pinned (OpenSpec.upto fnExactAlikeToBuySpec)

/-- 'laws.FnExactLeastComplete', WHERE WHAT IT READS IS OF BULK AT MOST 1048576: true; the input reads as it did. -/
def fnExactLeastCompleteUptoRow : OpenClaim := { program := "ytdbkbccobmndbaa", sum := "a772df1884b9f29571aa12276a7c5664ebfe155c39a318d228dc5d93b5a1ecfe", func := "loop.example/g01372/laws.FnExactLeastComplete", spec := "fnExactLeastComplete", apart := false, narrowed := true }
def FnExactLeastCompleteUptoSaid : Prop := fnExactLeastCompleteUptoRow.holds Try.pinned (OpenSpec.upto fnExactLeastCompleteSpec)

/-- 'laws.FnExactPairsToBuy', WHERE WHAT IT READS IS OF BULK AT MOST 1048576: true; the input reads as it did. -/
def fnExactPairsToBuyUptoRow : OpenClaim := { program := "ytdbkbccobmndbaa", sum := "a772df1884b9f29571aa12276a7c5664ebfe155c39a318d228dc5d93b5a1ecfe", func := "loop.example/g01372/laws.FnExactPairsToBuy", spec := "fnExactPairsToBuy", apart := false, narrowed := true }
def FnExactPairsToBuyUptoSaid : Prop := fnExactPairsToBuyUptoRow.holds Try.pinned (OpenSpec.upto fnExactPairsToBuySpec)

/-- 'laws.FnExactWashingsAtBest', WHERE WHAT IT READS IS OF BULK AT MOST 1048576: true; the input reads as it did. -/
def fnExactWashingsAtBestUptoRow : OpenClaim := { program := "ytdbkbccobmndbaa", sum := "a772df1884b9f29571aa12276a7c5664ebfe155c39a318d228dc5d93b5a1ecfe", func := "loop.example/g01372/laws.FnExactWashingsAtBest", spec := "fnExactWashingsAtBest", unfollowed := true, recurses := true, apart := false, narrowed := true }
def FnExactWashingsAtBestUptoSaid : Prop := fnExactWashingsAtBestUptoRow.holds Try.pinned (OpenSpec.upto fnExactWashingsAtBestSpec)

/-- 'laws.FnExactWashingsAtWorst', WHERE WHAT IT READS IS OF BULK AT MOST 1048576: true; the input reads as it did. -/
def fnExactWashingsAtWorstUptoRow : OpenClaim := { program := "ytdbkbccobmndbaa", sum := "a772df1884b9f29571aa12276a7c5664ebfe155c39a318d228dc5d93b5a1ecfe", func := "loop.example/g01372/laws.FnExactWashingsAtWorst", spec := "fnExactWashingsAtWorst", unfollowed := true, recurses := true, apart := false, narrowed := true }
def FnExactWashingsAtWorstUptoSaid : Prop := fnExactWashingsAtWorstUptoRow.holds Try.pinned (OpenSpec.upto fnExactWashingsAtWorstSpec)

/-- 'laws.FnExactMeanComplete', WHERE WHAT IT READS IS OF BULK AT MOST 1048576: true; the input reads as it did. -/
def fnExactMeanCompleteUptoRow : OpenClaim := { program := "ytdbkbccobmndbaa", sum := "a772df1884b9f29571aa12276a7c5664ebfe155c39a318d228dc5d93b5a1ecfe", func := "loop.example/g01372/laws.FnExactMeanComplete", spec := "fnExactMeanComplete", apart := false, narrowed := true }
def FnExactMeanCompleteUptoSaid : Prop := fnExactMeanCompleteUptoRow.holds Try.pinned (OpenSpec.upto fnExactMeanCompleteSpec)

/-- 'laws.FnExactCountLosses', WHERE WHAT IT READS IS OF BULK AT MOST 1048576: true; the input reads as it did. -/
def fnExactCountLossesUptoRow : OpenClaim := { program := "ytdbkbccobmndbaa", sum := "a772df1884b9f29571aa12276a7c5664ebfe155c39a318d228dc5d93b5a1ecfe", func := "loop.example/g01372/laws.FnExactCountLosses", spec := "fnExactCountLosses", apart := false, narrowed := true }
def FnExactCountLossesUptoSaid : Prop := fnExactCountLossesUptoRow.holds Try.pinned (OpenSpec.upto fnExactCountLossesSpec)

/-- 'laws.FnExactLikeliestComplete', WHERE WHAT IT READS IS OF BULK AT MOST 1048576: true; the input reads as it did. -/
def fnExactLikeliestCompleteUptoRow : OpenClaim := { program := "ytdbkbccobmndbaa", sum := "a772df1884b9f29571aa12276a7c5664ebfe155c39a318d228dc5d93b5a1ecfe", func := "loop.example/g01372/laws.FnExactLikeliestComplete", spec := "fnExactLikeliestComplete", apart := false, narrowed := true }
def FnExactLikeliestCompleteUptoSaid : Prop := fnExactLikeliestCompleteUptoRow.holds Try.pinned (OpenSpec.upto fnExactLikeliestCompleteSpec)

/-- 'laws.FnExactChanceComplete', WHERE WHAT IT READS IS OF BULK AT MOST 1048576: true; the input reads as it did. -/
def fnExactChanceCompleteUptoRow : OpenClaim := { program := "ytdbkbccobmndbaa", sum := "a772df1884b9f29571aa12276a7c5664ebfe155c39a318d228dc5d93b5a1ecfe", func := "loop.example/g01372/laws.FnExactChanceComplete", spec := "fnExactChanceComplete", apart := false, narrowed := true }
def FnExactChanceCompleteUptoSaid : Prop := fnExactChanceCompleteUptoRow.holds Try.pinned (OpenSpec.upto fnExactChanceCompleteSpec)

end Rows
end Go.Proofs.Ytdbkbccobmndbaa
