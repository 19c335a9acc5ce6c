/-
  No cell of these rows narrows 'for every input' (looked for: loops, veiled, ifaces, maps, wideKeys, modest, calm, conditions, laid).
  DERIVED. THE GIVEN ROWS OF THIS SEAT. 11 by the template 'for every input the law returns true; each argument reads behind the call as it read before'; 0 by the template 'total and deterministic' (their statements: YtafjiglocbogeaaTotals.lean).
  GIVEN WITH THE SEED: the statements are not yours to turn. If you find one false, say at which input.
  Laid BY PROGRAM, IN A SANDBOX (cutbox-rows.mjs): the forced cells as the released guide's own fill.sh prints them over the translation 8b2875df2725bcf4… (all of the seat's roots in one cut). By AI agents, Wed Nov 11 2026. No macro, syntax, notation, axiom, sorry.
-/
import Derived.Test.YtafjiglocbogeaaChecked
import GoSem.Claim
import GoSem.ClaimJoined
import GoSem.ClaimMapViews
import Derived.JoinedTies
import Derived.KernelRfl
namespace Go.Proofs.Ytafjiglocbogeaa
/- THE CELL 'sum', in the pinned program and in every row, IS THE sha256 OF THE DUMP (.gsa) THAT YtafjiglocbogeaaProg.lean LOADS. Nothing in Lean hashes anything: it is a label: what it is worth is what the hold of that sum in a sandbox is worth. -/
noncomputable def Try.pinned : Pinned := { name := "ytafjiglocbogeaa", sum := "8b2875df2725bcf407f4fb8e12826edbd9da14eec2cf2e18c6a9027a142e7aae", checked := Try.checked }
namespace Rows
def none {H : Type} : Left H := { results := [], args := [] }

/-- 'laws.FnExactAreDrawers': WHATEVER THE INPUT: true; the input reads as it did. -/
def fnExactAreDrawersSpec : ChangeSpec := { name := "fnExactAreDrawers", fn := fun _ => fun
  | [d] => { results := [.lit (.bool true)], args := [d] }
  | _ => none }
def fnExactAreDrawersRow : OpenClaim := { program := "ytafjiglocbogeaa", sum := "8b2875df2725bcf407f4fb8e12826edbd9da14eec2cf2e18c6a9027a142e7aae", func := "loop.example/g01372/laws.FnExactAreDrawers", spec := "fnExactAreDrawers", unfollowed := true, recurses := true, apart := false }
def FnExactAreDrawersSaid : Prop := fnExactAreDrawersRow.holds Try.pinned (OpenSpec.ofChange fnExactAreDrawersSpec)

/-- ITS FALSE NEIGHBOUR: 'it returns false'. Refute it at one input. -/
def fnExactAreDrawersWrong : ChangeSpec := { name := "fnExactAreDrawers", fn := fun _ => fun
  | [d] => { results := [.lit (.bool false)], args := [d] }
  | _ => none }
def FnExactAreDrawersWrongFalsely : Prop := fnExactAreDrawersRow.holds Try.pinned (OpenSpec.ofChange fnExactAreDrawersWrong)

/-- 'laws.FnExactMinutesForAll': WHATEVER THE INPUT: true; the input reads as it did. -/
def fnExactMinutesForAllSpec : ChangeSpec := { name := "fnExactMinutesForAll", fn := fun _ => fun
  | [d] => { results := [.lit (.bool true)], args := [d] }
  | _ => none }
def fnExactMinutesForAllRow : OpenClaim := { program := "ytafjiglocbogeaa", sum := "8b2875df2725bcf407f4fb8e12826edbd9da14eec2cf2e18c6a9027a142e7aae", func := "loop.example/g01372/laws.FnExactMinutesForAll", spec := "fnExactMinutesForAll", unfollowed := true, recurses := true, apart := false }
def FnExactMinutesForAllSaid : Prop := fnExactMinutesForAllRow.holds Try.pinned (OpenSpec.ofChange fnExactMinutesForAllSpec)

/-- ITS FALSE NEIGHBOUR: 'it returns false'. Refute it at one input. -/
def fnExactMinutesForAllWrong : ChangeSpec := { name := "fnExactMinutesForAll", fn := fun _ => fun
  | [d] => { results := [.lit (.bool false)], args := [d] }
  | _ => none }
def FnExactMinutesForAllWrongFalsely : Prop := fnExactMinutesForAllRow.holds Try.pinned (OpenSpec.ofChange fnExactMinutesForAllWrong)

/-- 'laws.FnExactChanceIn': WHATEVER THE INPUT: true; the input reads as it did. -/
def fnExactChanceInSpec : ChangeSpec := { name := "fnExactChanceIn", fn := fun _ => fun
  | [d1, d2] => { results := [.lit (.bool true)], args := [d1, d2] }
  | _ => none }
def fnExactChanceInRow : OpenClaim := { program := "ytafjiglocbogeaa", sum := "8b2875df2725bcf407f4fb8e12826edbd9da14eec2cf2e18c6a9027a142e7aae", func := "loop.example/g01372/laws.FnExactChanceIn", spec := "fnExactChanceIn", unfollowed := true, recurses := true, apart := false }
def FnExactChanceInSaid : Prop := fnExactChanceInRow.holds Try.pinned (OpenSpec.ofChange fnExactChanceInSpec)

/-- ITS FALSE NEIGHBOUR: 'it returns false'. Refute it at one input. -/
def fnExactChanceInWrong : ChangeSpec := { name := "fnExactChanceIn", fn := fun _ => fun
  | [d1, d2] => { results := [.lit (.bool false)], args := [d1, d2] }
  | _ => none }
def FnExactChanceInWrongFalsely : Prop := fnExactChanceInRow.holds Try.pinned (OpenSpec.ofChange fnExactChanceInWrong)

/-- 'laws.FnExactIsSearch': WHATEVER THE INPUT: true; the input reads as it did. -/
def fnExactIsSearchSpec : ChangeSpec := { name := "fnExactIsSearch", fn := fun _ => fun
  | [d1, d2] => { results := [.lit (.bool true)], args := [d1, d2] }
  | _ => none }
def fnExactIsSearchRow : OpenClaim := { program := "ytafjiglocbogeaa", sum := "8b2875df2725bcf407f4fb8e12826edbd9da14eec2cf2e18c6a9027a142e7aae", func := "loop.example/g01372/laws.FnExactIsSearch", spec := "fnExactIsSearch", unfollowed := true, recurses := true, apart := false }
def FnExactIsSearchSaid : Prop := fnExactIsSearchRow.holds Try.pinned (OpenSpec.ofChange fnExactIsSearchSpec)

/-- ITS FALSE NEIGHBOUR: 'it returns false'. Refute it at one input. -/
def fnExactIsSearchWrong : ChangeSpec := { name := "fnExactIsSearch", fn := fun _ => fun
  | [d1, d2] => { results := [.lit (.bool false)], args := [d1, d2] }
  | _ => none }
def FnExactIsSearchWrongFalsely : Prop := fnExactIsSearchRow.holds Try.pinned (OpenSpec.ofChange fnExactIsSearchWrong)

/-- 'laws.FnExactSwapCost': WHATEVER THE INPUT: true; the input reads as it did. -/
def fnExactSwapCostSpec : ChangeSpec := { name := "fnExactSwapCost", fn := fun _ => fun
  | [d1, d2, d3] => { results := [.lit (.bool true)], args := [d1, d2, d3] }
  | _ => none }
def fnExactSwapCostRow : OpenClaim := { program := "ytafjiglocbogeaa", sum := "8b2875df2725bcf407f4fb8e12826edbd9da14eec2cf2e18c6a9027a142e7aae", func := "loop.example/g01372/laws.FnExactSwapCost", spec := "fnExactSwapCost", unfollowed := true, recurses := true, apart := false }
def FnExactSwapCostSaid : Prop := fnExactSwapCostRow.holds Try.pinned (OpenSpec.ofChange fnExactSwapCostSpec)

/-- ITS FALSE NEIGHBOUR: 'it returns false'. Refute it at one input. -/
def fnExactSwapCostWrong : ChangeSpec := { name := "fnExactSwapCost", fn := fun _ => fun
  | [d1, d2, d3] => { results := [.lit (.bool false)], args := [d1, d2, d3] }
  | _ => none }
def FnExactSwapCostWrongFalsely : Prop := fnExactSwapCostRow.holds Try.pinned (OpenSpec.ofChange fnExactSwapCostWrong)

/-- 'laws.FnExactAfterEmpty': WHATEVER THE INPUT: true; the input reads as it did. -/
def fnExactAfterEmptySpec : ChangeSpec := { name := "fnExactAfterEmpty", fn := fun _ => fun
  | [d1, d2] => { results := [.lit (.bool true)], args := [d1, d2] }
  | _ => none }
def fnExactAfterEmptyRow : OpenClaim := { program := "ytafjiglocbogeaa", sum := "8b2875df2725bcf407f4fb8e12826edbd9da14eec2cf2e18c6a9027a142e7aae", func := "loop.example/g01372/laws.FnExactAfterEmpty", spec := "fnExactAfterEmpty", unfollowed := true, recurses := true, apart := false }
def FnExactAfterEmptySaid : Prop := fnExactAfterEmptyRow.holds Try.pinned (OpenSpec.ofChange fnExactAfterEmptySpec)

/-- ITS FALSE NEIGHBOUR: 'it returns false'. Refute it at one input. -/
def fnExactAfterEmptyWrong : ChangeSpec := { name := "fnExactAfterEmpty", fn := fun _ => fun
  | [d1, d2] => { results := [.lit (.bool false)], args := [d1, d2] }
  | _ => none }
def FnExactAfterEmptyWrongFalsely : Prop := fnExactAfterEmptyRow.holds Try.pinned (OpenSpec.ofChange fnExactAfterEmptyWrong)

/-- 'laws.FnExactFoundAt': WHATEVER THE INPUT: true; the input reads as it did. -/
def fnExactFoundAtSpec : ChangeSpec := { name := "fnExactFoundAt", fn := fun _ => fun
  | [d1, d2, d3] => { results := [.lit (.bool true)], args := [d1, d2, d3] }
  | _ => none }
def fnExactFoundAtRow : OpenClaim := { program := "ytafjiglocbogeaa", sum := "8b2875df2725bcf407f4fb8e12826edbd9da14eec2cf2e18c6a9027a142e7aae", func := "loop.example/g01372/laws.FnExactFoundAt", spec := "fnExactFoundAt", unfollowed := true, recurses := true, apart := false }
def FnExactFoundAtSaid : Prop := fnExactFoundAtRow.holds Try.pinned (OpenSpec.ofChange fnExactFoundAtSpec)

/-- ITS FALSE NEIGHBOUR: 'it returns false'. Refute it at one input. -/
def fnExactFoundAtWrong : ChangeSpec := { name := "fnExactFoundAt", fn := fun _ => fun
  | [d1, d2, d3] => { results := [.lit (.bool false)], args := [d1, d2, d3] }
  | _ => none }
def FnExactFoundAtWrongFalsely : Prop := fnExactFoundAtRow.holds Try.pinned (OpenSpec.ofChange fnExactFoundAtWrong)

/-- 'laws.FnExactMeanOpened': WHATEVER THE INPUT: true; the input reads as it did. -/
def fnExactMeanOpenedSpec : ChangeSpec := { name := "fnExactMeanOpened", fn := fun _ => fun
  | [d1, d2] => { results := [.lit (.bool true)], args := [d1, d2] }
  | _ => none }
def fnExactMeanOpenedRow : OpenClaim := { program := "ytafjiglocbogeaa", sum := "8b2875df2725bcf407f4fb8e12826edbd9da14eec2cf2e18c6a9027a142e7aae", func := "loop.example/g01372/laws.FnExactMeanOpened", spec := "fnExactMeanOpened", unfollowed := true, recurses := true, apart := false }
def FnExactMeanOpenedSaid : Prop := fnExactMeanOpenedRow.holds Try.pinned (OpenSpec.ofChange fnExactMeanOpenedSpec)

/-- ITS FALSE NEIGHBOUR: 'it returns false'. Refute it at one input. -/
def fnExactMeanOpenedWrong : ChangeSpec := { name := "fnExactMeanOpened", fn := fun _ => fun
  | [d1, d2] => { results := [.lit (.bool false)], args := [d1, d2] }
  | _ => none }
def FnExactMeanOpenedWrongFalsely : Prop := fnExactMeanOpenedRow.holds Try.pinned (OpenSpec.ofChange fnExactMeanOpenedWrong)

/-- 'laws.FnExactMeanSearch': WHATEVER THE INPUT: true; the input reads as it did. -/
def fnExactMeanSearchSpec : ChangeSpec := { name := "fnExactMeanSearch", fn := fun _ => fun
  | [d1, d2] => { results := [.lit (.bool true)], args := [d1, d2] }
  | _ => none }
def fnExactMeanSearchRow : OpenClaim := { program := "ytafjiglocbogeaa", sum := "8b2875df2725bcf407f4fb8e12826edbd9da14eec2cf2e18c6a9027a142e7aae", func := "loop.example/g01372/laws.FnExactMeanSearch", spec := "fnExactMeanSearch", unfollowed := true, recurses := true, apart := false }
def FnExactMeanSearchSaid : Prop := fnExactMeanSearchRow.holds Try.pinned (OpenSpec.ofChange fnExactMeanSearchSpec)

/-- ITS FALSE NEIGHBOUR: 'it returns false'. Refute it at one input. -/
def fnExactMeanSearchWrong : ChangeSpec := { name := "fnExactMeanSearch", fn := fun _ => fun
  | [d1, d2] => { results := [.lit (.bool false)], args := [d1, d2] }
  | _ => none }
def FnExactMeanSearchWrongFalsely : Prop := fnExactMeanSearchRow.holds Try.pinned (OpenSpec.ofChange fnExactMeanSearchWrong)

/-- 'laws.FnExactChanceWithin': WHATEVER THE INPUT: true; the input reads as it did. -/
def fnExactChanceWithinSpec : ChangeSpec := { name := "fnExactChanceWithin", fn := fun _ => fun
  | [d1, d2, d3] => { results := [.lit (.bool true)], args := [d1, d2, d3] }
  | _ => none }
def fnExactChanceWithinRow : OpenClaim := { program := "ytafjiglocbogeaa", sum := "8b2875df2725bcf407f4fb8e12826edbd9da14eec2cf2e18c6a9027a142e7aae", func := "loop.example/g01372/laws.FnExactChanceWithin", spec := "fnExactChanceWithin", unfollowed := true, recurses := true, apart := false }
def FnExactChanceWithinSaid : Prop := fnExactChanceWithinRow.holds Try.pinned (OpenSpec.ofChange fnExactChanceWithinSpec)

/-- ITS FALSE NEIGHBOUR: 'it returns false'. Refute it at one input. -/
def fnExactChanceWithinWrong : ChangeSpec := { name := "fnExactChanceWithin", fn := fun _ => fun
  | [d1, d2, d3] => { results := [.lit (.bool false)], args := [d1, d2, d3] }
  | _ => none }
def FnExactChanceWithinWrongFalsely : Prop := fnExactChanceWithinRow.holds Try.pinned (OpenSpec.ofChange fnExactChanceWithinWrong)

/-- 'laws.FnExactAfterSearch': WHATEVER THE INPUT: true; the input reads as it did. -/
def fnExactAfterSearchSpec : ChangeSpec := { name := "fnExactAfterSearch", fn := fun _ => fun
  | [d1, d2, d3] => { results := [.lit (.bool true)], args := [d1, d2, d3] }
  | _ => none }
def fnExactAfterSearchRow : OpenClaim := { program := "ytafjiglocbogeaa", sum := "8b2875df2725bcf407f4fb8e12826edbd9da14eec2cf2e18c6a9027a142e7aae", func := "loop.example/g01372/laws.FnExactAfterSearch", spec := "fnExactAfterSearch", unfollowed := true, recurses := true, apart := false }
def FnExactAfterSearchSaid : Prop := fnExactAfterSearchRow.holds Try.pinned (OpenSpec.ofChange fnExactAfterSearchSpec)

/-- ITS FALSE NEIGHBOUR: 'it returns false'. Refute it at one input. -/
def fnExactAfterSearchWrong : ChangeSpec := { name := "fnExactAfterSearch", fn := fun _ => fun
  | [d1, d2, d3] => { results := [.lit (.bool false)], args := [d1, d2, d3] }
  | _ => none }
def FnExactAfterSearchWrongFalsely : Prop := fnExactAfterSearchRow.holds Try.pinned (OpenSpec.ofChange fnExactAfterSearchWrong)

/- THE SECOND FORM. 'bulk': how many values and letters a reading holds, each counted each time it is reached (what is shared counts as often as it is met; a slice's spare places count too). A statement '..UptoSaid' is the law's where the arguments, and the package variables that the reading takes, are together of bulk at most 1048576: NARROWER than '..Said'. Prove '..Said' where nothing that the law and all that it calls make is longer than what came in: it says more and counts as full. Else prove '..UptoSaid'. A law counts once. -/
mutual
def uptoBulk {H : Type} : DataW H → Nat
  | .lit (.string bytes) => bytes.length + 1
  | .lit _ => 1
  | .nil => 1
  | .ptr d => uptoBulk d + 1
  | .slice elems spare => uptoBulkAll elems + uptoBulkAll spare + 1
  | .agg parts => uptoBulkAll parts + 1
  | .iface _ d => uptoBulk d + 1
  | .map entries => uptoBulkEntries entries + 1
  | .held _ => 1
def uptoBulkAll {H : Type} : List (DataW H) → Nat
  | [] => 0
  | d :: r => uptoBulk d + uptoBulkAll r
def uptoBulkEntries {H : Type} : List (Lit × DataW H) → Nat
  | [] => 0
  | x :: r => uptoBulkEntry x + uptoBulkEntries r
def uptoBulkEntry {H : Type} : Lit × DataW H → Nat
  | (.string bytes, d) => bytes.length + uptoBulk d + 1
  | (_, d) => uptoBulk d + 1
 end
def uptoSmall : (H : Type) → List (DataW H) → Bool := fun _ ds => decide (uptoBulkAll ds ≤ 1048576)
def OpenSpec.upto (s : _root_.Go.ChangeSpec) : _root_.Go.OpenSpec := { _root_.Go.OpenSpec.ofChange s with cond := some uptoSmall }

/-- 'laws.FnExactAreDrawers', WHERE WHAT IT READS IS OF BULK AT MOST 1048576: true; the input reads as it did. -/
def fnExactAreDrawersUptoRow : OpenClaim := { program := "ytafjiglocbogeaa", sum := "8b2875df2725bcf407f4fb8e12826edbd9da14eec2cf2e18c6a9027a142e7aae", func := "loop.example/g01372/laws.FnExactAreDrawers", spec := "fnExactAreDrawers", unfollowed := true, recurses := true, apart := false, narrowed := true }
def FnExactAreDrawersUptoSaid : Prop := fnExactAreDrawersUptoRow.holds Try.pinned (OpenSpec.upto fnExactAreDrawersSpec)

/-- 'laws.FnExactMinutesForAll', WHERE WHAT IT READS IS OF BULK AT MOST 1048576: true; the input reads as it did. -/
def fnExactMinutesForAllUptoRow : OpenClaim := { program := "ytafjiglocbogeaa", sum := "8b2875df2725bcf407f4fb8e12826edbd9da14eec2cf2e18c6a9027a142e7aae", func := "loop.example/g01372/laws.FnExactMinutesForAll", spec := "fnExactMinutesForAll", unfollowed := true, recurses := true, apart := false, narrowed := true }
def FnExactMinutesForAllUptoSaid : Prop := fnExactMinutesForAllUptoRow.holds Try.pinned (OpenSpec.upto fnExactMinutesForAllSpec)

/-- 'laws.FnExactChanceIn', WHERE WHAT IT READS IS OF BULK AT MOST 1048576: true; the input reads as it did. -/
def fnExactChanceInUptoRow : OpenClaim := { program := "ytafjiglocbogeaa", sum := "8b2875df2725bcf407f4fb8e12826edbd9da14eec2cf2e18c6a9027a142e7aae", func := "loop.example/g01372/laws.FnExactChanceIn", spec := "fnExactChanceIn", unfollowed := true, recurses := true, apart := false, narrowed := true }
def FnExactChanceInUptoSaid : Prop := fnExactChanceInUptoRow.holds Try.pinned (OpenSpec.upto fnExactChanceInSpec)

/-- 'laws.FnExactIsSearch', WHERE WHAT IT READS IS OF BULK AT MOST 1048576: true; the input reads as it did. -/
def fnExactIsSearchUptoRow : OpenClaim := { program := "ytafjiglocbogeaa", sum := "8b2875df2725bcf407f4fb8e12826edbd9da14eec2cf2e18c6a9027a142e7aae", func := "loop.example/g01372/laws.FnExactIsSearch", spec := "fnExactIsSearch", unfollowed := true, recurses := true, apart := false, narrowed := true }
def FnExactIsSearchUptoSaid : Prop := fnExactIsSearchUptoRow.holds Try.pinned (OpenSpec.upto fnExactIsSearchSpec)

/-- 'laws.FnExactSwapCost', WHERE WHAT IT READS IS OF BULK AT MOST 1048576: true; the input reads as it did. -/
def fnExactSwapCostUptoRow : OpenClaim := { program := "ytafjiglocbogeaa", sum := "8b2875df2725bcf407f4fb8e12826edbd9da14eec2cf2e18c6a9027a142e7aae", func := "loop.example/g01372/laws.FnExactSwapCost", spec := "fnExactSwapCost", unfollowed := true, recurses := true, apart := false, narrowed := true }
def FnExactSwapCostUptoSaid : Prop := fnExactSwapCostUptoRow.holds Try.pinned (OpenSpec.upto fnExactSwapCostSpec)

/-- 'laws.FnExactAfterEmpty', WHERE WHAT IT READS IS OF BULK AT MOST 1048576: true; the input reads as it did. -/
def fnExactAfterEmptyUptoRow : OpenClaim := { program := "ytafjiglocbogeaa", sum := "8b2875df2725bcf407f4fb8e12826edbd9da14eec2cf2e18c6a9027a142e7aae", func := "loop.example/g01372/laws.FnExactAfterEmpty", spec := "fnExactAfterEmpty", unfollowed := true, recurses := true, apart := false, narrowed := true }
def FnExactAfterEmptyUptoSaid : Prop := fnExactAfterEmptyUptoRow.holds Try.pinned (OpenSpec.upto fnExactAfterEmptySpec)

/-- 'laws.FnExactFoundAt', WHERE WHAT IT READS IS OF BULK AT MOST 1048576: true; the input reads as it did. -/
def fnExactFoundAtUptoRow : OpenClaim := { program := "ytafjiglocbogeaa", sum := "8b2875df2725bcf407f4fb8e12826edbd9da14eec2cf2e18c6a9027a142e7aae", func := "loop.example/g01372/laws.FnExactFoundAt", spec := "fnExactFoundAt", unfollowed := true, recurses := true, apart := false, narrowed := true }
def FnExactFoundAtUptoSaid : Prop := fnExactFoundAtUptoRow.holds Try.pinned (OpenSpec.upto fnExactFoundAtSpec)

/-- 'laws.FnExactMeanOpened', WHERE WHAT IT READS IS OF BULK AT MOST 1048576: true; the input reads as it did. -/
def fnExactMeanOpenedUptoRow : OpenClaim := { program := "ytafjiglocbogeaa", sum := "8b2875df2725bcf407f4fb8e12826edbd9da14eec2cf2e18c6a9027a142e7aae", func := "loop.example/g01372/laws.FnExactMeanOpened", spec := "fnExactMeanOpened", unfollowed := true, recurses := true, apart := false, narrowed := true }
def FnExactMeanOpenedUptoSaid : Prop := fnExactMeanOpenedUptoRow.holds Try.pinned (OpenSpec.upto fnExactMeanOpenedSpec)

/-- 'laws.FnExactMeanSearch', WHERE WHAT IT READS IS OF BULK AT MOST 1048576: true; the input reads as it did. -/
def fnExactMeanSearchUptoRow : OpenClaim := { program := "ytafjiglocbogeaa", sum := "8b2875df2725bcf407f4fb8e12826edbd9da14eec2cf2e18c6a9027a142e7aae", func := "loop.example/g01372/laws.FnExactMeanSearch", spec := "fnExactMeanSearch", unfollowed := true, recurses := true, apart := false, narrowed := true }
def FnExactMeanSearchUptoSaid : Prop := fnExactMeanSearchUptoRow.holds Try.pinned (OpenSpec.upto fnExactMeanSearchSpec)

/-- 'laws.FnExactChanceWithin', WHERE WHAT IT READS IS OF BULK AT MOST 1048576: true; the input reads as it did. -/
def fnExactChanceWithinUptoRow : OpenClaim := { program := "ytafjiglocbogeaa", sum := "8b2875df2725bcf407f4fb8e12826edbd9da14eec2cf2e18c6a9027a142e7aae", func := "loop.example/g01372/laws.FnExactChanceWithin", spec := "fnExactChanceWithin", unfollowed := true, recurses := true, apart := false, narrowed := true }
def FnExactChanceWithinUptoSaid : Prop := fnExactChanceWithinUptoRow.holds Try.pinned (OpenSpec.upto fnExactChanceWithinSpec)

/-- 'laws.FnExactAfterSearch', WHERE WHAT IT READS IS OF BULK AT MOST 1048576: true; the input reads as it did. -/
def fnExactAfterSearchUptoRow : OpenClaim := { program := "ytafjiglocbogeaa", sum := "8b2875df2725bcf407f4fb8e12826edbd9da14eec2cf2e18c6a9027a142e7aae", func := "loop.example/g01372/laws.FnExactAfterSearch", spec := "fnExactAfterSearch", unfollowed := true, recurses := true, apart := false, narrowed := true }
def FnExactAfterSearchUptoSaid : Prop := fnExactAfterSearchUptoRow.holds Try.pinned (OpenSpec.upto fnExactAfterSearchSpec)

end Rows
end Go.Proofs.Ytafjiglocbogeaa
