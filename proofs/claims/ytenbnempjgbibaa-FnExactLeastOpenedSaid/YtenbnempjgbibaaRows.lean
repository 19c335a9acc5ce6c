/-
  No cell of these rows narrows 'for every input' (looked for: loops, veiled, ifaces, maps, wideKeys, modest, calm, conditions, laid).
  DERIVED. THE GIVEN ROWS OF THIS SEAT. 6 by the template 'for every input the law returns true; each argument reads behind the call as it read before'; 0 by the template 'total and deterministic' (their statements: YtenbnempjgbibaaTotals.lean).
  GIVEN WITH THE SEED: the statements are not yours to turn. If you find one false, say at which input.
  Laid BY PROGRAM, IN A SANDBOX (cutbox-rows.mjs): the forced cells as the released guide's own fill.sh prints them over the translation dab487fea855e0d1… (all of the seat's roots in one cut). By AI agents, Wed Nov 11 2026. No macro, syntax, notation, axiom, sorry.
-/
import Derived.Test.YtenbnempjgbibaaChecked
import GoSem.Claim
import GoSem.ClaimJoined
import GoSem.ClaimMapViews
import Derived.JoinedTies
import Derived.KernelRfl
namespace Go.Proofs.Ytenbnempjgbibaa
/- THE CELL 'sum', in the pinned program and in every row, IS THE sha256 OF THE DUMP (.gsa) THAT YtenbnempjgbibaaProg.lean LOADS. Nothing in Lean hashes anything: it is a label: what it is worth is what the hold of that sum in a sandbox is worth. -/
noncomputable def Try.pinned : Pinned := { name := "ytenbnempjgbibaa", sum := "dab487fea855e0d1334a5515706249fc86b1a20f9dac33fac2867c34d107c622", checked := Try.checked }
namespace Rows
def none {H : Type} : Left H := { results := [], args := [] }

/-- 'laws.FnExactGreatestWithin': WHATEVER THE INPUT: true; the input reads as it did. -/
def fnExactGreatestWithinSpec : ChangeSpec := { name := "fnExactGreatestWithin", fn := fun _ => fun
  | [d1, d2] => { results := [.lit (.bool true)], args := [d1, d2] }
  | _ => none }
def fnExactGreatestWithinRow : OpenClaim := { program := "ytenbnempjgbibaa", sum := "dab487fea855e0d1334a5515706249fc86b1a20f9dac33fac2867c34d107c622", func := "loop.example/g01372/laws.FnExactGreatestWithin", spec := "fnExactGreatestWithin", unfollowed := true, recurses := true, apart := false }
def FnExactGreatestWithinSaid : Prop := fnExactGreatestWithinRow.holds Try.pinned (OpenSpec.ofChange fnExactGreatestWithinSpec)

/-- ITS FALSE NEIGHBOUR: 'it returns false'. Refute it at one input. -/
def fnExactGreatestWithinWrong : ChangeSpec := { name := "fnExactGreatestWithin", fn := fun _ => fun
  | [d1, d2] => { results := [.lit (.bool false)], args := [d1, d2] }
  | _ => none }
def FnExactGreatestWithinWrongFalsely : Prop := fnExactGreatestWithinRow.holds Try.pinned (OpenSpec.ofChange fnExactGreatestWithinWrong)

/-- 'laws.FnExactBestWithin': WHATEVER THE INPUT: true; the input reads as it did. -/
def fnExactBestWithinSpec : ChangeSpec := { name := "fnExactBestWithin", fn := fun _ => fun
  | [d1, d2] => { results := [.lit (.bool true)], args := [d1, d2] }
  | _ => none }
def fnExactBestWithinRow : OpenClaim := { program := "ytenbnempjgbibaa", sum := "dab487fea855e0d1334a5515706249fc86b1a20f9dac33fac2867c34d107c622", func := "loop.example/g01372/laws.FnExactBestWithin", spec := "fnExactBestWithin", unfollowed := true, recurses := true, apart := false }
def FnExactBestWithinSaid : Prop := fnExactBestWithinRow.holds Try.pinned (OpenSpec.ofChange fnExactBestWithinSpec)

/-- ITS FALSE NEIGHBOUR: 'it returns false'. Refute it at one input. -/
def fnExactBestWithinWrong : ChangeSpec := { name := "fnExactBestWithin", fn := fun _ => fun
  | [d1, d2] => { results := [.lit (.bool false)], args := [d1, d2] }
  | _ => none }
def FnExactBestWithinWrongFalsely : Prop := fnExactBestWithinRow.holds Try.pinned (OpenSpec.ofChange fnExactBestWithinWrong)

/-- 'laws.FnExactBestSearch': WHATEVER THE INPUT: true; the input reads as it did. -/
def fnExactBestSearchSpec : ChangeSpec := { name := "fnExactBestSearch", fn := fun _ => fun
  | [d] => { results := [.lit (.bool true)], args := [d] }
  | _ => none }
def fnExactBestSearchRow : OpenClaim := { program := "ytenbnempjgbibaa", sum := "dab487fea855e0d1334a5515706249fc86b1a20f9dac33fac2867c34d107c622", func := "loop.example/g01372/laws.FnExactBestSearch", spec := "fnExactBestSearch", unfollowed := true, recurses := true, apart := false }
def FnExactBestSearchSaid : Prop := fnExactBestSearchRow.holds Try.pinned (OpenSpec.ofChange fnExactBestSearchSpec)

/-- ITS FALSE NEIGHBOUR: 'it returns false'. Refute it at one input. -/
def fnExactBestSearchWrong : ChangeSpec := { name := "fnExactBestSearch", fn := fun _ => fun
  | [d] => { results := [.lit (.bool false)], args := [d] }
  | _ => none }
def FnExactBestSearchWrongFalsely : Prop := fnExactBestSearchRow.holds Try.pinned (OpenSpec.ofChange fnExactBestSearchWrong)

/-- 'laws.FnExactLikeliestFirst': WHATEVER THE INPUT: true; the input reads as it did. -/
def fnExactLikeliestFirstSpec : ChangeSpec := { name := "fnExactLikeliestFirst", fn := fun _ => fun
  | [d] => { results := [.lit (.bool true)], args := [d] }
  | _ => none }
def fnExactLikeliestFirstRow : OpenClaim := { program := "ytenbnempjgbibaa", sum := "dab487fea855e0d1334a5515706249fc86b1a20f9dac33fac2867c34d107c622", func := "loop.example/g01372/laws.FnExactLikeliestFirst", spec := "fnExactLikeliestFirst", unfollowed := true, recurses := true, apart := false }
def FnExactLikeliestFirstSaid : Prop := fnExactLikeliestFirstRow.holds Try.pinned (OpenSpec.ofChange fnExactLikeliestFirstSpec)

/-- ITS FALSE NEIGHBOUR: 'it returns false'. Refute it at one input. -/
def fnExactLikeliestFirstWrong : ChangeSpec := { name := "fnExactLikeliestFirst", fn := fun _ => fun
  | [d] => { results := [.lit (.bool false)], args := [d] }
  | _ => none }
def FnExactLikeliestFirstWrongFalsely : Prop := fnExactLikeliestFirstRow.holds Try.pinned (OpenSpec.ofChange fnExactLikeliestFirstWrong)

/-- 'laws.FnExactLeastOpened': WHATEVER THE INPUT: true; the input reads as it did. -/
def fnExactLeastOpenedSpec : ChangeSpec := { name := "fnExactLeastOpened", fn := fun _ => fun
  | [d] => { results := [.lit (.bool true)], args := [d] }
  | _ => none }
def fnExactLeastOpenedRow : OpenClaim := { program := "ytenbnempjgbibaa", sum := "dab487fea855e0d1334a5515706249fc86b1a20f9dac33fac2867c34d107c622", func := "loop.example/g01372/laws.FnExactLeastOpened", spec := "fnExactLeastOpened", unfollowed := true, recurses := true, apart := false }
def FnExactLeastOpenedSaid : Prop := fnExactLeastOpenedRow.holds Try.pinned (OpenSpec.ofChange fnExactLeastOpenedSpec)

/-- ITS FALSE NEIGHBOUR: 'it returns false'. Refute it at one input. -/
def fnExactLeastOpenedWrong : ChangeSpec := { name := "fnExactLeastOpened", fn := fun _ => fun
  | [d] => { results := [.lit (.bool false)], args := [d] }
  | _ => none }
def FnExactLeastOpenedWrongFalsely : Prop := fnExactLeastOpenedRow.holds Try.pinned (OpenSpec.ofChange fnExactLeastOpenedWrong)

/-- 'laws.FnExactLeastSearch': WHATEVER THE INPUT: true; the input reads as it did. -/
def fnExactLeastSearchSpec : ChangeSpec := { name := "fnExactLeastSearch", fn := fun _ => fun
  | [d] => { results := [.lit (.bool true)], args := [d] }
  | _ => none }
def fnExactLeastSearchRow : OpenClaim := { program := "ytenbnempjgbibaa", sum := "dab487fea855e0d1334a5515706249fc86b1a20f9dac33fac2867c34d107c622", func := "loop.example/g01372/laws.FnExactLeastSearch", spec := "fnExactLeastSearch", unfollowed := true, recurses := true, apart := false }
def FnExactLeastSearchSaid : Prop := fnExactLeastSearchRow.holds Try.pinned (OpenSpec.ofChange fnExactLeastSearchSpec)

/-- ITS FALSE NEIGHBOUR: 'it returns false'. Refute it at one input. -/
def fnExactLeastSearchWrong : ChangeSpec := { name := "fnExactLeastSearch", fn := fun _ => fun
  | [d] => { results := [.lit (.bool false)], args := [d] }
  | _ => none }
def FnExactLeastSearchWrongFalsely : Prop := fnExactLeastSearchRow.holds Try.pinned (OpenSpec.ofChange fnExactLeastSearchWrong)

/- THE SECOND FORM. 'bulk': how many values and letters a reading holds, each counted each time it is reached (what is shared counts as often as it is met; a slice's spare places count too). A statement '..UptoSaid' is the law's where the arguments, and the package variables that the reading takes, are together of bulk at most 1048576: NARROWER than '..Said'. Prove '..Said' where nothing that the law and all that it calls make is longer than what came in: it says more and counts as full. Else prove '..UptoSaid'. A law counts once. -/
mutual
def uptoBulk {H : Type} : DataW H → Nat
  | .lit (.string bytes) => bytes.length + 1
  | .lit _ => 1
  | .nil => 1
  | .ptr d => uptoBulk d + 1
  | .slice elems spare => uptoBulkAll elems + uptoBulkAll spare + 1
  | .agg parts => uptoBulkAll parts + 1
  | .iface _ d => uptoBulk d + 1
  | .map entries => uptoBulkEntries entries + 1
  | .held _ => 1
def uptoBulkAll {H : Type} : List (DataW H) → Nat
  | [] => 0
  | d :: r => uptoBulk d + uptoBulkAll r
def uptoBulkEntries {H : Type} : List (Lit × DataW H) → Nat
  | [] => 0
  | x :: r => uptoBulkEntry x + uptoBulkEntries r
def uptoBulkEntry {H : Type} : Lit × DataW H → Nat
  | (.string bytes, d) => bytes.length + uptoBulk d + 1
  | (_, d) => uptoBulk d + 1
 end
def uptoSmall : (H : Type) → List (DataW H) → Bool := fun _ ds => decide (uptoBulkAll ds ≤ 1048576)
def OpenSpec.upto (s : _root_.Go.ChangeSpec) : _root_.Go.OpenSpec := { _root_.Go.OpenSpec.ofChange s with cond := some uptoSmall }

/-- 'laws.FnExactGreatestWithin', WHERE WHAT IT READS IS OF BULK AT MOST 1048576: true; the input reads as it did. -/
def fnExactGreatestWithinUptoRow : OpenClaim := { program := "ytenbnempjgbibaa", sum := "dab487fea855e0d1334a5515706249fc86b1a20f9dac33fac2867c34d107c622", func := "loop.example/g01372/laws.FnExactGreatestWithin", spec := "fnExactGreatestWithin", unfollowed := true, recurses := true, apart := false, narrowed := true }
def FnExactGreatestWithinUptoSaid : Prop := fnExactGreatestWithinUptoRow.holds Try.pinned (OpenSpec.upto fnExactGreatestWithinSpec)

/-- 'laws.FnExactBestWithin', WHERE WHAT IT READS IS OF BULK AT MOST 1048576: true; the input reads as it did. -/
def fnExactBestWithinUptoRow : OpenClaim := { program := "ytenbnempjgbibaa", sum := "dab487fea855e0d1334a5515706249fc86b1a20f9dac33fac2867c34d107c622", func := "loop.example/g01372/laws.FnExactBestWithin", spec := "fnExactBestWithin", unfollowed := true, recurses := true, apart := false, narrowed := true }
def FnExactBestWithinUptoSaid : Prop := fnExactBestWithinUptoRow.holds Try.pinned (OpenSpec.upto fnExactBestWithinSpec)

/-- 'laws.FnExactBestSearch', WHERE WHAT IT READS IS OF BULK AT MOST 1048576: true; the input reads as it did. -/
def fnExactBestSearchUptoRow : OpenClaim := { program := "ytenbnempjgbibaa", sum := "dab487fea855e0d1334a5515706249fc86b1a20f9dac33fac2867c34d107c622", func := "loop.example/g01372/laws.FnExactBestSearch", spec := "fnExactBestSearch", unfollowed := true, recurses := true, apart := false, narrowed := true }
def FnExactBestSearchUptoSaid : Prop := fnExactBestSearchUptoRow.holds Try.pinned (OpenSpec.upto fnExactBestSearchSpec)

/-- 'laws.FnExactLikeliestFirst', WHERE WHAT IT READS IS OF BULK AT MOST 1048576: true; the input reads as it did. -/
def fnExactLikeliestFirstUptoRow : OpenClaim := { program := "ytenbnempjgbibaa", sum := "dab487fea855e0d1334a5515706249fc86b1a20f9dac33fac2867c34d107c622", func := "loop.example/g01372/laws.FnExactLikeliestFirst", spec := "fnExactLikeliestFirst", unfollowed := true, recurses := true, apart := false, narrowed := true }
def FnExactLikeliestFirstUptoSaid : Prop := fnExactLikeliestFirstUptoRow.holds Try.pinned (OpenSpec.upto fnExactLikeliestFirstSpec)

/-- 'laws.FnExactLeastOpened', WHERE WHAT IT READS IS OF BULK AT MOST 1048576: true; the input reads as it did. -/
def fnExactLeastOpenedUptoRow : OpenClaim := { program := "ytenbnempjgbibaa", sum := "dab487fea855e0d1334a5515706249fc86b1a20f9dac33fac2867c34d107c622", func := "loop.example/g01372/laws.FnExactLeastOpened", spec := "fnExactLeastOpened", unfollowed := true, recurses := true, apart := false, narrowed := true }
def FnExactLeastOpenedUptoSaid : Prop := fnExactLeastOpenedUptoRow.holds Try.pinned (OpenSpec.upto fnExactLeastOpenedSpec)

/-- 'laws.FnExactLeastSearch', WHERE WHAT IT READS IS OF BULK AT MOST 1048576: true; the input reads as it did. -/
def fnExactLeastSearchUptoRow : OpenClaim := { program := "ytenbnempjgbibaa", sum := "dab487fea855e0d1334a5515706249fc86b1a20f9dac33fac2867c34d107c622", func := "loop.example/g01372/laws.FnExactLeastSearch", spec := "fnExactLeastSearch", unfollowed := true, recurses := true, apart := false, narrowed := true }
def FnExactLeastSearchUptoSaid : Prop := fnExactLeastSearchUptoRow.holds Try.pinned (OpenSpec.upto fnExactLeastSearchSpec)

end Rows
end Go.Proofs.Ytenbnempjgbibaa
