/- The program's WashingsAtWorst returns what the reference's returns, for all arguments: the plain part. No conditions. -/
import Derived.Test.YtdbkbccobmndbaaPlWash
import Derived.Test.YtdbkbccobmndbaaXlawsFnExactWashingsAtWorst
namespace Go.Proofs.Ytdbkbccobmndbaa.Pure
open Go.RowKit Go.Proofs.Ytdbkbccobmndbaa.X Go.Proofs.YtdbkbccobmndbaaW.PrintWords Go.Proofs.YtdbkbccobmndbaaW.PrintLast
theorem FnExactWashingsAtWorst : laws_FnExactWashingsAtWorst.Pure := by
  intro a0 a1 a2 _ _ _
  obtain ⟨r, h1, h2⟩ := Worst_both a0 a1 a2
  refine ⟨45, ?_⟩
  simp [laws_FnExactWashingsAtWorst.f, h1, h2]
end Go.Proofs.Ytdbkbccobmndbaa.Pure
