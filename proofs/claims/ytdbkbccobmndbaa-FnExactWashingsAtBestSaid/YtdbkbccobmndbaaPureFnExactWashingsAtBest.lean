/- The program's WashingsAtBest returns what the reference's returns, for all arguments: the plain part. No conditions. -/
import Derived.Test.YtdbkbccobmndbaaPlWash
import Derived.Test.YtdbkbccobmndbaaXlawsFnExactWashingsAtBest
namespace Go.Proofs.Ytdbkbccobmndbaa.Pure
open Go.RowKit Go.Proofs.Ytdbkbccobmndbaa.X Go.Proofs.YtdbkbccobmndbaaW.PrintWords Go.Proofs.YtdbkbccobmndbaaW.PrintLast
theorem FnExactWashingsAtBest : laws_FnExactWashingsAtBest.Pure := by
  intro a0 a1 a2 _ _ _
  obtain ⟨r, h1, h2⟩ := Best_both a0 a1 a2
  refine ⟨45, ?_⟩
  simp [laws_FnExactWashingsAtBest.f, h1, h2]
end Go.Proofs.Ytdbkbccobmndbaa.Pure
