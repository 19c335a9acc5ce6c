/- The program's LeastComplete returns what the reference's returns, for all arguments. No conditions. -/
import Derived.Test.YtdbkbccobmndbaaPFnExactLeastCompletex1
namespace Go.Proofs.Ytdbkbccobmndbaa.Pure
open Go.RowKit Go.Proofs.Ytdbkbccobmndbaa.PFnExactLeastComplete Go.Proofs.YtdbkbccobmndbaaW.PrintWords Go.Proofs.YtdbkbccobmndbaaW.PrintLast

theorem FnExactLeastComplete : laws_FnExactLeastComplete.Pure := by
  intro a0 a1 w0 w1
  simp only [laws_FnExactLeastComplete.f, spec_LeastComplete.f, impl_LeastComplete.f, spec_laGood.f, impl_areLost.f, impl_arePairs.f, spec_l1Most.f, spec_l1In.f, impl_within.f, mx]
  repeat' (first | split | simp only [Option.bind_some])
  all_goals (simp_all <;> omega)

end Go.Proofs.Ytdbkbccobmndbaa.Pure
