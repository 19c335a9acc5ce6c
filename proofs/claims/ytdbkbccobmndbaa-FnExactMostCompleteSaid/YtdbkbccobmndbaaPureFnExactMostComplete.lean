/- The program's MostComplete returns what the reference's returns, for all arguments. No conditions. -/
import Derived.Test.YtdbkbccobmndbaaPFnExactMostCompletex1
namespace Go.Proofs.Ytdbkbccobmndbaa.Pure
open Go.RowKit Go.Proofs.Ytdbkbccobmndbaa.PFnExactMostComplete Go.Proofs.YtdbkbccobmndbaaW.PrintWords Go.Proofs.YtdbkbccobmndbaaW.PrintLast

theorem FnExactMostComplete : laws_FnExactMostComplete.Pure := by
  intro a0 a1 w0 w1
  simp only [laws_FnExactMostComplete.f, spec_MostComplete.f, impl_MostComplete.f, spec_laGood.f, impl_areLost.f, impl_arePairs.f, spec_l1In.f, impl_within.f]
  repeat' (first | split | simp only [Option.bind_some])
  all_goals (simp_all <;> omega)

end Go.Proofs.Ytdbkbccobmndbaa.Pure
