/- The program's PairsToBuy returns what the reference's returns, for all arguments. No conditions. -/
import Derived.Test.YtdbkbccobmndbaaPFnExactPairsToBuyx1
namespace Go.Proofs.Ytdbkbccobmndbaa.Pure
open Go.RowKit Go.Proofs.Ytdbkbccobmndbaa.PFnExactPairsToBuy Go.Proofs.YtdbkbccobmndbaaW.PrintWords Go.Proofs.YtdbkbccobmndbaaW.PrintLast

theorem FnExactPairsToBuy : laws_FnExactPairsToBuy.Pure := by
  intro a0 a1 w0 w1
  simp only [laws_FnExactPairsToBuy.f, spec_PairsToBuy.f, impl_PairsToBuy.f, spec_laBuy.f, impl_isWanted.f, spec_l1In.f, impl_within.f]
  repeat' (first | split | simp only [Option.bind_some])
  all_goals (simp_all <;> omega)

end Go.Proofs.Ytdbkbccobmndbaa.Pure
