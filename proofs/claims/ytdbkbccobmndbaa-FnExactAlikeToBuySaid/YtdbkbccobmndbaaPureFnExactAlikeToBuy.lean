/- The program's AlikeToBuy returns what the reference's returns, for all arguments. No conditions. -/
import Derived.Test.YtdbkbccobmndbaaPFnExactAlikeToBuyx1
namespace Go.Proofs.Ytdbkbccobmndbaa.Pure
open Go.RowKit Go.Proofs.Ytdbkbccobmndbaa.PFnExactAlikeToBuy Go.Proofs.YtdbkbccobmndbaaW.PrintWords Go.Proofs.YtdbkbccobmndbaaW.PrintLast

theorem FnExactAlikeToBuy : laws_FnExactAlikeToBuy.Pure := by
  intro a0 a1 w0 w1
  simp only [laws_FnExactAlikeToBuy.f, spec_AlikeToBuy.f, impl_AlikeToBuy.f, spec_laBuy.f, impl_isWanted.f, spec_l1In.f, impl_within.f]
  repeat' (first | split | simp only [Option.bind_some])
  all_goals (simp_all <;> omega)

end Go.Proofs.Ytdbkbccobmndbaa.Pure
