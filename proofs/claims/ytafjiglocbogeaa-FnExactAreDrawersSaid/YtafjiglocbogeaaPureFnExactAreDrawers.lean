/- The program's AreDrawers returns what the reference's returns, for all arguments: the plain part. No conditions. -/
import Derived.Test.YtafjiglocbogeaaPlGood
import Derived.Test.YtafjiglocbogeaaXlawsFnExactAreDrawers
namespace Go.Proofs.Ytafjiglocbogeaa.Pure
open Go.RowKit Go.Proofs.Ytafjiglocbogeaa.X Go.Proofs.YtafjiglocbogeaaW.PrintWords Go.Proofs.YtafjiglocbogeaaW.PrintLast

theorem FnExactAreDrawers (l0 : List S52) (hn : l0.length * 16 ≤ 140737488351232) : ∃ k, laws_FnExactAreDrawers.f k l0 = some true := by
  by_cases hb : 1048576 < l0.length
  · exact ⟨0, by simp [laws_FnExactAreDrawers.f, sz_big hb hn]⟩
  · obtain ⟨K1, h1⟩ := toDr_ev l0 (by omega)
    obtain ⟨K2, h2⟩ := eqDr_ev (l0.map cv) (by simp; omega)
    obtain ⟨K3, h3⟩ := dwGood_ev (l0.map cv)
    refine ⟨K1 + K2 + K3, ?_⟩
    simp [laws_FnExactAreDrawers.f, sz_small (show l0.length ≤ 1048576 by omega), h1 (K1 + K2 + K3) (by omega), h2 (K1 + K2 + K3) (by omega), spec_AreDrawers.f, h3 (K1 + K2 + K3) (by omega), impl_AreDrawers.f]

end Go.Proofs.Ytafjiglocbogeaa.Pure
