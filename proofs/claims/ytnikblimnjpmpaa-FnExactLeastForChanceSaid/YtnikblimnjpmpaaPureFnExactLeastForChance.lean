/- The program's LeastForChance returns what the reference's returns, for all arguments: the plain part. No conditions. -/
import Derived.Test.YtnikblimnjpmpaaPlLeastFor
import Derived.Test.YtnikblimnjpmpaaXlawsFnExactLeastForChance
namespace Go.Proofs.Ytnikblimnjpmpaa.Pure
open Go.RowKit Go.Proofs.Ytnikblimnjpmpaa.X Go.Proofs.YtnikblimnjpmpaaW.PrintWords Go.Proofs.YtnikblimnjpmpaaW.PrintLast
set_option linter.unusedSimpArgs false
set_option linter.unusedVariables false

theorem FnExactLeastForChance : laws_FnExactLeastForChance.Pure := by
  intro l0 a1 a2 a3 m0 y0 v0 w1 w2 w3
  by_cases b0 : 1048576 < l0.length
  · exact ⟨0, by unfold laws_FnExactLeastForChance.f; rw [if_pos (by omega)]⟩
  obtain ⟨K0, h0⟩ := toIntS_ev l0 (by omega)
  obtain ⟨K1, h1⟩ := eqIntS_ev l0 (by omega)
  obtain ⟨r, ⟨K2, h2⟩, ⟨K3, h3⟩⟩ := LeastForChance_both l0 a1 a2 a3 (by omega)
  obtain ⟨M, hM⟩ : ∃ M, M = K0 + K1 + K2 + K3 := ⟨_, rfl⟩
  have A0 := fun j => h0 (M + j) (by omega)
  have A1 := fun j => h1 (M + j) (by omega)
  have A2 := fun j => h2 (M + j) (by omega)
  have A3 := fun j => h3 (M + j) (by omega)
  refine ⟨M + 3, ?_⟩
  have hw0 : ¬ 1048576 < (l0.length : Int) := by omega
  simp [laws_FnExactLeastForChance.f, laws_FnExactLeastForChance.j0, hw0, A0, A1, A2, A3]

end Go.Proofs.Ytnikblimnjpmpaa.Pure
