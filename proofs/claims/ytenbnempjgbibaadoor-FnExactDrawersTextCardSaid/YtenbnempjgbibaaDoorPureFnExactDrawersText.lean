/- The program's DrawersText returns what the reference's returns, for all arguments: the plain part. No conditions. -/
import Derived.Test.YtenbnempjgbibaaDoorMB
import Derived.Test.YtenbnempjgbibaaDoorXlawsFnExactDrawersText
namespace Go.Proofs.YtenbnempjgbibaaDoor.Pure
open Go.RowKit Go.Proofs.YtenbnempjgbibaaDoor.X Go.Proofs.YtenbnempjgbibaaDoorW.PrintWords Go.Proofs.YtenbnempjgbibaaDoorW.PrintLast
set_option linter.unusedSimpArgs false
set_option linter.unusedVariables false

theorem FnExactDrawersText (l0 : List S35) (y0 : l0.length * 16 ≤ 140737488351232) : ∃ k, laws_FnExactDrawersText.f k l0 = some true := by
  by_cases b0 : 1048576 < l0.length
  · exact ⟨0, by simp [laws_FnExactDrawersText.f, sz_big b0 y0]⟩
  obtain ⟨K0, h0⟩ := toDr_ev l0 (by omega)
  obtain ⟨D, hD⟩ : ∃ D, D = l0.map cv := ⟨_, rfl⟩
  have hDl : D.length ≤ 1048576 := by rw [hD, List.length_map]; omega
  rw [← hD] at h0
  obtain ⟨K1, h1⟩ := eqDr_ev D (by omega)
  obtain ⟨r, ⟨K2, h2⟩, ⟨K3, h3⟩⟩ := DrawersText_both D (by omega)
  obtain ⟨M, hM⟩ : ∃ M, M = K0 + K1 + K2 + K3 := ⟨_, rfl⟩
  have A0 := fun j => h0 (M + j) (by omega)
  have A1 := fun j => h1 (M + j) (by omega)
  have A2 := fun j => h2 (M + j) (by omega)
  have A3 := fun j => h3 (M + j) (by omega)
  refine ⟨M + 3, ?_⟩
  have hz : ¬ 1048576 < (l0.length : Int) := by omega
  simp [laws_FnExactDrawersText.f, laws_FnExactDrawersText.j0, sz_small (show l0.length ≤ 1048576 by omega), hz, A0, A1, A2, A3]

end Go.Proofs.YtenbnempjgbibaaDoor.Pure
