/- The program's LikeliestFirst returns what the reference's returns, for all arguments: the plain part. No conditions. -/
import Derived.Test.YtenbnempjgbibaaPlSort
import Derived.Test.YtenbnempjgbibaaPlMgC
import Derived.Test.YtenbnempjgbibaaXlawsFnExactLikeliestFirst
namespace Go.Proofs.Ytenbnempjgbibaa.Pure
open Go.RowKit Go.Proofs.Ytenbnempjgbibaa.X Go.Proofs.YtenbnempjgbibaaW.PrintWords Go.Proofs.YtenbnempjgbibaaW.PrintLast
set_option linter.unusedSimpArgs false
set_option linter.unusedVariables false

theorem FnExactLikeliestFirst (l0 : List S49) (y0 : l0.length * 16 ≤ 140737488351232) : ∃ k, laws_FnExactLikeliestFirst.f k l0 = some true := by
  by_cases b0 : 1048576 < l0.length
  · exact ⟨0, by simp [laws_FnExactLikeliestFirst.f, sz_big b0 y0]⟩
  obtain ⟨K0, h0⟩ := toDr_ev l0 (by omega)
  obtain ⟨D, hD⟩ : ∃ D, D = l0.map cv := ⟨_, rfl⟩
  have hDl : D.length ≤ 1048576 := by rw [hD, List.length_map]; omega
  rw [← hD] at h0
  obtain ⟨K1, h1⟩ := eqDr_ev D (by omega)
  obtain ⟨q0, D0, p0, u0, ⟨K2, h2⟩, _⟩ := markDr_ex D (by omega)
  obtain ⟨r, hr, ⟨K3, h3⟩, ⟨K4, h4⟩⟩ := LikeliestFirst_both D
  obtain ⟨r1, r2⟩ := r
  simp only at hr
  obtain ⟨K5, h5⟩ := eqIntS_ev r1 (by omega)
  obtain ⟨q, R, p, u, ⟨K6, h6⟩, ⟨K7, h7⟩⟩ := markH_ex r1 (by omega)
  obtain ⟨M, hM⟩ : ∃ M, M = K0 + K1 + K2 + K3 + K4 + K5 + K6 + K7 := ⟨_, rfl⟩
  have A0 := fun j => h0 (M + j) (by omega)
  have A1 := fun j => h1 (M + j) (by omega)
  have A2 := fun j => h2 (M + j) (by omega)
  have A3 := fun j => h3 (M + j) (by omega)
  have A4 : impl_LikeliestFirst.f D = some (r1, r2) := h4 _ (Nat.le_refl _)
  have A5 := fun j => h5 (M + j) (by omega)
  have A6 := fun j => h6 (M + j) (by omega)
  have A7 := fun j => h7 (M + j) (by omega)
  have gq0 : ¬ q0 < 0 := by omega
  have gq : ¬ q < 0 := by omega
  refine ⟨M + 4, ?_⟩
  have hz : ¬ 1048576 < (l0.length : Int) := by omega
  simp [laws_FnExactLikeliestFirst.f, laws_FnExactLikeliestFirst.j0, laws_FnExactLikeliestFirst.j1, laws_FnExactLikeliestFirst.j2, sz_small (show l0.length ≤ 1048576 by omega), hz, A0, A1, A2, A3, A4, A5, A6, A7, gq0, gq]

end Go.Proofs.Ytenbnempjgbibaa.Pure
