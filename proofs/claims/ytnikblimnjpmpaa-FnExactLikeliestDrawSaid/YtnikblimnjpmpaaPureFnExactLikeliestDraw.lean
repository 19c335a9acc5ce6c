/- The program's LikeliestDraw returns what the reference's returns, for all arguments: the plain part. No conditions. -/
import Derived.Test.YtnikblimnjpmpaaMB
import Derived.Test.YtnikblimnjpmpaaXlawsFnExactLikeliestDraw
namespace Go.Proofs.Ytnikblimnjpmpaa.Pure
open Go.RowKit Go.Proofs.Ytnikblimnjpmpaa.X Go.Proofs.YtnikblimnjpmpaaW.PrintWords Go.Proofs.YtnikblimnjpmpaaW.PrintLast
set_option linter.unusedSimpArgs false
set_option linter.unusedVariables false

theorem FnExactLikeliestDraw : laws_FnExactLikeliestDraw.Pure := by
  intro l0 a1 _m0 _y0 _v0 w1
  by_cases b0 : 1048576 < l0.length
  · exact ⟨0, by unfold laws_FnExactLikeliestDraw.f; rw [if_pos (by omega)]⟩
  obtain ⟨K0, h0⟩ := toIntS_ev l0 (by omega)
  obtain ⟨K1, h1⟩ := eqIntS_ev l0 (by omega)
  obtain ⟨q0, D0, p0, u0, ⟨K2, h2⟩⟩ := markI_ex l0 (by omega) 1 (by omega) (by omega)
  obtain ⟨r, hr, ⟨K3, h3⟩, ⟨K4, h4⟩⟩ := LikeliestDraw_both l0 a1 (by omega)
  obtain ⟨r1, r2⟩ := r
  simp only at hr
  obtain ⟨K5, h5⟩ := eqIntS_ev r1 (by omega)
  obtain ⟨q, R, p, u, ⟨K6, h6⟩, ⟨K7, h7⟩⟩ := markH_ex r1 (by omega)
  obtain ⟨M, hM⟩ : ∃ M, M = K0 + K1 + K2 + K3 + K4 + K5 + K6 + K7 := ⟨_, rfl⟩
  have A0 := fun j => h0 (M + j) (by omega)
  have A1 := fun j => h1 (M + j) (by omega)
  have A2 := fun j => h2 (M + j) (by omega)
  have A3 := fun j => h3 (M + j) (by omega)
  have A4 := fun j => h4 (M + j) (by omega)
  have A5 := fun j => h5 (M + j) (by omega)
  have A6 := fun j => h6 (M + j) (by omega)
  have A7 := fun j => h7 (M + j) (by omega)
  have gq0 : ¬ q0 < 0 := by omega
  have gq : ¬ q < 0 := by omega
  refine ⟨M + 4, ?_⟩
  have hw0 : ¬ 1048576 < (l0.length : Int) := by omega
  simp [laws_FnExactLikeliestDraw.f, laws_FnExactLikeliestDraw.j0, laws_FnExactLikeliestDraw.j1, laws_FnExactLikeliestDraw.j2, hw0, A0, A1, A2, A3, A4, A5, A6, A7, gq0, gq]

end Go.Proofs.Ytnikblimnjpmpaa.Pure
