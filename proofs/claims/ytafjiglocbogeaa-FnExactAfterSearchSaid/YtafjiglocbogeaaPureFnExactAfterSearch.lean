/- The program's AfterSearch returns what the reference's returns, for all arguments: the plain part. No conditions. -/
import Derived.Test.YtafjiglocbogeaaPlLaws4
import Derived.Test.YtafjiglocbogeaaPlMark
import Derived.Test.YtafjiglocbogeaaXlawsFnExactAfterSearch
namespace Go.Proofs.Ytafjiglocbogeaa.Pure
open Go.RowKit Go.Proofs.Ytafjiglocbogeaa.X Go.Proofs.YtafjiglocbogeaaW.PrintWords Go.Proofs.YtafjiglocbogeaaW.PrintLast
set_option linter.unusedSimpArgs false
set_option linter.unusedVariables false

theorem FnExactAfterSearch (l0 : List S52) (l1 : List Int) (a2 : Int) (y0 : l0.length * 16 ≤ 140737488351232) (_y1 : l1.length * 8 ≤ 140737488351232) (w2 : (Lit.int .i64 a2).wf = true) : ∃ k, laws_FnExactAfterSearch.f k l0 l1 a2 = some true := by
  by_cases b1 : 1048576 < l1.length
  · exact ⟨0, by unfold laws_FnExactAfterSearch.f; rw [if_pos (by omega)]⟩
  by_cases b0 : 1048576 < l0.length
  · exact ⟨0, by simp [laws_FnExactAfterSearch.f, sz_big b0 y0, show ¬ 1048576 < (l1.length : Int) from by omega]⟩
  obtain ⟨K0, h0⟩ := toDr_ev l0 (by omega)
  obtain ⟨D, hD⟩ : ∃ D, D = l0.map cv := ⟨_, rfl⟩
  have hDl : D.length ≤ 1048576 := by rw [hD, List.length_map]; omega
  rw [← hD] at h0
  obtain ⟨K1, h1⟩ := eqDr_ev D (by omega)
  obtain ⟨q0, D0, p0, u0, ⟨K2, h2⟩, _⟩ := markDr_ex D (by omega)
  obtain ⟨K3, h3⟩ := toIntS_ev l1 (by omega)
  obtain ⟨K4, h4⟩ := eqIntS_ev l1 (by omega)
  obtain ⟨q1, D1, p1, u1, ⟨K5, h5⟩⟩ := markI_ex l1 (by omega) q0 (by omega) (by omega)
  obtain ⟨r, hr, ⟨K6, h6⟩, ⟨K7, h7⟩⟩ := AfterSearch_both D l1 a2 (by omega)
  obtain ⟨r1, r2⟩ := r
  simp only at hr
  obtain ⟨K8, h8⟩ := eqDr_ev r1 (by omega)
  obtain ⟨q, R, p, u, ⟨K9, h9⟩, ⟨K10, h10⟩⟩ := markDr_ex r1 (by omega)
  obtain ⟨M, hM⟩ : ∃ M, M = K0 + K1 + K2 + K3 + K4 + K5 + K6 + K7 + K8 + K9 + K10 := ⟨_, rfl⟩
  have A0 := fun j => h0 (M + j) (by omega)
  have A1 := fun j => h1 (M + j) (by omega)
  have A2 := fun j => h2 (M + j) (by omega)
  have A3 := fun j => h3 (M + j) (by omega)
  have A4 := fun j => h4 (M + j) (by omega)
  have A5 := fun j => h5 (M + j) (by omega)
  have A6 := fun j => h6 (M + j) (by omega)
  have A7 := fun j => h7 (M + j) (by omega)
  have A8 := fun j => h8 (M + j) (by omega)
  have A9 := fun j => h9 (M + j) (by omega)
  have A10 := fun j => h10 (M + j) (by omega)
  have gq0 : ¬ q0 < 0 := by omega
  have gq1 : ¬ q1 < 0 := by omega
  have gq : ¬ q < 0 := by omega
  refine ⟨M + 4, ?_⟩
  have hz : ¬ 1048576 < (l0.length : Int) := by omega
  have hw1 : ¬ 1048576 < (l1.length : Int) := by omega
  simp [laws_FnExactAfterSearch.f, laws_FnExactAfterSearch.j0, laws_FnExactAfterSearch.j1, laws_FnExactAfterSearch.j2, sz_small (show l0.length ≤ 1048576 by omega), hz, hw1, A0, A1, A2, A3, A4, A5, A6, A7, A8, A9, A10, gq0, gq1, gq]

end Go.Proofs.Ytafjiglocbogeaa.Pure
