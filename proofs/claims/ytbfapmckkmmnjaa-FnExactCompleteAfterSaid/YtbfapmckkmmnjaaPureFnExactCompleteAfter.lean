/- The program's CompleteAfter returns what the reference's returns, for all arguments: the plain part. No conditions. -/
import Derived.Test.YtbfapmckkmmnjaaPlComplete
import Derived.Test.YtbfapmckkmmnjaaPlMarkI
import Derived.Test.YtbfapmckkmmnjaaXlawsFnExactCompleteAfter
namespace Go.Proofs.Ytbfapmckkmmnjaa.Pure
open Go.RowKit Go.Proofs.Ytbfapmckkmmnjaa.X Go.Proofs.YtbfapmckkmmnjaaW.PrintWords Go.Proofs.YtbfapmckkmmnjaaW.PrintLast
set_option linter.unusedSimpArgs false
set_option linter.unusedVariables false

theorem FnExactCompleteAfter : laws_FnExactCompleteAfter.Pure := by
  intro a0 l1 w0 _m1 _y1 _v1
  by_cases b1 : 1048576 < l1.length
  · exact ⟨0, by unfold laws_FnExactCompleteAfter.f; rw [if_pos (by omega)]⟩
  obtain ⟨K0, h0⟩ := toIntS_ev l1 (by omega)
  obtain ⟨K1, h1⟩ := eqIntS_ev l1 (by omega)
  obtain ⟨q1, D1, p1, u1, ⟨K2, h2⟩⟩ := markI_ex l1 (by omega) 1 (by omega) (by omega)
  obtain ⟨r, hr, ⟨K3, h3⟩, ⟨K4, h4⟩⟩ := CompleteAfter_both a0 l1 (by omega)
  obtain ⟨r1, r2⟩ := r
  simp only at hr
  obtain ⟨K5, h5⟩ := eqIntS_ev r1 (by omega)
  obtain ⟨q, R, p, u, ⟨K6, h6⟩, ⟨K7, h7⟩⟩ := markH_ex r1 (by omega)
  obtain ⟨M, hM⟩ : ∃ M, M = K0 + K1 + K2 + K3 + K4 + K5 + K6 + K7 := ⟨_, rfl⟩
  have A0 := fun j => h0 (M + j) (by omega)
  have A1 := fun j => h1 (M + j) (by omega)
  have A2 := fun j => h2 (M + j) (by omega)
  have A3 := fun j => h3 (M + j) (by omega)
  have A4 := fun j => h4 (M + j) (by omega)
  have A5 := fun j => h5 (M + j) (by omega)
  have A6 := fun j => h6 (M + j) (by omega)
  have A7 := fun j => h7 (M + j) (by omega)
  have gq1 : ¬ q1 < 0 := by omega
  have gq : ¬ q < 0 := by omega
  refine ⟨M + 4, ?_⟩
  have hw1 : ¬ 1048576 < (l1.length : Int) := by omega
  simp [laws_FnExactCompleteAfter.f, laws_FnExactCompleteAfter.j0, laws_FnExactCompleteAfter.j1, laws_FnExactCompleteAfter.j2, hw1, A0, A1, A2, A3, A4, A5, A6, A7, gq1, gq]

end Go.Proofs.Ytbfapmckkmmnjaa.Pure
