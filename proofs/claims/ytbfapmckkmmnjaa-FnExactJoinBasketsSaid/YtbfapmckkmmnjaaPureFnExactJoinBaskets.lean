/- The program's JoinBaskets returns what the reference's returns, for all arguments: the plain part. No conditions. -/
import Derived.Test.YtbfapmckkmmnjaaPlJ
import Derived.Test.YtbfapmckkmmnjaaXlawsFnExactJoinBaskets
namespace Go.Proofs.Ytbfapmckkmmnjaa.Pure
open Go.RowKit Go.Proofs.Ytbfapmckkmmnjaa.X Go.Proofs.YtbfapmckkmmnjaaW.PrintWords Go.Proofs.YtbfapmckkmmnjaaW.PrintLast
set_option linter.unusedSimpArgs false
set_option linter.unusedVariables false

theorem FnExactJoinBaskets : laws_FnExactJoinBaskets.Pure := by
  intro a0 l1 l2 w0 _m1 _y1 _v1 _m2 _y2 _v2
  by_cases b1 : 1048576 < l1.length
  · exact ⟨0, by unfold laws_FnExactJoinBaskets.f; rw [if_pos (by omega)]⟩
  by_cases b2 : 1048576 < l2.length
  · exact ⟨0, by unfold laws_FnExactJoinBaskets.f; rw [if_neg (by omega)]; rw [if_pos (by omega)]⟩
  obtain ⟨K0, h0⟩ := toIntS_ev l1 (by omega)
  obtain ⟨K1, h1⟩ := eqIntS_ev l1 (by omega)
  obtain ⟨q1, D1, p1, u1, ⟨K2, h2⟩⟩ := markI_ex l1 (by omega) 1 (by omega) (by omega)
  obtain ⟨K3, h3⟩ := toIntS_ev l2 (by omega)
  obtain ⟨K4, h4⟩ := eqIntS_ev l2 (by omega)
  obtain ⟨q2, D2, p2, u2, ⟨K5, h5⟩⟩ := markI_ex l2 (by omega) q1 (by omega) (by omega)
  obtain ⟨r, hr, ⟨K6, h6⟩, ⟨K7, h7⟩⟩ := JoinBaskets_both a0 l1 l2 (by omega) (by omega)
  obtain ⟨r1, r2⟩ := r
  simp only at hr
  obtain ⟨K8, h8⟩ := eqIntS_ev r1 (by omega)
  obtain ⟨q, R, p, u, ⟨K9, h9⟩, ⟨K10, h10⟩⟩ := markH_ex r1 (by omega)
  obtain ⟨M, hM⟩ : ∃ M, M = K0 + K1 + K2 + K3 + K4 + K5 + K6 + K7 + K8 + K9 + K10 := ⟨_, rfl⟩
  have A0 := fun j => h0 (M + j) (by omega)
  have A1 := fun j => h1 (M + j) (by omega)
  have A2 := fun j => h2 (M + j) (by omega)
  have A3 := fun j => h3 (M + j) (by omega)
  have A4 := fun j => h4 (M + j) (by omega)
  have A5 := fun j => h5 (M + j) (by omega)
  have A6 := fun j => h6 (M + j) (by omega)
  have A7 := fun j => h7 (M + j) (by omega)
  have A8 := fun j => h8 (M + j) (by omega)
  have A9 := fun j => h9 (M + j) (by omega)
  have A10 := fun j => h10 (M + j) (by omega)
  have gq1 : ¬ q1 < 0 := by omega
  have gq2 : ¬ q2 < 0 := by omega
  have gq : ¬ q < 0 := by omega
  refine ⟨M + 4, ?_⟩
  have hw1 : ¬ 1048576 < (l1.length : Int) := by omega
  have hw2 : ¬ 1048576 < (l2.length : Int) := by omega
  simp [laws_FnExactJoinBaskets.f, laws_FnExactJoinBaskets.j0, laws_FnExactJoinBaskets.j1, laws_FnExactJoinBaskets.j2, hw1, hw2, A0, A1, A2, A3, A4, A5, A6, A7, A8, A9, A10, gq1, gq2, gq]

end Go.Proofs.Ytbfapmckkmmnjaa.Pure
