/- The program's IsBasket returns what the reference's returns, for all arguments: the plain part. No conditions. -/
import Derived.Test.YtbfapmckkmmnjaaPlBasket
import Derived.Test.YtbfapmckkmmnjaaXlawsFnExactIsBasket
namespace Go.Proofs.Ytbfapmckkmmnjaa.Pure
open Go.RowKit Go.Proofs.Ytbfapmckkmmnjaa.X Go.Proofs.YtbfapmckkmmnjaaW.PrintWords Go.Proofs.YtbfapmckkmmnjaaW.PrintLast
set_option linter.unusedSimpArgs false
set_option linter.unusedVariables false

theorem FnExactIsBasket : laws_FnExactIsBasket.Pure := by
  intro a0 l1 w0 m1 y1 v1
  by_cases b1 : 1048576 < l1.length
  · exact ⟨0, by unfold laws_FnExactIsBasket.f; rw [if_pos (by omega)]⟩
  obtain ⟨K0, h0⟩ := toIntS_ev l1 (by omega)
  obtain ⟨K1, h1⟩ := eqIntS_ev l1 (by omega)
  obtain ⟨r, ⟨K2, h2⟩, ⟨K3, h3⟩⟩ := IsBasket_both a0 l1 (by omega)
  obtain ⟨M, hM⟩ : ∃ M, M = K0 + K1 + K2 + K3 := ⟨_, rfl⟩
  have A0 := fun j => h0 (M + j) (by omega)
  have A1 := fun j => h1 (M + j) (by omega)
  have A2 := fun j => h2 (M + j) (by omega)
  have A3 := fun j => h3 (M + j) (by omega)
  refine ⟨M + 3, ?_⟩
  have hw1 : ¬ 1048576 < (l1.length : Int) := by omega
  simp [laws_FnExactIsBasket.f, laws_FnExactIsBasket.j0, hw1, A0, A1, A2, A3]

end Go.Proofs.Ytbfapmckkmmnjaa.Pure
