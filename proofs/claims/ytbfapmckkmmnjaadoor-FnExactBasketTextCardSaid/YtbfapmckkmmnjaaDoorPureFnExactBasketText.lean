/- The program's BasketText returns what the reference's returns, for all arguments: the plain part. No conditions. -/
import Derived.Test.YtbfapmckkmmnjaaDoorMA
import Derived.Test.YtbfapmckkmmnjaaDoorXlawsFnExactBasketText
namespace Go.Proofs.YtbfapmckkmmnjaaDoor.Pure
open Go.RowKit Go.Proofs.YtbfapmckkmmnjaaDoor.X Go.Proofs.YtbfapmckkmmnjaaDoorW.PrintWords Go.Proofs.YtbfapmckkmmnjaaDoorW.PrintLast
set_option linter.unusedSimpArgs false
set_option linter.unusedVariables false

theorem FnExactBasketText : laws_FnExactBasketText.Pure := by
  intro l0 m0 y0 v0
  by_cases b0 : 1048576 < l0.length
  · exact ⟨0, by unfold laws_FnExactBasketText.f; rw [if_pos (by omega)]⟩
  obtain ⟨K0, h0⟩ := toIntS_ev l0 (by omega)
  obtain ⟨K1, h1⟩ := eqIntS_ev l0 (by omega)
  obtain ⟨r, ⟨K2, h2⟩, ⟨K3, h3⟩⟩ := BasketText_both l0 (by omega)
  obtain ⟨M, hM⟩ : ∃ M, M = K0 + K1 + K2 + K3 := ⟨_, rfl⟩
  have A0 := fun j => h0 (M + j) (by omega)
  have A1 := fun j => h1 (M + j) (by omega)
  have A2 := fun j => h2 (M + j) (by omega)
  have A3 := fun j => h3 (M + j) (by omega)
  refine ⟨M + 3, ?_⟩
  have hw0 : ¬ 1048576 < (l0.length : Int) := by omega
  simp [laws_FnExactBasketText.f, laws_FnExactBasketText.j0, hw0, A0, A1, A2, A3]

end Go.Proofs.YtbfapmckkmmnjaaDoor.Pure
