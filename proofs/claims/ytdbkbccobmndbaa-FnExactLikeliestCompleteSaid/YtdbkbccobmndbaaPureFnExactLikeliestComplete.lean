/- The program's LikeliestComplete returns what the reference's returns, for all arguments. No conditions. -/
import Derived.Test.YtdbkbccobmndbaaPFnExactLikeliestCompletex2
namespace Go.Proofs.Ytdbkbccobmndbaa.Pure
open Go.RowKit Go.Proofs.Ytdbkbccobmndbaa.PFnExactLikeliestComplete Go.Proofs.YtdbkbccobmndbaaW.PrintWords Go.Proofs.YtdbkbccobmndbaaW.PrintLast

-- MINE

set_option maxRecDepth 100000 in
theorem inside : ∀ n : Fin 21, ∀ m : Fin 41, 1 ≤ n.val → m.val ≤ 2 * n.val → laws_FnExactLikeliestComplete.f 64 (n.val : Int) (m.val : Int) = some true := by decide +kernel

theorem guards {a0 a1 : Int} (h : ¬(1 ≤ a0 ∧ a0 ≤ 20 ∧ 0 ≤ a1 ∧ a1 ≤ 2 * a0)) : spec_laGood.f a0 a1 = some false ∧ impl_areLost.f a0 a1 = some false := by
  have hw : 1 ≤ a0 → a0 ≤ 20 → wrap64 (2 * a0) = 2 * a0 := fun _ _ => by unfold wrap64; omega
  unfold spec_laGood.f impl_areLost.f impl_arePairs.f spec_l1In.f impl_within.f
  by_cases h1 : 1 ≤ a0
  · by_cases h2 : a0 ≤ 20
    · rw [hw h1 h2]
      by_cases h3 : 0 ≤ a1
      · have h4 : ¬ a1 ≤ 2 * a0 := fun h4 => h ⟨h1, h2, h3, h4⟩
        simp [h1, h2, h3, h4]
      · simp [h1, h2, h3]
    · simp [h1, h2]
  · simp [h1]

theorem FnExactLikeliestComplete : laws_FnExactLikeliestComplete.Pure := by
  intro a0 a1 w0 w1
  by_cases h : 1 ≤ a0 ∧ a0 ≤ 20 ∧ 0 ≤ a1 ∧ a1 ≤ 2 * a0
  · obtain ⟨h1, h2, h3, h4⟩ := h
    obtain ⟨n, rfl⟩ := Int.eq_ofNat_of_zero_le (show 0 ≤ a0 by omega)
    obtain ⟨m, rfl⟩ := Int.eq_ofNat_of_zero_le h3
    exact ⟨64, inside ⟨n, by omega⟩ ⟨m, by omega⟩ (by show 1 ≤ n; omega) (by show m ≤ 2 * n; omega)⟩
  · obtain ⟨g1, g2⟩ := guards h
    exact ⟨1, by simp [laws_FnExactLikeliestComplete.f, spec_LikeliestComplete.f, impl_LikeliestComplete.f, g1, g2]⟩

end Go.Proofs.Ytdbkbccobmndbaa.Pure
