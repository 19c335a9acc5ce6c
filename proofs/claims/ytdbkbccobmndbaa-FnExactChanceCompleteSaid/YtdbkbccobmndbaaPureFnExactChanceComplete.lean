/- The program's ChanceComplete returns what the reference's returns, for all arguments. No conditions. -/
import Derived.Test.YtdbkbccobmndbaaPFnExactChanceCompletex2
namespace Go.Proofs.Ytdbkbccobmndbaa.Pure
open Go.RowKit Go.Proofs.Ytdbkbccobmndbaa.PFnExactChanceComplete Go.Proofs.YtdbkbccobmndbaaW.PrintWords Go.Proofs.YtdbkbccobmndbaaW.PrintLast

-- MINE

set_option maxRecDepth 100000 in
theorem inside : ∀ n : Fin 21, ∀ m : Fin 41, ∀ c : Fin 22, 1 ≤ n.val → m.val ≤ 2 * n.val → laws_FnExactChanceComplete.f 64 (n.val : Int) (m.val : Int) (c.val : Int) = some true := by decide +kernel

theorem i64_of {n : Int} (h : (Lit.int .i64 n).wf = true) : -9223372036854775808 ≤ n ∧ n ≤ 9223372036854775807 := by
  simp [Lit.wf, IntKind.min, IntKind.max, IntKind.signed, IntKind.bits] at h
  omega

theorem guards {a0 a1 : Int} (h : ¬(1 ≤ a0 ∧ a0 ≤ 20 ∧ 0 ≤ a1 ∧ a1 ≤ 2 * a0)) : spec_laGood.f a0 a1 = some false ∧ impl_areLost.f a0 a1 = some false := by
  have hw : 1 ≤ a0 → a0 ≤ 20 → wrap64 (2 * a0) = 2 * a0 := fun _ _ => by unfold wrap64; omega
  unfold spec_laGood.f impl_areLost.f impl_arePairs.f spec_l1In.f impl_within.f
  by_cases h1 : 1 ≤ a0
  · by_cases h2 : a0 ≤ 20
    · rw [hw h1 h2]
      by_cases h3 : 0 ≤ a1
      · have h4 : ¬ a1 ≤ 2 * a0 := fun h4 => h ⟨h1, h2, h3, h4⟩
        simp [h1, h2, h3, h4]
      · simp [h1, h2, h3]
    · simp [h1, h2]
  · simp [h1]

theorem guards_yes {a0 a1 : Int} (h : 1 ≤ a0 ∧ a0 ≤ 20 ∧ 0 ≤ a1 ∧ a1 ≤ 2 * a0) : spec_laGood.f a0 a1 = some true ∧ impl_areLost.f a0 a1 = some true := by
  obtain ⟨h1, h2, h3, h4⟩ := h
  have hw : wrap64 (2 * a0) = 2 * a0 := by unfold wrap64; omega
  unfold spec_laGood.f impl_areLost.f impl_arePairs.f spec_l1In.f impl_within.f
  rw [hw]
  simp [h1, h2, h3, h4]

theorem below0 {a0 a1 a2 : Int} (k : Nat) (h : 1 ≤ a0 ∧ a0 ≤ 20 ∧ 0 ≤ a1 ∧ a1 ≤ 2 * a0) (h2 : a2 < 0) : spec_CountLosses.f (k + 1) a0 a1 a2 = some (0, false) ∧ impl_CountLosses.f (k + 1) a0 a1 a2 = some (0, false) := by
  obtain ⟨g1, g2⟩ := guards_yes h
  simp [spec_CountLosses.f, spec_CountLosses.j0, impl_CountLosses.f, g1, g2, h2]

theorem above20 {a0 a1 a2 : Int} (k : Nat) (h : 1 ≤ a0 ∧ a0 ≤ 20 ∧ 0 ≤ a1 ∧ a1 ≤ 2 * a0) (h2 : 20 < a2) (h3 : a2 ≤ 9223372036854775807) : spec_CountLosses.f (k + 1) a0 a1 a2 = some (0, true) ∧ impl_CountLosses.f (k + 1) a0 a1 a2 = some (0, true) := by
  obtain ⟨g1, g2⟩ := guards_yes h
  have hw : wrap64 (a0 - a2) < 0 := by unfold wrap64; omega
  have n0 : ¬ a2 < 0 := by omega
  have n1 : a0 < a2 := by omega
  simp [spec_CountLosses.f, spec_CountLosses.j0, impl_CountLosses.f, impl_losses.f, impl_losses.j0, g1, g2, hw, n0, n1]


theorem outside {a0 a1 a2 : Int} (h : 1 ≤ a0 ∧ a0 ≤ 20 ∧ 0 ≤ a1 ∧ a1 ≤ 2 * a0) (hc : ¬ (0 ≤ a2 ∧ a2 ≤ 20)) (w2 : (Lit.int .i64 a2).wf = true) : ∃ k, laws_FnExactChanceComplete.f k a0 a1 a2 = some true := by
  have b2 := i64_of w2
  refine ⟨64, ?_⟩
  by_cases hn : a2 < 0
  · obtain ⟨e1, e2⟩ := below0 63 h hn
    simp only [Nat.reduceAdd] at e1 e2
    simp [laws_FnExactChanceComplete.f, spec_ChanceComplete.f, impl_ChanceComplete.f, e1, e2]
  · obtain ⟨e1, e2⟩ := above20 63 h (show 20 < a2 by omega) b2.2
    obtain ⟨e3, e4⟩ := above20 (a2 := 21) 63 h (by omega) (by omega)
    simp only [Nat.reduceAdd] at e1 e2 e3 e4
    have hin : laws_FnExactChanceComplete.f 64 a0 a1 21 = some true := by
      obtain ⟨h1, h2, h3, h4⟩ := h
      obtain ⟨n, rfl⟩ := Int.eq_ofNat_of_zero_le (show 0 ≤ a0 by omega)
      obtain ⟨m, rfl⟩ := Int.eq_ofNat_of_zero_le h3
      exact inside ⟨n, by omega⟩ ⟨m, by omega⟩ ⟨21, by omega⟩ (by show 1 ≤ n; omega) (by show m ≤ 2 * n; omega)
    simpa [laws_FnExactChanceComplete.f, spec_ChanceComplete.f, impl_ChanceComplete.f, e1, e2, e3, e4] using hin

theorem FnExactChanceComplete : laws_FnExactChanceComplete.Pure := by
  intro a0 a1 a2 w0 w1 w2
  by_cases h : 1 ≤ a0 ∧ a0 ≤ 20 ∧ 0 ≤ a1 ∧ a1 ≤ 2 * a0
  · by_cases hc : 0 ≤ a2 ∧ a2 ≤ 20
    · obtain ⟨h1, h2, h3, h4⟩ := h
      obtain ⟨n, rfl⟩ := Int.eq_ofNat_of_zero_le (show 0 ≤ a0 by omega)
      obtain ⟨m, rfl⟩ := Int.eq_ofNat_of_zero_le h3
      obtain ⟨c, rfl⟩ := Int.eq_ofNat_of_zero_le hc.1
      exact ⟨64, inside ⟨n, by omega⟩ ⟨m, by omega⟩ ⟨c, by omega⟩ (by show 1 ≤ n; omega) (by show m ≤ 2 * n; omega)⟩
    · exact outside h hc w2
  · obtain ⟨g1, g2⟩ := guards h
    exact ⟨1, by simp [laws_FnExactChanceComplete.f, spec_ChanceComplete.f, impl_ChanceComplete.f, spec_CountLosses.f, spec_CountLosses.j0, impl_CountLosses.f, g1, g2]⟩

end Go.Proofs.Ytdbkbccobmndbaa.Pure
