/- Plain laws, no program in sight: washings of both, over all numbers in range. -/
import Derived.Test.YtdbkbccobmndbaaHWashings
import Derived.Test.YtdbkbccobmndbaaXspecWashingsAtBest
import Derived.Test.YtdbkbccobmndbaaXspecWashingsAtWorst
namespace Go.Proofs.Ytdbkbccobmndbaa.X
open Go.RowKit Go.Proofs.YtdbkbccobmndbaaW.PrintWords Go.Proofs.YtdbkbccobmndbaaW.PrintLast Go.Proofs.YtdbkbccobmndbaaW.PrintMore

def wchk (f g : Int → Int → Int → Option (Int × Bool)) : Bool := (List.range 21).all fun a => (List.range 21).all fun b => (List.range 41).all fun c => decide (a < b) || decide (a = 0) || decide (c = 0) || decide (f (a : Int) (b : Int) (c : Int) = g (a : Int) (b : Int) (c : Int) ∧ (f (a : Int) (b : Int) (c : Int)).isSome = true)
set_option maxRecDepth 100000 in
theorem wchk_best : wchk (fun a b c => spec_WashingsAtBest.f a b c) (fun a b c => impl_WashingsAtBest.f 45 a b c) = true := by decide +kernel
set_option maxRecDepth 100000 in
theorem wchk_worst : wchk (fun a b c => spec_WashingsAtWorst.f a b c) (fun a b c => impl_WashingsAtWorst.f 45 a b c) = true := by decide +kernel
theorem wchk_of {f g : Int → Int → Int → Option (Int × Bool)} (h : wchk f g = true) {a b c : Int} (ha : 1 ≤ a ∧ a ≤ 20) (hb : 0 ≤ b ∧ b ≤ a) (hc : 1 ≤ c ∧ c ≤ 40) : ∃ r, f a b c = some r ∧ g a b c = some r := by
  obtain ⟨n, rfl⟩ := Int.eq_ofNat_of_zero_le (a := a) (by omega)
  obtain ⟨m, rfl⟩ := Int.eq_ofNat_of_zero_le (a := b) (by omega)
  obtain ⟨q, rfl⟩ := Int.eq_ofNat_of_zero_le (a := c) (by omega)
  unfold wchk at h
  have h1 := List.all_eq_true.1 h n (by simp; omega)
  have h2 := List.all_eq_true.1 h1 m (by simp; omega)
  have h3 := List.all_eq_true.1 h2 q (by simp; omega)
  rw [decide_eq_false (show ¬ n < m by omega), decide_eq_false (show ¬ n = 0 by omega), decide_eq_false (show ¬ q = 0 by omega)] at h3
  simp only [Bool.false_or, decide_eq_true_eq] at h3
  obtain ⟨e, s⟩ := h3
  obtain ⟨r, hr⟩ := Option.isSome_iff_exists.1 s
  exact ⟨r, hr, by rw [← e]; exact hr⟩
theorem l1In_dec (x lo hi : Int) : spec_l1In.f x lo hi = some (decide (lo ≤ x ∧ x ≤ hi)) := by
  unfold spec_l1In.f
  by_cases h : lo ≤ x <;> simp [h]
theorem within_dec (x lo hi : Int) : impl_within.f x lo hi = some (decide (lo ≤ x ∧ x ≤ hi)) := by
  unfold impl_within.f
  by_cases h : lo ≤ x <;> simp [h]
theorem laWash_no {a b c : Int} (h : ¬ ((1 ≤ a ∧ a ≤ 20) ∧ (0 ≤ b ∧ b ≤ a) ∧ (1 ≤ c ∧ c ≤ 40))) : spec_laWash.f a b c = some false := by
  unfold spec_laWash.f
  rw [l1In_dec, l1In_dec, l1In_dec]
  by_cases h1 : 1 ≤ a ∧ a ≤ 20
  · by_cases h2 : 0 ≤ b ∧ b ≤ a
    · by_cases h3 : 1 ≤ c ∧ c ≤ 40
      · exact absurd ⟨h1, h2, h3⟩ h
      · simp only [decide_eq_true h1, decide_eq_true h2, decide_eq_false h3, Option.bind_some, if_true]
    · simp only [decide_eq_true h1, decide_eq_false h2, Option.bind_some, if_true]; rfl
  · simp only [decide_eq_false h1, Option.bind_some]; rfl
theorem wash_no (g : Int → Int → Option (Int × Bool)) (k : Nat) {a b c : Int} (h : ¬ ((1 ≤ a ∧ a ≤ 20) ∧ (0 ≤ b ∧ b ≤ a) ∧ (1 ≤ c ∧ c ≤ 40))) : washF g k a b c = some (0, false) := by
  unfold washF impl_arePairs.f
  rw [within_dec, within_dec, within_dec]
  by_cases h1 : 1 ≤ a ∧ a ≤ 20
  · by_cases h2 : 0 ≤ b ∧ b ≤ a
    · by_cases h3 : 1 ≤ c ∧ c ≤ 40
      · exact absurd ⟨h1, h2, h3⟩ h
      · simp only [decide_eq_true h1, decide_eq_true h2, decide_eq_false h3, Option.bind_some, if_true]; rfl
    · simp only [decide_eq_true h1, decide_eq_false h2, Option.bind_some, if_true]; rfl
  · simp only [decide_eq_false h1, Option.bind_some]; rfl
theorem Best_both (a b c : Int) : ∃ r, spec_WashingsAtBest.f a b c = some r ∧ impl_WashingsAtBest.f 45 a b c = some r := by
  by_cases h : (1 ≤ a ∧ a ≤ 20) ∧ (0 ≤ b ∧ b ≤ a) ∧ (1 ≤ c ∧ c ≤ 40)
  · exact wchk_of wchk_best h.1 h.2.1 h.2.2
  · refine ⟨(0, false), ?_, wash_no _ _ h⟩
    unfold spec_WashingsAtBest.f
    rw [laWash_no h]
    rfl
theorem Worst_both (a b c : Int) : ∃ r, spec_WashingsAtWorst.f a b c = some r ∧ impl_WashingsAtWorst.f 45 a b c = some r := by
  by_cases h : (1 ≤ a ∧ a ≤ 20) ∧ (0 ≤ b ∧ b ≤ a) ∧ (1 ≤ c ∧ c ≤ 40)
  · exact wchk_of wchk_worst h.1 h.2.1 h.2.2
  · refine ⟨(0, false), ?_, wash_no _ _ h⟩
    unfold spec_WashingsAtWorst.f
    rw [laWash_no h]
    rfl
end Go.Proofs.Ytdbkbccobmndbaa.X
