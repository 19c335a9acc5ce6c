/- Plain laws, no program in sight: the reference's test of drawers is the program's; sums of weights; fractions. -/
import Derived.Test.YtenbnempjgbibaaPlDr
import Derived.Test.YtenbnempjgbibaaHAreDrawers
import Derived.Test.YtenbnempjgbibaaXspecdwGood
namespace Go.Proofs.Ytenbnempjgbibaa.X
open Go.RowKit Go.Proofs.YtenbnempjgbibaaW.PrintWords Go.Proofs.YtenbnempjgbibaaW.PrintLast Go.Proofs.YtenbnempjgbibaaW.PrintMore

theorem l1In_inB (x lo hi : Int) : spec_l1In.f x lo hi = some (inB lo hi x) := by
  unfold spec_l1In.f inB
  by_cases h : lo ≤ x <;> simp [h]
theorem dwAll_loop (l : List S47) (hn : l.length ≤ 1048576) (ho : okW l) (d : Nat) : ∀ (i : Nat) (acc : Int), i + d = l.length → 0 ≤ acc → acc ≤ 50 * (i : Int) →
    Ev (fun k => spec_dwAll.l0 k acc l (l.length : Int) (i : Int)) (acc + sumW (l.drop i)) := by
  induction d with
  | zero =>
    intro i acc hi h0 h1
    refine Ev.step (f := fun _ => some acc) (fun k => ?_) ?_
    · simp only [spec_dwAll.l0]
      rw [if_neg (by omega)]
    · rw [List.drop_of_length_le (by omega)]
      simpa [sumW] using Ev.now acc
  | succ d ih =>
    intro i acc hi h0 h1
    have hlt : i < l.length := by omega
    have hb := ho _ (rd_mem hlt)
    rw [drop_rd hlt]
    have := ih (i + 1) (acc + (rd_T47 l (i : Int)).f0) (by omega) (by omega) (by omega)
    refine Ev.step (f := fun k => spec_dwAll.l0 k (acc + (rd_T47 l (i : Int)).f0) l (l.length : Int) ((i + 1 : Nat) : Int)) (fun k => ?_) (by simpa [sumW, Int.add_assoc] using this)
    simp only [spec_dwAll.l0]
    rw [if_pos (by omega), if_pos (by omega), if_pos (by omega), w64d (by omega) (by omega), w64ds hlt (by omega)]
theorem dwAll_ev (l : List S47) (hn : l.length ≤ 1048576) (ho : okW l) : Ev (fun k => spec_dwAll.f k l) (sumW l) := by
  have := dwAll_loop l hn ho l.length 0 0 (by omega) (by omega) (by omega)
  simpa [spec_dwAll.f] using this
theorem weights_ev (l : List S47) (hn : l.length ≤ 1048576) (ho : okW l) : Ev (fun k => impl_weights.f k l) (sumW l) := Ev.of (impl_weights.mono l) (weights_is l hn ho)

theorem dwGood_loop (l : List S47) (hn : l.length ≤ 8) (d : Nat) : ∀ (i : Nat), i + d = l.length → (∀ j, j < i → goodD (rd_T47 l (j : Nat)) = true) →
    Ev (fun k => spec_dwGood.l0 k l l (l.length : Int) (i : Int)) (l.all goodD && decide (0 < sumW l)) := by
  induction d with
  | zero =>
    intro i hi hp
    have e : i = l.length := by omega
    have ha := all_pre l (fun j hj => hp j (by omega))
    rw [ha, Bool.true_and]
    refine Ev.step (f := fun k => (spec_dwAll.f k l).bind fun t104 => (some (decide (t104 > 0)))) (fun k => ?_) (Ev.bind (dwAll_ev l (by omega) (okW_of ha)) (Ev.now _))
    simp only [spec_dwGood.l0]
    rw [if_neg (by omega)]
  | succ d ih =>
    intro i hi hp
    have hlt : i < l.length := by omega
    cases hg : goodD (rd_T47 l (i : Nat)) with
    | true =>
      have hg' := hg
      simp only [goodD, Bool.and_eq_true] at hg'
      refine Ev.step (f := fun k => spec_dwGood.l0 k l l (l.length : Int) ((i + 1 : Nat) : Int)) (fun k => ?_) (ih (i + 1) (by omega) (fun j hj => ?_))
      · simp only [spec_dwGood.l0, l1In_inB, Option.bind_some]
        rw [if_pos (by omega), if_pos (by omega), if_pos (by omega), if_pos hg'.1, if_pos hg'.2, w64ds hlt (by omega)]
      · by_cases e : j = i
        · subst e
          exact hg
        · exact hp j (by omega)
    | false =>
      rw [all_bad l i hlt hg, Bool.false_and]
      refine Ev.step (f := fun _ => some false) (fun k => ?_) (Ev.now _)
      simp only [spec_dwGood.l0, l1In_inB, Option.bind_some]
      rw [if_pos (by omega), if_pos (by omega), if_pos (by omega)]
      by_cases h1 : inB 0 50 (rd_T47 l (i : Nat)).f0 = true
      · have h2 : inB 1 60 (rd_T47 l (i : Nat)).f1 = false := by simpa [goodD, h1] using hg
        rw [if_pos h1, if_neg (by rw [h2]; decide)]
      · rw [if_neg h1]
theorem dwGood_ev (l : List S47) : Ev (fun k => spec_dwGood.f k l) (areDr l) := by
  unfold areDr
  cases hq : inB 1 8 (l.length : Int) with
  | false =>
    refine Ev.congr (f := fun _ => some false) (fun k => ?_) (Ev.now _)
    simp only [spec_dwGood.f, l1In_inB, Option.bind_some]
    rw [if_neg (by rw [hq]; decide)]
  | true =>
    have hl : l.length ≤ 8 := by simp [inB] at hq; omega
    rw [Bool.true_and]
    refine Ev.congr (f := fun k => spec_dwGood.l0 k l l (l.length : Int) ((0 : Nat) : Int)) (fun k => ?_) (dwGood_loop l hl l.length 0 (by omega) (fun j hj => absurd hj (by omega)))
    simp only [spec_dwGood.f, l1In_inB, Option.bind_some]
    rw [if_pos hq]
    rfl

theorem areDr_len {l : List S47} (h : areDr l = true) : 1 ≤ l.length ∧ l.length ≤ 8 := by
  unfold areDr at h
  simp [inB] at h
  omega
theorem areDr_good {l : List S47} (h : areDr l = true) : l.all goodD = true := by
  unfold areDr at h
  simp only [Bool.and_eq_true] at h
  exact h.2.1
theorem areDr_pos {l : List S47} (h : areDr l = true) : 0 < sumW l := by
  unfold areDr at h
  simp only [Bool.and_eq_true, decide_eq_true_eq] at h
  exact h.2.2
theorem sumW_le {l : List S47} (h : okW l) : 0 ≤ sumW l ∧ sumW l ≤ 50 * (l.length : Int) := by
  induction l with
  | nil => simp [sumW]
  | cons x t ih =>
    have h1 := h x List.mem_cons_self
    have h2 := ih (fun y hy => h y (List.mem_cons_of_mem _ hy))
    simp only [sumW, List.foldr_cons, List.length_cons] at *
    omega

end Go.Proofs.Ytenbnempjgbibaa.X
