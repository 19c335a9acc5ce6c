/- Plain laws, no program in sight: LeastForChance of both. -/
import Derived.Test.YtnikblimnjpmpaaMB
import Derived.Test.YtnikblimnjpmpaaXimplLeastForChance
import Derived.Test.YtnikblimnjpmpaaXspecLeastForChance
namespace Go.Proofs.Ytnikblimnjpmpaa.X
open Go.RowKit Go.Proofs.YtnikblimnjpmpaaW.PrintWords Go.Proofs.YtnikblimnjpmpaaW.PrintLast Go.Proofs.YtnikblimnjpmpaaW.PrintMore

theorem gcd_div (d : Nat) : ∀ (x y : Int), 0 ≤ x → 0 ≤ y → y ≤ (d : Int) → (0 < x ∨ 0 < y) → ∃ g : Int, 0 < g ∧ g ∣ x ∧ g ∣ y ∧ Ev (fun k => impl_gcd.l0 k x y) g := by
  induction d with
  | zero =>
    intro x y hx hy hd hp
    have e : y = 0 := by omega
    subst e
    refine ⟨x, by omega, Int.dvd_refl x, Int.dvd_zero x, Ev.step (f := fun _ => some x) (fun k => ?_) (Ev.now _)⟩
    simp only [impl_gcd.l0, if_true]
  | succ d ih =>
    intro x y hx hy hd hp
    by_cases h0 : y = 0
    · subst h0
      refine ⟨x, by omega, Int.dvd_refl x, Int.dvd_zero x, Ev.step (f := fun _ => some x) (fun k => ?_) (Ev.now _)⟩
      simp only [impl_gcd.l0, if_true]
    · have hm : Int.tmod x y = x % y := Int.tmod_eq_emod_of_nonneg hx
      have h1 : 0 ≤ x % y := Int.emod_nonneg _ h0
      have h2 : x % y < y := Int.emod_lt_of_pos _ (by omega)
      obtain ⟨g, hg, d1, d2, e1⟩ := ih y (x % y) hy h1 (by omega) (.inl (by omega))
      refine ⟨g, hg, ?_, d1, Ev.step (fun k => ?_) e1⟩
      · have := Int.emod_add_mul_ediv x y
        rw [← this]
        exact Int.dvd_add d2 (Int.dvd_trans d1 (Int.dvd_mul_right y _))
      · simp only [impl_gcd.l0]
        rw [if_neg h0, hm]
theorem frac_full (num den : Int) (h0 : 0 ≤ num) (h1 : 0 < den) (hn : num ≤ 45079976738816) (hd : den ≤ 1099511627776) : ∃ g p q : Int, 0 < g ∧ num = g * p ∧ den = g * q ∧ 0 ≤ p ∧ p ≤ num ∧ 0 ≤ q ∧ q ≤ den ∧ Ev (fun k => impl_fraction.f k num den) (p, q, true) := by
  obtain ⟨g, hg, ⟨p, hp⟩, ⟨q, hq⟩, e1⟩ := gcd_div den.toNat num den h0 (by omega) (by omega) (.inr h1)
  have p0 : 0 ≤ p := by
    by_cases c : 0 ≤ p
    · exact c
    · have := Int.mul_neg_of_pos_of_neg hg (show p < 0 by omega)
      omega
  have q0 : 0 ≤ q := by
    by_cases c : 0 ≤ q
    · exact c
    · have := Int.mul_neg_of_pos_of_neg hg (show q < 0 by omega)
      omega
  have p1 : p ≤ num := by
    have := Int.mul_le_mul_of_nonneg_right (show (1 : Int) ≤ g by omega) p0
    omega
  have q1 : q ≤ den := by
    have := Int.mul_le_mul_of_nonneg_right (show (1 : Int) ≤ g by omega) q0
    omega
  refine ⟨g, p, q, hg, hp, hq, p0, p1, q0, q1, Ev.congr (f := fun k => (impl_gcd.l0 k num den).bind fun t => if t = 0 then none else some (wrap64 (Int.tdiv num t), wrap64 (Int.tdiv den t), true)) (fun k => rfl) (Ev.bind e1 (Ev.congr (f := fun _ => some (p, q, true)) (fun k => ?_) (Ev.now _)))⟩
  rw [if_neg (by omega)]
  have t1 : Int.tdiv num g = p := by rw [hp]; exact Int.mul_tdiv_cancel_left _ (by omega)
  have t2 : Int.tdiv den g = q := by rw [hq]; exact Int.mul_tdiv_cancel_left _ (by omega)
  rw [t1, t2, w64 (by omega) (by omega), w64 (by omega) (by omega)]
theorem mul_small {a b A B : Int} (h0 : 0 ≤ a) (h1 : a ≤ A) (h2 : 0 ≤ b) (h3 : b ≤ B) : 0 ≤ a * b ∧ a * b ≤ A * B :=
  ⟨Int.mul_nonneg h0 h2, Int.mul_le_mul h1 h3 h2 (Int.le_trans h0 h1)⟩
theorem cond_same {num den g p q a2 a3 : Int} (hg : 0 < g) (hp : num = g * p) (hq : den = g * q) (p0 : 0 ≤ p) (p1 : p ≤ num) (q0 : 0 ≤ q) (q1 : q ≤ den) (hn : num ≤ 45079976738816) (hd : den ≤ 1099511627776) (h2 : 0 ≤ a2) (h23 : a2 ≤ a3) (h3 : a3 ≤ 1000) :
    (wrap64 (p * a3) ≥ wrap64 (a2 * q)) ↔ (wrap64 (num * a3) ≥ wrap64 (a2 * den)) := by
  have b1 := mul_small (A := 45079976738816) (B := 1000) p0 (by omega) (show 0 ≤ a3 by omega) h3
  have b2 := mul_small (A := 1000) (B := 1099511627776) h2 (by omega) q0 (by omega)
  have b3 := mul_small (A := 45079976738816) (B := 1000) (a := num) (by omega) hn (show 0 ≤ a3 by omega) h3
  have b4 := mul_small (A := 1000) (B := 1099511627776) (b := den) h2 (by omega) (by omega) hd
  have e1 : num * a3 = g * (p * a3) := by rw [hp, Int.mul_assoc]
  have e2 : a2 * den = g * (a2 * q) := by rw [hq, ← Int.mul_assoc, ← Int.mul_assoc, Int.mul_comm a2 g]
  have key : (g * (p * a3) ≥ g * (a2 * q)) ↔ (p * a3 ≥ a2 * q) := Int.mul_le_mul_left hg
  rw [← e1, ← e2] at key
  generalize p * a3 = w at *
  generalize a2 * q = x at *
  generalize num * a3 = y at *
  generalize a2 * den = z at *
  rw [w64 (x := w) (by omega) (by omega), w64 (x := x) (by omega) (by omega), w64 (x := y) (by omega) (by omega), w64 (x := z) (by omega) (by omega)]
  exact key.symm
theorem asked_few {l : List Int} (hf : few l = true) {K : Nat} (h : (K : Int) ≤ totI l) : asked l (K : Int) = true := by
  unfold asked
  rw [hf]
  simp [inB, h]
theorem lf_loop {l : List Int} (hl : l.length ≤ 1048576) (hf : few l = true) {S : Nat} (hS : totI l = (S : Int)) (hS40 : S ≤ 40) (etot : Ev (fun k => spec_soSum.f k l) (S : Int)) (C : Nat) {a2 a3 : Int} (h2 : 0 ≤ a2) (h23 : a2 ≤ a3) (h3 : a3 ≤ 1000) (d : Nat) : ∀ K : Nat, K + d = S + 1 →
    ∃ r, Ev (fun k => spec_LeastForChance.l0 k l (C : Int) a2 a3 (K : Int)) r ∧ Ev (fun k => impl_LeastForChance.l0 k l (C : Int) a2 a3 ((S + 1 : Nat) : Int) (K : Int)) r := by
  induction d with
  | zero =>
    intro K hK
    refine ⟨(0, false), Ev.step (f := fun k => (spec_soSum.f k l).bind fun t351 => (if (K : Int) ≤ t351 then ((spec_chTable.f k l (K : Int) 112).bind fun t352 => ((spec_chMore.f k t352 (C : Int)).bind fun t355 => ((spec_soSum.f k l).bind fun t356 => ((spec_chChoose.f k t356 (K : Int)).bind fun t357 => (if (wrap64 (t355 * a3)) ≥ (wrap64 (a2 * t357)) then (some ((K : Int), true)) else (spec_LeastForChance.l0 k l (C : Int) a2 a3 (wrap64 ((K : Int) + 1)))))))) else (some (0, false)))) (fun k => by simp only [spec_LeastForChance.l0]) (Ev.bind etot (Ev.congr (f := fun _ => some (0, false)) (fun k => by rw [if_neg (by omega)]) (Ev.now _))), Ev.step (f := fun _ => some (0, false)) (fun k => ?_) (Ev.now _)⟩
    simp only [impl_LeastForChance.l0]
    rw [if_neg (by omega)]
  | succ d ih =>
    intro K hK
    have hKS1 : (K : Int) ≤ (S : Int) := by omega
    have hKS2 : (K : Int) < ((S + 1 : Nat) : Int) := by omega
    have hw : wrap64 ((K : Int) + 1) = ((K + 1 : Nat) : Int) := by unfold wrap64; omega
    have hak := asked_few hf (K := K) (by omega)
    obtain ⟨e1, _⟩ := asked_ev l (K : Int) hl
    rw [hak] at e1
    obtain ⟨ns, K', hA⟩ := asked_is hak
    obtain rfl : K' = K := by have := hA.ha; omega
    obtain ⟨tab, t1, t2, t3⟩ := tab_is hA
    obtain ⟨d1, d2, d3, d4⟩ := den_is hA
    have hsame : ((sumL ns : Nat) : Int) = (S : Int) := by
      have := (few_ns hf)
      rw [← hS, hA.hl, totI_toI]
    have hb := addF_bd hA (fun p => decide (p ≥ (C : Int)))
    obtain ⟨g, p, q, hg, hp, hq, p0, p1, q0, q1, ef⟩ := frac_full _ _ hb.1 d3 hb.2 d4
    have hcond := cond_same hg hp hq p0 p1 q0 q1 hb.2 d4 h2 h23 h3
    have eim : Ev (fun k => impl_ChanceAtLeast.f k l (K' : Int) (C : Int)) (p, q, true) := chanceF_ev hA e1 _ (by omega) ef
    have emore := chMore_ev hA t1 t2 C
    have espec : ∀ r, Ev (fun k => if wrap64 (addF (fun p => decide (p ≥ (C : Int))) ns K' * a3) ≥ wrap64 (a2 * wB (sumL ns) K') then some ((K' : Int), true) else spec_LeastForChance.l0 k l (C : Int) a2 a3 ((K' + 1 : Nat) : Int)) r → Ev (fun k => spec_LeastForChance.l0 k l (C : Int) a2 a3 (K' : Int)) r := fun r hr =>
      Ev.step (f := fun k => (spec_soSum.f k l).bind fun t351 => (if (K' : Int) ≤ t351 then ((spec_chTable.f k l (K' : Int) 112).bind fun t352 => ((spec_chMore.f k t352 (C : Int)).bind fun t355 => ((spec_soSum.f k l).bind fun t356 => ((spec_chChoose.f k t356 (K' : Int)).bind fun t357 => (if (wrap64 (t355 * a3)) ≥ (wrap64 (a2 * t357)) then (some ((K' : Int), true)) else (spec_LeastForChance.l0 k l (C : Int) a2 a3 (wrap64 ((K' : Int) + 1)))))))) else (some (0, false)))) (fun k => by simp only [spec_LeastForChance.l0])
        (Ev.bind etot (Ev.congr (f := fun k => (spec_chTable.f k l (K' : Int) 112).bind fun t352 => ((spec_chMore.f k t352 (C : Int)).bind fun t355 => ((spec_soSum.f k l).bind fun t356 => ((spec_chChoose.f k t356 (K' : Int)).bind fun t357 => (if (wrap64 (t355 * a3)) ≥ (wrap64 (a2 * t357)) then (some ((K' : Int), true)) else (spec_LeastForChance.l0 k l (C : Int) a2 a3 (wrap64 ((K' : Int) + 1)))))))) (fun k => by rw [if_pos hKS1]) (Ev.bind t3 (Ev.bind emore (Ev.bind hA.sum (Ev.bind d2 (by rw [hw]; exact hr)))))))
    have eimpl : ∀ r, Ev (fun k => if wrap64 (p * a3) ≥ wrap64 (a2 * q) then some ((K' : Int), true) else impl_LeastForChance.l0 k l (C : Int) a2 a3 ((S + 1 : Nat) : Int) ((K' + 1 : Nat) : Int)) r → Ev (fun k => impl_LeastForChance.l0 k l (C : Int) a2 a3 ((S + 1 : Nat) : Int) (K' : Int)) r := fun r hr =>
      Ev.step (f := fun k => (impl_ChanceAtLeast.f k l (K' : Int) (C : Int)).bind fun b => (if (wrap64 (b.1 * a3)) ≥ (wrap64 (a2 * b.2.1)) then (some ((K' : Int), true)) else (impl_LeastForChance.l0 k l (C : Int) a2 a3 ((S + 1 : Nat) : Int) (wrap64 ((K' : Int) + 1))))) (fun k => by simp only [impl_LeastForChance.l0]; rw [if_pos hKS2]) (Ev.bind eim (by rw [hw]; exact hr))
    by_cases c : wrap64 (p * a3) ≥ wrap64 (a2 * q)
    · refine ⟨((K' : Int), true), espec _ (Ev.congr (f := fun _ => some ((K' : Int), true)) (fun k => ?_) (Ev.now _)), eimpl _ (Ev.congr (f := fun _ => some ((K' : Int), true)) (fun k => ?_) (Ev.now _))⟩
      · rw [if_pos (hcond.1 c)]
      · rw [if_pos c]
    · obtain ⟨r, r1, r2⟩ := ih (K' + 1) (by omega)
      refine ⟨r, espec _ (Ev.congr (fun k => ?_) r1), eimpl _ (Ev.congr (fun k => ?_) r2)⟩
      · rw [if_neg (fun h => c (hcond.2 h))]
      · rw [if_neg c]
theorem LeastForChance_both (l : List Int) (a1 a2 a3 : Int) (hn : l.length ≤ 1048576) : ∃ r, Ev (fun k => spec_LeastForChance.f k l a1 a2 a3) r ∧ Ev (fun k => impl_LeastForChance.f k l a1 a2 a3) r := by
  obtain ⟨e1, e2⟩ := few_ev l hn
  have no1 : Ev (fun k => spec_LeastForChance.j0 k l a1 a2 a3 true) (0, false) := Ev.step (f := fun _ => some (0, false)) (fun k => by simp [spec_LeastForChance.j0]) (Ev.now _)
  have no2 : Ev (fun k => impl_LeastForChance.j0 k l a1 a2 a3 true) (0, false) := Ev.step (f := fun _ => some (0, false)) (fun k => by simp [impl_LeastForChance.j0]) (Ev.now _)
  cases h : few l with
  | false =>
    rw [h] at e1 e2
    exact ⟨(0, false), Ev.bind e2 (Ev.congr (fun k => by rw [if_neg (by decide)]) no1), Ev.bind e1 (Ev.congr (fun k => by rw [if_neg (by decide)]) no2)⟩
  | true =>
    rw [h] at e1 e2
    by_cases hneg : a1 < 0
    · exact ⟨(0, false), Ev.bind e2 (Ev.congr (fun k => by rw [if_pos rfl, if_pos hneg]) no1), Ev.bind e1 (Ev.congr (fun k => by rw [if_pos rfl, if_pos hneg]) no2)⟩
    · cases h3 : inB 1 1000 a3 with
      | false =>
        exact ⟨(0, false), Ev.bind e2 (Ev.congr (fun k => by rw [if_pos rfl, if_neg hneg, l1In_inB, h3]; simp only [Option.bind_some]; rw [if_neg (by decide)]) no1), Ev.bind e1 (Ev.congr (fun k => by rw [if_pos rfl, if_neg hneg, within_inB, h3]; simp only [Option.bind_some]; rw [if_neg (by decide)]) no2)⟩
      | true =>
        cases h2 : inB 0 a3 a2 with
        | false =>
          exact ⟨(0, false), Ev.bind e2 (Ev.congr (fun k => by rw [if_pos rfl, if_neg hneg, l1In_inB, h3]; simp only [Option.bind_some]; rw [if_pos trivial, l1In_inB, h2]; rfl) no1), Ev.bind e1 (Ev.congr (fun k => by rw [if_pos rfl, if_neg hneg, within_inB, h3]; simp only [Option.bind_some]; rw [if_pos trivial, within_inB, h2]; rfl) no2)⟩
        | true =>
          obtain ⟨C, rfl⟩ := Int.eq_ofNat_of_zero_le (show 0 ≤ a1 by omega)
          obtain ⟨_, f2, f3, _, _⟩ := few_of h
          have etot := total_ev f2 f3
          have esum := soSum_ev f2 f3
          obtain ⟨ns, hl, _, _, _, _, hs40, ht⟩ := few_ns h
          rw [ht] at etot esum
          have b3 := h3
          have b2 := h2
          simp [inB] at b3 b2
          obtain ⟨r, r1, r2⟩ := lf_loop hn h ht hs40 esum C b2.1 b2.2 b3.2 (sumL ns + 1) 0 (by omega)
          have hw : wrap64 (((sumL ns : Nat) : Int) + 1) = ((sumL ns + 1 : Nat) : Int) := by unfold wrap64; omega
          refine ⟨r, Ev.bind e2 (Ev.congr (f := fun k => spec_LeastForChance.j0 k l (C : Int) a2 a3 false) (fun k => by rw [if_pos rfl, if_neg hneg, l1In_inB, h3]; simp only [Option.bind_some]; rw [if_pos trivial, l1In_inB, h2]; rfl) (Ev.step (fun k => by simp only [spec_LeastForChance.j0]; rw [if_neg (by decide)]; rfl) r1)), Ev.bind e1 (Ev.congr (f := fun k => impl_LeastForChance.j0 k l (C : Int) a2 a3 false) (fun k => by rw [if_pos rfl, if_neg hneg, within_inB, h3]; simp only [Option.bind_some]; rw [if_pos trivial, within_inB, h2]; rfl) (Ev.step (f := fun k => (impl_total.f k l).bind fun t => impl_LeastForChance.l0 k l (C : Int) a2 a3 (wrap64 (t + 1)) 0) (fun k => by simp only [impl_LeastForChance.j0]; rw [if_neg (by decide)]) (Ev.bind etot (by rw [hw]; exact r2))))⟩
end Go.Proofs.Ytnikblimnjpmpaa.X
