/- Plain laws, no program in sight: what a list of counts leaves, both. -/
import Derived.Test.YtbfapmckkmmnjaaPlTimes
import Derived.Test.YtbfapmckkmmnjaaXspecBasketAfter
import Derived.Test.YtbfapmckkmmnjaaHBasketAfter
namespace Go.Proofs.Ytbfapmckkmmnjaa.X
open Go.RowKit Go.Proofs.YtbfapmckkmmnjaaW.PrintWords Go.Proofs.YtbfapmckkmmnjaaW.PrintLast Go.Proofs.YtbfapmckkmmnjaaW.PrintMore

theorem left_spec_in (c : List Int) (i : Int) (n q : Int) (r : List Int) : ∀ (m : Nat) (o : List Int), m ≤ 100 → o.length + m ≤ 1000 → Ev (fun k => spec_laLeft.l0 k (o ++ List.replicate m i) c n (wrap64 (q + 1))) r → Ev (fun k => spec_laLeft.l1 k o i (m : Int) c n q) r := by
  intro m
  induction m with
  | zero =>
    intro o _ ho h
    refine Ev.step (fun k => ?_) h
    simp only [spec_laLeft.l1]
    rw [if_neg (by omega)]
    simp
  | succ m ih =>
    intro o hm ho h
    refine Ev.step (fun k => ?_) (ih (o ++ [i]) (by omega) (by simp; omega) (by rw [List.append_assoc]; exact h))
    simp only [spec_laLeft.l1]
    rw [if_pos (by omega), if_pos (by omega), w64 (by omega) (by omega)]
    congr 1
    omega
theorem left_impl_in (c : List Int) (i : Int) (n q : Int) (m : Nat) (r : List Int) (hm : m ≤ 100) : ∀ (d j : Nat) (o : List Int), j + d = m → o.length + d ≤ 1000 → Ev (fun k => impl_basketOf.l0 k (o ++ List.replicate d i) c n (wrap64 (q + 1))) r → Ev (fun k => impl_basketOf.l1 k o i c n q (m : Int) (j : Int)) r := by
  intro d
  induction d with
  | zero =>
    intro j o hj ho h
    refine Ev.step (fun k => ?_) h
    simp only [impl_basketOf.l1]
    rw [if_neg (by omega)]
    simp
  | succ d ih =>
    intro j o hj ho h
    refine Ev.step (fun k => ?_) (ih (j + 1) (o ++ [i]) (by omega) (by simp; omega) (by rw [List.append_assoc]; exact h))
    simp only [impl_basketOf.l1]
    rw [if_pos (by omega), if_pos (by omega), w64s (n := m) (by omega) (by omega)]
theorem left_both (c : List Int) (hc : c.length ≤ 20) (hv : ∀ v ∈ c, 0 ≤ v ∧ v ≤ 2) (d : Nat) : ∀ (i : Nat) (o : List Int), i + d = c.length → o.length ≤ 2 * i → ∃ r : List Int, r.length ≤ 40 ∧ Ev (fun k => spec_laLeft.l0 k o c (c.length : Int) (i : Int)) r ∧ Ev (fun k => impl_basketOf.l0 k o c (c.length : Int) (i : Int)) r := by
  induction d with
  | zero =>
    intro i o hi ho
    refine ⟨o, by omega, Ev.step (f := fun _ => some o) (fun k => ?_) (Ev.now _), Ev.step (f := fun _ => some o) (fun k => ?_) (Ev.now _)⟩
    · simp only [spec_laLeft.l0]
      rw [if_neg (by omega)]
    · simp only [impl_basketOf.l0]
      rw [if_neg (by omega)]
  | succ d ih =>
    intro i o hi ho
    have hlt : i < c.length := by omega
    have hm : rd c (i : Int) ∈ c := by rw [rd_get hlt]; exact List.getElem_mem hlt
    obtain ⟨h0, h2⟩ := hv _ hm
    obtain ⟨m, hq⟩ := Int.eq_ofNat_of_zero_le h0
    rw [hq] at h2
    obtain ⟨r, hr, e1, e2⟩ := ih (i + 1) (o ++ List.replicate m (i : Int)) (by omega) (by simp; omega)
    have w1 : wrap64 ((i : Int) + 1) = ((i + 1 : Nat) : Int) := w64s hlt (by omega)
    refine ⟨r, hr, Ev.step (fun k => ?_) (left_spec_in c (i : Int) (c.length : Int) (i : Int) r m o (by omega) (by omega) (by rw [w1]; exact e1)), Ev.step (fun k => ?_) (left_impl_in c (i : Int) (c.length : Int) (i : Int) m r (by omega) m 0 o (by omega) (by omega) (by rw [w1]; exact e2))⟩
    · simp only [spec_laLeft.l0]
      rw [if_pos (by omega), if_pos (by omega), if_pos (by omega), hq]
    · simp only [impl_basketOf.l0]
      rw [if_pos (by omega), if_pos (by omega), if_pos (by omega), hq]
      rfl
theorem leftAll_both (c : List Int) (hc : c.length ≤ 20) (hv : ∀ v ∈ c, 0 ≤ v ∧ v ≤ 2) : ∃ r : List Int, r.length ≤ 40 ∧ Ev (fun k => spec_laLeft.f k c) r ∧ Ev (fun k => impl_basketOf.f k c) r :=
  left_both c hc hv c.length 0 [] (by omega) (by simp)
theorem cntL_two {n : Nat} {l : List Int} (h : okT n l = true) : ∀ v ∈ cntL n l, 0 ≤ v ∧ v ≤ 2 := by
  intro v hv
  unfold cntL at hv
  simp only [List.mem_map, List.mem_range] at hv
  obtain ⟨j, hj, rfl⟩ := hv
  unfold okT at h
  simp only [Bool.and_eq_true, List.all_eq_true, List.mem_range, decide_eq_true_eq] at h
  have := h.2 j hj
  omega

def away (c : List Int) : List Int := c.map fun v => 2 - v
theorem after_spec (c : List Int) (hc : c.length ≤ 20) (hv : ∀ v ∈ c, 0 ≤ v ∧ v ≤ 2) (r : List Int) (hr : Ev (fun k => spec_laLeft.f k (away c)) r) (d : Nat) : ∀ (i : Nat), i + d = c.length → Ev (fun k => spec_BasketAfter.l0 k (away (c.take i)) c (c.length : Int) (i : Int)) (r, true) := by
  induction d with
  | zero =>
    intro i hi
    rw [List.take_of_length_le (by omega)]
    refine Ev.step (f := fun k => (spec_laLeft.f k (away c)).bind fun t => some (t, true)) (fun k => ?_) (Ev.bind hr (Ev.now _))
    simp only [spec_BasketAfter.l0]
    rw [if_neg (by omega)]
  | succ d ih =>
    intro i hi
    have hlt : i < c.length := by omega
    have hm : rd c (i : Int) ∈ c := by rw [rd_get hlt]; exact List.getElem_mem hlt
    have h2 := hv _ hm
    have hs := ih (i + 1) (by omega)
    rw [take_rd hlt, show away (c.take i ++ [rd c (i : Int)]) = away (c.take i) ++ [2 - rd c (i : Int)] by simp [away]] at hs
    refine Ev.step (fun k => ?_) hs
    simp only [spec_BasketAfter.l0]
    rw [if_pos (by omega), if_pos (by omega), if_pos (by omega), if_pos (by simp [away]; omega), w64 (x := 2 - rd c (i : Int)) (by omega) (by omega), w64s hlt (by omega)]
theorem after_impl (c : List Int) (hc : c.length ≤ 20) (hv : ∀ v ∈ c, 0 ≤ v ∧ v ≤ 2) (r : List Int) (hr : Ev (fun k => impl_basketOf.f k (away c)) r) (d : Nat) : ∀ (i : Nat), i + d = c.length → Ev (fun k => impl_BasketAfter.l0 k (away (c.take i) ++ c.drop i) (i : Int)) (r, true) := by
  induction d with
  | zero =>
    intro i hi
    rw [List.take_of_length_le (by omega), List.drop_of_length_le (by omega), List.append_nil]
    refine Ev.step (f := fun k => (impl_basketOf.f k (away c)).bind fun t => some (t, true)) (fun k => ?_) (Ev.bind hr (Ev.now _))
    simp only [impl_BasketAfter.l0]
    rw [if_neg (by simp [away]; omega)]
  | succ d ih =>
    intro i hi
    have hlt : i < c.length := by omega
    have hm : rd c (i : Int) ∈ c := by rw [rd_get hlt]; exact List.getElem_mem hlt
    have h2 := hv _ hm
    have hs := ih (i + 1) (by omega)
    have hl : (away (c.take i)).length = i := by simp [away]; omega
    have e0 : away (c.take i) ++ c.drop i = away (c.take i) ++ rd c (i : Int) :: c.drop (i + 1) := by rw [List.drop_eq_getElem_cons hlt, rd_get hlt]
    have e1 : rd (away (c.take i) ++ rd c (i : Int) :: c.drop (i + 1)) (i : Int) = rd c (i : Int) := by
      rw [show rd (away (c.take i) ++ rd c (i : Int) :: c.drop (i + 1)) (i : Int) = (away (c.take i) ++ rd c (i : Int) :: c.drop (i + 1)).getD i 0 from rfl, List.getD_eq_getElem?_getD, List.getElem?_append_right (by omega), hl]
      simp
    have e2 : (away (c.take i) ++ rd c (i : Int) :: c.drop (i + 1)).set i (2 - rd c (i : Int)) = away (c.take (i + 1)) ++ c.drop (i + 1) := by
      rw [List.set_append_right _ _ (by omega), hl, take_rd hlt]
      simp [away]
    rw [e0]
    rw [← e2] at hs
    refine Ev.step (fun k => ?_) hs
    simp only [impl_BasketAfter.l0]
    rw [if_pos (by simp [away]; omega), if_pos (by omega), e1, w64 (x := 2 - rd c (i : Int)) (by omega) (by omega), w64s hlt (by omega)]
    rfl
theorem BasketAfter_both (a : Int) (l : List Int) (hn : l.length ≤ 1048576) : ∃ r : List Int × Bool, r.1.length ≤ 40 ∧ Ev (fun k => spec_BasketAfter.f k a l) r ∧ Ev (fun k => impl_BasketAfter.f k a l) r := by
  cases hq : inB 1 20 a with
  | false =>
    refine ⟨([], false), by simp, Ev.congr (f := fun _ => some ([], false)) (fun k => ?_) (Ev.now _), Ev.congr (f := fun _ => some ([], false)) (fun k => ?_) (Ev.now _)⟩
    · simp [spec_BasketAfter.f, l1In_inB, hq]
    · simp [impl_BasketAfter.f, impl_arePairs.f, within_inB, hq]
  | true =>
    have hx := hq
    simp [inB] at hx
    obtain ⟨n, rfl⟩ := Int.eq_ofNat_of_zero_le (a := a) (by omega)
    have hc : Ev (fun k => spec_laCounts.f k (n : Int) l) (timesR n l) := counts_ev n (by omega) l (by omega)
    have ht := times_ev n (by omega) l (by omega)
    have e1 : ∀ k, spec_BasketAfter.f k (n : Int) l = (spec_laCounts.f k (n : Int) l).bind fun b => if b.2 = true then spec_BasketAfter.l0 k [] b.1 (b.1.length : Int) 0 else some ([], false) := fun k => by simp [spec_BasketAfter.f, l1In_inB, hq]
    have e2 : ∀ k, impl_BasketAfter.f k (n : Int) l = (impl_times.f k (n : Int) l).bind (impl_BasketAfter.g k) := fun k => by simp [impl_BasketAfter.f, impl_arePairs.f, within_inB, hq]
    unfold timesR at hc ht
    cases ho : okT n l with
    | false =>
      rw [ho] at hc ht
      exact ⟨([], false), by simp, Ev.congr e1 (Ev.bind hc (Ev.congr (f := fun _ => some ([], false)) (fun k => rfl) (Ev.now _))), Ev.congr e2 (Ev.bind ht (Ev.congr (f := fun _ => some ([], false)) (fun k => rfl) (Ev.now _)))⟩
    | true =>
      rw [ho] at hc ht
      have hv := cntL_two ho
      obtain ⟨r, hr, f1, f2⟩ := leftAll_both (away (cntL n l)) (by simp [away, cntL_len]; omega) (by
        intro v hm
        simp only [away, List.mem_map] at hm
        obtain ⟨u, hu, rfl⟩ := hm
        have := hv u hu
        omega)
      have s1 := after_spec (cntL n l) (by rw [cntL_len]; omega) hv r f1 (cntL n l).length 0 (by omega)
      have s2 := after_impl (cntL n l) (by rw [cntL_len]; omega) hv r f2 (cntL n l).length 0 (by omega)
      exact ⟨(r, true), hr, Ev.congr e1 (Ev.bind hc (Ev.congr (f := fun k => spec_BasketAfter.l0 k [] (cntL n l) ((cntL n l).length : Int) 0) (fun k => rfl) s1)), Ev.congr e2 (Ev.bind ht (Ev.congr (f := fun k => impl_BasketAfter.l0 k (cntL n l) 0) (fun k => rfl) s2))⟩
end Go.Proofs.Ytbfapmckkmmnjaa.X
