/- Plain laws, no program in sight: the exchanges of both. -/
import Derived.Test.YtbmhelacjnlmaaaPlRack
import Derived.Test.YtbmhelacjnlmaaaXspecFewestExchanges
import Derived.Test.YtbmhelacjnlmaaaXimplFewestExchanges
import Derived.Test.YtbmhelacjnlmaaaHpartner
namespace Go.Proofs.Ytbmhelacjnlmaaa.X
open Go.RowKit Go.Proofs.YtbmhelacjnlmaaaW.PrintWords Go.Proofs.YtbmhelacjnlmaaaW.PrintLast Go.Proofs.YtbmhelacjnlmaaaW.PrintMore

theorem rd_drop (l : List Int) (a q : Nat) : rd (l.drop a) (q : Int) = rd l ((a + q : Nat) : Int) := by
  unfold rd
  rw [List.getD_eq_getElem?_getD, List.getD_eq_getElem?_getD, Int.toNat_natCast, Int.toNat_natCast, List.getElem?_drop]
theorem first_of (P : Nat → Prop) [DecidablePred P] : ∀ (n : Nat), P n → ∃ p, p ≤ n ∧ P p ∧ ∀ q, q < p → ¬ P q := by
  intro n
  induction n using Nat.strongRecOn with
  | _ n ih =>
    intro h
    by_cases e : ∃ q, q < n ∧ P q
    · obtain ⟨q, hq, hp⟩ := e
      obtain ⟨p, h1, h2, h3⟩ := ih q hq hp
      exact ⟨p, by omega, h2, h3⟩
    · exact ⟨n, Nat.le_refl _, h, fun q hq hp => e ⟨q, hq, hp⟩⟩
theorem index_loop (t : List Int) (a : Int) (hn : t.length ≤ 1048576) (p : Nat) (hp : p < t.length) (ha : rd t (p : Int) = a) (hf : ∀ q, q < p → ¬ rd t (q : Int) = a) (d : Nat) : ∀ (q : Nat), q + d = p →
    Ev (fun k => slices_Index_int_int.l0 k t a (t.length : Int) (q : Int)) (p : Int) := by
  induction d with
  | zero =>
    intro q hq
    obtain rfl : q = p := by omega
    refine Ev.step (f := fun _ => some (q : Int)) (fun k => ?_) (Ev.now _)
    simp only [slices_Index_int_int.l0]
    rw [if_pos (by omega), if_pos (by omega), if_pos (by omega), if_pos ha.symm]
  | succ d ih =>
    intro q hq
    refine Ev.step (fun k => ?_) (ih (q + 1) (by omega))
    simp only [slices_Index_int_int.l0]
    rw [if_pos (by omega), if_pos (by omega), if_pos (by omega), if_neg (fun e => hf q (by omega) e.symm), w64s (n := t.length) (by omega) (by omega)]
theorem index_ev (t : List Int) (a : Int) (hn : t.length ≤ 1048576) (p : Nat) (hp : p < t.length) (ha : rd t (p : Int) = a) (hf : ∀ q, q < p → ¬ rd t (q : Int) = a) : Ev (fun k => slices_Index_int_int.f k t a) (p : Int) :=
  index_loop t a hn p hp ha hf p 0 (by omega)

def Prs (s : List Int) : Prop := ∀ v, s.count v = 0 ∨ s.count v = 2
/-- the place of the other shoe, counted from the next place -/
theorem other_of {x : List Int} {i : Nat} (hi : i < x.length) (h : Prs (x.drop i)) :
    ∃ p, i + 1 + p < x.length ∧ rd x ((i + 1 + p : Nat) : Int) = rd x (i : Int) ∧ ∀ q, q < p → ¬ rd x ((i + 1 + q : Nat) : Int) = rd x (i : Int) := by
  have h1 := h (rd x (i : Int))
  rw [drop_get hi, List.count_cons_self] at h1
  have hm : rd x (i : Int) ∈ x.drop (i + 1) := by
    rw [← List.count_pos_iff]
    omega
  obtain ⟨n, hn, he⟩ := List.getElem_of_mem hm
  rw [List.length_drop] at hn
  have e2 : rd x ((i + 1 + n : Nat) : Int) = rd x (i : Int) := by
    rw [← he, List.getElem_drop, rd_get (by omega)]
  obtain ⟨p, hp, h2, h3⟩ := first_of (fun p => rd x ((i + 1 + p : Nat) : Int) = rd x (i : Int)) n e2
  exact ⟨p, by omega, h2, h3⟩
theorem partner_ev {x : List Int} {i p : Nat} (hn : x.length ≤ 1048576) (hp : i + 1 + p < x.length) (he : rd x ((i + 1 + p : Nat) : Int) = rd x (i : Int)) (hf : ∀ q, q < p → ¬ rd x ((i + 1 + q : Nat) : Int) = rd x (i : Int)) :
    Ev (fun k => impl_partner.f k x (i : Int)) ((i + 1 + p : Nat) : Int) := by
  have h := index_ev (x.drop (i + 1)) (rd x (i : Int)) (by rw [List.length_drop]; omega) p (by rw [List.length_drop]; omega) (by rw [rd_drop]; exact he) (fun q hq => by rw [rd_drop]; exact hf q hq)
  refine Ev.congr (f := fun k => (slices_Index_int_int.f k (x.drop (i + 1)) (rd x (i : Int))).bind fun t => some (wrap64 ((i : Int) + 1 + t))) (fun k => ?_) (Ev.bind h (Ev.congr (f := fun _ => some ((i + 1 + p : Nat) : Int)) (fun k => ?_) (Ev.now _)))
  · unfold impl_partner.f
    rw [if_pos (by omega), show ((i : Int) + 1).toNat = i + 1 from by omega]
  · rw [w64 (by omega) (by omega)]
    simp
theorem prs_next {x : List Int} {i : Nat} (hi : i + 1 < x.length) (h : Prs (x.drop i)) (he : rd x ((i + 1 : Nat) : Int) = rd x (i : Int)) : Prs (x.drop (i + 2)) := by
  intro v
  have := h v
  rw [drop_get (show i < x.length by omega), drop_get hi, he, show i + 1 + 1 = i + 2 from rfl] at this
  by_cases e : rd x (i : Int) = v
  · subst e
    rw [List.count_cons_self, List.count_cons_self] at this
    omega
  · rw [List.count_cons_of_ne e, List.count_cons_of_ne e] at this
    exact this
theorem prs_swap {x : List Int} {i p : Nat} (hp : i + 1 + p < x.length) (h0 : 0 < p) (h : Prs (x.drop i)) (he : rd x ((i + 1 + p : Nat) : Int) = rd x (i : Int)) (hne : ¬ rd x ((i + 1 : Nat) : Int) = rd x (i : Int)) :
    Prs (((x.set (i + 1) (rd x ((i + 1 + p : Nat) : Int))).set (i + 1 + p) (rd x ((i + 1 : Nat) : Int))).drop (i + 2)) := by
  intro v
  have hv := h v
  rw [drop_get (show i < x.length by omega), drop_get (show i + 1 < x.length by omega)] at hv
  have e1 : ((x.set (i + 1) (rd x ((i + 1 + p : Nat) : Int))).set (i + 1 + p) (rd x ((i + 1 : Nat) : Int))).drop (i + 2) = (x.drop (i + 2)).set (p - 1) (rd x ((i + 1 : Nat) : Int)) := by
    rw [List.drop_set, if_neg (by omega), List.drop_set, if_pos (by omega), show i + 1 + p - (i + 2) = p - 1 from by omega]
  have hl : p - 1 < (x.drop (i + 2)).length := by rw [List.length_drop]; omega
  have e2 : (x.drop (i + 2))[p - 1] = rd x (i : Int) := by
    rw [List.getElem_drop, ← he, rd_get (by omega)]
    congr 1
    omega
  have hc := List.count_set (b := v) (a := rd x ((i + 1 : Nat) : Int)) hl
  rw [e2] at hc
  have hpos : (rd x (i : Int) == v) = true → 0 < (x.drop (i + 2)).count v := by
    intro e
    have e := eq_of_beq e
    subst e
    rw [List.count_pos_iff, ← e2]
    exact List.getElem_mem _
  rw [List.count_cons, List.count_cons, show i + 1 + 1 = i + 2 from rfl] at hv
  rw [e1, hc]
  clear hc e1 e2 h
  by_cases a1 : rd x (i : Int) = v
  · have a2 : ¬ rd x ((i + 1 : Nat) : Int) = v := by rw [← a1]; exact hne
    have h7 : (rd x (i : Int) == v) = true := by simp [a1]
    have h8 : (rd x ((i + 1 : Nat) : Int) == v) = false := by simpa using a2
    have := hpos h7
    rw [h7, h8] at hv
    rw [h7, h8]
    simp at hv ⊢
    omega
  · have h7 : (rd x (i : Int) == v) = false := by simpa using a1
    rw [h7] at hv
    rw [h7]
    simp at hv ⊢
    omega

theorem shEx_ev {x : List Int} {a b : Nat} (hn : x.length ≤ 1048576) (ha : a < x.length) (hb : b < x.length) : spec_shExchange.f x (a : Int) (b : Int) = some ((x.set a (rd x (b : Int))).set b (rd x (a : Int))) := by
  unfold spec_shExchange.f spec_l1Own.f
  simp only [Option.bind_some, List.nil_append, List.length_nil, Nat.zero_add]
  rw [if_pos (by omega)]
  simp only [Option.bind_some]
  rw [if_pos (by omega), if_pos (by omega), if_pos (by omega), if_pos (by omega), if_pos (by omega), if_pos (by omega)]
  rfl
theorem shAll_find (x : List Int) (o : List (List Int)) (i p : Nat) (r : List (List Int)) (hn : x.length ≤ 1048576) (ho : o.length < 5864062014805) (hp : i + 1 + p < x.length) (h0 : 0 < p) (he : rd x ((i + 1 + p : Nat) : Int) = rd x (i : Int)) (hf : ∀ q, q < p → ¬ rd x ((i + 1 + q : Nat) : Int) = rd x (i : Int))
    (hr : Ev (fun k => spec_shAll.l0 k ((x.set (i + 1) (rd x ((i + 1 + p : Nat) : Int))).set (i + 1 + p) (rd x ((i + 1 : Nat) : Int))) (o ++ [[((i + 1 : Nat) : Int), ((i + 1 + p : Nat) : Int)]]) ((i + 2 : Nat) : Int)) r) (d : Nat) :
    ∀ (q : Nat), 0 < q → q + d = p → Ev (fun k => spec_shAll.l1 k x o (i : Int) ((i + 1 + q : Nat) : Int)) r := by
  have w1 : wrap64 ((i : Int) + 1) = ((i + 1 : Nat) : Int) := w64s (n := x.length) (by omega) (by omega)
  have w2 : wrap64 ((i : Int) + 2) = ((i + 2 : Nat) : Int) := by rw [w64 (by omega) (by omega)]; rfl
  induction d with
  | zero =>
    intro q hq hd
    obtain rfl : q = p := by omega
    refine Ev.step (fun k => ?_) hr
    simp only [spec_shAll.l1]
    rw [if_pos (by omega), if_pos (by omega), if_pos (by omega), if_pos (by omega), if_pos he, if_pos ho, w1, shEx_ev hn (by omega) hp, w2]
    rfl
  | succ d ih =>
    intro q hq hd
    refine Ev.step (fun k => ?_) (ih (q + 1) (by omega) (by omega))
    simp only [spec_shAll.l1]
    rw [if_pos (by omega), if_pos (by omega), if_pos (by omega), if_pos (by omega), if_neg (hf q (by omega)), w64s (n := x.length) (by omega) (by omega)]
    rfl
def nextE (k : Nat) (x : List Int) (o : List (List Int)) (i t : Int) : Option (List (List Int) × Bool) := if t > (wrap64 (i + 1)) then (if 0 ≤ t then (if t < (x.length : Int) then (if 0 ≤ (wrap64 (i + 1)) then (if (wrap64 (i + 1)) < (x.length : Int) then (if o.length < 5864062014805 then (impl_FirstExchanges.l0 k ((x.set ((wrap64 (i + 1)) : Int).toNat (rd x t)).set (t : Int).toNat (rd x (wrap64 (i + 1)))) (o ++ [(([wrap64 (i + 1), t] : List Int))]) (wrap64 (i + 2))) else (none)) else (none)) else (none)) else (none)) else (none)) else impl_FirstExchanges.l0 k x o (wrap64 (i + 2))
theorem all_both (d : Nat) : ∀ (x : List Int) (o : List (List Int)) (i : Nat), i + 2 * d = x.length → x.length ≤ 16 → o.length + d ≤ 16 → Prs (x.drop i) →
    ∃ r, Ev (fun k => spec_shAll.l0 k x o (i : Int)) r ∧ Ev (fun k => impl_FirstExchanges.l0 k x o (i : Int)) (r, true) := by
  induction d with
  | zero =>
    intro x o i hi hl ho hp
    refine ⟨o, Ev.step (f := fun _ => some o) (fun k => ?_) (Ev.now _), Ev.step (f := fun _ => some (o, true)) (fun k => ?_) (Ev.now _)⟩
    · simp only [spec_shAll.l0]
      rw [if_neg (by omega)]
    · simp only [impl_FirstExchanges.l0]
      rw [if_neg (by omega)]
  | succ d ih =>
    intro x o i hi hl ho hp
    obtain ⟨p, h1, h2, h3⟩ := other_of (by omega) hp
    have hpt := partner_ev (by omega) h1 h2 h3
    have w1 : wrap64 ((i : Int) + 1) = ((i + 1 : Nat) : Int) := w64s (n := x.length) (by omega) (by omega)
    have w2 : wrap64 ((i : Int) + 2) = ((i + 2 : Nat) : Int) := by rw [w64 (by omega) (by omega)]; rfl
    by_cases h0 : p = 0
    · subst h0
      obtain ⟨r, hr1, hr2⟩ := ih x o (i + 2) (by omega) hl (by omega) (prs_next (by omega) hp h2)
      refine ⟨r, Ev.step (fun k => ?_) hr1, Ev.step (fun k => ?_) (Ev.bind hpt (f := fun k t => nextE k x o (i : Int) t) (r := (r, true)) (Ev.congr (fun k => ?_) hr2))⟩
      · simp only [spec_shAll.l0]
        rw [if_pos (by omega), if_pos (by omega), w1, if_pos (by omega), if_pos (by omega), if_pos h2.symm, w2]
      · simp only [impl_FirstExchanges.l0]
        rw [if_pos (by omega)]
        rfl
      · unfold nextE
        rw [w1, if_neg (by omega), w2]
    · have hne : ¬ rd x ((i + 1 : Nat) : Int) = rd x (i : Int) := h3 0 (by omega)
      obtain ⟨r, hr1, hr2⟩ := ih ((x.set (i + 1) (rd x ((i + 1 + p : Nat) : Int))).set (i + 1 + p) (rd x ((i + 1 : Nat) : Int))) (o ++ [[((i + 1 : Nat) : Int), ((i + 1 + p : Nat) : Int)]]) (i + 2) (by simp; omega) (by simp; omega) (by simp; omega) (prs_swap h1 (by omega) hp h2 hne)
      have hs := shAll_find x o i p r (by omega) (by omega) h1 (by omega) h2 h3 hr1 (p - 1) 1 (by omega) (by omega)
      refine ⟨r, Ev.step (fun k => ?_) hs, Ev.step (fun k => ?_) (Ev.bind hpt (f := fun k t => nextE k x o (i : Int) t) (r := (r, true)) (Ev.congr (fun k => ?_) hr2))⟩
      · simp only [spec_shAll.l0]
        rw [if_pos (by omega), if_pos (by omega), w1, if_pos (by omega), if_pos (by omega), if_neg (fun e => hne e.symm), w2]
      · simp only [impl_FirstExchanges.l0]
        rw [if_pos (by omega)]
        rfl
      · unfold nextE
        rw [w1, w2, if_pos (by omega), if_pos (by omega), if_pos (by omega), if_pos (by omega), if_pos (by omega), if_pos (by omega)]
        rfl
theorem rack_prs {l : List Int} (h : rackB l = true) : Prs l := by
  have hl := rack_len h
  unfold rackB at h
  simp only [Bool.and_eq_true, decide_eq_true_eq] at h
  have h2 := h.2.2
  rw [okT_rk (by omega), Bool.and_eq_true] at h2
  obtain ⟨ha, hr⟩ := h2
  intro v
  by_cases hv : v ∈ l
  · right
    rw [List.all_eq_true] at ha
    have := ha v hv
    simp [inB] at this
    obtain ⟨q, rfl⟩ := Int.eq_ofNat_of_zero_le this.1
    unfold rk at hr
    simp only [List.all_eq_true, List.mem_range, decide_eq_true_eq] at hr
    exact hr q (by omega)
  · left
    exact List.count_eq_zero_of_not_mem hv
theorem FewestExchanges_both (l : List Int) (hn : l.length ≤ 1048576) : ∃ r, Ev (fun k => spec_FewestExchanges.f k l) r ∧ Ev (fun k => impl_FewestExchanges.f k l) r := by
  have h1 := shRack_ev l hn
  have h2 := IsRack_ev l hn
  cases hs : rackB l with
  | false =>
    rw [hs] at h1 h2
    refine ⟨(0, false), Ev.bind h1 (Ev.congr (fun k => by rw [if_neg (by decide)]) (Ev.now _)), Ev.bind (a := (([] : List (List Int)), false)) (Ev.bind h2 (Ev.congr (fun k => by rw [if_neg (by decide)]) (Ev.now _))) (Ev.congr (fun k => ?_) (Ev.now _))⟩
    rfl
  | true =>
    rw [hs] at h1 h2
    obtain ⟨hl1, hl2, hl3⟩ := rack_len hs
    obtain ⟨r, e1, e2⟩ := all_both (l.length / 2) l [] 0 (by omega) hl2 (by simp; omega) (by rw [List.drop_zero]; exact rack_prs hs)
    refine ⟨((r.length : Int), true), Ev.bind h1 (Ev.congr (fun k => by rw [if_pos rfl]; rfl) (Ev.bind (f := fun _ t => some ((t.length : Int), true)) (a := r) e1 (Ev.now _))), Ev.bind (a := (r, true)) (Ev.bind h2 (Ev.congr (f := fun k => impl_FirstExchanges.l0 k l [] 0) (fun k => ?_) e2)) (Ev.now _)⟩
    rw [if_pos rfl]
    unfold slices_Clone_int_int.f
    rw [if_pos (by omega)]
    rfl
end Go.Proofs.Ytbmhelacjnlmaaa.X
