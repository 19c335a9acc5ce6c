/- Plain laws, no program in sight: sizes and racks of both. -/
import Derived.Test.YtbmhelacjnlmaaaPlTimes
import Derived.Test.YtbmhelacjnlmaaaXspecAreSizes
import Derived.Test.YtbmhelacjnlmaaaXimplAreSizes
import Derived.Test.YtbmhelacjnlmaaaXspecIsRack
import Derived.Test.YtbmhelacjnlmaaaXimplIsRack
import Derived.Test.YtbmhelacjnlmaaaXspecExchangeShoes
import Derived.Test.YtbmhelacjnlmaaaXimplExchangeShoes
namespace Go.Proofs.Ytbmhelacjnlmaaa.X
open Go.RowKit Go.Proofs.YtbmhelacjnlmaaaW.PrintWords Go.Proofs.YtbmhelacjnlmaaaW.PrintLast Go.Proofs.YtbmhelacjnlmaaaW.PrintMore

theorem drop_get {l : List Int} {i : Nat} (h : i < l.length) : l.drop i = rd l (i : Int) :: l.drop (i + 1) := by
  rw [List.drop_eq_getElem_cons h, rd_get h]
theorem l1All_loop (l : List Int) (lo up : Int) (hn : l.length ≤ 1048576) (d : Nat) : ∀ (i : Nat), i + d = l.length → Ev (fun k => spec_l1All.l0 k lo up l (l.length : Int) (i : Int)) ((l.drop i).all (inB lo up)) := by
  induction d with
  | zero =>
    intro i hi
    rw [List.drop_of_length_le (by omega)]
    refine Ev.step (f := fun _ => some true) (fun k => ?_) (Ev.now _)
    simp only [spec_l1All.l0]
    rw [if_neg (by omega)]
  | succ d ih =>
    intro i hi
    have hlt : i < l.length := by omega
    rw [drop_get hlt, List.all_cons]
    cases hb : inB lo up (rd l (i : Int)) with
    | false =>
      rw [Bool.false_and]
      refine Ev.step (f := fun _ => some false) (fun k => ?_) (Ev.now _)
      simp only [spec_l1All.l0, l1In_inB, Option.bind_some]
      rw [if_pos (by omega), if_pos (by omega), if_pos (by omega), if_neg (by rw [hb]; decide)]
    | true =>
      rw [Bool.true_and]
      refine Ev.step (fun k => ?_) (ih (i + 1) (by omega))
      simp only [spec_l1All.l0, l1In_inB, Option.bind_some]
      rw [if_pos (by omega), if_pos (by omega), if_pos (by omega), if_pos hb, w64s hlt (by omega)]
theorem l1All_ev (l : List Int) (lo up : Int) (hn : l.length ≤ 1048576) : Ev (fun k => spec_l1All.f k l lo up) (l.all (inB lo up)) := by
  have := l1All_loop l lo up hn l.length 0 (by omega)
  simpa [spec_l1All.f] using this

theorem AreSizes_both (l : List Int) (hn : l.length ≤ 1048576) : ∃ r, Ev (fun k => spec_AreSizes.f k l) r ∧ Ev (fun _ => impl_AreSizes.f l) r := by
  refine ⟨inB 1 7 (l.length : Int) && l.all (inB 1 60), ?_, ?_⟩
  · refine Ev.bind (f := fun _ t => some t) (a := inB 1 7 (l.length : Int) && l.all (inB 1 60)) ?_ (Ev.now _)
    cases hq : inB 1 7 (l.length : Int) with
    | false => exact Ev.congr (f := fun _ => some false) (fun k => by simp [spec_shGood.f, l1In_inB, hq]) (by simpa using Ev.now false)
    | true => exact Ev.congr (f := fun k => (spec_l1All.f k l 1 60).bind fun t => some t) (fun k => by simp [spec_shGood.f, l1In_inB, hq]) (Ev.bind (l1All_ev l 1 60 hn) (by simpa using Ev.now _))
  · refine Ev.congr (f := fun _ => some (inB 1 7 (l.length : Int) && l.all (inB 1 60))) (fun k => ?_) (Ev.now _)
    cases hq : inB 1 7 (l.length : Int) <;> simp [impl_AreSizes.f, impl_areWithin.f, within_inB, hq]

def sumNat : Nat → (Nat → Nat) → Nat
  | 0, _ => 0
  | n + 1, f => sumNat n f + f n
theorem sumNat_add (n : Nat) (f g : Nat → Nat) : sumNat n (fun j => f j + g j) = sumNat n f + sumNat n g := by
  induction n with
  | zero => rfl
  | succ n ih => simp only [sumNat]; rw [ih]; omega
theorem sumNat_one (n q : Nat) (h : q < n) : sumNat n (fun j => if q = j then 1 else 0) = 1 := by
  have hz : ∀ m, m ≤ q → sumNat m (fun j => if q = j then 1 else 0) = 0 := by
    intro m
    induction m with
    | zero => intro _; rfl
    | succ m ih => intro hm; simp only [sumNat]; rw [ih (by omega), if_neg (by omega)]
  induction n with
  | zero => omega
  | succ n ih =>
    simp only [sumNat]
    by_cases e : q = n
    · subst e
      rw [hz q (Nat.le_refl _), if_pos rfl]
    · rw [ih (by omega), if_neg e]
theorem sumNat_zero (n : Nat) : sumNat n (fun _ => 0) = 0 := by
  induction n with
  | zero => rfl
  | succ n ih => simp only [sumNat]; rw [ih]
theorem sum_count (n : Nat) : ∀ (l : List Int), l.all (inB 0 ((n : Int) - 1)) = true → sumNat n (fun j => l.count (j : Int)) = l.length := by
  intro l
  induction l with
  | nil =>
    intro _
    simp only [List.count_nil, List.length_nil]
    exact sumNat_zero n
  | cons x r ih =>
    intro h
    rw [List.all_cons, Bool.and_eq_true] at h
    have hx := h.1
    simp [inB] at hx
    obtain ⟨q, rfl⟩ := Int.eq_ofNat_of_zero_le hx.1
    have e : (fun j : Nat => ((q : Int) :: r).count (j : Int)) = fun j : Nat => r.count (j : Int) + (if q = j then 1 else 0) := by
      funext j
      rw [List.count_cons]
      by_cases e : q = j
      · subst e
        simp
      · have hne : ¬ (q : Int) = (j : Int) := by omega
        simp [hne, e]
    rw [e, sumNat_add, ih h.2, sumNat_one n q (by omega)]
    rfl
theorem sum_le (n : Nat) (f : Nat → Nat) (h : ∀ j, j < n → f j ≤ 2) : sumNat n f ≤ 2 * n := by
  induction n with
  | zero => simp [sumNat]
  | succ n ih =>
    have h1 := ih (fun j hj => h j (by omega))
    have h2 := h n (by omega)
    simp only [sumNat]
    omega
theorem sum_two (n : Nat) (f : Nat → Nat) (h : ∀ j, j < n → f j ≤ 2) (hs : sumNat n f = 2 * n) : ∀ j, j < n → f j = 2 := by
  induction n with
  | zero => intro j hj; omega
  | succ n ih =>
    have h2 := h n (by omega)
    have h3 := sum_le n f (fun j hj => h j (by omega))
    simp only [sumNat] at hs
    intro j hj
    by_cases e : j = n
    · subst e
      omega
    · exact ih (fun j hj => h j (by omega)) (by omega) j (by omega)

def rk (n : Nat) (l : List Int) : Bool := (List.range n).all fun j : Nat => decide (l.count (j : Int) = 2)
theorem okT_rk {n : Nat} {l : List Int} (hl : l.length = 2 * n) : okT n l = (l.all (inB 0 ((n : Int) - 1)) && rk n l) := by
  unfold okT
  cases ha : l.all (inB 0 ((n : Int) - 1)) with
  | false => rfl
  | true =>
    rw [Bool.true_and, Bool.true_and]
    have hs := sum_count n l ha
    rw [hl] at hs
    rw [Bool.eq_iff_iff]
    unfold rk
    simp only [List.all_eq_true, List.mem_range, decide_eq_true_eq]
    constructor
    · intro h
      exact sum_two n _ h hs
    · intro h j hj
      have := h j hj
      omega

theorem shRack_count (l : List Int) (hn : l.length ≤ 1048576) (j : Nat) (r : Bool) (hyes : l.count (j : Int) = 2 → Ev (fun k => spec_shRack.l0 k l ((j + 1 : Nat) : Int)) r) (hj : j ≤ 1048576) (hno : l.count (j : Int) ≠ 2 → r = false) (d : Nat) : ∀ (i : Nat), i + d = l.length →
    Ev (fun k => spec_shRack.l1 k l (j : Int) (((l.take i).count (j : Int) : Nat) : Int) l (l.length : Int) (i : Int)) r := by
  induction d with
  | zero =>
    intro i hi
    rw [List.take_of_length_le (by omega)]
    by_cases h2 : l.count (j : Int) = 2
    · refine Ev.step (fun k => ?_) (hyes h2)
      simp only [spec_shRack.l1]
      rw [if_neg (by omega), if_pos (by omega), w64 (x := (j : Int) + 1) (by omega) (by omega)]
      rfl
    · rw [hno h2]
      refine Ev.step (f := fun _ => some false) (fun k => ?_) (Ev.now _)
      simp only [spec_shRack.l1]
      rw [if_neg (by omega), if_neg (by omega)]
  | succ d ih =>
    intro i hi
    have hlt : i < l.length := by omega
    have hs := ih (i + 1) (by omega)
    have hcl : (l.take i).count (j : Int) ≤ i := Nat.le_trans List.count_le_length (by rw [List.length_take]; omega)
    rw [take_rd hlt, List.count_append] at hs
    by_cases e : rd l (i : Int) = (j : Int)
    · rw [e] at hs
      refine Ev.step (fun k => ?_) hs
      simp only [spec_shRack.l1]
      rw [if_pos (by omega), if_pos (by omega), if_pos (by omega), if_pos e, w64s hlt (by omega), w64 (by omega) (by omega)]
      simp
    · have h0 : [rd l (i : Int)].count (j : Int) = 0 := by simp [e]
      rw [h0] at hs
      refine Ev.step (fun k => ?_) hs
      simp only [spec_shRack.l1]
      rw [if_pos (by omega), if_pos (by omega), if_pos (by omega), if_neg e, w64s hlt (by omega)]
      rfl
theorem shRack_loop (l : List Int) (n : Nat) (hl : l.length = 2 * n) (h16 : l.length ≤ 16) (d : Nat) : ∀ (j : Nat), j + d = n → (∀ q, q < j → l.count (q : Int) = 2) → Ev (fun k => spec_shRack.l0 k l (j : Int)) (rk n l) := by
  have hw : wrap64 ((l.length : Int) / 2) = (n : Int) := by rw [w64 (by omega) (by omega)]; omega
  induction d with
  | zero =>
    intro j hj hp
    have e : rk n l = true := by
      unfold rk
      simp only [List.all_eq_true, List.mem_range, decide_eq_true_eq]
      intro q hq
      exact hp q (by omega)
    rw [e]
    refine Ev.step (f := fun _ => some true) (fun k => ?_) (Ev.now _)
    simp only [spec_shRack.l0]
    rw [hw, if_neg (by omega)]
  | succ d ih =>
    intro j hj hp
    have hc := shRack_count l (by omega) j (rk n l) (fun h2 => ih (j + 1) (by omega) (fun q hq => by
      by_cases e : q = j
      · subst e
        exact h2
      · exact hp q (by omega))) (by omega) (fun h2 => by
      unfold rk
      rw [List.all_eq_false]
      exact ⟨j, by simp; omega, by simpa using h2⟩) l.length 0 (by omega)
    refine Ev.step (fun k => ?_) hc
    simp only [spec_shRack.l0]
    rw [hw, if_pos (by omega)]
    rfl

def rackB (l : List Int) : Bool := decide (l.length % 2 = 0) && (inB 1 8 ((l.length / 2 : Nat) : Int) && okT (l.length / 2) l)
theorem shRack_ev (l : List Int) (hn : l.length ≤ 1048576) : Ev (fun k => spec_shRack.f k l) (rackB l) := by
  have hno : Ev (fun k => spec_shRack.j0 k l true) false := Ev.step (f := fun _ => some false) (fun k => by simp [spec_shRack.j0]) (Ev.now _)
  unfold rackB
  by_cases h2 : l.length % 2 = 0
  · rw [decide_eq_true h2, Bool.true_and]
    have hi : inB 2 16 (l.length : Int) = inB 1 8 ((l.length / 2 : Nat) : Int) := by
      unfold inB
      rw [Bool.eq_iff_iff]
      simp only [Bool.and_eq_true, decide_eq_true_eq]
      omega
    cases hq : inB 1 8 ((l.length / 2 : Nat) : Int) with
    | false =>
      refine Ev.congr (fun k => ?_) hno
      unfold spec_shRack.f
      rw [if_pos (by omega), l1In_inB, hi, hq]
      rfl
    | true =>
      have hx := hq
      simp [inB] at hx
      have hw : wrap64 ((wrap64 ((l.length : Int) / 2)) - 1) = ((l.length / 2 : Nat) : Int) - 1 := by rw [w64 (x := (l.length : Int) / 2) (by omega) (by omega), w64 (by omega) (by omega)]; omega
      rw [Bool.true_and, okT_rk (by omega)]
      refine Ev.congr (f := fun k => (spec_l1All.f k l 0 (((l.length / 2 : Nat) : Int) - 1)).bind fun t => spec_shRack.j0 k l (!t)) (fun k => ?_) (Ev.bind (l1All_ev l _ _ hn) ?_)
      · unfold spec_shRack.f
        rw [if_pos (by omega), l1In_inB, hi, hq, hw]
        rfl
      · cases ha : l.all (inB 0 (((l.length / 2 : Nat) : Int) - 1)) with
        | false => exact hno
        | true =>
          rw [Bool.true_and]
          refine Ev.step (f := fun k => spec_shRack.l0 k l ((0 : Nat) : Int)) (fun k => ?_) (shRack_loop l (l.length / 2) (by omega) (by omega) (l.length / 2) 0 (by omega) (fun q hq => absurd hq (by omega)))
          simp [spec_shRack.j0]
  · rw [decide_eq_false h2, Bool.false_and]
    refine Ev.congr (fun k => ?_) hno
    unfold spec_shRack.f
    rw [if_neg (by omega)]
theorem IsRack_ev (l : List Int) (hn : l.length ≤ 1048576) : Ev (fun k => impl_IsRack.f k l) (rackB l) := by
  refine Ev.bind (f := fun _ t => some t) (a := rackB l) ?_ (Ev.now _)
  unfold rackB
  by_cases h2 : l.length % 2 = 0
  · rw [decide_eq_true h2, Bool.true_and]
    have hw : wrap64 ((l.length : Int) / 2) = ((l.length / 2 : Nat) : Int) := by rw [w64 (by omega) (by omega)]; omega
    cases hq : inB 1 8 ((l.length / 2 : Nat) : Int) with
    | false =>
      refine Ev.congr (f := fun _ => some false) (fun k => ?_) (by simpa using Ev.now false)
      unfold impl_isTwice.f
      rw [if_neg (by omega), within_inB, hw, hq]
      rfl
    | true =>
      have hx := hq
      simp [inB] at hx
      refine Ev.congr (f := fun k => (impl_times.f k ((l.length / 2 : Nat) : Int) l).bind fun b => some b.2) (fun k => ?_) (Ev.bind (times_ev (l.length / 2) (by omega) l (by omega)) ?_)
      · unfold impl_isTwice.f
        rw [if_neg (by omega), within_inB, hw, hq]
        rfl
      · rw [Bool.true_and]
        refine Ev.congr (f := fun _ => some (okT (l.length / 2) l)) (fun k => ?_) (Ev.now _)
        unfold timesR
        cases okT (l.length / 2) l <;> rfl
  · rw [decide_eq_false h2, Bool.false_and]
    refine Ev.congr (f := fun _ => some false) (fun k => ?_) (Ev.now _)
    unfold impl_isTwice.f
    rw [if_pos (by omega)]
theorem IsRack_both (l : List Int) (hn : l.length ≤ 1048576) : ∃ r, Ev (fun k => spec_IsRack.f k l) r ∧ Ev (fun k => impl_IsRack.f k l) r :=
  ⟨rackB l, Ev.bind (f := fun _ t => some t) (shRack_ev l hn) (Ev.now _), IsRack_ev l hn⟩
theorem rack_len {l : List Int} (h : rackB l = true) : 2 ≤ l.length ∧ l.length ≤ 16 ∧ l.length % 2 = 0 := by
  unfold rackB at h
  simp only [Bool.and_eq_true, decide_eq_true_eq] at h
  have := h.2.1
  simp [inB] at this
  omega

theorem ExchangeShoes_both (l : List Int) (a b : Int) (hn : l.length ≤ 1048576) : ∃ r : List Int × Bool, r.1.length ≤ 16 ∧ Ev (fun k => spec_ExchangeShoes.f k l a b) r ∧ Ev (fun k => impl_ExchangeShoes.f k l a b) r := by
  have h1 := shRack_ev l hn
  have h2 := IsRack_ev l hn
  cases hs : rackB l with
  | false =>
    rw [hs] at h1 h2
    exact ⟨([], false), by simp, Ev.bind h1 (Ev.congr (fun k => by rw [if_neg (by decide)]) (Ev.now _)), Ev.bind h2 (Ev.congr (fun k => by rw [if_neg (by decide)]) (Ev.now _))⟩
  | true =>
    rw [hs] at h1 h2
    obtain ⟨hl1, hl2, _⟩ := rack_len hs
    have hw : wrap64 ((l.length : Int) - 1) = (l.length : Int) - 1 := w64 (by omega) (by omega)
    by_cases hok : inB 0 ((l.length : Int) - 1) a = true ∧ inB 0 ((l.length : Int) - 1) b = true ∧ ¬ a = b
    · obtain ⟨ha, hb, hne⟩ := hok
      have hxa := ha
      have hxb := hb
      simp [inB] at hxa hxb
      refine ⟨((l.set a.toNat (rd l b)).set b.toNat (rd l a), true), by simpa using hl2, Ev.bind h1 (Ev.congr (fun k => ?_) (Ev.now _)), Ev.bind h2 (Ev.congr (fun k => ?_) (Ev.now _))⟩
      · rw [if_pos rfl, l1In_inB, hw, ha]
        simp only [Option.bind_some, if_true]
        rw [l1In_inB, hb]
        simp only [Option.bind_some, if_true]
        rw [if_neg hne]
        have e : spec_shExchange.f l a b = some ((l.set a.toNat (rd l b)).set b.toNat (rd l a)) := by
          unfold spec_shExchange.f spec_l1Own.f
          simp only [Option.bind_some, List.nil_append, List.length_nil, Nat.zero_add]
          rw [if_pos (by omega)]
          simp only [Option.bind_some]
          rw [if_pos hxb.1, if_pos (by omega), if_pos hxa.1, if_pos (by omega), if_pos (by omega), if_pos (by omega)]
        rw [e]
        rfl
      · rw [if_pos rfl, within_inB, hw, ha]
        simp only [Option.bind_some, if_true]
        rw [within_inB, hb]
        simp only [Option.bind_some, if_true]
        rw [if_neg hne]
        unfold slices_Clone_int_int.f
        rw [if_pos (by omega)]
        simp only [Option.bind_some]
        rw [if_pos hxb.1, if_pos (by omega), if_pos hxa.1, if_pos (by omega)]
    · refine ⟨([], false), by simp, Ev.bind h1 (Ev.congr (f := fun _ => some ([], false)) (fun k => ?_) (Ev.now _)), Ev.bind h2 (Ev.congr (f := fun _ => some ([], false)) (fun k => ?_) (Ev.now _))⟩
      · rw [if_pos rfl, l1In_inB, hw]
        cases ha : inB 0 ((l.length : Int) - 1) a with
        | false => rfl
        | true =>
          simp only [Option.bind_some, if_true]
          rw [l1In_inB]
          cases hb : inB 0 ((l.length : Int) - 1) b with
          | false => rfl
          | true =>
            simp only [Option.bind_some, if_true]
            rw [if_pos (by
              by_cases e : a = b
              · exact e
              · exact absurd ⟨ha, hb, e⟩ hok)]
      · rw [if_pos rfl, within_inB, hw]
        cases ha : inB 0 ((l.length : Int) - 1) a with
        | false => rfl
        | true =>
          simp only [Option.bind_some, if_true]
          rw [within_inB]
          cases hb : inB 0 ((l.length : Int) - 1) b with
          | false => rfl
          | true =>
            simp only [Option.bind_some, if_true]
            rw [if_pos (by
              by_cases e : a = b
              · exact e
              · exact absurd ⟨ha, hb, e⟩ hok)]

end Go.Proofs.Ytbmhelacjnlmaaa.X
