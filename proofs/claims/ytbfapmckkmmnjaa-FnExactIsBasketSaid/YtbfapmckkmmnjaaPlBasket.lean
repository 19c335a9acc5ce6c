/- Plain laws, no program in sight: baskets of both. -/
import Derived.Test.YtbfapmckkmmnjaaPlTimes
import Derived.Test.YtbfapmckkmmnjaaXspecIsBasket
import Derived.Test.YtbfapmckkmmnjaaXimplIsBasket
import Derived.Test.YtbfapmckkmmnjaaXspeclaBasket
import Derived.Test.YtbfapmckkmmnjaaXimplisBasket
import Derived.Test.YtbfapmckkmmnjaaXspeclaWith
import Derived.Test.YtbfapmckkmmnjaaXimplpairsWith
namespace Go.Proofs.Ytbfapmckkmmnjaa.X
open Go.RowKit Go.Proofs.YtbfapmckkmmnjaaW.PrintWords Go.Proofs.YtbfapmckkmmnjaaW.PrintLast Go.Proofs.YtbfapmckkmmnjaaW.PrintMore

def srtB (l : List Int) : Bool := (List.range (l.length - 1)).all fun j : Nat => decide (rd l (j : Int) ≤ rd l ((j + 1 : Nat) : Int))
theorem srtB_true {l : List Int} (h : ∀ j, j + 1 < l.length → rd l (j : Int) ≤ rd l ((j + 1 : Nat) : Int)) : srtB l = true := by
  unfold srtB
  simp only [List.all_eq_true, List.mem_range, decide_eq_true_eq]
  intro j hj
  exact h j (by omega)
theorem srtB_false {l : List Int} {j : Nat} (hj : j + 1 < l.length) (h : rd l ((j + 1 : Nat) : Int) < rd l (j : Int)) : srtB l = false := by
  unfold srtB
  rw [List.all_eq_false]
  exact ⟨j, by simp; omega, by rw [decide_eq_true_eq]; omega⟩
theorem isSorted_loop (l : List Int) (hn : l.length ≤ 2097152) : ∀ (i : Nat), i < l.length → (∀ j, i ≤ j → j + 1 < l.length → rd l (j : Int) ≤ rd l ((j + 1 : Nat) : Int)) → Ev (fun k => slices_IsSorted_int_int.l0 k l (i : Int)) (srtB l) := by
  intro i
  induction i with
  | zero =>
    intro hi h
    rw [srtB_true (fun j hj => h j (by omega) hj)]
    refine Ev.step (f := fun _ => some true) (fun k => ?_) (Ev.now _)
    simp only [slices_IsSorted_int_int.l0]
    rw [if_neg (by omega)]
  | succ i ih =>
    intro hi h
    have hw : wrap64 (((i + 1 : Nat) : Int) - 1) = (i : Int) := by rw [w64 (by omega) (by omega)]; omega
    have hl : ∀ a b : Int, cmp_Less_int.f a b = some (decide (a < b)) := fun a b => by simp [cmp_Less_int.f, cmp_isNaN_int.f]
    by_cases e : rd l ((i + 1 : Nat) : Int) < rd l (i : Int)
    · rw [srtB_false (by omega) e]
      refine Ev.step (f := fun _ => some false) (fun k => ?_) (Ev.now _)
      simp only [slices_IsSorted_int_int.l0]
      rw [if_pos (by omega), if_pos (by omega), if_pos (by omega), hw, if_pos (by omega), if_pos (by omega), hl]
      simp only [Option.bind_some]
      rw [if_pos (by simpa using e)]
    · refine Ev.step (fun k => ?_) (ih (by omega) (fun j hj hj2 => by
        by_cases e2 : j = i
        · subst e2
          omega
        · exact h j (by omega) hj2))
      simp only [slices_IsSorted_int_int.l0]
      rw [if_pos (by omega), if_pos (by omega), if_pos (by omega), hw, if_pos (by omega), if_pos (by omega), hl]
      simp only [Option.bind_some]
      rw [if_neg (by simpa using e)]
theorem isSorted_ev (l : List Int) (hn : l.length ≤ 2097152) : Ev (fun k => slices_IsSorted_int_int.f k l) (srtB l) := by
  by_cases h0 : l.length = 0
  · rw [srtB_true (fun j hj => by omega)]
    refine Ev.step (f := fun _ => some true) (fun k => ?_) (Ev.now _)
    unfold slices_IsSorted_int_int.f
    rw [h0]
    simp only [slices_IsSorted_int_int.l0]
    rw [w64 (by omega) (by omega), if_neg (by omega)]
  · have hw : wrap64 ((l.length : Int) - 1) = ((l.length - 1 : Nat) : Int) := by rw [w64 (by omega) (by omega)]; omega
    refine Ev.congr (fun k => ?_) (isSorted_loop l hn (l.length - 1) (by omega) (fun j hj hj2 => by omega))
    unfold slices_IsSorted_int_int.f
    rw [hw]
theorem counts_ev' (n : Nat) (h40 : n ≤ 1000) (l : List Int) (hn : l.length ≤ 2097152) : Ev (fun k => spec_laCounts.f k (n : Int) l) (timesR n l) := counts_ev n h40 l hn
theorem laIs_loop (n : Nat) (h40 : n ≤ 1000) (l : List Int) (hn : l.length ≤ 2097152) (d : Nat) : ∀ (i : Nat), 1 ≤ i → i + d = max l.length 1 → (∀ j, j + 1 < i → rd l (j : Int) ≤ rd l ((j + 1 : Nat) : Int)) → Ev (fun k => spec_laIs.l0 k (n : Int) l (i : Int)) (srtB l && okT n l) := by
  induction d with
  | zero =>
    intro i h1 hi h
    rw [srtB_true (fun j hj => h j (by omega)), Bool.true_and]
    refine Ev.step (f := fun k => (spec_laCounts.f k (n : Int) l).bind fun b => some b.2) (fun k => ?_) (Ev.bind (counts_ev' n h40 l hn) (Ev.congr (f := fun _ => some (okT n l)) (fun k => ?_) (Ev.now _)))
    · simp only [spec_laIs.l0]
      rw [if_neg (by omega)]
    · unfold timesR
      cases okT n l <;> rfl
  | succ d ih =>
    intro i h1 hi h
    have hlt : i < l.length := by omega
    have hw : wrap64 ((i : Int) - 1) = ((i - 1 : Nat) : Int) := by rw [w64 (by omega) (by omega)]; omega
    have hi1 : ((i - 1 + 1 : Nat) : Int) = (i : Int) := by omega
    by_cases e : rd l (i : Int) < rd l ((i - 1 : Nat) : Int)
    · rw [srtB_false (j := i - 1) (by omega) (by rw [hi1]; exact e), Bool.false_and]
      refine Ev.step (f := fun _ => some false) (fun k => ?_) (Ev.now _)
      simp only [spec_laIs.l0]
      rw [if_pos (by omega), hw, if_pos (by omega), if_pos (by omega), if_pos (by omega), if_pos e]
    · refine Ev.step (fun k => ?_) (ih (i + 1) (by omega) (by omega) (fun j hj => by
        by_cases e2 : j = i - 1
        · subst e2
          rw [hi1]
          omega
        · exact h j (by omega)))
      simp only [spec_laIs.l0]
      rw [if_pos (by omega), hw, if_pos (by omega), if_pos (by omega), if_pos (by omega), if_neg e, w64s hlt (by omega)]
theorem laIs_ev (n : Nat) (h40 : n ≤ 1000) (l : List Int) (hn : l.length ≤ 2097152) : Ev (fun k => spec_laIs.f k (n : Int) l) (srtB l && okT n l) :=
  laIs_loop n h40 l hn (max l.length 1 - 1) 1 (by omega) (by omega) (fun j hj => by omega)

def basketB (a : Int) (l : List Int) : Bool := inB 1 20 a && (srtB l && okT a.toNat l)
theorem laBasket_ev (a : Int) (l : List Int) (hn : l.length ≤ 2097152) : Ev (fun k => spec_laBasket.f k a l) (basketB a l) := by
  unfold basketB
  cases hq : inB 1 20 a with
  | false => exact Ev.congr (f := fun _ => some false) (fun k => by simp [spec_laBasket.f, l1In_inB, hq]) (by simpa using Ev.now false)
  | true =>
    have hx := hq
    simp [inB] at hx
    obtain ⟨n, rfl⟩ := Int.eq_ofNat_of_zero_le (a := a) (by omega)
    rw [Int.toNat_natCast]
    exact Ev.congr (f := fun k => (spec_laIs.f k (n : Int) l).bind fun t => some t) (fun k => by simp [spec_laBasket.f, l1In_inB, hq]) (Ev.bind (laIs_ev n (by omega) l hn) (by simpa using Ev.now _))
theorem specIsBasket_ev (a : Int) (l : List Int) (hn : l.length ≤ 2097152) : Ev (fun k => spec_IsBasket.f k a l) (basketB a l, inB 1 20 a) := by
  unfold basketB
  cases hq : inB 1 20 a with
  | false => exact Ev.congr (f := fun _ => some (false, false)) (fun k => by simp [spec_IsBasket.f, l1In_inB, hq]) (by simpa using Ev.now (false, false))
  | true =>
    have hx := hq
    simp [inB] at hx
    obtain ⟨n, rfl⟩ := Int.eq_ofNat_of_zero_le (a := a) (by omega)
    rw [Int.toNat_natCast]
    exact Ev.congr (f := fun k => (spec_laIs.f k (n : Int) l).bind fun t => some (t, true)) (fun k => by simp [spec_IsBasket.f, l1In_inB, hq]) (Ev.bind (laIs_ev n (by omega) l hn) (by simpa using Ev.now _))
theorem implIsBasket_ev (a : Int) (l : List Int) (hn : l.length ≤ 2097152) : Ev (fun k => impl_IsBasket.f k a l) (basketB a l, inB 1 20 a) := by
  unfold basketB
  cases hq : inB 1 20 a with
  | false => exact Ev.congr (f := fun _ => some (false, false)) (fun k => by simp [impl_IsBasket.f, impl_arePairs.f, within_inB, hq]) (by simpa using Ev.now (false, false))
  | true =>
    have hx := hq
    simp [inB] at hx
    obtain ⟨n, rfl⟩ := Int.eq_ofNat_of_zero_le (a := a) (by omega)
    rw [Int.toNat_natCast, Bool.true_and]
    refine Ev.congr (f := fun k => (impl_times.f k (n : Int) l).bind fun b => if b.2 = true then (slices_IsSorted_int_int.f k l).bind fun t => some (t, true) else some (false, true)) (fun k => by simp [impl_IsBasket.f, impl_arePairs.f, within_inB, hq]) (Ev.bind (times_ev n (by omega) l hn) ?_)
    unfold timesR
    cases ho : okT n l with
    | false => rw [Bool.and_false]; exact Ev.congr (f := fun _ => some (false, true)) (fun k => rfl) (Ev.now _)
    | true => rw [Bool.and_true]; exact Ev.congr (fun k => rfl) (Ev.bind (f := fun _ t => some (t, true)) (isSorted_ev l hn) (Ev.now _))
theorem isBasket_ev (a : Int) (l : List Int) (hn : l.length ≤ 2097152) : Ev (fun k => impl_isBasket.f k a l) (basketB a l) :=
  Ev.congr (f := fun k => (impl_IsBasket.f k a l).bind fun b : Bool × Bool => some b.1) (fun _ => rfl) (Ev.bind (implIsBasket_ev a l hn) (Ev.now _))
theorem IsBasket_both (a : Int) (l : List Int) (hn : l.length ≤ 1048576) : ∃ r, Ev (fun k => spec_IsBasket.f k a l) r ∧ Ev (fun k => impl_IsBasket.f k a l) r :=
  ⟨_, specIsBasket_ev a l (by omega), implIsBasket_ev a l (by omega)⟩

theorem with_both (c : List Int) (m : Int) (hc : c.length ≤ 20) (d : Nat) : ∀ (i : Nat) (o : List Int), i + d = c.length → o.length ≤ i → ∃ r : List Int, r.length ≤ 20 ∧ Ev (fun k => spec_laWith.l0 k m o c (c.length : Int) (i : Int)) r ∧ Ev (fun k => impl_pairsWith.l0 k m o c (c.length : Int) (i : Int)) (r, true) := by
  induction d with
  | zero =>
    intro i o hi ho
    refine ⟨o, by omega, Ev.step (f := fun _ => some o) (fun k => ?_) (Ev.now _), Ev.step (f := fun _ => some (o, true)) (fun k => ?_) (Ev.now _)⟩
    · simp only [spec_laWith.l0]
      rw [if_neg (by omega)]
    · simp only [impl_pairsWith.l0]
      rw [if_neg (by omega)]
  | succ d ih =>
    intro i o hi ho
    have hlt : i < c.length := by omega
    by_cases e : rd c (i : Int) = m
    · obtain ⟨r, h1, h2, h3⟩ := ih (i + 1) (o ++ [(i : Int)]) (by omega) (by simp; omega)
      refine ⟨r, h1, Ev.step (fun k => ?_) h2, Ev.step (fun k => ?_) h3⟩
      · simp only [spec_laWith.l0]
        rw [if_pos (by omega), if_pos (by omega), if_pos (by omega), if_pos e, if_pos (by omega), w64s hlt (by omega)]
      · simp only [impl_pairsWith.l0]
        rw [if_pos (by omega), if_pos (by omega), if_pos (by omega), if_pos e, if_pos (by omega), w64s hlt (by omega)]
    · obtain ⟨r, h1, h2, h3⟩ := ih (i + 1) o (by omega) (by omega)
      refine ⟨r, h1, Ev.step (fun k => ?_) h2, Ev.step (fun k => ?_) h3⟩
      · simp only [spec_laWith.l0]
        rw [if_pos (by omega), if_pos (by omega), if_pos (by omega), if_neg e, w64s hlt (by omega)]
      · simp only [impl_pairsWith.l0]
        rw [if_pos (by omega), if_pos (by omega), if_pos (by omega), if_neg e, w64s hlt (by omega)]
theorem pairsWith_both (a : Int) (l : List Int) (m : Int) (hn : l.length ≤ 2097152) : ∃ r : List Int × Bool, r.1.length ≤ 20 ∧
    Ev (fun k => (spec_laBasket.f k a l).bind fun t => if t = true then (spec_laWith.f k a l m).bind fun u => some (u, true) else some (([] : List Int), false)) r ∧ Ev (fun k => impl_pairsWith.f k a l m) r := by
  have h1 := laBasket_ev a l hn
  have h2 := isBasket_ev a l hn
  cases hb : basketB a l with
  | false =>
    rw [hb] at h1 h2
    exact ⟨([], false), by simp, Ev.bind h1 (Ev.congr (fun k => by rw [if_neg (by decide)]) (Ev.now _)), Ev.bind h2 (Ev.congr (fun k => by rw [if_neg (by decide)]) (Ev.now _))⟩
  | true =>
    rw [hb] at h1 h2
    unfold basketB at hb
    simp only [Bool.and_eq_true] at hb
    obtain ⟨hq, _, ho⟩ := hb
    have hx := hq
    simp [inB] at hx
    obtain ⟨n, rfl⟩ := Int.eq_ofNat_of_zero_le (a := a) (by omega)
    rw [Int.toNat_natCast] at ho
    have hR : timesR n l = (cntL n l, true) := by unfold timesR; rw [if_pos ho]
    have hc := counts_ev' n (by omega) l hn
    have ht := times_ev n (by omega) l hn
    rw [hR] at hc ht
    obtain ⟨r, hr, e1, e2⟩ := with_both (cntL n l) m (by rw [cntL_len]; omega) n 0 [] (by rw [cntL_len]; omega) (by simp)
    have hs : Ev (fun k => spec_laWith.f k (n : Int) l m) r := Ev.congr (f := fun k => (spec_laCounts.f k (n : Int) l).bind fun b : List Int × Bool => spec_laWith.l0 k m [] b.1 (b.1.length : Int) 0) (fun _ => rfl) (Ev.bind hc e1)
    refine ⟨(r, true), hr, Ev.bind h1 (Ev.congr (f := fun k => (spec_laWith.f k (n : Int) l m).bind fun u => some (u, true)) (fun k => by rw [if_pos rfl]) (Ev.bind hs (Ev.now _))), Ev.bind h2 (Ev.congr (f := fun k => (impl_times.f k (n : Int) l).bind fun b : List Int × Bool => impl_pairsWith.l0 k m [] b.1 (b.1.length : Int) 0) (fun k => by rw [if_pos rfl]) (Ev.bind ht e2))⟩
end Go.Proofs.Ytbfapmckkmmnjaa.X
