/- Plain laws, no program in sight: how often each number stands in a list. -/
import Derived.Test.YtbfapmckkmmnjaaPlTo
import Derived.Test.YtbfapmckkmmnjaaXimplwithin
import Derived.Test.YtbfapmckkmmnjaaXspecl1In
import Derived.Test.YtbfapmckkmmnjaaXimpltimes
import Derived.Test.YtbfapmckkmmnjaaXspeclaCounts
namespace Go.Proofs.Ytbfapmckkmmnjaa.X
open Go.RowKit Go.Proofs.YtbfapmckkmmnjaaW.PrintWords Go.Proofs.YtbfapmckkmmnjaaW.PrintLast Go.Proofs.YtbfapmckkmmnjaaW.PrintMore

def inB (lo hi x : Int) : Bool := decide (lo ≤ x) && decide (x ≤ hi)
theorem within_inB (x lo hi : Int) : impl_within.f x lo hi = some (inB lo hi x) := by
  unfold impl_within.f inB
  by_cases h : lo ≤ x <;> simp [h]
theorem l1In_inB (x lo hi : Int) : spec_l1In.f x lo hi = some (inB lo hi x) := by
  unfold spec_l1In.f inB
  by_cases h : lo ≤ x <;> simp [h]

def cntL (n : Nat) (l : List Int) : List Int := (List.range n).map fun j : Nat => ((l.count (j : Int) : Nat) : Int)
def okT (n : Nat) (l : List Int) : Bool := l.all (inB 0 ((n : Int) - 1)) && (List.range n).all fun j : Nat => decide (l.count (j : Int) ≤ 2)
def timesR (n : Nat) (l : List Int) : List Int × Bool := if okT n l = true then (cntL n l, true) else ([], false)
theorem cntL_len (n : Nat) (l : List Int) : (cntL n l).length = n := by simp [cntL]
theorem cntL_get {n j : Nat} {l : List Int} (h : j < n) : (cntL n l)[j]? = some ((l.count (j : Int) : Nat) : Int) := by simp [cntL, h]
theorem cntL_rd {n j : Nat} {l : List Int} (h : j < n) : rd (cntL n l) (j : Int) = ((l.count (j : Int) : Nat) : Int) := by
  unfold rd
  rw [List.getD_eq_getElem?_getD, Int.toNat_natCast, cntL_get h]
  rfl
theorem cntL_snoc {n q : Nat} {p : List Int} (hq : q < n) : (cntL n p).set q (((p.count (q : Int) : Nat) : Int) + 1) = cntL n (p ++ [(q : Int)]) := by
  apply List.ext_getElem?
  intro j
  by_cases h : j < n
  · rw [cntL_get h]
    by_cases e : j = q
    · subst e
      rw [List.getElem?_set_self (by rw [cntL_len]; omega)]
      simp
    · have hne : ¬ (q : Int) = (j : Int) := by omega
      rw [List.getElem?_set_ne (by omega), cntL_get h]
      simp [List.count_append, hne]
  · rw [List.getElem?_eq_none (by rw [List.length_set, cntL_len]; omega), List.getElem?_eq_none (by rw [cntL_len]; omega)]
theorem cntL_nil (n : Nat) : cntL n [] = List.replicate n 0 := by
  apply List.ext_getElem?
  intro j
  by_cases h : j < n
  · rw [cntL_get h]
    simp [h]
  · rw [List.getElem?_eq_none (by rw [cntL_len]; omega), List.getElem?_eq_none (by simp; omega)]
theorem take_rd {l : List Int} {i : Nat} (h : i < l.length) : l.take (i + 1) = l.take i ++ [rd l (i : Int)] := by
  rw [List.take_succ_eq_append_getElem h, rd_get h]
theorem count_take_le (l : List Int) (i : Nat) (a : Int) : (l.take i).count a ≤ l.count a := List.Sublist.count_le _ (List.take_sublist i l)

theorem okT_range {n : Nat} {l : List Int} {i : Nat} (h : i < l.length) (hb : inB 0 ((n : Int) - 1) (rd l (i : Int)) = false) : okT n l = false := by
  have : l.all (inB 0 ((n : Int) - 1)) = false := by
    rw [List.all_eq_false]
    refine ⟨rd l (i : Int), ?_, by rw [hb]; decide⟩
    rw [rd_get h]
    exact List.getElem_mem h
  unfold okT
  rw [this]
  rfl
theorem okT_thrice {n : Nat} {l : List Int} {i q : Nat} (h : i < l.length) (hq : q < n) (hx : rd l (i : Int) = (q : Int)) (hc : (l.take i).count (q : Int) = 2) : okT n l = false := by
  have h1 := count_take_le l (i + 1) (q : Int)
  rw [take_rd h, hx, List.count_append, hc] at h1
  simp at h1
  have : ((List.range n).all fun j : Nat => decide (l.count (j : Int) ≤ 2)) = false := by
    rw [List.all_eq_false]
    refine ⟨q, by simpa using hq, ?_⟩
    simp
    omega
  unfold okT
  rw [this, Bool.and_false]

theorem counts_loop (n : Nat) (h40 : n ≤ 1000) (l : List Int) (hn : l.length ≤ 2097152) (d : Nat) : ∀ (i : Nat), i + d = l.length → (l.take i).all (inB 0 ((n : Int) - 1)) = true → (∀ j, j < n → (l.take i).count (j : Int) ≤ 2) →
    Ev (fun k => spec_laCounts.l0 k (n : Int) (cntL n (l.take i)) l (l.length : Int) (i : Int)) (timesR n l) ∧ Ev (fun k => impl_times.l0 k (n : Int) (cntL n (l.take i)) l (l.length : Int) (i : Int)) (timesR n l) := by
  induction d with
  | zero =>
    intro i hi ha hc
    rw [List.take_of_length_le (by omega)] at ha hc
    have ho : okT n l = true := by
      unfold okT
      rw [ha, Bool.true_and, List.all_eq_true]
      intro j hj
      simpa using hc j (by simpa using hj)
    rw [List.take_of_length_le (by omega), show timesR n l = (cntL n l, true) from by unfold timesR; rw [if_pos ho]]
    constructor
    · refine Ev.step (f := fun _ => some (cntL n l, true)) (fun k => ?_) (Ev.now _)
      simp only [spec_laCounts.l0]
      rw [if_neg (by omega)]
    · refine Ev.step (f := fun _ => some (cntL n l, true)) (fun k => ?_) (Ev.now _)
      simp only [impl_times.l0]
      rw [if_neg (by omega)]
  | succ d ih =>
    intro i hi ha hc
    have hlt : i < l.length := by omega
    have hw : wrap64 ((n : Int) - 1) = (n : Int) - 1 := w64 (by omega) (by omega)
    cases hb : inB 0 ((n : Int) - 1) (rd l (i : Int)) with
    | false =>
      rw [show timesR n l = ([], false) from by unfold timesR; rw [if_neg (by rw [okT_range hlt hb]; decide)]]
      constructor
      · refine Ev.step (f := fun _ => some ([], false)) (fun k => ?_) (Ev.now _)
        simp only [spec_laCounts.l0, l1In_inB, Option.bind_some]
        rw [if_pos (by omega), if_pos (by omega), if_pos (by omega), hw, if_neg (by rw [hb]; decide)]
      · refine Ev.step (f := fun _ => some ([], false)) (fun k => ?_) (Ev.now _)
        simp only [impl_times.l0, within_inB, Option.bind_some]
        rw [if_pos (by omega), if_pos (by omega), if_pos (by omega), hw, if_neg (by rw [hb]; decide)]
    | true =>
      have hx := hb
      simp [inB] at hx
      obtain ⟨q, hq⟩ := Int.eq_ofNat_of_zero_le hx.1
      have hqn : q < n := by omega
      by_cases h2 : (l.take i).count (q : Int) = 2
      · rw [show timesR n l = ([], false) from by unfold timesR; rw [if_neg (by rw [okT_thrice hlt hqn hq h2]; decide)]]
        constructor
        · refine Ev.step (f := fun _ => some ([], false)) (fun k => ?_) (Ev.now _)
          simp only [spec_laCounts.l0, l1In_inB, Option.bind_some]
          rw [if_pos (by omega), if_pos (by omega), if_pos (by omega), hw, if_pos hb, if_pos hx.1, if_pos (by rw [cntL_len]; omega), hq, cntL_rd hqn, if_pos (by omega)]
        · refine Ev.step (f := fun _ => some ([], false)) (fun k => ?_) (Ev.now _)
          simp only [impl_times.l0, within_inB, Option.bind_some]
          rw [if_pos (by omega), if_pos (by omega), if_pos (by omega), hw, if_pos hb, if_pos hx.1, if_pos (by rw [cntL_len]; omega), hq, cntL_rd hqn, if_pos (by omega)]
      · have hle := hc q hqn
        have hs := ih (i + 1) (by omega) (by rw [take_rd hlt, List.all_append, ha]; simp [hb]) (fun j hj => by
          rw [take_rd hlt, hq, List.count_append]
          by_cases e : j = q
          · subst e
            simp
            omega
          · have hne : ¬ (q : Int) = (j : Int) := by omega
            have := hc j hj
            simp [hne]
            omega)
        rw [take_rd hlt, hq, ← cntL_snoc hqn] at hs
        have hw2 : wrap64 ((((l.take i).count (q : Int) : Nat) : Int) + 1) = (((l.take i).count (q : Int) : Nat) : Int) + 1 := w64 (by omega) (by omega)
        have hne2 : ¬ (((l.take i).count (q : Int) : Nat) : Int) = 2 := by omega
        constructor
        · refine Ev.step (fun k => ?_) hs.1
          simp only [spec_laCounts.l0, l1In_inB, Option.bind_some]
          rw [if_pos (by omega), if_pos (by omega), if_pos (by omega), hw, if_pos hb, if_pos hx.1, if_pos (by rw [cntL_len]; omega), hq, cntL_rd hqn, if_neg hne2, hw2, Int.toNat_natCast, w64s hlt (by omega)]
        · refine Ev.step (fun k => ?_) hs.2
          simp only [impl_times.l0, within_inB, Option.bind_some]
          rw [if_pos (by omega), if_pos (by omega), if_pos (by omega), hw, if_pos hb, if_pos hx.1, if_pos (by rw [cntL_len]; omega), hq, cntL_rd hqn, if_neg hne2, hw2, Int.toNat_natCast, w64s hlt (by omega)]
theorem times_ev (n : Nat) (h40 : n ≤ 1000) (l : List Int) (hn : l.length ≤ 2097152) : Ev (fun k => impl_times.f k (n : Int) l) (timesR n l) := by
  have h := (counts_loop n h40 l hn l.length 0 (by omega) (by simp) (by simp)).2
  rw [List.take_zero, cntL_nil] at h
  refine Ev.congr (fun k => ?_) h
  unfold impl_times.f
  rw [if_pos (by omega), Int.toNat_natCast, if_pos (by omega)]
  rfl
theorem counts_ev (n : Nat) (h40 : n ≤ 1000) (l : List Int) (hn : l.length ≤ 2097152) : Ev (fun k => spec_laCounts.f k (n : Int) l) (timesR n l) := by
  have h := (counts_loop n h40 l hn l.length 0 (by omega) (by simp) (by simp)).1
  rw [List.take_zero, cntL_nil] at h
  refine Ev.congr (fun k => ?_) h
  unfold spec_laCounts.f
  rw [if_pos (by omega), Int.toNat_natCast, if_pos (by omega)]
  rfl

end Go.Proofs.Ytbfapmckkmmnjaa.X
