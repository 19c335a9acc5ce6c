/- Texts of this seat in one: PlTo, PlTimes, PlRack, PlEx, PlSteps. -/
import Derived.Test.YtbmhelacjnlmaaaXlawstoIntS
import Derived.Test.YtbmhelacjnlmaaaXlawseqIntS
import Derived.Test.YtbmhelacjnlmaaaXimplwithin
import Derived.Test.YtbmhelacjnlmaaaXspecl1In
import Derived.Test.YtbmhelacjnlmaaaXimpltimes
import Derived.Test.YtbmhelacjnlmaaaHareWithin
import Derived.Test.YtbmhelacjnlmaaaXspecAreSizes
import Derived.Test.YtbmhelacjnlmaaaXimplAreSizes
import Derived.Test.YtbmhelacjnlmaaaXspecIsRack
import Derived.Test.YtbmhelacjnlmaaaXimplIsRack
import Derived.Test.YtbmhelacjnlmaaaXspecExchangeShoes
import Derived.Test.YtbmhelacjnlmaaaXimplExchangeShoes
import Derived.Test.YtbmhelacjnlmaaaXspecFewestExchanges
import Derived.Test.YtbmhelacjnlmaaaXimplFewestExchanges
import Derived.Test.YtbmhelacjnlmaaaHpartner
import Derived.Test.YtbmhelacjnlmaaaXspecFewestNeighbourSteps
import Derived.Test.YtbmhelacjnlmaaaHFewestNeighbourSteps
/- ==== PlTo ==== -/
namespace Go.Proofs.Ytbmhelacjnlmaaa.X
open Go.RowKit Go.Proofs.YtbmhelacjnlmaaaW.PrintWords Go.Proofs.YtbmhelacjnlmaaaW.PrintLast Go.Proofs.YtbmhelacjnlmaaaW.PrintMore

theorem w64 {x : Int} (h0 : -9223372036854775808 ≤ x) (h1 : x ≤ 9223372036854775807) : wrap64 x = x := by unfold wrap64; omega
theorem w64s {i n : Nat} (h : i < n) (hn : n ≤ 1073741824) : wrap64 ((i : Int) + 1) = ((i + 1 : Nat) : Int) := by unfold wrap64; omega
theorem rd_get {l : List Int} {i : Nat} (h : i < l.length) : rd l (i : Int) = l[i] := by simp [rd, List.getD_eq_getElem?_getD, h]
theorem i64_of {n : Int} (h : (Lit.int .i64 n).wf = true) : -9223372036854775808 ≤ n ∧ n ≤ 9223372036854775807 := by
  simp [Lit.wf, IntKind.min, IntKind.max, IntKind.signed, IntKind.bits] at h
  omega

theorem toIntS_loop (l : List Int) (hn : l.length ≤ 1048576) (d : Nat) : ∀ (i : Nat) (acc : List Int), i + d = l.length → acc.length = l.length → (∀ j, j < i → acc[j]? = l[j]?) →
    Ev (fun k => laws_toIntS.l0 k l acc (i : Int)) l := by
  induction d with
  | zero =>
    intro i acc hi ha hp
    have e : acc = l := by
      apply List.ext_getElem?
      intro j
      by_cases hj : j < i
      · exact hp j hj
      · rw [List.getElem?_eq_none (by omega), List.getElem?_eq_none (by omega)]
    subst e
    refine Ev.step (f := fun _ => some acc) (fun k => ?_) (Ev.now _)
    simp only [laws_toIntS.l0]
    rw [if_neg (by omega)]
  | succ d ih =>
    intro i acc hi ha hp
    refine Ev.step (f := fun k => laws_toIntS.l0 k l (acc.set i (rd l (i : Int))) ((i + 1 : Nat) : Int)) (fun k => ?_) (ih (i + 1) _ (by omega) (by simpa using ha) (fun j hj => ?_))
    · simp only [laws_toIntS.l0]
      rw [if_pos (by omega), if_pos (by omega), if_pos (by omega), w64s (show i < l.length by omega) (by omega), Int.toNat_natCast]
    · by_cases e : j = i
      · subst e
        rw [List.getElem?_set_self (by omega), rd_get (by omega), List.getElem?_eq_getElem (by omega)]
      · rw [List.getElem?_set_ne (by omega)]
        exact hp j (by omega)
theorem toIntS_ev (l : List Int) (hn : l.length ≤ 1048576) : Ev (fun k => laws_toIntS.f k l) l := by
  refine Ev.congr (f := fun k => laws_toIntS.l0 k l (List.replicate l.length 0) ((0 : Nat) : Int)) (fun k => ?_) (toIntS_loop l hn l.length 0 _ (by omega) (by simp) (fun j hj => absurd hj (by omega)))
  unfold laws_toIntS.f
  rw [if_pos (by omega), if_pos (by simp; omega)]
  simp

theorem eqIntS_loop (l : List Int) (hn : l.length ≤ 1073741824) (d : Nat) : ∀ (i : Nat), i + d = l.length → Ev (fun k => laws_eqIntS.l0 k l l (i : Int)) true := by
  induction d with
  | zero =>
    intro i hi
    refine Ev.step (f := fun _ => some true) (fun k => ?_) (Ev.now _)
    simp only [laws_eqIntS.l0]
    rw [if_neg (by omega)]
  | succ d ih =>
    intro i hi
    refine Ev.step (f := fun k => laws_eqIntS.l0 k l l ((i + 1 : Nat) : Int)) (fun k => ?_) (ih (i + 1) (by omega))
    simp only [laws_eqIntS.l0]
    rw [if_pos (by omega), if_pos (by omega), if_pos (by omega), if_pos trivial, w64s (show i < l.length by omega) (by omega)]
theorem eqIntS_ev (l : List Int) (hn : l.length ≤ 1073741824) : Ev (fun k => laws_eqIntS.f k l l) true := by
  refine Ev.congr (f := fun k => laws_eqIntS.l0 k l l ((0 : Nat) : Int)) (fun k => ?_) (eqIntS_loop l hn l.length 0 (by omega))
  unfold laws_eqIntS.f
  rw [if_pos rfl]
  rfl

end Go.Proofs.Ytbmhelacjnlmaaa.X

/- ==== PlTimes ==== -/
namespace Go.Proofs.Ytbmhelacjnlmaaa.X
open Go.RowKit Go.Proofs.YtbmhelacjnlmaaaW.PrintWords Go.Proofs.YtbmhelacjnlmaaaW.PrintLast Go.Proofs.YtbmhelacjnlmaaaW.PrintMore

theorem l1In_inB (x lo hi : Int) : spec_l1In.f x lo hi = some (inB lo hi x) := by
  unfold spec_l1In.f inB
  by_cases h : lo ≤ x <;> simp [h]

def cntL (n : Nat) (l : List Int) : List Int := (List.range n).map fun j : Nat => ((l.count (j : Int) : Nat) : Int)
def okT (n : Nat) (l : List Int) : Bool := l.all (inB 0 ((n : Int) - 1)) && (List.range n).all fun j : Nat => decide (l.count (j : Int) ≤ 2)
def timesR (n : Nat) (l : List Int) : List Int × Bool := if okT n l = true then (cntL n l, true) else ([], false)
theorem cntL_len (n : Nat) (l : List Int) : (cntL n l).length = n := by simp [cntL]
theorem cntL_get {n j : Nat} {l : List Int} (h : j < n) : (cntL n l)[j]? = some ((l.count (j : Int) : Nat) : Int) := by simp [cntL, h]
theorem cntL_rd {n j : Nat} {l : List Int} (h : j < n) : rd (cntL n l) (j : Int) = ((l.count (j : Int) : Nat) : Int) := by
  unfold rd
  rw [List.getD_eq_getElem?_getD, Int.toNat_natCast, cntL_get h]
  rfl
theorem cntL_snoc {n q : Nat} {p : List Int} (hq : q < n) : (cntL n p).set q (((p.count (q : Int) : Nat) : Int) + 1) = cntL n (p ++ [(q : Int)]) := by
  apply List.ext_getElem?
  intro j
  by_cases h : j < n
  · rw [cntL_get h]
    by_cases e : j = q
    · subst e
      rw [List.getElem?_set_self (by rw [cntL_len]; omega)]
      simp
    · have hne : ¬ (q : Int) = (j : Int) := by omega
      rw [List.getElem?_set_ne (by omega), cntL_get h]
      simp [List.count_append, hne]
  · rw [List.getElem?_eq_none (by rw [List.length_set, cntL_len]; omega), List.getElem?_eq_none (by rw [cntL_len]; omega)]
theorem cntL_nil (n : Nat) : cntL n [] = List.replicate n 0 := by
  apply List.ext_getElem?
  intro j
  by_cases h : j < n
  · rw [cntL_get h]
    simp [h]
  · rw [List.getElem?_eq_none (by rw [cntL_len]; omega), List.getElem?_eq_none (by simp; omega)]
theorem take_rd {l : List Int} {i : Nat} (h : i < l.length) : l.take (i + 1) = l.take i ++ [rd l (i : Int)] := by
  rw [List.take_succ_eq_append_getElem h, rd_get h]
theorem count_take_le (l : List Int) (i : Nat) (a : Int) : (l.take i).count a ≤ l.count a := List.Sublist.count_le _ (List.take_sublist i l)

theorem okT_range {n : Nat} {l : List Int} {i : Nat} (h : i < l.length) (hb : inB 0 ((n : Int) - 1) (rd l (i : Int)) = false) : okT n l = false := by
  have : l.all (inB 0 ((n : Int) - 1)) = false := by
    rw [List.all_eq_false]
    refine ⟨rd l (i : Int), ?_, by rw [hb]; decide⟩
    rw [rd_get h]
    exact List.getElem_mem h
  unfold okT
  rw [this]
  rfl
theorem okT_thrice {n : Nat} {l : List Int} {i q : Nat} (h : i < l.length) (hq : q < n) (hx : rd l (i : Int) = (q : Int)) (hc : (l.take i).count (q : Int) = 2) : okT n l = false := by
  have h1 := count_take_le l (i + 1) (q : Int)
  rw [take_rd h, hx, List.count_append, hc] at h1
  simp at h1
  have : ((List.range n).all fun j : Nat => decide (l.count (j : Int) ≤ 2)) = false := by
    rw [List.all_eq_false]
    refine ⟨q, by simpa using hq, ?_⟩
    simp
    omega
  unfold okT
  rw [this, Bool.and_false]

theorem counts_loop (n : Nat) (h40 : n ≤ 1000) (l : List Int) (hn : l.length ≤ 2097152) (d : Nat) : ∀ (i : Nat), i + d = l.length → (l.take i).all (inB 0 ((n : Int) - 1)) = true → (∀ j, j < n → (l.take i).count (j : Int) ≤ 2) →
    True ∧ Ev (fun k => impl_times.l0 k (n : Int) (cntL n (l.take i)) l (l.length : Int) (i : Int)) (timesR n l) := by
  induction d with
  | zero =>
    intro i hi ha hc
    rw [List.take_of_length_le (by omega)] at ha hc
    have ho : okT n l = true := by
      unfold okT
      rw [ha, Bool.true_and, List.all_eq_true]
      intro j hj
      simpa using hc j (by simpa using hj)
    rw [List.take_of_length_le (by omega), show timesR n l = (cntL n l, true) from by unfold timesR; rw [if_pos ho]]
    constructor
    · trivial
    · refine Ev.step (f := fun _ => some (cntL n l, true)) (fun k => ?_) (Ev.now _)
      simp only [impl_times.l0]
      rw [if_neg (by omega)]
  | succ d ih =>
    intro i hi ha hc
    have hlt : i < l.length := by omega
    have hw : wrap64 ((n : Int) - 1) = (n : Int) - 1 := w64 (by omega) (by omega)
    cases hb : inB 0 ((n : Int) - 1) (rd l (i : Int)) with
    | false =>
      rw [show timesR n l = ([], false) from by unfold timesR; rw [if_neg (by rw [okT_range hlt hb]; decide)]]
      constructor
      · trivial
      · refine Ev.step (f := fun _ => some ([], false)) (fun k => ?_) (Ev.now _)
        simp only [impl_times.l0, within_inB, Option.bind_some]
        rw [if_pos (by omega), if_pos (by omega), if_pos (by omega), hw, if_neg (by rw [hb]; decide)]
    | true =>
      have hx := hb
      simp [inB] at hx
      obtain ⟨q, hq⟩ := Int.eq_ofNat_of_zero_le hx.1
      have hqn : q < n := by omega
      by_cases h2 : (l.take i).count (q : Int) = 2
      · rw [show timesR n l = ([], false) from by unfold timesR; rw [if_neg (by rw [okT_thrice hlt hqn hq h2]; decide)]]
        constructor
        · trivial
        · refine Ev.step (f := fun _ => some ([], false)) (fun k => ?_) (Ev.now _)
          simp only [impl_times.l0, within_inB, Option.bind_some]
          rw [if_pos (by omega), if_pos (by omega), if_pos (by omega), hw, if_pos hb, if_pos hx.1, if_pos (by rw [cntL_len]; omega), hq, cntL_rd hqn, if_pos (by omega)]
      · have hle := hc q hqn
        have hs := ih (i + 1) (by omega) (by rw [take_rd hlt, List.all_append, ha]; simp [hb]) (fun j hj => by
          rw [take_rd hlt, hq, List.count_append]
          by_cases e : j = q
          · subst e
            simp
            omega
          · have hne : ¬ (q : Int) = (j : Int) := by omega
            have := hc j hj
            simp [hne]
            omega)
        rw [take_rd hlt, hq, ← cntL_snoc hqn] at hs
        have hw2 : wrap64 ((((l.take i).count (q : Int) : Nat) : Int) + 1) = (((l.take i).count (q : Int) : Nat) : Int) + 1 := w64 (by omega) (by omega)
        have hne2 : ¬ (((l.take i).count (q : Int) : Nat) : Int) = 2 := by omega
        constructor
        · trivial
        · refine Ev.step (fun k => ?_) hs.2
          simp only [impl_times.l0, within_inB, Option.bind_some]
          rw [if_pos (by omega), if_pos (by omega), if_pos (by omega), hw, if_pos hb, if_pos hx.1, if_pos (by rw [cntL_len]; omega), hq, cntL_rd hqn, if_neg hne2, hw2, Int.toNat_natCast, w64s hlt (by omega)]
theorem times_ev (n : Nat) (h40 : n ≤ 1000) (l : List Int) (hn : l.length ≤ 2097152) : Ev (fun k => impl_times.f k (n : Int) l) (timesR n l) := by
  have h := (counts_loop n h40 l hn l.length 0 (by omega) (by simp) (by simp)).2
  rw [List.take_zero, cntL_nil] at h
  refine Ev.congr (fun k => ?_) h
  unfold impl_times.f
  rw [if_pos (by omega), Int.toNat_natCast, if_pos (by omega)]
  rfl

end Go.Proofs.Ytbmhelacjnlmaaa.X

/- ==== PlRack ==== -/
namespace Go.Proofs.Ytbmhelacjnlmaaa.X
open Go.RowKit Go.Proofs.YtbmhelacjnlmaaaW.PrintWords Go.Proofs.YtbmhelacjnlmaaaW.PrintLast Go.Proofs.YtbmhelacjnlmaaaW.PrintMore

theorem drop_get {l : List Int} {i : Nat} (h : i < l.length) : l.drop i = rd l (i : Int) :: l.drop (i + 1) := by
  rw [List.drop_eq_getElem_cons h, rd_get h]
theorem l1All_loop (l : List Int) (lo up : Int) (hn : l.length ≤ 1048576) (d : Nat) : ∀ (i : Nat), i + d = l.length → Ev (fun k => spec_l1All.l0 k lo up l (l.length : Int) (i : Int)) ((l.drop i).all (inB lo up)) := by
  induction d with
  | zero =>
    intro i hi
    rw [List.drop_of_length_le (by omega)]
    refine Ev.step (f := fun _ => some true) (fun k => ?_) (Ev.now _)
    simp only [spec_l1All.l0]
    rw [if_neg (by omega)]
  | succ d ih =>
    intro i hi
    have hlt : i < l.length := by omega
    rw [drop_get hlt, List.all_cons]
    cases hb : inB lo up (rd l (i : Int)) with
    | false =>
      rw [Bool.false_and]
      refine Ev.step (f := fun _ => some false) (fun k => ?_) (Ev.now _)
      simp only [spec_l1All.l0, l1In_inB, Option.bind_some]
      rw [if_pos (by omega), if_pos (by omega), if_pos (by omega), if_neg (by rw [hb]; decide)]
    | true =>
      rw [Bool.true_and]
      refine Ev.step (fun k => ?_) (ih (i + 1) (by omega))
      simp only [spec_l1All.l0, l1In_inB, Option.bind_some]
      rw [if_pos (by omega), if_pos (by omega), if_pos (by omega), if_pos hb, w64s hlt (by omega)]
theorem l1All_ev (l : List Int) (lo up : Int) (hn : l.length ≤ 1048576) : Ev (fun k => spec_l1All.f k l lo up) (l.all (inB lo up)) := by
  have := l1All_loop l lo up hn l.length 0 (by omega)
  simpa [spec_l1All.f] using this

theorem AreSizes_both (l : List Int) (hn : l.length ≤ 1048576) : ∃ r, Ev (fun k => spec_AreSizes.f k l) r ∧ Ev (fun _ => impl_AreSizes.f l) r := by
  refine ⟨inB 1 7 (l.length : Int) && l.all (inB 1 60), ?_, ?_⟩
  · refine Ev.bind (f := fun _ t => some t) (a := inB 1 7 (l.length : Int) && l.all (inB 1 60)) ?_ (Ev.now _)
    cases hq : inB 1 7 (l.length : Int) with
    | false => exact Ev.congr (f := fun _ => some false) (fun k => by simp [spec_shGood.f, l1In_inB, hq]) (by simpa using Ev.now false)
    | true => exact Ev.congr (f := fun k => (spec_l1All.f k l 1 60).bind fun t => some t) (fun k => by simp [spec_shGood.f, l1In_inB, hq]) (Ev.bind (l1All_ev l 1 60 hn) (by simpa using Ev.now _))
  · refine Ev.congr (f := fun _ => some (inB 1 7 (l.length : Int) && l.all (inB 1 60))) (fun k => ?_) (Ev.now _)
    cases hq : inB 1 7 (l.length : Int) <;> simp [impl_AreSizes.f, impl_areWithin.f, within_inB, hq]

def sumNat : Nat → (Nat → Nat) → Nat
  | 0, _ => 0
  | n + 1, f => sumNat n f + f n
theorem sumNat_add (n : Nat) (f g : Nat → Nat) : sumNat n (fun j => f j + g j) = sumNat n f + sumNat n g := by
  induction n with
  | zero => rfl
  | succ n ih => simp only [sumNat]; rw [ih]; omega
theorem sumNat_one (n q : Nat) (h : q < n) : sumNat n (fun j => if q = j then 1 else 0) = 1 := by
  have hz : ∀ m, m ≤ q → sumNat m (fun j => if q = j then 1 else 0) = 0 := by
    intro m
    induction m with
    | zero => intro _; rfl
    | succ m ih => intro hm; simp only [sumNat]; rw [ih (by omega), if_neg (by omega)]
  induction n with
  | zero => omega
  | succ n ih =>
    simp only [sumNat]
    by_cases e : q = n
    · subst e
      rw [hz q (Nat.le_refl _), if_pos rfl]
    · rw [ih (by omega), if_neg e]
theorem sumNat_zero (n : Nat) : sumNat n (fun _ => 0) = 0 := by
  induction n with
  | zero => rfl
  | succ n ih => simp only [sumNat]; rw [ih]
theorem sum_count (n : Nat) : ∀ (l : List Int), l.all (inB 0 ((n : Int) - 1)) = true → sumNat n (fun j => l.count (j : Int)) = l.length := by
  intro l
  induction l with
  | nil =>
    intro _
    simp only [List.count_nil, List.length_nil]
    exact sumNat_zero n
  | cons x r ih =>
    intro h
    rw [List.all_cons, Bool.and_eq_true] at h
    have hx := h.1
    simp [inB] at hx
    obtain ⟨q, rfl⟩ := Int.eq_ofNat_of_zero_le hx.1
    have e : (fun j : Nat => ((q : Int) :: r).count (j : Int)) = fun j : Nat => r.count (j : Int) + (if q = j then 1 else 0) := by
      funext j
      rw [List.count_cons]
      by_cases e : q = j
      · subst e
        simp
      · have hne : ¬ (q : Int) = (j : Int) := by omega
        simp [hne, e]
    rw [e, sumNat_add, ih h.2, sumNat_one n q (by omega)]
    rfl
theorem sum_le (n : Nat) (f : Nat → Nat) (h : ∀ j, j < n → f j ≤ 2) : sumNat n f ≤ 2 * n := by
  induction n with
  | zero => simp [sumNat]
  | succ n ih =>
    have h1 := ih (fun j hj => h j (by omega))
    have h2 := h n (by omega)
    simp only [sumNat]
    omega
theorem sum_two (n : Nat) (f : Nat → Nat) (h : ∀ j, j < n → f j ≤ 2) (hs : sumNat n f = 2 * n) : ∀ j, j < n → f j = 2 := by
  induction n with
  | zero => intro j hj; omega
  | succ n ih =>
    have h2 := h n (by omega)
    have h3 := sum_le n f (fun j hj => h j (by omega))
    simp only [sumNat] at hs
    intro j hj
    by_cases e : j = n
    · subst e
      omega
    · exact ih (fun j hj => h j (by omega)) (by omega) j (by omega)

def rk (n : Nat) (l : List Int) : Bool := (List.range n).all fun j : Nat => decide (l.count (j : Int) = 2)
theorem okT_rk {n : Nat} {l : List Int} (hl : l.length = 2 * n) : okT n l = (l.all (inB 0 ((n : Int) - 1)) && rk n l) := by
  unfold okT
  cases ha : l.all (inB 0 ((n : Int) - 1)) with
  | false => rfl
  | true =>
    rw [Bool.true_and, Bool.true_and]
    have hs := sum_count n l ha
    rw [hl] at hs
    rw [Bool.eq_iff_iff]
    unfold rk
    simp only [List.all_eq_true, List.mem_range, decide_eq_true_eq]
    constructor
    · intro h
      exact sum_two n _ h hs
    · intro h j hj
      have := h j hj
      omega

theorem shRack_count (l : List Int) (hn : l.length ≤ 1048576) (j : Nat) (r : Bool) (hyes : l.count (j : Int) = 2 → Ev (fun k => spec_shRack.l0 k l ((j + 1 : Nat) : Int)) r) (hj : j ≤ 1048576) (hno : l.count (j : Int) ≠ 2 → r = false) (d : Nat) : ∀ (i : Nat), i + d = l.length →
    Ev (fun k => spec_shRack.l1 k l (j : Int) (((l.take i).count (j : Int) : Nat) : Int) l (l.length : Int) (i : Int)) r := by
  induction d with
  | zero =>
    intro i hi
    rw [List.take_of_length_le (by omega)]
    by_cases h2 : l.count (j : Int) = 2
    · refine Ev.step (fun k => ?_) (hyes h2)
      simp only [spec_shRack.l1]
      rw [if_neg (by omega), if_pos (by omega), w64 (x := (j : Int) + 1) (by omega) (by omega)]
      rfl
    · rw [hno h2]
      refine Ev.step (f := fun _ => some false) (fun k => ?_) (Ev.now _)
      simp only [spec_shRack.l1]
      rw [if_neg (by omega), if_neg (by omega)]
  | succ d ih =>
    intro i hi
    have hlt : i < l.length := by omega
    have hs := ih (i + 1) (by omega)
    have hcl : (l.take i).count (j : Int) ≤ i := Nat.le_trans List.count_le_length (by rw [List.length_take]; omega)
    rw [take_rd hlt, List.count_append] at hs
    by_cases e : rd l (i : Int) = (j : Int)
    · rw [e] at hs
      refine Ev.step (fun k => ?_) hs
      simp only [spec_shRack.l1]
      rw [if_pos (by omega), if_pos (by omega), if_pos (by omega), if_pos e, w64s hlt (by omega), w64 (by omega) (by omega)]
      simp
    · have h0 : [rd l (i : Int)].count (j : Int) = 0 := by simp [e]
      rw [h0] at hs
      refine Ev.step (fun k => ?_) hs
      simp only [spec_shRack.l1]
      rw [if_pos (by omega), if_pos (by omega), if_pos (by omega), if_neg e, w64s hlt (by omega)]
      rfl
theorem shRack_loop (l : List Int) (n : Nat) (hl : l.length = 2 * n) (h16 : l.length ≤ 16) (d : Nat) : ∀ (j : Nat), j + d = n → (∀ q, q < j → l.count (q : Int) = 2) → Ev (fun k => spec_shRack.l0 k l (j : Int)) (rk n l) := by
  have hw : wrap64 ((l.length : Int) / 2) = (n : Int) := by rw [w64 (by omega) (by omega)]; omega
  induction d with
  | zero =>
    intro j hj hp
    have e : rk n l = true := by
      unfold rk
      simp only [List.all_eq_true, List.mem_range, decide_eq_true_eq]
      intro q hq
      exact hp q (by omega)
    rw [e]
    refine Ev.step (f := fun _ => some true) (fun k => ?_) (Ev.now _)
    simp only [spec_shRack.l0]
    rw [hw, if_neg (by omega)]
  | succ d ih =>
    intro j hj hp
    have hc := shRack_count l (by omega) j (rk n l) (fun h2 => ih (j + 1) (by omega) (fun q hq => by
      by_cases e : q = j
      · subst e
        exact h2
      · exact hp q (by omega))) (by omega) (fun h2 => by
      unfold rk
      rw [List.all_eq_false]
      exact ⟨j, by simp; omega, by simpa using h2⟩) l.length 0 (by omega)
    refine Ev.step (fun k => ?_) hc
    simp only [spec_shRack.l0]
    rw [hw, if_pos (by omega)]
    rfl

def rackB (l : List Int) : Bool := decide (l.length % 2 = 0) && (inB 1 8 ((l.length / 2 : Nat) : Int) && okT (l.length / 2) l)
theorem shRack_ev (l : List Int) (hn : l.length ≤ 1048576) : Ev (fun k => spec_shRack.f k l) (rackB l) := by
  have hno : Ev (fun k => spec_shRack.j0 k l true) false := Ev.step (f := fun _ => some false) (fun k => by simp [spec_shRack.j0]) (Ev.now _)
  unfold rackB
  by_cases h2 : l.length % 2 = 0
  · rw [decide_eq_true h2, Bool.true_and]
    have hi : inB 2 16 (l.length : Int) = inB 1 8 ((l.length / 2 : Nat) : Int) := by
      unfold inB
      rw [Bool.eq_iff_iff]
      simp only [Bool.and_eq_true, decide_eq_true_eq]
      omega
    cases hq : inB 1 8 ((l.length / 2 : Nat) : Int) with
    | false =>
      refine Ev.congr (fun k => ?_) hno
      unfold spec_shRack.f
      rw [if_pos (by omega), l1In_inB, hi, hq]
      rfl
    | true =>
      have hx := hq
      simp [inB] at hx
      have hw : wrap64 ((wrap64 ((l.length : Int) / 2)) - 1) = ((l.length / 2 : Nat) : Int) - 1 := by rw [w64 (x := (l.length : Int) / 2) (by omega) (by omega), w64 (by omega) (by omega)]; omega
      rw [Bool.true_and, okT_rk (by omega)]
      refine Ev.congr (f := fun k => (spec_l1All.f k l 0 (((l.length / 2 : Nat) : Int) - 1)).bind fun t => spec_shRack.j0 k l (!t)) (fun k => ?_) (Ev.bind (l1All_ev l _ _ hn) ?_)
      · unfold spec_shRack.f
        rw [if_pos (by omega), l1In_inB, hi, hq, hw]
        rfl
      · cases ha : l.all (inB 0 (((l.length / 2 : Nat) : Int) - 1)) with
        | false => exact hno
        | true =>
          rw [Bool.true_and]
          refine Ev.step (f := fun k => spec_shRack.l0 k l ((0 : Nat) : Int)) (fun k => ?_) (shRack_loop l (l.length / 2) (by omega) (by omega) (l.length / 2) 0 (by omega) (fun q hq => absurd hq (by omega)))
          simp [spec_shRack.j0]
  · rw [decide_eq_false h2, Bool.false_and]
    refine Ev.congr (fun k => ?_) hno
    unfold spec_shRack.f
    rw [if_neg (by omega)]
theorem IsRack_ev (l : List Int) (hn : l.length ≤ 1048576) : Ev (fun k => impl_IsRack.f k l) (rackB l) := by
  refine Ev.bind (f := fun _ t => some t) (a := rackB l) ?_ (Ev.now _)
  unfold rackB
  by_cases h2 : l.length % 2 = 0
  · rw [decide_eq_true h2, Bool.true_and]
    have hw : wrap64 ((l.length : Int) / 2) = ((l.length / 2 : Nat) : Int) := by rw [w64 (by omega) (by omega)]; omega
    cases hq : inB 1 8 ((l.length / 2 : Nat) : Int) with
    | false =>
      refine Ev.congr (f := fun _ => some false) (fun k => ?_) (by simpa using Ev.now false)
      unfold impl_isTwice.f
      rw [if_neg (by omega), within_inB, hw, hq]
      rfl
    | true =>
      have hx := hq
      simp [inB] at hx
      refine Ev.congr (f := fun k => (impl_times.f k ((l.length / 2 : Nat) : Int) l).bind fun b => some b.2) (fun k => ?_) (Ev.bind (times_ev (l.length / 2) (by omega) l (by omega)) ?_)
      · unfold impl_isTwice.f
        rw [if_neg (by omega), within_inB, hw, hq]
        rfl
      · rw [Bool.true_and]
        refine Ev.congr (f := fun _ => some (okT (l.length / 2) l)) (fun k => ?_) (Ev.now _)
        unfold timesR
        cases okT (l.length / 2) l <;> rfl
  · rw [decide_eq_false h2, Bool.false_and]
    refine Ev.congr (f := fun _ => some false) (fun k => ?_) (Ev.now _)
    unfold impl_isTwice.f
    rw [if_pos (by omega)]
theorem IsRack_both (l : List Int) (hn : l.length ≤ 1048576) : ∃ r, Ev (fun k => spec_IsRack.f k l) r ∧ Ev (fun k => impl_IsRack.f k l) r :=
  ⟨rackB l, Ev.bind (f := fun _ t => some t) (shRack_ev l hn) (Ev.now _), IsRack_ev l hn⟩
theorem rack_len {l : List Int} (h : rackB l = true) : 2 ≤ l.length ∧ l.length ≤ 16 ∧ l.length % 2 = 0 := by
  unfold rackB at h
  simp only [Bool.and_eq_true, decide_eq_true_eq] at h
  have := h.2.1
  simp [inB] at this
  omega

theorem ExchangeShoes_both (l : List Int) (a b : Int) (hn : l.length ≤ 1048576) : ∃ r : List Int × Bool, r.1.length ≤ 16 ∧ Ev (fun k => spec_ExchangeShoes.f k l a b) r ∧ Ev (fun k => impl_ExchangeShoes.f k l a b) r := by
  have h1 := shRack_ev l hn
  have h2 := IsRack_ev l hn
  cases hs : rackB l with
  | false =>
    rw [hs] at h1 h2
    exact ⟨([], false), by simp, Ev.bind h1 (Ev.congr (fun k => by rw [if_neg (by decide)]) (Ev.now _)), Ev.bind h2 (Ev.congr (fun k => by rw [if_neg (by decide)]) (Ev.now _))⟩
  | true =>
    rw [hs] at h1 h2
    obtain ⟨hl1, hl2, _⟩ := rack_len hs
    have hw : wrap64 ((l.length : Int) - 1) = (l.length : Int) - 1 := w64 (by omega) (by omega)
    by_cases hok : inB 0 ((l.length : Int) - 1) a = true ∧ inB 0 ((l.length : Int) - 1) b = true ∧ ¬ a = b
    · obtain ⟨ha, hb, hne⟩ := hok
      have hxa := ha
      have hxb := hb
      simp [inB] at hxa hxb
      refine ⟨((l.set a.toNat (rd l b)).set b.toNat (rd l a), true), by simpa using hl2, Ev.bind h1 (Ev.congr (fun k => ?_) (Ev.now _)), Ev.bind h2 (Ev.congr (fun k => ?_) (Ev.now _))⟩
      · rw [if_pos rfl, l1In_inB, hw, ha]
        simp only [Option.bind_some, if_true]
        rw [l1In_inB, hb]
        simp only [Option.bind_some, if_true]
        rw [if_neg hne]
        have e : spec_shExchange.f l a b = some ((l.set a.toNat (rd l b)).set b.toNat (rd l a)) := by
          unfold spec_shExchange.f spec_l1Own.f
          simp only [Option.bind_some, List.nil_append, List.length_nil, Nat.zero_add]
          rw [if_pos (by omega)]
          simp only [Option.bind_some]
          rw [if_pos hxb.1, if_pos (by omega), if_pos hxa.1, if_pos (by omega), if_pos (by omega), if_pos (by omega)]
        rw [e]
        rfl
      · rw [if_pos rfl, within_inB, hw, ha]
        simp only [Option.bind_some, if_true]
        rw [within_inB, hb]
        simp only [Option.bind_some, if_true]
        rw [if_neg hne]
        unfold slices_Clone_int_int.f
        rw [if_pos (by omega)]
        simp only [Option.bind_some]
        rw [if_pos hxb.1, if_pos (by omega), if_pos hxa.1, if_pos (by omega)]
    · refine ⟨([], false), by simp, Ev.bind h1 (Ev.congr (f := fun _ => some ([], false)) (fun k => ?_) (Ev.now _)), Ev.bind h2 (Ev.congr (f := fun _ => some ([], false)) (fun k => ?_) (Ev.now _))⟩
      · rw [if_pos rfl, l1In_inB, hw]
        cases ha : inB 0 ((l.length : Int) - 1) a with
        | false => rfl
        | true =>
          simp only [Option.bind_some, if_true]
          rw [l1In_inB]
          cases hb : inB 0 ((l.length : Int) - 1) b with
          | false => rfl
          | true =>
            simp only [Option.bind_some, if_true]
            rw [if_pos (by
              by_cases e : a = b
              · exact e
              · exact absurd ⟨ha, hb, e⟩ hok)]
      · rw [if_pos rfl, within_inB, hw]
        cases ha : inB 0 ((l.length : Int) - 1) a with
        | false => rfl
        | true =>
          simp only [Option.bind_some, if_true]
          rw [within_inB]
          cases hb : inB 0 ((l.length : Int) - 1) b with
          | false => rfl
          | true =>
            simp only [Option.bind_some, if_true]
            rw [if_pos (by
              by_cases e : a = b
              · exact e
              · exact absurd ⟨ha, hb, e⟩ hok)]

end Go.Proofs.Ytbmhelacjnlmaaa.X

/- ==== PlEx ==== -/
namespace Go.Proofs.Ytbmhelacjnlmaaa.X
open Go.RowKit Go.Proofs.YtbmhelacjnlmaaaW.PrintWords Go.Proofs.YtbmhelacjnlmaaaW.PrintLast Go.Proofs.YtbmhelacjnlmaaaW.PrintMore

theorem rd_drop (l : List Int) (a q : Nat) : rd (l.drop a) (q : Int) = rd l ((a + q : Nat) : Int) := by
  unfold rd
  rw [List.getD_eq_getElem?_getD, List.getD_eq_getElem?_getD, Int.toNat_natCast, Int.toNat_natCast, List.getElem?_drop]
theorem first_of (P : Nat → Prop) [DecidablePred P] : ∀ (n : Nat), P n → ∃ p, p ≤ n ∧ P p ∧ ∀ q, q < p → ¬ P q := by
  intro n
  induction n using Nat.strongRecOn with
  | _ n ih =>
    intro h
    by_cases e : ∃ q, q < n ∧ P q
    · obtain ⟨q, hq, hp⟩ := e
      obtain ⟨p, h1, h2, h3⟩ := ih q hq hp
      exact ⟨p, by omega, h2, h3⟩
    · exact ⟨n, Nat.le_refl _, h, fun q hq hp => e ⟨q, hq, hp⟩⟩
theorem index_loop (t : List Int) (a : Int) (hn : t.length ≤ 1048576) (p : Nat) (hp : p < t.length) (ha : rd t (p : Int) = a) (hf : ∀ q, q < p → ¬ rd t (q : Int) = a) (d : Nat) : ∀ (q : Nat), q + d = p →
    Ev (fun k => slices_Index_int_int.l0 k t a (t.length : Int) (q : Int)) (p : Int) := by
  induction d with
  | zero =>
    intro q hq
    obtain rfl : q = p := by omega
    refine Ev.step (f := fun _ => some (q : Int)) (fun k => ?_) (Ev.now _)
    simp only [slices_Index_int_int.l0]
    rw [if_pos (by omega), if_pos (by omega), if_pos (by omega), if_pos ha.symm]
  | succ d ih =>
    intro q hq
    refine Ev.step (fun k => ?_) (ih (q + 1) (by omega))
    simp only [slices_Index_int_int.l0]
    rw [if_pos (by omega), if_pos (by omega), if_pos (by omega), if_neg (fun e => hf q (by omega) e.symm), w64s (n := t.length) (by omega) (by omega)]
theorem index_ev (t : List Int) (a : Int) (hn : t.length ≤ 1048576) (p : Nat) (hp : p < t.length) (ha : rd t (p : Int) = a) (hf : ∀ q, q < p → ¬ rd t (q : Int) = a) : Ev (fun k => slices_Index_int_int.f k t a) (p : Int) :=
  index_loop t a hn p hp ha hf p 0 (by omega)

def Prs (s : List Int) : Prop := ∀ v, s.count v = 0 ∨ s.count v = 2
/-- the place of the other shoe, counted from the next place -/
theorem other_of {x : List Int} {i : Nat} (hi : i < x.length) (h : Prs (x.drop i)) :
    ∃ p, i + 1 + p < x.length ∧ rd x ((i + 1 + p : Nat) : Int) = rd x (i : Int) ∧ ∀ q, q < p → ¬ rd x ((i + 1 + q : Nat) : Int) = rd x (i : Int) := by
  have h1 := h (rd x (i : Int))
  rw [drop_get hi, List.count_cons_self] at h1
  have hm : rd x (i : Int) ∈ x.drop (i + 1) := by
    rw [← List.count_pos_iff]
    omega
  obtain ⟨n, hn, he⟩ := List.getElem_of_mem hm
  rw [List.length_drop] at hn
  have e2 : rd x ((i + 1 + n : Nat) : Int) = rd x (i : Int) := by
    rw [← he, List.getElem_drop, rd_get (by omega)]
  obtain ⟨p, hp, h2, h3⟩ := first_of (fun p => rd x ((i + 1 + p : Nat) : Int) = rd x (i : Int)) n e2
  exact ⟨p, by omega, h2, h3⟩
theorem partner_ev {x : List Int} {i p : Nat} (hn : x.length ≤ 1048576) (hp : i + 1 + p < x.length) (he : rd x ((i + 1 + p : Nat) : Int) = rd x (i : Int)) (hf : ∀ q, q < p → ¬ rd x ((i + 1 + q : Nat) : Int) = rd x (i : Int)) :
    Ev (fun k => impl_partner.f k x (i : Int)) ((i + 1 + p : Nat) : Int) := by
  have h := index_ev (x.drop (i + 1)) (rd x (i : Int)) (by rw [List.length_drop]; omega) p (by rw [List.length_drop]; omega) (by rw [rd_drop]; exact he) (fun q hq => by rw [rd_drop]; exact hf q hq)
  refine Ev.congr (f := fun k => (slices_Index_int_int.f k (x.drop (i + 1)) (rd x (i : Int))).bind fun t => some (wrap64 ((i : Int) + 1 + t))) (fun k => ?_) (Ev.bind h (Ev.congr (f := fun _ => some ((i + 1 + p : Nat) : Int)) (fun k => ?_) (Ev.now _)))
  · unfold impl_partner.f
    rw [if_pos (by omega), show ((i : Int) + 1).toNat = i + 1 from by omega]
  · rw [w64 (by omega) (by omega)]
    simp
theorem prs_next {x : List Int} {i : Nat} (hi : i + 1 < x.length) (h : Prs (x.drop i)) (he : rd x ((i + 1 : Nat) : Int) = rd x (i : Int)) : Prs (x.drop (i + 2)) := by
  intro v
  have := h v
  rw [drop_get (show i < x.length by omega), drop_get hi, he, show i + 1 + 1 = i + 2 from rfl] at this
  by_cases e : rd x (i : Int) = v
  · subst e
    rw [List.count_cons_self, List.count_cons_self] at this
    omega
  · rw [List.count_cons_of_ne e, List.count_cons_of_ne e] at this
    exact this
theorem prs_swap {x : List Int} {i p : Nat} (hp : i + 1 + p < x.length) (h0 : 0 < p) (h : Prs (x.drop i)) (he : rd x ((i + 1 + p : Nat) : Int) = rd x (i : Int)) (hne : ¬ rd x ((i + 1 : Nat) : Int) = rd x (i : Int)) :
    Prs (((x.set (i + 1) (rd x ((i + 1 + p : Nat) : Int))).set (i + 1 + p) (rd x ((i + 1 : Nat) : Int))).drop (i + 2)) := by
  intro v
  have hv := h v
  rw [drop_get (show i < x.length by omega), drop_get (show i + 1 < x.length by omega)] at hv
  have e1 : ((x.set (i + 1) (rd x ((i + 1 + p : Nat) : Int))).set (i + 1 + p) (rd x ((i + 1 : Nat) : Int))).drop (i + 2) = (x.drop (i + 2)).set (p - 1) (rd x ((i + 1 : Nat) : Int)) := by
    rw [List.drop_set, if_neg (by omega), List.drop_set, if_pos (by omega), show i + 1 + p - (i + 2) = p - 1 from by omega]
  have hl : p - 1 < (x.drop (i + 2)).length := by rw [List.length_drop]; omega
  have e2 : (x.drop (i + 2))[p - 1] = rd x (i : Int) := by
    rw [List.getElem_drop, ← he, rd_get (by omega)]
    congr 1
    omega
  have hc := List.count_set (b := v) (a := rd x ((i + 1 : Nat) : Int)) hl
  rw [e2] at hc
  have hpos : (rd x (i : Int) == v) = true → 0 < (x.drop (i + 2)).count v := by
    intro e
    have e := eq_of_beq e
    subst e
    rw [List.count_pos_iff, ← e2]
    exact List.getElem_mem _
  rw [List.count_cons, List.count_cons, show i + 1 + 1 = i + 2 from rfl] at hv
  rw [e1, hc]
  clear hc e1 e2 h
  by_cases a1 : rd x (i : Int) = v
  · have a2 : ¬ rd x ((i + 1 : Nat) : Int) = v := by rw [← a1]; exact hne
    have h7 : (rd x (i : Int) == v) = true := by simp [a1]
    have h8 : (rd x ((i + 1 : Nat) : Int) == v) = false := by simpa using a2
    have := hpos h7
    rw [h7, h8] at hv
    rw [h7, h8]
    simp at hv ⊢
    omega
  · have h7 : (rd x (i : Int) == v) = false := by simpa using a1
    rw [h7] at hv
    rw [h7]
    simp at hv ⊢
    omega

theorem shEx_ev {x : List Int} {a b : Nat} (hn : x.length ≤ 1048576) (ha : a < x.length) (hb : b < x.length) : spec_shExchange.f x (a : Int) (b : Int) = some ((x.set a (rd x (b : Int))).set b (rd x (a : Int))) := by
  unfold spec_shExchange.f spec_l1Own.f
  simp only [Option.bind_some, List.nil_append, List.length_nil, Nat.zero_add]
  rw [if_pos (by omega)]
  simp only [Option.bind_some]
  rw [if_pos (by omega), if_pos (by omega), if_pos (by omega), if_pos (by omega), if_pos (by omega), if_pos (by omega)]
  rfl
theorem shAll_find (x : List Int) (o : List (List Int)) (i p : Nat) (r : List (List Int)) (hn : x.length ≤ 1048576) (ho : o.length < 5864062014805) (hp : i + 1 + p < x.length) (h0 : 0 < p) (he : rd x ((i + 1 + p : Nat) : Int) = rd x (i : Int)) (hf : ∀ q, q < p → ¬ rd x ((i + 1 + q : Nat) : Int) = rd x (i : Int))
    (hr : Ev (fun k => spec_shAll.l0 k ((x.set (i + 1) (rd x ((i + 1 + p : Nat) : Int))).set (i + 1 + p) (rd x ((i + 1 : Nat) : Int))) (o ++ [[((i + 1 : Nat) : Int), ((i + 1 + p : Nat) : Int)]]) ((i + 2 : Nat) : Int)) r) (d : Nat) :
    ∀ (q : Nat), 0 < q → q + d = p → Ev (fun k => spec_shAll.l1 k x o (i : Int) ((i + 1 + q : Nat) : Int)) r := by
  have w1 : wrap64 ((i : Int) + 1) = ((i + 1 : Nat) : Int) := w64s (n := x.length) (by omega) (by omega)
  have w2 : wrap64 ((i : Int) + 2) = ((i + 2 : Nat) : Int) := by rw [w64 (by omega) (by omega)]; rfl
  induction d with
  | zero =>
    intro q hq hd
    obtain rfl : q = p := by omega
    refine Ev.step (fun k => ?_) hr
    simp only [spec_shAll.l1]
    rw [if_pos (by omega), if_pos (by omega), if_pos (by omega), if_pos (by omega), if_pos he, if_pos ho, w1, shEx_ev hn (by omega) hp, w2]
    rfl
  | succ d ih =>
    intro q hq hd
    refine Ev.step (fun k => ?_) (ih (q + 1) (by omega) (by omega))
    simp only [spec_shAll.l1]
    rw [if_pos (by omega), if_pos (by omega), if_pos (by omega), if_pos (by omega), if_neg (hf q (by omega)), w64s (n := x.length) (by omega) (by omega)]
    rfl
def nextE (k : Nat) (x : List Int) (o : List (List Int)) (i t : Int) : Option (List (List Int) × Bool) := if t > (wrap64 (i + 1)) then (if 0 ≤ t then (if t < (x.length : Int) then (if 0 ≤ (wrap64 (i + 1)) then (if (wrap64 (i + 1)) < (x.length : Int) then (if o.length < 5864062014805 then (impl_FirstExchanges.l0 k ((x.set ((wrap64 (i + 1)) : Int).toNat (rd x t)).set (t : Int).toNat (rd x (wrap64 (i + 1)))) (o ++ [(([wrap64 (i + 1), t] : List Int))]) (wrap64 (i + 2))) else (none)) else (none)) else (none)) else (none)) else (none)) else impl_FirstExchanges.l0 k x o (wrap64 (i + 2))
theorem all_both (d : Nat) : ∀ (x : List Int) (o : List (List Int)) (i : Nat), i + 2 * d = x.length → x.length ≤ 16 → o.length + d ≤ 16 → Prs (x.drop i) →
    ∃ r, Ev (fun k => spec_shAll.l0 k x o (i : Int)) r ∧ Ev (fun k => impl_FirstExchanges.l0 k x o (i : Int)) (r, true) := by
  induction d with
  | zero =>
    intro x o i hi hl ho hp
    refine ⟨o, Ev.step (f := fun _ => some o) (fun k => ?_) (Ev.now _), Ev.step (f := fun _ => some (o, true)) (fun k => ?_) (Ev.now _)⟩
    · simp only [spec_shAll.l0]
      rw [if_neg (by omega)]
    · simp only [impl_FirstExchanges.l0]
      rw [if_neg (by omega)]
  | succ d ih =>
    intro x o i hi hl ho hp
    obtain ⟨p, h1, h2, h3⟩ := other_of (by omega) hp
    have hpt := partner_ev (by omega) h1 h2 h3
    have w1 : wrap64 ((i : Int) + 1) = ((i + 1 : Nat) : Int) := w64s (n := x.length) (by omega) (by omega)
    have w2 : wrap64 ((i : Int) + 2) = ((i + 2 : Nat) : Int) := by rw [w64 (by omega) (by omega)]; rfl
    by_cases h0 : p = 0
    · subst h0
      obtain ⟨r, hr1, hr2⟩ := ih x o (i + 2) (by omega) hl (by omega) (prs_next (by omega) hp h2)
      refine ⟨r, Ev.step (fun k => ?_) hr1, Ev.step (fun k => ?_) (Ev.bind hpt (f := fun k t => nextE k x o (i : Int) t) (r := (r, true)) (Ev.congr (fun k => ?_) hr2))⟩
      · simp only [spec_shAll.l0]
        rw [if_pos (by omega), if_pos (by omega), w1, if_pos (by omega), if_pos (by omega), if_pos h2.symm, w2]
      · simp only [impl_FirstExchanges.l0]
        rw [if_pos (by omega)]
        rfl
      · unfold nextE
        rw [w1, if_neg (by omega), w2]
    · have hne : ¬ rd x ((i + 1 : Nat) : Int) = rd x (i : Int) := h3 0 (by omega)
      obtain ⟨r, hr1, hr2⟩ := ih ((x.set (i + 1) (rd x ((i + 1 + p : Nat) : Int))).set (i + 1 + p) (rd x ((i + 1 : Nat) : Int))) (o ++ [[((i + 1 : Nat) : Int), ((i + 1 + p : Nat) : Int)]]) (i + 2) (by simp; omega) (by simp; omega) (by simp; omega) (prs_swap h1 (by omega) hp h2 hne)
      have hs := shAll_find x o i p r (by omega) (by omega) h1 (by omega) h2 h3 hr1 (p - 1) 1 (by omega) (by omega)
      refine ⟨r, Ev.step (fun k => ?_) hs, Ev.step (fun k => ?_) (Ev.bind hpt (f := fun k t => nextE k x o (i : Int) t) (r := (r, true)) (Ev.congr (fun k => ?_) hr2))⟩
      · simp only [spec_shAll.l0]
        rw [if_pos (by omega), if_pos (by omega), w1, if_pos (by omega), if_pos (by omega), if_neg (fun e => hne e.symm), w2]
      · simp only [impl_FirstExchanges.l0]
        rw [if_pos (by omega)]
        rfl
      · unfold nextE
        rw [w1, w2, if_pos (by omega), if_pos (by omega), if_pos (by omega), if_pos (by omega), if_pos (by omega), if_pos (by omega)]
        rfl
theorem rack_prs {l : List Int} (h : rackB l = true) : Prs l := by
  have hl := rack_len h
  unfold rackB at h
  simp only [Bool.and_eq_true, decide_eq_true_eq] at h
  have h2 := h.2.2
  rw [okT_rk (by omega), Bool.and_eq_true] at h2
  obtain ⟨ha, hr⟩ := h2
  intro v
  by_cases hv : v ∈ l
  · right
    rw [List.all_eq_true] at ha
    have := ha v hv
    simp [inB] at this
    obtain ⟨q, rfl⟩ := Int.eq_ofNat_of_zero_le this.1
    unfold rk at hr
    simp only [List.all_eq_true, List.mem_range, decide_eq_true_eq] at hr
    exact hr q (by omega)
  · left
    exact List.count_eq_zero_of_not_mem hv
theorem FewestExchanges_both (l : List Int) (hn : l.length ≤ 1048576) : ∃ r, Ev (fun k => spec_FewestExchanges.f k l) r ∧ Ev (fun k => impl_FewestExchanges.f k l) r := by
  have h1 := shRack_ev l hn
  have h2 := IsRack_ev l hn
  cases hs : rackB l with
  | false =>
    rw [hs] at h1 h2
    refine ⟨(0, false), Ev.bind h1 (Ev.congr (fun k => by rw [if_neg (by decide)]) (Ev.now _)), Ev.bind (a := (([] : List (List Int)), false)) (Ev.bind h2 (Ev.congr (fun k => by rw [if_neg (by decide)]) (Ev.now _))) (Ev.congr (fun k => ?_) (Ev.now _))⟩
    rfl
  | true =>
    rw [hs] at h1 h2
    obtain ⟨hl1, hl2, hl3⟩ := rack_len hs
    obtain ⟨r, e1, e2⟩ := all_both (l.length / 2) l [] 0 (by omega) hl2 (by simp; omega) (by rw [List.drop_zero]; exact rack_prs hs)
    refine ⟨((r.length : Int), true), Ev.bind h1 (Ev.congr (fun k => by rw [if_pos rfl]; rfl) (Ev.bind (f := fun _ t => some ((t.length : Int), true)) (a := r) e1 (Ev.now _))), Ev.bind (a := (r, true)) (Ev.bind h2 (Ev.congr (f := fun k => impl_FirstExchanges.l0 k l [] 0) (fun k => ?_) e2)) (Ev.now _)⟩
    rw [if_pos rfl]
    unfold slices_Clone_int_int.f
    rw [if_pos (by omega)]
    rfl
end Go.Proofs.Ytbmhelacjnlmaaa.X

/- ==== PlSteps ==== -/
namespace Go.Proofs.Ytbmhelacjnlmaaa.X
open Go.RowKit Go.Proofs.YtbmhelacjnlmaaaW.PrintWords Go.Proofs.YtbmhelacjnlmaaaW.PrintLast Go.Proofs.YtbmhelacjnlmaaaW.PrintMore

theorem prs_out {x : List Int} {q : Nat} (hq : 1 ≤ q) (hl : q < x.length) (h : Prs x) (he : rd x (q : Int) = rd x 0) : Prs ((x.take q).drop 1 ++ x.drop (q + 1)) := by
  intro v
  have e1 : x = x.take q ++ rd x (q : Int) :: x.drop (q + 1) := by rw [← drop_get hl, List.take_append_drop]
  have e2 : x.take q = rd x 0 :: (x.take q).drop 1 := by
    have h0 : 0 < (x.take q).length := by rw [List.length_take]; omega
    have := drop_get (l := x.take q) (i := 0) h0
    rw [List.drop_zero] at this
    rw [show rd (x.take q) ((0 : Nat) : Int) = rd x 0 from by rw [show rd x 0 = rd x ((0 : Nat) : Int) from rfl, rd_get h0, rd_get (show 0 < x.length by omega), List.getElem_take]] at this
    exact this
  have hv := h v
  rw [e1, e2, he, List.cons_append, List.count_cons, List.count_append, List.count_cons] at hv
  rw [List.count_append]
  by_cases a1 : rd x 0 = v
  · have h7 : (rd x 0 == v) = true := by simp [a1]
    rw [h7] at hv
    simp at hv
    left
    simp
    omega
  · have h7 : (rd x 0 == v) = false := by simpa using a1
    rw [h7] at hv
    simpa using hv
theorem steps_find (x : List Int) (s : Int) (p : Nat) (r : Int × Bool) (hn : x.length ≤ 16) (hp : 1 + p < x.length) (he : rd x ((1 + p : Nat) : Int) = rd x 0) (hf : ∀ q, q < p → ¬ rd x ((1 + q : Nat) : Int) = rd x 0)
    (hr : Ev (fun k => spec_FewestNeighbourSteps.l0 k ((x.take (1 + p)).drop 1 ++ x.drop (1 + p + 1)) (wrap64 (s + wrap64 (((1 + p : Nat) : Int) - 1)))) r) (d : Nat) :
    ∀ (q : Nat), q + d = p → Ev (fun k => spec_FewestNeighbourSteps.l1 k x s ((1 + q : Nat) : Int)) r := by
  induction d with
  | zero =>
    intro q hd
    obtain rfl : q = p := by omega
    have w1 : wrap64 (((1 + q : Nat) : Int) + 1) = ((1 + q + 1 : Nat) : Int) := w64s (n := x.length) (by omega) (by omega)
    refine Ev.step (fun k => ?_) hr
    simp only [spec_FewestNeighbourSteps.l1, w1, Int.toNat_natCast]
    rw [if_pos (by omega), if_pos (by omega), if_pos (by omega), if_pos he, if_pos (by omega), if_pos (by omega)]
    unfold spec_l1Own.f
    simp only [Option.bind_some, List.nil_append, List.length_nil, Nat.zero_add]
    rw [if_pos (by simp; omega)]
    simp only [Option.bind_some]
    rw [if_pos (by omega), if_pos (by omega), if_pos (by simp; omega)]
  | succ d ih =>
    intro q hd
    refine Ev.step (fun k => ?_) (ih (q + 1) (by omega))
    simp only [spec_FewestNeighbourSteps.l1]
    rw [if_pos (by omega), if_pos (by omega), if_pos (by omega), if_neg (hf q (by omega)), w64s (n := x.length) (by omega) (by omega)]
    rfl
theorem steps_both (d : Nat) : ∀ (x : List Int) (s : Int), x.length = 2 * d → x.length ≤ 16 → Prs x →
    ∃ r : Int × Bool, Ev (fun k => spec_FewestNeighbourSteps.l0 k x s) r ∧ Ev (fun k => impl_FewestNeighbourSteps.l0 k x s) r := by
  induction d with
  | zero =>
    intro x s hl hn hp
    refine ⟨(s, true), Ev.step (f := fun _ => some (s, true)) (fun k => ?_) (Ev.now _), Ev.step (f := fun _ => some (s, true)) (fun k => ?_) (Ev.now _)⟩
    · simp only [spec_FewestNeighbourSteps.l0]
      rw [if_neg (by omega)]
    · simp only [impl_FewestNeighbourSteps.l0]
      rw [if_neg (by omega)]
  | succ d ih =>
    intro x s hl hn hp
    obtain ⟨p, h1, h2, h3⟩ := other_of (x := x) (i := 0) (by omega) (by rw [List.drop_zero]; exact hp)
    have hpt := partner_ev (x := x) (i := 0) (by omega) h1 h2 h3
    simp only [Nat.zero_add] at h1 h2 h3 hpt
    obtain ⟨r, e1, e2⟩ := ih ((x.take (1 + p)).drop 1 ++ x.drop (1 + p + 1)) (wrap64 (s + wrap64 (((1 + p : Nat) : Int) - 1))) (by simp; omega) (by simp; omega) (prs_out (by omega) h1 hp h2)
    refine ⟨r, Ev.step (fun k => ?_) (steps_find x s p r hn h1 h2 h3 e1 p 0 (by omega)), Ev.step (f := fun k => (impl_partner.f k x ((0 : Nat) : Int)).bind fun p => (if 1 ≤ p ∧ p < (x.length : Int) then impl_FewestNeighbourSteps.l0 k ((x.take p.toNat ++ x.drop (p.toNat + 1)).drop 1) (wrap64 (s + wrap64 (p - 1))) else none)) (fun k => ?_) (Ev.bind hpt (Ev.congr (fun k => ?_) e2))⟩
    · simp only [spec_FewestNeighbourSteps.l0]
      rw [if_pos (by omega)]
      rfl
    · simp only [impl_FewestNeighbourSteps.l0]
      rw [if_pos (by omega)]
      rfl
    · rw [if_pos ⟨by omega, by omega⟩, Int.toNat_natCast, List.drop_append_of_le_length (by rw [List.length_take]; omega)]
theorem FewestNeighbourSteps_both (l : List Int) (hn : l.length ≤ 1048576) : ∃ r, Ev (fun k => spec_FewestNeighbourSteps.f k l) r ∧ Ev (fun k => impl_FewestNeighbourSteps.f k l) r := by
  have h1 := shRack_ev l hn
  have h2 := IsRack_ev l hn
  cases hs : rackB l with
  | false =>
    rw [hs] at h1 h2
    exact ⟨(0, false), Ev.bind h1 (Ev.congr (fun k => by rw [if_neg (by decide)]) (Ev.now _)), Ev.bind h2 (Ev.congr (fun k => by rw [if_neg (by decide)]) (Ev.now _))⟩
  | true =>
    rw [hs] at h1 h2
    obtain ⟨hl1, hl2, hl3⟩ := rack_len hs
    obtain ⟨r, e1, e2⟩ := steps_both (l.length / 2) l 0 (by omega) hl2 (rack_prs hs)
    refine ⟨r, Ev.bind h1 (Ev.congr (f := fun k => spec_FewestNeighbourSteps.l0 k l 0) (fun k => ?_) e1), Ev.bind h2 (Ev.congr (f := fun k => impl_FewestNeighbourSteps.l0 k l 0) (fun k => ?_) e2)⟩
    · rw [if_pos rfl]
      unfold spec_l1Own.f
      simp only [Option.bind_some, List.nil_append, List.length_nil, Nat.zero_add]
      rw [if_pos (by omega)]
      rfl
    · rw [if_pos rfl, if_pos (by omega)]
      unfold slices_Clone_int_int.f
      rw [if_pos (by omega)]
      rfl
end Go.Proofs.Ytbmhelacjnlmaaa.X
