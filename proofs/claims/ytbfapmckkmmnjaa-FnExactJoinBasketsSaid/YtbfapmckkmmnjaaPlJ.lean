/- Texts of this seat in one: PlTo, PlMarkI, PlTimes, PlBasket, PlLeft, PlJoin. -/
import Derived.Test.YtbfapmckkmmnjaaXlawstoIntS
import Derived.Test.YtbfapmckkmmnjaaXlawseqIntS
import Derived.Test.YtbfapmckkmmnjaaXlawsmarkIntS
import Derived.Test.YtbfapmckkmmnjaaXlawsheldIntS
import Derived.Test.YtbfapmckkmmnjaaXimplwithin
import Derived.Test.YtbfapmckkmmnjaaXspecl1In
import Derived.Test.YtbfapmckkmmnjaaXimpltimes
import Derived.Test.YtbfapmckkmmnjaaXspeclaCounts
import Derived.Test.YtbfapmckkmmnjaaXspecIsBasket
import Derived.Test.YtbfapmckkmmnjaaXimplIsBasket
import Derived.Test.YtbfapmckkmmnjaaXspeclaBasket
import Derived.Test.YtbfapmckkmmnjaaXimplisBasket
import Derived.Test.YtbfapmckkmmnjaaXspeclaWith
import Derived.Test.YtbfapmckkmmnjaaXimplpairsWith
import Derived.Test.YtbfapmckkmmnjaaXspecBasketAfter
import Derived.Test.YtbfapmckkmmnjaaHBasketAfter
import Derived.Test.YtbfapmckkmmnjaaXspecJoinBaskets
import Derived.Test.YtbfapmckkmmnjaaXimplJoinBaskets
/- ==== PlTo ==== -/
namespace Go.Proofs.Ytbfapmckkmmnjaa.X
open Go.RowKit Go.Proofs.YtbfapmckkmmnjaaW.PrintWords Go.Proofs.YtbfapmckkmmnjaaW.PrintLast Go.Proofs.YtbfapmckkmmnjaaW.PrintMore

theorem w64 {x : Int} (h0 : -9223372036854775808 ≤ x) (h1 : x ≤ 9223372036854775807) : wrap64 x = x := by unfold wrap64; omega
theorem w64s {i n : Nat} (h : i < n) (hn : n ≤ 1073741824) : wrap64 ((i : Int) + 1) = ((i + 1 : Nat) : Int) := by unfold wrap64; omega
theorem rd_get {l : List Int} {i : Nat} (h : i < l.length) : rd l (i : Int) = l[i] := by simp [rd, List.getD_eq_getElem?_getD, h]
theorem i64_of {n : Int} (h : (Lit.int .i64 n).wf = true) : -9223372036854775808 ≤ n ∧ n ≤ 9223372036854775807 := by
  simp [Lit.wf, IntKind.min, IntKind.max, IntKind.signed, IntKind.bits] at h
  omega

theorem toIntS_loop (l : List Int) (hn : l.length ≤ 1048576) (d : Nat) : ∀ (i : Nat) (acc : List Int), i + d = l.length → acc.length = l.length → (∀ j, j < i → acc[j]? = l[j]?) →
    Ev (fun k => laws_toIntS.l0 k l acc (i : Int)) l := by
  induction d with
  | zero =>
    intro i acc hi ha hp
    have e : acc = l := by
      apply List.ext_getElem?
      intro j
      by_cases hj : j < i
      · exact hp j hj
      · rw [List.getElem?_eq_none (by omega), List.getElem?_eq_none (by omega)]
    subst e
    refine Ev.step (f := fun _ => some acc) (fun k => ?_) (Ev.now _)
    simp only [laws_toIntS.l0]
    rw [if_neg (by omega)]
  | succ d ih =>
    intro i acc hi ha hp
    refine Ev.step (f := fun k => laws_toIntS.l0 k l (acc.set i (rd l (i : Int))) ((i + 1 : Nat) : Int)) (fun k => ?_) (ih (i + 1) _ (by omega) (by simpa using ha) (fun j hj => ?_))
    · simp only [laws_toIntS.l0]
      rw [if_pos (by omega), if_pos (by omega), if_pos (by omega), w64s (show i < l.length by omega) (by omega), Int.toNat_natCast]
    · by_cases e : j = i
      · subst e
        rw [List.getElem?_set_self (by omega), rd_get (by omega), List.getElem?_eq_getElem (by omega)]
      · rw [List.getElem?_set_ne (by omega)]
        exact hp j (by omega)
theorem toIntS_ev (l : List Int) (hn : l.length ≤ 1048576) : Ev (fun k => laws_toIntS.f k l) l := by
  refine Ev.congr (f := fun k => laws_toIntS.l0 k l (List.replicate l.length 0) ((0 : Nat) : Int)) (fun k => ?_) (toIntS_loop l hn l.length 0 _ (by omega) (by simp) (fun j hj => absurd hj (by omega)))
  unfold laws_toIntS.f
  rw [if_pos (by omega), if_pos (by simp; omega)]
  simp

theorem eqIntS_loop (l : List Int) (hn : l.length ≤ 1073741824) (d : Nat) : ∀ (i : Nat), i + d = l.length → Ev (fun k => laws_eqIntS.l0 k l l (i : Int)) true := by
  induction d with
  | zero =>
    intro i hi
    refine Ev.step (f := fun _ => some true) (fun k => ?_) (Ev.now _)
    simp only [laws_eqIntS.l0]
    rw [if_neg (by omega)]
  | succ d ih =>
    intro i hi
    refine Ev.step (f := fun k => laws_eqIntS.l0 k l l ((i + 1 : Nat) : Int)) (fun k => ?_) (ih (i + 1) (by omega))
    simp only [laws_eqIntS.l0]
    rw [if_pos (by omega), if_pos (by omega), if_pos (by omega), if_pos trivial, w64s (show i < l.length by omega) (by omega)]
theorem eqIntS_ev (l : List Int) (hn : l.length ≤ 1073741824) : Ev (fun k => laws_eqIntS.f k l l) true := by
  refine Ev.congr (f := fun k => laws_eqIntS.l0 k l l ((0 : Nat) : Int)) (fun k => ?_) (eqIntS_loop l hn l.length 0 (by omega))
  unfold laws_eqIntS.f
  rw [if_pos rfl]
  rfl

end Go.Proofs.Ytbfapmckkmmnjaa.X

/- ==== PlMarkI ==== -/
namespace Go.Proofs.Ytbfapmckkmmnjaa.X
open Go.RowKit Go.Proofs.YtbfapmckkmmnjaaW.PrintWords Go.Proofs.YtbfapmckkmmnjaaW.PrintLast Go.Proofs.YtbfapmckkmmnjaaW.PrintMore

theorem w64n {i n : Nat} (h : i ≤ n) (hn : n ≤ 1073741824) : wrap64 ((i : Int) + 1) = ((i + 1 : Nat) : Int) := by unfold wrap64; omega
def markedI (l : List Int) (m : Nat) : Prop := ∀ j, j < l.length → rd l (j : Int) = ((j + m : Nat) : Int)
theorem rdI_set_self {F : List Int} {i : Nat} {x : Int} (h : i < F.length) : rd (F.set i x) (i : Int) = x := by simp [rd, List.getD_eq_getElem?_getD, h]
theorem rdI_set_ne {F : List Int} {i k : Nat} {x : Int} (h : k ≠ i) : rd (F.set i x) (k : Int) = rd F (k : Int) := by
  simp [rd, List.getD_eq_getElem?_getD, List.getElem?_set_ne (Ne.symm h)]
theorem markI_loop (n m : Nat) (hn : n ≤ 1048576) (hm : m ≤ 4194304) (d : Nat) : ∀ (i : Nat) (l : List Int), l.length = n → i + d = n → (∀ j, j < i → rd l (j : Int) = ((j + m : Nat) : Int)) →
    ∃ l', l'.length = n ∧ markedI l' m ∧ Ev (fun k => laws_markIntS.l0 k l ((i + m : Nat) : Int) (i : Int)) (((n + m : Nat) : Int), l') := by
  induction d with
  | zero =>
    intro i l hl hi hp
    obtain rfl : i = n := by omega
    refine ⟨l, hl, fun j hj => hp j (by omega), Ev.step (f := fun _ => some _) (fun k => ?_) (Ev.now _)⟩
    simp only [laws_markIntS.l0]
    rw [if_neg (by omega)]
  | succ d ih =>
    intro i l hl hi hp
    have hlt : i < l.length := by omega
    obtain ⟨l', h1, h2, h3⟩ := ih (i + 1) (l.set i ((i + m : Nat) : Int)) (by simpa using hl) (by omega) (fun j hj => by
      by_cases e : j = i
      · subst e
        rw [rdI_set_self hlt]
      · rw [rdI_set_ne e]
        exact hp j (by omega))
    refine ⟨l', h1, h2, Ev.step (fun k => ?_) h3⟩
    simp only [laws_markIntS.l0]
    rw [if_pos (by omega), if_pos (by omega), Int.toNat_natCast, w64n (i := i + m) (n := 8388608) (by omega) (by omega), w64n (i := i) (n := 4194304) (by omega) (by omega), show i + m + 1 = i + 1 + m from by omega]
theorem markI_ev (l : List Int) (hn : l.length ≤ 1048576) (m : Nat) (hm : m ≤ 4194304) : ∃ l', l'.length = l.length ∧ markedI l' m ∧ Ev (fun k => laws_markIntS.f k l (m : Int)) (((l.length + m : Nat) : Int), l') := by
  obtain ⟨l', h1, h2, h3⟩ := markI_loop l.length m hn hm l.length 0 l rfl (by omega) (fun j hj => absurd hj (by omega))
  refine ⟨l', h1, h2, ?_⟩
  simpa [laws_markIntS.f] using h3
theorem heldI_loop (l : List Int) (m : Nat) (hn : l.length ≤ 1048576) (hm : m ≤ 4194304) (hk : markedI l m) (d : Nat) : ∀ (i : Nat), i + d = l.length →
    Ev (fun k => laws_heldIntS.l0 k l ((i + m : Nat) : Int) (i : Int)) ((l.length + m : Nat) : Int) := by
  induction d with
  | zero =>
    intro i hi
    obtain rfl : i = l.length := by omega
    refine Ev.step (f := fun _ => some _) (fun k => ?_) (Ev.now _)
    simp only [laws_heldIntS.l0]
    rw [if_neg (by omega)]
  | succ d ih =>
    intro i hi
    have hlt : i < l.length := by omega
    refine Ev.step (fun k => ?_) (ih (i + 1) (by omega))
    simp only [laws_heldIntS.l0]
    rw [if_pos (by omega), if_pos (by omega), if_pos (hk i hlt), w64n (i := i + m) (n := 8388608) (by omega) (by omega), w64n (i := i) (n := 4194304) (by omega) (by omega), show i + m + 1 = i + 1 + m from by omega]
theorem markI_ex (l : List Int) (hn : l.length ≤ 1048576) (m : Int) (h0 : 0 ≤ m) (h1 : m ≤ 4194304) : ∃ (q : Int) (l' : List Int), 0 ≤ q ∧ q ≤ m + 1048576 ∧ Ev (fun k => laws_markIntS.f k l m) (q, l') := by
  obtain ⟨m, rfl⟩ := Int.eq_ofNat_of_zero_le h0
  obtain ⟨l', h1, h2, h3⟩ := markI_ev l hn m (by omega)
  exact ⟨((l.length + m : Nat) : Int), l', by omega, by omega, h3⟩
theorem markH_ex (l : List Int) (hn : l.length ≤ 1048576) : ∃ (q : Int) (l' : List Int), 0 ≤ q ∧ q ≤ 4194304 ∧ Ev (fun k => laws_markIntS.f k l 1) (q, l') ∧ Ev (fun k => laws_heldIntS.f k l' 1) q := by
  obtain ⟨l', h1, h2, h3⟩ := markI_ev l hn 1 (by omega)
  refine ⟨((l.length + 1 : Nat) : Int), l', by omega, by omega, h3, ?_⟩
  have := heldI_loop l' 1 (by omega) (by omega) h2 l'.length 0 (by omega)
  rw [h1] at this
  simpa [laws_heldIntS.f] using this

end Go.Proofs.Ytbfapmckkmmnjaa.X

/- ==== PlTimes ==== -/
namespace Go.Proofs.Ytbfapmckkmmnjaa.X
open Go.RowKit Go.Proofs.YtbfapmckkmmnjaaW.PrintWords Go.Proofs.YtbfapmckkmmnjaaW.PrintLast Go.Proofs.YtbfapmckkmmnjaaW.PrintMore

def inB (lo hi x : Int) : Bool := decide (lo ≤ x) && decide (x ≤ hi)
theorem within_inB (x lo hi : Int) : impl_within.f x lo hi = some (inB lo hi x) := by
  unfold impl_within.f inB
  by_cases h : lo ≤ x <;> simp [h]
theorem l1In_inB (x lo hi : Int) : spec_l1In.f x lo hi = some (inB lo hi x) := by
  unfold spec_l1In.f inB
  by_cases h : lo ≤ x <;> simp [h]

def cntL (n : Nat) (l : List Int) : List Int := (List.range n).map fun j : Nat => ((l.count (j : Int) : Nat) : Int)
def okT (n : Nat) (l : List Int) : Bool := l.all (inB 0 ((n : Int) - 1)) && (List.range n).all fun j : Nat => decide (l.count (j : Int) ≤ 2)
def timesR (n : Nat) (l : List Int) : List Int × Bool := if okT n l = true then (cntL n l, true) else ([], false)
theorem cntL_len (n : Nat) (l : List Int) : (cntL n l).length = n := by simp [cntL]
theorem cntL_get {n j : Nat} {l : List Int} (h : j < n) : (cntL n l)[j]? = some ((l.count (j : Int) : Nat) : Int) := by simp [cntL, h]
theorem cntL_rd {n j : Nat} {l : List Int} (h : j < n) : rd (cntL n l) (j : Int) = ((l.count (j : Int) : Nat) : Int) := by
  unfold rd
  rw [List.getD_eq_getElem?_getD, Int.toNat_natCast, cntL_get h]
  rfl
theorem cntL_snoc {n q : Nat} {p : List Int} (hq : q < n) : (cntL n p).set q (((p.count (q : Int) : Nat) : Int) + 1) = cntL n (p ++ [(q : Int)]) := by
  apply List.ext_getElem?
  intro j
  by_cases h : j < n
  · rw [cntL_get h]
    by_cases e : j = q
    · subst e
      rw [List.getElem?_set_self (by rw [cntL_len]; omega)]
      simp
    · have hne : ¬ (q : Int) = (j : Int) := by omega
      rw [List.getElem?_set_ne (by omega), cntL_get h]
      simp [List.count_append, hne]
  · rw [List.getElem?_eq_none (by rw [List.length_set, cntL_len]; omega), List.getElem?_eq_none (by rw [cntL_len]; omega)]
theorem cntL_nil (n : Nat) : cntL n [] = List.replicate n 0 := by
  apply List.ext_getElem?
  intro j
  by_cases h : j < n
  · rw [cntL_get h]
    simp [h]
  · rw [List.getElem?_eq_none (by rw [cntL_len]; omega), List.getElem?_eq_none (by simp; omega)]
theorem take_rd {l : List Int} {i : Nat} (h : i < l.length) : l.take (i + 1) = l.take i ++ [rd l (i : Int)] := by
  rw [List.take_succ_eq_append_getElem h, rd_get h]
theorem count_take_le (l : List Int) (i : Nat) (a : Int) : (l.take i).count a ≤ l.count a := List.Sublist.count_le _ (List.take_sublist i l)

theorem okT_range {n : Nat} {l : List Int} {i : Nat} (h : i < l.length) (hb : inB 0 ((n : Int) - 1) (rd l (i : Int)) = false) : okT n l = false := by
  have : l.all (inB 0 ((n : Int) - 1)) = false := by
    rw [List.all_eq_false]
    refine ⟨rd l (i : Int), ?_, by rw [hb]; decide⟩
    rw [rd_get h]
    exact List.getElem_mem h
  unfold okT
  rw [this]
  rfl
theorem okT_thrice {n : Nat} {l : List Int} {i q : Nat} (h : i < l.length) (hq : q < n) (hx : rd l (i : Int) = (q : Int)) (hc : (l.take i).count (q : Int) = 2) : okT n l = false := by
  have h1 := count_take_le l (i + 1) (q : Int)
  rw [take_rd h, hx, List.count_append, hc] at h1
  simp at h1
  have : ((List.range n).all fun j : Nat => decide (l.count (j : Int) ≤ 2)) = false := by
    rw [List.all_eq_false]
    refine ⟨q, by simpa using hq, ?_⟩
    simp
    omega
  unfold okT
  rw [this, Bool.and_false]

theorem counts_loop (n : Nat) (h40 : n ≤ 1000) (l : List Int) (hn : l.length ≤ 2097152) (d : Nat) : ∀ (i : Nat), i + d = l.length → (l.take i).all (inB 0 ((n : Int) - 1)) = true → (∀ j, j < n → (l.take i).count (j : Int) ≤ 2) →
    Ev (fun k => spec_laCounts.l0 k (n : Int) (cntL n (l.take i)) l (l.length : Int) (i : Int)) (timesR n l) ∧ Ev (fun k => impl_times.l0 k (n : Int) (cntL n (l.take i)) l (l.length : Int) (i : Int)) (timesR n l) := by
  induction d with
  | zero =>
    intro i hi ha hc
    rw [List.take_of_length_le (by omega)] at ha hc
    have ho : okT n l = true := by
      unfold okT
      rw [ha, Bool.true_and, List.all_eq_true]
      intro j hj
      simpa using hc j (by simpa using hj)
    rw [List.take_of_length_le (by omega), show timesR n l = (cntL n l, true) from by unfold timesR; rw [if_pos ho]]
    constructor
    · refine Ev.step (f := fun _ => some (cntL n l, true)) (fun k => ?_) (Ev.now _)
      simp only [spec_laCounts.l0]
      rw [if_neg (by omega)]
    · refine Ev.step (f := fun _ => some (cntL n l, true)) (fun k => ?_) (Ev.now _)
      simp only [impl_times.l0]
      rw [if_neg (by omega)]
  | succ d ih =>
    intro i hi ha hc
    have hlt : i < l.length := by omega
    have hw : wrap64 ((n : Int) - 1) = (n : Int) - 1 := w64 (by omega) (by omega)
    cases hb : inB 0 ((n : Int) - 1) (rd l (i : Int)) with
    | false =>
      rw [show timesR n l = ([], false) from by unfold timesR; rw [if_neg (by rw [okT_range hlt hb]; decide)]]
      constructor
      · refine Ev.step (f := fun _ => some ([], false)) (fun k => ?_) (Ev.now _)
        simp only [spec_laCounts.l0, l1In_inB, Option.bind_some]
        rw [if_pos (by omega), if_pos (by omega), if_pos (by omega), hw, if_neg (by rw [hb]; decide)]
      · refine Ev.step (f := fun _ => some ([], false)) (fun k => ?_) (Ev.now _)
        simp only [impl_times.l0, within_inB, Option.bind_some]
        rw [if_pos (by omega), if_pos (by omega), if_pos (by omega), hw, if_neg (by rw [hb]; decide)]
    | true =>
      have hx := hb
      simp [inB] at hx
      obtain ⟨q, hq⟩ := Int.eq_ofNat_of_zero_le hx.1
      have hqn : q < n := by omega
      by_cases h2 : (l.take i).count (q : Int) = 2
      · rw [show timesR n l = ([], false) from by unfold timesR; rw [if_neg (by rw [okT_thrice hlt hqn hq h2]; decide)]]
        constructor
        · refine Ev.step (f := fun _ => some ([], false)) (fun k => ?_) (Ev.now _)
          simp only [spec_laCounts.l0, l1In_inB, Option.bind_some]
          rw [if_pos (by omega), if_pos (by omega), if_pos (by omega), hw, if_pos hb, if_pos hx.1, if_pos (by rw [cntL_len]; omega), hq, cntL_rd hqn, if_pos (by omega)]
        · refine Ev.step (f := fun _ => some ([], false)) (fun k => ?_) (Ev.now _)
          simp only [impl_times.l0, within_inB, Option.bind_some]
          rw [if_pos (by omega), if_pos (by omega), if_pos (by omega), hw, if_pos hb, if_pos hx.1, if_pos (by rw [cntL_len]; omega), hq, cntL_rd hqn, if_pos (by omega)]
      · have hle := hc q hqn
        have hs := ih (i + 1) (by omega) (by rw [take_rd hlt, List.all_append, ha]; simp [hb]) (fun j hj => by
          rw [take_rd hlt, hq, List.count_append]
          by_cases e : j = q
          · subst e
            simp
            omega
          · have hne : ¬ (q : Int) = (j : Int) := by omega
            have := hc j hj
            simp [hne]
            omega)
        rw [take_rd hlt, hq, ← cntL_snoc hqn] at hs
        have hw2 : wrap64 ((((l.take i).count (q : Int) : Nat) : Int) + 1) = (((l.take i).count (q : Int) : Nat) : Int) + 1 := w64 (by omega) (by omega)
        have hne2 : ¬ (((l.take i).count (q : Int) : Nat) : Int) = 2 := by omega
        constructor
        · refine Ev.step (fun k => ?_) hs.1
          simp only [spec_laCounts.l0, l1In_inB, Option.bind_some]
          rw [if_pos (by omega), if_pos (by omega), if_pos (by omega), hw, if_pos hb, if_pos hx.1, if_pos (by rw [cntL_len]; omega), hq, cntL_rd hqn, if_neg hne2, hw2, Int.toNat_natCast, w64s hlt (by omega)]
        · refine Ev.step (fun k => ?_) hs.2
          simp only [impl_times.l0, within_inB, Option.bind_some]
          rw [if_pos (by omega), if_pos (by omega), if_pos (by omega), hw, if_pos hb, if_pos hx.1, if_pos (by rw [cntL_len]; omega), hq, cntL_rd hqn, if_neg hne2, hw2, Int.toNat_natCast, w64s hlt (by omega)]
theorem times_ev (n : Nat) (h40 : n ≤ 1000) (l : List Int) (hn : l.length ≤ 2097152) : Ev (fun k => impl_times.f k (n : Int) l) (timesR n l) := by
  have h := (counts_loop n h40 l hn l.length 0 (by omega) (by simp) (by simp)).2
  rw [List.take_zero, cntL_nil] at h
  refine Ev.congr (fun k => ?_) h
  unfold impl_times.f
  rw [if_pos (by omega), Int.toNat_natCast, if_pos (by omega)]
  rfl
theorem counts_ev (n : Nat) (h40 : n ≤ 1000) (l : List Int) (hn : l.length ≤ 2097152) : Ev (fun k => spec_laCounts.f k (n : Int) l) (timesR n l) := by
  have h := (counts_loop n h40 l hn l.length 0 (by omega) (by simp) (by simp)).1
  rw [List.take_zero, cntL_nil] at h
  refine Ev.congr (fun k => ?_) h
  unfold spec_laCounts.f
  rw [if_pos (by omega), Int.toNat_natCast, if_pos (by omega)]
  rfl

end Go.Proofs.Ytbfapmckkmmnjaa.X

/- ==== PlBasket ==== -/
namespace Go.Proofs.Ytbfapmckkmmnjaa.X
open Go.RowKit Go.Proofs.YtbfapmckkmmnjaaW.PrintWords Go.Proofs.YtbfapmckkmmnjaaW.PrintLast Go.Proofs.YtbfapmckkmmnjaaW.PrintMore

def srtB (l : List Int) : Bool := (List.range (l.length - 1)).all fun j : Nat => decide (rd l (j : Int) ≤ rd l ((j + 1 : Nat) : Int))
theorem srtB_true {l : List Int} (h : ∀ j, j + 1 < l.length → rd l (j : Int) ≤ rd l ((j + 1 : Nat) : Int)) : srtB l = true := by
  unfold srtB
  simp only [List.all_eq_true, List.mem_range, decide_eq_true_eq]
  intro j hj
  exact h j (by omega)
theorem srtB_false {l : List Int} {j : Nat} (hj : j + 1 < l.length) (h : rd l ((j + 1 : Nat) : Int) < rd l (j : Int)) : srtB l = false := by
  unfold srtB
  rw [List.all_eq_false]
  exact ⟨j, by simp; omega, by rw [decide_eq_true_eq]; omega⟩
theorem isSorted_loop (l : List Int) (hn : l.length ≤ 2097152) : ∀ (i : Nat), i < l.length → (∀ j, i ≤ j → j + 1 < l.length → rd l (j : Int) ≤ rd l ((j + 1 : Nat) : Int)) → Ev (fun k => slices_IsSorted_int_int.l0 k l (i : Int)) (srtB l) := by
  intro i
  induction i with
  | zero =>
    intro hi h
    rw [srtB_true (fun j hj => h j (by omega) hj)]
    refine Ev.step (f := fun _ => some true) (fun k => ?_) (Ev.now _)
    simp only [slices_IsSorted_int_int.l0]
    rw [if_neg (by omega)]
  | succ i ih =>
    intro hi h
    have hw : wrap64 (((i + 1 : Nat) : Int) - 1) = (i : Int) := by rw [w64 (by omega) (by omega)]; omega
    have hl : ∀ a b : Int, cmp_Less_int.f a b = some (decide (a < b)) := fun a b => by simp [cmp_Less_int.f, cmp_isNaN_int.f]
    by_cases e : rd l ((i + 1 : Nat) : Int) < rd l (i : Int)
    · rw [srtB_false (by omega) e]
      refine Ev.step (f := fun _ => some false) (fun k => ?_) (Ev.now _)
      simp only [slices_IsSorted_int_int.l0]
      rw [if_pos (by omega), if_pos (by omega), if_pos (by omega), hw, if_pos (by omega), if_pos (by omega), hl]
      simp only [Option.bind_some]
      rw [if_pos (by simpa using e)]
    · refine Ev.step (fun k => ?_) (ih (by omega) (fun j hj hj2 => by
        by_cases e2 : j = i
        · subst e2
          omega
        · exact h j (by omega) hj2))
      simp only [slices_IsSorted_int_int.l0]
      rw [if_pos (by omega), if_pos (by omega), if_pos (by omega), hw, if_pos (by omega), if_pos (by omega), hl]
      simp only [Option.bind_some]
      rw [if_neg (by simpa using e)]
theorem isSorted_ev (l : List Int) (hn : l.length ≤ 2097152) : Ev (fun k => slices_IsSorted_int_int.f k l) (srtB l) := by
  by_cases h0 : l.length = 0
  · rw [srtB_true (fun j hj => by omega)]
    refine Ev.step (f := fun _ => some true) (fun k => ?_) (Ev.now _)
    unfold slices_IsSorted_int_int.f
    rw [h0]
    simp only [slices_IsSorted_int_int.l0]
    rw [w64 (by omega) (by omega), if_neg (by omega)]
  · have hw : wrap64 ((l.length : Int) - 1) = ((l.length - 1 : Nat) : Int) := by rw [w64 (by omega) (by omega)]; omega
    refine Ev.congr (fun k => ?_) (isSorted_loop l hn (l.length - 1) (by omega) (fun j hj hj2 => by omega))
    unfold slices_IsSorted_int_int.f
    rw [hw]
theorem counts_ev' (n : Nat) (h40 : n ≤ 1000) (l : List Int) (hn : l.length ≤ 2097152) : Ev (fun k => spec_laCounts.f k (n : Int) l) (timesR n l) := counts_ev n h40 l hn
theorem laIs_loop (n : Nat) (h40 : n ≤ 1000) (l : List Int) (hn : l.length ≤ 2097152) (d : Nat) : ∀ (i : Nat), 1 ≤ i → i + d = max l.length 1 → (∀ j, j + 1 < i → rd l (j : Int) ≤ rd l ((j + 1 : Nat) : Int)) → Ev (fun k => spec_laIs.l0 k (n : Int) l (i : Int)) (srtB l && okT n l) := by
  induction d with
  | zero =>
    intro i h1 hi h
    rw [srtB_true (fun j hj => h j (by omega)), Bool.true_and]
    refine Ev.step (f := fun k => (spec_laCounts.f k (n : Int) l).bind fun b => some b.2) (fun k => ?_) (Ev.bind (counts_ev' n h40 l hn) (Ev.congr (f := fun _ => some (okT n l)) (fun k => ?_) (Ev.now _)))
    · simp only [spec_laIs.l0]
      rw [if_neg (by omega)]
    · unfold timesR
      cases okT n l <;> rfl
  | succ d ih =>
    intro i h1 hi h
    have hlt : i < l.length := by omega
    have hw : wrap64 ((i : Int) - 1) = ((i - 1 : Nat) : Int) := by rw [w64 (by omega) (by omega)]; omega
    have hi1 : ((i - 1 + 1 : Nat) : Int) = (i : Int) := by omega
    by_cases e : rd l (i : Int) < rd l ((i - 1 : Nat) : Int)
    · rw [srtB_false (j := i - 1) (by omega) (by rw [hi1]; exact e), Bool.false_and]
      refine Ev.step (f := fun _ => some false) (fun k => ?_) (Ev.now _)
      simp only [spec_laIs.l0]
      rw [if_pos (by omega), hw, if_pos (by omega), if_pos (by omega), if_pos (by omega), if_pos e]
    · refine Ev.step (fun k => ?_) (ih (i + 1) (by omega) (by omega) (fun j hj => by
        by_cases e2 : j = i - 1
        · subst e2
          rw [hi1]
          omega
        · exact h j (by omega)))
      simp only [spec_laIs.l0]
      rw [if_pos (by omega), hw, if_pos (by omega), if_pos (by omega), if_pos (by omega), if_neg e, w64s hlt (by omega)]
theorem laIs_ev (n : Nat) (h40 : n ≤ 1000) (l : List Int) (hn : l.length ≤ 2097152) : Ev (fun k => spec_laIs.f k (n : Int) l) (srtB l && okT n l) :=
  laIs_loop n h40 l hn (max l.length 1 - 1) 1 (by omega) (by omega) (fun j hj => by omega)

def basketB (a : Int) (l : List Int) : Bool := inB 1 20 a && (srtB l && okT a.toNat l)
theorem laBasket_ev (a : Int) (l : List Int) (hn : l.length ≤ 2097152) : Ev (fun k => spec_laBasket.f k a l) (basketB a l) := by
  unfold basketB
  cases hq : inB 1 20 a with
  | false => exact Ev.congr (f := fun _ => some false) (fun k => by simp [spec_laBasket.f, l1In_inB, hq]) (by simpa using Ev.now false)
  | true =>
    have hx := hq
    simp [inB] at hx
    obtain ⟨n, rfl⟩ := Int.eq_ofNat_of_zero_le (a := a) (by omega)
    rw [Int.toNat_natCast]
    exact Ev.congr (f := fun k => (spec_laIs.f k (n : Int) l).bind fun t => some t) (fun k => by simp [spec_laBasket.f, l1In_inB, hq]) (Ev.bind (laIs_ev n (by omega) l hn) (by simpa using Ev.now _))
theorem specIsBasket_ev (a : Int) (l : List Int) (hn : l.length ≤ 2097152) : Ev (fun k => spec_IsBasket.f k a l) (basketB a l, inB 1 20 a) := by
  unfold basketB
  cases hq : inB 1 20 a with
  | false => exact Ev.congr (f := fun _ => some (false, false)) (fun k => by simp [spec_IsBasket.f, l1In_inB, hq]) (by simpa using Ev.now (false, false))
  | true =>
    have hx := hq
    simp [inB] at hx
    obtain ⟨n, rfl⟩ := Int.eq_ofNat_of_zero_le (a := a) (by omega)
    rw [Int.toNat_natCast]
    exact Ev.congr (f := fun k => (spec_laIs.f k (n : Int) l).bind fun t => some (t, true)) (fun k => by simp [spec_IsBasket.f, l1In_inB, hq]) (Ev.bind (laIs_ev n (by omega) l hn) (by simpa using Ev.now _))
theorem implIsBasket_ev (a : Int) (l : List Int) (hn : l.length ≤ 2097152) : Ev (fun k => impl_IsBasket.f k a l) (basketB a l, inB 1 20 a) := by
  unfold basketB
  cases hq : inB 1 20 a with
  | false => exact Ev.congr (f := fun _ => some (false, false)) (fun k => by simp [impl_IsBasket.f, impl_arePairs.f, within_inB, hq]) (by simpa using Ev.now (false, false))
  | true =>
    have hx := hq
    simp [inB] at hx
    obtain ⟨n, rfl⟩ := Int.eq_ofNat_of_zero_le (a := a) (by omega)
    rw [Int.toNat_natCast, Bool.true_and]
    refine Ev.congr (f := fun k => (impl_times.f k (n : Int) l).bind fun b => if b.2 = true then (slices_IsSorted_int_int.f k l).bind fun t => some (t, true) else some (false, true)) (fun k => by simp [impl_IsBasket.f, impl_arePairs.f, within_inB, hq]) (Ev.bind (times_ev n (by omega) l hn) ?_)
    unfold timesR
    cases ho : okT n l with
    | false => rw [Bool.and_false]; exact Ev.congr (f := fun _ => some (false, true)) (fun k => rfl) (Ev.now _)
    | true => rw [Bool.and_true]; exact Ev.congr (fun k => rfl) (Ev.bind (f := fun _ t => some (t, true)) (isSorted_ev l hn) (Ev.now _))
theorem isBasket_ev (a : Int) (l : List Int) (hn : l.length ≤ 2097152) : Ev (fun k => impl_isBasket.f k a l) (basketB a l) :=
  Ev.congr (f := fun k => (impl_IsBasket.f k a l).bind fun b : Bool × Bool => some b.1) (fun _ => rfl) (Ev.bind (implIsBasket_ev a l hn) (Ev.now _))
theorem IsBasket_both (a : Int) (l : List Int) (hn : l.length ≤ 1048576) : ∃ r, Ev (fun k => spec_IsBasket.f k a l) r ∧ Ev (fun k => impl_IsBasket.f k a l) r :=
  ⟨_, specIsBasket_ev a l (by omega), implIsBasket_ev a l (by omega)⟩

theorem with_both (c : List Int) (m : Int) (hc : c.length ≤ 20) (d : Nat) : ∀ (i : Nat) (o : List Int), i + d = c.length → o.length ≤ i → ∃ r : List Int, r.length ≤ 20 ∧ Ev (fun k => spec_laWith.l0 k m o c (c.length : Int) (i : Int)) r ∧ Ev (fun k => impl_pairsWith.l0 k m o c (c.length : Int) (i : Int)) (r, true) := by
  induction d with
  | zero =>
    intro i o hi ho
    refine ⟨o, by omega, Ev.step (f := fun _ => some o) (fun k => ?_) (Ev.now _), Ev.step (f := fun _ => some (o, true)) (fun k => ?_) (Ev.now _)⟩
    · simp only [spec_laWith.l0]
      rw [if_neg (by omega)]
    · simp only [impl_pairsWith.l0]
      rw [if_neg (by omega)]
  | succ d ih =>
    intro i o hi ho
    have hlt : i < c.length := by omega
    by_cases e : rd c (i : Int) = m
    · obtain ⟨r, h1, h2, h3⟩ := ih (i + 1) (o ++ [(i : Int)]) (by omega) (by simp; omega)
      refine ⟨r, h1, Ev.step (fun k => ?_) h2, Ev.step (fun k => ?_) h3⟩
      · simp only [spec_laWith.l0]
        rw [if_pos (by omega), if_pos (by omega), if_pos (by omega), if_pos e, if_pos (by omega), w64s hlt (by omega)]
      · simp only [impl_pairsWith.l0]
        rw [if_pos (by omega), if_pos (by omega), if_pos (by omega), if_pos e, if_pos (by omega), w64s hlt (by omega)]
    · obtain ⟨r, h1, h2, h3⟩ := ih (i + 1) o (by omega) (by omega)
      refine ⟨r, h1, Ev.step (fun k => ?_) h2, Ev.step (fun k => ?_) h3⟩
      · simp only [spec_laWith.l0]
        rw [if_pos (by omega), if_pos (by omega), if_pos (by omega), if_neg e, w64s hlt (by omega)]
      · simp only [impl_pairsWith.l0]
        rw [if_pos (by omega), if_pos (by omega), if_pos (by omega), if_neg e, w64s hlt (by omega)]
theorem pairsWith_both (a : Int) (l : List Int) (m : Int) (hn : l.length ≤ 2097152) : ∃ r : List Int × Bool, r.1.length ≤ 20 ∧
    Ev (fun k => (spec_laBasket.f k a l).bind fun t => if t = true then (spec_laWith.f k a l m).bind fun u => some (u, true) else some (([] : List Int), false)) r ∧ Ev (fun k => impl_pairsWith.f k a l m) r := by
  have h1 := laBasket_ev a l hn
  have h2 := isBasket_ev a l hn
  cases hb : basketB a l with
  | false =>
    rw [hb] at h1 h2
    exact ⟨([], false), by simp, Ev.bind h1 (Ev.congr (fun k => by rw [if_neg (by decide)]) (Ev.now _)), Ev.bind h2 (Ev.congr (fun k => by rw [if_neg (by decide)]) (Ev.now _))⟩
  | true =>
    rw [hb] at h1 h2
    unfold basketB at hb
    simp only [Bool.and_eq_true] at hb
    obtain ⟨hq, _, ho⟩ := hb
    have hx := hq
    simp [inB] at hx
    obtain ⟨n, rfl⟩ := Int.eq_ofNat_of_zero_le (a := a) (by omega)
    rw [Int.toNat_natCast] at ho
    have hR : timesR n l = (cntL n l, true) := by unfold timesR; rw [if_pos ho]
    have hc := counts_ev' n (by omega) l hn
    have ht := times_ev n (by omega) l hn
    rw [hR] at hc ht
    obtain ⟨r, hr, e1, e2⟩ := with_both (cntL n l) m (by rw [cntL_len]; omega) n 0 [] (by rw [cntL_len]; omega) (by simp)
    have hs : Ev (fun k => spec_laWith.f k (n : Int) l m) r := Ev.congr (f := fun k => (spec_laCounts.f k (n : Int) l).bind fun b : List Int × Bool => spec_laWith.l0 k m [] b.1 (b.1.length : Int) 0) (fun _ => rfl) (Ev.bind hc e1)
    refine ⟨(r, true), hr, Ev.bind h1 (Ev.congr (f := fun k => (spec_laWith.f k (n : Int) l m).bind fun u => some (u, true)) (fun k => by rw [if_pos rfl]) (Ev.bind hs (Ev.now _))), Ev.bind h2 (Ev.congr (f := fun k => (impl_times.f k (n : Int) l).bind fun b : List Int × Bool => impl_pairsWith.l0 k m [] b.1 (b.1.length : Int) 0) (fun k => by rw [if_pos rfl]) (Ev.bind ht e2))⟩
end Go.Proofs.Ytbfapmckkmmnjaa.X

/- ==== PlLeft ==== -/
namespace Go.Proofs.Ytbfapmckkmmnjaa.X
open Go.RowKit Go.Proofs.YtbfapmckkmmnjaaW.PrintWords Go.Proofs.YtbfapmckkmmnjaaW.PrintLast Go.Proofs.YtbfapmckkmmnjaaW.PrintMore

theorem left_spec_in (c : List Int) (i : Int) (n q : Int) (r : List Int) : ∀ (m : Nat) (o : List Int), m ≤ 100 → o.length + m ≤ 1000 → Ev (fun k => spec_laLeft.l0 k (o ++ List.replicate m i) c n (wrap64 (q + 1))) r → Ev (fun k => spec_laLeft.l1 k o i (m : Int) c n q) r := by
  intro m
  induction m with
  | zero =>
    intro o _ ho h
    refine Ev.step (fun k => ?_) h
    simp only [spec_laLeft.l1]
    rw [if_neg (by omega)]
    simp
  | succ m ih =>
    intro o hm ho h
    refine Ev.step (fun k => ?_) (ih (o ++ [i]) (by omega) (by simp; omega) (by rw [List.append_assoc]; exact h))
    simp only [spec_laLeft.l1]
    rw [if_pos (by omega), if_pos (by omega), w64 (by omega) (by omega)]
    congr 1
    omega
theorem left_impl_in (c : List Int) (i : Int) (n q : Int) (m : Nat) (r : List Int) (hm : m ≤ 100) : ∀ (d j : Nat) (o : List Int), j + d = m → o.length + d ≤ 1000 → Ev (fun k => impl_basketOf.l0 k (o ++ List.replicate d i) c n (wrap64 (q + 1))) r → Ev (fun k => impl_basketOf.l1 k o i c n q (m : Int) (j : Int)) r := by
  intro d
  induction d with
  | zero =>
    intro j o hj ho h
    refine Ev.step (fun k => ?_) h
    simp only [impl_basketOf.l1]
    rw [if_neg (by omega)]
    simp
  | succ d ih =>
    intro j o hj ho h
    refine Ev.step (fun k => ?_) (ih (j + 1) (o ++ [i]) (by omega) (by simp; omega) (by rw [List.append_assoc]; exact h))
    simp only [impl_basketOf.l1]
    rw [if_pos (by omega), if_pos (by omega), w64s (n := m) (by omega) (by omega)]
theorem left_both (c : List Int) (hc : c.length ≤ 20) (hv : ∀ v ∈ c, 0 ≤ v ∧ v ≤ 2) (d : Nat) : ∀ (i : Nat) (o : List Int), i + d = c.length → o.length ≤ 2 * i → ∃ r : List Int, r.length ≤ 40 ∧ Ev (fun k => spec_laLeft.l0 k o c (c.length : Int) (i : Int)) r ∧ Ev (fun k => impl_basketOf.l0 k o c (c.length : Int) (i : Int)) r := by
  induction d with
  | zero =>
    intro i o hi ho
    refine ⟨o, by omega, Ev.step (f := fun _ => some o) (fun k => ?_) (Ev.now _), Ev.step (f := fun _ => some o) (fun k => ?_) (Ev.now _)⟩
    · simp only [spec_laLeft.l0]
      rw [if_neg (by omega)]
    · simp only [impl_basketOf.l0]
      rw [if_neg (by omega)]
  | succ d ih =>
    intro i o hi ho
    have hlt : i < c.length := by omega
    have hm : rd c (i : Int) ∈ c := by rw [rd_get hlt]; exact List.getElem_mem hlt
    obtain ⟨h0, h2⟩ := hv _ hm
    obtain ⟨m, hq⟩ := Int.eq_ofNat_of_zero_le h0
    rw [hq] at h2
    obtain ⟨r, hr, e1, e2⟩ := ih (i + 1) (o ++ List.replicate m (i : Int)) (by omega) (by simp; omega)
    have w1 : wrap64 ((i : Int) + 1) = ((i + 1 : Nat) : Int) := w64s hlt (by omega)
    refine ⟨r, hr, Ev.step (fun k => ?_) (left_spec_in c (i : Int) (c.length : Int) (i : Int) r m o (by omega) (by omega) (by rw [w1]; exact e1)), Ev.step (fun k => ?_) (left_impl_in c (i : Int) (c.length : Int) (i : Int) m r (by omega) m 0 o (by omega) (by omega) (by rw [w1]; exact e2))⟩
    · simp only [spec_laLeft.l0]
      rw [if_pos (by omega), if_pos (by omega), if_pos (by omega), hq]
    · simp only [impl_basketOf.l0]
      rw [if_pos (by omega), if_pos (by omega), if_pos (by omega), hq]
      rfl
theorem leftAll_both (c : List Int) (hc : c.length ≤ 20) (hv : ∀ v ∈ c, 0 ≤ v ∧ v ≤ 2) : ∃ r : List Int, r.length ≤ 40 ∧ Ev (fun k => spec_laLeft.f k c) r ∧ Ev (fun k => impl_basketOf.f k c) r :=
  left_both c hc hv c.length 0 [] (by omega) (by simp)
theorem cntL_two {n : Nat} {l : List Int} (h : okT n l = true) : ∀ v ∈ cntL n l, 0 ≤ v ∧ v ≤ 2 := by
  intro v hv
  unfold cntL at hv
  simp only [List.mem_map, List.mem_range] at hv
  obtain ⟨j, hj, rfl⟩ := hv
  unfold okT at h
  simp only [Bool.and_eq_true, List.all_eq_true, List.mem_range, decide_eq_true_eq] at h
  have := h.2 j hj
  omega

def away (c : List Int) : List Int := c.map fun v => 2 - v
theorem after_spec (c : List Int) (hc : c.length ≤ 20) (hv : ∀ v ∈ c, 0 ≤ v ∧ v ≤ 2) (r : List Int) (hr : Ev (fun k => spec_laLeft.f k (away c)) r) (d : Nat) : ∀ (i : Nat), i + d = c.length → Ev (fun k => spec_BasketAfter.l0 k (away (c.take i)) c (c.length : Int) (i : Int)) (r, true) := by
  induction d with
  | zero =>
    intro i hi
    rw [List.take_of_length_le (by omega)]
    refine Ev.step (f := fun k => (spec_laLeft.f k (away c)).bind fun t => some (t, true)) (fun k => ?_) (Ev.bind hr (Ev.now _))
    simp only [spec_BasketAfter.l0]
    rw [if_neg (by omega)]
  | succ d ih =>
    intro i hi
    have hlt : i < c.length := by omega
    have hm : rd c (i : Int) ∈ c := by rw [rd_get hlt]; exact List.getElem_mem hlt
    have h2 := hv _ hm
    have hs := ih (i + 1) (by omega)
    rw [take_rd hlt, show away (c.take i ++ [rd c (i : Int)]) = away (c.take i) ++ [2 - rd c (i : Int)] by simp [away]] at hs
    refine Ev.step (fun k => ?_) hs
    simp only [spec_BasketAfter.l0]
    rw [if_pos (by omega), if_pos (by omega), if_pos (by omega), if_pos (by simp [away]; omega), w64 (x := 2 - rd c (i : Int)) (by omega) (by omega), w64s hlt (by omega)]
theorem after_impl (c : List Int) (hc : c.length ≤ 20) (hv : ∀ v ∈ c, 0 ≤ v ∧ v ≤ 2) (r : List Int) (hr : Ev (fun k => impl_basketOf.f k (away c)) r) (d : Nat) : ∀ (i : Nat), i + d = c.length → Ev (fun k => impl_BasketAfter.l0 k (away (c.take i) ++ c.drop i) (i : Int)) (r, true) := by
  induction d with
  | zero =>
    intro i hi
    rw [List.take_of_length_le (by omega), List.drop_of_length_le (by omega), List.append_nil]
    refine Ev.step (f := fun k => (impl_basketOf.f k (away c)).bind fun t => some (t, true)) (fun k => ?_) (Ev.bind hr (Ev.now _))
    simp only [impl_BasketAfter.l0]
    rw [if_neg (by simp [away]; omega)]
  | succ d ih =>
    intro i hi
    have hlt : i < c.length := by omega
    have hm : rd c (i : Int) ∈ c := by rw [rd_get hlt]; exact List.getElem_mem hlt
    have h2 := hv _ hm
    have hs := ih (i + 1) (by omega)
    have hl : (away (c.take i)).length = i := by simp [away]; omega
    have e0 : away (c.take i) ++ c.drop i = away (c.take i) ++ rd c (i : Int) :: c.drop (i + 1) := by rw [List.drop_eq_getElem_cons hlt, rd_get hlt]
    have e1 : rd (away (c.take i) ++ rd c (i : Int) :: c.drop (i + 1)) (i : Int) = rd c (i : Int) := by
      rw [show rd (away (c.take i) ++ rd c (i : Int) :: c.drop (i + 1)) (i : Int) = (away (c.take i) ++ rd c (i : Int) :: c.drop (i + 1)).getD i 0 from rfl, List.getD_eq_getElem?_getD, List.getElem?_append_right (by omega), hl]
      simp
    have e2 : (away (c.take i) ++ rd c (i : Int) :: c.drop (i + 1)).set i (2 - rd c (i : Int)) = away (c.take (i + 1)) ++ c.drop (i + 1) := by
      rw [List.set_append_right _ _ (by omega), hl, take_rd hlt]
      simp [away]
    rw [e0]
    rw [← e2] at hs
    refine Ev.step (fun k => ?_) hs
    simp only [impl_BasketAfter.l0]
    rw [if_pos (by simp [away]; omega), if_pos (by omega), e1, w64 (x := 2 - rd c (i : Int)) (by omega) (by omega), w64s hlt (by omega)]
    rfl
theorem BasketAfter_both (a : Int) (l : List Int) (hn : l.length ≤ 1048576) : ∃ r : List Int × Bool, r.1.length ≤ 40 ∧ Ev (fun k => spec_BasketAfter.f k a l) r ∧ Ev (fun k => impl_BasketAfter.f k a l) r := by
  cases hq : inB 1 20 a with
  | false =>
    refine ⟨([], false), by simp, Ev.congr (f := fun _ => some ([], false)) (fun k => ?_) (Ev.now _), Ev.congr (f := fun _ => some ([], false)) (fun k => ?_) (Ev.now _)⟩
    · simp [spec_BasketAfter.f, l1In_inB, hq]
    · simp [impl_BasketAfter.f, impl_arePairs.f, within_inB, hq]
  | true =>
    have hx := hq
    simp [inB] at hx
    obtain ⟨n, rfl⟩ := Int.eq_ofNat_of_zero_le (a := a) (by omega)
    have hc : Ev (fun k => spec_laCounts.f k (n : Int) l) (timesR n l) := counts_ev n (by omega) l (by omega)
    have ht := times_ev n (by omega) l (by omega)
    have e1 : ∀ k, spec_BasketAfter.f k (n : Int) l = (spec_laCounts.f k (n : Int) l).bind fun b => if b.2 = true then spec_BasketAfter.l0 k [] b.1 (b.1.length : Int) 0 else some ([], false) := fun k => by simp [spec_BasketAfter.f, l1In_inB, hq]
    have e2 : ∀ k, impl_BasketAfter.f k (n : Int) l = (impl_times.f k (n : Int) l).bind (impl_BasketAfter.g k) := fun k => by simp [impl_BasketAfter.f, impl_arePairs.f, within_inB, hq]
    unfold timesR at hc ht
    cases ho : okT n l with
    | false =>
      rw [ho] at hc ht
      exact ⟨([], false), by simp, Ev.congr e1 (Ev.bind hc (Ev.congr (f := fun _ => some ([], false)) (fun k => rfl) (Ev.now _))), Ev.congr e2 (Ev.bind ht (Ev.congr (f := fun _ => some ([], false)) (fun k => rfl) (Ev.now _)))⟩
    | true =>
      rw [ho] at hc ht
      have hv := cntL_two ho
      obtain ⟨r, hr, f1, f2⟩ := leftAll_both (away (cntL n l)) (by simp [away, cntL_len]; omega) (by
        intro v hm
        simp only [away, List.mem_map] at hm
        obtain ⟨u, hu, rfl⟩ := hm
        have := hv u hu
        omega)
      have s1 := after_spec (cntL n l) (by rw [cntL_len]; omega) hv r f1 (cntL n l).length 0 (by omega)
      have s2 := after_impl (cntL n l) (by rw [cntL_len]; omega) hv r f2 (cntL n l).length 0 (by omega)
      exact ⟨(r, true), hr, Ev.congr e1 (Ev.bind hc (Ev.congr (f := fun k => spec_BasketAfter.l0 k [] (cntL n l) ((cntL n l).length : Int) 0) (fun k => rfl) s1)), Ev.congr e2 (Ev.bind ht (Ev.congr (f := fun k => impl_BasketAfter.l0 k (cntL n l) 0) (fun k => rfl) s2))⟩
end Go.Proofs.Ytbfapmckkmmnjaa.X

/- ==== PlJoin ==== -/
namespace Go.Proofs.Ytbfapmckkmmnjaa.X
open Go.RowKit Go.Proofs.YtbfapmckkmmnjaaW.PrintWords Go.Proofs.YtbfapmckkmmnjaaW.PrintLast Go.Proofs.YtbfapmckkmmnjaaW.PrintMore

theorem JoinBaskets_both (a : Int) (l m : List Int) (hn : l.length ≤ 1048576) (hm : m.length ≤ 1048576) : ∃ r : List Int × Bool, r.1.length ≤ 40 ∧ Ev (fun k => spec_JoinBaskets.f k a l m) r ∧ Ev (fun k => impl_JoinBaskets.f k a l m) r := by
  have s1 := laBasket_ev a l (by omega)
  have i1 := isBasket_ev a l (by omega)
  have s2 := laBasket_ev a m (by omega)
  have i2 := isBasket_ev a m (by omega)
  have sno : Ev (fun k => spec_JoinBaskets.j0 k a l m true) (([], false) : List Int × Bool) := Ev.step (f := fun _ => some ([], false)) (fun k => by simp [spec_JoinBaskets.j0]) (Ev.now _)
  have ino : Ev (fun k => impl_JoinBaskets.j0 k a l m true) (([], false) : List Int × Bool) := Ev.step (f := fun _ => some ([], false)) (fun k => by simp [impl_JoinBaskets.j0]) (Ev.now _)
  cases hb : basketB a l with
  | false =>
    rw [hb] at s1 i1
    exact ⟨([], false), by simp, Ev.bind s1 (Ev.congr (fun k => by rw [if_neg (by decide)]) sno), Ev.bind i1 (Ev.congr (fun k => by rw [if_neg (by decide)]) ino)⟩
  | true =>
    rw [hb] at s1 i1
    cases hb2 : basketB a m with
    | false =>
      rw [hb2] at s2 i2
      exact ⟨([], false), by simp, Ev.bind s1 (Ev.congr (f := fun k => (spec_laBasket.f k a m).bind fun t => spec_JoinBaskets.j0 k a l m (!t)) (fun k => by rw [if_pos rfl]) (Ev.bind s2 sno)), Ev.bind i1 (Ev.congr (f := fun k => (impl_isBasket.f k a m).bind fun t => impl_JoinBaskets.j0 k a l m (!t)) (fun k => by rw [if_pos rfl]) (Ev.bind i2 ino))⟩
    | true =>
      rw [hb2] at s2 i2
      unfold basketB at hb
      simp only [Bool.and_eq_true] at hb
      have hx := hb.1
      simp [inB] at hx
      obtain ⟨n, rfl⟩ := Int.eq_ofNat_of_zero_le (a := a) (by omega)
      have hc : Ev (fun k => spec_laCounts.f k (n : Int) (l ++ m)) (timesR n (l ++ m)) := counts_ev n (by omega) (l ++ m) (by simp; omega)
      have ht := times_ev n (by omega) (l ++ m) (by simp; omega)
      have e1 : ∀ k, spec_JoinBaskets.j0 (k + 1) (n : Int) l m false = (spec_laCounts.f k (n : Int) (l ++ m)).bind fun b => if b.2 = true then (spec_laLeft.f k b.1).bind fun t => some (t, true) else some ([], false) := fun k => by
        simp only [spec_JoinBaskets.j0, spec_l1Own.f, Option.bind_some, List.nil_append, List.length_nil, Nat.zero_add]
        rw [if_neg (by decide), if_pos (by omega)]
        simp only [Option.bind_some]
        rw [if_pos (by omega)]
      have e2 : ∀ k, impl_JoinBaskets.j0 (k + 1) (n : Int) l m false = (impl_times.f k (n : Int) (l ++ m)).bind fun b => if b.2 = true then (impl_basketOf.f k b.1).bind fun t => some (t, true) else some ([], false) := fun k => by
        simp only [impl_JoinBaskets.j0, slices_Concat_int_int.f, List.flatten_cons, List.flatten_nil, List.append_nil]
        rw [if_neg (by decide), if_pos (by simp; omega)]
        rfl
      have fin : ∃ r : List Int × Bool, r.1.length ≤ 40 ∧ Ev (fun k => spec_JoinBaskets.j0 k (n : Int) l m false) r ∧ Ev (fun k => impl_JoinBaskets.j0 k (n : Int) l m false) r := by
        unfold timesR at hc ht
        cases ho : okT n (l ++ m) with
        | false =>
          rw [ho] at hc ht
          exact ⟨([], false), by simp, Ev.step e1 (Ev.bind hc (Ev.congr (f := fun _ => some ([], false)) (fun k => rfl) (Ev.now _))), Ev.step e2 (Ev.bind ht (Ev.congr (f := fun _ => some ([], false)) (fun k => rfl) (Ev.now _)))⟩
        | true =>
          rw [ho] at hc ht
          obtain ⟨r, hr, f1, f2⟩ := leftAll_both (cntL n (l ++ m)) (by rw [cntL_len]; omega) (cntL_two ho)
          exact ⟨(r, true), hr, Ev.step e1 (Ev.bind hc (Ev.congr (f := fun k => (spec_laLeft.f k (cntL n (l ++ m))).bind fun t => some (t, true)) (fun k => rfl) (Ev.bind f1 (Ev.now _)))), Ev.step e2 (Ev.bind ht (Ev.congr (f := fun k => (impl_basketOf.f k (cntL n (l ++ m))).bind fun t => some (t, true)) (fun k => rfl) (Ev.bind f2 (Ev.now _))))⟩
      obtain ⟨r, hr, f1, f2⟩ := fin
      exact ⟨r, hr, Ev.bind s1 (Ev.congr (f := fun k => (spec_laBasket.f k (n : Int) m).bind fun t => spec_JoinBaskets.j0 k (n : Int) l m (!t)) (fun k => by rw [if_pos rfl]) (Ev.bind s2 f1)), Ev.bind i1 (Ev.congr (f := fun k => (impl_isBasket.f k (n : Int) m).bind fun t => impl_JoinBaskets.j0 k (n : Int) l m (!t)) (fun k => by rw [if_pos rfl]) (Ev.bind i2 f2))⟩
end Go.Proofs.Ytbfapmckkmmnjaa.X
