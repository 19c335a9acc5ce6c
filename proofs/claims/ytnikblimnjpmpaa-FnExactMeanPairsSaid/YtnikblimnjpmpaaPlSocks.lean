/- Plain laws, no program in sight: the law's own helpers; what both say of socks and of a number of them. -/
import Derived.Test.YtnikblimnjpmpaaXlawstoIntS
import Derived.Test.YtnikblimnjpmpaaXlawseqIntS
import Derived.Test.YtnikblimnjpmpaaPlBin
import Derived.Test.YtnikblimnjpmpaaHareWithin
import Derived.Test.YtnikblimnjpmpaaXimplisNumber
import Derived.Test.YtnikblimnjpmpaaXspecchAsked
/- ==== PlTo ==== -/
namespace Go.Proofs.Ytnikblimnjpmpaa.X
open Go.RowKit Go.Proofs.YtnikblimnjpmpaaW.PrintWords Go.Proofs.YtnikblimnjpmpaaW.PrintLast Go.Proofs.YtnikblimnjpmpaaW.PrintMore

theorem w64 {x : Int} (h0 : -9223372036854775808 ≤ x) (h1 : x ≤ 9223372036854775807) : wrap64 x = x := by unfold wrap64; omega
theorem w64s {i n : Nat} (h : i < n) (hn : n ≤ 1073741824) : wrap64 ((i : Int) + 1) = ((i + 1 : Nat) : Int) := by unfold wrap64; omega
theorem rd_get {l : List Int} {i : Nat} (h : i < l.length) : rd l (i : Int) = l[i] := by simp [rd, List.getD_eq_getElem?_getD, h]
theorem i64_of {n : Int} (h : (Lit.int .i64 n).wf = true) : -9223372036854775808 ≤ n ∧ n ≤ 9223372036854775807 := by
  simp [Lit.wf, IntKind.min, IntKind.max, IntKind.signed, IntKind.bits] at h
  omega

theorem toIntS_loop (l : List Int) (hn : l.length ≤ 1048576) (d : Nat) : ∀ (i : Nat) (acc : List Int), i + d = l.length → acc.length = l.length → (∀ j, j < i → acc[j]? = l[j]?) →
    Ev (fun k => laws_toIntS.l0 k l acc (i : Int)) l := by
  induction d with
  | zero =>
    intro i acc hi ha hp
    have e : acc = l := by
      apply List.ext_getElem?
      intro j
      by_cases hj : j < i
      · exact hp j hj
      · rw [List.getElem?_eq_none (by omega), List.getElem?_eq_none (by omega)]
    subst e
    refine Ev.step (f := fun _ => some acc) (fun k => ?_) (Ev.now _)
    simp only [laws_toIntS.l0]
    rw [if_neg (by omega)]
  | succ d ih =>
    intro i acc hi ha hp
    refine Ev.step (f := fun k => laws_toIntS.l0 k l (acc.set i (rd l (i : Int))) ((i + 1 : Nat) : Int)) (fun k => ?_) (ih (i + 1) _ (by omega) (by simpa using ha) (fun j hj => ?_))
    · simp only [laws_toIntS.l0]
      rw [if_pos (by omega), if_pos (by omega), if_pos (by omega), w64s (show i < l.length by omega) (by omega), Int.toNat_natCast]
    · by_cases e : j = i
      · subst e
        rw [List.getElem?_set_self (by omega), rd_get (by omega), List.getElem?_eq_getElem (by omega)]
      · rw [List.getElem?_set_ne (by omega)]
        exact hp j (by omega)
theorem toIntS_ev (l : List Int) (hn : l.length ≤ 1048576) : Ev (fun k => laws_toIntS.f k l) l := by
  refine Ev.congr (f := fun k => laws_toIntS.l0 k l (List.replicate l.length 0) ((0 : Nat) : Int)) (fun k => ?_) (toIntS_loop l hn l.length 0 _ (by omega) (by simp) (fun j hj => absurd hj (by omega)))
  unfold laws_toIntS.f
  rw [if_pos (by omega), if_pos (by simp; omega)]
  simp

theorem eqIntS_loop (l : List Int) (hn : l.length ≤ 1073741824) (d : Nat) : ∀ (i : Nat), i + d = l.length → Ev (fun k => laws_eqIntS.l0 k l l (i : Int)) true := by
  induction d with
  | zero =>
    intro i hi
    refine Ev.step (f := fun _ => some true) (fun k => ?_) (Ev.now _)
    simp only [laws_eqIntS.l0]
    rw [if_neg (by omega)]
  | succ d ih =>
    intro i hi
    refine Ev.step (f := fun k => laws_eqIntS.l0 k l l ((i + 1 : Nat) : Int)) (fun k => ?_) (ih (i + 1) (by omega))
    simp only [laws_eqIntS.l0]
    rw [if_pos (by omega), if_pos (by omega), if_pos (by omega), if_pos trivial, w64s (show i < l.length by omega) (by omega)]
theorem eqIntS_ev (l : List Int) (hn : l.length ≤ 1073741824) : Ev (fun k => laws_eqIntS.f k l l) true := by
  refine Ev.congr (f := fun k => laws_eqIntS.l0 k l l ((0 : Nat) : Int)) (fun k => ?_) (eqIntS_loop l hn l.length 0 (by omega))
  unfold laws_eqIntS.f
  rw [if_pos rfl]
  rfl

end Go.Proofs.Ytnikblimnjpmpaa.X

/- ==== PlSocks ==== -/
namespace Go.Proofs.Ytnikblimnjpmpaa.X
open Go.RowKit Go.Proofs.YtnikblimnjpmpaaW.PrintWords Go.Proofs.YtnikblimnjpmpaaW.PrintLast Go.Proofs.YtnikblimnjpmpaaW.PrintMore

theorem l1In_inB (x lo hi : Int) : spec_l1In.f x lo hi = some (inB lo hi x) := by
  unfold spec_l1In.f inB
  by_cases h : x ≥ lo <;> simp [h]
theorem drop_get {l : List Int} {i : Nat} (h : i < l.length) : l.drop i = rd l (i : Int) :: l.drop (i + 1) := by
  rw [List.drop_eq_getElem_cons h]
  simp [rd, List.getD_eq_getElem?_getD, h]
def totI (l : List Int) : Int := l.foldr (fun x s => x + s) 0
theorem totI_cons (x : Int) (l : List Int) : totI (x :: l) = x + totI l := rfl
theorem totI_bd : ∀ {l : List Int}, l.all (inB 0 20) = true → 0 ≤ totI l ∧ totI l ≤ 20 * (l.length : Int)
  | [], _ => by simp [totI]
  | x :: l, h => by
    simp only [List.all_cons, Bool.and_eq_true] at h
    have h1 := totI_bd h.2
    have h2 := h.1
    simp [inB] at h2
    rw [totI_cons, List.length_cons]
    omega
theorem all_drop {l : List Int} (h : l.all (inB 0 20) = true) (i : Nat) : (l.drop i).all (inB 0 20) = true := by
  rw [List.all_eq_true] at *
  exact fun x hx => h x (List.mem_of_mem_drop hx)
theorem total_loop (l : List Int) (hl : l.length ≤ 8) (ha : l.all (inB 0 20) = true) (d : Nat) : ∀ (i : Nat) (acc : Int), i + d = l.length → 0 ≤ acc → acc ≤ 20 * (i : Int) →
    Ev (fun k => impl_total.l0 k acc l (l.length : Int) (i : Int)) (acc + totI (l.drop i)) ∧ Ev (fun k => spec_soSum.l0 k acc l (l.length : Int) (i : Int)) (acc + totI (l.drop i)) := by
  induction d with
  | zero =>
    intro i acc hi h0 h1
    rw [List.drop_of_length_le (by omega), show totI [] = 0 from rfl, Int.add_zero]
    refine ⟨Ev.step (f := fun _ => some acc) (fun k => ?_) (Ev.now _), Ev.step (f := fun _ => some acc) (fun k => ?_) (Ev.now _)⟩
    · simp only [impl_total.l0]
      rw [if_neg (by omega)]
    · simp only [spec_soSum.l0]
      rw [if_neg (by omega)]
  | succ d ih =>
    intro i acc hi h0 h1
    have hlt : i < l.length := by omega
    have hx := List.all_eq_true.1 ha (rd l (i : Int)) (by rw [rd_get hlt]; exact List.getElem_mem _)
    simp [inB] at hx
    have hw : wrap64 (acc + rd l (i : Int)) = acc + rd l (i : Int) := by unfold wrap64; omega
    obtain ⟨e1, e2⟩ := ih (i + 1) (acc + rd l (i : Int)) (by omega) (by omega) (by omega)
    rw [drop_get hlt, totI_cons, ← Int.add_assoc]
    refine ⟨Ev.step (fun k => ?_) e1, Ev.step (fun k => ?_) e2⟩
    · simp only [impl_total.l0]
      rw [if_pos (by omega), if_pos (by omega), if_pos (by omega), hw, w64s hlt (by omega)]
    · simp only [spec_soSum.l0]
      rw [if_pos (by omega), if_pos (by omega), if_pos (by omega), hw, w64s hlt (by omega)]
theorem total_ev {l : List Int} (hl : l.length ≤ 8) (ha : l.all (inB 0 20) = true) : Ev (fun k => impl_total.f k l) (totI l) := by
  have := (total_loop l hl ha l.length 0 0 (by omega) (by omega) (by omega)).1
  simpa [impl_total.f] using this
theorem soSum_ev {l : List Int} (hl : l.length ≤ 8) (ha : l.all (inB 0 20) = true) : Ev (fun k => spec_soSum.f k l) (totI l) := by
  have := (total_loop l hl ha l.length 0 0 (by omega) (by omega) (by omega)).2
  simpa [spec_soSum.f] using this
theorem l1All_loop (l : List Int) (hl : l.length ≤ 1048576) (d : Nat) : ∀ (i : Nat), i + d = l.length → Ev (fun k => spec_l1All.l0 k 0 20 l (l.length : Int) (i : Int)) ((l.drop i).all (inB 0 20)) := by
  induction d with
  | zero =>
    intro i hi
    rw [List.drop_of_length_le (by omega)]
    refine Ev.step (f := fun _ => some true) (fun k => ?_) (Ev.now _)
    simp only [spec_l1All.l0]
    rw [if_neg (by omega)]
  | succ d ih =>
    intro i hi
    have hlt : i < l.length := by omega
    rw [drop_get hlt, List.all_cons]
    cases hx : inB 0 20 (rd l (i : Int)) with
    | false =>
      refine Ev.step (f := fun _ => some false) (fun k => ?_) (by simpa using Ev.now false)
      simp only [spec_l1All.l0]
      rw [if_pos (by omega), if_pos (by omega), if_pos (by omega), l1In_inB, hx]
      rfl
    | true =>
      rw [Bool.true_and]
      refine Ev.step (fun k => ?_) (ih (i + 1) (by omega))
      simp only [spec_l1All.l0]
      rw [if_pos (by omega), if_pos (by omega), if_pos (by omega), l1In_inB, hx, w64s hlt (by omega)]
      rfl
def good (l : List Int) : Bool := inB 1 8 (l.length : Int) && (l.all (inB 0 20) && decide (totI l > 0))
def few (l : List Int) : Bool := good l && decide (totI l ≤ 40)
def asked (l : List Int) (a : Int) : Bool := few l && inB 0 (totI l) a
theorem good_ev (l : List Int) (hn : l.length ≤ 1048576) : Ev (fun k => impl_AreSocks.f k l) (good l) ∧ Ev (fun k => spec_soGood.f k l) (good l) := by
  unfold good
  cases h1 : inB 1 8 (l.length : Int) with
  | false =>
    refine ⟨Ev.congr (f := fun _ => some false) (fun k => ?_) (by simpa using Ev.now false), Ev.congr (f := fun _ => some false) (fun k => ?_) (by simpa using Ev.now false)⟩
    · simp [impl_AreSocks.f, within_inB, h1]
    · simp [spec_soGood.f, l1In_inB, h1]
  | true =>
    have hl : l.length ≤ 8 := by simp [inB] at h1; omega
    have e0 := l1All_loop l (by omega) l.length 0 (by omega)
    rw [List.drop_zero] at e0
    cases h2 : l.all (inB 0 20) with
    | false =>
      rw [h2] at e0
      refine ⟨Ev.congr (f := fun _ => some false) (fun k => ?_) (by simpa using Ev.now false), Ev.congr (f := fun k => (spec_l1All.f k l 0 20).bind fun t => if t = true then ((spec_soSum.f k l).bind fun t106 => (some (decide (t106 > 0)))) else (some false)) (fun k => ?_) (Ev.bind e0 (Ev.congr (f := fun _ => some false) (fun k => by rw [if_neg (by decide)]) (by simpa using Ev.now false)))⟩
      · simp [impl_AreSocks.f, within_inB, h1, impl_areWithin.f, h2]
      · simp [spec_soGood.f, l1In_inB, h1]
    | true =>
      rw [h2] at e0
      refine ⟨Ev.congr (f := fun k => (impl_total.f k l).bind fun t => some (decide (t > 0))) (fun k => ?_) (Ev.bind (total_ev hl h2) (by simpa using Ev.now _)), Ev.congr (f := fun k => (spec_l1All.f k l 0 20).bind fun t => if t = true then ((spec_soSum.f k l).bind fun t106 => (some (decide (t106 > 0)))) else (some false)) (fun k => ?_) (Ev.bind e0 (Ev.congr (f := fun k => (spec_soSum.f k l).bind fun t => some (decide (t > 0))) (fun k => by rw [if_pos rfl]) (Ev.bind (soSum_ev hl h2) (by simpa using Ev.now _))))⟩
      · simp [impl_AreSocks.f, within_inB, h1, impl_areWithin.f, h2]
      · simp [spec_soGood.f, l1In_inB, h1]
theorem good_of {l : List Int} (h : good l = true) : 1 ≤ l.length ∧ l.length ≤ 8 ∧ l.all (inB 0 20) = true ∧ 0 < totI l := by
  unfold good at h
  simp only [Bool.and_eq_true, decide_eq_true_eq] at h
  have h1 := h.1
  simp [inB] at h1
  exact ⟨by omega, by omega, h.2.1, h.2.2⟩
theorem few_ev (l : List Int) (hn : l.length ≤ 1048576) : Ev (fun k => impl_areFew.f k l) (few l) ∧ Ev (fun k => spec_chGood.f k l) (few l) := by
  obtain ⟨e1, e2⟩ := good_ev l hn
  unfold few
  cases h : good l with
  | false =>
    rw [h] at e1 e2
    exact ⟨Ev.bind e1 (Ev.congr (f := fun _ => some false) (fun k => by rw [if_neg (by decide)]) (by simpa using Ev.now false)), Ev.bind e2 (Ev.congr (f := fun _ => some false) (fun k => by rw [if_neg (by decide)]) (by simpa using Ev.now false))⟩
  | true =>
    rw [h] at e1 e2
    obtain ⟨_, g2, g3, _⟩ := good_of h
    exact ⟨Ev.bind e1 (Ev.congr (f := fun k => (impl_total.f k l).bind fun t => some (decide (t ≤ 40))) (fun k => by rw [if_pos rfl]) (Ev.bind (total_ev g2 g3) (by simpa using Ev.now _))), Ev.bind e2 (Ev.congr (f := fun k => (spec_soSum.f k l).bind fun t => some (decide (t ≤ 40))) (fun k => by rw [if_pos rfl]) (Ev.bind (soSum_ev g2 g3) (by simpa using Ev.now _)))⟩
theorem few_of {l : List Int} (h : few l = true) : 1 ≤ l.length ∧ l.length ≤ 8 ∧ l.all (inB 0 20) = true ∧ 0 < totI l ∧ totI l ≤ 40 := by
  unfold few at h
  simp only [Bool.and_eq_true, decide_eq_true_eq] at h
  obtain ⟨g1, g2, g3, g4⟩ := good_of h.1
  exact ⟨g1, g2, g3, g4, h.2⟩
theorem asked_ev (l : List Int) (a : Int) (hn : l.length ≤ 1048576) : Ev (fun k => impl_isNumber.f k l a) (asked l a) ∧ Ev (fun k => spec_chAsked.f k l a) (asked l a) := by
  obtain ⟨e1, e2⟩ := few_ev l hn
  unfold asked
  cases h : few l with
  | false =>
    rw [h] at e1 e2
    exact ⟨Ev.bind e1 (Ev.congr (f := fun _ => some false) (fun k => by rw [if_neg (by decide)]) (by simpa using Ev.now false)), Ev.bind e2 (Ev.congr (f := fun _ => some false) (fun k => by rw [if_neg (by decide)]) (by simpa using Ev.now false))⟩
  | true =>
    rw [h] at e1 e2
    obtain ⟨_, g2, g3, _, _⟩ := few_of h
    refine ⟨Ev.bind e1 (Ev.congr (f := fun k => (impl_total.f k l).bind fun t => some (inB 0 t a)) (fun k => ?_) (Ev.bind (total_ev g2 g3) (by simpa using Ev.now _))), Ev.bind e2 (Ev.congr (f := fun k => (spec_soSum.f k l).bind fun t => some (inB 0 t a)) (fun k => ?_) (Ev.bind (soSum_ev g2 g3) (by simpa using Ev.now _)))⟩
    · rw [if_pos rfl]
      simp only [within_inB, Option.bind_some]
    · rw [if_pos rfl]
      simp only [l1In_inB, Option.bind_some]
theorem asked_of {l : List Int} {a : Int} (h : asked l a = true) : few l = true ∧ 0 ≤ a ∧ a ≤ totI l := by
  unfold asked at h
  simp only [Bool.and_eq_true] at h
  have h2 := h.2
  simp [inB] at h2
  exact ⟨h.1, h2.1, h2.2⟩
def toI (ns : List Nat) : List Int := ns.map fun n => ((n : Nat) : Int)
theorem totI_toI : ∀ ns : List Nat, totI (toI ns) = ((sumL ns : Nat) : Int)
  | [] => rfl
  | n :: ns => by
    have := totI_toI ns
    simp only [toI, List.map_cons, totI_cons, sumL_cons] at *
    omega
/-- Few socks, as a list of natural numbers. -/
theorem few_ns {l : List Int} (h : few l = true) : ∃ ns : List Nat, l = toI ns ∧ (∀ n ∈ ns, n ≤ 20) ∧ 1 ≤ ns.length ∧ ns.length ≤ 8 ∧ 1 ≤ sumL ns ∧ sumL ns ≤ 40 ∧ totI l = ((sumL ns : Nat) : Int) := by
  obtain ⟨g1, g2, g3, g4, g5⟩ := few_of h
  have hl : l = toI (l.map Int.toNat) := by
    unfold toI
    rw [List.map_map]
    have : l.map ((fun n : Nat => (n : Int)) ∘ Int.toNat) = l.map id := List.map_congr_left fun x hx => by
      have := List.all_eq_true.1 g3 x hx
      simp [inB] at this
      simp only [Function.comp, id]
      omega
    rw [this, List.map_id]
  have ht : totI l = ((sumL (l.map Int.toNat) : Nat) : Int) := by
    rw [← totI_toI, ← hl]
  refine ⟨l.map Int.toNat, hl, fun n hn => ?_, by simpa using g1, by simpa using g2, by omega, by omega, ht⟩
  obtain ⟨x, hx, rfl⟩ := List.mem_map.1 hn
  have := List.all_eq_true.1 g3 x hx
  simp [inB] at this
  omega
end Go.Proofs.Ytnikblimnjpmpaa.X
