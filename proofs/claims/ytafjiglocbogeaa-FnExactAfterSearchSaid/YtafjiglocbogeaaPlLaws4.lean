/- Plain laws, no program in sight: AfterEmpty, AfterSearch of both. -/
import Derived.Test.YtafjiglocbogeaaMA
import Derived.Test.YtafjiglocbogeaaXimplAfterEmpty
import Derived.Test.YtafjiglocbogeaaXspecAfterEmpty
import Derived.Test.YtafjiglocbogeaaXimplAfterSearch
import Derived.Test.YtafjiglocbogeaaXspecAfterSearch
namespace Go.Proofs.Ytafjiglocbogeaa.X
open Go.RowKit Go.Proofs.YtafjiglocbogeaaW.PrintWords Go.Proofs.YtafjiglocbogeaaW.PrintLast Go.Proofs.YtafjiglocbogeaaW.PrintMore

/-- The drawers when some have been searched. -/
def emp1 (D : List S50) (S : List Int) (j : Nat) : S50 := if (j : Int) ∈ S then ⟨0, (rd_T50 D (j : Int)).f1⟩ else ⟨(rd_T50 D (j : Int)).f0, (rd_T50 D (j : Int)).f1⟩
def emp (D : List S50) (S : List Int) : List S50 := (List.range D.length).map (emp1 D S)
theorem emp_len (D : List S50) (S : List Int) : (emp D S).length = D.length := by simp [emp]
theorem emp_get {D : List S50} {S : List Int} {j : Nat} (h : j < D.length) : (emp D S)[j]? = some (emp1 D S j) := by simp [emp, h]
theorem emp_rd {D : List S50} {S : List Int} {j : Nat} (h : j < D.length) : rd_T50 (emp D S) (j : Int) = emp1 D S j := by
  unfold rd_T50
  rw [List.getD_eq_getElem?_getD, Int.toNat_natCast, emp_get h]
  rfl
theorem emp_nil (D : List S50) : emp D [] = D := by
  apply List.ext_getElem?
  intro j
  by_cases h : j < D.length
  · rw [emp_get h, List.getElem?_eq_getElem h]
    simp only [emp1, List.not_mem_nil, if_false]
    rw [rdD_get h]
  · rw [List.getElem?_eq_none (by rw [emp_len]; omega), List.getElem?_eq_none (by omega)]
theorem emp_snoc {D : List S50} {S : List Int} {q : Nat} (hq : q < D.length) : (emp D S).set q ⟨0, (rd_T50 (emp D S) (q : Int)).f1⟩ = emp D (S ++ [(q : Int)]) := by
  apply List.ext_getElem?
  intro j
  by_cases h : j < D.length
  · rw [emp_get h]
    by_cases e : j = q
    · subst e
      rw [List.getElem?_set_self (by rw [emp_len]; omega), emp_rd h]
      have : (j : Int) ∈ S ++ [(j : Int)] := by simp
      simp only [emp1, this, if_true]
      split <;> rfl
    · rw [List.getElem?_set_ne (by omega), emp_get h]
      have hne : ¬ (j : Int) = (q : Int) := by omega
      simp only [emp1, List.mem_append, List.mem_singleton, hne, or_false]
  · rw [List.getElem?_eq_none (by rw [List.length_set, emp_len]; omega), List.getElem?_eq_none (by rw [emp_len]; omega)]

def empR (D : List S50) (S : List Int) : List S50 × Bool := if areDr (emp D S) = true then (emp D S, true) else ([], false)
theorem emptied_loop {D : List S50} (_h8 : D.length ≤ 8) (S : List Int) (hn : S.length ≤ 1048576) (hin : ∀ x ∈ S, 0 ≤ x ∧ x < (D.length : Int)) (d : Nat) : ∀ (i : Nat), i + d = S.length →
    Ev (fun k => impl_emptied.l0 k (emp D (S.take i)) S (S.length : Int) (i : Int)) (empR D S) := by
  induction d with
  | zero =>
    intro i hi
    rw [List.take_of_length_le (by omega)]
    refine Ev.step (f := fun _ => some (empR D S)) (fun k => ?_) (Ev.now _)
    simp only [impl_emptied.l0, impl_AreDrawers.f, Option.bind_some]
    rw [if_neg (by omega)]
    unfold empR
    split <;> rfl
  | succ d ih =>
    intro i hi
    have hlt : i < S.length := by omega
    have hx := hin _ (show rd S (i : Int) ∈ S by rw [rd_get hlt]; exact List.getElem_mem _)
    have hs := ih (i + 1) (by omega)
    obtain ⟨q, hq⟩ := Int.eq_ofNat_of_zero_le hx.1
    rw [take_rd hlt, hq, ← emp_snoc (show q < D.length by omega)] at hs
    refine Ev.step (fun k => ?_) hs
    simp only [impl_emptied.l0]
    rw [if_pos (by omega), if_pos (by omega), if_pos (by omega), if_pos hx.1, if_pos (by rw [emp_len]; omega), w64s hlt (by omega), hq, Int.toNat_natCast]
theorem emptied_ev {D : List S50} (h8 : D.length ≤ 8) (S : List Int) (hn : S.length ≤ 1048576) (hin : ∀ x ∈ S, 0 ≤ x ∧ x < (D.length : Int)) : Ev (fun k => impl_emptied.f k D S) (empR D S) := by
  have h := emptied_loop h8 S hn hin S.length 0 (by omega)
  rw [List.take_zero, emp_nil] at h
  refine Ev.congr (f := fun k => impl_emptied.l0 k D S (S.length : Int) ((0 : Nat) : Int)) (fun k => ?_) h
  unfold impl_emptied.f impl_Drawer_74.f
  rw [if_pos (by omega)]
  rfl

theorem dwEmpty_loop {D : List S50} (h8 : D.length ≤ 8) (S : List Int) (hn : S.length ≤ 1048576) (d : Nat) : ∀ (i : Nat), i + d = D.length →
    Ev (fun k => spec_dwEmpty.l0 k S ((emp D S).take i) D (D.length : Int) (i : Int)) (empR D S) := by
  induction d with
  | zero =>
    intro i hi
    rw [List.take_of_length_le (by rw [emp_len]; omega)]
    refine Ev.step (f := fun k => (spec_dwGood.f k (emp D S)).bind fun t => if t = true then some (emp D S, true) else some ([], false)) (fun k => ?_) (Ev.bind (dwGood_ev _) ?_)
    · simp only [spec_dwEmpty.l0]
      rw [if_neg (by omega)]
    · refine Ev.congr (f := fun _ => some (empR D S)) (fun k => ?_) (Ev.now _)
      unfold empR
      split <;> rfl
  | succ d ih =>
    intro i hi
    have hlt : i < D.length := by omega
    have hs := ih (i + 1) (by omega)
    have htk : (emp D S).take (i + 1) = (emp D S).take i ++ [emp1 D S i] := by
      rw [List.take_succ_eq_append_getElem (by rw [emp_len]; omega)]
      have : (emp D S)[i]'(by rw [emp_len]; omega) = emp1 D S i := by
        have := emp_get (S := S) hlt
        rw [List.getElem?_eq_getElem (by rw [emp_len]; omega)] at this
        exact Option.some.inj this
      rw [this]
    have hl : ((emp D S).take i).length < 8796093022208 := by rw [List.length_take, emp_len]; omega
    rw [htk] at hs
    by_cases hm : (i : Int) ∈ S
    · have hh := has_ev S (i : Int) (by omega)
      rw [decide_eq_true hm] at hh
      have e : emp1 D S i = ⟨0, (rd_T50 D (i : Int)).f1⟩ := by simp [emp1, hm]
      rw [e] at hs
      refine Ev.step (f := fun k => (spec_l1Has.f k S (i : Int)).bind fun t => if t = true then spec_dwEmpty.l0 k S ((emp D S).take i ++ [(⟨0, (rd_T50 D (i : Int)).f1⟩ : S50)]) D (D.length : Int) ((i + 1 : Nat) : Int) else spec_dwEmpty.l0 k S ((emp D S).take i ++ [(⟨(rd_T50 D (i : Int)).f0, (rd_T50 D (i : Int)).f1⟩ : S50)]) D (D.length : Int) ((i + 1 : Nat) : Int)) (fun k => ?_) (Ev.bind hh (Ev.congr (fun k => by rw [if_pos rfl]) hs))
      simp only [spec_dwEmpty.l0, hl, if_true]
      rw [if_pos (by omega), if_pos (by omega), w64ds hlt (by omega), if_pos (by omega)]
    · have hh := has_ev S (i : Int) (by omega)
      rw [decide_eq_false hm] at hh
      have e : emp1 D S i = ⟨(rd_T50 D (i : Int)).f0, (rd_T50 D (i : Int)).f1⟩ := by simp [emp1, hm]
      rw [e] at hs
      refine Ev.step (f := fun k => (spec_l1Has.f k S (i : Int)).bind fun t => if t = true then spec_dwEmpty.l0 k S ((emp D S).take i ++ [(⟨0, (rd_T50 D (i : Int)).f1⟩ : S50)]) D (D.length : Int) ((i + 1 : Nat) : Int) else spec_dwEmpty.l0 k S ((emp D S).take i ++ [(⟨(rd_T50 D (i : Int)).f0, (rd_T50 D (i : Int)).f1⟩ : S50)]) D (D.length : Int) ((i + 1 : Nat) : Int)) (fun k => ?_) (Ev.bind hh (Ev.congr (fun k => by rw [if_neg (by decide)]) hs))
      simp only [spec_dwEmpty.l0, hl, if_true]
      rw [if_pos (by omega), if_pos (by omega), w64ds hlt (by omega), if_pos (by omega)]
theorem dwEmpty_ev {D : List S50} (h8 : D.length ≤ 8) (S : List Int) (hn : S.length ≤ 1048576) : Ev (fun k => spec_dwEmpty.f k D S) (empR D S) :=
  dwEmpty_loop h8 S hn D.length 0 (by omega)
theorem empR_len {D : List S50} (h8 : D.length ≤ 8) (S : List Int) : (empR D S).1.length ≤ 8 := by
  unfold empR
  split
  · simpa [emp_len] using h8
  · simp

theorem AfterEmpty_both (D : List S50) (a : Int) : ∃ r : List S50 × Bool, r.1.length ≤ 8 ∧ Ev (fun k => spec_AfterEmpty.f k D a) r ∧ Ev (fun k => impl_AfterEmpty.f k D a) r := by
  have h := dwGood_ev D
  cases hd : areDr D with
  | false =>
    rw [hd] at h
    refine ⟨([], false), by simp, Ev.bind h (Ev.congr (fun k => by rw [if_neg (by decide)]) (Ev.now _)), Ev.congr (f := fun _ => some ([], false)) (fun k => ?_) (Ev.now _)⟩
    simp [impl_AfterEmpty.f, impl_isDrawer.f, impl_AreDrawers.f, hd]
  | true =>
    rw [hd] at h
    have hl := areDr_len hd
    have hw : wrap64 ((D.length : Int) - 1) = (D.length : Int) - 1 := w64 (by omega) (by omega)
    cases hq : inB 0 ((D.length : Int) - 1) a with
    | false =>
      refine ⟨([], false), by simp, Ev.bind h (Ev.congr (f := fun _ => some ([], false)) (fun k => by rw [if_pos rfl, l1In_inB, hw, hq]; rfl) (Ev.now _)), Ev.congr (f := fun _ => some ([], false)) (fun k => ?_) (Ev.now _)⟩
      simp [impl_AfterEmpty.f, impl_isDrawer.f, impl_AreDrawers.f, hd, within_inB, hw, hq]
    | true =>
      have hx := hq
      simp [inB] at hx
      have hin : ∀ x ∈ [a], 0 ≤ x ∧ x < (D.length : Int) := by
        intro x hm
        simp at hm
        omega
      refine ⟨empR D [a], empR_len hl.2 _, Ev.bind h (Ev.congr (f := fun k => (spec_dwEmpty.f k D [a]).bind fun b => some (b.1, b.2)) (fun k => by rw [if_pos rfl, l1In_inB, hw, hq]; rfl) (Ev.bind (dwEmpty_ev hl.2 [a] (by simp)) (Ev.now _))), Ev.congr (f := fun k => (impl_emptied.f k D [a]).bind fun b => some (b.1, b.2)) (fun k => ?_) (Ev.bind (emptied_ev hl.2 [a] (by simp) hin) (Ev.now _))⟩
      simp [impl_AfterEmpty.f, impl_isDrawer.f, impl_AreDrawers.f, hd, within_inB, hw, hq]

theorem AfterSearch_both (D : List S50) (l : List Int) (a : Int) (hn : l.length ≤ 1048576) : ∃ r : List S50 × Bool, r.1.length ≤ 8 ∧ Ev (fun k => spec_AfterSearch.f k D l a) r ∧ Ev (fun k => impl_AfterSearch.f k D l a) r := by
  have h1 := dwBoth_ev D l
  have h2 := isSearch_ev D l hn
  cases hs : srch D l with
  | false =>
    rw [hs] at h1 h2
    exact ⟨([], false), by simp, Ev.bind h1 (Ev.congr (fun k => by rw [if_neg (by decide)]) (Ev.now _)), Ev.bind h2 (Ev.congr (fun k => by rw [if_neg (by decide)]) (Ev.now _))⟩
  | true =>
    rw [hs] at h1 h2
    have hl := areDr_len (srch_dr hs)
    have hp := perm_len (srch_perm hs)
    have hin := perm_in (srch_perm hs)
    cases hq : inB 0 (D.length : Int) a with
    | false =>
      refine ⟨([], false), by simp, Ev.bind h1 (Ev.congr (f := fun _ => some ([], false)) (fun k => ?_) (Ev.now _)), Ev.bind h2 (Ev.congr (f := fun _ => some ([], false)) (fun k => ?_) (Ev.now _))⟩
      · rw [if_pos rfl, l1In_inB, hq]
        rfl
      · rw [if_pos rfl, within_inB, hp, hq]
        rfl
    | true =>
      have hx := hq
      simp [inB] at hx
      have hin2 : ∀ x ∈ l.take a.toNat, 0 ≤ x ∧ x < (D.length : Int) := fun x hm => hin x (List.mem_of_mem_take hm)
      have htl : (l.take a.toNat).length ≤ 1048576 := by rw [List.length_take]; omega
      refine ⟨empR D (l.take a.toNat), empR_len hl.2 _, Ev.bind h1 (Ev.congr (f := fun k => (spec_dwEmpty.f k D (l.take a.toNat)).bind fun b => some (b.1, b.2)) (fun k => ?_) (Ev.bind (dwEmpty_ev hl.2 _ htl) (Ev.now _))), Ev.bind h2 (Ev.congr (f := fun k => (impl_emptied.f k D (l.take a.toNat)).bind fun b => some (b.1, b.2)) (fun k => ?_) (Ev.bind (emptied_ev hl.2 _ htl hin2) (Ev.now _)))⟩
      · rw [if_pos rfl, l1In_inB, hq]
        simp only [Option.bind_some, if_true]
        rw [if_pos hx.1, if_pos (by omega)]
      · rw [if_pos rfl, within_inB, hp, hq]
        simp only [Option.bind_some, if_true]
        rw [if_pos hx.1, if_pos (by omega)]

end Go.Proofs.Ytafjiglocbogeaa.X
