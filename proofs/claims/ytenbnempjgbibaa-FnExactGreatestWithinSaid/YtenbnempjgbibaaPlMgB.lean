/- Texts of this seat in one: PlDr, PlGood, PlFrac, PlOpt, PlLook, PlBits, PlBest, PlWithin. -/
import Derived.Test.YtenbnempjgbibaaXlawstoDrawerS
import Derived.Test.YtenbnempjgbibaaXlawseqDrawerS
import Derived.Test.YtenbnempjgbibaaXlawsszDrawerS
import Derived.Test.YtenbnempjgbibaaHAreDrawers
import Derived.Test.YtenbnempjgbibaaXspecdwGood
import Derived.Test.YtenbnempjgbibaaXspecgvLow
import Derived.Test.YtenbnempjgbibaaXimplfraction
import Derived.Test.YtenbnempjgbibaaXspecdwLook
import Derived.Test.YtenbnempjgbibaaXimplbestWithin
import Derived.Test.YtenbnempjgbibaaXimplGreatestWithin
import Derived.Test.YtenbnempjgbibaaXspecGreatestWithin
import Derived.Test.YtenbnempjgbibaaXimplBestWithin
import Derived.Test.YtenbnempjgbibaaXspecBestWithin
/- ==== PlDr ==== -/
namespace Go.Proofs.Ytenbnempjgbibaa.X
open Go.RowKit Go.Proofs.YtenbnempjgbibaaW.PrintWords Go.Proofs.YtenbnempjgbibaaW.PrintLast Go.Proofs.YtenbnempjgbibaaW.PrintMore

theorem w64d {x : Int} (h0 : -9223372036854775808 ≤ x) (h1 : x ≤ 9223372036854775807) : wrap64 x = x := by unfold wrap64; omega
theorem w64ds {i n : Nat} (h : i < n) (hn : n ≤ 1073741824) : wrap64 ((i : Int) + 1) = ((i + 1 : Nat) : Int) := by unfold wrap64; omega
theorem rdD_get {l : List S47} {i : Nat} (h : i < l.length) : rd_T47 l (i : Int) = l[i] := by simp [rd_T47, List.getD_eq_getElem?_getD, h]
theorem rdL_get {l : List S49} {i : Nat} (h : i < l.length) : rd_T49 l (i : Int) = l[i] := by simp [rd_T49, List.getD_eq_getElem?_getD, h]
/-- The program's drawer of the law's. -/
def cv (x : S49) : S47 := ⟨x.f0, x.f1⟩

theorem toDr_loop (l : List S49) (hn : l.length ≤ 1048576) (d : Nat) : ∀ (i : Nat) (acc : List S47), i + d = l.length → acc.length = l.length → (∀ j, j < i → acc[j]? = (l.map cv)[j]?) →
    Ev (fun k => laws_toDrawerS.l0 k l acc (i : Int)) (l.map cv) := by
  induction d with
  | zero =>
    intro i acc hi ha hp
    have e : acc = l.map cv := by
      apply List.ext_getElem?
      intro j
      by_cases hj : j < i
      · exact hp j hj
      · rw [List.getElem?_eq_none (by omega), List.getElem?_eq_none (by simp; omega)]
    subst e
    refine Ev.step (f := fun _ => some (l.map cv)) (fun k => ?_) (Ev.now _)
    simp only [laws_toDrawerS.l0]
    rw [if_neg (by omega)]
  | succ d ih =>
    intro i acc hi ha hp
    refine Ev.step (f := fun k => laws_toDrawerS.l0 k l (acc.set i (cv (rd_T49 l (i : Int)))) ((i + 1 : Nat) : Int)) (fun k => ?_) (ih (i + 1) _ (by omega) (by simpa using ha) (fun j hj => ?_))
    · simp only [laws_toDrawerS.l0, laws_toDrawer.f, Option.bind_some]
      rw [if_pos (by omega), if_pos (by omega), if_pos (by omega), w64ds (show i < l.length by omega) (by omega), Int.toNat_natCast]
      rfl
    · by_cases e : j = i
      · subst e
        rw [List.getElem?_set_self (by omega), rdL_get (by omega), List.getElem?_map, List.getElem?_eq_getElem (by omega)]
        rfl
      · rw [List.getElem?_set_ne (by omega)]
        exact hp j (by omega)
theorem toDr_ev (l : List S49) (hn : l.length ≤ 1048576) : Ev (fun k => laws_toDrawerS.f k l) (l.map cv) := by
  refine Ev.congr (f := fun k => laws_toDrawerS.l0 k l (List.replicate l.length z47) ((0 : Nat) : Int)) (fun k => ?_) (toDr_loop l hn l.length 0 _ (by omega) (by simp) (fun j hj => absurd hj (by omega)))
  unfold laws_toDrawerS.f
  rw [if_pos (by omega), if_pos (by simp; omega)]
  simp

theorem eqDr_loop (l : List S47) (hn : l.length ≤ 1073741824) (d : Nat) : ∀ (i : Nat), i + d = l.length → Ev (fun k => laws_eqDrawerS.l0 k l l (i : Int)) true := by
  induction d with
  | zero =>
    intro i hi
    refine Ev.step (f := fun _ => some true) (fun k => ?_) (Ev.now _)
    simp only [laws_eqDrawerS.l0]
    rw [if_neg (by omega)]
  | succ d ih =>
    intro i hi
    refine Ev.step (f := fun k => laws_eqDrawerS.l0 k l l ((i + 1 : Nat) : Int)) (fun k => ?_) (ih (i + 1) (by omega))
    simp only [laws_eqDrawerS.l0, laws_eqDrawer.f, if_true, Option.bind_some]
    rw [if_pos (by omega), if_pos (by omega), if_pos (by omega), w64ds (show i < l.length by omega) (by omega)]
theorem eqDr_ev (l : List S47) (hn : l.length ≤ 1073741824) : Ev (fun k => laws_eqDrawerS.f k l l) true := by
  refine Ev.congr (f := fun k => laws_eqDrawerS.l0 k l l ((0 : Nat) : Int)) (fun k => ?_) (eqDr_loop l hn l.length 0 (by omega))
  unfold laws_eqDrawerS.f
  rw [if_pos rfl]
  rfl

theorem sz_big {l : List S49} (h : 1048576 < l.length) (hn : l.length * 16 ≤ 140737488351232) : laws_szDrawerS.f l 1048576 = some (-1) := by
  unfold laws_szDrawerS.f
  rw [w64d (by omega) (by omega), if_pos (by omega)]
theorem sz_small {l : List S49} (h : l.length ≤ 1048576) : laws_szDrawerS.f l 1048576 = some (1048576 - (l.length : Int)) := by
  unfold laws_szDrawerS.f
  rw [w64d (by omega) (by omega), if_neg (by omega)]

end Go.Proofs.Ytenbnempjgbibaa.X

/- ==== PlGood ==== -/
namespace Go.Proofs.Ytenbnempjgbibaa.X
open Go.RowKit Go.Proofs.YtenbnempjgbibaaW.PrintWords Go.Proofs.YtenbnempjgbibaaW.PrintLast Go.Proofs.YtenbnempjgbibaaW.PrintMore

theorem l1In_inB (x lo hi : Int) : spec_l1In.f x lo hi = some (inB lo hi x) := by
  unfold spec_l1In.f inB
  by_cases h : lo ≤ x <;> simp [h]
theorem dwAll_loop (l : List S47) (hn : l.length ≤ 1048576) (ho : okW l) (d : Nat) : ∀ (i : Nat) (acc : Int), i + d = l.length → 0 ≤ acc → acc ≤ 50 * (i : Int) →
    Ev (fun k => spec_dwAll.l0 k acc l (l.length : Int) (i : Int)) (acc + sumW (l.drop i)) := by
  induction d with
  | zero =>
    intro i acc hi h0 h1
    refine Ev.step (f := fun _ => some acc) (fun k => ?_) ?_
    · simp only [spec_dwAll.l0]
      rw [if_neg (by omega)]
    · rw [List.drop_of_length_le (by omega)]
      simpa [sumW] using Ev.now acc
  | succ d ih =>
    intro i acc hi h0 h1
    have hlt : i < l.length := by omega
    have hb := ho _ (rd_mem hlt)
    rw [drop_rd hlt]
    have := ih (i + 1) (acc + (rd_T47 l (i : Int)).f0) (by omega) (by omega) (by omega)
    refine Ev.step (f := fun k => spec_dwAll.l0 k (acc + (rd_T47 l (i : Int)).f0) l (l.length : Int) ((i + 1 : Nat) : Int)) (fun k => ?_) (by simpa [sumW, Int.add_assoc] using this)
    simp only [spec_dwAll.l0]
    rw [if_pos (by omega), if_pos (by omega), if_pos (by omega), w64d (by omega) (by omega), w64ds hlt (by omega)]
theorem dwAll_ev (l : List S47) (hn : l.length ≤ 1048576) (ho : okW l) : Ev (fun k => spec_dwAll.f k l) (sumW l) := by
  have := dwAll_loop l hn ho l.length 0 0 (by omega) (by omega) (by omega)
  simpa [spec_dwAll.f] using this
theorem weights_ev (l : List S47) (hn : l.length ≤ 1048576) (ho : okW l) : Ev (fun k => impl_weights.f k l) (sumW l) := Ev.of (impl_weights.mono l) (weights_is l hn ho)

theorem dwGood_loop (l : List S47) (hn : l.length ≤ 8) (d : Nat) : ∀ (i : Nat), i + d = l.length → (∀ j, j < i → goodD (rd_T47 l (j : Nat)) = true) →
    Ev (fun k => spec_dwGood.l0 k l l (l.length : Int) (i : Int)) (l.all goodD && decide (0 < sumW l)) := by
  induction d with
  | zero =>
    intro i hi hp
    have e : i = l.length := by omega
    have ha := all_pre l (fun j hj => hp j (by omega))
    rw [ha, Bool.true_and]
    refine Ev.step (f := fun k => (spec_dwAll.f k l).bind fun t104 => (some (decide (t104 > 0)))) (fun k => ?_) (Ev.bind (dwAll_ev l (by omega) (okW_of ha)) (Ev.now _))
    simp only [spec_dwGood.l0]
    rw [if_neg (by omega)]
  | succ d ih =>
    intro i hi hp
    have hlt : i < l.length := by omega
    cases hg : goodD (rd_T47 l (i : Nat)) with
    | true =>
      have hg' := hg
      simp only [goodD, Bool.and_eq_true] at hg'
      refine Ev.step (f := fun k => spec_dwGood.l0 k l l (l.length : Int) ((i + 1 : Nat) : Int)) (fun k => ?_) (ih (i + 1) (by omega) (fun j hj => ?_))
      · simp only [spec_dwGood.l0, l1In_inB, Option.bind_some]
        rw [if_pos (by omega), if_pos (by omega), if_pos (by omega), if_pos hg'.1, if_pos hg'.2, w64ds hlt (by omega)]
      · by_cases e : j = i
        · subst e
          exact hg
        · exact hp j (by omega)
    | false =>
      rw [all_bad l i hlt hg, Bool.false_and]
      refine Ev.step (f := fun _ => some false) (fun k => ?_) (Ev.now _)
      simp only [spec_dwGood.l0, l1In_inB, Option.bind_some]
      rw [if_pos (by omega), if_pos (by omega), if_pos (by omega)]
      by_cases h1 : inB 0 50 (rd_T47 l (i : Nat)).f0 = true
      · have h2 : inB 1 60 (rd_T47 l (i : Nat)).f1 = false := by simpa [goodD, h1] using hg
        rw [if_pos h1, if_neg (by rw [h2]; decide)]
      · rw [if_neg h1]
theorem dwGood_ev (l : List S47) : Ev (fun k => spec_dwGood.f k l) (areDr l) := by
  unfold areDr
  cases hq : inB 1 8 (l.length : Int) with
  | false =>
    refine Ev.congr (f := fun _ => some false) (fun k => ?_) (Ev.now _)
    simp only [spec_dwGood.f, l1In_inB, Option.bind_some]
    rw [if_neg (by rw [hq]; decide)]
  | true =>
    have hl : l.length ≤ 8 := by simp [inB] at hq; omega
    rw [Bool.true_and]
    refine Ev.congr (f := fun k => spec_dwGood.l0 k l l (l.length : Int) ((0 : Nat) : Int)) (fun k => ?_) (dwGood_loop l hl l.length 0 (by omega) (fun j hj => absurd hj (by omega)))
    simp only [spec_dwGood.f, l1In_inB, Option.bind_some]
    rw [if_pos hq]
    rfl

theorem areDr_len {l : List S47} (h : areDr l = true) : 1 ≤ l.length ∧ l.length ≤ 8 := by
  unfold areDr at h
  simp [inB] at h
  omega
theorem areDr_good {l : List S47} (h : areDr l = true) : l.all goodD = true := by
  unfold areDr at h
  simp only [Bool.and_eq_true] at h
  exact h.2.1
theorem areDr_pos {l : List S47} (h : areDr l = true) : 0 < sumW l := by
  unfold areDr at h
  simp only [Bool.and_eq_true, decide_eq_true_eq] at h
  exact h.2.2
theorem sumW_le {l : List S47} (h : okW l) : 0 ≤ sumW l ∧ sumW l ≤ 50 * (l.length : Int) := by
  induction l with
  | nil => simp [sumW]
  | cons x t ih =>
    have h1 := h x List.mem_cons_self
    have h2 := ih (fun y hy => h y (List.mem_cons_of_mem _ hy))
    simp only [sumW, List.foldr_cons, List.length_cons] at *
    omega

end Go.Proofs.Ytenbnempjgbibaa.X

/- ==== PlFrac ==== -/
namespace Go.Proofs.Ytenbnempjgbibaa.X
open Go.RowKit Go.Proofs.YtenbnempjgbibaaW.PrintWords Go.Proofs.YtenbnempjgbibaaW.PrintLast Go.Proofs.YtenbnempjgbibaaW.PrintMore

theorem gcd_loop (d : Nat) : ∀ (x y : Int), 0 ≤ x → 0 ≤ y → y ≤ (d : Int) → (0 < x ∨ 0 < y) →
    ∃ g : Int, 0 < g ∧ Ev (fun k => impl_gcd.l0 k x y) g ∧ ∀ a b, Ev (fun k => spec_gvLow.l0 k a b x y) (wrap64 (Int.tdiv a g), wrap64 (Int.tdiv b g)) := by
  induction d with
  | zero =>
    intro x y hx hy hd hp
    have e : y = 0 := by omega
    subst e
    refine ⟨x, by omega, Ev.step (f := fun _ => some x) (fun k => ?_) (Ev.now _), fun a b => Ev.step (f := fun _ => some (wrap64 (Int.tdiv a x), wrap64 (Int.tdiv b x))) (fun k => ?_) (Ev.now _)⟩
    · simp only [impl_gcd.l0, if_true]
    · simp only [spec_gvLow.l0]
      rw [if_neg (by omega), if_neg (by omega)]
  | succ d ih =>
    intro x y hx hy hd hp
    by_cases h0 : y = 0
    · subst h0
      refine ⟨x, by omega, Ev.step (f := fun _ => some x) (fun k => ?_) (Ev.now _), fun a b => Ev.step (f := fun _ => some (wrap64 (Int.tdiv a x), wrap64 (Int.tdiv b x))) (fun k => ?_) (Ev.now _)⟩
      · simp only [impl_gcd.l0, if_true]
      · simp only [spec_gvLow.l0]
        rw [if_neg (by omega), if_neg (by omega)]
    · have hm : Int.tmod x y = x % y := Int.tmod_eq_emod_of_nonneg hx
      have h1 : 0 ≤ x % y := Int.emod_nonneg _ h0
      have h2 : x % y < y := Int.emod_lt_of_pos _ (by omega)
      obtain ⟨g, hg, e1, e2⟩ := ih y (x % y) hy h1 (by omega) (.inl (by omega))
      refine ⟨g, hg, Ev.step (fun k => ?_) e1, fun a b => Ev.step (fun k => ?_) (e2 a b)⟩
      · simp only [impl_gcd.l0]
        rw [if_neg h0, hm]
      · simp only [spec_gvLow.l0]
        rw [if_pos (by omega), if_neg h0, hm]
theorem frac_ev (num den : Int) (h0 : 0 ≤ num) (h1 : 0 < den) : ∃ a b : Int, Ev (fun k => spec_gvLow.f k num den) (a, b) ∧ Ev (fun k => impl_fraction.f k num den) (a, b, true) := by
  obtain ⟨g, hg, e1, e2⟩ := gcd_loop den.toNat num den h0 (by omega) (by omega) (.inr h1)
  refine ⟨_, _, e2 num den, ?_⟩
  refine Ev.congr (f := fun k => (impl_gcd.l0 k num den).bind fun t => if t = 0 then none else some (wrap64 (Int.tdiv num t), wrap64 (Int.tdiv den t), true)) (fun k => rfl) (Ev.bind e1 ?_)
  exact Ev.congr (fun k => by rw [if_neg (by omega)]) (Ev.now _)

end Go.Proofs.Ytenbnempjgbibaa.X

/- ==== PlOpt ==== -/
namespace Go.Proofs.Ytenbnempjgbibaa.X
open Go.RowKit Go.Proofs.YtenbnempjgbibaaW.PrintWords Go.Proofs.YtenbnempjgbibaaW.PrintLast Go.Proofs.YtenbnempjgbibaaW.PrintMore

def sW (l : List S47) : List Int → Int
  | [] => 0
  | x :: r => (rd_T47 l x).f0 + sW l r
def sM (l : List S47) : List Int → Int
  | [] => 0
  | x :: r => (rd_T47 l x).f1 + sM l r
def Asc (n : Int) : Int → List Int → Prop
  | _, [] => True
  | lo, x :: r => lo ≤ x ∧ x < n ∧ Asc n (x + 1) r
theorem Asc.mono {n : Int} : ∀ {s : List Int} {lo lo' : Int}, lo' ≤ lo → Asc n lo s → Asc n lo' s
  | [], _, _, _, _ => trivial
  | _ :: _, _, _, h, ha => ⟨Int.le_trans h ha.1, ha.2⟩
theorem Asc.len {n : Int} : ∀ {s : List Int} {lo : Int}, lo ≤ n → Asc n lo s → lo + (s.length : Int) ≤ n
  | [], lo, h, _ => by simpa using h
  | x :: r, lo, h, ha => by
    have := Asc.len (lo := x + 1) (by have := ha.2.1; omega) ha.2.2
    have := ha.1
    rw [List.length_cons]
    omega
def lexB : List Int → List Int → Bool
  | x :: a, y :: b => decide (x < y) || (decide (x = y) && lexB a b)
  | _, _ => false
theorem lexB_irrefl : ∀ a, lexB a a = false
  | [] => rfl
  | x :: a => by simp [lexB, lexB_irrefl a]
theorem lexB_trans : ∀ {a b c : List Int}, lexB a b = true → lexB b c = true → lexB a c = true
  | [], _, _, h, _ => by simp [lexB] at h
  | _ :: _, [], _, h, _ => by simp [lexB] at h
  | _ :: _, _ :: _, [], _, h => by simp [lexB] at h
  | x :: a, y :: b, z :: c, h1, h2 => by
    simp only [lexB, Bool.or_eq_true, Bool.and_eq_true, decide_eq_true_eq] at h1 h2 ⊢
    rcases h1 with h1 | ⟨h1, h3⟩ <;> rcases h2 with h2 | ⟨h2, h4⟩
    · left; omega
    · left; omega
    · left; omega
    · right; exact ⟨by omega, lexB_trans h3 h4⟩
theorem lexB_total : ∀ {a b : List Int}, a.length = b.length → a = b ∨ lexB a b = true ∨ lexB b a = true
  | [], [], _ => .inl rfl
  | [], _ :: _, h => by simp at h
  | _ :: _, [], h => by simp at h
  | x :: a, y :: b, h => by
    simp only [lexB, Bool.or_eq_true, Bool.and_eq_true, decide_eq_true_eq]
    by_cases e1 : x < y
    · exact .inr (.inl (.inl e1))
    · by_cases e2 : y < x
      · exact .inr (.inr (.inl e2))
      · obtain rfl : x = y := by omega
        rcases lexB_total (a := a) (b := b) (by simpa using h) with h1 | h1 | h1
        · left; rw [h1]
        · exact .inr (.inl (.inr ⟨rfl, h1⟩))
        · exact .inr (.inr (.inr ⟨rfl, h1⟩))
def bet (l : List S47) (a b : List Int) : Prop := sW l b < sW l a ∨ (sW l a = sW l b ∧ (a.length < b.length ∨ (a.length = b.length ∧ lexB a b = true)))
theorem bet_irrefl (l : List S47) (a : List Int) : ¬ bet l a a := by
  rintro (h | ⟨_, h | ⟨_, h⟩⟩)
  · omega
  · omega
  · rw [lexB_irrefl] at h
    cases h
theorem bet_trans {l : List S47} {a b c : List Int} (h1 : bet l a b) (h2 : bet l b c) : bet l a c := by
  unfold bet at *
  rcases h1 with h1 | ⟨h1, h3 | ⟨h3, h5⟩⟩ <;> rcases h2 with h2 | ⟨h2, h4 | ⟨h4, h6⟩⟩
  · left; omega
  · left; omega
  · left; omega
  · left; omega
  · right; exact ⟨by omega, .inl (by omega)⟩
  · right; exact ⟨by omega, .inl (by omega)⟩
  · left; omega
  · right; exact ⟨by omega, .inl (by omega)⟩
  · right; exact ⟨by omega, .inr ⟨by omega, lexB_trans h5 h6⟩⟩
theorem bet_total (l : List S47) (a b : List Int) : a = b ∨ bet l a b ∨ bet l b a := by
  unfold bet
  by_cases e1 : sW l b < sW l a
  · exact .inr (.inl (.inl e1))
  · by_cases e2 : sW l a < sW l b
    · exact .inr (.inr (.inl e2))
    · have e3 : sW l a = sW l b := by omega
      by_cases e4 : a.length < b.length
      · exact .inr (.inl (.inr ⟨e3, .inl e4⟩))
      · by_cases e5 : b.length < a.length
        · exact .inr (.inr (.inr ⟨e3.symm, .inl e5⟩))
        · rcases lexB_total (a := a) (b := b) (by omega) with h1 | h1 | h1
          · exact .inl h1
          · exact .inr (.inl (.inr ⟨e3, .inr ⟨by omega, h1⟩⟩))
          · exact .inr (.inr (.inr ⟨e3.symm, .inr ⟨by omega, h1⟩⟩))
theorem bet_cons {l : List S47} {x : Int} {a b : List Int} (h : bet l (x :: a) (x :: b)) : bet l a b := by
  unfold bet at *
  simp only [sW, List.length_cons, lexB, Bool.or_eq_true, Bool.and_eq_true, decide_eq_true_eq] at h
  rcases h with h | ⟨h1, h2 | ⟨h2, h3 | ⟨_, h3⟩⟩⟩
  · left; omega
  · right; exact ⟨by omega, .inl (by omega)⟩
  · omega
  · right; exact ⟨by omega, .inr ⟨by omega, h3⟩⟩
def Opt (l : List S47) (lo left : Int) (b : List Int) : Prop := Asc (l.length : Int) lo b ∧ sM l b ≤ left ∧ ∀ s, Asc (l.length : Int) lo s → sM l s ≤ left → ¬ bet l s b
theorem opt_uniq {l : List S47} {lo left : Int} {a b : List Int} (ha : Opt l lo left a) (hb : Opt l lo left b) : a = b := by
  rcases bet_total l a b with h | h | h
  · exact h
  · exact absurd h (hb.2.2 a ha.1 ha.2.1)
  · exact absurd h (ha.2.2 b hb.1 hb.2.1)
end Go.Proofs.Ytenbnempjgbibaa.X

/- ==== PlLook ==== -/
namespace Go.Proofs.Ytenbnempjgbibaa.X
open Go.RowKit Go.Proofs.YtenbnempjgbibaaW.PrintWords Go.Proofs.YtenbnempjgbibaaW.PrintLast Go.Proofs.YtenbnempjgbibaaW.PrintMore

def Fine (l : List S47) : Prop := l.length ≤ 8 ∧ ∀ j : Nat, j < l.length → 0 ≤ (rd_T47 l (j : Int)).f0 ∧ (rd_T47 l (j : Int)).f0 ≤ 50 ∧ 1 ≤ (rd_T47 l (j : Int)).f1 ∧ (rd_T47 l (j : Int)).f1 ≤ 60
theorem fine_at {l : List S47} (h : Fine l) {x : Int} (h0 : 0 ≤ x) (h1 : x < (l.length : Int)) : 0 ≤ (rd_T47 l x).f0 ∧ (rd_T47 l x).f0 ≤ 50 ∧ 1 ≤ (rd_T47 l x).f1 ∧ (rd_T47 l x).f1 ≤ 60 := by
  obtain ⟨j, rfl⟩ := Int.eq_ofNat_of_zero_le h0
  exact h.2 j (by omega)
theorem sums_of {l : List S47} (h : Fine l) : ∀ {s : List Int} {lo : Int}, 0 ≤ lo → Asc (l.length : Int) lo s → 0 ≤ sW l s ∧ sW l s ≤ 50 * (s.length : Int) ∧ 0 ≤ sM l s ∧ sM l s ≤ 60 * (s.length : Int)
  | [], _, _, _ => by simp [sW, sM]
  | x :: r, lo, h0, ha => by
    have h1 := fine_at h (x := x) (by have := ha.1; omega) ha.2.1
    have h2 := sums_of h (s := r) (lo := x + 1) (by have := ha.1; omega) ha.2.2
    simp only [sW, sM, List.length_cons]
    omega
def Hd (i : Int) : List Int → Prop
  | [] => True
  | x :: _ => x < i
def Nz (l : List S47) : List Int → Prop
  | [] => True
  | x :: _ => ¬ (rd_T47 l x).f0 = 0
theorem strip {l : List S47} (h : Fine l) {lo left : Int} (h0 : 0 ≤ lo) {b : List Int} (hb : ∀ s, Asc (l.length : Int) lo s → sM l s ≤ left → Nz l s → ¬ bet l s b) : ∀ s, Asc (l.length : Int) lo s → sM l s ≤ left → ¬ bet l s b
  | [], ha, hm => hb [] ha hm trivial
  | x :: r, ha, hm => by
    by_cases hz : (rd_T47 l x).f0 = 0
    · have hr : Asc (l.length : Int) lo r := Asc.mono (by have := ha.1; omega) ha.2.2
      have h1 := fine_at h (x := x) (by have := ha.1; omega) ha.2.1
      have hm2 : sM l r ≤ left := by simp only [sM] at hm; omega
      have hn := strip h h0 hb r hr hm2
      intro hx
      refine hn (bet_trans (b := x :: r) ?_ hx)
      right
      simp only [sW, List.length_cons]
      exact ⟨by omega, .inl (by omega)⟩
    · exact hb (x :: r) ha hm hz
theorem hd_lex {i : Int} {t b : List Int} (h : Hd i b) : lexB (i :: t) b = false := by
  cases b with
  | nil => rfl
  | cons y b =>
    have : y < i := h
    simp only [lexB]
    rw [decide_eq_false (by omega), decide_eq_false (by omega)]
    rfl
def nextL (k : Nat) (x0 : List S47) (x2 : Int) (x8 : List Int) (x9 x10 : Int) (w : Int) (bt112 : List Int × Int) : Option (List Int × Int) := if (wrap64 (bt112.2 + w)) > x9 then ((some (([x10] : List Int) : List Int)).bind fun y116 => (if y116.length + bt112.1.length < 17592186044416 then (spec_dwLook.l0 k x0 x2 (y116 ++ bt112.1) (wrap64 (bt112.2 + w)) (wrap64 (x10 + 1))) else (none))) else (if (wrap64 (bt112.2 + w)) = x9 then (if (wrap64 ((bt112.1.length : Int) + 1)) < (x8.length : Int) then ((some (([x10] : List Int) : List Int)).bind fun y122 => (if y122.length + bt112.1.length < 17592186044416 then (spec_dwLook.l0 k x0 x2 (y122 ++ bt112.1) (wrap64 (bt112.2 + w)) (wrap64 (x10 + 1))) else (none))) else (spec_dwLook.l0 k x0 x2 x8 x9 (wrap64 (x10 + 1)))) else (spec_dwLook.l0 k x0 x2 x8 x9 (wrap64 (x10 + 1))))
theorem look_ev (l : List S47) (hf : Fine l) (d : Nat) : ∀ (lo : Nat) (left : Int), lo + d = l.length → 0 ≤ left → left ≤ 1000 → ∃ b, Opt l (lo : Int) left b ∧ Ev (fun k => spec_dwLook.f k l (lo : Int) left) (b, sW l b) := by
  induction d using Nat.strongRecOn with
  | _ d ihf =>
    intro lo left hd h0 h1
    have loop : ∀ (e i : Nat) (b : List Int), i + e = l.length → lo ≤ i → Asc (l.length : Int) (lo : Int) b → Hd (i : Int) b → sM l b ≤ left → (∀ s, Asc (l.length : Int) (lo : Int) s → sM l s ≤ left → Hd (i : Int) s → Nz l s → ¬ bet l s b) →
        ∃ r, Opt l (lo : Int) left r ∧ Ev (fun k => spec_dwLook.l0 k l left b (sW l b) (i : Int)) (r, sW l r) := by
      intro e
      induction e with
      | zero =>
        intro i b hi hlo ha hh hm hb
        refine ⟨b, ⟨ha, hm, strip hf (by omega) (fun s hs hms hz => hb s hs hms ?_ hz)⟩, Ev.step (f := fun _ => some (b, sW l b)) (fun k => ?_) (Ev.now _)⟩
        · cases s with
          | nil => trivial
          | cons x r =>
            show x < (i : Int)
            have := hs.2.1
            omega
        · simp only [spec_dwLook.l0]
          rw [if_neg (by omega)]
      | succ e ihe =>
        intro i b hi hlo ha hh hm hb
        have hlt : i < l.length := by omega
        obtain ⟨w0, w1, m0, m1⟩ := hf.2 i hlt
        have hl8' := hf.1
        have hwi : wrap64 ((i : Int) + 1) = ((i + 1 : Nat) : Int) := by unfold wrap64; omega
        have HWIA := Aside0.mk hwi
        clear hwi
        have hup : Hd ((i + 1 : Nat) : Int) b := by
          cases b with
          | nil => trivial
          | cons y b =>
            have : y < (i : Int) := hh
            show y < ((i + 1 : Nat) : Int)
            omega
        have split : ∀ s, Asc (l.length : Int) (lo : Int) s → Hd ((i + 1 : Nat) : Int) s → Hd (i : Int) s ∨ ∃ t, s = (i : Int) :: t ∧ Asc (l.length : Int) ((i + 1 : Nat) : Int) t := by
          intro s hs hhs
          cases s with
          | nil => exact .inl trivial
          | cons x t =>
            have hx : x < ((i + 1 : Nat) : Int) := hhs
            by_cases hxi : x < (i : Int)
            · exact .inl hxi
            · obtain rfl : x = (i : Int) := by omega
              exact .inr ⟨t, rfl, hs.2.2⟩
        have skip : ((rd_T47 l (i : Int)).f1 > left ∨ (rd_T47 l (i : Int)).f0 = 0) → ∃ r, Opt l (lo : Int) left r ∧ Ev (fun k => spec_dwLook.j1 k l left b (sW l b) (i : Int) true (rd_T47 l (i : Int)).f0 (rd_T47 l (i : Int)).f1) (r, sW l r) := by
          intro hs
          obtain ⟨r, hr, er⟩ := ihe (i + 1) b (by omega) (by omega) ha hup hm (fun s hs1 hs2 hs3 hs4 => by
            rcases split s hs1 hs3 with h | ⟨t, rfl, ht⟩
            · exact hb s hs1 hs2 h hs4
            · have hst := sums_of hf (s := t) (lo := ((i + 1 : Nat) : Int)) (by omega) ht
              rcases hs with hs | hs
              · simp only [sM] at hs2
                omega
              · exact absurd hs hs4)
          refine ⟨r, hr, Ev.step (fun k => ?_) er⟩
          simp only [spec_dwLook.j1]
          rw [if_pos trivial, HWIA.out]
        by_cases hs1 : (rd_T47 l (i : Int)).f1 > left
        · obtain ⟨r, hr, er⟩ := skip (.inl hs1)
          refine ⟨r, hr, Ev.step (fun k => ?_) er⟩
          simp only [spec_dwLook.l0]
          rw [if_pos (by omega), if_pos (by omega), if_pos hs1]
        · by_cases hs2 : (rd_T47 l (i : Int)).f0 = 0
          · obtain ⟨r, hr, er⟩ := skip (.inr hs2)
            refine ⟨r, hr, Ev.step (fun k => ?_) er⟩
            simp only [spec_dwLook.l0]
            rw [if_pos (by omega), if_pos (by omega), if_neg hs1, show ((rd_T47 l (i : Int)).f0 == 0) = true from by rw [beq_iff_eq]; exact hs2]
          · obtain ⟨rest, hro, hre⟩ := ihf (l.length - (i + 1)) (by omega) (i + 1) (left - (rd_T47 l (i : Int)).f1) (by omega) (by omega) (by omega)
            obtain ⟨hra, hrm, hrb⟩ := hro
            have hca : Asc (l.length : Int) (lo : Int) ((i : Int) :: rest) := ⟨by omega, by omega, hra⟩
            have hst := sums_of hf (s := rest) (lo := ((i + 1 : Nat) : Int)) (by omega) hra
            have hsb := sums_of hf (s := b) (lo := (lo : Int)) (by omega) ha
            have hrl := Asc.len (lo := ((i + 1 : Nat) : Int)) (by omega) hra
            have hbl := Asc.len (lo := (lo : Int)) (by omega) ha
            have hl8 := hf.1
            have hcw : sW l ((i : Int) :: rest) = sW l rest + (rd_T47 l (i : Int)).f0 := by simp only [sW]; omega
            have hww : wrap64 (sW l rest + (rd_T47 l (i : Int)).f0) = sW l ((i : Int) :: rest) := by rw [hcw]; unfold wrap64; omega
            have HWWA := Aside0.mk hww
            clear hww
            have hwl : wrap64 ((rest.length : Int) + 1) = (rest.length : Int) + 1 := by unfold wrap64; omega
            have HWLA := Aside0.mk hwl
            clear hwl
            have hwm : wrap64 (left - (rd_T47 l (i : Int)).f1) = left - (rd_T47 l (i : Int)).f1 := by unfold wrap64; omega
            have HWMA := Aside0.mk hwm
            clear hwm
            have go : ∀ c, (c = (i : Int) :: rest ∧ bet l ((i : Int) :: rest) b) ∨ (c = b ∧ ¬ bet l ((i : Int) :: rest) b) → ∃ r, Opt l (lo : Int) left r ∧ Ev (fun k => spec_dwLook.l0 k l left c (sW l c) ((i + 1 : Nat) : Int)) (r, sW l r) := by
              intro c hc
              have hci : ∀ t, Asc (l.length : Int) ((i + 1 : Nat) : Int) t → sM l ((i : Int) :: t) ≤ left → ¬ bet l ((i : Int) :: t) ((i : Int) :: rest) := by
                intro t ht hmt hbt
                exact hrb t ht (by simp only [sM] at hmt; omega) (bet_cons hbt)
              rcases hc with ⟨rfl, hbet⟩ | ⟨rfl, hbet⟩
              · refine ihe (i + 1) _ (by omega) (by omega) hca (show (i : Int) < ((i + 1 : Nat) : Int) by omega) (by simp only [sM]; omega) (fun s h1s h2s h3s h4s hbs => ?_)
                rcases split s h1s h3s with h | ⟨t, rfl, ht⟩
                · exact hb s h1s h2s h h4s (bet_trans hbs hbet)
                · exact hci t ht h2s hbs
              · refine ihe (i + 1) _ (by omega) (by omega) ha hup hm (fun s h1s h2s h3s h4s hbs => ?_)
                rcases split s h1s h3s with h | ⟨t, rfl, ht⟩
                · exact hb s h1s h2s h h4s hbs
                · rcases bet_total l ((i : Int) :: t) ((i : Int) :: rest) with h | h | h
                  · rw [h] at hbs
                    exact hbet hbs
                  · exact hci t ht h2s h
                  · exact hbet (bet_trans h hbs)
            have lift : ∀ c r, Ev (fun k => spec_dwLook.l0 k l left c (sW l c) ((i + 1 : Nat) : Int)) r → ((c = (i : Int) :: rest ∧ bet l ((i : Int) :: rest) b) ∨ (c = b ∧ ¬ bet l ((i : Int) :: rest) b)) → Ev (fun k => spec_dwLook.l0 k l left b (sW l b) (i : Int)) r := by
              intro c r hc hcc
              refine Ev.step (f := fun k => spec_dwLook.j1 k l left b (sW l b) (i : Int) false (rd_T47 l (i : Int)).f0 (rd_T47 l (i : Int)).f1) (fun k => ?_) (Ev.step (f := fun k => (spec_dwLook.f k l ((i + 1 : Nat) : Int) (left - (rd_T47 l (i : Int)).f1)).bind fun bt => nextL k l left b (sW l b) (i : Int) (rd_T47 l (i : Int)).f0 bt) (fun k => ?_) (Ev.bind hre (Ev.congr (fun k => ?_) hc)))
              · simp only [spec_dwLook.l0]
                rw [if_pos (by omega), if_pos (by omega), if_neg hs1, show ((rd_T47 l (i : Int)).f0 == 0) = false from by rw [beq_eq_false_iff_ne]; exact hs2]
              · simp only [spec_dwLook.j1, nextL]
                rw [if_neg (by decide), HWIA.out, HWMA.out]
              · unfold nextL
                simp only [Option.bind_some]
                rw [HWWA.out, HWIA.out, HWLA.out]
                rcases hcc with ⟨rfl, hbet⟩ | ⟨rfl, hbet⟩
                · rcases hbet with h | ⟨h2, h3 | ⟨h3, h4⟩⟩
                  · rw [if_pos h, if_pos (by simp; omega)]
                    rfl
                  · rw [if_neg (by omega), if_pos h2, if_pos (by simp at h3; omega), if_pos (by simp; omega)]
                    rfl
                  · rw [hd_lex hh] at h4
                    cases h4
                · unfold bet at hbet
                  by_cases h5 : sW l c < sW l ((i : Int) :: rest)
                  · exact absurd (.inl h5) hbet
                  · rw [if_neg (by omega)]
                    by_cases h6 : sW l ((i : Int) :: rest) = sW l c
                    · rw [if_pos h6]
                      by_cases h7 : (rest.length : Int) + 1 < (c.length : Int)
                      · exact absurd (.inr ⟨h6, .inl (by simp; omega)⟩) hbet
                      · rw [if_neg h7]
                    · rw [if_neg h6]
            by_cases hbet : bet l ((i : Int) :: rest) b
            · obtain ⟨r, hr, er⟩ := go _ (.inl ⟨rfl, hbet⟩)
              exact ⟨r, hr, lift _ _ er (.inl ⟨rfl, hbet⟩)⟩
            · obtain ⟨r, hr, er⟩ := go _ (.inr ⟨rfl, hbet⟩)
              exact ⟨r, hr, lift _ _ er (.inr ⟨rfl, hbet⟩)⟩
    obtain ⟨r, hr, er⟩ := loop (l.length - lo) lo [] (by omega) (Nat.le_refl _) trivial trivial (by simpa [sM] using h0) (fun s hs hm hh hz hb => by
      cases s with
      | nil => exact bet_irrefl l [] hb
      | cons x t =>
        have : x < (lo : Int) := hh
        have := hs.1
        omega)
    exact ⟨r, hr, Ev.step (f := fun k => spec_dwLook.l0 k l left [] (sW l []) (lo : Int)) (fun k => rfl) er⟩
end Go.Proofs.Ytenbnempjgbibaa.X

/- ==== PlBits ==== -/
namespace Go.Proofs.Ytenbnempjgbibaa.X
open Go.RowKit Go.Proofs.YtenbnempjgbibaaW.PrintWords Go.Proofs.YtenbnempjgbibaaW.PrintLast Go.Proofs.YtenbnempjgbibaaW.PrintMore

def bit (S j : Int) : Bool := decide ((Go.bits .and .i64 (shr .i64 S j) 1) = 1)
def bitsL (S : Int) : Nat → Nat → List Int
  | 0, _ => []
  | d + 1, j => if bit S (j : Int) = true then (j : Int) :: bitsL S d (j + 1) else bitsL S d (j + 1)
theorem bitsL_asc (n S : Int) : ∀ (d j : Nat), (j : Int) + d = n → Asc n (j : Int) (bitsL S d j)
  | 0, _, _ => trivial
  | d + 1, j, h => by
    have ih := bitsL_asc n S d (j + 1) (by omega)
    simp only [bitsL]
    split
    · exact ⟨Int.le_refl _, by omega, ih⟩
    · exact Asc.mono (by omega) ih
def gen : Nat → Nat → List (List Int)
  | 0, _ => [[]]
  | d + 1, j => gen d (j + 1) ++ (gen d (j + 1)).map ((j : Int) :: ·)
theorem gen_of {n : Int} : ∀ (d j : Nat) {s : List Int}, (j : Int) + d = n → Asc n (j : Int) s → s ∈ gen d j
  | 0, j, [], _, _ => by simp [gen]
  | 0, j, x :: r, h, ha => by
    have := ha.1
    have := ha.2.1
    omega
  | d + 1, j, [], h, _ => by
    have := gen_of d (j + 1) (s := []) (n := n) (by omega) trivial
    simp only [gen, List.mem_append]
    exact .inl this
  | d + 1, j, x :: r, h, ha => by
    simp only [gen, List.mem_append, List.mem_map]
    by_cases e : x = (j : Int)
    · subst e
      exact .inr ⟨r, gen_of d (j + 1) (by omega) ha.2.2, rfl⟩
    · exact .inl (gen_of d (j + 1) (by omega) ⟨by have := ha.1; omega, ha.2⟩)
def toS (s : List Int) : Nat := s.foldr (fun x a => 2 ^ x.toNat + a) 0
def genOk (n : Nat) : Bool := (gen n 0).all fun s => decide (toS s < 2 ^ n) && decide (bitsL (toS s : Int) n 0 = s)
set_option maxRecDepth 100000 in
theorem gen_all : (List.range 9).all genOk = true := by decide +kernel
theorem bits_all {n : Nat} (hn : n ≤ 8) {s : List Int} (h : Asc (n : Int) 0 s) : ∃ T : Nat, T < 2 ^ n ∧ bitsL (T : Int) n 0 = s := by
  have h1 := List.all_eq_true.1 gen_all n (by simp; omega)
  have h2 := List.all_eq_true.1 h1 s (gen_of n 0 (by omega) h)
  simp only [Bool.and_eq_true, decide_eq_true_eq] at h2
  exact ⟨toS s, h2⟩
theorem shl_pow : (List.range 9).all (fun n => decide (shl .i64 1 (n : Int) = ((2 ^ n : Nat) : Int))) = true := by decide +kernel
theorem shl_is {n : Nat} (hn : n ≤ 8) : shl .i64 1 (n : Int) = ((2 ^ n : Nat) : Int) := by
  have := List.all_eq_true.1 shl_pow n (by simp; omega)
  simpa using this

theorem cmpI (a b : Int) : cmp_Compare_int.f a b = some (if a < b then -1 else if a > b then 1 else 0) := by
  simp [cmp_Compare_int.f, cmp_isNaN_int.f]
  split
  · rfl
  · split <;> rfl
theorem compare_loop (a b : List Int) (hl : a.length = b.length) (hn : a.length ≤ 1000) (d : Nat) : ∀ (i : Nat), i + d = a.length → ∃ r : Int, Ev (fun k => slices_Compare_int_int.l0 k a b a (a.length : Int) (i : Int)) r ∧ (r < 0 ↔ lexB (a.drop i) (b.drop i) = true) := by
  have dg : ∀ (l : List Int) (i : Nat), i < l.length → l.drop i = rd l (i : Int) :: l.drop (i + 1) := by
    intro l i h
    rw [List.drop_eq_getElem_cons h]
    simp [rd, List.getD_eq_getElem?_getD, h]
  induction d with
  | zero =>
    intro i hi
    refine ⟨0, Ev.step (f := fun _ => some 0) (fun k => ?_) (Ev.now _), ?_⟩
    · simp only [slices_Compare_int_int.l0]
      rw [if_neg (by omega), if_neg (by omega)]
    · rw [List.drop_of_length_le (by omega)]
      simp [lexB]
  | succ d ih =>
    intro i hi
    have hlt : i < a.length := by omega
    rw [dg a i hlt, dg b i (by omega)]
    simp only [lexB]
    have hw : wrap64 ((i : Int) + 1) = ((i + 1 : Nat) : Int) := by unfold wrap64; omega
    have base : ∀ k, slices_Compare_int_int.l0 (k + 1) a b a (a.length : Int) (i : Int) = (if (if rd a (i : Int) < rd b (i : Int) then (-1 : Int) else if rd a (i : Int) > rd b (i : Int) then 1 else 0) = 0 then slices_Compare_int_int.l0 k a b a (a.length : Int) ((i + 1 : Nat) : Int) else some (if rd a (i : Int) < rd b (i : Int) then (-1 : Int) else if rd a (i : Int) > rd b (i : Int) then 1 else 0)) := by
      intro k
      simp only [slices_Compare_int_int.l0, cmpI, Option.bind_some, hw]
      rw [if_pos (by omega), if_pos (by omega), if_pos (by omega), if_neg (by omega), if_pos (by omega)]
    clear hw
    by_cases e1 : rd a (i : Int) < rd b (i : Int)
    · refine ⟨-1, Ev.step (f := fun _ => some (-1)) (fun k => ?_) (Ev.now _), ?_⟩
      · rw [base, if_pos e1, if_neg (by omega)]
      · rw [decide_eq_true e1]
        simp
    · by_cases e2 : rd a (i : Int) > rd b (i : Int)
      · refine ⟨1, Ev.step (f := fun _ => some 1) (fun k => ?_) (Ev.now _), ?_⟩
        · rw [base, if_neg e1, if_pos e2, if_neg (by omega)]
        · rw [decide_eq_false e1, decide_eq_false (by omega)]
          simp
      · obtain ⟨r, h1, h2⟩ := ih (i + 1) (by omega)
        refine ⟨r, Ev.step (fun k => ?_) h1, ?_⟩
        · rw [base, if_neg e1, if_neg e2, if_pos rfl]
        · rw [decide_eq_false e1, decide_eq_true (by omega)]
          simpa using h2
theorem compare_ev (a b : List Int) (hl : a.length = b.length) (hn : a.length ≤ 1000) : ∃ r : Int, Ev (fun k => slices_Compare_int_int.f k a b) r ∧ (r < 0 ↔ lexB a b = true) := by
  obtain ⟨r, h1, h2⟩ := compare_loop a b hl hn a.length 0 (by omega)
  exact ⟨r, h1, by simpa using h2⟩
end Go.Proofs.Ytenbnempjgbibaa.X

/- ==== PlBest ==== -/
namespace Go.Proofs.Ytenbnempjgbibaa.X
open Go.RowKit Go.Proofs.YtenbnempjgbibaaW.PrintWords Go.Proofs.YtenbnempjgbibaaW.PrintLast Go.Proofs.YtenbnempjgbibaaW.PrintMore

def skipB (t m ws bw : Int) : Bool := if t > m then true else decide (ws < bw)
theorem inner {l : List S47} (hf : Fine l) (S m lim : Int) (bl : List Int) (bw : Int) (r : List Int × Int) (d : Nat) : ∀ (i : Nat) (acc : List Int) (t wt : Int), i + d = l.length → 0 ≤ t → t ≤ 60 * (i : Int) → 0 ≤ wt → wt ≤ 50 * (i : Int) → acc.length ≤ i →
    Ev (fun k => impl_bestWithin.j2 k l m lim S (skipB (t + sM l (bitsL S d i)) m (wt + sW l (bitsL S d i)) bw) bl bw (acc ++ bitsL S d i) (wt + sW l (bitsL S d i))) r →
    Ev (fun k => impl_bestWithin.l1 k l m S t lim S l (l.length : Int) (i : Int) bl bw acc wt) r := by
  have h8 := hf.1
  induction d with
  | zero =>
    intro i acc t wt hi _ _ _ _ _ h
    simp only [bitsL, sM, sW, List.append_nil, Int.add_zero] at h
    refine Ev.step (fun k => ?_) h
    simp only [impl_bestWithin.l1, skipB]
    rw [if_neg (by omega)]
    split <;> rfl
  | succ d ih =>
    intro i acc t wt hi h1 h2 h3 h4 h5 h
    have hlt : i < l.length := by omega
    obtain ⟨w0, w1, m0, m1⟩ := hf.2 i hlt
    have hwi : wrap64 ((i : Int) + 1) = ((i + 1 : Nat) : Int) := by unfold wrap64; omega
    have HWI := Aside0.mk hwi
    clear hwi
    by_cases hb : bit S (i : Int) = true
    · have hwt : wrap64 (t + (rd_T47 l (i : Int)).f1) = t + (rd_T47 l (i : Int)).f1 := by unfold wrap64; omega
      have HWT := Aside0.mk hwt
      clear hwt
      have hww : wrap64 (wt + (rd_T47 l (i : Int)).f0) = wt + (rd_T47 l (i : Int)).f0 := by unfold wrap64; omega
      have HWW := Aside0.mk hww
      clear hww
      have e : bitsL S (d + 1) i = (i : Int) :: bitsL S d (i + 1) := by simp only [bitsL]; rw [if_pos hb]
      rw [e] at h
      simp only [sM, sW] at h
      have h' := ih (i + 1) (acc ++ [(i : Int)]) (t + (rd_T47 l (i : Int)).f1) (wt + (rd_T47 l (i : Int)).f0) (by omega) (by omega) (by omega) (by omega) (by omega) (by simp; omega) (by
        rw [Int.add_assoc, Int.add_assoc, List.append_assoc]
        exact h)
      refine Ev.step (fun k => ?_) h'
      simp only [impl_bestWithin.l1]
      rw [if_pos (by omega), if_pos (by omega), if_pos (by omega), if_pos (by simpa [bit] using hb), if_pos (by omega), HWI.out, HWT.out, HWW.out]
    · have e : bitsL S (d + 1) i = bitsL S d (i + 1) := by simp only [bitsL]; rw [if_neg hb]
      rw [e] at h
      have h' := ih (i + 1) acc t wt (by omega) h1 (by omega) h3 (by omega) (by omega) h
      refine Ev.step (fun k => ?_) h'
      simp only [impl_bestWithin.l1]
      rw [if_pos (by omega), if_pos (by omega), if_pos (by omega), if_neg (by simpa [bit] using hb), HWI.out]
theorem j2_ev {l : List S47} (hf : Fine l) (m lim S : Int) {b s : List Int} (hb : Asc (l.length : Int) 0 b) (hs : Asc (l.length : Int) 0 s) (r : List Int × Int)
    (h1 : (sM l s ≤ m ∧ bet l s b) → Ev (fun k => impl_bestWithin.l0 k l m lim (wrap64 (S + 1)) s (sW l s)) r)
    (h2 : ¬ (sM l s ≤ m ∧ bet l s b) → Ev (fun k => impl_bestWithin.l0 k l m lim (wrap64 (S + 1)) b (sW l b)) r) :
    Ev (fun k => impl_bestWithin.j2 k l m lim S (skipB (sM l s) m (sW l s) (sW l b)) b (sW l b) s (sW l s)) r := by
  have h8 := hf.1
  have lb := Asc.len (lo := 0) (by omega) hb
  have ls := Asc.len (lo := 0) (by omega) hs
  unfold skipB
  by_cases c1 : sM l s > m
  · rw [if_pos c1]
    refine Ev.step (fun k => ?_) (h2 (fun h => by omega))
    simp only [impl_bestWithin.j2]
    rw [if_pos trivial]
  · rw [if_neg c1]
    by_cases c2 : sW l s < sW l b
    · refine Ev.step (fun k => ?_) (h2 ?_)
      · simp only [impl_bestWithin.j2]
        rw [if_pos (by simpa using c2)]
      · rintro ⟨_, h | ⟨h, _⟩⟩ <;> omega
    · by_cases c3 : sW l s > sW l b
      · refine Ev.step (fun k => ?_) (h1 ⟨by omega, .inl c3⟩)
        simp only [impl_bestWithin.j2]
        rw [if_neg (by simpa using c2), if_pos c3]
      · have e3 : sW l s = sW l b := by omega
        by_cases c4 : s.length < b.length
        · refine Ev.step (fun k => ?_) (h1 ⟨by omega, .inr ⟨e3, .inl c4⟩⟩)
          simp only [impl_bestWithin.j2]
          rw [if_neg (by simpa using c2), if_neg c3, if_pos (by omega)]
        · by_cases c5 : s.length = b.length
          · obtain ⟨q, hq, hl⟩ := compare_ev s b c5 (by omega)
            refine Ev.step (f := fun k => (slices_Compare_int_int.f k s b).bind fun t => (if t < 0 then (impl_bestWithin.l0 k l m lim (wrap64 (S + 1)) s (sW l s)) else (impl_bestWithin.l0 k l m lim (wrap64 (S + 1)) b (sW l b)))) (fun k => ?_) (Ev.bind hq ?_)
            · simp only [impl_bestWithin.j2]
              rw [if_neg (by simpa using c2), if_neg c3, if_neg (by omega), if_pos (by omega)]
            · by_cases c6 : q < 0
              · refine Ev.congr (fun k => ?_) (h1 ⟨by omega, .inr ⟨e3, .inr ⟨c5, hl.1 c6⟩⟩⟩)
                rw [if_pos c6]
              · refine Ev.congr (fun k => ?_) (h2 ?_)
                · rw [if_neg c6]
                · rintro ⟨_, h | ⟨_, h | ⟨_, h⟩⟩⟩
                  · omega
                  · omega
                  · exact c6 (hl.2 h)
          · refine Ev.step (fun k => ?_) (h2 ?_)
            · simp only [impl_bestWithin.j2]
              rw [if_neg (by simpa using c2), if_neg c3, if_neg (by omega), if_neg (by omega)]
            · rintro ⟨_, h | ⟨_, h | ⟨h, _⟩⟩⟩ <;> omega
theorem outer {l : List S47} (hf : Fine l) (m : Int) (d : Nat) : ∀ (S : Nat) (b : List Int), S + d = 2 ^ l.length → Asc (l.length : Int) 0 b → sM l b ≤ m → (∀ T : Nat, T < S → sM l (bitsL (T : Int) l.length 0) ≤ m → ¬ bet l (bitsL (T : Int) l.length 0) b) →
    ∃ r, Opt l 0 m r ∧ Ev (fun k => impl_bestWithin.l0 k l m ((2 ^ l.length : Nat) : Int) (S : Int) b (sW l b)) (r, sW l r) := by
  have hp : 2 ^ l.length ≤ 256 := Nat.le_trans (Nat.pow_le_pow_right (by omega) hf.1) (by decide)
  obtain ⟨P, hP⟩ : ∃ P, P = 2 ^ l.length := ⟨_, rfl⟩
  rw [← hP] at hp ⊢
  induction d with
  | zero =>
    intro S b hS hb hm hall
    refine ⟨b, ⟨hb, hm, fun s hs hsm => ?_⟩, Ev.step (f := fun _ => some (b, sW l b)) (fun k => ?_) (Ev.now _)⟩
    · obtain ⟨T, hT, hTe⟩ := bits_all hf.1 hs
      rw [← hP] at hT
      have := hall T (by omega)
      rw [hTe] at this
      exact this hsm
    · simp only [impl_bestWithin.l0]
      rw [if_neg (by omega)]
  | succ d ih =>
    intro S b hS hb hm hall
    have hs := bitsL_asc (l.length : Int) (S : Int) l.length 0 (by omega)
    have hw : wrap64 ((S : Int) + 1) = ((S + 1 : Nat) : Int) := by unfold wrap64; omega
    have HW := Aside0.mk hw
    clear hw
    have lift : ∀ r, Ev (fun k => impl_bestWithin.j2 k l m (P : Int) (S : Int) (skipB (sM l (bitsL (S : Int) l.length 0)) m (sW l (bitsL (S : Int) l.length 0)) (sW l b)) b (sW l b) (bitsL (S : Int) l.length 0) (sW l (bitsL (S : Int) l.length 0))) r → Ev (fun k => impl_bestWithin.l0 k l m (P : Int) (S : Int) b (sW l b)) r := by
      intro r h
      refine Ev.step (fun k => ?_) (inner hf (S : Int) m (P : Int) b (sW l b) r l.length 0 [] 0 0 (by omega) (by omega) (by omega) (by omega) (by omega) (by simp) (by
        simp only [Int.zero_add, List.nil_append]
        exact h))
      simp only [impl_bestWithin.l0]
      rw [if_pos (by omega)]
      rfl
    by_cases c : sM l (bitsL (S : Int) l.length 0) ≤ m ∧ bet l (bitsL (S : Int) l.length 0) b
    · obtain ⟨r, hr, er⟩ := ih (S + 1) _ (by omega) hs c.1 (fun T hT hTm hTb => by
        by_cases e : T = S
        · subst e
          exact bet_irrefl _ _ hTb
        · exact hall T (by omega) hTm (bet_trans hTb c.2))
      exact ⟨r, hr, lift _ (j2_ev hf m (P : Int) (S : Int) hb hs _ (fun _ => by rw [HW.out]; exact er) (fun h => absurd c h))⟩
    · obtain ⟨r, hr, er⟩ := ih (S + 1) b (by omega) hb hm (fun T hT hTm hTb => by
        by_cases e : T = S
        · subst e
          exact c ⟨hTm, hTb⟩
        · exact hall T (by omega) hTm hTb)
      exact ⟨r, hr, lift _ (j2_ev hf m (P : Int) (S : Int) hb hs _ (fun h => absurd h c) (fun _ => by rw [HW.out]; exact er))⟩
/-- Both find the same. -/
theorem best_both {l : List S47} (hf : Fine l) (m : Int) (h0 : 0 ≤ m) (h1 : m ≤ 1000) : ∃ b : List Int, b.length ≤ 8 ∧ 0 ≤ sW l b ∧ Ev (fun k => spec_dwLook.f k l 0 m) (b, sW l b) ∧ Ev (fun k => impl_bestWithin.f k l m) (b, sW l b) := by
  obtain ⟨b, hb, eb⟩ := look_ev l hf l.length 0 m (by omega) h0 h1
  obtain ⟨c, hc, ec⟩ := outer hf m (2 ^ l.length) 0 [] (by omega) trivial (by simpa [sM] using h0) (fun T hT => by omega)
  obtain rfl := opt_uniq hb hc
  have := Asc.len (lo := 0) (by omega) hb.1
  have := hf.1
  refine ⟨b, by omega, (sums_of hf (Int.le_refl 0) hb.1).1, eb, Ev.congr (fun k => ?_) ec⟩
  unfold impl_bestWithin.f
  rw [shl_is hf.1]
  rfl
end Go.Proofs.Ytenbnempjgbibaa.X

/- ==== PlWithin ==== -/
namespace Go.Proofs.Ytenbnempjgbibaa.X
open Go.RowKit Go.Proofs.YtenbnempjgbibaaW.PrintWords Go.Proofs.YtenbnempjgbibaaW.PrintLast Go.Proofs.YtenbnempjgbibaaW.PrintMore

theorem fine_of {D : List S47} (h : areDr D = true) : Fine D :=
  ⟨(areDr_len h).2, fun j hj => by
    have := List.all_eq_true.1 (areDr_good h) _ (rd_mem (l := D) (i := j) hj)
    simp [goodD, inB] at this
    omega⟩
theorem BestWithin_both (D : List S47) (a : Int) : ∃ r : List Int × Bool, r.1.length ≤ 1048576 ∧ Ev (fun k => spec_BestWithin.f k D a) r ∧ Ev (fun k => impl_BestWithin.f k D a) r := by
  have h := dwGood_ev D
  cases hd : areDr D with
  | false =>
    rw [hd] at h
    refine ⟨([], false), by simp, Ev.bind h (Ev.congr (fun k => by rw [if_neg (by decide)]) (Ev.now _)), Ev.congr (f := fun _ => some ([], false)) (fun k => ?_) (Ev.now _)⟩
    simp [impl_BestWithin.f, impl_isTimed.f, impl_AreDrawers.f, hd]
  | true =>
    rw [hd] at h
    cases hq : inB 0 1000 a with
    | false =>
      refine ⟨([], false), by simp, Ev.bind h (Ev.congr (f := fun _ => some ([], false)) (fun k => by simp [spec_dwMinutes.f, l1In_inB, hq]) (Ev.now _)), Ev.congr (f := fun _ => some ([], false)) (fun k => ?_) (Ev.now _)⟩
      simp [impl_BestWithin.f, impl_isTimed.f, impl_AreDrawers.f, hd, within_inB, hq]
    | true =>
      have hx := hq
      simp [inB] at hx
      obtain ⟨b, hb, h0, e1, e2⟩ := best_both (fine_of hd) a hx.1 hx.2
      refine ⟨(b, true), by simp; omega, Ev.bind h (Ev.congr (f := fun k => (spec_dwLook.f k D 0 a).bind fun t => some (t.1, true)) (fun k => by simp [spec_dwMinutes.f, l1In_inB, hq]) (Ev.bind e1 (Ev.now _))), Ev.congr (f := fun k => (impl_bestWithin.f k D a).bind fun t => some (t.1, true)) (fun k => ?_) (Ev.bind e2 (Ev.now _))⟩
      simp [impl_BestWithin.f, impl_isTimed.f, impl_AreDrawers.f, hd, within_inB, hq]
theorem GreatestWithin_both (D : List S47) (a : Int) : ∃ r, Ev (fun k => spec_GreatestWithin.f k D a) r ∧ Ev (fun k => impl_GreatestWithin.f k D a) r := by
  have h := dwGood_ev D
  cases hd : areDr D with
  | false =>
    rw [hd] at h
    refine ⟨(0, 0, false), Ev.bind h (Ev.congr (fun k => by rw [if_neg (by decide)]) (Ev.step (f := fun _ => some (0, 0, false)) (fun k => by simp [spec_GreatestWithin.j0]) (Ev.now _))), Ev.congr (f := fun _ => some (0, 0, false)) (fun k => ?_) (Ev.now _)⟩
    simp [impl_GreatestWithin.f, impl_isTimed.f, impl_AreDrawers.f, hd]
  | true =>
    rw [hd] at h
    cases hq : inB 0 1000 a with
    | false =>
      refine ⟨(0, 0, false), Ev.bind h (Ev.congr (f := fun k => spec_GreatestWithin.j0 k D a true) (fun k => by simp [spec_dwMinutes.f, l1In_inB, hq]) (Ev.step (f := fun _ => some (0, 0, false)) (fun k => by simp [spec_GreatestWithin.j0]) (Ev.now _))), Ev.congr (f := fun _ => some (0, 0, false)) (fun k => ?_) (Ev.now _)⟩
      simp [impl_GreatestWithin.f, impl_isTimed.f, impl_AreDrawers.f, hd, within_inB, hq]
    | true =>
      have hx := hq
      simp [inB] at hx
      have hl := (areDr_len hd).2
      obtain ⟨b, hb, h0, e1, e2⟩ := best_both (fine_of hd) a hx.1 hx.2
      have ha := dwAll_ev D (by omega) (okW_of (areDr_good hd))
      have hw := weights_ev D (by omega) (okW_of (areDr_good hd))
      obtain ⟨p, q, f1, f2⟩ := frac_ev (sW D b) (sumW D) h0 (areDr_pos hd)
      refine ⟨(p, q, true), Ev.bind h (Ev.congr (f := fun k => spec_GreatestWithin.j0 k D a false) (fun k => by simp [spec_dwMinutes.f, l1In_inB, hq]) (Ev.step (f := fun k => (spec_dwLook.f k D 0 a).bind fun t => (spec_dwAll.f k D).bind fun u => (spec_gvLow.f k t.2 u).bind fun v => some (v.1, v.2, true)) (fun k => ?_) (Ev.bind e1 (Ev.bind ha (Ev.bind f1 (Ev.now _)))))), Ev.congr (f := fun k => (impl_bestWithin.f k D a).bind fun t => (impl_weights.f k D).bind fun u => (impl_fraction.f k t.2 u).bind fun v => some (v.1, v.2.1, v.2.2)) (fun k => ?_) (Ev.bind e2 (Ev.bind hw (Ev.bind f2 (Ev.now _))))⟩
      · simp only [spec_GreatestWithin.j0]
        rw [if_neg (by decide)]
      · simp [impl_GreatestWithin.f, impl_isTimed.f, impl_AreDrawers.f, hd, within_inB, hq]
end Go.Proofs.Ytenbnempjgbibaa.X
