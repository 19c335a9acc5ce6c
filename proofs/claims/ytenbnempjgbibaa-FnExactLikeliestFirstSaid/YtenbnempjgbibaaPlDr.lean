/- Plain laws, no program in sight: the law's copy of drawers, and its comparison of two. -/
import Derived.Test.YtenbnempjgbibaaXlawstoDrawerS
import Derived.Test.YtenbnempjgbibaaXlawseqDrawerS
import Derived.Test.YtenbnempjgbibaaXlawsszDrawerS
namespace Go.Proofs.Ytenbnempjgbibaa.X
open Go.RowKit Go.Proofs.YtenbnempjgbibaaW.PrintWords Go.Proofs.YtenbnempjgbibaaW.PrintLast Go.Proofs.YtenbnempjgbibaaW.PrintMore

theorem w64d {x : Int} (h0 : -9223372036854775808 ≤ x) (h1 : x ≤ 9223372036854775807) : wrap64 x = x := by unfold wrap64; omega
theorem w64ds {i n : Nat} (h : i < n) (hn : n ≤ 1073741824) : wrap64 ((i : Int) + 1) = ((i + 1 : Nat) : Int) := by unfold wrap64; omega
theorem rdD_get {l : List S47} {i : Nat} (h : i < l.length) : rd_T47 l (i : Int) = l[i] := by simp [rd_T47, List.getD_eq_getElem?_getD, h]
theorem rdL_get {l : List S49} {i : Nat} (h : i < l.length) : rd_T49 l (i : Int) = l[i] := by simp [rd_T49, List.getD_eq_getElem?_getD, h]
/-- The program's drawer of the law's. -/
def cv (x : S49) : S47 := ⟨x.f0, x.f1⟩

theorem toDr_loop (l : List S49) (hn : l.length ≤ 1048576) (d : Nat) : ∀ (i : Nat) (acc : List S47), i + d = l.length → acc.length = l.length → (∀ j, j < i → acc[j]? = (l.map cv)[j]?) →
    Ev (fun k => laws_toDrawerS.l0 k l acc (i : Int)) (l.map cv) := by
  induction d with
  | zero =>
    intro i acc hi ha hp
    have e : acc = l.map cv := by
      apply List.ext_getElem?
      intro j
      by_cases hj : j < i
      · exact hp j hj
      · rw [List.getElem?_eq_none (by omega), List.getElem?_eq_none (by simp; omega)]
    subst e
    refine Ev.step (f := fun _ => some (l.map cv)) (fun k => ?_) (Ev.now _)
    simp only [laws_toDrawerS.l0]
    rw [if_neg (by omega)]
  | succ d ih =>
    intro i acc hi ha hp
    refine Ev.step (f := fun k => laws_toDrawerS.l0 k l (acc.set i (cv (rd_T49 l (i : Int)))) ((i + 1 : Nat) : Int)) (fun k => ?_) (ih (i + 1) _ (by omega) (by simpa using ha) (fun j hj => ?_))
    · simp only [laws_toDrawerS.l0, laws_toDrawer.f, Option.bind_some]
      rw [if_pos (by omega), if_pos (by omega), if_pos (by omega), w64ds (show i < l.length by omega) (by omega), Int.toNat_natCast]
      rfl
    · by_cases e : j = i
      · subst e
        rw [List.getElem?_set_self (by omega), rdL_get (by omega), List.getElem?_map, List.getElem?_eq_getElem (by omega)]
        rfl
      · rw [List.getElem?_set_ne (by omega)]
        exact hp j (by omega)
theorem toDr_ev (l : List S49) (hn : l.length ≤ 1048576) : Ev (fun k => laws_toDrawerS.f k l) (l.map cv) := by
  refine Ev.congr (f := fun k => laws_toDrawerS.l0 k l (List.replicate l.length z47) ((0 : Nat) : Int)) (fun k => ?_) (toDr_loop l hn l.length 0 _ (by omega) (by simp) (fun j hj => absurd hj (by omega)))
  unfold laws_toDrawerS.f
  rw [if_pos (by omega), if_pos (by simp; omega)]
  simp

theorem eqDr_loop (l : List S47) (hn : l.length ≤ 1073741824) (d : Nat) : ∀ (i : Nat), i + d = l.length → Ev (fun k => laws_eqDrawerS.l0 k l l (i : Int)) true := by
  induction d with
  | zero =>
    intro i hi
    refine Ev.step (f := fun _ => some true) (fun k => ?_) (Ev.now _)
    simp only [laws_eqDrawerS.l0]
    rw [if_neg (by omega)]
  | succ d ih =>
    intro i hi
    refine Ev.step (f := fun k => laws_eqDrawerS.l0 k l l ((i + 1 : Nat) : Int)) (fun k => ?_) (ih (i + 1) (by omega))
    simp only [laws_eqDrawerS.l0, laws_eqDrawer.f, if_true, Option.bind_some]
    rw [if_pos (by omega), if_pos (by omega), if_pos (by omega), w64ds (show i < l.length by omega) (by omega)]
theorem eqDr_ev (l : List S47) (hn : l.length ≤ 1073741824) : Ev (fun k => laws_eqDrawerS.f k l l) true := by
  refine Ev.congr (f := fun k => laws_eqDrawerS.l0 k l l ((0 : Nat) : Int)) (fun k => ?_) (eqDr_loop l hn l.length 0 (by omega))
  unfold laws_eqDrawerS.f
  rw [if_pos rfl]
  rfl

theorem sz_big {l : List S49} (h : 1048576 < l.length) (hn : l.length * 16 ≤ 140737488351232) : laws_szDrawerS.f l 1048576 = some (-1) := by
  unfold laws_szDrawerS.f
  rw [w64d (by omega) (by omega), if_pos (by omega)]
theorem sz_small {l : List S49} (h : l.length ≤ 1048576) : laws_szDrawerS.f l 1048576 = some (1048576 - (l.length : Int)) := by
  unfold laws_szDrawerS.f
  rw [w64d (by omega) (by omega), if_neg (by omega)]

end Go.Proofs.Ytenbnempjgbibaa.X
