/- Texts of this seat in one: PlMarkI, PlMark. -/
import Derived.Test.YtenbnempjgbibaaPlTo
import Derived.Test.YtenbnempjgbibaaXlawsmarkIntS
import Derived.Test.YtenbnempjgbibaaXlawsheldIntS
import Derived.Test.YtenbnempjgbibaaPlDr
import Derived.Test.YtenbnempjgbibaaXlawsmarkDrawerS
/- ==== PlMarkI ==== -/
namespace Go.Proofs.Ytenbnempjgbibaa.X
open Go.RowKit Go.Proofs.YtenbnempjgbibaaW.PrintWords Go.Proofs.YtenbnempjgbibaaW.PrintLast Go.Proofs.YtenbnempjgbibaaW.PrintMore

theorem w64n {i n : Nat} (h : i ≤ n) (hn : n ≤ 1073741824) : wrap64 ((i : Int) + 1) = ((i + 1 : Nat) : Int) := by unfold wrap64; omega
def markedI (l : List Int) (m : Nat) : Prop := ∀ j, j < l.length → rd l (j : Int) = ((j + m : Nat) : Int)
theorem rdI_set_self {F : List Int} {i : Nat} {x : Int} (h : i < F.length) : rd (F.set i x) (i : Int) = x := by simp [rd, List.getD_eq_getElem?_getD, h]
theorem rdI_set_ne {F : List Int} {i k : Nat} {x : Int} (h : k ≠ i) : rd (F.set i x) (k : Int) = rd F (k : Int) := by
  simp [rd, List.getD_eq_getElem?_getD, List.getElem?_set_ne (Ne.symm h)]
theorem markI_loop (n m : Nat) (hn : n ≤ 1048576) (hm : m ≤ 4194304) (d : Nat) : ∀ (i : Nat) (l : List Int), l.length = n → i + d = n → (∀ j, j < i → rd l (j : Int) = ((j + m : Nat) : Int)) →
    ∃ l', l'.length = n ∧ markedI l' m ∧ Ev (fun k => laws_markIntS.l0 k l ((i + m : Nat) : Int) (i : Int)) (((n + m : Nat) : Int), l') := by
  induction d with
  | zero =>
    intro i l hl hi hp
    obtain rfl : i = n := by omega
    refine ⟨l, hl, fun j hj => hp j (by omega), Ev.step (f := fun _ => some _) (fun k => ?_) (Ev.now _)⟩
    simp only [laws_markIntS.l0]
    rw [if_neg (by omega)]
  | succ d ih =>
    intro i l hl hi hp
    have hlt : i < l.length := by omega
    obtain ⟨l', h1, h2, h3⟩ := ih (i + 1) (l.set i ((i + m : Nat) : Int)) (by simpa using hl) (by omega) (fun j hj => by
      by_cases e : j = i
      · subst e
        rw [rdI_set_self hlt]
      · rw [rdI_set_ne e]
        exact hp j (by omega))
    refine ⟨l', h1, h2, Ev.step (fun k => ?_) h3⟩
    simp only [laws_markIntS.l0]
    rw [if_pos (by omega), if_pos (by omega), Int.toNat_natCast, w64n (i := i + m) (n := 8388608) (by omega) (by omega), w64n (i := i) (n := 4194304) (by omega) (by omega), show i + m + 1 = i + 1 + m from by omega]
theorem markI_ev (l : List Int) (hn : l.length ≤ 1048576) (m : Nat) (hm : m ≤ 4194304) : ∃ l', l'.length = l.length ∧ markedI l' m ∧ Ev (fun k => laws_markIntS.f k l (m : Int)) (((l.length + m : Nat) : Int), l') := by
  obtain ⟨l', h1, h2, h3⟩ := markI_loop l.length m hn hm l.length 0 l rfl (by omega) (fun j hj => absurd hj (by omega))
  refine ⟨l', h1, h2, ?_⟩
  simpa [laws_markIntS.f] using h3
theorem heldI_loop (l : List Int) (m : Nat) (hn : l.length ≤ 1048576) (hm : m ≤ 4194304) (hk : markedI l m) (d : Nat) : ∀ (i : Nat), i + d = l.length →
    Ev (fun k => laws_heldIntS.l0 k l ((i + m : Nat) : Int) (i : Int)) ((l.length + m : Nat) : Int) := by
  induction d with
  | zero =>
    intro i hi
    obtain rfl : i = l.length := by omega
    refine Ev.step (f := fun _ => some _) (fun k => ?_) (Ev.now _)
    simp only [laws_heldIntS.l0]
    rw [if_neg (by omega)]
  | succ d ih =>
    intro i hi
    have hlt : i < l.length := by omega
    refine Ev.step (fun k => ?_) (ih (i + 1) (by omega))
    simp only [laws_heldIntS.l0]
    rw [if_pos (by omega), if_pos (by omega), if_pos (hk i hlt), w64n (i := i + m) (n := 8388608) (by omega) (by omega), w64n (i := i) (n := 4194304) (by omega) (by omega), show i + m + 1 = i + 1 + m from by omega]
theorem markI_ex (l : List Int) (hn : l.length ≤ 1048576) (m : Int) (h0 : 0 ≤ m) (h1 : m ≤ 4194304) : ∃ (q : Int) (l' : List Int), 0 ≤ q ∧ q ≤ m + 1048576 ∧ Ev (fun k => laws_markIntS.f k l m) (q, l') := by
  obtain ⟨m, rfl⟩ := Int.eq_ofNat_of_zero_le h0
  obtain ⟨l', h1, h2, h3⟩ := markI_ev l hn m (by omega)
  exact ⟨((l.length + m : Nat) : Int), l', by omega, by omega, h3⟩
theorem markH_ex (l : List Int) (hn : l.length ≤ 1048576) : ∃ (q : Int) (l' : List Int), 0 ≤ q ∧ q ≤ 4194304 ∧ Ev (fun k => laws_markIntS.f k l 1) (q, l') ∧ Ev (fun k => laws_heldIntS.f k l' 1) q := by
  obtain ⟨l', h1, h2, h3⟩ := markI_ev l hn 1 (by omega)
  refine ⟨((l.length + 1 : Nat) : Int), l', by omega, by omega, h3, ?_⟩
  have := heldI_loop l' 1 (by omega) (by omega) h2 l'.length 0 (by omega)
  rw [h1] at this
  simpa [laws_heldIntS.f] using this

end Go.Proofs.Ytenbnempjgbibaa.X

/- ==== PlMark ==== -/
namespace Go.Proofs.Ytenbnempjgbibaa.X
open Go.RowKit Go.Proofs.YtenbnempjgbibaaW.PrintWords Go.Proofs.YtenbnempjgbibaaW.PrintLast Go.Proofs.YtenbnempjgbibaaW.PrintMore

/-- The marks from the place i on are 2 i + m, 2 i + m + 1. -/
def marked (l : List S47) (m : Nat) : Prop := ∀ j, j < l.length → rd_T47 l (j : Int) = ⟨((2 * j + m : Nat) : Int), ((2 * j + m + 1 : Nat) : Int)⟩
theorem rdD_set_self {l : List S47} {i : Nat} {x : S47} (h : i < l.length) : rd_T47 (l.set i x) (i : Int) = x := by simp [rd_T47, List.getD_eq_getElem?_getD, h]
theorem rdD_set_ne {l : List S47} {i k : Nat} {x : S47} (h : k ≠ i) : rd_T47 (l.set i x) (k : Int) = rd_T47 l (k : Int) := by
  simp [rd_T47, List.getD_eq_getElem?_getD, List.getElem?_set_ne (Ne.symm h)]
theorem markDr_loop (n m : Nat) (hn : n ≤ 1048576) (hm : m ≤ 1048576) (d : Nat) : ∀ (i : Nat) (l : List S47), l.length = n → i + d = n → (∀ j, j < i → rd_T47 l (j : Int) = ⟨((2 * j + m : Nat) : Int), ((2 * j + m + 1 : Nat) : Int)⟩) →
    ∃ l', l'.length = n ∧ marked l' m ∧ Ev (fun k => laws_markDrawerS.l0 k l ((2 * i + m : Nat) : Int) (i : Int)) (((2 * n + m : Nat) : Int), l') := by
  induction d with
  | zero =>
    intro i l hl hi hp
    obtain rfl : i = n := by omega
    refine ⟨l, hl, fun j hj => hp j (by omega), Ev.step (f := fun _ => some _) (fun k => ?_) (Ev.now _)⟩
    simp only [laws_markDrawerS.l0]
    rw [if_neg (by omega)]
  | succ d ih =>
    intro i l hl hi hp
    have hlt : i < l.length := by omega
    obtain ⟨l', h1, h2, h3⟩ := ih (i + 1) ((l.set i ⟨((2 * i + m : Nat) : Int), (rd_T47 l (i : Int)).f1⟩).set i ⟨((2 * i + m : Nat) : Int), ((2 * i + m + 1 : Nat) : Int)⟩) (by simpa using hl) (by omega) (fun j hj => by
      by_cases e : j = i
      · subst e
        rw [rdD_set_self (by simpa using hlt)]
      · rw [rdD_set_ne e, rdD_set_ne e]
        exact hp j (by omega))
    refine ⟨l', h1, h2, Ev.step (fun k => ?_) h3⟩
    simp only [laws_markDrawerS.l0, Option.bind_some]
    rw [if_pos (by omega), if_pos (by omega), Int.toNat_natCast, rdD_set_self hlt, w64n (i := 2 * i + m) (n := 4194304) (by omega) (by omega), w64n (i := 2 * i + m + 1) (n := 4194304) (by omega) (by omega), w64n (i := i) (n := 4194304) (by omega) (by omega), show 2 * i + m + 1 + 1 = 2 * (i + 1) + m from by omega]
theorem markDr_ev (l : List S47) (hn : l.length ≤ 1048576) (m : Nat) (hm : m ≤ 1048576) : ∃ l', l'.length = l.length ∧ marked l' m ∧ Ev (fun k => laws_markDrawerS.f k l (m : Int)) (((2 * l.length + m : Nat) : Int), l') := by
  obtain ⟨l', h1, h2, h3⟩ := markDr_loop l.length m hn hm l.length 0 l rfl (by omega) (fun j hj => absurd hj (by omega))
  refine ⟨l', h1, h2, ?_⟩
  simpa [laws_markDrawerS.f] using h3
theorem markDr_ex (l : List S47) (hn : l.length ≤ 1048576) : ∃ (q : Int) (l' : List S47), 0 ≤ q ∧ q ≤ 4194304 ∧ Ev (fun k => laws_markDrawerS.f k l 1) (q, l') ∧ True := by
  obtain ⟨l', h1, h2, h3⟩ := markDr_ev l hn 1 (by omega)
  exact ⟨((2 * l.length + 1 : Nat) : Int), l', by omega, by omega, h3, trivial⟩
end Go.Proofs.Ytenbnempjgbibaa.X
