/- Texts of this seat in one: contracts of the functions (those written by wip/tools/xprint.py and those proved by hand) and plain laws. -/
import Derived.Test.YtenbnempjgbibaaDoorMA
import Derived.Deep.Slices
import Derived.ChangeSame
import Derived.ChangeArms
import Derived.SizedLaws
/- ==== XspecDrawersText ==== -/
namespace Go.Proofs.YtenbnempjgbibaaDoor.X
open Go.RowKit Go.Proofs.YtenbnempjgbibaaDoorW.PrintWords Go.Proofs.YtenbnempjgbibaaDoorW.PrintLast Go.Proofs.YtenbnempjgbibaaDoorW.PrintMore
attribute [local go_sem] max2_int min2_int max_two min_two max_three min_three max_four min_four   -- for this text's walks alone
set_option linter.unusedVariables false
set_option linter.unusedSimpArgs false

/-! ### spec_DrawersText: function 5 -/
def spec_DrawersText.f (k : Nat) (l0 : List (S33)) : Option (ByteArray × Bool) := (spec_dwGood.f k l0).bind fun t122 => (if t122 = true then ((spec_dwText.f k l0).bind fun t123 => (some (t123, true))) else (some ((⟨#[]⟩ : ByteArray), false)))
theorem spec_DrawersText.mono : ∀ a0 k, LeO (spec_DrawersText.f k a0) (spec_DrawersText.f (k + 1) a0) := by
  intro a0 k
  unfold spec_DrawersText.f
  repeat' first
      | (with_reducible exact spec_dwGood.mono _ _)
      | (with_reducible exact spec_dwText.mono _ _)
      | (with_reducible exact LeO.refl _)
      | (with_reducible exact LeO.none _)
      | (with_reducible refine LeO.ite ?_ ?_)
      | (with_reducible refine LeO.bind ?_ (fun _ => ?_))
      | exact spec_dwGood.mono _ _
      | exact spec_dwText.mono _ _
      | exact LeO.none _
      | refine LeO.ite ?_ ?_
      | refine LeO.bind ?_ (fun _ => ?_)
set_option maxHeartbeats 8000000 in
set_option maxRecDepth 100000 in
theorem spec_DrawersText.calls (k : Nat) (A0 : Option Addr) (c0 : Nat) (l0 : List (S33)) (r1 : ByteArray) (r2 : Bool) (w : World) (hr0 : Kd.C k33 w A0 l0.length l0) (hc0 : l0.length ≤ c0) (h : spec_DrawersText.f k l0 = some (r1, r2)) :
    Calls Tryd.prog 5 #[.slice A0 l0.length c0] w fun e w' => e = .returned (.tuple #[.string r1, .bool r2]) ∧ Below w.heap.size w w' := by
  have HR0 := Aside0.mk hr0
  have HC0 := Aside0.mk hc0
  clear hr0 hc0
  have HB := Aside0.mk (Below.refl w.heap.size w)
  have H : ((spec_dwGood.f k l0).bind fun t122 => (if t122 = true then ((spec_dwText.f k l0).bind fun t123 => (some (t123, true))) else (some ((⟨#[]⟩ : ByteArray), false)))) = some (r1, r2) := h
  clear h
  replace H := Option.bind_eq_some_iff.mp H
  obtain ⟨t122, A20, H⟩ := H
  replace H : (if t122 = true then ((spec_dwText.f k l0).bind fun t123 => (some (t123, true))) else (some ((⟨#[]⟩ : ByteArray), false))) = some (r1, r2) := H
  have A2 := Aside0.mk A20
  clear A20
  by_cases c3 : t122 = true
  · subst c3
    have H1 : ((spec_dwText.f k l0).bind fun t123 => (some (t123, true))) = some (r1, r2) := by rw [if_pos rfl] at H; exact H
    clear H
    have H := H1
    clear H1
    replace H := Option.bind_eq_some_iff.mp H
    obtain ⟨t123, A40, H⟩ := H
    replace H : (some (t123, true)) = some (r1, r2) := H
    have A4 := Aside0.mk A40
    clear A40
    simp only [Option.some.injEq, Prod.mk.injEq] at H
    obtain ⟨rfl, rfl⟩ := H
    go_enter Tryd.func5, Tryd.ntmps5
    go_wp2_with (first | ((with_reducible refine gate_callee (f := 9) rfl ?_); refine goesL_ (some 5) rfl rfl Tryd.func9 (by kernel_rfl) rfl #[.slice A0 l0.length c0] rfl (by (try simp only [List.map_toArray, List.map_cons, List.map_nil]); first | done | rfl | (simp only [List.length_drop, List.length_take]; rfl)) ?_; (with_reducible refine (spec_dwGood.calls k _ _ l0 true _ ?side1 ?side2 A2.out).mono ?_); (case side1 => repeat (first | exact HR0.out | (with_reducible refine Kd.C_alloc ?_ _) | (with_reducible refine Kd.C_drewN ?_ _) | (with_reducible refine Kd.C_drew ?_))); (case side2 => exact HC0.out); rintro e w5 ⟨rfl, hb⟩; refine ⟨_, rfl, ?_⟩; have n0_ := Aside0.mk (below_step (by repeat (first | (with_reducible first | exact HB.out | apply below_alloc | apply pw_below_drewN | apply below_drew1) | exact HB.out)) hb); clear HB; have HB := n0_; clear n0_; (try clear hb); (try clear hb2); (try clear hk); (try clear hi)) | ((with_reducible refine gate_callee (f := 10) rfl ?_); refine goesL_ (some 8) rfl rfl Tryd.func10 (by kernel_rfl) rfl #[.slice A0 l0.length c0] rfl (by (try simp only [List.map_toArray, List.map_cons, List.map_nil]); first | done | rfl | (simp only [List.length_drop, List.length_take]; rfl)) ?_; (with_reducible refine (spec_dwText.calls k _ _ l0 t123 _ ?side1 ?side2 A4.out).mono ?_); (case side1 => repeat (first | exact (Kd.C_below HR0.out HB.out) | (with_reducible refine Kd.C_alloc ?_ _) | (with_reducible refine Kd.C_drewN ?_ _) | (with_reducible refine Kd.C_drew ?_))); (case side2 => exact HC0.out); rintro e w6 ⟨rfl, hb⟩; refine ⟨_, rfl, ?_⟩; have n0_ := Aside0.mk (below_step (by repeat (first | (with_reducible first | exact HB.out | apply below_alloc | apply pw_below_drewN | apply below_drew1) | exact HB.out)) hb); clear HB; have HB := n0_; clear n0_; (try clear hb); (try clear hb2); (try clear hk); (try clear hi)))
    go_ret2
    exact ⟨by first | rfl | (simp [errW_none, errW_some] <;> rfl) | (simp [*, errW_none, errW_some] <;> rfl), by repeat (first | (with_reducible first | exact HB.out | apply below_alloc | apply pw_below_drewN | apply below_drew1) | exact HB.out)⟩
  · replace c3 := Bool.eq_false_iff.mpr c3
    subst c3
    have H1 : (some ((⟨#[]⟩ : ByteArray), false)) = some (r1, r2) := by rw [if_neg (show ¬ (false = true) by decide)] at H; exact H
    clear H
    have H := H1
    clear H1
    simp only [Option.some.injEq, Prod.mk.injEq] at H
    obtain ⟨rfl, rfl⟩ := H
    go_enter Tryd.func5, Tryd.ntmps5
    go_wp2_with (first | ((with_reducible refine gate_callee (f := 9) rfl ?_); refine goesL_ (some 5) rfl rfl Tryd.func9 (by kernel_rfl) rfl #[.slice A0 l0.length c0] rfl (by (try simp only [List.map_toArray, List.map_cons, List.map_nil]); first | done | rfl | (simp only [List.length_drop, List.length_take]; rfl)) ?_; (with_reducible refine (spec_dwGood.calls k _ _ l0 false _ ?side1 ?side2 A2.out).mono ?_); (case side1 => repeat (first | exact HR0.out | (with_reducible refine Kd.C_alloc ?_ _) | (with_reducible refine Kd.C_drewN ?_ _) | (with_reducible refine Kd.C_drew ?_))); (case side2 => exact HC0.out); rintro e w7 ⟨rfl, hb⟩; refine ⟨_, rfl, ?_⟩; have n0_ := Aside0.mk (below_step (by repeat (first | (with_reducible first | exact HB.out | apply below_alloc | apply pw_below_drewN | apply below_drew1) | exact HB.out)) hb); clear HB; have HB := n0_; clear n0_; (try clear hb); (try clear hb2); (try clear hk); (try clear hi)))
    go_ret2
    exact ⟨by first | rfl | (simp [errW_none, errW_some] <;> rfl) | (simp [*, errW_none, errW_some] <;> rfl), by repeat (first | (with_reducible first | exact HB.out | apply below_alloc | apply pw_below_drewN | apply below_drew1) | exact HB.out)⟩

end Go.Proofs.YtenbnempjgbibaaDoor.X

/- ==== PlDr ==== -/
/- Plain laws, no program in sight: the law's copy of drawers, and its comparison of two. -/
namespace Go.Proofs.YtenbnempjgbibaaDoor.X
open Go.RowKit Go.Proofs.YtenbnempjgbibaaDoorW.PrintWords Go.Proofs.YtenbnempjgbibaaDoorW.PrintLast Go.Proofs.YtenbnempjgbibaaDoorW.PrintMore

theorem w64d {x : Int} (h0 : -9223372036854775808 ≤ x) (h1 : x ≤ 9223372036854775807) : wrap64 x = x := by unfold wrap64; omega
theorem w64ds {i n : Nat} (h : i < n) (hn : n ≤ 1073741824) : wrap64 ((i : Int) + 1) = ((i + 1 : Nat) : Int) := by unfold wrap64; omega
theorem rdD_get {l : List S33} {i : Nat} (h : i < l.length) : rd_T33 l (i : Int) = l[i] := by simp [rd_T33, List.getD_eq_getElem?_getD, h]
theorem rdL_get {l : List S35} {i : Nat} (h : i < l.length) : rd_T35 l (i : Int) = l[i] := by simp [rd_T35, List.getD_eq_getElem?_getD, h]
/-- The program's drawer of the law's. -/
def cv (x : S35) : S33 := ⟨x.f0, x.f1⟩

theorem toDr_loop (l : List S35) (hn : l.length ≤ 1048576) (d : Nat) : ∀ (i : Nat) (acc : List S33), i + d = l.length → acc.length = l.length → (∀ j, j < i → acc[j]? = (l.map cv)[j]?) →
    Ev (fun k => laws_toDrawerS.l0 k l acc (i : Int)) (l.map cv) := by
  induction d with
  | zero =>
    intro i acc hi ha hp
    have e : acc = l.map cv := by
      apply List.ext_getElem?
      intro j
      by_cases hj : j < i
      · exact hp j hj
      · rw [List.getElem?_eq_none (by omega), List.getElem?_eq_none (by simp; omega)]
    subst e
    refine Ev.step (f := fun _ => some (l.map cv)) (fun k => ?_) (Ev.now _)
    simp only [laws_toDrawerS.l0]
    rw [if_neg (by omega)]
  | succ d ih =>
    intro i acc hi ha hp
    refine Ev.step (f := fun k => laws_toDrawerS.l0 k l (acc.set i (cv (rd_T35 l (i : Int)))) ((i + 1 : Nat) : Int)) (fun k => ?_) (ih (i + 1) _ (by omega) (by simpa using ha) (fun j hj => ?_))
    · simp only [laws_toDrawerS.l0, laws_toDrawer.f, Option.bind_some]
      rw [if_pos (by omega), if_pos (by omega), if_pos (by omega), w64ds (show i < l.length by omega) (by omega), Int.toNat_natCast]
      rfl
    · by_cases e : j = i
      · subst e
        rw [List.getElem?_set_self (by omega), rdL_get (by omega), List.getElem?_map, List.getElem?_eq_getElem (by omega)]
        rfl
      · rw [List.getElem?_set_ne (by omega)]
        exact hp j (by omega)
theorem toDr_ev (l : List S35) (hn : l.length ≤ 1048576) : Ev (fun k => laws_toDrawerS.f k l) (l.map cv) := by
  refine Ev.congr (f := fun k => laws_toDrawerS.l0 k l (List.replicate l.length z33) ((0 : Nat) : Int)) (fun k => ?_) (toDr_loop l hn l.length 0 _ (by omega) (by simp) (fun j hj => absurd hj (by omega)))
  unfold laws_toDrawerS.f
  rw [if_pos (by omega), if_pos (by simp; omega)]
  simp

theorem eqDr_loop (l : List S33) (hn : l.length ≤ 1073741824) (d : Nat) : ∀ (i : Nat), i + d = l.length → Ev (fun k => laws_eqDrawerS.l0 k l l (i : Int)) true := by
  induction d with
  | zero =>
    intro i hi
    refine Ev.step (f := fun _ => some true) (fun k => ?_) (Ev.now _)
    simp only [laws_eqDrawerS.l0]
    rw [if_neg (by omega)]
  | succ d ih =>
    intro i hi
    refine Ev.step (f := fun k => laws_eqDrawerS.l0 k l l ((i + 1 : Nat) : Int)) (fun k => ?_) (ih (i + 1) (by omega))
    simp only [laws_eqDrawerS.l0, laws_eqDrawer.f, if_true, Option.bind_some]
    rw [if_pos (by omega), if_pos (by omega), if_pos (by omega), w64ds (show i < l.length by omega) (by omega)]
theorem eqDr_ev (l : List S33) (hn : l.length ≤ 1073741824) : Ev (fun k => laws_eqDrawerS.f k l l) true := by
  refine Ev.congr (f := fun k => laws_eqDrawerS.l0 k l l ((0 : Nat) : Int)) (fun k => ?_) (eqDr_loop l hn l.length 0 (by omega))
  unfold laws_eqDrawerS.f
  rw [if_pos rfl]
  rfl

theorem sz_big {l : List S35} (h : 1048576 < l.length) (hn : l.length * 16 ≤ 140737488351232) : laws_szDrawerS.f l 1048576 = some (-1) := by
  unfold laws_szDrawerS.f
  rw [w64d (by omega) (by omega), if_pos (by omega)]
theorem sz_small {l : List S35} (h : l.length ≤ 1048576) : laws_szDrawerS.f l 1048576 = some (1048576 - (l.length : Int)) := by
  unfold laws_szDrawerS.f
  rw [w64d (by omega) (by omega), if_neg (by omega)]

end Go.Proofs.YtenbnempjgbibaaDoor.X

/- ==== PlGood ==== -/
/- Plain laws, no program in sight: the reference's test of drawers is the program's; sums of weights; fractions. -/
namespace Go.Proofs.YtenbnempjgbibaaDoor.X
open Go.RowKit Go.Proofs.YtenbnempjgbibaaDoorW.PrintWords Go.Proofs.YtenbnempjgbibaaDoorW.PrintLast Go.Proofs.YtenbnempjgbibaaDoorW.PrintMore

theorem l1In_inB (x lo hi : Int) : spec_l1In.f x lo hi = some (inB lo hi x) := by
  unfold spec_l1In.f inB
  by_cases h : lo ≤ x <;> simp [h]
theorem dwAll_loop (l : List S33) (hn : l.length ≤ 1048576) (ho : okW l) (d : Nat) : ∀ (i : Nat) (acc : Int), i + d = l.length → 0 ≤ acc → acc ≤ 50 * (i : Int) →
    Ev (fun k => spec_dwAll.l0 k acc l (l.length : Int) (i : Int)) (acc + sumW (l.drop i)) := by
  induction d with
  | zero =>
    intro i acc hi h0 h1
    refine Ev.step (f := fun _ => some acc) (fun k => ?_) ?_
    · simp only [spec_dwAll.l0]
      rw [if_neg (by omega)]
    · rw [List.drop_of_length_le (by omega)]
      simpa [sumW] using Ev.now acc
  | succ d ih =>
    intro i acc hi h0 h1
    have hlt : i < l.length := by omega
    have hb := ho _ (rd_mem hlt)
    rw [drop_rd hlt]
    have := ih (i + 1) (acc + (rd_T33 l (i : Int)).f0) (by omega) (by omega) (by omega)
    refine Ev.step (f := fun k => spec_dwAll.l0 k (acc + (rd_T33 l (i : Int)).f0) l (l.length : Int) ((i + 1 : Nat) : Int)) (fun k => ?_) (by simpa [sumW, Int.add_assoc] using this)
    simp only [spec_dwAll.l0]
    rw [if_pos (by omega), if_pos (by omega), if_pos (by omega), w64d (by omega) (by omega), w64ds hlt (by omega)]
theorem dwAll_ev (l : List S33) (hn : l.length ≤ 1048576) (ho : okW l) : Ev (fun k => spec_dwAll.f k l) (sumW l) := by
  have := dwAll_loop l hn ho l.length 0 0 (by omega) (by omega) (by omega)
  simpa [spec_dwAll.f] using this
theorem weights_ev (l : List S33) (hn : l.length ≤ 1048576) (ho : okW l) : Ev (fun k => impl_weights.f k l) (sumW l) := Ev.of (impl_weights.mono l) (weights_is l hn ho)

theorem dwGood_loop (l : List S33) (hn : l.length ≤ 8) (d : Nat) : ∀ (i : Nat), i + d = l.length → (∀ j, j < i → goodD (rd_T33 l (j : Nat)) = true) →
    Ev (fun k => spec_dwGood.l0 k l l (l.length : Int) (i : Int)) (l.all goodD && decide (0 < sumW l)) := by
  induction d with
  | zero =>
    intro i hi hp
    have e : i = l.length := by omega
    have ha := all_pre l (fun j hj => hp j (by omega))
    rw [ha, Bool.true_and]
    refine Ev.step (f := fun k => (spec_dwAll.f k l).bind fun t104 => (some (decide (t104 > 0)))) (fun k => ?_) (Ev.bind (dwAll_ev l (by omega) (okW_of ha)) (Ev.now _))
    simp only [spec_dwGood.l0]
    rw [if_neg (by omega)]
  | succ d ih =>
    intro i hi hp
    have hlt : i < l.length := by omega
    cases hg : goodD (rd_T33 l (i : Nat)) with
    | true =>
      have hg' := hg
      simp only [goodD, Bool.and_eq_true] at hg'
      refine Ev.step (f := fun k => spec_dwGood.l0 k l l (l.length : Int) ((i + 1 : Nat) : Int)) (fun k => ?_) (ih (i + 1) (by omega) (fun j hj => ?_))
      · simp only [spec_dwGood.l0, l1In_inB, Option.bind_some]
        rw [if_pos (by omega), if_pos (by omega), if_pos (by omega), if_pos hg'.1, if_pos hg'.2, w64ds hlt (by omega)]
      · by_cases e : j = i
        · subst e
          exact hg
        · exact hp j (by omega)
    | false =>
      rw [all_bad l i hlt hg, Bool.false_and]
      refine Ev.step (f := fun _ => some false) (fun k => ?_) (Ev.now _)
      simp only [spec_dwGood.l0, l1In_inB, Option.bind_some]
      rw [if_pos (by omega), if_pos (by omega), if_pos (by omega)]
      by_cases h1 : inB 0 50 (rd_T33 l (i : Nat)).f0 = true
      · have h2 : inB 1 60 (rd_T33 l (i : Nat)).f1 = false := by simpa [goodD, h1] using hg
        rw [if_pos h1, if_neg (by rw [h2]; decide)]
      · rw [if_neg h1]
theorem dwGood_ev (l : List S33) : Ev (fun k => spec_dwGood.f k l) (areDr l) := by
  unfold areDr
  cases hq : inB 1 8 (l.length : Int) with
  | false =>
    refine Ev.congr (f := fun _ => some false) (fun k => ?_) (Ev.now _)
    simp only [spec_dwGood.f, l1In_inB, Option.bind_some]
    rw [if_neg (by rw [hq]; decide)]
  | true =>
    have hl : l.length ≤ 8 := by simp [inB] at hq; omega
    rw [Bool.true_and]
    refine Ev.congr (f := fun k => spec_dwGood.l0 k l l (l.length : Int) ((0 : Nat) : Int)) (fun k => ?_) (dwGood_loop l hl l.length 0 (by omega) (fun j hj => absurd hj (by omega)))
    simp only [spec_dwGood.f, l1In_inB, Option.bind_some]
    rw [if_pos hq]
    rfl

theorem areDr_len {l : List S33} (h : areDr l = true) : 1 ≤ l.length ∧ l.length ≤ 8 := by
  unfold areDr at h
  simp [inB] at h
  omega
theorem areDr_good {l : List S33} (h : areDr l = true) : l.all goodD = true := by
  unfold areDr at h
  simp only [Bool.and_eq_true] at h
  exact h.2.1
theorem areDr_pos {l : List S33} (h : areDr l = true) : 0 < sumW l := by
  unfold areDr at h
  simp only [Bool.and_eq_true, decide_eq_true_eq] at h
  exact h.2.2
theorem sumW_le {l : List S33} (h : okW l) : 0 ≤ sumW l ∧ sumW l ≤ 50 * (l.length : Int) := by
  induction l with
  | nil => simp [sumW]
  | cons x t ih =>
    have h1 := h x List.mem_cons_self
    have h2 := ih (fun y hy => h y (List.mem_cons_of_mem _ hy))
    simp only [sumW, List.foldr_cons, List.length_cons] at *
    omega

end Go.Proofs.YtenbnempjgbibaaDoor.X

/- ==== PlText ==== -/
/- Plain laws, no program in sight: numbers below 100 in decimal; words with a sign between them; the text of drawers. -/
namespace Go.Proofs.YtenbnempjgbibaaDoor.X
open Go.RowKit Go.Proofs.YtenbnempjgbibaaDoorW.PrintWords Go.Proofs.YtenbnempjgbibaaDoorW.PrintLast Go.Proofs.YtenbnempjgbibaaDoorW.PrintMore

/-- A number below 100 in decimal. -/
def decT (n : Nat) : ByteArray := if n < 10 then ⟨#[UInt8.ofNat (48 + n)]⟩ else ⟨#[UInt8.ofNat (48 + n / 10), UInt8.ofNat (48 + n % 10)]⟩
theorem decS_eq {n : Nat} (h : n < 100) : decS n = decT n := by
  unfold decS decT
  by_cases c : n < 10
  · rw [Lib.decDigits_one c, if_pos c]
  · rw [Lib.decDigits_two c h, if_neg c]
theorem num_all : (List.range 100).all (fun n => decide (spec_l1Num.f 5 (n : Int) = some (decT n)) && decide ((decT n).size ≤ 2)) = true := by decide +kernel
theorem num_ev {n : Nat} (h : n < 100) : Ev (fun k => spec_l1Num.f k (n : Int)) (decT n) := by
  have h1 := List.all_eq_true.1 num_all n (by simpa using h)
  simp only [Bool.and_eq_true, decide_eq_true_eq] at h1
  exact Ev.of (spec_l1Num.mono _) h1.1
theorem decT_size {n : Nat} (h : n < 100) : (decT n).size ≤ 2 := by
  have h1 := List.all_eq_true.1 num_all n (by simpa using h)
  simp only [Bool.and_eq_true, decide_eq_true_eq] at h1
  exact h1.2
/-- A text, and words behind it, a sign ahead of each. -/
def tx (s : ByteArray) : ByteArray → List ByteArray → ByteArray
  | acc, [] => acc
  | acc, w :: ws => tx s ((acc ++ s) ++ w) ws
theorem tx_list (s : ByteArray) : ∀ (ws : List ByteArray) (acc : ByteArray), (tx s acc ws).data.toList = acc.data.toList ++ Lib.joinTail s.data.toList (ws.map (·.data.toList))
  | [], acc => by simp [tx, Lib.joinTail]
  | w :: ws, acc => by
    rw [tx, tx_list s ws]
    simp [Lib.joinTail, ByteArray.data_append, List.append_assoc]
theorem joinS_cons (s w : ByteArray) (ws : List ByteArray) : joinS (w :: ws) s = tx s w ws := by
  have h := tx_list s ws w
  unfold joinS
  rw [List.map_cons, Lib.join_cons, ← h]
theorem tx_size (s : ByteArray) (hs : s.size ≤ 1) (m : Nat) : ∀ (ws : List ByteArray) (acc : ByteArray), (∀ w ∈ ws, w.size ≤ m) → (tx s acc ws).size ≤ acc.size + (m + 1) * ws.length
  | [], acc, _ => by simp [tx]
  | w :: ws, acc, h => by
    have h1 := tx_size s hs m ws ((acc ++ s) ++ w) (fun x hx => h x (List.mem_cons_of_mem _ hx))
    have h2 := h w (List.mem_cons_self ..)
    rw [tx, List.length_cons, Nat.mul_succ]
    rw [ByteArray.size_append, ByteArray.size_append] at h1
    omega
def slash : ByteArray := ⟨#[47]⟩
def semi : ByteArray := ⟨#[59]⟩
/-- The word of a drawer. -/
def wd (x : S33) : ByteArray := (decT x.f0.toNat ++ slash) ++ decT x.f1.toNat
theorem wd_size {x : S33} (h : goodD x = true) : (decT x.f0.toNat).size ≤ 2 ∧ (decT x.f1.toNat).size ≤ 2 ∧ (wd x).size ≤ 5 := by
  unfold goodD inB at h
  simp only [Bool.and_eq_true, decide_eq_true_eq] at h
  have h1 := decT_size (show x.f0.toNat < 100 by omega)
  have h2 := decT_size (show x.f1.toNat < 100 by omega)
  refine ⟨h1, h2, ?_⟩
  unfold wd
  rw [ByteArray.size_append, ByteArray.size_append]
  have : slash.size = 1 := rfl
  omega
theorem nums_of {x : S33} (h : goodD x = true) : strconv_Itoa_13.f x.f0 = some (decT x.f0.toNat) ∧ strconv_Itoa_13.f x.f1 = some (decT x.f1.toNat) ∧ Ev (fun k => spec_l1Num.f k x.f0) (decT x.f0.toNat) ∧ Ev (fun k => spec_l1Num.f k x.f1) (decT x.f1.toNat) := by
  unfold goodD inB at h
  simp only [Bool.and_eq_true, decide_eq_true_eq] at h
  have e0 : ((x.f0.toNat : Nat) : Int) = x.f0 := by omega
  have e1 : ((x.f1.toNat : Nat) : Int) = x.f1 := by omega
  have n0 := num_ev (show x.f0.toNat < 100 by omega)
  have n1 := num_ev (show x.f1.toNat < 100 by omega)
  rw [e0] at n0
  rw [e1] at n1
  refine ⟨?_, ?_, n0, n1⟩
  · unfold strconv_Itoa_13.f
    rw [if_pos (by omega), decS_eq (by omega)]
  · unfold strconv_Itoa_13.f
    rw [if_pos (by omega), decS_eq (by omega)]
theorem good_at {l : List S33} (hg : l.all goodD = true) {i : Nat} (h : i < l.length) : goodD (rd_T33 l (i : Int)) = true := List.all_eq_true.1 hg _ (rd_mem h)
section
variable {l : List S33} (hl : l.length ≤ 8) (hg : l.all goodD = true)
include hl hg
/-- The program's words, one behind the other. -/
theorem impl_words (e : Nat) : ∀ (i : Nat) (acc : List ByteArray), i + e = l.length → acc.length = i → ∀ r : ByteArray, strings_Join.f (acc ++ (l.drop i).map wd) semi = some r →
    Ev (fun k => impl_DrawersText.l0 k acc l (l.length : Int) (i : Int)) (r, true) := by
  induction e with
  | zero =>
    intro i acc hi ha r hr
    rw [List.drop_of_length_le (by omega), List.map_nil, List.append_nil] at hr
    refine Ev.step (f := fun _ => some (r, true)) (fun k => ?_) (Ev.now _)
    simp only [impl_DrawersText.l0]
    rw [if_neg (by omega)]
    show (strings_Join.f acc semi).bind _ = _
    rw [hr, Option.bind_some]
  | succ e ih =>
    intro i acc hi ha r hr
    have hlt : i < l.length := by omega
    have hgd := good_at hg hlt
    obtain ⟨n1, n2, _, _⟩ := nums_of hgd
    obtain ⟨s1, s2, _⟩ := wd_size hgd
    rw [drop_rd hlt, List.map_cons, List.append_cons] at hr
    have h1 := ih (i + 1) (acc ++ [wd (rd_T33 l (i : Int))]) (by omega) (by simp [ha]) r hr
    have HI := Aside0.mk (w64ds hlt (by omega))
    refine Ev.step (fun k => ?_) h1
    simp only [impl_DrawersText.l0]
    rw [if_pos (by omega), if_pos (by omega), if_pos (by omega), n1, Option.bind_some, if_pos (by omega), n2, Option.bind_some, if_pos (by rw [ByteArray.size_append]; have : (⟨#[47]⟩ : ByteArray).size = 1 := rfl; omega), if_pos (by omega), HI.out]
    rfl
/-- The reference's text, from a word on. -/
theorem spec_text (e : Nat) : ∀ (i : Nat) (acc : ByteArray), i + e = l.length → 0 < i → acc.size ≤ 6 * i →
    Ev (fun k => spec_dwText.l0 k acc l (l.length : Int) (i : Int)) (tx semi acc ((l.drop i).map wd)) := by
  induction e with
  | zero =>
    intro i acc hi h0 ha
    rw [List.drop_of_length_le (by omega)]
    refine Ev.step (f := fun _ => some acc) (fun k => ?_) (Ev.now _)
    simp only [spec_dwText.l0]
    rw [if_neg (by omega)]
  | succ e ih =>
    intro i acc hi h0 ha
    have hlt : i < l.length := by omega
    have hgd := good_at hg hlt
    obtain ⟨_, _, n1, n2⟩ := nums_of hgd
    obtain ⟨s1, s2, s3⟩ := wd_size hgd
    rw [drop_rd hlt, List.map_cons, tx]
    have HI := Aside0.mk (w64ds hlt (by omega))
    have z47 : (⟨#[47]⟩ : ByteArray).size = 1 := rfl
    have z59 : semi.size = 1 := rfl
    have h1 := ih (i + 1) ((acc ++ semi) ++ wd (rd_T33 l (i : Int))) (by omega) (by omega) (by rw [ByteArray.size_append, ByteArray.size_append]; omega)
    obtain ⟨x, hx⟩ : ∃ x, x = rd_T33 l (i : Int) := ⟨_, rfl⟩
    rw [← hx] at n1 n2 s1 s2 s3 h1 ⊢
    have HX := Aside0.mk hx
    clear hx hgd
    have hz : (acc ++ semi).size = acc.size + 1 := by rw [ByteArray.size_append, z59]
    refine Ev.step (f := fun k => (spec_l1Num.f k x.f0).bind fun t118 => (if t118.size + 1 ≤ 9223372036854775807 then ((spec_l1Num.f k x.f1).bind fun t119 => (if (t118 ++ (⟨#[47]⟩ : ByteArray)).size + t119.size ≤ 9223372036854775807 then (if (acc ++ semi).size + ((t118 ++ (⟨#[47]⟩ : ByteArray)) ++ t119).size ≤ 9223372036854775807 then (spec_dwText.l0 k ((acc ++ semi) ++ ((t118 ++ (⟨#[47]⟩ : ByteArray)) ++ t119)) l (l.length : Int) ((i + 1 : Nat) : Int)) else (none)) else (none))) else (none))) (fun k => ?_) (Ev.bind n1 (Ev.congr (f := fun k => (spec_l1Num.f k x.f1).bind fun t119 => (if (decT x.f0.toNat ++ (⟨#[47]⟩ : ByteArray)).size + t119.size ≤ 9223372036854775807 then (if (acc ++ semi).size + ((decT x.f0.toNat ++ (⟨#[47]⟩ : ByteArray)) ++ t119).size ≤ 9223372036854775807 then (spec_dwText.l0 k ((acc ++ semi) ++ ((decT x.f0.toNat ++ (⟨#[47]⟩ : ByteArray)) ++ t119)) l (l.length : Int) ((i + 1 : Nat) : Int)) else (none)) else (none))) (fun k => ?_) (Ev.bind n2 (Ev.congr (fun k => ?_) h1))))
    · simp only [spec_dwText.l0]
      rw [if_pos (by omega), if_pos (by omega), if_pos (by omega), if_pos (by omega), if_pos (by omega), HI.out, ← HX.out]
      rfl
    · rw [if_pos (by omega)]
    · rw [if_pos (by rw [ByteArray.size_append]; omega), if_pos (by rw [hz, ByteArray.size_append, ByteArray.size_append]; omega)]
      rfl
end
theorem DrawersText_both (D : List S33) (_hn : D.length ≤ 1048576) : ∃ r : ByteArray × Bool, Ev (fun k => spec_DrawersText.f k D) r ∧ Ev (fun k => impl_DrawersText.f k D) r := by
  have hg := dwGood_ev D
  cases h : areDr D with
  | false =>
    rw [h] at hg
    refine ⟨(⟨#[]⟩, false), Ev.bind hg (Ev.congr (f := fun _ => some (⟨#[]⟩, false)) (fun k => by rw [if_neg (by decide)]) (Ev.now _)), Ev.congr (f := fun _ => some (⟨#[]⟩, false)) (fun k => ?_) (Ev.now _)⟩
    unfold impl_DrawersText.f impl_AreDrawers.f
    rw [h, Option.bind_some, if_neg (by decide)]
  | true =>
    rw [h] at hg
    obtain ⟨l1, l8⟩ := areDr_len h
    have hall := areDr_good h
    cases D with
    | nil => simp at l1
    | cons x t =>
      have hgd : goodD x = true := List.all_eq_true.1 hall x (List.mem_cons_self ..)
      have ht8 : t.length ≤ 7 := by simpa using l8
      have hmem : ∀ w ∈ t.map wd, w.size ≤ 5 := by
        intro w hw
        obtain ⟨y, hy, rfl⟩ := List.mem_map.1 hw
        exact (wd_size (List.all_eq_true.1 hall y (List.mem_cons_of_mem _ hy))).2.2
      have hsz := tx_size semi (Nat.le_refl 1) 5 (t.map wd) (wd x) hmem
      rw [List.length_map] at hsz
      obtain ⟨n1, n2, n3, n4⟩ := nums_of hgd
      obtain ⟨s1, s2, s3⟩ := wd_size hgd
      have z47 : (⟨#[47]⟩ : ByteArray).size = 1 := rfl
      refine ⟨(tx semi (wd x) (t.map wd), true), Ev.bind hg (Ev.congr (f := fun k => (spec_dwText.f k (x :: t)).bind fun t123 => some (t123, true)) (fun k => by rw [if_pos rfl]) (Ev.bind ?_ (Ev.now _))), ?_⟩
      · have h1 := spec_text l8 hall t.length 1 (wd x) (by simp; omega) (by omega) (by omega)
        rw [List.drop_one, List.tail_cons] at h1
        have hrd : rd_T33 (x :: t) 0 = x := rfl
        have hw : wrap64 ((0 : Int) + 1) = ((1 : Nat) : Int) := by unfold wrap64; omega
        have HW := Aside0.mk hw
        clear hw
        refine Ev.step (f := fun k => (spec_l1Num.f k x.f0).bind fun t120 => (if t120.size + 1 ≤ 9223372036854775807 then ((spec_l1Num.f k x.f1).bind fun t121 => (if (t120 ++ (⟨#[47]⟩ : ByteArray)).size + t121.size ≤ 9223372036854775807 then (if (⟨#[]⟩ : ByteArray).size + ((t120 ++ (⟨#[47]⟩ : ByteArray)) ++ t121).size ≤ 9223372036854775807 then (spec_dwText.l0 k ((⟨#[]⟩ : ByteArray) ++ ((t120 ++ (⟨#[47]⟩ : ByteArray)) ++ t121)) (x :: t) ((x :: t).length : Int) ((1 : Nat) : Int)) else (none)) else (none))) else (none))) (fun k => ?_) (Ev.bind n3 (Ev.congr (f := fun k => (spec_l1Num.f k x.f1).bind fun t121 => (if (decT x.f0.toNat ++ (⟨#[47]⟩ : ByteArray)).size + t121.size ≤ 9223372036854775807 then (if (⟨#[]⟩ : ByteArray).size + ((decT x.f0.toNat ++ (⟨#[47]⟩ : ByteArray)) ++ t121).size ≤ 9223372036854775807 then (spec_dwText.l0 k ((⟨#[]⟩ : ByteArray) ++ ((decT x.f0.toNat ++ (⟨#[47]⟩ : ByteArray)) ++ t121)) (x :: t) ((x :: t).length : Int) ((1 : Nat) : Int)) else (none)) else (none))) (fun k => ?_) (Ev.bind n4 (Ev.congr (fun k => ?_) h1))))
        · show spec_dwText.l0 (k + 1) (⟨#[]⟩ : ByteArray) (x :: t) ((x :: t).length : Int) 0 = _
          simp only [spec_dwText.l0]
          rw [if_pos (by omega), if_pos (by omega), if_pos (by omega), if_neg (by omega), hrd, HW.out]
        · rw [if_pos (by omega)]
        · have z0 : (⟨#[]⟩ : ByteArray).size = 0 := rfl
          rw [if_pos (by rw [ByteArray.size_append]; omega), if_pos (by rw [z0, ByteArray.size_append, ByteArray.size_append]; omega)]
          have : (⟨#[]⟩ : ByteArray) ++ ((decT x.f0.toNat ++ (⟨#[47]⟩ : ByteArray)) ++ decT x.f1.toNat) = wd x := by
            show _ = (decT x.f0.toNat ++ slash) ++ decT x.f1.toNat
            exact ByteArray.empty_append
          rw [this]
      · have hj : strings_Join.f ([] ++ ((x :: t).drop 0).map wd) semi = some (tx semi (wd x) (t.map wd)) := by
          rw [List.drop_zero, List.nil_append, List.map_cons]
          unfold strings_Join.f
          rw [joinS_cons, if_pos ⟨by simp; omega, by omega⟩]
        have h1 := impl_words l8 hall (x :: t).length 0 [] (by omega) rfl _ hj
        refine Ev.congr (fun k => ?_) h1
        unfold impl_DrawersText.f impl_AreDrawers.f
        rw [h, Option.bind_some, if_pos rfl]
        rfl
end Go.Proofs.YtenbnempjgbibaaDoor.X

/- ==== Open ==== -/
/- How an argument that is a list of drawers lies in memory. -/
namespace Go.Proofs.YtenbnempjgbibaaDoor.X
open Go.RowKit Go.Proofs.YtenbnempjgbibaaDoorW.PrintWords Go.Proofs.YtenbnempjgbibaaDoorW.PrintLast Go.Proofs.YtenbnempjgbibaaDoorW.PrintMore

section
variable {H : Type} {enc : TypeId × Value → H} {P : Program} {w : World} {base : Nat} {spare : Nat → Bool} {held : Bool}
/-- A slice of structs of two ints, read as data, lies as a row of such. -/
theorem open_twos {t e : TypeId} {f0 f1 : Field} {fuel : Nat} {cs : List Value} {x : DataW H × List MemPlace} (ht : P.underlying t = some (.slice e)) (he : P.underlying e = some (.struct #[f0, f1]))
    (u0 : P.underlying f0.type = some (.int .i64)) (u1 : P.underlying f1.type = some (.int .i64)) (o0 : f0.offset = 0) (o1 : f1.offset = 1) (c0 : P.cellsOf f0.type = 1) (c1 : P.cellsOf f1.type = 1) (hC : P.cellsOf e = 2)
    (h : DataW.trod enc P w base spare held fuel t cs = some x) :
    ∃ (A : Option Addr) (len cap : Nat) (zs : List S35), cs = [.slice A len cap] ∧ len ≤ cap ∧ len ≤ maxLen ∧ zs.length = len ∧ Kd.C k35 w A len zs ∧
      (x.1 = .nil ∧ len = 0 ∨ ∃ els rest, x.1 = .slice els rest ∧ els.length = len) := by
  rcases Go.Deep.open_slice ht h with ⟨rfl, rfl⟩ | ⟨a, len, cap, m, n, D, Pl, rfl, _, hl, hm, hmm, rfl, hi⟩
  · exact ⟨none, 0, 0, [], rfl, Nat.le_refl _, Nat.zero_le _, rfl, ⟨rfl, by omega, fun hp => absurd hp (by omega)⟩, .inl ⟨rfl, rfl⟩⟩
  · have hlm : len ≤ m := by rw [hmm]; split <;> omega
    have each : ∀ i, i < len → ∃ z : S35, w.cell? (a.add (i * 2)) = some (.int .i64 z.f0) ∧ w.cell? (a.add (i * 2 + 1)) = some (.int .i64 z.f1) := by
      intro i hlt
      obtain ⟨cs', hc, ht'⟩ := hi i (by omega)
      rw [hC] at hc
      obtain ⟨_, hcl, hat⟩ := World.cells?_some hc
      obtain ⟨y0, y1, n', _, _, t0, t1⟩ := Go.ChangeShapes.trod_struct2 he ht'
      rw [o0, c0] at t0
      rw [o1, c1] at t1
      match cs', hcl with
      | [v0, v1], _ =>
        obtain ⟨p, hp, _, _⟩ := DataW.trod_int u0 t0
        obtain ⟨q, hq, _, _⟩ := DataW.trod_int u1 t1
        simp at hp hq
        subst hp hq
        refine ⟨⟨p, q⟩, ?_, ?_⟩
        · have := hat 0 (by omega)
          rw [Go.Deep.add_add, Nat.add_zero] at this
          simpa using this
        · have := hat 1 (by omega)
          rw [Go.Deep.add_add] at this
          simpa using this
    have hz : ∃ f : Nat → S35, ∀ i, i < len → w.cell? (a.add (i * 2)) = some (.int .i64 (f i).f0) ∧ w.cell? (a.add (i * 2 + 1)) = some (.int .i64 (f i).f1) := by
      refine ⟨fun i => if hlt : i < len then Classical.choose (each i hlt) else z35, fun i hlt => ?_⟩
      simp only [dif_pos hlt]
      exact Classical.choose_spec (each i hlt)
    obtain ⟨f, hf⟩ := hz
    have hm' : cap ≤ 9223372036854775807 := by simpa [maxLen] using hm
    refine ⟨some a, len, cap, (List.range len).map f, rfl, hl, Nat.le_trans hl hm, by simp, ⟨by simp, by omega, fun _ => ⟨a, rfl, fun j p hp => ?_⟩⟩, .inr ⟨_, _, rfl, by simp⟩⟩
    have hj : j < len := by
      have := (List.getElem?_eq_some_iff.1 hp).1
      simpa using this
    have hpe : f j = p := by simpa [List.getElem?_map, List.getElem?_range, hj] using hp
    subst hpe
    refine ⟨_, rfl, k35_mk w _, fun i u hu => ?_⟩
    match i, hu with
    | 0, hu =>
      simp at hu
      subst hu
      exact (hf j hj).1
    | 1, hu =>
      simp at hu
      subst hu
      exact (hf j hj).2
end

end Go.Proofs.YtenbnempjgbibaaDoor.X
