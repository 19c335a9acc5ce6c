/- Texts of this seat in one: contracts of the functions (those written by wip/tools/xprint.py and those proved by hand) and plain laws. -/
import Derived.Test.YtnikblimnjpmpaaMA
/- ==== XspecchTable ==== -/
namespace Go.Proofs.Ytnikblimnjpmpaa.X
open Go.RowKit Go.Proofs.YtnikblimnjpmpaaW.PrintWords Go.Proofs.YtnikblimnjpmpaaW.PrintLast Go.Proofs.YtnikblimnjpmpaaW.PrintMore
attribute [local go_sem] max2_int min2_int max_two min_two max_three min_three max_four min_four   -- for this text's walks alone
set_option linter.unusedVariables false
set_option linter.unusedSimpArgs false

/-! ### spec_chTable: function 34 -/
mutual
def spec_chTable.l0 : Nat → Int → Int → Int → List Int → List Int → Int → Int → Option (List Int)
  | 0, _, _, _, _, _, _, _ => none
  | k + 1, x1, x2, x7, x8, x26, x27, x28 => if x28 < x27 then (if 0 ≤ x28 then (if x28 < (x26.length : Int) then (if 0 ≤ (wrap64 (x7 * x7)) then (if (wrap64 (x7 * x7) : Int).toNat ≤ 35184372088832 then (spec_chTable.l1 k x1 x2 x7 (rd x26 x28) (List.replicate (wrap64 (x7 * x7) : Int).toNat 0) x26 x27 x28 x8 (x8.length : Int) 0) else (none)) else (none)) else (none)) else (none)) else (if 0 ≤ (wrap64 (x1 * x7)) then (if (wrap64 (x1 * x7)) ≤ (x8.length : Int) then (some (x8.drop ((wrap64 (x1 * x7)) : Int).toNat)) else (none)) else (none))
def spec_chTable.l1 : Nat → Int → Int → Int → Int → List Int → List Int → Int → Int → List Int → Int → Int → Option (List Int)
  | 0, _, _, _, _, _, _, _, _, _, _, _ => none
  | k + 1, x1, x2, x7, x10, x11, x26, x27, x28, x36, x37, x38 => if x38 < x37 then (if 0 ≤ x38 then (if x38 < (x36.length : Int) then (if (rd x36 x38) = 0 then (spec_chTable.l1 k x1 x2 x7 x10 x11 x26 x27 x28 x36 x37 (wrap64 (x38 + 1))) else (if x7 = 0 then (none) else (spec_chTable.l2 k x1 x2 x7 x10 x11 (rd x36 x38) (wrap64 (Int.tdiv x38 x7)) (Int.tmod x38 x7) 0 x26 x27 x28 x36 x37 x38))) else (none)) else (none)) else (spec_chTable.l0 k x1 x2 x7 x11 x26 x27 (wrap64 (x28 + 1)))
def spec_chTable.l2 : Nat → Int → Int → Int → Int → List Int → Int → Int → Int → Int → List Int → Int → Int → List Int → Int → Int → Option (List Int)
  | 0, _, _, _, _, _, _, _, _, _, _, _, _, _, _, _ => none
  | k + 1, x1, x2, x7, x10, x11, x13, x14, x15, x16, x26, x27, x28, x36, x37, x38 => if x16 ≤ x10 then (spec_chTable.j3 k x1 x2 x7 x10 x11 x13 x14 x15 x16 x26 x27 x28 x36 x37 x38 (decide ((wrap64 (x14 + x16)) ≤ x1))) else (spec_chTable.j3 k x1 x2 x7 x10 x11 x13 x14 x15 x16 x26 x27 x28 x36 x37 x38 false)
def spec_chTable.j3 : Nat → Int → Int → Int → Int → List Int → Int → Int → Int → Int → List Int → Int → Int → List Int → Int → Int → Bool → Option (List Int)
  | 0, _, _, _, _, _, _, _, _, _, _, _, _, _, _, _, _ => none
  | k + 1, x1, x2, x7, x10, x11, x13, x14, x15, x16, x26, x27, x28, x36, x37, x38, x60 => if x60 = true then (if x2 = 99 then ((spec_l1Least.f x16 1).bind fun t125 => (if 0 ≤ (wrap64 ((wrap64 ((wrap64 ((wrap64 (x14 + x16)) * x7)) + x15)) + t125)) then (if (wrap64 ((wrap64 ((wrap64 ((wrap64 (x14 + x16)) * x7)) + x15)) + t125)) < (x11.length : Int) then ((spec_chChoose.f k x10 x16).bind fun t127 => (spec_chTable.l2 k x1 x2 x7 x10 (x11.set ((wrap64 ((wrap64 ((wrap64 ((wrap64 (x14 + x16)) * x7)) + x15)) + t125)) : Int).toNat (wrap64 ((rd x11 (wrap64 ((wrap64 ((wrap64 ((wrap64 (x14 + x16)) * x7)) + x15)) + t125))) + (wrap64 (x13 * t127))))) x13 x14 x15 (wrap64 (x16 + 1)) x26 x27 x28 x36 x37 x38)) else (none)) else (none))) else (if 0 ≤ (wrap64 ((wrap64 ((wrap64 ((wrap64 (x14 + x16)) * x7)) + x15)) + (wrap64 (Int.tdiv x16 2)))) then (if (wrap64 ((wrap64 ((wrap64 ((wrap64 (x14 + x16)) * x7)) + x15)) + (wrap64 (Int.tdiv x16 2)))) < (x11.length : Int) then ((spec_chChoose.f k x10 x16).bind fun t130 => (spec_chTable.l2 k x1 x2 x7 x10 (x11.set ((wrap64 ((wrap64 ((wrap64 ((wrap64 (x14 + x16)) * x7)) + x15)) + (wrap64 (Int.tdiv x16 2)))) : Int).toNat (wrap64 ((rd x11 (wrap64 ((wrap64 ((wrap64 ((wrap64 (x14 + x16)) * x7)) + x15)) + (wrap64 (Int.tdiv x16 2))))) + (wrap64 (x13 * t130))))) x13 x14 x15 (wrap64 (x16 + 1)) x26 x27 x28 x36 x37 x38)) else (none)) else (none))) else (spec_chTable.l1 k x1 x2 x7 x10 x11 x26 x27 x28 x36 x37 (wrap64 (x38 + 1)))
end
def spec_chTable.f (k : Nat) (l0 : List Int) (a1 : Int) (a2 : Int) : Option (List Int) := if 0 ≤ (wrap64 ((wrap64 (a1 + 1)) * (wrap64 (a1 + 1)))) then (if (wrap64 ((wrap64 (a1 + 1)) * (wrap64 (a1 + 1))) : Int).toNat ≤ 35184372088832 then ((some (List.replicate (wrap64 ((wrap64 (a1 + 1)) * (wrap64 (a1 + 1))) : Int).toNat 0 : List Int)).bind fun y113 => (if 0 < (y113.length : Int) then (spec_chTable.l0 k a1 a2 (wrap64 (a1 + 1)) (y113.set (0 : Int).toNat 1) l0 (l0.length : Int) 0) else (none))) else (none)) else (none)
theorem spec_chTable.mono_l : ∀ k, (∀ y0 y1 y2 y3 y4 y5 y6, LeO (spec_chTable.l0 k y0 y1 y2 y3 y4 y5 y6) (spec_chTable.l0 (k + 1) y0 y1 y2 y3 y4 y5 y6)) ∧ (∀ y0 y1 y2 y3 y4 y5 y6 y7 y8 y9 y10, LeO (spec_chTable.l1 k y0 y1 y2 y3 y4 y5 y6 y7 y8 y9 y10) (spec_chTable.l1 (k + 1) y0 y1 y2 y3 y4 y5 y6 y7 y8 y9 y10)) ∧ (∀ y0 y1 y2 y3 y4 y5 y6 y7 y8 y9 y10 y11 y12 y13 y14, LeO (spec_chTable.l2 k y0 y1 y2 y3 y4 y5 y6 y7 y8 y9 y10 y11 y12 y13 y14) (spec_chTable.l2 (k + 1) y0 y1 y2 y3 y4 y5 y6 y7 y8 y9 y10 y11 y12 y13 y14)) ∧ (∀ y0 y1 y2 y3 y4 y5 y6 y7 y8 y9 y10 y11 y12 y13 y14 y15, LeO (spec_chTable.j3 k y0 y1 y2 y3 y4 y5 y6 y7 y8 y9 y10 y11 y12 y13 y14 y15) (spec_chTable.j3 (k + 1) y0 y1 y2 y3 y4 y5 y6 y7 y8 y9 y10 y11 y12 y13 y14 y15))
  | 0 => ⟨fun _ _ _ _ _ _ _ r h => by simp [spec_chTable.l0] at h, fun _ _ _ _ _ _ _ _ _ _ _ r h => by simp [spec_chTable.l1] at h, fun _ _ _ _ _ _ _ _ _ _ _ _ _ _ _ r h => by simp [spec_chTable.l2] at h, fun _ _ _ _ _ _ _ _ _ _ _ _ _ _ _ _ r h => by simp [spec_chTable.j3] at h⟩
  | k + 1 => by
    obtain ⟨ih0, ih1, ih2, ih3⟩ := spec_chTable.mono_l k
    refine ⟨?_, ?_, ?_, ?_⟩
    · intro y0 y1 y2 y3 y4 y5 y6
      unfold spec_chTable.l0
      repeat' first
      | (with_reducible exact ih0 _ _ _ _ _ _ _)
      | (with_reducible exact ih1 _ _ _ _ _ _ _ _ _ _ _)
      | (with_reducible exact ih2 _ _ _ _ _ _ _ _ _ _ _ _ _ _ _)
      | (with_reducible exact ih3 _ _ _ _ _ _ _ _ _ _ _ _ _ _ _ _)
      | (with_reducible exact spec_chChoose.mono _ _ _)
      | (with_reducible exact LeO.refl _)
      | (with_reducible exact LeO.none _)
      | (with_reducible refine LeO.ite ?_ ?_)
      | (with_reducible refine LeO.bind ?_ (fun _ => ?_))
      | exact ih0 _ _ _ _ _ _ _
      | exact ih1 _ _ _ _ _ _ _ _ _ _ _
      | exact ih2 _ _ _ _ _ _ _ _ _ _ _ _ _ _ _
      | exact ih3 _ _ _ _ _ _ _ _ _ _ _ _ _ _ _ _
      | exact spec_chChoose.mono _ _ _
      | exact LeO.none _
      | refine LeO.ite ?_ ?_
      | refine LeO.bind ?_ (fun _ => ?_)
    · intro y0 y1 y2 y3 y4 y5 y6 y7 y8 y9 y10
      unfold spec_chTable.l1
      repeat' first
      | (with_reducible exact ih0 _ _ _ _ _ _ _)
      | (with_reducible exact ih1 _ _ _ _ _ _ _ _ _ _ _)
      | (with_reducible exact ih2 _ _ _ _ _ _ _ _ _ _ _ _ _ _ _)
      | (with_reducible exact ih3 _ _ _ _ _ _ _ _ _ _ _ _ _ _ _ _)
      | (with_reducible exact spec_chChoose.mono _ _ _)
      | (with_reducible exact LeO.refl _)
      | (with_reducible exact LeO.none _)
      | (with_reducible refine LeO.ite ?_ ?_)
      | (with_reducible refine LeO.bind ?_ (fun _ => ?_))
      | exact ih0 _ _ _ _ _ _ _
      | exact ih1 _ _ _ _ _ _ _ _ _ _ _
      | exact ih2 _ _ _ _ _ _ _ _ _ _ _ _ _ _ _
      | exact ih3 _ _ _ _ _ _ _ _ _ _ _ _ _ _ _ _
      | exact spec_chChoose.mono _ _ _
      | exact LeO.none _
      | refine LeO.ite ?_ ?_
      | refine LeO.bind ?_ (fun _ => ?_)
    · intro y0 y1 y2 y3 y4 y5 y6 y7 y8 y9 y10 y11 y12 y13 y14
      unfold spec_chTable.l2
      repeat' first
      | (with_reducible exact ih0 _ _ _ _ _ _ _)
      | (with_reducible exact ih1 _ _ _ _ _ _ _ _ _ _ _)
      | (with_reducible exact ih2 _ _ _ _ _ _ _ _ _ _ _ _ _ _ _)
      | (with_reducible exact ih3 _ _ _ _ _ _ _ _ _ _ _ _ _ _ _ _)
      | (with_reducible exact spec_chChoose.mono _ _ _)
      | (with_reducible exact LeO.refl _)
      | (with_reducible exact LeO.none _)
      | (with_reducible refine LeO.ite ?_ ?_)
      | (with_reducible refine LeO.bind ?_ (fun _ => ?_))
      | exact ih0 _ _ _ _ _ _ _
      | exact ih1 _ _ _ _ _ _ _ _ _ _ _
      | exact ih2 _ _ _ _ _ _ _ _ _ _ _ _ _ _ _
      | exact ih3 _ _ _ _ _ _ _ _ _ _ _ _ _ _ _ _
      | exact spec_chChoose.mono _ _ _
      | exact LeO.none _
      | refine LeO.ite ?_ ?_
      | refine LeO.bind ?_ (fun _ => ?_)
    · intro y0 y1 y2 y3 y4 y5 y6 y7 y8 y9 y10 y11 y12 y13 y14 y15
      unfold spec_chTable.j3
      repeat' first
      | (with_reducible exact ih0 _ _ _ _ _ _ _)
      | (with_reducible exact ih1 _ _ _ _ _ _ _ _ _ _ _)
      | (with_reducible exact ih2 _ _ _ _ _ _ _ _ _ _ _ _ _ _ _)
      | (with_reducible exact ih3 _ _ _ _ _ _ _ _ _ _ _ _ _ _ _ _)
      | (with_reducible exact spec_chChoose.mono _ _ _)
      | (with_reducible exact LeO.refl _)
      | (with_reducible exact LeO.none _)
      | (with_reducible refine LeO.ite ?_ ?_)
      | (with_reducible refine LeO.bind ?_ (fun _ => ?_))
      | exact ih0 _ _ _ _ _ _ _
      | exact ih1 _ _ _ _ _ _ _ _ _ _ _
      | exact ih2 _ _ _ _ _ _ _ _ _ _ _ _ _ _ _
      | exact ih3 _ _ _ _ _ _ _ _ _ _ _ _ _ _ _ _
      | exact spec_chChoose.mono _ _ _
      | exact LeO.none _
      | refine LeO.ite ?_ ?_
      | refine LeO.bind ?_ (fun _ => ?_)
theorem spec_chTable.mono : ∀ a0 a1 a2 k, LeO (spec_chTable.f k a0 a1 a2) (spec_chTable.f (k + 1) a0 a1 a2) := by
  intro a0 a1 a2 k
  obtain ⟨ih0, ih1, ih2, ih3⟩ := spec_chTable.mono_l k
  unfold spec_chTable.f
  repeat' first
      | (with_reducible exact ih0 _ _ _ _ _ _ _)
      | (with_reducible exact ih1 _ _ _ _ _ _ _ _ _ _ _)
      | (with_reducible exact ih2 _ _ _ _ _ _ _ _ _ _ _ _ _ _ _)
      | (with_reducible exact ih3 _ _ _ _ _ _ _ _ _ _ _ _ _ _ _ _)
      | (with_reducible exact spec_chChoose.mono _ _ _)
      | (with_reducible exact LeO.refl _)
      | (with_reducible exact LeO.none _)
      | (with_reducible refine LeO.ite ?_ ?_)
      | (with_reducible refine LeO.bind ?_ (fun _ => ?_))
      | exact ih0 _ _ _ _ _ _ _
      | exact ih1 _ _ _ _ _ _ _ _ _ _ _
      | exact ih2 _ _ _ _ _ _ _ _ _ _ _ _ _ _ _
      | exact ih3 _ _ _ _ _ _ _ _ _ _ _ _ _ _ _ _
      | exact spec_chChoose.mono _ _ _
      | exact LeO.none _
      | refine LeO.ite ?_ ?_
      | refine LeO.bind ?_ (fun _ => ?_)
def spec_chTable.T12 : Bool × List (List Nat × List Nat) := (true, [([], []), ([], []), ([0, 1], [0, 1]), ([], []), ([], []), ([3, 4], [3, 4]), ([2, 0, 1, 2], [2]), ([5, 6, 0, 1, 2, 3, 4, 5, 6], [5])])
def spec_chTable.B12 : List Nat := [0, 0, 3, 0, 0, 24, 7, 127]
theorem spec_chTable.tab12 : rtab .any (opsOf Try.f34 12) = spec_chTable.T12 := by kernel_rfl
theorem spec_chTable.bits12 : waitsOk spec_chTable.T12.2 spec_chTable.B12 = true := by kernel_rfl
def spec_chTable.T19 : Bool × List (List Nat × List Nat) := (true, [([], []), ([], []), ([], []), ([1, 2], [1, 2]), ([], []), ([3, 4], [3, 4]), ([], []), ([5, 6], [5, 6]), ([], []), ([7, 8], [7, 8]), ([0, 9], [0, 9]), ([10], [10]), ([], []), ([], []), ([], []), ([13, 14], [13, 14]), ([12, 15], [12, 15]), ([11, 16], [11, 16]), ([0, 9, 0, 1, 2, 3, 4, 5, 6, 7, 8, 9, 10, 11, 12, 13, 14, 15, 16, 17], [0, 9]), ([18, 17, 15, 0, 1, 2, 3, 4, 5, 6, 7, 8, 9, 10, 11, 12, 13, 14, 15, 16, 17], [17, 18])])
def spec_chTable.B19 : List Nat := [0, 0, 0, 6, 0, 30, 0, 126, 0, 510, 1023, 2047, 0, 0, 0, 24576, 61440, 131071, 262143, 524287]
theorem spec_chTable.tab19 : rtab .any (opsOf Try.f34 19) = spec_chTable.T19 := by kernel_rfl
theorem spec_chTable.bits19 : waitsOk spec_chTable.T19.2 spec_chTable.B19 = true := by kernel_rfl
set_option maxHeartbeats 8000000 in
set_option maxRecDepth 100000 in
theorem spec_chTable.calls (k : Nat) (A0 : Option Addr) (c0 : Nat) (l0 : List Int) (a1 : Int) (a2 : Int) (r : List Int) (w : World) (hr0 : Kd.C (Kd.int .i64) w A0 l0.length l0) (hc0 : l0.length ≤ c0) (h : spec_chTable.f k l0 a1 a2 = some r) :
    Calls Try.prog 34 #[.slice A0 l0.length c0, .int .i64 a1, .int .u8 a2] w fun e w' => ∃ v0_ : Value, e = .returned (v0_) ∧ Kd.Q (Kd.int .i64) 3 w' w.heap.size (fun _ => True) v0_ r ∧ Below w.heap.size w w' := by
  have HR0 := Aside0.mk hr0
  have HC0 := Aside0.mk hc0
  clear hr0 hc0
  have HB := Aside0.mk (Below.refl w.heap.size w)
  have H : (if 0 ≤ (wrap64 ((wrap64 (a1 + 1)) * (wrap64 (a1 + 1)))) then (if (wrap64 ((wrap64 (a1 + 1)) * (wrap64 (a1 + 1))) : Int).toNat ≤ 35184372088832 then ((some (List.replicate (wrap64 ((wrap64 (a1 + 1)) * (wrap64 (a1 + 1))) : Int).toNat 0 : List Int)).bind fun y113 => (if 0 < (y113.length : Int) then (spec_chTable.l0 k a1 a2 (wrap64 (a1 + 1)) (y113.set (0 : Int).toNat 1) l0 (l0.length : Int) 0) else (none))) else (none)) else (none)) = some r := h
  clear h
  obtain ⟨ji4, hji4⟩ : ∃ j_ : Int, (wrap64 ((wrap64 (a1 + 1)) * (wrap64 (a1 + 1)))) = j_ := ⟨_, rfl⟩
  replace H : (if 0 ≤ (ji4) then (if (ji4 : Int).toNat ≤ 35184372088832 then ((some (List.replicate (ji4 : Int).toNat 0 : List Int)).bind fun y113 => (if 0 < (y113.length : Int) then (spec_chTable.l0 k a1 a2 (wrap64 (a1 + 1)) (y113.set (0 : Int).toNat 1) l0 (l0.length : Int) 0) else (none))) else (none)) else (none)) = some r := by first | (rw [hji4] at H; exact H) | (simp only [hji4] at H ⊢; exact H)
  have hji4w : (IntKind.i64.wrap ((wrap64 (a1 + 1)) * (wrap64 (a1 + 1)))) = ji4 := (i64_w _).trans hji4
  by_cases c5 : 0 ≤ (ji4)
  · rw [if_pos c5] at H
    have c5b0 := eq_true c5
    have c5b1 : decide (0 ≤ (ji4)) = true := decide_eq_true c5
    clear c5
    by_cases c6 : (ji4 : Int).toNat ≤ 35184372088832
    · rw [if_pos c6] at H
      have c6b0 := eq_true c6
      have c6b1 : decide ((ji4 : Int).toNat ≤ 35184372088832) = true := decide_eq_true c6
      clear c6
      obtain ⟨y113, hy113⟩ : ∃ y_ : List Int, y_ = (List.replicate (ji4 : Int).toNat 0) := ⟨_, rfl⟩
      replace H : (if 0 < (y113.length : Int) then (spec_chTable.l0 k a1 a2 (wrap64 (a1 + 1)) (y113.set (0 : Int).toNat 1) l0 (l0.length : Int) 0) else (none)) = some r := by first | (rw [hy113]; with_reducible exact H) | (have H2_ := (Option.bind_some _ _).symm.trans H; rw [hy113]; with_reducible exact H2_) | (have H2_ := (Option.bind_some _ _).symm.trans H; with_reducible exact H2_) | with_reducible exact H | (rw [hy113]; exact H) | exact H
      have Ny113 := Aside0.mk hy113
      clear hy113
      by_cases c7 : 0 < (y113.length : Int)
      · rw [if_pos c7] at H
        have c7b0 : decide (0 < (y113.length : Int)) = true := decide_eq_true c7
        have c7b1 : decide (0 < y113.length) = true := decide_eq_true (by omega)
        clear c7
        obtain ⟨y116, hy116⟩ : ∃ y_ : List Int, y_ = (y113.set (0 : Int).toNat 1) := ⟨_, rfl⟩
        replace H : (spec_chTable.l0 k a1 a2 (wrap64 (a1 + 1)) y116 l0 (l0.length : Int) 0) = some r := by first | (rw [hy116]; with_reducible exact H) | (have H2_ := (Option.bind_some _ _).symm.trans H; rw [hy116]; with_reducible exact H2_) | (have H2_ := (Option.bind_some _ _).symm.trans H; with_reducible exact H2_) | with_reducible exact H | (rw [hy116]; exact H) | exact H
        have Ny116 := Aside0.mk hy116
        clear hy116
        have H' := Aside0.mk H
        clear H
        go_enter Try.func34, Try.ntmps34
        go_wp2_with (first | ((with_reducible refine gate_dst (N := 23) rfl ?_); refine Kd.R_make (Kd.int .i64) _ 3 rfl (N := 23) rfl 22 _ _ rfl ji4 rfl rfl Try.underlying22 (.int .i64 0) 8 info3 rfl (by decide) (by omega) 0 (ok := fun _ => True) (okp := fun _ => True) rfl (fun _ hk => hk) trivial (of_decide_eq_true (by first | (with_reducible assumption) | assumption)) (Nat.le_trans (Nat.mul_le_mul_right _ (of_decide_eq_true (by first | (with_reducible assumption) | assumption) : ji4.toNat ≤ 35184372088832)) (by omega)) (Below.refl _ _) (Nat.le_refl _) ?_; intro v114 w9 ho10 hb hg_ hnew_; clear hg_ hnew_; (first | rw [← Ny113.out] at ho10 | (simp only [Int.reduceToNat] at ho10; rw [← Ny113.out] at ho10)); have n0_ := Aside0.mk (Kd.R_lower ho10 (below_size (by repeat (first | (with_reducible first | exact HB.out | apply below_alloc | apply pw_below_drewN | apply below_drew1) | exact HB.out)))); have n1_ := Aside0.mk (below_step (by repeat (first | (with_reducible first | exact HB.out | apply below_alloc | apply pw_below_drewN | apply below_drew1) | exact HB.out)) hb); clear HB; have HO115 := n0_; have HB := n1_; clear n0_ n1_; clear hb ho10; have p8 : 0 ≤ (0 : Int) := (by omega); have q8 : (0 : Int) < ((y113.length : Int) : Int) := of_decide_eq_true (by first | (with_reducible assumption) | assumption); have qi8 : (0 < y113.length) = True := eq_true (by omega); obtain ⟨go8, co8, eo8, gb8, gl8, cl8, HG8⟩ := Kd.R_form HO115.out (by omega); (first | cases eo8 | (injection eo8 with ea_ en_ ec_; (first | subst ea_ | (injection ea_ with ea_; subst ea_)); subst ec_; clear en_)); have GB8 := Aside0.mk gb8; have GG8 := Aside0.mk HG8; clear gb8 gl8 HG8; obtain ⟨hx8_0, hf8_0⟩ := Kd.R_celln 0 HO115.out (0 : Int) p8 q8; (try rw [show ((0 : Int)).toNat = 0 from rfl] at hx8_0); (try simp only [Nat.reduceMul, Nat.zero_mul, Nat.zero_add, Nat.reduceAdd] at hx8_0); (try rw [show ((0 : Int)).toNat = 0 from rfl] at hf8_0); (try simp only [Nat.reduceMul, Nat.zero_mul, Nat.zero_add, Nat.reduceAdd] at hf8_0); replace p8 := eq_true p8; replace q8 := eq_true q8; obtain ⟨hy11_, hz11_⟩ := Kd.R_celln 0 HO115.out (0 : Int) (by omega) (of_decide_eq_true (by first | (with_reducible assumption) | assumption)); (try simp only [Int.reduceToNat, Int.toNat_zero, Int.toNat_ofNat, Nat.reduceMul, Nat.zero_mul, Nat.zero_add] at hy11_ hz11_); (try rw [show ((0 : Int)).toNat = 0 from rfl] at hy11_); (try rw [show ((0 : Int)).toNat = 0 from rfl] at hz11_); have HP11 := Kd.R_putg HO115.out (0 : Int) 1) | ((with_reducible refine gate_store (t := 3) (p := 25) rfl ?_); refine store_event (t := 3) (p := 25) (v := ?vo_w12) (w1 := (w9.setCell ⟨go8, (0 : Int).toNat, none⟩ (.int .i64 1))) ?hg ?ho ?hn ?hr ?_; (case ho => rfl); (case hg => rfl); (case hn => rfl); (case hr => first | (go_simp; done) | (go_simp; rfl)); intro w12 hw; have hg : w9.grownBy w12 (some go8) := (by rw [hw]; exact HP11.2); have hp_ : Kd.R (Kd.int .i64) 3 w12 w.heap.size (fun _ => True) (.slice (some ⟨go8, 0, none⟩) y113.length co8) y116 := (by rw [hw, Ny116.out]; exact HP11.1); clear HP11; have n0_ := Aside0.mk (hp_); have n1_ := Aside0.mk ((by rw [hw]; exact below_set (HB.out) GB8.out : Below w.heap.size w w12)); clear HO115; clear HB; have HO115 := n0_; have HB := n1_; clear n0_ n1_; clear hg hw hp_))
        go_loopg [8, 28] k (fun kq v8 v28 w' => ∃ (x8_1 : List Int) (x28_1 : Int), v28 = .int .i64 x28_1 ∧ Aside0 (spec_chTable.l0 kq a1 a2 (wrap64 (a1 + 1)) x8_1 l0 (l0.length : Int) x28_1 = some r) ∧ Aside0 (kq ≤ k) ∧ Aside0 (Kd.R (Kd.int .i64) 3 w' w.heap.size (fun _ => True) v8 x8_1) ∧ Aside0 (Below w.heap.size w w'))
        case atStart => exact ⟨(y116), (0), (by first | rfl | (simp; done) | (simp [*]; done)), H', ⟨Nat.le_refl _⟩, ⟨by (with_reducible repeat (first | apply Kd.R_alloc | apply Kd.R_drewN | apply Kd.R_drew)); exact HO115.out⟩, ⟨by repeat (first | (with_reducible first | exact HB.out | apply below_alloc | apply pw_below_drewN | apply below_drew1) | exact HB.out)⟩⟩
        case round =>
          clear H'
          try clear p2
          try clear c3
          try clear c5
          try clear c5b0
          try clear c5b1
          try clear c6
          try clear c6b0
          try clear c6b1
          try clear p6
          try clear c7
          try clear c7b0
          try clear c7b1
          try clear p8
          try clear q8
          try clear hx8
          try clear qi8
          try clear hf8
          try clear hx8_0
          try clear p8
          try clear q8
          obtain ⟨x8_1, x28_1, rfl, HA, HK1, HO_8, HB⟩ := hrel
          cases gk with
          | zero => exact absurd HA.out (by simp [spec_chTable.l0])
          | succ k1 =>
            have H := HA.out
            clear HA
            simp only [spec_chTable.l0] at H
            by_cases c13 : x28_1 < (l0.length : Int)
            · rw [if_pos c13] at H
              have c13b0 : decide (x28_1 < (l0.length : Int)) = true := decide_eq_true c13
              clear c13
              by_cases c14 : 0 ≤ x28_1
              · rw [if_pos c14] at H
                have c14b0 : decide (0 ≤ x28_1) = true := decide_eq_true c14
                clear c14
                by_cases c15 : x28_1 < (l0.length : Int)
                · rw [if_pos c15] at H
                  have c15b0 : decide (x28_1 < (l0.length : Int)) = true := decide_eq_true c15
                  clear c15
                  obtain ⟨ji16, hji16⟩ : ∃ j_ : Int, (wrap64 ((wrap64 (a1 + 1)) * (wrap64 (a1 + 1)))) = j_ := ⟨_, rfl⟩
                  replace H : (if 0 ≤ (ji16) then (if (ji16 : Int).toNat ≤ 35184372088832 then (spec_chTable.l1 k1 a1 a2 (wrap64 (a1 + 1)) (rd l0 x28_1) (List.replicate (ji16 : Int).toNat 0) l0 (l0.length : Int) x28_1 x8_1 (x8_1.length : Int) 0) else (none)) else (none)) = some r := by first | (rw [hji16] at H; exact H) | (simp only [hji16] at H ⊢; exact H)
                  have hji16w : (IntKind.i64.wrap ((wrap64 (a1 + 1)) * (wrap64 (a1 + 1)))) = ji16 := (i64_w _).trans hji16
                  try clear hji4w
                  try clear hji4
                  by_cases c17 : 0 ≤ (ji16)
                  · rw [if_pos c17] at H
                    have c17b0 := eq_true c17
                    have c17b1 : decide (0 ≤ (ji16)) = true := decide_eq_true c17
                    clear c17
                    by_cases c18 : (ji16 : Int).toNat ≤ 35184372088832
                    · rw [if_pos c18] at H
                      have c18b0 := eq_true c18
                      have c18b1 : decide ((ji16 : Int).toNat ≤ 35184372088832) = true := decide_eq_true c18
                      clear c18
                      obtain ⟨y121, hy121⟩ : ∃ y_ : List Int, y_ = (List.replicate (ji16 : Int).toNat 0) := ⟨_, rfl⟩
                      replace H : (spec_chTable.l1 k1 a1 a2 (wrap64 (a1 + 1)) (rd l0 x28_1) y121 l0 (l0.length : Int) x28_1 x8_1 (x8_1.length : Int) 0) = some r := by first | (rw [hy121]; with_reducible exact H) | (have H2_ := (Option.bind_some _ _).symm.trans H; rw [hy121]; with_reducible exact H2_) | (have H2_ := (Option.bind_some _ _).symm.trans H; with_reducible exact H2_) | with_reducible exact H | (rw [hy121]; exact H) | exact H
                      have Ny121 := Aside0.mk hy121
                      clear hy121
                      have H' := Aside0.mk H
                      clear H
                      have p120 : 0 ≤ (x28_1 : Int) := of_decide_eq_true (by first | (with_reducible assumption) | assumption)
                      have q120 : x28_1 < (l0.length : Int) := of_decide_eq_true (by first | (with_reducible assumption) | assumption)
                      obtain ⟨ad120, e120, hx120_0⟩ := Kd.at_int HR0.out x28_1 p120 q120
                      cases e120
                      replace hx120_0 := (HB.out.cell (World.block_lt_of_cell? w _ hx120_0)).trans hx120_0
                      replace p120 := eq_true p120
                      replace q120 := eq_true q120
                      go_wp2_with (first | ((with_reducible refine gate_dst (N := 35) rfl ?_); refine Kd.R_make (Kd.int .i64) _ 3 rfl (N := 35) rfl 22 _ _ rfl ji16 rfl rfl Try.underlying22 (.int .i64 0) 8 info3 rfl (by decide) (by omega) 0 (ok := fun _ => True) (okp := fun _ => True) rfl (fun _ hk => hk) trivial (of_decide_eq_true (by first | (with_reducible assumption) | assumption)) (Nat.le_trans (Nat.mul_le_mul_right _ (of_decide_eq_true (by first | (with_reducible assumption) | assumption) : ji16.toNat ≤ 35184372088832)) (by omega)) (Below.refl _ _) (Nat.le_refl _) ?_; intro v122 w19 ho20 hb hg_ hnew_; clear hg_ hnew_; (first | rw [← Ny121.out] at ho20 | (simp only [Int.reduceToNat] at ho20; rw [← Ny121.out] at ho20)); have n0_ := Aside0.mk (Kd.R_elder' (by (with_reducible repeat (first | apply Kd.R_alloc | apply Kd.R_drewN | apply Kd.R_drew)); exact HO_8.out) (Kd.R_base ho20) hb); have n1_ := Aside0.mk (Kd.R_lower (Kd.R_new' ho20 (Kd.R_lt (by (with_reducible repeat (first | apply Kd.R_alloc | apply Kd.R_drewN | apply Kd.R_drew)); exact HO_8.out))) (below_size (by repeat (first | (with_reducible first | exact HB.out | apply below_alloc | apply pw_below_drewN | apply below_drew1) | exact HB.out)))); have n2_ := Aside0.mk (below_step (by repeat (first | (with_reducible first | exact HB.out | apply below_alloc | apply pw_below_drewN | apply below_drew1) | exact HB.out)) hb); clear HO_8; clear HB; have HO_8 := n0_; have HO123 := n1_; have HB := n2_; clear n0_ n1_ n2_; clear hb ho20; obtain ⟨Ao21, co21, eo21⟩ := Kd.R_slice HO_8.out; subst eo21))
                      go_loopg [38] k1 (fun kq v38 w' => ∃ (x11_2 : List Int) (x38_2 : Int), v38 = .int .i64 x38_2 ∧ Aside0 (spec_chTable.l1 kq a1 a2 (wrap64 (a1 + 1)) (rd l0 x28_1) x11_2 l0 (l0.length : Int) x28_1 x8_1 (x8_1.length : Int) x38_2 = some r) ∧ Aside0 (kq ≤ k1) ∧ Aside0 (Kd.R (Kd.int .i64) 3 w' w.heap.size (fun k_ => some k_ ≠ ((.slice Ao21 x8_1.length co21) : Value).ownBlock) v122 x11_2) ∧ Aside0 (Kd.R (Kd.int .i64) 3 w' w.heap.size (fun k_ => some k_ ≠ (v122 : Value).ownBlock) (.slice Ao21 x8_1.length co21) x8_1) ∧ Aside0 (Below w.heap.size w w'))
                      case atStart => exact ⟨(y121), (0), (by first | rfl | (simp; done) | (simp [*]; done)), H', ⟨Nat.le_refl _⟩, ⟨by (with_reducible repeat (first | apply Kd.R_alloc | apply Kd.R_drewN | apply Kd.R_drew)); exact Kd.R_mono HO123.out (fun _ hk => hk.2)⟩, ⟨by (with_reducible repeat (first | apply Kd.R_alloc | apply Kd.R_drewN | apply Kd.R_drew)); exact Kd.R_mono HO_8.out (fun _ hk => hk.2)⟩, ⟨by repeat (first | (with_reducible first | exact HB.out | apply below_alloc | apply pw_below_drewN | apply below_drew1) | exact HB.out)⟩⟩
                      case round =>
                        clear H'
                        try clear c1
                        try clear p1
                        try clear q1
                        try clear hx1
                        try clear p2
                        try clear c3
                        try clear c5
                        try clear c5b0
                        try clear c5b1
                        try clear c6
                        try clear c6b0
                        try clear c6b1
                        try clear p6
                        try clear c7
                        try clear c7b0
                        try clear c7b1
                        try clear p8
                        try clear q8
                        try clear hx8
                        try clear qi8
                        try clear hf8
                        try clear p12
                        try clear q12
                        try clear hx12
                        try clear c13
                        try clear c13b0
                        try clear c14
                        try clear c14b0
                        try clear c15
                        try clear c15b0
                        try clear c17
                        try clear c17b0
                        try clear c17b1
                        try clear c18
                        try clear c18b0
                        try clear c18b1
                        try clear hx120_0
                        try clear hx8_0
                        try clear p120
                        try clear p2
                        try clear p6
                        try clear p8
                        try clear q120
                        try clear q8
                        obtain ⟨x11_2, x38_2, rfl, HA, HK2, HO_11, HO_36, HB⟩ := hrel
                        cases gk with
                        | zero => exact absurd HA.out (by simp [spec_chTable.l1])
                        | succ k2 =>
                          have H := HA.out
                          clear HA
                          simp only [spec_chTable.l1] at H
                          by_cases c22 : x38_2 < (x8_1.length : Int)
                          · rw [if_pos c22] at H
                            have c22b0 : decide (x38_2 < (x8_1.length : Int)) = true := decide_eq_true c22
                            clear c22
                            by_cases c23 : 0 ≤ x38_2
                            · rw [if_pos c23] at H
                              have c23b0 : decide (0 ≤ x38_2) = true := decide_eq_true c23
                              clear c23
                              by_cases c24 : x38_2 < (x8_1.length : Int)
                              · rw [if_pos c24] at H
                                have c24b0 : decide (x38_2 < (x8_1.length : Int)) = true := decide_eq_true c24
                                clear c24
                                by_cases c25 : (rd x8_1 x38_2) = 0
                                · rw [if_pos c25] at H
                                  have c25b0 : ((rd x8_1 x38_2) == 0) = true := beq_iff_eq.mpr c25
                                  have c25b1 : ((rd x8_1 x38_2) != 0) = false := bne_eq_false_iff_eq.mpr c25
                                  clear c25
                                  have H' := Aside0.mk H
                                  clear H
                                  have p124 : 0 ≤ (x38_2 : Int) := of_decide_eq_true (by first | (with_reducible assumption) | assumption)
                                  have q124 : x38_2 < (x8_1.length : Int) := of_decide_eq_true (by first | (with_reducible assumption) | assumption)
                                  obtain ⟨ad124, e124, hx124_0⟩ := Kd.at_int (Kd.R_reads' HO_36.out).2.2 x38_2 p124 q124
                                  cases e124
                                  replace p124 := eq_true p124
                                  replace q124 := eq_true q124
                                  go_wp2
                                  go_roundg k2
                                  case measure => have := HK1.out; have := HK2.out; omega
                                  case rel => exact ⟨(x11_2), (wrap64 (x38_2 + 1)), (by first | rfl | (simp; done) | (simp [*]; done)), H', ⟨by have := HK1.out; have := HK2.out; omega⟩, ⟨by (with_reducible repeat (first | apply Kd.R_alloc | apply Kd.R_drewN | apply Kd.R_drew)); exact HO_11.out⟩, ⟨by (with_reducible repeat (first | apply Kd.R_alloc | apply Kd.R_drewN | apply Kd.R_drew)); exact HO_36.out⟩, ⟨by repeat (first | (with_reducible first | exact HB.out | apply below_alloc | apply pw_below_drewN | apply below_drew1) | exact HB.out)⟩⟩
                                · rw [if_neg c25] at H
                                  have c25b0 : ((rd x8_1 x38_2) == 0) = false := beq_eq_false_iff_ne.mpr c25
                                  have c25b1 : ((rd x8_1 x38_2) != 0) = true := bne_iff_ne.mpr c25
                                  by_cases c26 : (wrap64 (a1 + 1)) = 0
                                  · rw [if_pos c26] at H
                                    exact absurd H (by simp)
                                  · rw [if_neg c26] at H
                                    have c26b0 : ((wrap64 (a1 + 1)) == 0) = false := beq_eq_false_iff_ne.mpr c26
                                    have c26b1 : ((wrap64 (a1 + 1)) != 0) = true := bne_iff_ne.mpr c26
                                    have H' := Aside0.mk H
                                    clear H
                                    have p124 : 0 ≤ (x38_2 : Int) := of_decide_eq_true (by first | (with_reducible assumption) | assumption)
                                    have q124 : x38_2 < (x8_1.length : Int) := of_decide_eq_true (by first | (with_reducible assumption) | assumption)
                                    obtain ⟨ad124, e124, hx124_0⟩ := Kd.at_int (Kd.R_reads' HO_36.out).2.2 x38_2 p124 q124
                                    cases e124
                                    replace p124 := eq_true p124
                                    replace q124 := eq_true q124
                                    try go_wp2
                                    have n0_ := Aside0.mk (Kd.R_drew HO_11.out)
                                    have n1_ := Aside0.mk (Kd.R_drew HO_36.out)
                                    have n2_ := Aside0.mk (below_drew1 HB.out)
                                    clear HO_11
                                    clear HO_36
                                    clear HB
                                    have HO_11 := n0_
                                    have HO_36 := n1_
                                    have HB := n2_
                                    clear n0_ n1_ n2_
                                    refine start_ (n := 8) (S := fun w' => True) (ds := []) #[false, false, false, false, false, false, false, false] (by kernel_rfl) rfl rfl trivial (fun hHeld => ?_); refine with_tabW spec_chTable.tab12 spec_chTable.bits12 (fun HT_ HW_ => ?_)
                                    generalize wr.drew = w27 at HO_11 HO_36 HB hHeld ⊢
                                    refine pure_ (i := 0) (N := some 45) (v := ?_) (a' := ?_) #[true, false, false, false, false, false, false, false] rfl rfl (any_of HT_.out (by kernel_rfl)) (fun _ _ _ h => h) (Or.inl ⟨by rfl, ?_⟩) ?_ ?_
                                    rotate_left
                                    · intro w'
                                      go_simp
                                      with_reducible rfl
                                    rotate_left
                                    · simp only [Act.put, List.setIfInBounds_toArray, List.set_cons_zero, List.set_cons_succ, i64_w, i32_w]
                                      rfl
                                    refine pure_ (i := 1) (N := some 46) (v := ?_) (a' := ?_) #[true, true, false, false, false, false, false, false] rfl rfl (any_of HT_.out (by kernel_rfl)) (fun _ _ _ h => h) (Or.inl ⟨by rfl, ?_⟩) ?_ ?_
                                    rotate_left
                                    · intro w'
                                      go_simp
                                      with_reducible rfl
                                    rotate_left
                                    · simp only [Act.put, List.setIfInBounds_toArray, List.set_cons_zero, List.set_cons_succ, i64_w, i32_w]
                                      rfl
                                    refine pure_ (i := 2) (N := some 47) (v := ?_) (a' := ?_) #[true, true, true, false, false, false, false, false] rfl rfl (any_of HT_.out (by kernel_rfl)) (fun _ _ _ h => h) (Or.inl ⟨by rfl, ?_⟩) ?_ ?_
                                    rotate_left
                                    · intro w'
                                      go_simp
                                      with_reducible rfl
                                    rotate_left
                                    · simp only [Act.put, List.setIfInBounds_toArray, List.set_cons_zero, List.set_cons_succ, i64_w, i32_w]
                                      rfl
                                    refine pure_ (i := 3) (N := some 48) (v := ?_) (a' := ?_) #[true, true, true, true, false, false, false, false] rfl rfl (any_of HT_.out (by kernel_rfl)) (fun _ _ _ h => h) (Or.inl ⟨by rfl, ?_⟩) ?_ ?_
                                    rotate_left
                                    · intro w'
                                      go_simp
                                      with_reducible rfl
                                    rotate_left
                                    · simp only [Act.put, List.setIfInBounds_toArray, List.set_cons_zero, List.set_cons_succ, i64_w, i32_w]
                                      rfl
                                    refine pure_ (i := 4) (N := some 49) (v := ?_) (a' := ?_) #[true, true, true, true, true, false, false, false] rfl rfl (any_of HT_.out (by kernel_rfl)) (fun _ _ _ h => h) (Or.inl ⟨by rfl, ?_⟩) ?_ ?_
                                    rotate_left
                                    · intro w'
                                      go_simp
                                      with_reducible rfl
                                    rotate_left
                                    · simp only [Act.put, List.setIfInBounds_toArray, List.set_cons_zero, List.set_cons_succ, i64_w, i32_w]
                                      rfl
                                    refine pure_ (i := 5) (N := some 50) (v := ?_) (a' := ?_) #[true, true, true, true, true, true, false, false] rfl rfl (any_of HT_.out (by kernel_rfl)) (fun _ _ _ h => h) (Or.inl ⟨by rfl, ?_⟩) ?_ ?_
                                    rotate_left
                                    · intro w'
                                      go_simp
                                      with_reducible rfl
                                    rotate_left
                                    · simp only [Act.put, List.setIfInBounds_toArray, List.set_cons_zero, List.set_cons_succ, i64_w, i32_w]
                                      rfl
                                    refine pure_ (i := 6) (N := some 14) (v := ?_) (a' := ?_) #[true, true, true, true, true, true, true, false] rfl rfl (any_of HT_.out (by kernel_rfl)) (fun _ _ _ h => h) (Or.inl ⟨by rfl, ?_⟩) ?_ ?_
                                    rotate_left
                                    · intro w'
                                      go_simp
                                      with_reducible rfl
                                    rotate_left
                                    · simp only [Act.put, List.setIfInBounds_toArray, List.set_cons_zero, List.set_cons_succ, i64_w, i32_w]
                                      rfl
                                    refine pure_ (i := 7) (N := some 15) (v := ?_) (a' := ?_) #[true, true, true, true, true, true, true, true] rfl rfl (any_of HT_.out (by kernel_rfl)) (fun _ _ _ h => h) (Or.inl ⟨by rfl, ?_⟩) ?_ ?_
                                    rotate_left
                                    · intro w'
                                      go_simp
                                      with_reducible rfl
                                    rotate_left
                                    · simp only [Act.put, List.setIfInBounds_toArray, List.set_cons_zero, List.set_cons_succ, i64_w, i32_w]
                                      rfl
                                    refine done_ (done_of HT_.out (by kernel_rfl)) ?_
                                    try go_wp2
                                    go_loopg [16] k2 (fun kq v16 w' => ∃ (x11_3 : List Int) (x16_3 : Int), v16 = .int .i64 x16_3 ∧ Aside0 (spec_chTable.l2 kq a1 a2 (wrap64 (a1 + 1)) (rd l0 x28_1) x11_3 (rd x8_1 x38_2) (wrap64 (Int.tdiv x38_2 (wrap64 (a1 + 1)))) (Int.tmod x38_2 (wrap64 (a1 + 1))) x16_3 l0 (l0.length : Int) x28_1 x8_1 (x8_1.length : Int) x38_2 = some r) ∧ Aside0 (kq ≤ k2) ∧ Aside0 (Kd.R (Kd.int .i64) 3 w' w.heap.size (fun k_ => some k_ ≠ ((.slice (some ad124) x8_1.length co21) : Value).ownBlock) v122 x11_3) ∧ Aside0 (Kd.R (Kd.int .i64) 3 w' w.heap.size (fun k_ => some k_ ≠ (v122 : Value).ownBlock) (.slice (some ad124) x8_1.length co21) x8_1) ∧ Aside0 (Below w.heap.size w w'))
                                    case atStart => exact ⟨(x11_2), (0), (by first | rfl | (simp; done) | (simp [*]; done)), H', ⟨Nat.le_refl _⟩, ⟨by (with_reducible repeat (first | apply Kd.R_alloc | apply Kd.R_drewN | apply Kd.R_drew)); exact HO_11.out⟩, ⟨by (with_reducible repeat (first | apply Kd.R_alloc | apply Kd.R_drewN | apply Kd.R_drew)); exact HO_36.out⟩, ⟨by repeat (first | (with_reducible first | exact HB.out | apply below_alloc | apply pw_below_drewN | apply below_drew1) | exact HB.out)⟩⟩
                                    case round =>
                                      clear H'
                                      try clear c1
                                      try clear p1
                                      try clear q1
                                      try clear hx1
                                      try clear c2
                                      try clear p2
                                      try clear c3
                                      try clear c5
                                      try clear c5b0
                                      try clear c5b1
                                      try clear c6
                                      try clear c6b0
                                      try clear c6b1
                                      try clear p6
                                      try clear c7
                                      try clear c7b0
                                      try clear c7b1
                                      try clear p8
                                      try clear q8
                                      try clear hx8
                                      try clear qi8
                                      try clear hf8
                                      try clear p12
                                      try clear q12
                                      try clear hx12
                                      try clear c13
                                      try clear c13b0
                                      try clear c14
                                      try clear c14b0
                                      try clear c15
                                      try clear c15b0
                                      try clear c17
                                      try clear c17b0
                                      try clear c17b1
                                      try clear c18
                                      try clear c18b0
                                      try clear c18b1
                                      try clear c22
                                      try clear c22b0
                                      try clear c23
                                      try clear c23b0
                                      try clear c24
                                      try clear c24b0
                                      try clear c25
                                      try clear c25b0
                                      try clear c25b1
                                      try clear c26
                                      try clear c26b0
                                      try clear c26b1
                                      try clear hx120_0
                                      try clear hx124_0
                                      try clear hx8_0
                                      try clear p1
                                      try clear p12
                                      try clear p120
                                      try clear p124
                                      try clear p2
                                      try clear p6
                                      try clear p8
                                      try clear q1
                                      try clear q12
                                      try clear q120
                                      try clear q124
                                      try clear q8
                                      obtain ⟨x11_3, x16_3, rfl, HA, HK3, HO_11, HO_36, HB⟩ := hrel
                                      cases gk with
                                      | zero => exact absurd HA.out (by simp [spec_chTable.l2])
                                      | succ k3 =>
                                        have H := HA.out
                                        clear HA
                                        simp only [spec_chTable.l2] at H
                                        have HC28 := Aside0.mk H
                                        clear H
                                        go_upto_region 14 with (fail)
                                        go_cut [60] (fun v60 wc => ∃ (kq : Nat) (x60_27 : Bool), v60 = .bool x60_27 ∧ Aside0 (spec_chTable.j3 kq a1 a2 (wrap64 (a1 + 1)) (rd l0 x28_1) x11_3 (rd x8_1 x38_2) (wrap64 (Int.tdiv x38_2 (wrap64 (a1 + 1)))) (Int.tmod x38_2 (wrap64 (a1 + 1))) x16_3 l0 (l0.length : Int) x28_1 x8_1 (x8_1.length : Int) x38_2 x60_27 = some r) ∧ Aside0 (kq ≤ k3) ∧ Aside0 (Kd.R (Kd.int .i64) 3 wc w.heap.size (fun k_ => some k_ ≠ ((.slice (some ad124) x8_1.length co21) : Value).ownBlock) v122 x11_3) ∧ Aside0 (Kd.R (Kd.int .i64) 3 wc w.heap.size (fun k_ => some k_ ≠ (v122 : Value).ownBlock) (.slice (some ad124) x8_1.length co21) x8_1) ∧ Aside0 (Below w.heap.size w wc))
                                        case first =>
                                          have H := HC28.out
                                          clear HC28
                                          by_cases c29 : x16_3 ≤ (rd l0 x28_1)
                                          · rw [if_pos c29] at H
                                            have c29b0 : decide (x16_3 ≤ (rd l0 x28_1)) = true := decide_eq_true c29
                                            clear c29
                                            (first | rw [c29b0] | (simp only [i64_w, i32_w]; rw [c29b0]) | skip)
                                            have H' := Aside0.mk H
                                            clear H
                                            go_wp2
                                            go_meet
                                            case rel => exact ⟨_, (decide ((wrap64 ((wrap64 (Int.tdiv x38_2 (wrap64 (a1 + 1)))) + x16_3)) ≤ a1)), (by first | rfl | (simp; done) | (simp [*]; done)), H', ⟨by have := HK1.out; have := HK2.out; have := HK3.out; first | omega | exact Nat.le_refl _⟩, ⟨by (with_reducible repeat (first | apply Kd.R_alloc | apply Kd.R_drewN | apply Kd.R_drew)); exact HO_11.out⟩, ⟨by (with_reducible repeat (first | apply Kd.R_alloc | apply Kd.R_drewN | apply Kd.R_drew)); exact HO_36.out⟩, ⟨by repeat (first | (with_reducible first | exact HB.out | apply below_alloc | apply pw_below_drewN | apply below_drew1) | exact HB.out)⟩⟩
                                          · rw [if_neg c29] at H
                                            have c29b0 : decide (x16_3 ≤ (rd l0 x28_1)) = false := decide_eq_false c29
                                            clear c29
                                            (first | rw [c29b0] | (simp only [i64_w, i32_w]; rw [c29b0]) | skip)
                                            have H' := Aside0.mk H
                                            clear H
                                            go_wp2
                                            go_meet
                                            case rel => exact ⟨_, (false), (by first | rfl | (simp; done) | (simp [*]; done)), H', ⟨by have := HK1.out; have := HK2.out; have := HK3.out; first | omega | exact Nat.le_refl _⟩, ⟨by (with_reducible repeat (first | apply Kd.R_alloc | apply Kd.R_drewN | apply Kd.R_drew)); exact HO_11.out⟩, ⟨by (with_reducible repeat (first | apply Kd.R_alloc | apply Kd.R_drewN | apply Kd.R_drew)); exact HO_36.out⟩, ⟨by repeat (first | (with_reducible first | exact HB.out | apply below_alloc | apply pw_below_drewN | apply below_drew1) | exact HB.out)⟩⟩
                                        case rest =>
                                          clear HC28
                                          try clear c1
                                          try clear p1
                                          try clear q1
                                          try clear hx1
                                          try clear c2
                                          try clear p2
                                          try clear c3
                                          try clear c5
                                          try clear c5b0
                                          try clear c5b1
                                          try clear c6
                                          try clear c6b0
                                          try clear c6b1
                                          try clear p6
                                          try clear c7
                                          try clear c7b0
                                          try clear c7b1
                                          try clear p8
                                          try clear q8
                                          try clear hx8
                                          try clear qi8
                                          try clear hf8
                                          try clear p12
                                          try clear q12
                                          try clear hx12
                                          try clear c13
                                          try clear c13b0
                                          try clear c14
                                          try clear c14b0
                                          try clear c15
                                          try clear c15b0
                                          try clear c17
                                          try clear c17b0
                                          try clear c17b1
                                          try clear c18
                                          try clear c18b0
                                          try clear c18b1
                                          try clear c22
                                          try clear c22b0
                                          try clear c23
                                          try clear c23b0
                                          try clear c24
                                          try clear c24b0
                                          try clear c25
                                          try clear c25b0
                                          try clear c25b1
                                          try clear c26
                                          try clear c26b0
                                          try clear c26b1
                                          try clear c29
                                          try clear c29b0
                                          try clear hx120_0
                                          try clear hx124_0
                                          try clear hx8_0
                                          try clear p1
                                          try clear p12
                                          try clear p120
                                          try clear p124
                                          try clear p2
                                          try clear p6
                                          try clear p8
                                          try clear q1
                                          try clear q12
                                          try clear q120
                                          try clear q124
                                          try clear q8
                                          obtain ⟨kq, x60_27, rfl, HA, HJ27, HO_11, HO_36, HB⟩ := hcut
                                          cases kq with
                                          | zero => exact absurd HA.out (by simp [spec_chTable.j3])
                                          | succ kj27 =>
                                            have H := HA.out
                                            clear HA
                                            simp only [spec_chTable.j3] at H
                                            by_cases c30 : x60_27 = true
                                            · subst c30
                                              have H1 : (if a2 = 99 then ((spec_l1Least.f x16_3 1).bind fun t125 => (if 0 ≤ (wrap64 ((wrap64 ((wrap64 ((wrap64 ((wrap64 (Int.tdiv x38_2 (wrap64 (a1 + 1)))) + x16_3)) * (wrap64 (a1 + 1)))) + (Int.tmod x38_2 (wrap64 (a1 + 1))))) + t125)) then (if (wrap64 ((wrap64 ((wrap64 ((wrap64 ((wrap64 (Int.tdiv x38_2 (wrap64 (a1 + 1)))) + x16_3)) * (wrap64 (a1 + 1)))) + (Int.tmod x38_2 (wrap64 (a1 + 1))))) + t125)) < (x11_3.length : Int) then ((spec_chChoose.f kj27 (rd l0 x28_1) x16_3).bind fun t127 => (spec_chTable.l2 kj27 a1 a2 (wrap64 (a1 + 1)) (rd l0 x28_1) (x11_3.set ((wrap64 ((wrap64 ((wrap64 ((wrap64 ((wrap64 (Int.tdiv x38_2 (wrap64 (a1 + 1)))) + x16_3)) * (wrap64 (a1 + 1)))) + (Int.tmod x38_2 (wrap64 (a1 + 1))))) + t125)) : Int).toNat (wrap64 ((rd x11_3 (wrap64 ((wrap64 ((wrap64 ((wrap64 ((wrap64 (Int.tdiv x38_2 (wrap64 (a1 + 1)))) + x16_3)) * (wrap64 (a1 + 1)))) + (Int.tmod x38_2 (wrap64 (a1 + 1))))) + t125))) + (wrap64 ((rd x8_1 x38_2) * t127))))) (rd x8_1 x38_2) (wrap64 (Int.tdiv x38_2 (wrap64 (a1 + 1)))) (Int.tmod x38_2 (wrap64 (a1 + 1))) (wrap64 (x16_3 + 1)) l0 (l0.length : Int) x28_1 x8_1 (x8_1.length : Int) x38_2)) else (none)) else (none))) else (if 0 ≤ (wrap64 ((wrap64 ((wrap64 ((wrap64 ((wrap64 (Int.tdiv x38_2 (wrap64 (a1 + 1)))) + x16_3)) * (wrap64 (a1 + 1)))) + (Int.tmod x38_2 (wrap64 (a1 + 1))))) + (wrap64 (Int.tdiv x16_3 2)))) then (if (wrap64 ((wrap64 ((wrap64 ((wrap64 ((wrap64 (Int.tdiv x38_2 (wrap64 (a1 + 1)))) + x16_3)) * (wrap64 (a1 + 1)))) + (Int.tmod x38_2 (wrap64 (a1 + 1))))) + (wrap64 (Int.tdiv x16_3 2)))) < (x11_3.length : Int) then ((spec_chChoose.f kj27 (rd l0 x28_1) x16_3).bind fun t130 => (spec_chTable.l2 kj27 a1 a2 (wrap64 (a1 + 1)) (rd l0 x28_1) (x11_3.set ((wrap64 ((wrap64 ((wrap64 ((wrap64 ((wrap64 (Int.tdiv x38_2 (wrap64 (a1 + 1)))) + x16_3)) * (wrap64 (a1 + 1)))) + (Int.tmod x38_2 (wrap64 (a1 + 1))))) + (wrap64 (Int.tdiv x16_3 2)))) : Int).toNat (wrap64 ((rd x11_3 (wrap64 ((wrap64 ((wrap64 ((wrap64 ((wrap64 (Int.tdiv x38_2 (wrap64 (a1 + 1)))) + x16_3)) * (wrap64 (a1 + 1)))) + (Int.tmod x38_2 (wrap64 (a1 + 1))))) + (wrap64 (Int.tdiv x16_3 2))))) + (wrap64 ((rd x8_1 x38_2) * t130))))) (rd x8_1 x38_2) (wrap64 (Int.tdiv x38_2 (wrap64 (a1 + 1)))) (Int.tmod x38_2 (wrap64 (a1 + 1))) (wrap64 (x16_3 + 1)) l0 (l0.length : Int) x28_1 x8_1 (x8_1.length : Int) x38_2)) else (none)) else (none))) = some r := by rw [if_pos rfl] at H; exact H
                                              clear H
                                              have H := H1
                                              clear H1
                                              by_cases c31 : a2 = 99
                                              · rw [if_pos c31] at H
                                                have c31b0 : (a2 == 99) = true := beq_iff_eq.mpr c31
                                                have c31b1 : (a2 != 99) = false := bne_eq_false_iff_eq.mpr c31
                                                clear c31
                                                replace H := Option.bind_eq_some_iff.mp H
                                                obtain ⟨t125, A320, H⟩ := H
                                                replace H : (if 0 ≤ (wrap64 ((wrap64 ((wrap64 ((wrap64 ((wrap64 (Int.tdiv x38_2 (wrap64 (a1 + 1)))) + x16_3)) * (wrap64 (a1 + 1)))) + (Int.tmod x38_2 (wrap64 (a1 + 1))))) + t125)) then (if (wrap64 ((wrap64 ((wrap64 ((wrap64 ((wrap64 (Int.tdiv x38_2 (wrap64 (a1 + 1)))) + x16_3)) * (wrap64 (a1 + 1)))) + (Int.tmod x38_2 (wrap64 (a1 + 1))))) + t125)) < (x11_3.length : Int) then ((spec_chChoose.f kj27 (rd l0 x28_1) x16_3).bind fun t127 => (spec_chTable.l2 kj27 a1 a2 (wrap64 (a1 + 1)) (rd l0 x28_1) (x11_3.set ((wrap64 ((wrap64 ((wrap64 ((wrap64 ((wrap64 (Int.tdiv x38_2 (wrap64 (a1 + 1)))) + x16_3)) * (wrap64 (a1 + 1)))) + (Int.tmod x38_2 (wrap64 (a1 + 1))))) + t125)) : Int).toNat (wrap64 ((rd x11_3 (wrap64 ((wrap64 ((wrap64 ((wrap64 ((wrap64 (Int.tdiv x38_2 (wrap64 (a1 + 1)))) + x16_3)) * (wrap64 (a1 + 1)))) + (Int.tmod x38_2 (wrap64 (a1 + 1))))) + t125))) + (wrap64 ((rd x8_1 x38_2) * t127))))) (rd x8_1 x38_2) (wrap64 (Int.tdiv x38_2 (wrap64 (a1 + 1)))) (Int.tmod x38_2 (wrap64 (a1 + 1))) (wrap64 (x16_3 + 1)) l0 (l0.length : Int) x28_1 x8_1 (x8_1.length : Int) x38_2)) else (none)) else (none)) = some r := H
                                                have A32 := Aside0.mk A320
                                                clear A320
                                                obtain ⟨ji33, hji33⟩ : ∃ j_ : Int, (wrap64 ((wrap64 ((wrap64 ((wrap64 ((wrap64 (Int.tdiv x38_2 (wrap64 (a1 + 1)))) + x16_3)) * (wrap64 (a1 + 1)))) + (Int.tmod x38_2 (wrap64 (a1 + 1))))) + t125)) = j_ := ⟨_, rfl⟩
                                                replace H : (if 0 ≤ (ji33) then (if (ji33) < (x11_3.length : Int) then ((spec_chChoose.f kj27 (rd l0 x28_1) x16_3).bind fun t127 => (spec_chTable.l2 kj27 a1 a2 (wrap64 (a1 + 1)) (rd l0 x28_1) (x11_3.set ((ji33) : Int).toNat (wrap64 ((rd x11_3 (ji33)) + (wrap64 ((rd x8_1 x38_2) * t127))))) (rd x8_1 x38_2) (wrap64 (Int.tdiv x38_2 (wrap64 (a1 + 1)))) (Int.tmod x38_2 (wrap64 (a1 + 1))) (wrap64 (x16_3 + 1)) l0 (l0.length : Int) x28_1 x8_1 (x8_1.length : Int) x38_2)) else (none)) else (none)) = some r := by first | (rw [hji33] at H; exact H) | (simp only [hji33] at H ⊢; exact H)
                                                (try rw [hji33] at A32)
                                                have hji33w : (IntKind.i64.wrap ((wrap64 ((wrap64 ((wrap64 ((wrap64 (Int.tdiv x38_2 (wrap64 (a1 + 1)))) + x16_3)) * (wrap64 (a1 + 1)))) + (Int.tmod x38_2 (wrap64 (a1 + 1))))) + t125)) = ji33 := (i64_w _).trans hji33
                                                by_cases c34 : 0 ≤ (ji33)
                                                · rw [if_pos c34] at H
                                                  have c34b0 : decide (0 ≤ (ji33)) = true := decide_eq_true c34
                                                  clear c34
                                                  by_cases c35 : (ji33) < (x11_3.length : Int)
                                                  · rw [if_pos c35] at H
                                                    have c35b0 : decide ((ji33) < (x11_3.length : Int)) = true := decide_eq_true c35
                                                    clear c35
                                                    replace H := Option.bind_eq_some_iff.mp H
                                                    obtain ⟨t127, A360, H⟩ := H
                                                    replace H : (spec_chTable.l2 kj27 a1 a2 (wrap64 (a1 + 1)) (rd l0 x28_1) (x11_3.set ((ji33) : Int).toNat (wrap64 ((rd x11_3 (ji33)) + (wrap64 ((rd x8_1 x38_2) * t127))))) (rd x8_1 x38_2) (wrap64 (Int.tdiv x38_2 (wrap64 (a1 + 1)))) (Int.tmod x38_2 (wrap64 (a1 + 1))) (wrap64 (x16_3 + 1)) l0 (l0.length : Int) x28_1 x8_1 (x8_1.length : Int) x38_2) = some r := H
                                                    have A36 := Aside0.mk A360
                                                    clear A360
                                                    obtain ⟨y128, hy128⟩ : ∃ y_ : List Int, y_ = (x11_3.set ((ji33) : Int).toNat (wrap64 ((rd x11_3 (ji33)) + (wrap64 ((rd x8_1 x38_2) * t127))))) := ⟨_, rfl⟩
                                                    replace H : (spec_chTable.l2 kj27 a1 a2 (wrap64 (a1 + 1)) (rd l0 x28_1) y128 (rd x8_1 x38_2) (wrap64 (Int.tdiv x38_2 (wrap64 (a1 + 1)))) (Int.tmod x38_2 (wrap64 (a1 + 1))) (wrap64 (x16_3 + 1)) l0 (l0.length : Int) x28_1 x8_1 (x8_1.length : Int) x38_2) = some r := by first | (rw [hy128]; with_reducible exact H) | (have H2_ := (Option.bind_some _ _).symm.trans H; rw [hy128]; with_reducible exact H2_) | (have H2_ := (Option.bind_some _ _).symm.trans H; with_reducible exact H2_) | with_reducible exact H | (rw [hy128]; exact H) | exact H
                                                    have Ny128 := Aside0.mk hy128
                                                    clear hy128
                                                    have H' := Aside0.mk H
                                                    clear H
                                                    try go_wp2_with (first | ((with_reducible refine gate_callee (f := 58) rfl ?_); refine goesL_ (some 68) rfl rfl Try.func58 (by kernel_rfl) rfl #[.int .i64 x16_3, .int .i64 1] rfl (by (try simp only [List.map_toArray, List.map_cons, List.map_nil]); first | done | rfl | (simp only [List.length_drop, List.length_take]; rfl)) ?_; (with_reducible refine (spec_l1Least.calls x16_3 1 t125 _ A32.out).mono ?_); rintro e w' ⟨rfl, ⟨nd, rfl⟩⟩; refine ⟨_, rfl, ?_⟩; (try (rw [drewN_self wc]; generalize hq_ : World.drewN wc _ = wc; have n0_ : Aside0 (Kd.R (Kd.int .i64) 3 wc w.heap.size (fun k_ => some k_ ≠ (.slice (some ad124) x8_1.length co21 : Value).ownBlock) v122 x11_3) := ⟨by rw [← hq_]; exact (by (with_reducible repeat (first | apply Kd.R_alloc | apply Kd.R_drewN | apply Kd.R_drew)); exact HO_11.out)⟩; have n1_ : Aside0 (Kd.R (Kd.int .i64) 3 wc w.heap.size (fun k_ => some k_ ≠ (v122 : Value).ownBlock) (.slice (some ad124) x8_1.length co21) x8_1) := ⟨by rw [← hq_]; exact (by (with_reducible repeat (first | apply Kd.R_alloc | apply Kd.R_drewN | apply Kd.R_drew)); exact HO_36.out)⟩; have n2_ : Aside0 (Below w.heap.size w wc) := ⟨by rw [← hq_]; exact (by repeat (first | (with_reducible first | exact HB.out | apply below_alloc | apply pw_below_drewN | apply below_drew1) | exact HB.out))⟩; clear HO_11 HO_36 HB hq_; have HO_11 := n0_; have HO_36 := n1_; have HB := n2_; clear n0_ n1_ n2_))))
                                                    have n0_ := Aside0.mk (Kd.R_drew HO_11.out)
                                                    have n1_ := Aside0.mk (Kd.R_drew HO_36.out)
                                                    have n2_ := Aside0.mk (below_drew1 HB.out)
                                                    clear HO_11
                                                    clear HO_36
                                                    clear HB
                                                    have HO_11 := n0_
                                                    have HO_36 := n1_
                                                    have HB := n2_
                                                    clear n0_ n1_ n2_
                                                    obtain ⟨Ao39, co39, eo39⟩ := Kd.R_slice HO_11.out
                                                    (first | subst eo39 | (injection eo39 with f1_ f2_ f3_; have f4_ := f1_.symm; have f5_ := f3_.symm; clear f1_ f2_ f3_; subst f4_; subst f5_))
                                                    have p126 : 0 ≤ ((ji33) : Int) := of_decide_eq_true (by first | (with_reducible assumption) | assumption)
                                                    have q126 : (ji33) < (x11_3.length : Int) := of_decide_eq_true (by first | (with_reducible assumption) | assumption)
                                                    obtain ⟨ad126, e126, hx126_0⟩ := Kd.at_int (Kd.R_reads' HO_11.out).2.2 (ji33) p126 q126
                                                    cases e126
                                                    replace p126 := eq_true p126
                                                    replace q126 := eq_true q126
                                                    refine start_ (n := 20) (S := fun w' => w'.cell? (ad126.add ((ji33)).toNat) = some (.int .i64 (rd x11_3 (ji33)))) (ds := [19]) #[false, false, false, false, false, false, false, false, false, false, false, false, false, false, false, false, false, false, false, false] (by kernel_rfl) rfl rfl (hx126_0) (fun hHeld => ?_); refine with_tabW spec_chTable.tab19 spec_chTable.bits19 (fun HT_ HW_ => ?_)
                                                    generalize wc.drew = w38 at HO_11 HO_36 HB hx126_0 hHeld ⊢
                                                    refine pure_ (i := 0) (N := some 69) (v := ?_) (a' := ?_) #[true, false, false, false, false, false, false, false, false, false, false, false, false, false, false, false, false, false, false, false] rfl rfl (any_of HT_.out (by kernel_rfl)) (fun _ _ _ h => h) (Or.inl ⟨by rfl, ?_⟩) ?_ ?_
                                                    rotate_left
                                                    · intro w'
                                                      go_simp
                                                      with_reducible rfl
                                                    rotate_left
                                                    · simp only [Act.put, List.setIfInBounds_toArray, List.set_cons_zero, List.set_cons_succ, i64_w, i32_w]
                                                      rfl
                                                    refine pure_ (i := 1) (N := some 70) (v := ?_) (a' := ?_) #[true, true, false, false, false, false, false, false, false, false, false, false, false, false, false, false, false, false, false, false] rfl rfl (any_of HT_.out (by kernel_rfl)) (fun _ _ _ h => h) (Or.inl ⟨by rfl, ?_⟩) ?_ ?_
                                                    rotate_left
                                                    · intro w'
                                                      go_simp
                                                      with_reducible rfl
                                                    rotate_left
                                                    · simp only [Act.put, List.setIfInBounds_toArray, List.set_cons_zero, List.set_cons_succ, i64_w, i32_w]
                                                      rfl
                                                    refine pure_ (i := 2) (N := some 71) (v := ?_) (a' := ?_) #[true, true, true, false, false, false, false, false, false, false, false, false, false, false, false, false, false, false, false, false] rfl rfl (any_of HT_.out (by kernel_rfl)) (fun _ _ _ h => h) (Or.inl ⟨by rfl, ?_⟩) ?_ ?_
                                                    rotate_left
                                                    · intro w'
                                                      go_simp
                                                      with_reducible rfl
                                                    rotate_left
                                                    · simp only [Act.put, List.setIfInBounds_toArray, List.set_cons_zero, List.set_cons_succ, i64_w, i32_w]
                                                      rfl
                                                    refine pure_ (i := 3) (N := some 72) (v := ?_) (a' := ?_) #[true, true, true, true, false, false, false, false, false, false, false, false, false, false, false, false, false, false, false, false] rfl rfl (any_of HT_.out (by kernel_rfl)) (fun _ _ _ h => h) (Or.inl ⟨by rfl, ?_⟩) ?_ ?_
                                                    rotate_left
                                                    · intro w'
                                                      go_simp
                                                      with_reducible rfl
                                                    rotate_left
                                                    · simp only [Act.put, List.setIfInBounds_toArray, List.set_cons_zero, List.set_cons_succ, i64_w, i32_w]
                                                      rfl
                                                    refine pure_ (i := 4) (N := some 73) (v := ?_) (a' := ?_) #[true, true, true, true, true, false, false, false, false, false, false, false, false, false, false, false, false, false, false, false] rfl rfl (any_of HT_.out (by kernel_rfl)) (fun _ _ _ h => h) (Or.inl ⟨by rfl, ?_⟩) ?_ ?_
                                                    rotate_left
                                                    · intro w'
                                                      go_simp
                                                      with_reducible rfl
                                                    rotate_left
                                                    · simp only [Act.put, List.setIfInBounds_toArray, List.set_cons_zero, List.set_cons_succ, i64_w, i32_w]
                                                      rfl
                                                    refine pure_ (i := 5) (N := some 74) (v := ?_) (a' := ?_) #[true, true, true, true, true, true, false, false, false, false, false, false, false, false, false, false, false, false, false, false] rfl rfl (any_of HT_.out (by kernel_rfl)) (fun _ _ _ h => h) (Or.inl ⟨by rfl, ?_⟩) ?_ ?_
                                                    rotate_left
                                                    · intro w'
                                                      go_simp
                                                      with_reducible rfl
                                                    rotate_left
                                                    · simp only [Act.put, List.setIfInBounds_toArray, List.set_cons_zero, List.set_cons_succ, i64_w, i32_w]
                                                      rfl
                                                    refine pure_ (i := 6) (N := some 75) (v := ?_) (a' := ?_) #[true, true, true, true, true, true, true, false, false, false, false, false, false, false, false, false, false, false, false, false] rfl rfl (any_of HT_.out (by kernel_rfl)) (fun _ _ _ h => h) (Or.inl ⟨by rfl, ?_⟩) ?_ ?_
                                                    rotate_left
                                                    · intro w'
                                                      go_simp
                                                      with_reducible rfl
                                                    rotate_left
                                                    · simp only [Act.put, List.setIfInBounds_toArray, List.set_cons_zero, List.set_cons_succ, i64_w, i32_w]
                                                      rfl
                                                    refine pure_ (i := 7) (N := some 76) (v := ?_) (a' := ?_) #[true, true, true, true, true, true, true, true, false, false, false, false, false, false, false, false, false, false, false, false] rfl rfl (any_of HT_.out (by kernel_rfl)) (fun _ _ _ h => h) (Or.inl ⟨by rfl, ?_⟩) ?_ ?_
                                                    rotate_left
                                                    · intro w'
                                                      go_simp
                                                      with_reducible rfl
                                                    rotate_left
                                                    · simp only [Act.put, List.setIfInBounds_toArray, List.set_cons_zero, List.set_cons_succ, i64_w, i32_w]
                                                      rfl
                                                    refine pure_ (i := 8) (N := some 77) (v := ?_) (a' := ?_) #[true, true, true, true, true, true, true, true, true, false, false, false, false, false, false, false, false, false, false, false] rfl rfl (any_of HT_.out (by kernel_rfl)) (fun _ _ _ h => h) (Or.inl ⟨by rfl, ?_⟩) ?_ ?_
                                                    rotate_left
                                                    · intro w'
                                                      go_simp
                                                      with_reducible rfl
                                                    rotate_left
                                                    · simp only [Act.put, List.setIfInBounds_toArray, List.set_cons_zero, List.set_cons_succ, i64_w, i32_w]
                                                      rfl
                                                    refine pure_ (i := 9) (N := some 78) (v := ?_) (a' := ?_) #[true, true, true, true, true, true, true, true, true, true, false, false, false, false, false, false, false, false, false, false] rfl rfl (any_of HT_.out (by kernel_rfl)) (fun _ _ _ h => h) (Or.inl ⟨by rfl, ?_⟩) ?_ ?_
                                                    rotate_left
                                                    · intro w'
                                                      go_simp
                                                      with_reducible rfl
                                                    rotate_left
                                                    · simp only [Act.put, List.setIfInBounds_toArray, List.set_cons_zero, List.set_cons_succ, i64_w, i32_w]
                                                      rfl
                                                    refine pure_ (i := 10) (N := some 79) (v := ?_) (a' := ?_) #[true, true, true, true, true, true, true, true, true, true, true, false, false, false, false, false, false, false, false, false] rfl rfl (any_of HT_.out (by kernel_rfl)) (fun _ _ _ h => h) (Or.inl ⟨by rfl, ?_⟩) ?_ ?_
                                                    rotate_left
                                                    · intro w'
                                                      go_simp
                                                      with_reducible rfl
                                                    rotate_left
                                                    · simp only [Act.put, List.setIfInBounds_toArray, List.set_cons_zero, List.set_cons_succ, i64_w, i32_w]
                                                      rfl
                                                    refine pure_ (i := 12) (N := some 81) (v := ?_) (a' := ?_) #[true, true, true, true, true, true, true, true, true, true, true, false, true, false, false, false, false, false, false, false] rfl rfl (any_of HT_.out (by kernel_rfl)) (fun _ _ _ h => h) (Or.inl ⟨by rfl, ?_⟩) ?_ ?_
                                                    rotate_left
                                                    · intro w'
                                                      go_simp
                                                      with_reducible rfl
                                                    rotate_left
                                                    · simp only [Act.put, List.setIfInBounds_toArray, List.set_cons_zero, List.set_cons_succ, i64_w, i32_w]
                                                      rfl
                                                    refine pure_ (i := 13) (N := some 82) (v := ?_) (a' := ?_) #[true, true, true, true, true, true, true, true, true, true, true, false, true, true, false, false, false, false, false, false] rfl rfl (any_of HT_.out (by kernel_rfl)) (fun _ _ _ h => h) (Or.inl ⟨by rfl, ?_⟩) ?_ ?_
                                                    rotate_left
                                                    · intro w'
                                                      go_simp
                                                      with_reducible rfl
                                                    rotate_left
                                                    · simp only [Act.put, List.setIfInBounds_toArray, List.set_cons_zero, List.set_cons_succ, i64_w, i32_w]
                                                      rfl
                                                    refine pure_ (i := 14) (N := some 83) (v := ?_) (a' := ?_) #[true, true, true, true, true, true, true, true, true, true, true, false, true, true, true, false, false, false, false, false] rfl rfl (any_of HT_.out (by kernel_rfl)) (fun _ _ _ h => h) (Or.inl ⟨by rfl, ?_⟩) ?_ ?_
                                                    rotate_left
                                                    · intro w'
                                                      go_simp
                                                      with_reducible rfl
                                                    rotate_left
                                                    · simp only [Act.put, List.setIfInBounds_toArray, List.set_cons_zero, List.set_cons_succ, i64_w, i32_w]
                                                      rfl
                                                    refine take_ (i := 11) (N := some 80) (v := ?_) (a' := ?_) #[true, true, true, true, true, true, true, true, true, true, true, true, true, true, true, false, false, false, false, false] rfl rfl (take_ofW HT_.out HW_.out (by kernel_rfl)) (fun _ _ _ h => h) (Or.inl ⟨by rfl, ?_⟩) hHeld ?_ ?_
                                                    rotate_left
                                                    · intro w' s0
                                                      go_simp
                                                      with_reducible rfl
                                                    rotate_left
                                                    · simp only [Act.put, List.setIfInBounds_toArray, List.set_cons_zero, List.set_cons_succ, i64_w, i32_w]
                                                      rfl
                                                    refine one_ (i := 15) (N := some 84) #[true, true, true, true, true, true, true, true, true, true, true, true, true, true, true, true, false, false, false, false] rfl rfl (one_of HT_.out (by kernel_rfl)) (by decide) (fun K hK => ?_)
                                                    refine goes_ Try.func35 (by kernel_rfl) rfl #[.int .i64 (rd l0 x28_1), .int .i64 x16_3] (by rfl) rfl rfl (by (try simp only [List.map_toArray, List.map_cons, List.map_nil]); first | done | rfl | (simp only [List.length_drop, List.length_take]; rfl)) ?_
                                                    with_reducible refine (spec_chChoose.calls kj27 (rd l0 x28_1) x16_3 t127 _ A36.out).mono ?_
                                                    rintro e w' ⟨rfl, ⟨nd, rfl⟩⟩
                                                    refine ⟨_, rfl, ?_⟩
                                                    have p37 : 0 ≤ ((ji33) : Int) := of_decide_eq_true (by first | (with_reducible assumption) | assumption)
                                                    have q37 : ((ji33) : Int) < ((x11_3.length : Int) : Int) := of_decide_eq_true (by first | (with_reducible assumption) | assumption)
                                                    obtain ⟨go37, co37, eo37, gb37, gl37, cl37, HG37⟩ := Kd.R_form HO_11.out (by omega)
                                                    (first | cases eo37 | (injection eo37 with ea_ en_ ec_; (first | subst ea_ | (injection ea_ with ea_; subst ea_)); subst ec_; clear en_))
                                                    have GB37 := Aside0.mk gb37
                                                    have GG37 := Aside0.mk HG37
                                                    clear gb37 gl37 HG37
                                                    (first | simp only [add_plain] at hx126_0 | skip)
                                                    obtain ⟨hx37_0, hf37_0⟩ := Kd.R_celln 0 HO_11.out ((ji33) : Int) p37 q37
                                                    replace p37 := eq_true p37
                                                    replace q37 := eq_true q37
                                                    have HP40 := Kd.R_putn HO_11.out ((ji33) : Int) (wrap64 ((rd x11_3 (ji33)) + (wrap64 ((rd x8_1 x38_2) * t127))))
                                                    rw [← Ny128.out] at HP40
                                                    have HQ40 := Aside0.mk HP40
                                                    clear HP40
                                                    refine hK.out _ _ (hHeld) (fun hHeld => ?_)
                                                    clear hK K
                                                    refine norm_ (a' := ?_) ?_ ?_
                                                    rotate_left
                                                    · show Act.put _ (some 84) _ = _
                                                      simp only [Act.put, List.setIfInBounds_toArray, List.set_cons_zero, List.set_cons_succ, i64_w, i32_w]
                                                      rfl
                                                    refine pure_ (i := 16) (N := some 85) (v := ?_) (a' := ?_) #[true, true, true, true, true, true, true, true, true, true, true, true, true, true, true, true, true, false, false, false] rfl rfl (any_of HT_.out (by kernel_rfl)) (fun _ _ _ h => h) (Or.inl ⟨by rfl, ?_⟩) ?_ ?_
                                                    rotate_left
                                                    · intro w'
                                                      go_simp
                                                      with_reducible rfl
                                                    rotate_left
                                                    · simp only [Act.put, List.setIfInBounds_toArray, List.set_cons_zero, List.set_cons_succ, i64_w, i32_w]
                                                      rfl
                                                    refine pure_ (i := 17) (N := some 86) (v := ?_) (a' := ?_) #[true, true, true, true, true, true, true, true, true, true, true, true, true, true, true, true, true, true, false, false] rfl rfl (any_of HT_.out (by kernel_rfl)) (fun _ _ _ h => h) (Or.inl ⟨by rfl, ?_⟩) ?_ ?_
                                                    rotate_left
                                                    · intro w'
                                                      go_simp
                                                      with_reducible rfl
                                                    rotate_left
                                                    · simp only [Act.put, List.setIfInBounds_toArray, List.set_cons_zero, List.set_cons_succ, i64_w, i32_w]
                                                      rfl
                                                    refine pure_ (i := 18) (N := some 87) (v := ?_) (a' := ?_) #[true, true, true, true, true, true, true, true, true, true, true, true, true, true, true, true, true, true, true, false] rfl rfl (any_of HT_.out (by kernel_rfl)) (fun _ _ _ h => h) (Or.inl ⟨by rfl, ?_⟩) ?_ ?_
                                                    rotate_left
                                                    · intro w'
                                                      go_simp
                                                      with_reducible rfl
                                                    rotate_left
                                                    · simp only [Act.put, List.setIfInBounds_toArray, List.set_cons_zero, List.set_cons_succ, i64_w, i32_w]
                                                      rfl
                                                    refine last_ (i := 19) (N := none) #[true, true, true, true, true, true, true, true, true, true, true, true, true, true, true, true, true, true, true, true] rfl rfl (one_of HT_.out (by kernel_rfl)) (by decide) (fun K hK => ?_)
                                                    refine skip_ (w1 := ?_) (by rfl) rfl ?_ ?_
                                                    rotate_left
                                                    · go_simp
                                                      rfl
                                                    refine hK.out _ _ ?_
                                                    clear hK K
                                                    refine done_ (done_of HT_.out (by kernel_rfl)) ?_
                                                    try go_wp2
                                                    go_roundg kj27
                                                    case measure => have := HK1.out; have := HK2.out; have := HK3.out; have := HJ27.out; omega
                                                    case rel => exact ⟨(y128), (wrap64 (x16_3 + 1)), (by first | rfl | (simp; done) | (simp [*]; done)), H', ⟨by have := HK1.out; have := HK2.out; have := HK3.out; have := HJ27.out; omega⟩, ⟨by (with_reducible repeat (first | apply Kd.R_alloc | apply Kd.R_drewN | apply Kd.R_drew)); exact HQ40.out⟩, ⟨by (with_reducible repeat (first | apply Kd.R_alloc | apply Kd.R_drewN | apply Kd.R_drew)); exact Kd.R_mono (Kd.R_far (p := ⟨go37, ((ji33) : Int).toNat, none⟩) (Kd.R_mono HO_36.out (fun k_ hk => (⟨hk, fun e_ => hk (by rw [e_]; rfl)⟩ : _ ∧ k_ ≠ go37))) (fun _ hk => hk.2) (.int .i64 (wrap64 ((rd x11_3 (ji33)) + (wrap64 ((rd x8_1 x38_2) * t127)))))) (fun _ hk => hk.1)⟩, ⟨by repeat (first | (with_reducible first | exact HB.out | apply below_alloc | apply pw_below_drewN | apply below_drew1 | refine below_set ?_ GB37.out) | exact HB.out)⟩⟩
                                                  · rw [if_neg c35] at H
                                                    exact absurd H (by simp)
                                                · rw [if_neg c34] at H
                                                  exact absurd H (by simp)
                                              · rw [if_neg c31] at H
                                                have c31b0 : (a2 == 99) = false := beq_eq_false_iff_ne.mpr c31
                                                have c31b1 : (a2 != 99) = true := bne_iff_ne.mpr c31
                                                obtain ⟨ji41, hji41⟩ : ∃ j_ : Int, (wrap64 ((wrap64 ((wrap64 ((wrap64 ((wrap64 (Int.tdiv x38_2 (wrap64 (a1 + 1)))) + x16_3)) * (wrap64 (a1 + 1)))) + (Int.tmod x38_2 (wrap64 (a1 + 1))))) + (wrap64 (Int.tdiv x16_3 2)))) = j_ := ⟨_, rfl⟩
                                                replace H : (if 0 ≤ (ji41) then (if (ji41) < (x11_3.length : Int) then ((spec_chChoose.f kj27 (rd l0 x28_1) x16_3).bind fun t130 => (spec_chTable.l2 kj27 a1 a2 (wrap64 (a1 + 1)) (rd l0 x28_1) (x11_3.set ((ji41) : Int).toNat (wrap64 ((rd x11_3 (ji41)) + (wrap64 ((rd x8_1 x38_2) * t130))))) (rd x8_1 x38_2) (wrap64 (Int.tdiv x38_2 (wrap64 (a1 + 1)))) (Int.tmod x38_2 (wrap64 (a1 + 1))) (wrap64 (x16_3 + 1)) l0 (l0.length : Int) x28_1 x8_1 (x8_1.length : Int) x38_2)) else (none)) else (none)) = some r := by first | (rw [hji41] at H; exact H) | (simp only [hji41] at H ⊢; exact H)
                                                have hji41w : (IntKind.i64.wrap ((wrap64 ((wrap64 ((wrap64 ((wrap64 (Int.tdiv x38_2 (wrap64 (a1 + 1)))) + x16_3)) * (wrap64 (a1 + 1)))) + (Int.tmod x38_2 (wrap64 (a1 + 1))))) + (wrap64 (Int.tdiv x16_3 2)))) = ji41 := (i64_w _).trans hji41
                                                by_cases c42 : 0 ≤ (ji41)
                                                · rw [if_pos c42] at H
                                                  have c42b0 : decide (0 ≤ (ji41)) = true := decide_eq_true c42
                                                  clear c42
                                                  by_cases c43 : (ji41) < (x11_3.length : Int)
                                                  · rw [if_pos c43] at H
                                                    have c43b0 : decide ((ji41) < (x11_3.length : Int)) = true := decide_eq_true c43
                                                    clear c43
                                                    replace H := Option.bind_eq_some_iff.mp H
                                                    obtain ⟨t130, A440, H⟩ := H
                                                    replace H : (spec_chTable.l2 kj27 a1 a2 (wrap64 (a1 + 1)) (rd l0 x28_1) (x11_3.set ((ji41) : Int).toNat (wrap64 ((rd x11_3 (ji41)) + (wrap64 ((rd x8_1 x38_2) * t130))))) (rd x8_1 x38_2) (wrap64 (Int.tdiv x38_2 (wrap64 (a1 + 1)))) (Int.tmod x38_2 (wrap64 (a1 + 1))) (wrap64 (x16_3 + 1)) l0 (l0.length : Int) x28_1 x8_1 (x8_1.length : Int) x38_2) = some r := H
                                                    have A44 := Aside0.mk A440
                                                    clear A440
                                                    obtain ⟨y131, hy131⟩ : ∃ y_ : List Int, y_ = (x11_3.set ((ji41) : Int).toNat (wrap64 ((rd x11_3 (ji41)) + (wrap64 ((rd x8_1 x38_2) * t130))))) := ⟨_, rfl⟩
                                                    replace H : (spec_chTable.l2 kj27 a1 a2 (wrap64 (a1 + 1)) (rd l0 x28_1) y131 (rd x8_1 x38_2) (wrap64 (Int.tdiv x38_2 (wrap64 (a1 + 1)))) (Int.tmod x38_2 (wrap64 (a1 + 1))) (wrap64 (x16_3 + 1)) l0 (l0.length : Int) x28_1 x8_1 (x8_1.length : Int) x38_2) = some r := by first | (rw [hy131]; with_reducible exact H) | (have H2_ := (Option.bind_some _ _).symm.trans H; rw [hy131]; with_reducible exact H2_) | (have H2_ := (Option.bind_some _ _).symm.trans H; with_reducible exact H2_) | with_reducible exact H | (rw [hy131]; exact H) | exact H
                                                    have Ny131 := Aside0.mk hy131
                                                    clear hy131
                                                    have H' := Aside0.mk H
                                                    clear H
                                                    try go_wp2
                                                    have n0_ := Aside0.mk (Kd.R_drew HO_11.out)
                                                    have n1_ := Aside0.mk (Kd.R_drew HO_36.out)
                                                    have n2_ := Aside0.mk (below_drew1 HB.out)
                                                    clear HO_11
                                                    clear HO_36
                                                    clear HB
                                                    have HO_11 := n0_
                                                    have HO_36 := n1_
                                                    have HB := n2_
                                                    clear n0_ n1_ n2_
                                                    obtain ⟨Ao47, co47, eo47⟩ := Kd.R_slice HO_11.out
                                                    (first | subst eo47 | (injection eo47 with f1_ f2_ f3_; have f4_ := f1_.symm; have f5_ := f3_.symm; clear f1_ f2_ f3_; subst f4_; subst f5_))
                                                    have p129 : 0 ≤ ((ji41) : Int) := of_decide_eq_true (by first | (with_reducible assumption) | assumption)
                                                    have q129 : (ji41) < (x11_3.length : Int) := of_decide_eq_true (by first | (with_reducible assumption) | assumption)
                                                    obtain ⟨ad129, e129, hx129_0⟩ := Kd.at_int (Kd.R_reads' HO_11.out).2.2 (ji41) p129 q129
                                                    cases e129
                                                    replace p129 := eq_true p129
                                                    replace q129 := eq_true q129
                                                    refine start_ (n := 20) (S := fun w' => w'.cell? (ad129.add ((ji41)).toNat) = some (.int .i64 (rd x11_3 (ji41)))) (ds := [19]) #[false, false, false, false, false, false, false, false, false, false, false, false, false, false, false, false, false, false, false, false] (by kernel_rfl) rfl rfl (hx129_0) (fun hHeld => ?_); refine with_tabW spec_chTable.tab19 spec_chTable.bits19 (fun HT_ HW_ => ?_)
                                                    generalize wc.drew = w46 at HO_11 HO_36 HB hx129_0 hHeld ⊢
                                                    refine pure_ (i := 0) (N := some 69) (v := ?_) (a' := ?_) #[true, false, false, false, false, false, false, false, false, false, false, false, false, false, false, false, false, false, false, false] rfl rfl (any_of HT_.out (by kernel_rfl)) (fun _ _ _ h => h) (Or.inl ⟨by rfl, ?_⟩) ?_ ?_
                                                    rotate_left
                                                    · intro w'
                                                      go_simp
                                                      with_reducible rfl
                                                    rotate_left
                                                    · simp only [Act.put, List.setIfInBounds_toArray, List.set_cons_zero, List.set_cons_succ, i64_w, i32_w]
                                                      rfl
                                                    refine pure_ (i := 1) (N := some 70) (v := ?_) (a' := ?_) #[true, true, false, false, false, false, false, false, false, false, false, false, false, false, false, false, false, false, false, false] rfl rfl (any_of HT_.out (by kernel_rfl)) (fun _ _ _ h => h) (Or.inl ⟨by rfl, ?_⟩) ?_ ?_
                                                    rotate_left
                                                    · intro w'
                                                      go_simp
                                                      with_reducible rfl
                                                    rotate_left
                                                    · simp only [Act.put, List.setIfInBounds_toArray, List.set_cons_zero, List.set_cons_succ, i64_w, i32_w]
                                                      rfl
                                                    refine pure_ (i := 2) (N := some 71) (v := ?_) (a' := ?_) #[true, true, true, false, false, false, false, false, false, false, false, false, false, false, false, false, false, false, false, false] rfl rfl (any_of HT_.out (by kernel_rfl)) (fun _ _ _ h => h) (Or.inl ⟨by rfl, ?_⟩) ?_ ?_
                                                    rotate_left
                                                    · intro w'
                                                      go_simp
                                                      with_reducible rfl
                                                    rotate_left
                                                    · simp only [Act.put, List.setIfInBounds_toArray, List.set_cons_zero, List.set_cons_succ, i64_w, i32_w]
                                                      rfl
                                                    refine pure_ (i := 3) (N := some 72) (v := ?_) (a' := ?_) #[true, true, true, true, false, false, false, false, false, false, false, false, false, false, false, false, false, false, false, false] rfl rfl (any_of HT_.out (by kernel_rfl)) (fun _ _ _ h => h) (Or.inl ⟨by rfl, ?_⟩) ?_ ?_
                                                    rotate_left
                                                    · intro w'
                                                      go_simp
                                                      with_reducible rfl
                                                    rotate_left
                                                    · simp only [Act.put, List.setIfInBounds_toArray, List.set_cons_zero, List.set_cons_succ, i64_w, i32_w]
                                                      rfl
                                                    refine pure_ (i := 4) (N := some 73) (v := ?_) (a' := ?_) #[true, true, true, true, true, false, false, false, false, false, false, false, false, false, false, false, false, false, false, false] rfl rfl (any_of HT_.out (by kernel_rfl)) (fun _ _ _ h => h) (Or.inl ⟨by rfl, ?_⟩) ?_ ?_
                                                    rotate_left
                                                    · intro w'
                                                      go_simp
                                                      with_reducible rfl
                                                    rotate_left
                                                    · simp only [Act.put, List.setIfInBounds_toArray, List.set_cons_zero, List.set_cons_succ, i64_w, i32_w]
                                                      rfl
                                                    refine pure_ (i := 5) (N := some 74) (v := ?_) (a' := ?_) #[true, true, true, true, true, true, false, false, false, false, false, false, false, false, false, false, false, false, false, false] rfl rfl (any_of HT_.out (by kernel_rfl)) (fun _ _ _ h => h) (Or.inl ⟨by rfl, ?_⟩) ?_ ?_
                                                    rotate_left
                                                    · intro w'
                                                      go_simp
                                                      with_reducible rfl
                                                    rotate_left
                                                    · simp only [Act.put, List.setIfInBounds_toArray, List.set_cons_zero, List.set_cons_succ, i64_w, i32_w]
                                                      rfl
                                                    refine pure_ (i := 6) (N := some 75) (v := ?_) (a' := ?_) #[true, true, true, true, true, true, true, false, false, false, false, false, false, false, false, false, false, false, false, false] rfl rfl (any_of HT_.out (by kernel_rfl)) (fun _ _ _ h => h) (Or.inl ⟨by rfl, ?_⟩) ?_ ?_
                                                    rotate_left
                                                    · intro w'
                                                      go_simp
                                                      with_reducible rfl
                                                    rotate_left
                                                    · simp only [Act.put, List.setIfInBounds_toArray, List.set_cons_zero, List.set_cons_succ, i64_w, i32_w]
                                                      rfl
                                                    refine pure_ (i := 7) (N := some 76) (v := ?_) (a' := ?_) #[true, true, true, true, true, true, true, true, false, false, false, false, false, false, false, false, false, false, false, false] rfl rfl (any_of HT_.out (by kernel_rfl)) (fun _ _ _ h => h) (Or.inl ⟨by rfl, ?_⟩) ?_ ?_
                                                    rotate_left
                                                    · intro w'
                                                      go_simp
                                                      with_reducible rfl
                                                    rotate_left
                                                    · simp only [Act.put, List.setIfInBounds_toArray, List.set_cons_zero, List.set_cons_succ, i64_w, i32_w]
                                                      rfl
                                                    refine pure_ (i := 8) (N := some 77) (v := ?_) (a' := ?_) #[true, true, true, true, true, true, true, true, true, false, false, false, false, false, false, false, false, false, false, false] rfl rfl (any_of HT_.out (by kernel_rfl)) (fun _ _ _ h => h) (Or.inl ⟨by rfl, ?_⟩) ?_ ?_
                                                    rotate_left
                                                    · intro w'
                                                      go_simp
                                                      with_reducible rfl
                                                    rotate_left
                                                    · simp only [Act.put, List.setIfInBounds_toArray, List.set_cons_zero, List.set_cons_succ, i64_w, i32_w]
                                                      rfl
                                                    refine pure_ (i := 9) (N := some 78) (v := ?_) (a' := ?_) #[true, true, true, true, true, true, true, true, true, true, false, false, false, false, false, false, false, false, false, false] rfl rfl (any_of HT_.out (by kernel_rfl)) (fun _ _ _ h => h) (Or.inl ⟨by rfl, ?_⟩) ?_ ?_
                                                    rotate_left
                                                    · intro w'
                                                      go_simp
                                                      with_reducible rfl
                                                    rotate_left
                                                    · simp only [Act.put, List.setIfInBounds_toArray, List.set_cons_zero, List.set_cons_succ, i64_w, i32_w]
                                                      rfl
                                                    refine pure_ (i := 10) (N := some 79) (v := ?_) (a' := ?_) #[true, true, true, true, true, true, true, true, true, true, true, false, false, false, false, false, false, false, false, false] rfl rfl (any_of HT_.out (by kernel_rfl)) (fun _ _ _ h => h) (Or.inl ⟨by rfl, ?_⟩) ?_ ?_
                                                    rotate_left
                                                    · intro w'
                                                      go_simp
                                                      with_reducible rfl
                                                    rotate_left
                                                    · simp only [Act.put, List.setIfInBounds_toArray, List.set_cons_zero, List.set_cons_succ, i64_w, i32_w]
                                                      rfl
                                                    refine pure_ (i := 12) (N := some 81) (v := ?_) (a' := ?_) #[true, true, true, true, true, true, true, true, true, true, true, false, true, false, false, false, false, false, false, false] rfl rfl (any_of HT_.out (by kernel_rfl)) (fun _ _ _ h => h) (Or.inl ⟨by rfl, ?_⟩) ?_ ?_
                                                    rotate_left
                                                    · intro w'
                                                      go_simp
                                                      with_reducible rfl
                                                    rotate_left
                                                    · simp only [Act.put, List.setIfInBounds_toArray, List.set_cons_zero, List.set_cons_succ, i64_w, i32_w]
                                                      rfl
                                                    refine pure_ (i := 13) (N := some 82) (v := ?_) (a' := ?_) #[true, true, true, true, true, true, true, true, true, true, true, false, true, true, false, false, false, false, false, false] rfl rfl (any_of HT_.out (by kernel_rfl)) (fun _ _ _ h => h) (Or.inl ⟨by rfl, ?_⟩) ?_ ?_
                                                    rotate_left
                                                    · intro w'
                                                      go_simp
                                                      with_reducible rfl
                                                    rotate_left
                                                    · simp only [Act.put, List.setIfInBounds_toArray, List.set_cons_zero, List.set_cons_succ, i64_w, i32_w]
                                                      rfl
                                                    refine pure_ (i := 14) (N := some 83) (v := ?_) (a' := ?_) #[true, true, true, true, true, true, true, true, true, true, true, false, true, true, true, false, false, false, false, false] rfl rfl (any_of HT_.out (by kernel_rfl)) (fun _ _ _ h => h) (Or.inl ⟨by rfl, ?_⟩) ?_ ?_
                                                    rotate_left
                                                    · intro w'
                                                      go_simp
                                                      with_reducible rfl
                                                    rotate_left
                                                    · simp only [Act.put, List.setIfInBounds_toArray, List.set_cons_zero, List.set_cons_succ, i64_w, i32_w]
                                                      rfl
                                                    refine take_ (i := 11) (N := some 80) (v := ?_) (a' := ?_) #[true, true, true, true, true, true, true, true, true, true, true, true, true, true, true, false, false, false, false, false] rfl rfl (take_ofW HT_.out HW_.out (by kernel_rfl)) (fun _ _ _ h => h) (Or.inl ⟨by rfl, ?_⟩) hHeld ?_ ?_
                                                    rotate_left
                                                    · intro w' s0
                                                      go_simp
                                                      with_reducible rfl
                                                    rotate_left
                                                    · simp only [Act.put, List.setIfInBounds_toArray, List.set_cons_zero, List.set_cons_succ, i64_w, i32_w]
                                                      rfl
                                                    refine one_ (i := 15) (N := some 84) #[true, true, true, true, true, true, true, true, true, true, true, true, true, true, true, true, false, false, false, false] rfl rfl (one_of HT_.out (by kernel_rfl)) (by decide) (fun K hK => ?_)
                                                    refine goes_ Try.func35 (by kernel_rfl) rfl #[.int .i64 (rd l0 x28_1), .int .i64 x16_3] (by rfl) rfl rfl (by (try simp only [List.map_toArray, List.map_cons, List.map_nil]); first | done | rfl | (simp only [List.length_drop, List.length_take]; rfl)) ?_
                                                    with_reducible refine (spec_chChoose.calls kj27 (rd l0 x28_1) x16_3 t130 _ A44.out).mono ?_
                                                    rintro e w' ⟨rfl, ⟨nd, rfl⟩⟩
                                                    refine ⟨_, rfl, ?_⟩
                                                    have p45 : 0 ≤ ((ji41) : Int) := of_decide_eq_true (by first | (with_reducible assumption) | assumption)
                                                    have q45 : ((ji41) : Int) < ((x11_3.length : Int) : Int) := of_decide_eq_true (by first | (with_reducible assumption) | assumption)
                                                    obtain ⟨go45, co45, eo45, gb45, gl45, cl45, HG45⟩ := Kd.R_form HO_11.out (by omega)
                                                    (first | cases eo45 | (injection eo45 with ea_ en_ ec_; (first | subst ea_ | (injection ea_ with ea_; subst ea_)); subst ec_; clear en_))
                                                    have GB45 := Aside0.mk gb45
                                                    have GG45 := Aside0.mk HG45
                                                    clear gb45 gl45 HG45
                                                    (first | simp only [add_plain] at hx129_0 | skip)
                                                    obtain ⟨hx45_0, hf45_0⟩ := Kd.R_celln 0 HO_11.out ((ji41) : Int) p45 q45
                                                    replace p45 := eq_true p45
                                                    replace q45 := eq_true q45
                                                    have HP48 := Kd.R_putn HO_11.out ((ji41) : Int) (wrap64 ((rd x11_3 (ji41)) + (wrap64 ((rd x8_1 x38_2) * t130))))
                                                    rw [← Ny131.out] at HP48
                                                    have HQ48 := Aside0.mk HP48
                                                    clear HP48
                                                    refine hK.out _ _ (hHeld) (fun hHeld => ?_)
                                                    clear hK K
                                                    refine norm_ (a' := ?_) ?_ ?_
                                                    rotate_left
                                                    · show Act.put _ (some 84) _ = _
                                                      simp only [Act.put, List.setIfInBounds_toArray, List.set_cons_zero, List.set_cons_succ, i64_w, i32_w]
                                                      rfl
                                                    refine pure_ (i := 16) (N := some 85) (v := ?_) (a' := ?_) #[true, true, true, true, true, true, true, true, true, true, true, true, true, true, true, true, true, false, false, false] rfl rfl (any_of HT_.out (by kernel_rfl)) (fun _ _ _ h => h) (Or.inl ⟨by rfl, ?_⟩) ?_ ?_
                                                    rotate_left
                                                    · intro w'
                                                      go_simp
                                                      with_reducible rfl
                                                    rotate_left
                                                    · simp only [Act.put, List.setIfInBounds_toArray, List.set_cons_zero, List.set_cons_succ, i64_w, i32_w]
                                                      rfl
                                                    refine pure_ (i := 17) (N := some 86) (v := ?_) (a' := ?_) #[true, true, true, true, true, true, true, true, true, true, true, true, true, true, true, true, true, true, false, false] rfl rfl (any_of HT_.out (by kernel_rfl)) (fun _ _ _ h => h) (Or.inl ⟨by rfl, ?_⟩) ?_ ?_
                                                    rotate_left
                                                    · intro w'
                                                      go_simp
                                                      with_reducible rfl
                                                    rotate_left
                                                    · simp only [Act.put, List.setIfInBounds_toArray, List.set_cons_zero, List.set_cons_succ, i64_w, i32_w]
                                                      rfl
                                                    refine pure_ (i := 18) (N := some 87) (v := ?_) (a' := ?_) #[true, true, true, true, true, true, true, true, true, true, true, true, true, true, true, true, true, true, true, false] rfl rfl (any_of HT_.out (by kernel_rfl)) (fun _ _ _ h => h) (Or.inl ⟨by rfl, ?_⟩) ?_ ?_
                                                    rotate_left
                                                    · intro w'
                                                      go_simp
                                                      with_reducible rfl
                                                    rotate_left
                                                    · simp only [Act.put, List.setIfInBounds_toArray, List.set_cons_zero, List.set_cons_succ, i64_w, i32_w]
                                                      rfl
                                                    refine last_ (i := 19) (N := none) #[true, true, true, true, true, true, true, true, true, true, true, true, true, true, true, true, true, true, true, true] rfl rfl (one_of HT_.out (by kernel_rfl)) (by decide) (fun K hK => ?_)
                                                    refine skip_ (w1 := ?_) (by rfl) rfl ?_ ?_
                                                    rotate_left
                                                    · go_simp
                                                      rfl
                                                    refine hK.out _ _ ?_
                                                    clear hK K
                                                    refine done_ (done_of HT_.out (by kernel_rfl)) ?_
                                                    try go_wp2
                                                    go_roundg kj27
                                                    case measure => have := HK1.out; have := HK2.out; have := HK3.out; have := HJ27.out; omega
                                                    case rel => exact ⟨(y131), (wrap64 (x16_3 + 1)), (by first | rfl | (simp; done) | (simp [*]; done)), H', ⟨by have := HK1.out; have := HK2.out; have := HK3.out; have := HJ27.out; omega⟩, ⟨by (with_reducible repeat (first | apply Kd.R_alloc | apply Kd.R_drewN | apply Kd.R_drew)); exact HQ48.out⟩, ⟨by (with_reducible repeat (first | apply Kd.R_alloc | apply Kd.R_drewN | apply Kd.R_drew)); exact Kd.R_mono (Kd.R_far (p := ⟨go45, ((ji41) : Int).toNat, none⟩) (Kd.R_mono HO_36.out (fun k_ hk => (⟨hk, fun e_ => hk (by rw [e_]; rfl)⟩ : _ ∧ k_ ≠ go45))) (fun _ hk => hk.2) (.int .i64 (wrap64 ((rd x11_3 (ji41)) + (wrap64 ((rd x8_1 x38_2) * t130)))))) (fun _ hk => hk.1)⟩, ⟨by repeat (first | (with_reducible first | exact HB.out | apply below_alloc | apply pw_below_drewN | apply below_drew1 | refine below_set ?_ GB45.out) | exact HB.out)⟩⟩
                                                  · rw [if_neg c43] at H
                                                    exact absurd H (by simp)
                                                · rw [if_neg c42] at H
                                                  exact absurd H (by simp)
                                            · replace c30 := Bool.eq_false_iff.mpr c30
                                              subst c30
                                              have H1 : (spec_chTable.l1 kj27 a1 a2 (wrap64 (a1 + 1)) (rd l0 x28_1) x11_3 l0 (l0.length : Int) x28_1 x8_1 (x8_1.length : Int) (wrap64 (x38_2 + 1))) = some r := by rw [if_neg (show ¬ (false = true) by decide)] at H; exact H
                                              clear H
                                              have H := H1
                                              clear H1
                                              have H' := Aside0.mk H
                                              clear H
                                              go_wp2
                                              go_roundg kj27
                                              case measure => have := HK1.out; have := HK2.out; have := HK3.out; have := HJ27.out; omega
                                              case rel => exact ⟨(x11_3), (wrap64 (x38_2 + 1)), (by first | rfl | (simp; done) | (simp [*]; done)), H', ⟨by have := HK1.out; have := HK2.out; have := HK3.out; have := HJ27.out; omega⟩, ⟨by (with_reducible repeat (first | apply Kd.R_alloc | apply Kd.R_drewN | apply Kd.R_drew)); exact HO_11.out⟩, ⟨by (with_reducible repeat (first | apply Kd.R_alloc | apply Kd.R_drewN | apply Kd.R_drew)); exact HO_36.out⟩, ⟨by repeat (first | (with_reducible first | exact HB.out | apply below_alloc | apply pw_below_drewN | apply below_drew1) | exact HB.out)⟩⟩
                              · rw [if_neg c24] at H
                                exact absurd H (by simp)
                            · rw [if_neg c23] at H
                              exact absurd H (by simp)
                          · rw [if_neg c22] at H
                            have c22b0 : decide (x38_2 < (x8_1.length : Int)) = false := decide_eq_false c22
                            clear c22
                            have H' := Aside0.mk H
                            clear H
                            go_wp2
                            go_roundg k2
                            case measure => have := HK1.out; have := HK2.out; omega
                            case rel => exact ⟨(x11_2), (wrap64 (x28_1 + 1)), (by first | rfl | (simp; done) | (simp [*]; done)), H', ⟨by have := HK1.out; have := HK2.out; omega⟩, ⟨by (with_reducible repeat (first | apply Kd.R_alloc | apply Kd.R_drewN | apply Kd.R_drew)); exact Kd.R_mono HO_11.out (fun _ hk => trivial)⟩, ⟨by repeat (first | (with_reducible first | exact HB.out | apply below_alloc | apply pw_below_drewN | apply below_drew1) | exact HB.out)⟩⟩
                    · rw [if_neg c18] at H
                      exact absurd H (by simp)
                  · rw [if_neg c17] at H
                    exact absurd H (by simp)
                · rw [if_neg c15] at H
                  exact absurd H (by simp)
              · rw [if_neg c14] at H
                exact absurd H (by simp)
            · rw [if_neg c13] at H
              have c13b0 : decide (x28_1 < (l0.length : Int)) = false := decide_eq_false c13
              clear c13
              obtain ⟨ji49, hji49⟩ : ∃ j_ : Int, (wrap64 (a1 * (wrap64 (a1 + 1)))) = j_ := ⟨_, rfl⟩
              replace H : (if 0 ≤ (ji49) then (if (ji49) ≤ (x8_1.length : Int) then (some (x8_1.drop ((ji49) : Int).toNat)) else (none)) else (none)) = some r := by first | (rw [hji49] at H; exact H) | (simp only [hji49] at H ⊢; exact H)
              have hji49w : (IntKind.i64.wrap (a1 * (wrap64 (a1 + 1)))) = ji49 := (i64_w _).trans hji49
              by_cases c50 : 0 ≤ (ji49)
              · rw [if_pos c50] at H
                have c50b0 := eq_true c50
                have c50b1 : decide (0 ≤ (ji49)) = true := decide_eq_true c50
                clear c50
                by_cases c51 : (ji49) ≤ (x8_1.length : Int)
                · rw [if_pos c51] at H
                  have c51b0 := eq_true c51
                  have c51b1 : decide ((ji49) ≤ (x8_1.length : Int)) = true := decide_eq_true c51
                  clear c51
                  obtain ⟨y117, hy117⟩ : ∃ y_ : List Int, y_ = (x8_1.drop ((ji49) : Int).toNat) := ⟨_, rfl⟩
                  replace H : (some y117) = some r := by first | (rw [hy117]; with_reducible exact H) | (have H2_ := (Option.bind_some _ _).symm.trans H; rw [hy117]; with_reducible exact H2_) | (have H2_ := (Option.bind_some _ _).symm.trans H; with_reducible exact H2_) | with_reducible exact H | (rw [hy117]; exact H) | exact H
                  have Ny117 := Aside0.mk hy117
                  clear hy117
                  obtain rfl := Option.some.inj H
                  obtain ⟨Ao52, co52, eo52⟩ := Kd.R_slice HO_8.out
                  subst eo52
                  have q53 : ((ji49) : Int) ≤ ((x8_1.length : Int) : Int) := of_decide_eq_true (by first | (with_reducible assumption) | assumption)
                  obtain ⟨i053, hi053, _, hsz53, _⟩ := info_parts info3
                  have hcut53 := cut_from (P := Try.prog) 22 3 .i64 Try.underlying22 hi053 1 hsz53 Ao52 x8_1.length co52 (ji49) (of_decide_eq_true (by first | (with_reducible assumption) | assumption)) q53
                  have hr53 := Kd.Q_drop (k := ((ji49) : Int).toNat) (Kd.Q_of_R HO_8.out) (by omega)
                  obtain ⟨A53, hA53⟩ : ∃ A1, A1 = (if co52 = ((ji49) : Int).toNat then Ao52 else (Ao52 : Option Addr).map (·.add (((ji49) : Int).toNat * 1))) := ⟨_, rfl⟩
                  obtain ⟨c53, hc53⟩ : ∃ c1, c1 = co52 - ((ji49) : Int).toNat := ⟨_, rfl⟩
                  have hy53 : y117.length = x8_1.length - ((ji49) : Int).toNat := (by rw [Ny117.out, List.length_drop])
                  rw [← Ny117.out] at hr53
                  rw [← hy53, ← hA53, ← hc53] at hcut53
                  replace hr53 : Kd.Q (Kd.int .i64) 3 wr w.heap.size (fun _ => True) (.slice A53 y117.length c53) y117 := (by rw [hA53, hc53, hy53]; exact hr53)
                  have HE53 : Aside0 ((Value.slice A53 y117.length c53).ownBlock = (.slice Ao52 x8_1.length co52 : Value).ownBlock) := ⟨by rw [hA53]; split <;> (cases (Ao52 : Option Addr) <;> first | rfl | (simp only [Option.map_some, Value.ownBlock, Addr.add]; split <;> rfl))⟩
                  clear hy53 hi053 hsz53 HO_8 hA53 hc53
                  have HO119 := Aside0.mk hr53
                  clear hr53
                  replace q53 := eq_true q53
                  go_wp2
                  go_ret
                  exact ⟨_, by first | rfl | (simp [errW_none, errW_some] <;> rfl) | (simp only [← hji4, ← hji49]; first | rfl | (simp [errW_none, errW_some] <;> rfl)) | (simp [*, errW_none, errW_some] <;> rfl), by (with_reducible repeat (first | apply Kd.Q_alloc | apply Kd.Q_drewN | apply Kd.Q_drew)); exact HO119.out, by repeat (first | (with_reducible first | exact HB.out | apply below_alloc | apply pw_below_drewN | apply below_drew1) | exact HB.out)⟩
                · rw [if_neg c51] at H
                  exact absurd H (by simp)
              · rw [if_neg c50] at H
                exact absurd H (by simp)
      · rw [if_neg c7] at H
        exact absurd H (by simp)
    · rw [if_neg c6] at H
      exact absurd H (by simp)
  · rw [if_neg c5] at H
    exact absurd H (by simp)

end Go.Proofs.Ytnikblimnjpmpaa.X

/- ==== XspecLikeliestPairs ==== -/
namespace Go.Proofs.Ytnikblimnjpmpaa.X
open Go.RowKit Go.Proofs.YtnikblimnjpmpaaW.PrintWords Go.Proofs.YtnikblimnjpmpaaW.PrintLast Go.Proofs.YtnikblimnjpmpaaW.PrintMore
attribute [local go_sem] max2_int min2_int max_two min_two max_three min_three max_four min_four   -- for this text's walks alone
set_option linter.unusedVariables false
set_option linter.unusedSimpArgs false

/-! ### spec_LikeliestPairs: function 15 -/
def spec_LikeliestPairs.l0 : Nat → Int → Int → List Int → Int → Int → Option (Int × Bool)
  | 0, _, _, _, _, _ => none
  | k + 1, x6, x7, x16, x17, x18 => if x18 < x17 then (if 0 ≤ x18 then (if x18 < (x16.length : Int) then (if (rd x16 x18) > x7 then (spec_LikeliestPairs.l0 k x18 (rd x16 x18) x16 x17 (wrap64 (x18 + 1))) else (spec_LikeliestPairs.l0 k x6 x7 x16 x17 (wrap64 (x18 + 1)))) else (none)) else (none)) else (some (x6, true))
def spec_LikeliestPairs.f (k : Nat) (l0 : List Int) (a1 : Int) : Option (Int × Bool) := (spec_chAsked.f k l0 a1).bind fun t204 => (if t204 = true then ((spec_chTable.f k l0 a1 112).bind fun t205 => (spec_LikeliestPairs.l0 k 0 0 t205 (t205.length : Int) 0)) else (some (0, false)))
theorem spec_LikeliestPairs.mono_l : ∀ k, (∀ y0 y1 y2 y3 y4, LeO (spec_LikeliestPairs.l0 k y0 y1 y2 y3 y4) (spec_LikeliestPairs.l0 (k + 1) y0 y1 y2 y3 y4))
  | 0 => fun _ _ _ _ _ r h => by simp [spec_LikeliestPairs.l0] at h
  | k + 1 => by
    have ih0 := spec_LikeliestPairs.mono_l k
    · intro y0 y1 y2 y3 y4
      unfold spec_LikeliestPairs.l0
      repeat' first
      | (with_reducible exact ih0 _ _ _ _ _)
      | (with_reducible exact spec_chAsked.mono _ _ _)
      | (with_reducible exact spec_chTable.mono _ _ _ _)
      | (with_reducible exact LeO.refl _)
      | (with_reducible exact LeO.none _)
      | (with_reducible refine LeO.ite ?_ ?_)
      | (with_reducible refine LeO.bind ?_ (fun _ => ?_))
      | exact ih0 _ _ _ _ _
      | exact spec_chAsked.mono _ _ _
      | exact spec_chTable.mono _ _ _ _
      | exact LeO.none _
      | refine LeO.ite ?_ ?_
      | refine LeO.bind ?_ (fun _ => ?_)
theorem spec_LikeliestPairs.mono : ∀ a0 a1 k, LeO (spec_LikeliestPairs.f k a0 a1) (spec_LikeliestPairs.f (k + 1) a0 a1) := by
  intro a0 a1 k
  have ih0 := spec_LikeliestPairs.mono_l k
  unfold spec_LikeliestPairs.f
  repeat' first
      | (with_reducible exact ih0 _ _ _ _ _)
      | (with_reducible exact spec_chAsked.mono _ _ _)
      | (with_reducible exact spec_chTable.mono _ _ _ _)
      | (with_reducible exact LeO.refl _)
      | (with_reducible exact LeO.none _)
      | (with_reducible refine LeO.ite ?_ ?_)
      | (with_reducible refine LeO.bind ?_ (fun _ => ?_))
      | exact ih0 _ _ _ _ _
      | exact spec_chAsked.mono _ _ _
      | exact spec_chTable.mono _ _ _ _
      | exact LeO.none _
      | refine LeO.ite ?_ ?_
      | refine LeO.bind ?_ (fun _ => ?_)
set_option maxHeartbeats 8000000 in
set_option maxRecDepth 100000 in
theorem spec_LikeliestPairs.calls (k : Nat) (A0 : Option Addr) (c0 : Nat) (l0 : List Int) (a1 : Int) (r1 : Int) (r2 : Bool) (w : World) (hr0 : Kd.C (Kd.int .i64) w A0 l0.length l0) (hc0 : l0.length ≤ c0) (h : spec_LikeliestPairs.f k l0 a1 = some (r1, r2)) :
    Calls Try.prog 15 #[.slice A0 l0.length c0, .int .i64 a1] w fun e w' => e = .returned (.tuple #[.int .i64 r1, .bool r2]) ∧ Below w.heap.size w w' := by
  have HR0 := Aside0.mk hr0
  have HC0 := Aside0.mk hc0
  clear hr0 hc0
  have HB := Aside0.mk (Below.refl w.heap.size w)
  have H : ((spec_chAsked.f k l0 a1).bind fun t204 => (if t204 = true then ((spec_chTable.f k l0 a1 112).bind fun t205 => (spec_LikeliestPairs.l0 k 0 0 t205 (t205.length : Int) 0)) else (some (0, false)))) = some (r1, r2) := h
  clear h
  replace H := Option.bind_eq_some_iff.mp H
  obtain ⟨t204, A30, H⟩ := H
  replace H : (if t204 = true then ((spec_chTable.f k l0 a1 112).bind fun t205 => (spec_LikeliestPairs.l0 k 0 0 t205 (t205.length : Int) 0)) else (some (0, false))) = some (r1, r2) := H
  have A3 := Aside0.mk A30
  clear A30
  by_cases c4 : t204 = true
  · subst c4
    have H1 : ((spec_chTable.f k l0 a1 112).bind fun t205 => (spec_LikeliestPairs.l0 k 0 0 t205 (t205.length : Int) 0)) = some (r1, r2) := by rw [if_pos rfl] at H; exact H
    clear H
    have H := H1
    clear H1
    replace H := Option.bind_eq_some_iff.mp H
    obtain ⟨t205, A50, H⟩ := H
    replace H : (spec_LikeliestPairs.l0 k 0 0 t205 (t205.length : Int) 0) = some (r1, r2) := H
    have A5 := Aside0.mk A50
    clear A50
    have H' := Aside0.mk H
    clear H
    go_enter Try.func15, Try.ntmps15
    go_wp2_with (first | ((with_reducible refine gate_callee (f := 31) rfl ?_); refine goesL_ (some 12) rfl rfl Try.func31 (by kernel_rfl) rfl #[.slice A0 l0.length c0, .int .i64 a1] rfl (by (try simp only [List.map_toArray, List.map_cons, List.map_nil]); first | done | rfl | (simp only [List.length_drop, List.length_take]; rfl)) ?_; (with_reducible refine (spec_chAsked.calls k _ _ l0 a1 true _ ?side1 ?side2 A3.out).mono ?_); (case side1 => repeat (first | exact HR0.out | (with_reducible refine Kd.C_alloc ?_ _) | (with_reducible refine Kd.C_drewN ?_ _) | (with_reducible refine Kd.C_drew ?_))); (case side2 => exact HC0.out); rintro e w' ⟨rfl, ⟨nd, rfl⟩⟩; refine ⟨_, rfl, ?_⟩) | ((with_reducible refine gate_callee (f := 34) rfl ?_); refine goesL_ (some 16) rfl rfl Try.func34 (by kernel_rfl) rfl #[.slice A0 l0.length c0, .int .i64 a1, .int .u8 112] rfl (by (try simp only [List.map_toArray, List.map_cons, List.map_nil]); first | done | rfl | (simp only [List.length_drop, List.length_take]; rfl)) ?_; (with_reducible refine (spec_chTable.calls k _ _ l0 a1 112 t205 _ ?side1 ?side2 A5.out).mono ?_); (case side1 => repeat (first | exact HR0.out | (with_reducible refine Kd.C_alloc ?_ _) | (with_reducible refine Kd.C_drewN ?_ _) | (with_reducible refine Kd.C_drew ?_))); (case side2 => exact HC0.out); rintro e w6 ⟨v206, rfl, ho0, hb⟩; refine ⟨_, rfl, ?_⟩; have n0_ := Aside0.mk (Kd.Q_lower ho0 (below_size (by repeat (first | (with_reducible first | exact HB.out | apply below_alloc | apply pw_below_drewN | apply below_drew1) | exact HB.out)))); have n1_ := Aside0.mk (below_step (by repeat (first | (with_reducible first | exact HB.out | apply below_alloc | apply pw_below_drewN | apply below_drew1) | exact HB.out)) hb); clear HB; have HO207 := n0_; have HB := n1_; clear n0_ n1_; (try clear hb); (try clear hb2); (try clear hk); (try clear hi); (try clear ho0); obtain ⟨Ao7, co7, eo7, _⟩ := Kd.Q_slice HO207.out; subst eo7))
    go_loopg [6, 7, 18] k (fun kq v6 v7 v18 w' => ∃ (x6_1 : Int) (x7_1 : Int) (x18_1 : Int), v6 = .int .i64 x6_1 ∧ v7 = .int .i64 x7_1 ∧ v18 = .int .i64 x18_1 ∧ Aside0 (spec_LikeliestPairs.l0 kq x6_1 x7_1 t205 (t205.length : Int) x18_1 = some (r1, r2)) ∧ Aside0 (kq ≤ k) ∧ Aside0 (Kd.Q (Kd.int .i64) 3 w' w.heap.size (fun _ => True) (.slice Ao7 t205.length co7) t205) ∧ Aside0 (Below w.heap.size w w'))
    case atStart => exact ⟨(0), (0), (0), (by first | rfl | (simp; done) | (simp [*]; done)), (by first | rfl | (simp; done) | (simp [*]; done)), (by first | rfl | (simp; done) | (simp [*]; done)), H', ⟨Nat.le_refl _⟩, ⟨by (with_reducible repeat (first | apply Kd.Q_alloc | apply Kd.Q_drewN | apply Kd.Q_drew)); exact HO207.out⟩, ⟨by repeat (first | (with_reducible first | exact HB.out | apply below_alloc | apply pw_below_drewN | apply below_drew1) | exact HB.out)⟩⟩
    case round =>
      clear H'
      try clear c1
      try clear p2
      try clear c3
      try clear c4
      obtain ⟨x6_1, x7_1, x18_1, rfl, rfl, rfl, HA, HK1, HO_16, HB⟩ := hrel
      cases gk with
      | zero => exact absurd HA.out (by simp [spec_LikeliestPairs.l0])
      | succ k1 =>
        have H := HA.out
        clear HA
        simp only [spec_LikeliestPairs.l0] at H
        by_cases c8 : x18_1 < (t205.length : Int)
        · rw [if_pos c8] at H
          have c8b0 : decide (x18_1 < (t205.length : Int)) = true := decide_eq_true c8
          clear c8
          by_cases c9 : 0 ≤ x18_1
          · rw [if_pos c9] at H
            have c9b0 : decide (0 ≤ x18_1) = true := decide_eq_true c9
            clear c9
            by_cases c10 : x18_1 < (t205.length : Int)
            · rw [if_pos c10] at H
              have c10b0 : decide (x18_1 < (t205.length : Int)) = true := decide_eq_true c10
              clear c10
              by_cases c11 : (rd t205 x18_1) > x7_1
              · rw [if_pos c11] at H
                have c11b0 : decide (x7_1 < (rd t205 x18_1)) = true := decide_eq_true c11
                clear c11
                have H' := Aside0.mk H
                clear H
                have p208 : 0 ≤ (x18_1 : Int) := of_decide_eq_true (by first | (with_reducible assumption) | assumption)
                have q208 : x18_1 < (t205.length : Int) := of_decide_eq_true (by first | (with_reducible assumption) | assumption)
                obtain ⟨ad208, e208, hx208_0⟩ := Kd.at_int (Kd.Q_reads' HO_16.out).2.2 x18_1 p208 q208
                cases e208
                replace p208 := eq_true p208
                replace q208 := eq_true q208
                go_wp2
                go_roundg k1
                case measure => have := HK1.out; omega
                case rel => exact ⟨(x18_1), (rd t205 x18_1), (wrap64 (x18_1 + 1)), (by first | rfl | (simp; done) | (simp [*]; done)), (by first | rfl | (simp; done) | (simp [*]; done)), (by first | rfl | (simp; done) | (simp [*]; done)), H', ⟨by have := HK1.out; omega⟩, ⟨by (with_reducible repeat (first | apply Kd.Q_alloc | apply Kd.Q_drewN | apply Kd.Q_drew)); exact HO_16.out⟩, ⟨by repeat (first | (with_reducible first | exact HB.out | apply below_alloc | apply pw_below_drewN | apply below_drew1) | exact HB.out)⟩⟩
              · rw [if_neg c11] at H
                have c11b0 : decide (x7_1 < (rd t205 x18_1)) = false := decide_eq_false c11
                clear c11
                have H' := Aside0.mk H
                clear H
                have p208 : 0 ≤ (x18_1 : Int) := of_decide_eq_true (by first | (with_reducible assumption) | assumption)
                have q208 : x18_1 < (t205.length : Int) := of_decide_eq_true (by first | (with_reducible assumption) | assumption)
                obtain ⟨ad208, e208, hx208_0⟩ := Kd.at_int (Kd.Q_reads' HO_16.out).2.2 x18_1 p208 q208
                cases e208
                replace p208 := eq_true p208
                replace q208 := eq_true q208
                go_wp2
                go_roundg k1
                case measure => have := HK1.out; omega
                case rel => exact ⟨(x6_1), (x7_1), (wrap64 (x18_1 + 1)), (by first | rfl | (simp; done) | (simp [*]; done)), (by first | rfl | (simp; done) | (simp [*]; done)), (by first | rfl | (simp; done) | (simp [*]; done)), H', ⟨by have := HK1.out; omega⟩, ⟨by (with_reducible repeat (first | apply Kd.Q_alloc | apply Kd.Q_drewN | apply Kd.Q_drew)); exact HO_16.out⟩, ⟨by repeat (first | (with_reducible first | exact HB.out | apply below_alloc | apply pw_below_drewN | apply below_drew1) | exact HB.out)⟩⟩
            · rw [if_neg c10] at H
              exact absurd H (by simp)
          · rw [if_neg c9] at H
            exact absurd H (by simp)
        · rw [if_neg c8] at H
          have c8b0 : decide (x18_1 < (t205.length : Int)) = false := decide_eq_false c8
          clear c8
          simp only [Option.some.injEq, Prod.mk.injEq] at H
          obtain ⟨rfl, rfl⟩ := H
          go_wp2
          go_ret2
          exact ⟨by first | rfl | (simp [errW_none, errW_some] <;> rfl) | (simp [*, errW_none, errW_some] <;> rfl), by repeat (first | (with_reducible first | exact HB.out | apply below_alloc | apply pw_below_drewN | apply below_drew1) | exact HB.out)⟩
  · replace c4 := Bool.eq_false_iff.mpr c4
    subst c4
    have H1 : (some (0, false)) = some (r1, r2) := by rw [if_neg (show ¬ (false = true) by decide)] at H; exact H
    clear H
    have H := H1
    clear H1
    simp only [Option.some.injEq, Prod.mk.injEq] at H
    obtain ⟨rfl, rfl⟩ := H
    go_enter Try.func15, Try.ntmps15
    go_wp2_with (first | ((with_reducible refine gate_callee (f := 31) rfl ?_); refine goesL_ (some 12) rfl rfl Try.func31 (by kernel_rfl) rfl #[.slice A0 l0.length c0, .int .i64 a1] rfl (by (try simp only [List.map_toArray, List.map_cons, List.map_nil]); first | done | rfl | (simp only [List.length_drop, List.length_take]; rfl)) ?_; (with_reducible refine (spec_chAsked.calls k _ _ l0 a1 false _ ?side1 ?side2 A3.out).mono ?_); (case side1 => repeat (first | exact HR0.out | (with_reducible refine Kd.C_alloc ?_ _) | (with_reducible refine Kd.C_drewN ?_ _) | (with_reducible refine Kd.C_drew ?_))); (case side2 => exact HC0.out); rintro e w' ⟨rfl, ⟨nd, rfl⟩⟩; refine ⟨_, rfl, ?_⟩))
    go_ret2
    exact ⟨by first | rfl | (simp [errW_none, errW_some] <;> rfl) | (simp [*, errW_none, errW_some] <;> rfl), by repeat (first | (with_reducible first | exact HB.out | apply below_alloc | apply pw_below_drewN | apply below_drew1) | exact HB.out)⟩

end Go.Proofs.Ytnikblimnjpmpaa.X

/- ==== PlTable ==== -/
/- Plain laws, no program in sight: the reference's table of draws counts the draws. -/
namespace Go.Proofs.Ytnikblimnjpmpaa.X
open Go.RowKit Go.Proofs.YtnikblimnjpmpaaW.PrintWords Go.Proofs.YtnikblimnjpmpaaW.PrintLast Go.Proofs.YtnikblimnjpmpaaW.PrintMore

/-- What a number of a colour adds: by the kind. -/
def moreOf (kind : Int) (d : Nat) : Nat := if kind = 99 then min d 1 else d / 2
theorem moreOf_le (kind : Int) (d : Nat) : moreOf kind d ≤ d := by unfold moreOf; split <;> omega
/-- A table: so many places; its numbers int64s; nothing where more has been made than is there. -/
structure Tab (W : Nat) (t : List Int) : Prop where
  len : t.length = W * W
  inr : ∀ i, i < t.length → InR (rd t (i : Int))
  sup : ∀ i, i < t.length → rd t (i : Int) ≠ 0 → i % W ≤ i / W
variable {kind : Int} {K W : Nat}
def gT (kind : Int) (K W : Nat) (l : List Nat) (P : Nat) (i : Nat) : Int := T wB (moreOf kind) l ((K : Int) - ((i / W : Nat) : Int)) ((P : Int) - ((i % W : Nat) : Int))
theorem idx_div {W h x : Nat} (hx : x < W) : (h * W + x) / W = h ∧ (h * W + x) % W = x := by
  have hW : 0 < W := by omega
  refine ⟨?_, ?_⟩
  · rw [Nat.add_comm, Nat.add_mul_div_right _ _ hW, Nat.div_eq_of_lt hx]; omega
  · rw [Nat.add_comm, Nat.add_mul_mod_self_right, Nat.mod_eq_of_lt hx]
theorem idx_lt {W h x : Nat} (hh : h < W) (hx : x < W) : h * W + x < W * W := by
  have : (h + 1) * W ≤ W * W := Nat.mul_le_mul_right _ hh
  rw [Nat.add_mul] at this
  omega
theorem more_c {kind : Int} (ck : kind = 99) (d : Nat) : (if (d : Int) < 1 then some (d : Int) else some 1) = some ((moreOf kind d : Nat) : Int) := by
  unfold moreOf
  rw [if_pos ck]
  split <;> (congr 1; omega)
theorem more_p {kind : Int} (ck : ¬ kind = 99) {d : Nat} (h : d ≤ 1000) : wrap64 (Int.tdiv (d : Int) 2) = ((moreOf kind d : Nat) : Int) := by
  unfold moreOf
  rw [if_neg ck, Int.tdiv_eq_ediv_of_nonneg (by omega)]
  unfold wrap64
  omega
theorem w64z {z : Int} (h0 : 0 ≤ z) (h1 : z ≤ 1000000) : wrap64 z = z := by unfold wrap64; omega
theorem idx_wrap {a b c : Nat} (h : a + b + c ≤ 100000) : wrap64 (wrap64 (wrap64 ((a : Nat) : Int) + (b : Int)) + ((c : Nat) : Int)) = ((a + (b + c) : Nat) : Int) := by
  rw [w64z (z := (a : Int)) (by omega) (by omega), w64z (z := (a : Int) + (b : Int)) (by omega) (by omega), w64z (by omega) (by omega)]
  omega
theorem j3_on (k : Nat) (kind : Int) (d : Nat) (K W n ways h x I sl si nl at_ : Int) (next S now : List Int) (hd : d ≤ 1000) (hidx : wrap64 (wrap64 (wrap64 (wrap64 (h + (d : Int)) * W) + x) + ((moreOf kind d : Nat) : Int)) = I) (h0 : 0 ≤ I) (h1 : I < (next.length : Int)) :
    spec_chTable.j3 (k + 1) K kind W n next ways h x (d : Int) S sl si now nl at_ true = (spec_chChoose.f k n (d : Int)).bind fun t => spec_chTable.l2 k K kind W n (next.set I.toNat (wrap64 (rd next I + wrap64 (ways * t)))) ways h x (wrap64 ((d : Int) + 1)) S sl si now nl at_ := by
  simp only [spec_chTable.j3]
  rw [if_pos trivial]
  by_cases ck : kind = 99
  · have hmd := more_c ck d
    rw [if_pos ck]
    unfold spec_l1Least.f
    rw [hmd]
    simp only [Option.bind_some]
    rw [hidx, if_pos h0, if_pos h1]
  · have hmd := more_p ck hd
    rw [if_neg ck, hmd, hidx, if_pos h0, if_pos h1]
/-- The walk over how many of a colour are drawn. -/
theorem l2_ev (hW : W = K + 1) (hK : K ≤ 40) (n : Nat) (hn : n ≤ 20) (l : List Nat) (ways : Int) (h x : Nat) (hx : x ≤ h) (hhK : h ≤ K) (S : List Int) (sl si : Int) (now : List Int) (nl at_ : Int) (e : Nat) :
    ∀ (d : Nat) (next : List Int), d + e = n + 1 → Tab W next →
    ∃ next' : List Int, Tab W next' ∧ (∀ P, Cg (dot next' (gT kind K W l P) + ways * sumN d (fun q => wB n q * T wB (moreOf kind) l ((K : Int) - h - q) ((P : Int) - x - moreOf kind q))) (dot next (gT kind K W l P) + ways * sumN (n + 1) (fun q => wB n q * T wB (moreOf kind) l ((K : Int) - h - q) ((P : Int) - x - moreOf kind q)))) ∧
      (∀ r : List Int, Ev (fun k => spec_chTable.l1 k (K : Int) kind (W : Int) (n : Int) next' S sl si now nl (wrap64 (at_ + 1))) r → Ev (fun k => spec_chTable.l2 k (K : Int) kind (W : Int) (n : Int) next ways (h : Int) (x : Int) (d : Int) S sl si now nl at_) r) := by
  induction e with
  | zero =>
    intro d next hd ht
    obtain rfl : d = n + 1 := by omega
    refine ⟨next, ht, fun P => Cg.refl _, fun r h1 => ?_⟩
    refine Ev.step (f := fun k => spec_chTable.j3 k (K : Int) kind (W : Int) (n : Int) next ways (h : Int) (x : Int) ((n + 1 : Nat) : Int) S sl si now nl at_ false) (fun k => ?_) (Ev.step (fun k => ?_) h1)
    · simp only [spec_chTable.l2]
      rw [if_neg (by omega)]
    · simp only [spec_chTable.j3]
      rw [if_neg (by decide)]
  | succ e ih =>
    intro d next hd ht
    have hwhd : wrap64 ((h : Int) + (d : Int)) = ((h + d : Nat) : Int) := by unfold wrap64; omega
    have HWHD := Aside0.mk hwhd
    clear hwhd
    have hdn : wrap64 ((d : Int) + 1) = ((d + 1 : Nat) : Int) := by unfold wrap64; omega
    have HDN := Aside0.mk hdn
    clear hdn
    by_cases c : h + d ≤ K
    · -- on
      have hm : moreOf kind d ≤ d := moreOf_le kind d
      have hxl : x + moreOf kind d < W := by omega
      have hhl : h + d < W := by omega
      obtain ⟨i1, i2⟩ := idx_div (h := h + d) hxl
      have hlt := idx_lt hhl hxl
      have hb : (h + d) * W ≤ 1681 := Nat.le_trans (Nat.mul_le_mul (show h + d ≤ 40 by omega) (show W ≤ 41 by omega)) (by decide)
      obtain ⟨I, hI⟩ : ∃ I, I = (h + d) * W + (x + moreOf kind d) := ⟨_, rfl⟩
      rw [← hI] at i1 i2 hlt
      have hIlen : I < next.length := by rw [ht.len]; exact hlt
      obtain ⟨v, hv⟩ : ∃ v, v = wrap64 (rd next (I : Int) + wrap64 (ways * wB n d)) := ⟨_, rfl⟩
      have hcg : Cg v (rd next (I : Int) + ways * wB n d) := by rw [hv]; exact (Cg.wrap _).trans ((Cg.refl _).add (Cg.wrap _))
      have ht2 : Tab W (next.set I v) := by
        refine ⟨by rw [List.length_set]; exact ht.len, fun i hi => ?_, fun i hi hne => ?_⟩
        · rw [List.length_set] at hi
          by_cases q : i = I
          · subst q
            rw [rd_set_same hi, hv]
            exact InR.wrap _
          · rw [rd_set_other q]
            exact ht.inr i hi
        · rw [List.length_set] at hi
          by_cases q : i = I
          · subst q
            rw [i1, i2]
            omega
          · rw [rd_set_other q] at hne
            exact ht.sup i hi hne
      obtain ⟨next', h1, h2, h3⟩ := ih (d + 1) (next.set I v) (by omega) ht2
      refine ⟨next', h1, fun P => ?_, fun r hr => ?_⟩
      · have a1 := h2 P
        rw [dot_set hIlen] at a1
        have hg : gT kind K W l P I = T wB (moreOf kind) l ((K : Int) - h - d) ((P : Int) - x - moreOf kind d) := by
          unfold gT
          rw [i1, i2]
          congr 1 <;> omega
        rw [hg] at a1
        simp only [sumN] at a1 ⊢
        generalize T wB (moreOf kind) l ((K : Int) - h - d) ((P : Int) - x - moreOf kind d) = t at *
        have a2 : Cg ((v - rd next (I : Int)) * t) (ways * (wB n d * t)) := by
          have := (hcg.sub (Cg.refl (rd next (I : Int)))).mulr t
          rw [show rd next (I : Int) + ways * wB n d - rd next (I : Int) = ways * wB n d by omega, Int.mul_assoc] at this
          exact this
        rw [Int.mul_add] at a1
        obtain ⟨q1, e1⟩ := a1
        obtain ⟨q2, e2⟩ := a2
        exact ⟨q1 + q2, by omega⟩
      · have h4 := h3 r hr
        have hidx : wrap64 (wrap64 (wrap64 ((((h + d : Nat) : Int)) * (W : Int)) + (x : Int)) + ((moreOf kind d : Nat) : Int)) = (I : Int) := by
          have e0 : (((h + d : Nat) : Int)) * (W : Int) = (((h + d) * W : Nat) : Int) := by rw [Int.natCast_mul]
          rw [e0, hI]
          exact idx_wrap (by omega)
        have hd1000 : d ≤ 1000 := Nat.le_trans (Nat.le_trans (Nat.le_add_left d h) c) (Nat.le_trans hK (by decide))
        have hI0 : (0 : Int) ≤ (I : Int) := Int.natCast_nonneg _
        have hI1 : (I : Int) < (next.length : Int) := Int.ofNat_lt.2 hIlen
        have HIDX := Aside0.mk hidx
        clear hidx
        have HV := Aside0.mk hv
        clear hv
        refine Ev.step (f := fun k => spec_chTable.j3 k (K : Int) kind (W : Int) (n : Int) next ways (h : Int) (x : Int) (d : Int) S sl si now nl at_ true) (fun k => ?_) (Ev.step (f := fun k => (spec_chChoose.f k (n : Int) (d : Int)).bind fun t => spec_chTable.l2 k (K : Int) kind (W : Int) (n : Int) (next.set I (wrap64 (rd next (I : Int) + wrap64 (ways * t)))) ways (h : Int) (x : Int) (wrap64 ((d : Int) + 1)) S sl si now nl at_) (fun k => ?_) (Ev.bind (chChoose_ev (by omega) (by omega)) ?_))
        · simp only [spec_chTable.l2]
          rw [if_pos (by omega), HWHD.out, decide_eq_true (by omega)]
        · rw [j3_on k kind d (K : Int) (W : Int) (n : Int) ways (h : Int) (x : Int) (I : Int) sl si nl at_ next S now hd1000 (by rw [HWHD.out]; exact HIDX.out) hI0 hI1, Int.toNat_natCast]
        · rw [← HV.out, HDN.out]
          exact h4
    · -- too many
      refine ⟨next, ht, fun P => ?_, fun r hr => ?_⟩
      · rw [sumN_longer (n := d) (m := n + 1) (by omega) (fun q hq _ => by rw [T_neg (by omega)]; simp)]
        exact Cg.refl _
      · refine Ev.step (f := fun k => spec_chTable.j3 k (K : Int) kind (W : Int) (n : Int) next ways (h : Int) (x : Int) (d : Int) S sl si now nl at_ false) (fun k => ?_) (Ev.step (fun k => ?_) hr)
        · simp only [spec_chTable.l2]
          rw [if_pos (by omega), HWHD.out, decide_eq_false (by omega)]
        · simp only [spec_chTable.j3]
          rw [if_neg (by decide)]
/-- The walk over the places of the table so far. -/
theorem l1_ev (hW : W = K + 1) (hK : K ≤ 40) (n : Nat) (hn : n ≤ 20) (l : List Nat) (S : List Int) (sl si : Int) (now : List Int) (hnow : Tab W now) (e : Nat) :
    ∀ (i : Nat) (next : List Int), i + e = now.length → Tab W next →
    ∃ next' : List Int, Tab W next' ∧ (∀ P, Cg (dot next' (gT kind K W l P) + sumN i (fun q => rd now (q : Int) * gT kind K W (n :: l) P q)) (dot next (gT kind K W l P) + dot now (gT kind K W (n :: l) P))) ∧
      (∀ r : List Int, Ev (fun k => spec_chTable.l0 k (K : Int) kind (W : Int) next' S sl (wrap64 (si + 1))) r → Ev (fun k => spec_chTable.l1 k (K : Int) kind (W : Int) (n : Int) next S sl si now (now.length : Int) (i : Int)) r) := by
  have hlen : now.length ≤ 1681 := by rw [hnow.len]; exact Nat.le_trans (Nat.mul_le_mul (show W ≤ 41 by omega) (show W ≤ 41 by omega)) (by decide)
  induction e with
  | zero =>
    intro i next hi ht
    obtain rfl : i = now.length := by omega
    refine ⟨next, ht, fun P => Cg.refl _, fun r h1 => Ev.step (fun k => ?_) h1⟩
    simp only [spec_chTable.l1]
    rw [if_neg (by omega)]
  | succ e ih =>
    intro i next hi ht
    have hin : wrap64 ((i : Int) + 1) = ((i + 1 : Nat) : Int) := by unfold wrap64; omega
    have HIN := Aside0.mk hin
    clear hin
    by_cases c : rd now (i : Int) = 0
    · obtain ⟨next', h1, h2, h3⟩ := ih (i + 1) next (by omega) ht
      refine ⟨next', h1, fun P => ?_, fun r hr => Ev.step (fun k => ?_) (h3 r hr)⟩
      · have := h2 P
        simp only [sumN, c, Int.zero_mul, Int.add_zero] at this
        exact this
      · simp only [spec_chTable.l1]
        rw [if_pos (by omega), if_pos (by omega), if_pos (by omega), if_pos c, HIN.out]
    · have hil : i < now.length := by omega
      have hs := hnow.sup i hil c
      have hdv : i / W ≤ K := by
        have h0 : i / W < W := Nat.div_lt_of_lt_mul (by rw [← hnow.len]; exact hil)
        omega
      obtain ⟨next1, g1, g2, g3⟩ := l2_ev (kind := kind) hW hK n hn l (rd now (i : Int)) (i / W) (i % W) hs hdv S sl si now (now.length : Int) (i : Int) (n + 1) 0 next (by omega) ht
      obtain ⟨next', h1, h2, h3⟩ := ih (i + 1) next1 (by omega) g1
      refine ⟨next', h1, fun P => ?_, fun r hr => ?_⟩
      · have a1 := h2 P
        have a2 := g2 P
        have hg : gT kind K W (n :: l) P i = sumN (n + 1) (fun q => wB n q * T wB (moreOf kind) l ((K : Int) - ((i / W : Nat) : Int) - q) ((P : Int) - ((i % W : Nat) : Int) - moreOf kind q)) := rfl
        rw [← hg] at a2
        simp only [sumN] at a1 a2 ⊢
        generalize rd now (i : Int) * gT kind K W (n :: l) P i = z at *
        simp only [Int.mul_zero, Int.add_zero] at a2
        obtain ⟨q1, e1⟩ := a1
        obtain ⟨q2, e2⟩ := a2
        exact ⟨q1 + q2, by omega⟩
      · have h4 := g3 r (by rw [HIN.out]; exact h3 r hr)
        have hd1 : wrap64 (Int.tdiv (i : Int) (W : Int)) = ((i / W : Nat) : Int) := by
          rw [Int.tdiv_eq_ediv_of_nonneg (by omega), ← Int.natCast_ediv]
          generalize i / W = z at *
          unfold wrap64
          omega
        have hd2 : Int.tmod (i : Int) (W : Int) = ((i % W : Nat) : Int) := by
          rw [Int.tmod_eq_emod_of_nonneg (by omega), ← Int.natCast_emod]
        refine Ev.step (fun k => ?_) h4
        simp only [spec_chTable.l1]
        rw [if_pos (by omega), if_pos (by omega), if_pos (by omega), if_neg c, if_neg (by omega), hd1, hd2]
        rfl
/-- The walk over the colours. -/
theorem l0_ev (hW : W = K + 1) (hK : K ≤ 40) (S : List Int) (ns : List Nat) (hS : S = ns.map (fun n => ((n : Nat) : Int))) (h20 : ∀ n ∈ ns, n ≤ 20) (hl8 : ns.length ≤ 8) (e : Nat) : ∀ (i : Nat) (now : List Int), i + e = ns.length → Tab W now →
    ∃ fin : List Int, Tab W fin ∧ (∀ P, Cg (dot fin (gT kind K W [] P)) (dot now (gT kind K W (ns.drop i) P))) ∧
      Ev (fun k => spec_chTable.l0 k (K : Int) kind (W : Int) now S (S.length : Int) (i : Int)) (fin.drop (K * W)) := by
  have hSl : S.length = ns.length := by rw [hS, List.length_map]
  have hKW : K * W ≤ 1640 := Nat.le_trans (Nat.mul_le_mul hK (show W ≤ 41 by omega)) (by decide)
  have hWW : W * W ≤ 1681 := Nat.le_trans (Nat.mul_le_mul (show W ≤ 41 by omega) (show W ≤ 41 by omega)) (by decide)
  have hKWW : K * W ≤ W * W := Nat.mul_le_mul_right _ (by omega)
  have hw1 : wrap64 ((K : Int) * (W : Int)) = ((K * W : Nat) : Int) := by
    rw [← Int.natCast_mul]
    generalize K * W = z at *
    unfold wrap64
    omega
  have hw2 : wrap64 ((W : Int) * (W : Int)) = ((W * W : Nat) : Int) := by
    rw [← Int.natCast_mul]
    generalize W * W = z at *
    unfold wrap64
    omega
  induction e with
  | zero =>
    intro i now hi ht
    obtain rfl : i = ns.length := by omega
    refine ⟨now, ht, fun P => ?_, Ev.step (f := fun _ => some (now.drop (K * W))) (fun k => ?_) (Ev.now _)⟩
    · rw [List.drop_length]
      exact Cg.refl _
    · have := ht.len
      simp only [spec_chTable.l0]
      rw [if_neg (by omega), hw1, if_pos (by omega), if_pos (by omega), Int.toNat_natCast]
  | succ e ih =>
    intro i now hi ht
    have hil : i < ns.length := by omega
    have hin : wrap64 ((i : Int) + 1) = ((i + 1 : Nat) : Int) := by unfold wrap64; omega
    have HIN := Aside0.mk hin
    clear hin
    have hrd : rd S (i : Int) = ((ns[i] : Nat) : Int) := by
      rw [hS]
      simp [rd, List.getD_eq_getElem?_getD, hil]
    have hz : Tab W (List.replicate (W * W) 0) := by
      refine ⟨by simp, fun j hj => ?_, fun j hj hne => absurd (rd_rep _ _) hne⟩
      rw [rd_rep]
      unfold InR
      omega
    have hdrop : ns.drop i = ns[i] :: ns.drop (i + 1) := List.drop_eq_getElem_cons hil
    obtain ⟨next', h1, h2, h3⟩ := l1_ev (kind := kind) hW hK ns[i] (h20 _ (List.getElem_mem hil)) (ns.drop (i + 1)) S (S.length : Int) (i : Int) now ht now.length 0 (List.replicate (W * W) 0) (by omega) hz
    obtain ⟨fin, f1, f2, f3⟩ := ih (i + 1) next' (by omega) h1
    refine ⟨fin, f1, fun P => (f2 P).trans ?_, ?_⟩
    · have := h2 P
      rw [dot_rep, ← hdrop] at this
      simpa [sumN] using this
    · have h4 := h3 _ (by rw [HIN.out]; exact f3)
      refine Ev.step (fun k => ?_) h4
      simp only [spec_chTable.l0]
      rw [if_pos (by omega), if_pos (by omega), if_pos (by omega), hw2, if_pos (by omega), if_pos (by omega), hrd, Int.toNat_natCast]
      rfl
theorem Tab.start (hW : W = K + 1) : Tab W ((List.replicate (W * W) 0).set 0 1) := by
  have h0 : 0 < W * W := Nat.mul_pos (by omega) (by omega)
  refine ⟨by simp, fun i hi => ?_, fun i hi hne => ?_⟩
  · by_cases q : i = 0
    · subst q
      rw [rd_set_same (by simpa using h0)]
      unfold InR
      omega
    · rw [rd_set_other q, rd_rep]
      unfold InR
      omega
  · by_cases q : i = 0
    · subst q
      simp
    · rw [rd_set_other q, rd_rep] at hne
      exact absurd rfl hne
/-- The reference's table: in how many ways. -/
theorem chTable_ev (K : Nat) (hK : K ≤ 40) (ns : List Nat) (h20 : ∀ n ∈ ns, n ≤ 20) (hl8 : ns.length ≤ 8) (h40 : sumL ns ≤ 40) (kind : Int) :
    ∃ tab : List Int, tab.length = K + 1 ∧ (∀ P : Nat, P ≤ K → rd tab (P : Int) = T wB (moreOf kind) ns (K : Int) (P : Int)) ∧ Ev (fun k => spec_chTable.f k (ns.map fun n => ((n : Nat) : Int)) (K : Int) kind) tab := by
  obtain ⟨W, hW⟩ : ∃ W, W = K + 1 := ⟨_, rfl⟩
  have hWW : W * W ≤ 1681 := Nat.le_trans (Nat.mul_le_mul (show W ≤ 41 by omega) (show W ≤ 41 by omega)) (by decide)
  have h0 : 0 < W * W := Nat.mul_pos (by omega) (by omega)
  obtain ⟨fin, f1, f2, f3⟩ := l0_ev (kind := kind) hW hK _ ns rfl h20 hl8 ns.length 0 _ (by omega) (Tab.start hW)
  have hsplit : W * W = K * W + W := by
    have : (K + 1) * W = K * W + W := by rw [Nat.add_mul, Nat.one_mul]
    rw [← this, ← hW]
  have hlen := f1.len
  refine ⟨fin.drop (K * W), by rw [List.length_drop]; omega, fun P hP => ?_, ?_⟩
  · have hPW : P < W := by omega
    have hat : K * W + P < fin.length := by omega
    have h1 := f2 P
    have e1 : dot fin (gT kind K W [] P) = rd fin ((K * W + P : Nat) : Int) := by
      unfold dot
      rw [sumN_at (K * W + P) hat (fun d hd hne => ?_)]
      · unfold gT T
        rw [(idx_div hPW).1, (idx_div hPW).2, if_pos ⟨by omega, by omega⟩, Int.mul_one]
      · unfold gT T
        rw [if_neg, Int.mul_zero]
        rintro ⟨c1, c2⟩
        have c3 : d / W = K := by omega
        have c4 : d % W = P := by omega
        have := Nat.div_add_mod d W
        rw [c3, c4, Nat.mul_comm] at this
        omega
    have e2 : dot ((List.replicate (W * W) 0).set 0 1) (gT kind K W (ns.drop 0) P) = T wB (moreOf kind) ns (K : Int) (P : Int) := by
      rw [dot_set (by simpa using h0), dot_rep, List.drop_zero]
      have : rd (List.replicate (W * W) 0) ((0 : Nat) : Int) = 0 := rd_rep _ _
      rw [this]
      unfold gT
      simp
    rw [e1, e2] at h1
    have hb := T_bound (m := moreOf kind) h20 h40 (K : Int) (P : Int)
    have h2 := h1.eq (f1.inr _ hat) (by unfold InR; omega)
    rw [← h2]
    unfold rd
    rw [Int.toNat_natCast, Int.toNat_natCast, List.getD_eq_getElem?_getD, List.getD_eq_getElem?_getD, List.getElem?_drop]
  · have hw1 : wrap64 ((K : Int) + 1) = (W : Int) := by rw [hW]; unfold wrap64; omega
    have hw2 : wrap64 ((W : Int) * (W : Int)) = ((W * W : Nat) : Int) := by
      rw [← Int.natCast_mul]
      generalize W * W = z at *
      unfold wrap64
      omega
    refine Ev.congr (fun k => ?_) f3
    simp only [spec_chTable.f]
    rw [hw1, hw2, if_pos (by omega), if_pos (by omega), Int.toNat_natCast]
    simp only [Option.bind_some, List.length_replicate]
    rw [if_pos (by omega)]
    rfl
end Go.Proofs.Ytnikblimnjpmpaa.X

/- ==== XspecchLow ==== -/
namespace Go.Proofs.Ytnikblimnjpmpaa.X
open Go.RowKit Go.Proofs.YtnikblimnjpmpaaW.PrintWords Go.Proofs.YtnikblimnjpmpaaW.PrintLast Go.Proofs.YtnikblimnjpmpaaW.PrintMore
attribute [local go_sem] max2_int min2_int max_two min_two max_three min_three max_four min_four   -- for this text's walks alone
set_option linter.unusedVariables false
set_option linter.unusedSimpArgs false

/-! ### spec_chLow: function 32 -/
def spec_chLow.l0 : Nat → Int → Int → Int → Int → Option (Int × Int)
  | 0, _, _, _, _ => none
  | k + 1, x0, x1, x6, x7 => if x7 > 0 then (if x7 = 0 then (none) else (spec_chLow.l0 k x0 x1 x7 (Int.tmod x6 x7))) else (if x6 = 0 then (none) else (some (wrap64 (Int.tdiv x0 x6), wrap64 (Int.tdiv x1 x6))))
def spec_chLow.f (k : Nat) (a0 : Int) (a1 : Int) : Option (Int × Int) := spec_chLow.l0 k a0 a1 a0 a1
theorem spec_chLow.mono_l : ∀ k, (∀ y0 y1 y2 y3, LeO (spec_chLow.l0 k y0 y1 y2 y3) (spec_chLow.l0 (k + 1) y0 y1 y2 y3))
  | 0 => fun _ _ _ _ r h => by simp [spec_chLow.l0] at h
  | k + 1 => by
    have ih0 := spec_chLow.mono_l k
    · intro y0 y1 y2 y3
      unfold spec_chLow.l0
      repeat' first
      | (with_reducible exact ih0 _ _ _ _)
      | (with_reducible exact LeO.refl _)
      | (with_reducible exact LeO.none _)
      | (with_reducible refine LeO.ite ?_ ?_)
      | (with_reducible refine LeO.bind ?_ (fun _ => ?_))
      | exact ih0 _ _ _ _
      | exact LeO.none _
      | refine LeO.ite ?_ ?_
      | refine LeO.bind ?_ (fun _ => ?_)
theorem spec_chLow.mono : ∀ a0 a1 k, LeO (spec_chLow.f k a0 a1) (spec_chLow.f (k + 1) a0 a1) := by
  intro a0 a1 k
  have ih0 := spec_chLow.mono_l k
  unfold spec_chLow.f
  repeat' first
      | (with_reducible exact ih0 _ _ _ _)
      | (with_reducible exact LeO.refl _)
      | (with_reducible exact LeO.none _)
      | (with_reducible refine LeO.ite ?_ ?_)
      | (with_reducible refine LeO.bind ?_ (fun _ => ?_))
      | exact ih0 _ _ _ _
      | exact LeO.none _
      | refine LeO.ite ?_ ?_
      | refine LeO.bind ?_ (fun _ => ?_)
set_option maxHeartbeats 8000000 in
set_option maxRecDepth 100000 in
theorem spec_chLow.calls (k : Nat) (a0 : Int) (a1 : Int) (r1 : Int) (r2 : Int) (w : World) (h : spec_chLow.f k a0 a1 = some (r1, r2)) :
    Calls Try.prog 32 #[.int .i64 a0, .int .i64 a1] w fun e w' => e = .returned (.tuple #[.int .i64 r1, .int .i64 r2]) ∧ Drawn0 w w' := by
  have H : (spec_chLow.l0 k a0 a1 a0 a1) = some (r1, r2) := h
  clear h
  have H' := Aside0.mk H
  clear H
  go_enter Try.func32, Try.ntmps32
  go_wp2
  repeat (go_quiet (fail); try go_wp2)
  go_loopg [6, 7] k (fun kq v6 v7 w' => ∃ (x6_1 : Int) (x7_1 : Int), v6 = .int .i64 x6_1 ∧ v7 = .int .i64 x7_1 ∧ Aside0 (spec_chLow.l0 kq a0 a1 x6_1 x7_1 = some (r1, r2)) ∧ Aside0 (kq ≤ k) ∧ Drawn0 w w')
  case atStart => exact ⟨(a0), (a1), (by first | rfl | (simp; done) | (simp [*]; done)), (by first | rfl | (simp; done) | (simp [*]; done)), H', ⟨Nat.le_refl _⟩, by repeat (first | exact Drawn0.refl _ | apply Drawn0.step)⟩
  case round =>
    clear H'
    try clear p2
    obtain ⟨x6_1, x7_1, rfl, rfl, HA, HK1, ⟨m1, rfl⟩⟩ := hrel
    cases gk with
    | zero => exact absurd HA.out (by simp [spec_chLow.l0])
    | succ k1 =>
      have H := HA.out
      clear HA
      simp only [spec_chLow.l0] at H
      by_cases c3 : x7_1 > 0
      · rw [if_pos c3] at H
        have c3b0 : decide (0 < x7_1) = true := decide_eq_true c3
        clear c3
        by_cases c4 : x7_1 = 0
        · rw [if_pos c4] at H
          exact absurd H (by simp)
        · rw [if_neg c4] at H
          have c4b0 : (x7_1 == 0) = false := beq_eq_false_iff_ne.mpr c4
          have c4b1 : (x7_1 != 0) = true := bne_iff_ne.mpr c4
          have H' := Aside0.mk H
          clear H
          go_wp2
          repeat (go_quiet (fail); try go_wp2)
          go_roundg k1
          case measure => have := HK1.out; omega
          case rel => exact ⟨(x7_1), (Int.tmod x6_1 x7_1), (by first | rfl | (simp; done) | (simp [*]; done)), (by first | rfl | (simp; done) | (simp [*]; done)), H', ⟨by have := HK1.out; omega⟩, by repeat (first | exact Drawn0.refl _ | apply Drawn0.step)⟩
      · rw [if_neg c3] at H
        have c3b0 : decide (0 < x7_1) = false := decide_eq_false c3
        clear c3
        by_cases c5 : x6_1 = 0
        · rw [if_pos c5] at H
          exact absurd H (by simp)
        · rw [if_neg c5] at H
          have c5b0 : (x6_1 == 0) = false := beq_eq_false_iff_ne.mpr c5
          have c5b1 : (x6_1 != 0) = true := bne_iff_ne.mpr c5
          simp only [Option.some.injEq, Prod.mk.injEq] at H
          obtain ⟨rfl, rfl⟩ := H
          go_wp2
          repeat (go_quiet (fail); try go_wp2)
          go_ret2
          exact ⟨by first | rfl | (simp; done) | (simp [*]; done), by repeat (first | exact Drawn0.refl _ | apply Drawn0.step)⟩

end Go.Proofs.Ytnikblimnjpmpaa.X

/- ==== Ximplgcd ==== -/
namespace Go.Proofs.Ytnikblimnjpmpaa.X
open Go.RowKit Go.Proofs.YtnikblimnjpmpaaW.PrintWords Go.Proofs.YtnikblimnjpmpaaW.PrintLast Go.Proofs.YtnikblimnjpmpaaW.PrintMore
attribute [local go_sem] max2_int min2_int max_two min_two max_three min_three max_four min_four   -- for this text's walks alone
set_option linter.unusedVariables false
set_option linter.unusedSimpArgs false

/-! ### impl_gcd: function 59 -/
def impl_gcd.l0 : Nat → Int → Int → Option (Int)
  | 0, _, _ => none
  | k + 1, x0, x1 => if x1 = 0 then (some x0) else (impl_gcd.l0 k x1 (Int.tmod x0 x1))
def impl_gcd.f (k : Nat) (a0 : Int) (a1 : Int) : Option (Int) := impl_gcd.l0 k a0 a1
theorem impl_gcd.mono_l : ∀ k, (∀ y0 y1, LeO (impl_gcd.l0 k y0 y1) (impl_gcd.l0 (k + 1) y0 y1))
  | 0 => fun _ _ r h => by simp [impl_gcd.l0] at h
  | k + 1 => by
    have ih0 := impl_gcd.mono_l k
    · intro y0 y1
      unfold impl_gcd.l0
      repeat' first
      | (with_reducible exact ih0 _ _)
      | (with_reducible exact LeO.refl _)
      | (with_reducible exact LeO.none _)
      | (with_reducible refine LeO.ite ?_ ?_)
      | (with_reducible refine LeO.bind ?_ (fun _ => ?_))
      | exact ih0 _ _
      | exact LeO.none _
      | refine LeO.ite ?_ ?_
      | refine LeO.bind ?_ (fun _ => ?_)
theorem impl_gcd.mono : ∀ a0 a1 k, LeO (impl_gcd.f k a0 a1) (impl_gcd.f (k + 1) a0 a1) := by
  intro a0 a1 k
  have ih0 := impl_gcd.mono_l k
  unfold impl_gcd.f
  repeat' first
      | (with_reducible exact ih0 _ _)
      | (with_reducible exact LeO.refl _)
      | (with_reducible exact LeO.none _)
      | (with_reducible refine LeO.ite ?_ ?_)
      | (with_reducible refine LeO.bind ?_ (fun _ => ?_))
      | exact ih0 _ _
      | exact LeO.none _
      | refine LeO.ite ?_ ?_
      | refine LeO.bind ?_ (fun _ => ?_)
set_option maxHeartbeats 8000000 in
set_option maxRecDepth 100000 in
theorem impl_gcd.calls (k : Nat) (a0 : Int) (a1 : Int) (r : Int) (w : World) (h : impl_gcd.f k a0 a1 = some r) :
    Calls Try.prog 59 #[.int .i64 a0, .int .i64 a1] w fun e w' => e = .returned (.int .i64 r) ∧ Drawn0 w w' := by
  have H : (impl_gcd.l0 k a0 a1) = some r := h
  clear h
  have H' := Aside0.mk H
  clear H
  go_enter Try.func59, Try.ntmps59
  go_wp2
  repeat (go_quiet (fail); try go_wp2)
  go_loopg [0, 1] k (fun kq v0 v1 w' => ∃ (x0_1 : Int) (x1_1 : Int), v0 = .int .i64 x0_1 ∧ v1 = .int .i64 x1_1 ∧ Aside0 (impl_gcd.l0 kq x0_1 x1_1 = some r) ∧ Aside0 (kq ≤ k) ∧ Drawn0 w w')
  case atStart => exact ⟨(a0), (a1), (by first | rfl | (simp; done) | (simp [*]; done)), (by first | rfl | (simp; done) | (simp [*]; done)), H', ⟨Nat.le_refl _⟩, by repeat (first | exact Drawn0.refl _ | apply Drawn0.step)⟩
  case round =>
    clear H'
    try clear p2
    obtain ⟨x0_1, x1_1, rfl, rfl, HA, HK1, ⟨m1, rfl⟩⟩ := hrel
    cases gk with
    | zero => exact absurd HA.out (by simp [impl_gcd.l0])
    | succ k1 =>
      have H := HA.out
      clear HA
      simp only [impl_gcd.l0] at H
      by_cases c3 : x1_1 = 0
      · rw [if_pos c3] at H
        have c3b0 : (x1_1 == 0) = true := beq_iff_eq.mpr c3
        have c3b1 : (x1_1 != 0) = false := bne_eq_false_iff_eq.mpr c3
        clear c3
        obtain rfl := Option.some.inj H
        go_wp2
        repeat (go_quiet (fail); try go_wp2)
        go_ret
        exact ⟨by first | rfl | (simp; done) | (simp [*]; done), by repeat (first | exact Drawn0.refl _ | apply Drawn0.step)⟩
      · rw [if_neg c3] at H
        have c3b0 : (x1_1 == 0) = false := beq_eq_false_iff_ne.mpr c3
        have c3b1 : (x1_1 != 0) = true := bne_iff_ne.mpr c3
        have H' := Aside0.mk H
        clear H
        go_wp2
        repeat (go_quiet (fail); try go_wp2)
        go_roundg k1
        case measure => have := HK1.out; omega
        case rel => exact ⟨(x1_1), (Int.tmod x0_1 x1_1), (by first | rfl | (simp; done) | (simp [*]; done)), (by first | rfl | (simp; done) | (simp [*]; done)), H', ⟨by have := HK1.out; omega⟩, by repeat (first | exact Drawn0.refl _ | apply Drawn0.step)⟩

end Go.Proofs.Ytnikblimnjpmpaa.X

/- ==== Ximplfraction ==== -/
namespace Go.Proofs.Ytnikblimnjpmpaa.X
open Go.RowKit Go.Proofs.YtnikblimnjpmpaaW.PrintWords Go.Proofs.YtnikblimnjpmpaaW.PrintLast Go.Proofs.YtnikblimnjpmpaaW.PrintMore
attribute [local go_sem] max2_int min2_int max_two min_two max_three min_three max_four min_four   -- for this text's walks alone
set_option linter.unusedVariables false
set_option linter.unusedSimpArgs false

/-! ### impl_fraction: function 39 -/
def impl_fraction.f (k : Nat) (a0 : Int) (a1 : Int) : Option (Int × Int × Bool) := (impl_gcd.f k a0 a1).bind fun t156 => (if t156 = 0 then (none) else (some (wrap64 (Int.tdiv a0 t156), wrap64 (Int.tdiv a1 t156), true)))
theorem impl_fraction.mono : ∀ a0 a1 k, LeO (impl_fraction.f k a0 a1) (impl_fraction.f (k + 1) a0 a1) := by
  intro a0 a1 k
  unfold impl_fraction.f
  repeat' first
      | (with_reducible exact impl_gcd.mono _ _ _)
      | (with_reducible exact LeO.refl _)
      | (with_reducible exact LeO.none _)
      | (with_reducible refine LeO.ite ?_ ?_)
      | (with_reducible refine LeO.bind ?_ (fun _ => ?_))
      | exact impl_gcd.mono _ _ _
      | exact LeO.none _
      | refine LeO.ite ?_ ?_
      | refine LeO.bind ?_ (fun _ => ?_)
set_option maxHeartbeats 8000000 in
set_option maxRecDepth 100000 in
theorem impl_fraction.calls (k : Nat) (a0 : Int) (a1 : Int) (r1 : Int) (r2 : Int) (r3 : Bool) (w : World) (h : impl_fraction.f k a0 a1 = some (r1, r2, r3)) :
    Calls Try.prog 39 #[.int .i64 a0, .int .i64 a1] w fun e w' => e = .returned (.tuple #[.int .i64 r1, .int .i64 r2, .bool r3]) ∧ Drawn0 w w' := by
  have H : ((impl_gcd.f k a0 a1).bind fun t156 => (if t156 = 0 then (none) else (some (wrap64 (Int.tdiv a0 t156), wrap64 (Int.tdiv a1 t156), true)))) = some (r1, r2, r3) := h
  clear h
  replace H := Option.bind_eq_some_iff.mp H
  obtain ⟨t156, A30, H⟩ := H
  replace H : (if t156 = 0 then (none) else (some (wrap64 (Int.tdiv a0 t156), wrap64 (Int.tdiv a1 t156), true))) = some (r1, r2, r3) := H
  have A3 := Aside0.mk A30
  clear A30
  by_cases c4 : t156 = 0
  · rw [if_pos c4] at H
    exact absurd H (by simp)
  · rw [if_neg c4] at H
    have c4b0 : (t156 == 0) = false := beq_eq_false_iff_ne.mpr c4
    have c4b1 : (t156 != 0) = true := bne_iff_ne.mpr c4
    simp only [Option.some.injEq, Prod.mk.injEq] at H
    obtain ⟨rfl, rfl, rfl⟩ := H
    go_enter Try.func39, Try.ntmps39
    go_wp2_with (first | (go_at_call 59; (with_reducible refine (impl_gcd.calls k a0 a1 t156 _ A3.out).mono ?_); rintro e w' ⟨rfl, ⟨nd, rfl⟩⟩; (try first | exact ⟨rfl, _, World.drewN_drewN _ _ _⟩ | exact ⟨rfl, _, Eq.trans (World.drewN_drewN _ _ _) (congrArg (World.drewN _) (Nat.add_assoc _ _ _))⟩)))
    repeat (go_quiet (first | (go_at_call 59; (with_reducible refine (impl_gcd.calls k a0 a1 t156 _ A3.out).mono ?_); rintro e w' ⟨rfl, ⟨nd, rfl⟩⟩; (try first | exact ⟨rfl, _, World.drewN_drewN _ _ _⟩ | exact ⟨rfl, _, Eq.trans (World.drewN_drewN _ _ _) (congrArg (World.drewN _) (Nat.add_assoc _ _ _))⟩))); try go_wp2_with (first | (go_at_call 59; (with_reducible refine (impl_gcd.calls k a0 a1 t156 _ A3.out).mono ?_); rintro e w' ⟨rfl, ⟨nd, rfl⟩⟩; (try first | exact ⟨rfl, _, World.drewN_drewN _ _ _⟩ | exact ⟨rfl, _, Eq.trans (World.drewN_drewN _ _ _) (congrArg (World.drewN _) (Nat.add_assoc _ _ _))⟩))))
    go_ret3
    exact ⟨by first | rfl | (simp; done) | (simp [*]; done), by repeat (first | exact Drawn0.refl _ | apply Drawn0.step)⟩

end Go.Proofs.Ytnikblimnjpmpaa.X

/- ==== PlFrac ==== -/
/- Plain laws, no program in sight: the reference's lowest terms are the program's. -/
namespace Go.Proofs.Ytnikblimnjpmpaa.X
open Go.RowKit Go.Proofs.YtnikblimnjpmpaaW.PrintWords Go.Proofs.YtnikblimnjpmpaaW.PrintLast Go.Proofs.YtnikblimnjpmpaaW.PrintMore

theorem gcd_loop (d : Nat) : ∀ (x y : Int), 0 ≤ x → 0 ≤ y → y ≤ (d : Int) → (0 < x ∨ 0 < y) →
    ∃ g : Int, 0 < g ∧ Ev (fun k => impl_gcd.l0 k x y) g ∧ ∀ a b, Ev (fun k => spec_chLow.l0 k a b x y) (wrap64 (Int.tdiv a g), wrap64 (Int.tdiv b g)) := by
  induction d with
  | zero =>
    intro x y hx hy hd hp
    have e : y = 0 := by omega
    subst e
    refine ⟨x, by omega, Ev.step (f := fun _ => some x) (fun k => ?_) (Ev.now _), fun a b => Ev.step (f := fun _ => some (wrap64 (Int.tdiv a x), wrap64 (Int.tdiv b x))) (fun k => ?_) (Ev.now _)⟩
    · simp only [impl_gcd.l0, if_true]
    · simp only [spec_chLow.l0]
      rw [if_neg (by omega), if_neg (by omega)]
  | succ d ih =>
    intro x y hx hy hd hp
    by_cases h0 : y = 0
    · subst h0
      refine ⟨x, by omega, Ev.step (f := fun _ => some x) (fun k => ?_) (Ev.now _), fun a b => Ev.step (f := fun _ => some (wrap64 (Int.tdiv a x), wrap64 (Int.tdiv b x))) (fun k => ?_) (Ev.now _)⟩
      · simp only [impl_gcd.l0, if_true]
      · simp only [spec_chLow.l0]
        rw [if_neg (by omega), if_neg (by omega)]
    · have hm : Int.tmod x y = x % y := Int.tmod_eq_emod_of_nonneg hx
      have h1 : 0 ≤ x % y := Int.emod_nonneg _ h0
      have h2 : x % y < y := Int.emod_lt_of_pos _ (by omega)
      obtain ⟨g, hg, e1, e2⟩ := ih y (x % y) hy h1 (by omega) (.inl (by omega))
      refine ⟨g, hg, Ev.step (fun k => ?_) e1, fun a b => Ev.step (fun k => ?_) (e2 a b)⟩
      · simp only [impl_gcd.l0]
        rw [if_neg h0, hm]
      · simp only [spec_chLow.l0]
        rw [if_pos (by omega), if_neg h0, hm]
theorem frac_ev (num den : Int) (h0 : 0 ≤ num) (h1 : 0 < den) : ∃ a b : Int, Ev (fun k => spec_chLow.f k num den) (a, b) ∧ Ev (fun k => impl_fraction.f k num den) (a, b, true) := by
  obtain ⟨g, hg, e1, e2⟩ := gcd_loop den.toNat num den h0 (by omega) (by omega) (.inr h1)
  refine ⟨_, _, e2 num den, ?_⟩
  refine Ev.congr (f := fun k => (impl_gcd.l0 k num den).bind fun t => if t = 0 then none else some (wrap64 (Int.tdiv num t), wrap64 (Int.tdiv den t), true)) (fun k => rfl) (Ev.bind e1 ?_)
  exact Ev.congr (fun k => by rw [if_neg (by omega)]) (Ev.now _)

end Go.Proofs.Ytnikblimnjpmpaa.X

/- ==== PlCho ==== -/
/- Plain laws, no program in sight: what both tables tell of a number of socks. -/
namespace Go.Proofs.Ytnikblimnjpmpaa.X
open Go.RowKit Go.Proofs.YtnikblimnjpmpaaW.PrintWords Go.Proofs.YtnikblimnjpmpaaW.PrintLast Go.Proofs.YtnikblimnjpmpaaW.PrintMore

/-- In how many ways K of the socks have just p pairs. -/
def wF (ns : List Nat) (K p : Nat) : Int := T wB half ns (K : Int) (p : Int)
structure Asked (l : List Int) (a : Int) (ns : List Nat) (K : Nat) : Prop where
  hl : l = toI ns
  ha : a = (K : Int)
  h20 : ∀ n ∈ ns, n ≤ 20
  l8 : ns.length ≤ 8
  s40 : sumL ns ≤ 40
  le : K ≤ sumL ns
  few : X.few l = true
  tot : Ev (fun k => impl_total.f k l) ((sumL ns : Nat) : Int)
  sum : Ev (fun k => spec_soSum.f k l) ((sumL ns : Nat) : Int)
theorem asked_is {l : List Int} {a : Int} (h : asked l a = true) : ∃ ns K, Asked l a ns K := by
  obtain ⟨hf, h0, h1⟩ := asked_of h
  obtain ⟨_, f2, f3, _, _⟩ := few_of hf
  have etot := total_ev f2 f3
  have esum := soSum_ev f2 f3
  obtain ⟨ns, hl, h20, hl1, hl8, hs1, hs40, ht⟩ := few_ns hf
  rw [ht] at h1 etot esum
  obtain ⟨K, rfl⟩ := Int.eq_ofNat_of_zero_le h0
  exact ⟨ns, K, ⟨hl, rfl, h20, hl8, hs40, by omega, hf, etot, esum⟩⟩
theorem more112 : moreOf 112 = half := by
  funext d
  unfold moreOf half
  rw [if_neg (by decide)]
section
variable {l : List Int} {a : Int} {ns : List Nat} {K : Nat}
theorem wF_bd (h : Asked l a ns K) (p : Nat) : 0 ≤ wF ns K p ∧ wF ns K p ≤ 1099511627776 := T_bound h.h20 h.s40 _ _
theorem pair_foldr (l : List Nat) : (l.foldr (fun n s => half n + s) 0 : Nat) = pairL l := rfl
theorem wF_high (p : Nat) (h : pairL ns < p ∨ K < p) : wF ns K p = 0 := by
  unfold wF
  rcases h with h | h
  · exact T_high half (fun n d hd => by unfold half; omega) (by rw [pair_foldr]; omega)
  · exact T_share 2 (fun d => by unfold half; omega) (by omega)
theorem nat_toI (ns : List Nat) : nat (toI ns) = ns := by
  unfold nat toI
  rw [List.map_map]
  have : ns.map (Int.toNat ∘ fun n : Nat => (n : Int)) = ns.map id := List.map_congr_left fun x _ => by simp
  rw [this, List.map_id]
theorem cho_is (h : Asked l a ns K) : impl_choices.f l = some (choV l) ∧ (choV l).length = sumL ns + 1 ∧ rd_L1 (choV l) (K : Int) = numL (pairL ns) (wF ns K) := by
  refine ⟨by unfold impl_choices.f; rw [if_pos h.few], ?_, ?_⟩
  · rw [h.hl]
    simp [choV, tabV, nat_toI]
  · rw [h.hl]
    have := h.le
    unfold choV rd_L1
    rw [nat_toI, List.getD_eq_getElem?_getD, Int.toNat_natCast]
    simp [tabV, show K < sumL ns + 1 by omega]
    rfl
theorem num_len (P : Nat) (f : Nat → Int) : (numL P f).length = P + 1 := by simp [numL]
theorem num_rd (P : Nat) (f : Nat → Int) {p : Nat} (h : p ≤ P) : rd (numL P f) (p : Int) = f p := by simp [numL, rd, List.getD_eq_getElem?_getD, show p < P + 1 by omega]
theorem tab_is (h : Asked l a ns K) : ∃ tab : List Int, tab.length = K + 1 ∧ (∀ p : Nat, p ≤ K → rd tab (p : Int) = wF ns K p) ∧ Ev (fun k => spec_chTable.f k l a 112) tab := by
  obtain ⟨tab, t1, t2, t3⟩ := chTable_ev K (by have := h.le; have := h.s40; omega) ns h.h20 h.l8 h.s40 112
  rw [more112] at t2
  rw [h.hl, h.ha]
  exact ⟨tab, t1, t2, t3⟩
theorem den_is (h : Asked l a ns K) : Ev (fun k => impl_choose.f k ((sumL ns : Nat) : Int) a) (wB (sumL ns) K) ∧ Ev (fun k => spec_chChoose.f k ((sumL ns : Nat) : Int) a) (wB (sumL ns) K) ∧ 0 < wB (sumL ns) K ∧ wB (sumL ns) K ≤ 1099511627776 := by
  rw [h.ha]
  exact ⟨choose_ev h.s40 h.le, chChoose_ev h.s40 h.le, wB_pos h.s40 h.le, wB_le _ _⟩
/-- Sums over all pairs, as far as either goes. -/
theorem sum_same (ns : List Nat) (K : Nat) (c : Nat → Int) : sumN (pairL ns + 1) (fun p => c p * wF ns K p) = sumN (K + 1) (fun p => c p * wF ns K p) := by
  have h1 : sumN (pairL ns + 1 + (K + 1)) (fun p => c p * wF ns K p) = sumN (pairL ns + 1) (fun p => c p * wF ns K p) := sumN_longer (by omega) (fun d h1 _ => by rw [wF_high d (.inl (by omega))]; simp)
  have h2 : sumN (pairL ns + 1 + (K + 1)) (fun p => c p * wF ns K p) = sumN (K + 1) (fun p => c p * wF ns K p) := sumN_longer (by omega) (fun d h1 _ => by rw [wF_high d (.inr (by omega))]; simp)
  rw [← h1, h2]
theorem sumN_small {n : Nat} {f : Nat → Int} {B : Int} (h : ∀ d, d < n → 0 ≤ f d ∧ f d ≤ B) : 0 ≤ sumN n f ∧ sumN n f ≤ B * (n : Int) := by
  induction n with
  | zero => simp [sumN]
  | succ n ih =>
    have h1 := ih fun d hd => h d (by omega)
    have h2 := h n (by omega)
    simp only [sumN]
    rw [show ((n + 1 : Nat) : Int) = (n : Int) + 1 by omega, Int.mul_add]
    omega
end
end Go.Proofs.Ytnikblimnjpmpaa.X

/- ==== PlLikeliest ==== -/
/- Plain laws, no program in sight: LikeliestPairs of both. -/
namespace Go.Proofs.Ytnikblimnjpmpaa.X
open Go.RowKit Go.Proofs.YtnikblimnjpmpaaW.PrintWords Go.Proofs.YtnikblimnjpmpaaW.PrintLast Go.Proofs.YtnikblimnjpmpaaW.PrintMore

theorem maxL_is : ∀ (l : List Int) (m : Int), (m ≤ maxL l m ∧ ∀ x ∈ l, x ≤ maxL l m) ∧ (maxL l m = m ∨ maxL l m ∈ l)
  | [], m => ⟨⟨Int.le_refl _, fun x h => by cases h⟩, .inl rfl⟩
  | x :: r, m => by
    obtain ⟨⟨h1, h2⟩, h3⟩ := maxL_is r (mx m x)
    have h4 : m ≤ mx m x ∧ x ≤ mx m x ∧ (mx m x = m ∨ mx m x = x) := by unfold mx; split <;> omega
    simp only [maxL]
    refine ⟨⟨by omega, fun y hy => ?_⟩, ?_⟩
    · rcases List.mem_cons.1 hy with rfl | hy
      · omega
      · exact h2 y hy
    · rcases h3 with h3 | h3
      · rcases h4.2.2 with h5 | h5
        · exact .inl (by omega)
        · exact .inr (List.mem_cons.2 (.inl (by omega)))
      · exact .inr (List.mem_cons_of_mem _ h3)
/-- The first place of a value. -/
theorem index_ev (t : List Int) (F : Nat → Int) (v : Int) (hl : t.length ≤ 1000) (hF : ∀ p, p < t.length → rd t (p : Int) = F p) (b : Nat) (hb : b < t.length) (hv : F b = v) (hmin : ∀ p, p < b → F p ≠ v) (d : Nat) : ∀ i : Nat, i + d = b → Ev (fun k => slices_Index_int_int.l0 k t v (t.length : Int) (i : Int)) (b : Int) := by
  induction d with
  | zero =>
    intro i hi
    obtain rfl : i = b := by omega
    refine Ev.step (f := fun _ => some (i : Int)) (fun k => ?_) (Ev.now _)
    simp only [slices_Index_int_int.l0]
    rw [if_pos (by omega), if_pos (by omega), if_pos (by omega), hF i hb, if_pos hv.symm]
  | succ d ih =>
    intro i hi
    have := hmin i (by omega)
    refine Ev.step (fun k => ?_) (ih (i + 1) (by omega))
    simp only [slices_Index_int_int.l0]
    rw [if_pos (by omega), if_pos (by omega), if_pos (by omega), hF i (by omega), if_neg (fun h => this h.symm), w64s (n := t.length) (by omega) (by omega)]
structure Best (F : Nat → Int) (i : Nat) (b : Nat) (m : Int) : Prop where
  nn : 0 ≤ m
  up : ∀ p, p < i → F p ≤ m
  at_ : (m = 0 ∧ b = 0) ∨ (0 < m ∧ b < i ∧ F b = m ∧ ∀ p, p < b → F p < m)
theorem best_loop (t : List Int) (F : Nat → Int) (hl : t.length ≤ 1000) (hF : ∀ p, p < t.length → rd t (p : Int) = F p) (d : Nat) : ∀ (i b : Nat) (m : Int), i + d = t.length → Best F i b m → ∃ (b' : Nat) (m' : Int), Best F t.length b' m' ∧ Ev (fun k => spec_LikeliestPairs.l0 k (b : Int) m t (t.length : Int) (i : Int)) ((b' : Int), true) := by
  induction d with
  | zero =>
    intro i b m hi hb
    obtain rfl : i = t.length := by omega
    refine ⟨b, m, hb, Ev.step (f := fun _ => some ((b : Int), true)) (fun k => ?_) (Ev.now _)⟩
    simp only [spec_LikeliestPairs.l0]
    rw [if_neg (by omega)]
  | succ d ih =>
    intro i b m hi hb
    have hlt : i < t.length := by omega
    by_cases c : F i > m
    · obtain ⟨b', m', h1, h2⟩ := ih (i + 1) i (F i) (by omega) ⟨by have := hb.nn; omega, fun p hp => by
        by_cases q : p = i
        · subst q; exact Int.le_refl _
        · have := hb.up p (by omega); omega, .inr ⟨by have := hb.nn; omega, by omega, rfl, fun p hp => by have := hb.up p hp; omega⟩⟩
      refine ⟨b', m', h1, Ev.step (fun k => ?_) h2⟩
      simp only [spec_LikeliestPairs.l0]
      rw [if_pos (by omega), if_pos (by omega), if_pos (by omega), hF i hlt, if_pos c, w64s hlt (by omega)]
    · obtain ⟨b', m', h1, h2⟩ := ih (i + 1) b m (by omega) ⟨hb.nn, fun p hp => by
        by_cases q : p = i
        · subst q; omega
        · exact hb.up p (by omega), by
          rcases hb.at_ with q | ⟨q1, q2, q3, q4⟩
          · exact .inl q
          · exact .inr ⟨q1, by omega, q3, q4⟩⟩
      refine ⟨b', m', h1, Ev.step (fun k => ?_) h2⟩
      simp only [spec_LikeliestPairs.l0]
      rw [if_pos (by omega), if_pos (by omega), if_pos (by omega), hF i hlt, if_neg c, w64s hlt (by omega)]
theorem LikeliestPairs_both (l : List Int) (a : Int) (hn : l.length ≤ 1048576) : ∃ r, Ev (fun k => spec_LikeliestPairs.f k l a) r ∧ Ev (fun k => impl_LikeliestPairs.f k l a) r := by
  obtain ⟨e1, e2⟩ := asked_ev l a hn
  cases h : asked l a with
  | false =>
    rw [h] at e1 e2
    exact ⟨(0, false), Ev.bind e2 (Ev.congr (f := fun _ => some (0, false)) (fun k => by rw [if_neg (by decide)]) (Ev.now _)), Ev.bind e1 (Ev.congr (f := fun _ => some (0, false)) (fun k => by rw [if_neg (by decide)]) (Ev.now _))⟩
  | true =>
    rw [h] at e1 e2
    obtain ⟨ns, K, hA⟩ := asked_is h
    obtain ⟨c1, c2, c3⟩ := cho_is hA
    obtain ⟨tab, t1, t2, t3⟩ := tab_is hA
    have hK := hA.le
    have h40 := hA.s40
    have hP := pairL_le ns
    have ha := hA.ha
    obtain ⟨b, m, hb, eb⟩ := best_loop tab (wF ns K) (by omega) (fun p hp => t2 p (by omega)) tab.length 0 0 0 (by omega) ⟨by omega, fun p hp => by omega, .inl ⟨rfl, rfl⟩⟩
    rw [t1] at hb
    obtain ⟨t, ht⟩ : ∃ t, t = numL (pairL ns) (wF ns K) := ⟨_, rfl⟩
    have hlen : t.length = pairL ns + 1 := by rw [ht, num_len]
    have hF : ∀ p, p < t.length → rd t (p : Int) = wF ns K p := fun p hp => by rw [ht, num_rd _ _ (by omega)]
    -- the greatest of the program's row
    have hmax : slices_Max_int_int.f t = some m := by
      cases hc : t with
      | nil => rw [hc] at hlen; simp at hlen
      | cons x r =>
        have hmem : ∀ y, y ∈ t ↔ ∃ p, p < t.length ∧ wF ns K p = y := fun y => by
          constructor
          · intro hy
            obtain ⟨p, hp, rfl⟩ := List.getElem_of_mem hy
            exact ⟨p, hp, by rw [← hF p hp, rd_get hp]⟩
          · rintro ⟨p, hp, rfl⟩
            rw [← hF p hp, rd_get hp]
            exact List.getElem_mem _
        obtain ⟨⟨g1, g2⟩, g3⟩ := maxL_is r x
        have hin : maxL r x ∈ t := by
          rw [hc]
          rcases g3 with g3 | g3
          · rw [g3]; exact List.mem_cons_self ..
          · exact List.mem_cons_of_mem _ g3
        have hall : ∀ y ∈ t, y ≤ maxL r x := fun y hy => by
          rw [hc] at hy
          rcases List.mem_cons.1 hy with rfl | hy
          · exact g1
          · exact g2 y hy
        obtain ⟨p, hp, hpe⟩ := (hmem _).1 hin
        have up : maxL r x ≤ m := by
          rw [← hpe]
          by_cases q : p < K + 1
          · exact hb.up p q
          · rw [wF_high p (.inr (by omega))]; exact hb.nn
        have dn : m ≤ maxL r x := by
          rcases hb.at_ with ⟨q1, _⟩ | ⟨q1, q2, q3, _⟩
          · rw [q1, ← hpe]; exact (wF_bd hA p).1
          · have : b < t.length := by
              rcases Nat.lt_or_ge b t.length with q | q
              · exact q
              · rw [wF_high b (.inl (by omega))] at q3; omega
            rw [← q3]
            exact hall _ ((hmem _).2 ⟨b, this, rfl⟩)
        show some (maxL r x) = some m
        rw [Int.le_antisymm up dn]
    have hbt : b < t.length ∧ wF ns K b = m ∧ ∀ p, p < b → wF ns K p ≠ m := by
      rcases hb.at_ with ⟨q1, q2⟩ | ⟨q1, q2, q3, q4⟩
      · subst q2
        have h0 := hb.up 0 (by omega)
        have h1 := (wF_bd hA 0).1
        exact ⟨by omega, by omega, fun p hp => by omega⟩
      · refine ⟨?_, q3, fun p hp => by have := q4 p hp; omega⟩
        rcases Nat.lt_or_ge b t.length with q | q
        · exact q
        · rw [wF_high b (.inl (by omega))] at q3; omega
    have ei := index_ev t (wF ns K) m (by omega) hF b hbt.1 hbt.2.1 hbt.2.2 b 0 (by omega)
    refine ⟨((b : Int), true), Ev.bind e2 (Ev.congr (f := fun k => (spec_chTable.f k l a 112).bind fun t => spec_LikeliestPairs.l0 k 0 0 t (t.length : Int) 0) (fun k => by rw [if_pos rfl]) (Ev.bind t3 eb)), Ev.bind e1 (Ev.congr (f := fun k => (slices_Index_int_int.l0 k t m (t.length : Int) ((0 : Nat) : Int)).bind fun q => some (q, true)) (fun k => ?_) (Ev.bind ei (Ev.now _)))⟩
    rw [if_pos rfl, c1]
    simp only [Option.bind_some]
    rw [if_pos (by omega), if_pos (by omega), ha, c3, ← ht, hmax]
    rfl
end Go.Proofs.Ytnikblimnjpmpaa.X
