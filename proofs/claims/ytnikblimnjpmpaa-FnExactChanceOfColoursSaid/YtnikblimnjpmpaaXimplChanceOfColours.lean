-- Printed by xprint.py (a program of this session's, in wip/tools) out of the translation.
import Derived.Test.YtnikblimnjpmpaaX0
import Derived.Test.YtnikblimnjpmpaaXimplchoose
import Derived.Test.YtnikblimnjpmpaaXimplfraction
import Derived.Test.YtnikblimnjpmpaaXimplisNumber
import Derived.Test.YtnikblimnjpmpaaXimpltotal
namespace Go.Proofs.Ytnikblimnjpmpaa.X
open Go.RowKit Go.Proofs.YtnikblimnjpmpaaW.PrintWords Go.Proofs.YtnikblimnjpmpaaW.PrintLast Go.Proofs.YtnikblimnjpmpaaW.PrintMore
attribute [local go_sem] max2_int min2_int max_two min_two max_three min_three max_four min_four   -- for this text's walks alone
set_option linter.unusedVariables false
set_option linter.unusedSimpArgs false

/-! ### impl_ChanceOfColours: function 13 -/
mutual
def impl_ChanceOfColours.j0 : Nat → List Int → Int → Int → Bool → Option (Int × Int × Bool)
  | 0, _, _, _, _ => none
  | k + 1, x0, x1, x2, x23 => if x23 = true then (some (0, 0, false)) else (if 0 ≤ (wrap64 (x1 + 1)) then (if (wrap64 (x1 + 1) : Int).toNat ≤ 11728124029610 then ((some (List.replicate (wrap64 (x1 + 1) : Int).toNat [] : List (List Int))).bind fun y158 => (impl_ChanceOfColours.l0 k x0 x1 x2 y158 (y158.length : Int) 0)) else (none)) else (none))
def impl_ChanceOfColours.l0 : Nat → List Int → Int → Int → List (List Int) → Int → Int → Option (Int × Int × Bool)
  | 0, _, _, _, _, _, _ => none
  | k + 1, x0, x1, x2, x9, x28, x29 => if x29 < x28 then (if 0 ≤ (wrap64 ((x0.length : Int) + 1)) then (if (wrap64 ((x0.length : Int) + 1) : Int).toNat ≤ 35184372088832 then (if 0 ≤ x29 then (if x29 < (x9.length : Int) then (impl_ChanceOfColours.l0 k x0 x1 x2 (x9.set (x29 : Int).toNat (List.replicate (wrap64 ((x0.length : Int) + 1) : Int).toNat 0)) x28 (wrap64 (x29 + 1))) else (none)) else (none)) else (none)) else (none)) else (if 0 < (x9.length : Int) then (if 0 < ((rd_L1 x9 0).length : Int) then (impl_ChanceOfColours.l1 k x0 x1 x2 (x9.set (0 : Int).toNat ((rd_L1 x9 0).set (0 : Int).toNat 1)) x0 (x0.length : Int) 0) else (none)) else (none))
def impl_ChanceOfColours.l1 : Nat → List Int → Int → Int → List (List Int) → List Int → Int → Int → Option (Int × Int × Bool)
  | 0, _, _, _, _, _, _, _ => none
  | k + 1, x0, x1, x2, x9, x44, x45, x46 => if x46 < x45 then (if 0 ≤ x46 then (if x46 < (x44.length : Int) then (impl_ChanceOfColours.l2 k x0 x1 x2 x9 (rd x44 x46) x1 x44 x45 x46) else (none)) else (none)) else (if x2 > (x0.length : Int) then (some (0, 1, true)) else (if 0 ≤ x1 then (if x1 < (x9.length : Int) then (if 0 ≤ x2 then (if x2 < ((rd_L1 x9 x1).length : Int) then ((impl_total.f k x0).bind fun t180 => ((impl_choose.f k t180 x1).bind fun t181 => ((impl_fraction.f k (rd (rd_L1 x9 x1) x2) t181).bind fun bt182 => (some (bt182.1, bt182.2.1, bt182.2.2))))) else (none)) else (none)) else (none)) else (none)))
def impl_ChanceOfColours.l2 : Nat → List Int → Int → Int → List (List Int) → Int → Int → List Int → Int → Int → Option (Int × Int × Bool)
  | 0, _, _, _, _, _, _, _, _, _ => none
  | k + 1, x0, x1, x2, x9, x12, x13, x44, x45, x46 => if x13 ≥ 0 then (impl_ChanceOfColours.l3 k x0 x1 x2 x9 x12 x13 (x0.length : Int) x44 x45 x46) else (impl_ChanceOfColours.l1 k x0 x1 x2 x9 x44 x45 (wrap64 (x46 + 1)))
def impl_ChanceOfColours.l3 : Nat → List Int → Int → Int → List (List Int) → Int → Int → Int → List Int → Int → Int → Option (Int × Int × Bool)
  | 0, _, _, _, _, _, _, _, _, _, _ => none
  | k + 1, x0, x1, x2, x9, x12, x13, x14, x44, x45, x46 => if x14 ≥ 1 then (impl_ChanceOfColours.l4 k x0 x1 x2 x9 x12 x13 x14 1 x44 x45 x46) else (impl_ChanceOfColours.l2 k x0 x1 x2 x9 x12 (wrap64 (x13 - 1)) x44 x45 x46)
def impl_ChanceOfColours.l4 : Nat → List Int → Int → Int → List (List Int) → Int → Int → Int → Int → List Int → Int → Int → Option (Int × Int × Bool)
  | 0, _, _, _, _, _, _, _, _, _, _, _ => none
  | k + 1, x0, x1, x2, x9, x12, x13, x14, x15, x44, x45, x46 => if x15 ≤ (mn x12 x13) then (if 0 ≤ x13 then (if x13 < (x9.length : Int) then (if 0 ≤ x14 then (if x14 < ((rd_L1 x9 x13).length : Int) then ((impl_choose.f k x12 x15).bind fun t172 => (if 0 ≤ (wrap64 (x13 - x15)) then (if (wrap64 (x13 - x15)) < (x9.length : Int) then (if 0 ≤ (wrap64 (x14 - 1)) then (if (wrap64 (x14 - 1)) < ((rd_L1 x9 (wrap64 (x13 - x15))).length : Int) then (impl_ChanceOfColours.l4 k x0 x1 x2 (x9.set (x13 : Int).toNat ((rd_L1 x9 x13).set (x14 : Int).toNat (wrap64 ((rd (rd_L1 x9 x13) x14) + (wrap64 (t172 * (rd (rd_L1 x9 (wrap64 (x13 - x15))) (wrap64 (x14 - 1))))))))) x12 x13 x14 (wrap64 (x15 + 1)) x44 x45 x46) else (none)) else (none)) else (none)) else (none))) else (none)) else (none)) else (none)) else (none)) else (impl_ChanceOfColours.l3 k x0 x1 x2 x9 x12 x13 (wrap64 (x14 - 1)) x44 x45 x46)
end
def impl_ChanceOfColours.f (k : Nat) (l0 : List Int) (a1 : Int) (a2 : Int) : Option (Int × Int × Bool) := (impl_isNumber.f k l0 a1).bind fun t157 => (if t157 = true then (impl_ChanceOfColours.j0 k l0 a1 a2 (decide (a2 < 0))) else (impl_ChanceOfColours.j0 k l0 a1 a2 true))
theorem impl_ChanceOfColours.mono_l : ∀ k, (∀ y0 y1 y2 y3, LeO (impl_ChanceOfColours.j0 k y0 y1 y2 y3) (impl_ChanceOfColours.j0 (k + 1) y0 y1 y2 y3)) ∧ (∀ y0 y1 y2 y3 y4 y5, LeO (impl_ChanceOfColours.l0 k y0 y1 y2 y3 y4 y5) (impl_ChanceOfColours.l0 (k + 1) y0 y1 y2 y3 y4 y5)) ∧ (∀ y0 y1 y2 y3 y4 y5 y6, LeO (impl_ChanceOfColours.l1 k y0 y1 y2 y3 y4 y5 y6) (impl_ChanceOfColours.l1 (k + 1) y0 y1 y2 y3 y4 y5 y6)) ∧ (∀ y0 y1 y2 y3 y4 y5 y6 y7 y8, LeO (impl_ChanceOfColours.l2 k y0 y1 y2 y3 y4 y5 y6 y7 y8) (impl_ChanceOfColours.l2 (k + 1) y0 y1 y2 y3 y4 y5 y6 y7 y8)) ∧ (∀ y0 y1 y2 y3 y4 y5 y6 y7 y8 y9, LeO (impl_ChanceOfColours.l3 k y0 y1 y2 y3 y4 y5 y6 y7 y8 y9) (impl_ChanceOfColours.l3 (k + 1) y0 y1 y2 y3 y4 y5 y6 y7 y8 y9)) ∧ (∀ y0 y1 y2 y3 y4 y5 y6 y7 y8 y9 y10, LeO (impl_ChanceOfColours.l4 k y0 y1 y2 y3 y4 y5 y6 y7 y8 y9 y10) (impl_ChanceOfColours.l4 (k + 1) y0 y1 y2 y3 y4 y5 y6 y7 y8 y9 y10))
  | 0 => ⟨fun _ _ _ _ r h => by simp [impl_ChanceOfColours.j0] at h, fun _ _ _ _ _ _ r h => by simp [impl_ChanceOfColours.l0] at h, fun _ _ _ _ _ _ _ r h => by simp [impl_ChanceOfColours.l1] at h, fun _ _ _ _ _ _ _ _ _ r h => by simp [impl_ChanceOfColours.l2] at h, fun _ _ _ _ _ _ _ _ _ _ r h => by simp [impl_ChanceOfColours.l3] at h, fun _ _ _ _ _ _ _ _ _ _ _ r h => by simp [impl_ChanceOfColours.l4] at h⟩
  | k + 1 => by
    obtain ⟨ih0, ih1, ih2, ih3, ih4, ih5⟩ := impl_ChanceOfColours.mono_l k
    refine ⟨?_, ?_, ?_, ?_, ?_, ?_⟩
    · intro y0 y1 y2 y3
      unfold impl_ChanceOfColours.j0
      repeat' first
      | (with_reducible exact ih0 _ _ _ _)
      | (with_reducible exact ih1 _ _ _ _ _ _)
      | (with_reducible exact ih2 _ _ _ _ _ _ _)
      | (with_reducible exact ih3 _ _ _ _ _ _ _ _ _)
      | (with_reducible exact ih4 _ _ _ _ _ _ _ _ _ _)
      | (with_reducible exact ih5 _ _ _ _ _ _ _ _ _ _ _)
      | (with_reducible exact impl_choose.mono _ _ _)
      | (with_reducible exact impl_fraction.mono _ _ _)
      | (with_reducible exact impl_isNumber.mono _ _ _)
      | (with_reducible exact impl_total.mono _ _)
      | (with_reducible exact LeO.refl _)
      | (with_reducible exact LeO.none _)
      | (with_reducible refine LeO.ite ?_ ?_)
      | (with_reducible refine LeO.bind ?_ (fun _ => ?_))
      | exact ih0 _ _ _ _
      | exact ih1 _ _ _ _ _ _
      | exact ih2 _ _ _ _ _ _ _
      | exact ih3 _ _ _ _ _ _ _ _ _
      | exact ih4 _ _ _ _ _ _ _ _ _ _
      | exact ih5 _ _ _ _ _ _ _ _ _ _ _
      | exact impl_choose.mono _ _ _
      | exact impl_fraction.mono _ _ _
      | exact impl_isNumber.mono _ _ _
      | exact impl_total.mono _ _
      | exact LeO.none _
      | refine LeO.ite ?_ ?_
      | refine LeO.bind ?_ (fun _ => ?_)
    · intro y0 y1 y2 y3 y4 y5
      unfold impl_ChanceOfColours.l0
      repeat' first
      | (with_reducible exact ih0 _ _ _ _)
      | (with_reducible exact ih1 _ _ _ _ _ _)
      | (with_reducible exact ih2 _ _ _ _ _ _ _)
      | (with_reducible exact ih3 _ _ _ _ _ _ _ _ _)
      | (with_reducible exact ih4 _ _ _ _ _ _ _ _ _ _)
      | (with_reducible exact ih5 _ _ _ _ _ _ _ _ _ _ _)
      | (with_reducible exact impl_choose.mono _ _ _)
      | (with_reducible exact impl_fraction.mono _ _ _)
      | (with_reducible exact impl_isNumber.mono _ _ _)
      | (with_reducible exact impl_total.mono _ _)
      | (with_reducible exact LeO.refl _)
      | (with_reducible exact LeO.none _)
      | (with_reducible refine LeO.ite ?_ ?_)
      | (with_reducible refine LeO.bind ?_ (fun _ => ?_))
      | exact ih0 _ _ _ _
      | exact ih1 _ _ _ _ _ _
      | exact ih2 _ _ _ _ _ _ _
      | exact ih3 _ _ _ _ _ _ _ _ _
      | exact ih4 _ _ _ _ _ _ _ _ _ _
      | exact ih5 _ _ _ _ _ _ _ _ _ _ _
      | exact impl_choose.mono _ _ _
      | exact impl_fraction.mono _ _ _
      | exact impl_isNumber.mono _ _ _
      | exact impl_total.mono _ _
      | exact LeO.none _
      | refine LeO.ite ?_ ?_
      | refine LeO.bind ?_ (fun _ => ?_)
    · intro y0 y1 y2 y3 y4 y5 y6
      unfold impl_ChanceOfColours.l1
      repeat' first
      | (with_reducible exact ih0 _ _ _ _)
      | (with_reducible exact ih1 _ _ _ _ _ _)
      | (with_reducible exact ih2 _ _ _ _ _ _ _)
      | (with_reducible exact ih3 _ _ _ _ _ _ _ _ _)
      | (with_reducible exact ih4 _ _ _ _ _ _ _ _ _ _)
      | (with_reducible exact ih5 _ _ _ _ _ _ _ _ _ _ _)
      | (with_reducible exact impl_choose.mono _ _ _)
      | (with_reducible exact impl_fraction.mono _ _ _)
      | (with_reducible exact impl_isNumber.mono _ _ _)
      | (with_reducible exact impl_total.mono _ _)
      | (with_reducible exact LeO.refl _)
      | (with_reducible exact LeO.none _)
      | (with_reducible refine LeO.ite ?_ ?_)
      | (with_reducible refine LeO.bind ?_ (fun _ => ?_))
      | exact ih0 _ _ _ _
      | exact ih1 _ _ _ _ _ _
      | exact ih2 _ _ _ _ _ _ _
      | exact ih3 _ _ _ _ _ _ _ _ _
      | exact ih4 _ _ _ _ _ _ _ _ _ _
      | exact ih5 _ _ _ _ _ _ _ _ _ _ _
      | exact impl_choose.mono _ _ _
      | exact impl_fraction.mono _ _ _
      | exact impl_isNumber.mono _ _ _
      | exact impl_total.mono _ _
      | exact LeO.none _
      | refine LeO.ite ?_ ?_
      | refine LeO.bind ?_ (fun _ => ?_)
    · intro y0 y1 y2 y3 y4 y5 y6 y7 y8
      unfold impl_ChanceOfColours.l2
      repeat' first
      | (with_reducible exact ih0 _ _ _ _)
      | (with_reducible exact ih1 _ _ _ _ _ _)
      | (with_reducible exact ih2 _ _ _ _ _ _ _)
      | (with_reducible exact ih3 _ _ _ _ _ _ _ _ _)
      | (with_reducible exact ih4 _ _ _ _ _ _ _ _ _ _)
      | (with_reducible exact ih5 _ _ _ _ _ _ _ _ _ _ _)
      | (with_reducible exact impl_choose.mono _ _ _)
      | (with_reducible exact impl_fraction.mono _ _ _)
      | (with_reducible exact impl_isNumber.mono _ _ _)
      | (with_reducible exact impl_total.mono _ _)
      | (with_reducible exact LeO.refl _)
      | (with_reducible exact LeO.none _)
      | (with_reducible refine LeO.ite ?_ ?_)
      | (with_reducible refine LeO.bind ?_ (fun _ => ?_))
      | exact ih0 _ _ _ _
      | exact ih1 _ _ _ _ _ _
      | exact ih2 _ _ _ _ _ _ _
      | exact ih3 _ _ _ _ _ _ _ _ _
      | exact ih4 _ _ _ _ _ _ _ _ _ _
      | exact ih5 _ _ _ _ _ _ _ _ _ _ _
      | exact impl_choose.mono _ _ _
      | exact impl_fraction.mono _ _ _
      | exact impl_isNumber.mono _ _ _
      | exact impl_total.mono _ _
      | exact LeO.none _
      | refine LeO.ite ?_ ?_
      | refine LeO.bind ?_ (fun _ => ?_)
    · intro y0 y1 y2 y3 y4 y5 y6 y7 y8 y9
      unfold impl_ChanceOfColours.l3
      repeat' first
      | (with_reducible exact ih0 _ _ _ _)
      | (with_reducible exact ih1 _ _ _ _ _ _)
      | (with_reducible exact ih2 _ _ _ _ _ _ _)
      | (with_reducible exact ih3 _ _ _ _ _ _ _ _ _)
      | (with_reducible exact ih4 _ _ _ _ _ _ _ _ _ _)
      | (with_reducible exact ih5 _ _ _ _ _ _ _ _ _ _ _)
      | (with_reducible exact impl_choose.mono _ _ _)
      | (with_reducible exact impl_fraction.mono _ _ _)
      | (with_reducible exact impl_isNumber.mono _ _ _)
      | (with_reducible exact impl_total.mono _ _)
      | (with_reducible exact LeO.refl _)
      | (with_reducible exact LeO.none _)
      | (with_reducible refine LeO.ite ?_ ?_)
      | (with_reducible refine LeO.bind ?_ (fun _ => ?_))
      | exact ih0 _ _ _ _
      | exact ih1 _ _ _ _ _ _
      | exact ih2 _ _ _ _ _ _ _
      | exact ih3 _ _ _ _ _ _ _ _ _
      | exact ih4 _ _ _ _ _ _ _ _ _ _
      | exact ih5 _ _ _ _ _ _ _ _ _ _ _
      | exact impl_choose.mono _ _ _
      | exact impl_fraction.mono _ _ _
      | exact impl_isNumber.mono _ _ _
      | exact impl_total.mono _ _
      | exact LeO.none _
      | refine LeO.ite ?_ ?_
      | refine LeO.bind ?_ (fun _ => ?_)
    · intro y0 y1 y2 y3 y4 y5 y6 y7 y8 y9 y10
      unfold impl_ChanceOfColours.l4
      repeat' first
      | (with_reducible exact ih0 _ _ _ _)
      | (with_reducible exact ih1 _ _ _ _ _ _)
      | (with_reducible exact ih2 _ _ _ _ _ _ _)
      | (with_reducible exact ih3 _ _ _ _ _ _ _ _ _)
      | (with_reducible exact ih4 _ _ _ _ _ _ _ _ _ _)
      | (with_reducible exact ih5 _ _ _ _ _ _ _ _ _ _ _)
      | (with_reducible exact impl_choose.mono _ _ _)
      | (with_reducible exact impl_fraction.mono _ _ _)
      | (with_reducible exact impl_isNumber.mono _ _ _)
      | (with_reducible exact impl_total.mono _ _)
      | (with_reducible exact LeO.refl _)
      | (with_reducible exact LeO.none _)
      | (with_reducible refine LeO.ite ?_ ?_)
      | (with_reducible refine LeO.bind ?_ (fun _ => ?_))
      | exact ih0 _ _ _ _
      | exact ih1 _ _ _ _ _ _
      | exact ih2 _ _ _ _ _ _ _
      | exact ih3 _ _ _ _ _ _ _ _ _
      | exact ih4 _ _ _ _ _ _ _ _ _ _
      | exact ih5 _ _ _ _ _ _ _ _ _ _ _
      | exact impl_choose.mono _ _ _
      | exact impl_fraction.mono _ _ _
      | exact impl_isNumber.mono _ _ _
      | exact impl_total.mono _ _
      | exact LeO.none _
      | refine LeO.ite ?_ ?_
      | refine LeO.bind ?_ (fun _ => ?_)
theorem impl_ChanceOfColours.mono : ∀ a0 a1 a2 k, LeO (impl_ChanceOfColours.f k a0 a1 a2) (impl_ChanceOfColours.f (k + 1) a0 a1 a2) := by
  intro a0 a1 a2 k
  obtain ⟨ih0, ih1, ih2, ih3, ih4, ih5⟩ := impl_ChanceOfColours.mono_l k
  unfold impl_ChanceOfColours.f
  repeat' first
      | (with_reducible exact ih0 _ _ _ _)
      | (with_reducible exact ih1 _ _ _ _ _ _)
      | (with_reducible exact ih2 _ _ _ _ _ _ _)
      | (with_reducible exact ih3 _ _ _ _ _ _ _ _ _)
      | (with_reducible exact ih4 _ _ _ _ _ _ _ _ _ _)
      | (with_reducible exact ih5 _ _ _ _ _ _ _ _ _ _ _)
      | (with_reducible exact impl_choose.mono _ _ _)
      | (with_reducible exact impl_fraction.mono _ _ _)
      | (with_reducible exact impl_isNumber.mono _ _ _)
      | (with_reducible exact impl_total.mono _ _)
      | (with_reducible exact LeO.refl _)
      | (with_reducible exact LeO.none _)
      | (with_reducible refine LeO.ite ?_ ?_)
      | (with_reducible refine LeO.bind ?_ (fun _ => ?_))
      | exact ih0 _ _ _ _
      | exact ih1 _ _ _ _ _ _
      | exact ih2 _ _ _ _ _ _ _
      | exact ih3 _ _ _ _ _ _ _ _ _
      | exact ih4 _ _ _ _ _ _ _ _ _ _
      | exact ih5 _ _ _ _ _ _ _ _ _ _ _
      | exact impl_choose.mono _ _ _
      | exact impl_fraction.mono _ _ _
      | exact impl_isNumber.mono _ _ _
      | exact impl_total.mono _ _
      | exact LeO.none _
      | refine LeO.ite ?_ ?_
      | refine LeO.bind ?_ (fun _ => ?_)
def impl_ChanceOfColours.T22 : Bool × List (List Nat × List Nat) := (true, [([], []), ([], []), ([0, 1], [0, 1]), ([2], [2]), ([], []), ([3, 4], [3, 4]), ([5], [5]), ([], []), ([], []), ([7, 8], [7, 8]), ([], []), ([], []), ([], []), ([11, 12], [11, 12]), ([10, 13], [10, 13]), ([14], [14]), ([], []), ([16], [16]), ([15, 17], [15, 17]), ([18], [18]), ([9, 19], [9, 19]), ([6, 20], [6, 20]), ([3, 4, 0, 1, 2, 3, 4, 5, 6, 7, 8, 9, 10, 11, 12, 13, 14, 15, 16, 17, 18, 19, 20, 21], [3, 4]), ([22, 21, 9, 0, 1, 2, 3, 4, 5, 6, 7, 8, 9, 10, 11, 12, 13, 14, 15, 16, 17, 18, 19, 20, 21], [21, 22])])
def impl_ChanceOfColours.B22 : List Nat := [0, 0, 3, 7, 0, 31, 63, 0, 0, 384, 0, 0, 0, 6144, 15360, 31744, 0, 65536, 261120, 523264, 1048448, 2097151, 4194303, 8388607]
theorem impl_ChanceOfColours.tab22 : rtab .any (opsOf Try.f13 22) = impl_ChanceOfColours.T22 := by kernel_rfl
theorem impl_ChanceOfColours.bits22 : waitsOk impl_ChanceOfColours.T22.2 impl_ChanceOfColours.B22 = true := by kernel_rfl
def impl_ChanceOfColours.T26 : Bool × List (List Nat × List Nat) := (true, [([], []), ([], []), ([0, 1], [0, 1]), ([2], [2]), ([], []), ([3, 4], [3, 4]), ([5], [5]), ([], []), ([7], [7]), ([], []), ([8, 9, 8], [8, 9]), ([6, 10, 10], [6, 10]), ([11], [11]), ([11], [11]), ([11], [11]), ([12, 11, 0, 1, 2, 3, 4, 5, 6, 7, 8, 9, 10, 11, 12, 13, 14], [12]), ([13, 15, 0, 1, 2, 3, 4, 5, 6, 7, 8, 9, 10, 11, 12, 13, 14, 15], [13]), ([14, 16, 0, 1, 2, 3, 4, 5, 6, 7, 8, 9, 10, 11, 12, 13, 14, 15, 16], [14])])
def impl_ChanceOfColours.B26 : List Nat := [0, 0, 3, 7, 0, 31, 63, 0, 128, 0, 896, 2047, 4095, 4095, 4095, 32767, 65535, 131071]
theorem impl_ChanceOfColours.tab26 : rtab .any (opsOf Try.f13 26) = impl_ChanceOfColours.T26 := by kernel_rfl
theorem impl_ChanceOfColours.bits26 : waitsOk impl_ChanceOfColours.T26.2 impl_ChanceOfColours.B26 = true := by kernel_rfl
set_option maxHeartbeats 8000000 in
set_option maxRecDepth 100000 in
theorem impl_ChanceOfColours.calls (k : Nat) (A0 : Option Addr) (c0 : Nat) (l0 : List Int) (a1 : Int) (a2 : Int) (r1 : Int) (r2 : Int) (r3 : Bool) (w : World) (hr0 : Kd.C (Kd.int .i64) w A0 l0.length l0) (hc0 : l0.length ≤ c0) (h : impl_ChanceOfColours.f k l0 a1 a2 = some (r1, r2, r3)) :
    Calls Try.prog 13 #[.slice A0 l0.length c0, .int .i64 a1, .int .i64 a2] w fun e w' => e = .returned (.tuple #[.int .i64 r1, .int .i64 r2, .bool r3]) ∧ Below w.heap.size w w' := by
  have HR0 := Aside0.mk hr0
  have HC0 := Aside0.mk hc0
  clear hr0 hc0
  have HB := Aside0.mk (Below.refl w.heap.size w)
  have H : ((impl_isNumber.f k l0 a1).bind fun t157 => (if t157 = true then (impl_ChanceOfColours.j0 k l0 a1 a2 (decide (a2 < 0))) else (impl_ChanceOfColours.j0 k l0 a1 a2 true))) = some (r1, r2, r3) := h
  clear h
  have HC4 := Aside0.mk H
  clear H
  go_enter Try.func13, Try.ntmps13
  go_upto_region 1 with (fail)
  go_cut [23] (fun v23 wc => ∃ (kq : Nat) (x23_3 : Bool), v23 = .bool x23_3 ∧ Aside0 (impl_ChanceOfColours.j0 kq l0 a1 a2 x23_3 = some (r1, r2, r3)) ∧ Aside0 (kq ≤ k) ∧ Aside0 (Below w.heap.size w wc))
  case first =>
    have H := HC4.out
    clear HC4
    replace H := Option.bind_eq_some_iff.mp H
    obtain ⟨t157, A50, H⟩ := H
    replace H : (if t157 = true then (impl_ChanceOfColours.j0 k l0 a1 a2 (decide (a2 < 0))) else (impl_ChanceOfColours.j0 k l0 a1 a2 true)) = some (r1, r2, r3) := H
    have A5 := Aside0.mk A50
    clear A50
    by_cases c6 : t157 = true
    · subst c6
      have H1 : (impl_ChanceOfColours.j0 k l0 a1 a2 (decide (a2 < 0))) = some (r1, r2, r3) := by rw [if_pos rfl] at H; exact H
      clear H
      have H := H1
      clear H1
      have H' := Aside0.mk H
      clear H
      go_wp2_with (first | ((with_reducible refine gate_callee (f := 37) rfl ?_); refine goesL_ (some 18) rfl rfl Try.func37 (by kernel_rfl) rfl #[.slice A0 l0.length c0, .int .i64 a1] rfl (by (try simp only [List.map_toArray, List.map_cons, List.map_nil]); first | done | rfl | (simp only [List.length_drop, List.length_take]; rfl)) ?_; (with_reducible refine (impl_isNumber.calls k _ _ l0 a1 true _ ?side1 ?side2 A5.out).mono ?_); (case side1 => repeat (first | exact (Kd.C_below HR0.out HB.out) | (with_reducible refine Kd.C_alloc ?_ _) | (with_reducible refine Kd.C_drewN ?_ _) | (with_reducible refine Kd.C_drew ?_))); (case side2 => exact HC0.out); rintro e w7 ⟨rfl, hb⟩; refine ⟨_, rfl, ?_⟩; have n0_ := Aside0.mk (below_step (by repeat (first | (with_reducible first | exact HB.out | apply below_alloc | apply pw_below_drewN | apply below_drew1) | exact HB.out)) hb); clear HB; have HB := n0_; clear n0_; (try clear hb); (try clear hb2); (try clear hk); (try clear hi)))
      go_meet
      case rel => exact ⟨_, (decide (a2 < 0)), (by first | rfl | (simp; done) | (simp [*]; done)), H', ⟨by first | omega | exact Nat.le_refl _⟩, ⟨by repeat (first | (with_reducible first | exact HB.out | apply below_alloc | apply pw_below_drewN | apply below_drew1) | exact HB.out)⟩⟩
    · replace c6 := Bool.eq_false_iff.mpr c6
      subst c6
      have H1 : (impl_ChanceOfColours.j0 k l0 a1 a2 true) = some (r1, r2, r3) := by rw [if_neg (show ¬ (false = true) by decide)] at H; exact H
      clear H
      have H := H1
      clear H1
      have H' := Aside0.mk H
      clear H
      go_wp2_with (first | ((with_reducible refine gate_callee (f := 37) rfl ?_); refine goesL_ (some 18) rfl rfl Try.func37 (by kernel_rfl) rfl #[.slice A0 l0.length c0, .int .i64 a1] rfl (by (try simp only [List.map_toArray, List.map_cons, List.map_nil]); first | done | rfl | (simp only [List.length_drop, List.length_take]; rfl)) ?_; (with_reducible refine (impl_isNumber.calls k _ _ l0 a1 false _ ?side1 ?side2 A5.out).mono ?_); (case side1 => repeat (first | exact (Kd.C_below HR0.out HB.out) | (with_reducible refine Kd.C_alloc ?_ _) | (with_reducible refine Kd.C_drewN ?_ _) | (with_reducible refine Kd.C_drew ?_))); (case side2 => exact HC0.out); rintro e w8 ⟨rfl, hb⟩; refine ⟨_, rfl, ?_⟩; have n0_ := Aside0.mk (below_step (by repeat (first | (with_reducible first | exact HB.out | apply below_alloc | apply pw_below_drewN | apply below_drew1) | exact HB.out)) hb); clear HB; have HB := n0_; clear n0_; (try clear hb); (try clear hb2); (try clear hk); (try clear hi)))
      go_meet
      case rel => exact ⟨_, (true), (by first | rfl | (simp; done) | (simp [*]; done)), H', ⟨by first | omega | exact Nat.le_refl _⟩, ⟨by repeat (first | (with_reducible first | exact HB.out | apply below_alloc | apply pw_below_drewN | apply below_drew1) | exact HB.out)⟩⟩
  case rest =>
    clear HC4
    try clear c1
    try clear p2
    try clear c3
    try clear c6
    obtain ⟨kq, x23_3, rfl, HA, HJ3, HB⟩ := hcut
    cases kq with
    | zero => exact absurd HA.out (by simp [impl_ChanceOfColours.j0])
    | succ kj3 =>
      have H := HA.out
      clear HA
      simp only [impl_ChanceOfColours.j0] at H
      by_cases c9 : x23_3 = true
      · subst c9
        have H1 : (some (0, 0, false)) = some (r1, r2, r3) := by rw [if_pos rfl] at H; exact H
        clear H
        have H := H1
        clear H1
        simp only [Option.some.injEq, Prod.mk.injEq] at H
        obtain ⟨rfl, rfl, rfl⟩ := H
        go_wp2
        go_ret3
        exact ⟨by first | rfl | (simp [errW_none, errW_some] <;> rfl) | (simp [*, errW_none, errW_some] <;> rfl), by repeat (first | (with_reducible first | exact HB.out | apply below_alloc | apply pw_below_drewN | apply below_drew1) | exact HB.out)⟩
      · replace c9 := Bool.eq_false_iff.mpr c9
        subst c9
        have H1 : (if 0 ≤ (wrap64 (a1 + 1)) then (if (wrap64 (a1 + 1) : Int).toNat ≤ 11728124029610 then ((some (List.replicate (wrap64 (a1 + 1) : Int).toNat [] : List (List Int))).bind fun y158 => (impl_ChanceOfColours.l0 kj3 l0 a1 a2 y158 (y158.length : Int) 0)) else (none)) else (none)) = some (r1, r2, r3) := by rw [if_neg (show ¬ (false = true) by decide)] at H; exact H
        clear H
        have H := H1
        clear H1
        obtain ⟨ji10, hji10⟩ : ∃ j_ : Int, (wrap64 (a1 + 1)) = j_ := ⟨_, rfl⟩
        replace H : (if 0 ≤ (ji10) then (if (ji10 : Int).toNat ≤ 11728124029610 then ((some (List.replicate (ji10 : Int).toNat [] : List (List Int))).bind fun y158 => (impl_ChanceOfColours.l0 kj3 l0 a1 a2 y158 (y158.length : Int) 0)) else (none)) else (none)) = some (r1, r2, r3) := by first | (rw [hji10] at H; exact H) | (simp only [hji10] at H ⊢; exact H)
        have hji10w : (IntKind.i64.wrap (a1 + 1)) = ji10 := (i64_w _).trans hji10
        by_cases c11 : 0 ≤ (ji10)
        · rw [if_pos c11] at H
          have c11b0 := eq_true c11
          have c11b1 : decide (0 ≤ (ji10)) = true := decide_eq_true c11
          clear c11
          by_cases c12 : (ji10 : Int).toNat ≤ 11728124029610
          · rw [if_pos c12] at H
            have c12b0 := eq_true c12
            have c12b1 : decide ((ji10 : Int).toNat ≤ 11728124029610) = true := decide_eq_true c12
            clear c12
            obtain ⟨y158, hy158⟩ : ∃ y_ : List (List Int), y_ = (List.replicate (ji10 : Int).toNat []) := ⟨_, rfl⟩
            replace H : (impl_ChanceOfColours.l0 kj3 l0 a1 a2 y158 (y158.length : Int) 0) = some (r1, r2, r3) := by first | (rw [hy158]; with_reducible exact H) | (have H2_ := (Option.bind_some _ _).symm.trans H; rw [hy158]; with_reducible exact H2_) | (have H2_ := (Option.bind_some _ _).symm.trans H; with_reducible exact H2_) | with_reducible exact H | (rw [hy158]; exact H) | exact H
            have Ny158 := Aside0.mk hy158
            clear hy158
            have H' := Aside0.mk H
            clear H
            go_wp2_with (first | ((with_reducible refine gate_dst (N := 26) rfl ?_); refine Kd.S_make (Kd.slice 3 (Kd.int .i64)) _ 22 rfl (N := 26) rfl 44 _ _ rfl ji10 rfl rfl Try.underlying44 (.slice none 0 0) 24 info22 rfl (by decide) (by omega) [] (ok := fun _ => True) (okp := fun _ => True) ⟨_, rfl, Kd.R_nil _ _ _ _ _⟩ (fun _ hk => hk) trivial (of_decide_eq_true (by first | (with_reducible assumption) | assumption)) (Nat.le_trans (Nat.mul_le_mul_right _ (of_decide_eq_true (by first | (with_reducible assumption) | assumption) : ji10.toNat ≤ 11728124029610)) (by omega)) (Below.refl _ _) (Nat.le_refl _) ?_; intro v159 w13 ho14 hb hg_ hnew_; clear hg_ hnew_; (first | rw [← Ny158.out] at ho14 | (simp only [Int.reduceToNat] at ho14; rw [← Ny158.out] at ho14)); have n0_ := Aside0.mk (Kd.S_lower ho14 (below_size (by repeat (first | (with_reducible first | exact HB.out | apply below_alloc | apply pw_below_drewN | apply below_drew1) | exact HB.out)))); have n1_ := Aside0.mk (below_step (by repeat (first | (with_reducible first | exact HB.out | apply below_alloc | apply pw_below_drewN | apply below_drew1) | exact HB.out)) hb); clear HB; have HO160 := n0_; have HB := n1_; clear n0_ n1_; clear hb ho14; obtain ⟨Ao15, co15, eo15⟩ := Kd.S_slice HO160.out; subst eo15))
            go_loopg [29] kj3 (fun kq v29 w' => ∃ (x9_2 : List (List Int)) (x29_2 : Int), v29 = .int .i64 x29_2 ∧ Aside0 (impl_ChanceOfColours.l0 kq l0 a1 a2 x9_2 (y158.length : Int) x29_2 = some (r1, r2, r3)) ∧ Aside0 (kq ≤ kj3) ∧ Aside0 (Kd.S (Kd.slice 3 (Kd.int .i64)) 22 w' w.heap.size (fun _ => True) (.slice Ao15 y158.length co15) x9_2) ∧ Aside0 (Below w.heap.size w w'))
            case atStart => exact ⟨(y158), (0), (by first | rfl | (simp; done) | (simp [*]; done)), H', ⟨Nat.le_refl _⟩, ⟨by (with_reducible repeat (first | apply Kd.S_alloc | apply Kd.S_drewN | apply Kd.S_drew)); exact HO160.out⟩, ⟨by repeat (first | (with_reducible first | exact HB.out | apply below_alloc | apply pw_below_drewN | apply below_drew1) | exact HB.out)⟩⟩
            case round =>
              clear H'
              try clear c1
              try clear p2
              try clear c3
              try clear c6
              try clear p6
              try clear c9
              try clear c11
              try clear c11b0
              try clear c11b1
              try clear c12
              try clear c12b0
              try clear c12b1
              try clear c13
              try clear p2
              obtain ⟨x9_2, x29_2, rfl, HA, HK2, HO_9, HB⟩ := hrel
              have hl9_2 := (Kd.S_reads' HO_9.out).1
              rw [hl9_2] at HO_9
              (try simp only [hl9_2])
              cases gk with
              | zero => exact absurd HA.out (by simp [impl_ChanceOfColours.l0])
              | succ k2 =>
                have H := HA.out
                clear HA
                simp only [impl_ChanceOfColours.l0] at H
                by_cases c16 : x29_2 < (y158.length : Int)
                · rw [if_pos c16] at H
                  have c16b0 : decide (x29_2 < (y158.length : Int)) = true := decide_eq_true c16
                  clear c16
                  obtain ⟨ji17, hji17⟩ : ∃ j_ : Int, (wrap64 ((l0.length : Int) + 1)) = j_ := ⟨_, rfl⟩
                  replace H : (if 0 ≤ (ji17) then (if (ji17 : Int).toNat ≤ 35184372088832 then (if 0 ≤ x29_2 then (if x29_2 < (x9_2.length : Int) then (impl_ChanceOfColours.l0 k2 l0 a1 a2 (x9_2.set (x29_2 : Int).toNat (List.replicate (ji17 : Int).toNat 0)) (y158.length : Int) (wrap64 (x29_2 + 1))) else (none)) else (none)) else (none)) else (none)) = some (r1, r2, r3) := by first | (rw [hji17] at H; exact H) | (simp only [hji17] at H ⊢; exact H)
                  have hji17w : (IntKind.i64.wrap ((l0.length : Int) + 1)) = ji17 := (i64_w _).trans hji17
                  by_cases c18 : 0 ≤ (ji17)
                  · rw [if_pos c18] at H
                    have c18b0 := eq_true c18
                    have c18b1 : decide (0 ≤ (ji17)) = true := decide_eq_true c18
                    clear c18
                    by_cases c19 : (ji17 : Int).toNat ≤ 35184372088832
                    · rw [if_pos c19] at H
                      have c19b0 := eq_true c19
                      have c19b1 : decide ((ji17 : Int).toNat ≤ 35184372088832) = true := decide_eq_true c19
                      clear c19
                      obtain ⟨y161, hy161⟩ : ∃ y_ : List Int, y_ = (List.replicate (ji17 : Int).toNat 0) := ⟨_, rfl⟩
                      replace H : (if 0 ≤ x29_2 then (if x29_2 < (x9_2.length : Int) then (impl_ChanceOfColours.l0 k2 l0 a1 a2 (x9_2.set (x29_2 : Int).toNat y161) (y158.length : Int) (wrap64 (x29_2 + 1))) else (none)) else (none)) = some (r1, r2, r3) := by first | (rw [hy161]; with_reducible exact H) | (have H2_ := (Option.bind_some _ _).symm.trans H; rw [hy161]; with_reducible exact H2_) | (have H2_ := (Option.bind_some _ _).symm.trans H; with_reducible exact H2_) | with_reducible exact H | (rw [hy161]; exact H) | exact H
                      have Ny161 := Aside0.mk hy161
                      clear hy161
                      by_cases c20 : 0 ≤ x29_2
                      · rw [if_pos c20] at H
                        have c20b0 : decide (0 ≤ x29_2) = true := decide_eq_true c20
                        clear c20
                        by_cases c21 : x29_2 < (x9_2.length : Int)
                        · rw [if_pos c21] at H
                          have c21b0 : decide (x29_2 < (x9_2.length : Int)) = true := decide_eq_true c21
                          clear c21
                          obtain ⟨y164, hy164⟩ : ∃ y_ : List (List Int), y_ = (x9_2.set (x29_2 : Int).toNat y161) := ⟨_, rfl⟩
                          replace H : (impl_ChanceOfColours.l0 k2 l0 a1 a2 y164 (y158.length : Int) (wrap64 (x29_2 + 1))) = some (r1, r2, r3) := by first | (rw [hy164]; with_reducible exact H) | (have H2_ := (Option.bind_some _ _).symm.trans H; rw [hy164]; with_reducible exact H2_) | (have H2_ := (Option.bind_some _ _).symm.trans H; with_reducible exact H2_) | with_reducible exact H | (rw [hy164]; exact H) | exact H
                          have Ny164 := Aside0.mk hy164
                          clear hy164
                          have H' := Aside0.mk H
                          clear H
                          go_wp2_with (first | ((with_reducible refine gate_dst (N := 37) rfl ?_); refine Kd.R_make (Kd.int .i64) _ 3 rfl (N := 37) rfl 22 _ _ rfl ji17 rfl rfl Try.underlying22 (.int .i64 0) 8 info3 rfl (by decide) (by omega) 0 (ok := fun _ => True) (okp := fun _ => True) rfl (fun _ hk => hk) trivial (of_decide_eq_true (by first | (with_reducible assumption) | assumption)) (Nat.le_trans (Nat.mul_le_mul_right _ (of_decide_eq_true (by first | (with_reducible assumption) | assumption) : ji17.toNat ≤ 35184372088832)) (by omega)) (Below.refl _ _) (Nat.le_refl _) ?_; intro v162 w23 ho24 hb hg_ hnew_; clear hg_ hnew_; (first | rw [← Ny161.out] at ho24 | (simp only [Int.reduceToNat] at ho24; rw [← Ny161.out] at ho24)); have n0_ := Aside0.mk (Kd.S_elder' (by (with_reducible repeat (first | apply Kd.S_alloc | apply Kd.S_drewN | apply Kd.S_drew)); exact HO_9.out) (Kd.R_base ho24) hb); have n1_ := Aside0.mk (Kd.R_lower ho24 (below_size (by repeat (first | (with_reducible first | exact HB.out | apply below_alloc | apply pw_below_drewN | apply below_drew1) | exact HB.out)))); have n2_ := Aside0.mk (below_step (by repeat (first | (with_reducible first | exact HB.out | apply below_alloc | apply pw_below_drewN | apply below_drew1) | exact HB.out)) hb); clear HO_9; clear HB; have HO_9 := n0_; have HO163 := n1_; have HB := n2_; clear n0_ n1_ n2_; clear hb ho24; have p22 : 0 ≤ (x29_2 : Int) := of_decide_eq_true (by first | (with_reducible assumption) | assumption); have q22 : (x29_2 : Int) < ((x9_2.length : Int) : Int) := of_decide_eq_true (by first | (with_reducible assumption) | assumption); obtain ⟨go22, co22, eo22, gb22, gl22, cl22, HG22⟩ := Kd.S_form HO_9.out (by omega); (first | cases eo22 | (injection eo22 with ea_ en_ ec_; (first | subst ea_ | (injection ea_ with ea_; subst ea_)); subst ec_; clear en_)); have GB22 := Aside0.mk gb22; have GG22 := Aside0.mk HG22; clear gb22 gl22 HG22; obtain ⟨_, ce22, hcl22, hM22, hcc22, hfr22, _, _⟩ := Kd.S_elem HO_9.out [] (x29_2 : Int) p22 q22; obtain ⟨ve22_0, rfl, ge22_0⟩ := hM22; have hx22_0 := hcc22 0 _ rfl; have hf22_0 := hfr22 0; (try simp only [show ((Kd.slice 3 (Kd.int .i64))).sz = 1 from rfl, Nat.mul_one, Nat.add_zero] at hx22_0); (try simp only [show ((Kd.slice 3 (Kd.int .i64))).sz = 1 from rfl, Nat.mul_one, Nat.add_zero] at hf22_0); clear hcl22 hcc22 hfr22; (try clear hM22); replace p22 := eq_true p22; replace q22 := eq_true q22; have n_ := Aside0.mk (Kd.S_mono (ok' := (fun k_ => some k_ ≠ (v162 : Value).ownBlock)) HO_9.out (fun k_ hk => hk.2)); clear HO_9; have HO_9 := n_; clear n_; have HX25 := Aside0.mk (show Kd.S (Kd.slice 3 (Kd.int .i64)) 22 w23 w.heap.size (fun k_ => ((fun _ => True)) k_ ∧ ¬ ((fun k_ => some k_ = (v162 : Value).ownBlock)) k_) (.slice (some ⟨go22, 0, none⟩) x9_2.length co15) x9_2 from (by (with_reducible repeat (first | apply Kd.S_alloc | apply Kd.S_drewN | apply Kd.S_drew)); exact Kd.S_mono HO_9.out (fun k_ hk => ⟨trivial, fun e_ => hk e_⟩))); obtain ⟨oki25, ce25, hcl25, hM25, hcc25, hfr25, hoki25, hH25⟩ := Kd.S_elem HX25.out [] (x29_2 : Int) (of_decide_eq_true (by first | (with_reducible assumption) | assumption)) (by have h_ : (x29_2 : Int) < ((x9_2.length : Int) : Int) := of_decide_eq_true (by first | (with_reducible assumption) | assumption); first | exact h_ | (have e_ := (Kd.S_reads' HO_9.out).1; omega) | simpa using h_); obtain ⟨ve25_0, rfl, ge25_0⟩ := hM25; have HP25 := Kd.S_seg hH25 (of_decide_eq_true (by first | (with_reducible assumption) | assumption)) (by have h_ : (x29_2 : Int) < ((x9_2.length : Int) : Int) := of_decide_eq_true (by first | (with_reducible assumption) | assumption); first | exact h_ | (have e_ := (Kd.S_reads' HO_9.out).1; omega) | simpa using h_) (seg := [v162]) (j := 0) (show 1 ≤ 1 from by decide) (x' := y161) (Kd.M_row (Kd.R_mono (Kd.R_tight rfl (Kd.R_mono (ok' := fun k_ => ((fun _ => True)) k_ ∧ k_ ≠ go22) (Kd.R_apart' (HO163.out) (Kd.S_typed HO_9.out) (by decide)) (fun k_ hk => ⟨trivial, fun e_ => (hk.2) (by rw [e_]; rfl)⟩))) (fun _ h_ => Or.inr (h_)))) (fun _ hk => hk) (fun k_ hk_ => ((Kd.R_mono (ok' := fun k_ => ((fun _ => True)) k_ ∧ k_ ≠ go22) (Kd.R_apart' (HO163.out) (Kd.S_typed HO_9.out) (by decide)) (fun k_ hk => ⟨trivial, fun e_ => (hk.2) (by rw [e_]; rfl)⟩))).1 k_ hk_.symm); have hx25_0 := hcc25 0 _ rfl; (try simp only [show ((Kd.slice 3 (Kd.int .i64))).sz = 1 from rfl, Nat.mul_one, Nat.add_zero] at hx25_0); have hf25_0 := hfr25 0; (try simp only [show ((Kd.slice 3 (Kd.int .i64))).sz = 1 from rfl, Nat.mul_one, Nat.add_zero] at hf25_0); clear hcl25 hcc25 hfr25 hoki25 hH25; (try clear hM25); (try simp only [show ((Kd.slice 3 (Kd.int .i64))).sz = 1 from rfl, Nat.mul_one, Nat.add_zero] at HP25)) | ((with_reducible refine gate_store (t := 22) (p := 38) rfl ?_); refine store_event (t := 22) (p := 38) (v := ?vo_w26) (w1 := (w23.setCell ⟨go22, (x29_2 : Int).toNat, none⟩ (v162))) ?hg ?ho ?hn ?hr ?_; (case ho => rfl); (case hg => rfl); (case hn => rfl); (case hr => (first | (go_simp; done) | (go_simp; rfl) | (obtain ⟨A_, c_, e_⟩ := Kd.R_slice HO163.out; simp only [e_]; (first | (go_simp; done) | (go_simp; rfl))))); intro w26 hw; have hg : w23.grownBy w26 (some go22) := (by rw [hw]; exact HP25.2); have hp_ : Kd.S (Kd.slice 3 (Kd.int .i64)) 22 w26 w.heap.size (fun _ => True) (.slice (some ⟨go22, 0, none⟩) x9_2.length co15) y164 := (by rw [hw, Ny164.out]; exact HP25.1); clear HP25; have n0_ := Aside0.mk (hp_); have n1_ := Aside0.mk ((by rw [hw]; exact below_set (HB.out) GB22.out : Below w.heap.size w w26)); clear HO_9; clear HB; clear HO163; have HO_9 := n0_; have HB := n1_; clear n0_ n1_; clear hg hw hp_))
                          (try simp only [← hl9_2])
                          go_roundg k2
                          case measure => have := HJ3.out; have := HK2.out; omega
                          case rel => exact ⟨(y164), (wrap64 (x29_2 + 1)), (by first | rfl | (simp; done) | (simp [*]; done)), H', ⟨by have := HJ3.out; have := HK2.out; omega⟩, ⟨by (try simp only [hl9_2]); (with_reducible repeat (first | apply Kd.S_alloc | apply Kd.S_drewN | apply Kd.S_drew)); exact HO_9.out⟩, ⟨by repeat (first | (with_reducible first | exact HB.out | apply below_alloc | apply pw_below_drewN | apply below_drew1) | exact HB.out)⟩⟩
                        · rw [if_neg c21] at H
                          exact absurd H (by simp)
                      · rw [if_neg c20] at H
                        exact absurd H (by simp)
                    · rw [if_neg c19] at H
                      exact absurd H (by simp)
                  · rw [if_neg c18] at H
                    exact absurd H (by simp)
                · rw [if_neg c16] at H
                  have c16b0 : decide (x29_2 < (y158.length : Int)) = false := decide_eq_false c16
                  have c16b0z : decide (x29_2 < (x9_2.length : Int)) = false := by have h_ := c16b0; rw [hl9_2] at h_; exact h_
                  clear c16
                  by_cases c27 : 0 < (x9_2.length : Int)
                  · rw [if_pos c27] at H
                    have c27b0 : decide (0 < (x9_2.length : Int)) = true := decide_eq_true c27
                    have c27b1 : decide (0 < x9_2.length) = true := decide_eq_true (by omega)
                    clear c27
                    by_cases c28 : 0 < ((rd_L1 x9_2 0).length : Int)
                    · rw [if_pos c28] at H
                      have c28b0 : decide (0 < ((rd_L1 x9_2 0).length : Int)) = true := decide_eq_true c28
                      have c28b1 : decide (0 < (rd_L1 x9_2 0).length) = true := decide_eq_true (by omega)
                      clear c28
                      obtain ⟨y166, hy166⟩ : ∃ y_ : List Int, y_ = ((rd_L1 x9_2 0).set (0 : Int).toNat 1) := ⟨_, rfl⟩
                      replace H : (impl_ChanceOfColours.l1 k2 l0 a1 a2 (x9_2.set (0 : Int).toNat y166) l0 (l0.length : Int) 0) = some (r1, r2, r3) := by first | (rw [hy166]; with_reducible exact H) | (have H2_ := (Option.bind_some _ _).symm.trans H; rw [hy166]; with_reducible exact H2_) | (have H2_ := (Option.bind_some _ _).symm.trans H; with_reducible exact H2_) | with_reducible exact H | (rw [hy166]; exact H) | exact H
                      have Ny166 := Aside0.mk hy166
                      clear hy166
                      obtain ⟨y168, hy168⟩ : ∃ y_ : List (List Int), y_ = (x9_2.set (0 : Int).toNat y166) := ⟨_, rfl⟩
                      replace H : (impl_ChanceOfColours.l1 k2 l0 a1 a2 y168 l0 (l0.length : Int) 0) = some (r1, r2, r3) := by first | (rw [hy168]; with_reducible exact H) | (have H2_ := (Option.bind_some _ _).symm.trans H; rw [hy168]; with_reducible exact H2_) | (have H2_ := (Option.bind_some _ _).symm.trans H; with_reducible exact H2_) | with_reducible exact H | (rw [hy168]; exact H) | exact H
                      have Ny168 := Aside0.mk hy168
                      clear hy168
                      have H' := Aside0.mk H
                      clear H
                      have p165 : 0 ≤ (0 : Int) := (by omega)
                      have q165 : 0 < (x9_2.length : Int) := of_decide_eq_true (by first | (with_reducible assumption) | assumption)
                      obtain ⟨ad165, A165_0, c165_0, e165, hx165_0, hl165_0, hi165_0⟩ := at_L1 (Kd.S_reads' HO_9.out).2.2 0 p165 q165
                      cases e165
                      obtain ⟨ce165, hce165, hMe165, hcc165⟩ := Kd.S_get HO_9.out [] 0 p165 (by first | exact q165 | exact of_decide_eq_true (by first | (with_reducible assumption) | assumption) | (have e_ := (Kd.S_reads' HO_9.out).1; omega))
                      obtain ⟨ve165_0, rfl, ge165_0⟩ := hMe165
                      have hv165_0 := hcc165 0 _ rfl
                      rw [Nat.add_zero, show ((Kd.slice 3 (Kd.int .i64))).sz = 1 from rfl, Nat.mul_one] at hv165_0
                      replace hv165_0 := Option.some.inj (hv165_0.symm.trans hx165_0)
                      rw [hv165_0] at ge165_0
                      have HL165_0 := Aside0.mk (show Kd.R (Kd.int .i64) 3 _ _ _ _ (rd_L1 x9_2 0) from ge165_0)
                      clear hv165_0 ge165_0
                      have HX165_0 := Aside0.mk hx165_0
                      clear hcc165 hce165
                      have qi165 : (0 < x9_2.length) = True := eq_true (by omega)
                      (try rw [show ((0 : Int)).toNat = 0 from rfl] at hx165_0)
                      (try rw [Addr.add_zero'] at hx165_0)
                      have HR165_0 := Aside0.mk hi165_0
                      have HC165_0 := Aside0.mk hl165_0
                      clear hi165_0 hl165_0
                      replace p165 := eq_true p165
                      replace q165 := eq_true q165
                      have p29 : 0 ≤ (0 : Int) := (by omega)
                      have q29 : (0 : Int) < (((rd_L1 x9_2 0).length : Int) : Int) := of_decide_eq_true (by first | (with_reducible assumption) | assumption)
                      have qi29 : (0 < (rd_L1 x9_2 0).length) = True := eq_true (by omega)
                      obtain ⟨go29, co29, eo29, gb29, gl29, cl29, HG29⟩ := Kd.R_form HL165_0.out (by omega)
                      (first | cases eo29 | (injection eo29 with ea_ en_ ec_; (first | subst ea_ | (injection ea_ with ea_; subst ea_)); subst ec_; clear en_))
                      have GB29 := Aside0.mk gb29
                      have GG29 := Aside0.mk HG29
                      clear gb29 gl29 HG29
                      obtain ⟨hx29_0, hf29_0⟩ := Kd.R_celln 0 HL165_0.out (0 : Int) p29 q29
                      (try rw [show ((0 : Int)).toNat = 0 from rfl] at hx29_0)
                      (try simp only [Nat.reduceMul, Nat.zero_mul, Nat.zero_add, Nat.reduceAdd] at hx29_0)
                      (try rw [show ((0 : Int)).toNat = 0 from rfl] at hf29_0)
                      (try simp only [Nat.reduceMul, Nat.zero_mul, Nat.zero_add, Nat.reduceAdd] at hf29_0)
                      replace p29 := eq_true p29
                      replace q29 := eq_true q29
                      have hq30 : (0 : Int) < (x9_2.length : Int) := (by have h_ : (0 : Int) < ((x9_2.length : Int) : Int) := of_decide_eq_true (by first | (with_reducible assumption) | assumption); first | exact h_ | (have e_ := (Kd.S_reads' HO_9.out).1; omega) | simpa only [List.length_set, List.length_set] using h_)
                      obtain ⟨oki30, ce30, hcl30, hM30, hcc30, hok30, hbk30⟩ := Kd.S_borrow HO_9.out [] (0 : Int) (by omega) hq30
                      obtain ⟨ve30_0, rfl, ge30_0⟩ := hM30
                      have hv30 := hcc30 0 _ rfl
                      rw [Nat.add_zero, show ((Kd.slice 3 (Kd.int .i64))).sz = 1 from rfl, Nat.mul_one] at hv30
                      replace hv30 := Option.some.inj (hv30.symm.trans HX165_0.out)
                      subst hv30
                      clear hcc30 hcl30
                      replace ge30_0 := (show Kd.R (Kd.int .i64) 3 _ _ _ _ (rd_L1 x9_2 0) from ge30_0)
                      have HP30 := Kd.R_putg ge30_0 (0 : Int) 1
                      go_wp2_with (first | ((with_reducible refine gate_store (t := 3) (p := 43) rfl ?_); refine store_event (t := 3) (p := 43) (v := ?vo_w31) (w1 := (wr.setCell ⟨go29, 0, none⟩ (.int .i64 1))) ?hg ?ho ?hn ?hr ?_; (case ho => rfl); (case hg => rfl); (case hn => rfl); (case hr => first | (go_simp; done) | (go_simp; rfl)); intro w31 hw; have hg : wr.grownBy w31 (some go29) := (by rw [hw]; exact HP30.2); have hz_ : Kd.R (Kd.int .i64) 3 w31 w.heap.size oki30 (.slice (some ⟨go29, 0, none⟩) (rd_L1 x9_2 0).length c165_0) y166 := (by rw [hw, Ny166.out]; exact HP30.1); have hp_ : Kd.S (Kd.slice 3 (Kd.int .i64)) 22 w31 w.heap.size (fun _ => True) (.slice (some ad165) x9_2.length co15) y168 := (by rw [Ny168.out]; exact hbk30 hg (fun k_ e_ => by injection e_ with e_; subst e_; exact ge30_0.1 _ rfl) (Kd.M_row hz_)); have hm_ := Kd.R_mono hz_ hok30; clear HP30 hbk30; have n0_ := Aside0.mk (hp_); have n1_ := Aside0.mk ((by rw [hw]; exact below_set (HB.out) GB29.out : Below w.heap.size w w31)); have n2_ := Aside0.mk (hm_); have n3_ := Aside0.mk ((Kd.R_reads' hm_).2.1); clear HO_9; clear HB; clear HL165_0; have HO_9 := n0_; have HB := n1_; have HL185 := n2_; have HC167 := n3_; clear n0_ n1_ n2_ n3_; clear hg hw hp_ hz_ hm_ hok30))
                      go_loopg [46] k2 (fun kq v46 w' => ∃ (x9_3 : List (List Int)) (x46_3 : Int), v46 = .int .i64 x46_3 ∧ Aside0 (impl_ChanceOfColours.l1 kq l0 a1 a2 x9_3 l0 (l0.length : Int) x46_3 = some (r1, r2, r3)) ∧ Aside0 (kq ≤ k2) ∧ Aside0 (Kd.S (Kd.slice 3 (Kd.int .i64)) 22 w' w.heap.size (fun _ => True) (.slice (some ad165) x9_2.length co15) x9_3) ∧ Aside0 (Below w.heap.size w w'))
                      case atStart => exact ⟨(y168), (0), (by first | rfl | (simp; done) | (simp [*]; done)), H', ⟨Nat.le_refl _⟩, ⟨by (try simp only [hl9_2]); (with_reducible repeat (first | apply Kd.S_alloc | apply Kd.S_drewN | apply Kd.S_drew)); exact HO_9.out⟩, ⟨by repeat (first | (with_reducible first | exact HB.out | apply below_alloc | apply pw_below_drewN | apply below_drew1) | exact HB.out)⟩⟩
                      case round =>
                        clear H'
                        try clear c1
                        try clear p1
                        try clear q1
                        try clear hx1
                        try clear qi1
                        try clear c2
                        try clear p2
                        try clear q2
                        try clear hx2
                        try clear qi2
                        try clear c3
                        try clear q3
                        try clear c6
                        try clear p6
                        try clear c9
                        try clear c11
                        try clear c11b0
                        try clear c11b1
                        try clear c12
                        try clear c12b0
                        try clear c12b1
                        try clear c13
                        try clear c16
                        try clear c16b0
                        try clear p16
                        try clear q16
                        try clear hx16
                        try clear qi16
                        try clear c18
                        try clear c18b0
                        try clear c18b1
                        try clear c19
                        try clear c19b0
                        try clear c19b1
                        try clear c20
                        try clear c20b0
                        try clear c21
                        try clear c21b0
                        try clear c22
                        try clear p22
                        try clear q22
                        try clear hx22
                        try clear hf22
                        try clear c25
                        try clear hx25
                        try clear hf25
                        try clear c27
                        try clear c27b0
                        try clear c27b1
                        try clear c28
                        try clear c28b0
                        try clear c28b1
                        try clear p29
                        try clear q29
                        try clear hx29
                        try clear qi29
                        try clear hf29
                        try clear c30
                        try clear q30
                        try clear hx165_0
                        try clear hx22_0
                        try clear hx25_0
                        try clear hx29_0
                        try clear p165
                        try clear p2
                        try clear p22
                        try clear p29
                        try clear p6
                        try clear q165
                        try clear q22
                        try clear q29
                        obtain ⟨x9_3, x46_3, rfl, HA, HK3, HO_9, HB⟩ := hrel
                        have hl9_3 := (Kd.S_reads' HO_9.out).1
                        rw [hl9_3] at HO_9
                        (try simp only [hl9_3])
                        cases gk with
                        | zero => exact absurd HA.out (by simp [impl_ChanceOfColours.l1])
                        | succ k3 =>
                          have H := HA.out
                          clear HA
                          simp only [impl_ChanceOfColours.l1] at H
                          by_cases c32 : x46_3 < (l0.length : Int)
                          · rw [if_pos c32] at H
                            have c32b0 : decide (x46_3 < (l0.length : Int)) = true := decide_eq_true c32
                            clear c32
                            by_cases c33 : 0 ≤ x46_3
                            · rw [if_pos c33] at H
                              have c33b0 : decide (0 ≤ x46_3) = true := decide_eq_true c33
                              clear c33
                              by_cases c34 : x46_3 < (l0.length : Int)
                              · rw [if_pos c34] at H
                                have c34b0 : decide (x46_3 < (l0.length : Int)) = true := decide_eq_true c34
                                clear c34
                                have H' := Aside0.mk H
                                clear H
                                have p169 : 0 ≤ (x46_3 : Int) := of_decide_eq_true (by first | (with_reducible assumption) | assumption)
                                have q169 : x46_3 < (l0.length : Int) := of_decide_eq_true (by first | (with_reducible assumption) | assumption)
                                obtain ⟨ad169, e169, hx169_0⟩ := Kd.at_int HR0.out x46_3 p169 q169
                                cases e169
                                replace hx169_0 := (HB.out.cell (World.block_lt_of_cell? w _ hx169_0)).trans hx169_0
                                replace p169 := eq_true p169
                                replace q169 := eq_true q169
                                go_wp2
                                go_loopg [13] k3 (fun kq v13 w' => ∃ (x9_4 : List (List Int)) (x13_4 : Int), v13 = .int .i64 x13_4 ∧ Aside0 (impl_ChanceOfColours.l2 kq l0 a1 a2 x9_4 (rd l0 x46_3) x13_4 l0 (l0.length : Int) x46_3 = some (r1, r2, r3)) ∧ Aside0 (kq ≤ k3) ∧ Aside0 (Kd.S (Kd.slice 3 (Kd.int .i64)) 22 w' w.heap.size (fun _ => True) (.slice (some ad165) x9_3.length co15) x9_4) ∧ Aside0 (Below w.heap.size w w'))
                                case atStart => exact ⟨(x9_3), (a1), (by first | rfl | (simp; done) | (simp [*]; done)), H', ⟨Nat.le_refl _⟩, ⟨by (try simp only [hl9_2]); (try simp only [hl9_3]); (with_reducible repeat (first | apply Kd.S_alloc | apply Kd.S_drewN | apply Kd.S_drew)); exact HO_9.out⟩, ⟨by repeat (first | (with_reducible first | exact HB.out | apply below_alloc | apply pw_below_drewN | apply below_drew1) | exact HB.out)⟩⟩
                                case round =>
                                  clear H'
                                  try clear c1
                                  try clear p1
                                  try clear q1
                                  try clear hx1
                                  try clear qi1
                                  try clear c2
                                  try clear p2
                                  try clear q2
                                  try clear hx2
                                  try clear qi2
                                  try clear c3
                                  try clear q3
                                  try clear c6
                                  try clear p6
                                  try clear c9
                                  try clear c11
                                  try clear c11b0
                                  try clear c11b1
                                  try clear c12
                                  try clear c12b0
                                  try clear c12b1
                                  try clear c13
                                  try clear c16
                                  try clear c16b0
                                  try clear p16
                                  try clear q16
                                  try clear hx16
                                  try clear qi16
                                  try clear c18
                                  try clear c18b0
                                  try clear c18b1
                                  try clear c19
                                  try clear c19b0
                                  try clear c19b1
                                  try clear c20
                                  try clear c20b0
                                  try clear c21
                                  try clear c21b0
                                  try clear c22
                                  try clear p22
                                  try clear q22
                                  try clear hx22
                                  try clear hf22
                                  try clear c25
                                  try clear hx25
                                  try clear hf25
                                  try clear c27
                                  try clear c27b0
                                  try clear c27b1
                                  try clear c28
                                  try clear c28b0
                                  try clear c28b1
                                  try clear p29
                                  try clear q29
                                  try clear hx29
                                  try clear qi29
                                  try clear hf29
                                  try clear c30
                                  try clear q30
                                  try clear c32
                                  try clear c32b0
                                  try clear c33
                                  try clear c33b0
                                  try clear c34
                                  try clear c34b0
                                  try clear hx165_0
                                  try clear hx169_0
                                  try clear hx22_0
                                  try clear hx25_0
                                  try clear hx29_0
                                  try clear p1
                                  try clear p16
                                  try clear p165
                                  try clear p169
                                  try clear p2
                                  try clear p22
                                  try clear p29
                                  try clear p6
                                  try clear q1
                                  try clear q16
                                  try clear q165
                                  try clear q169
                                  try clear q2
                                  try clear q22
                                  try clear q29
                                  try clear q3
                                  try clear q30
                                  obtain ⟨x9_4, x13_4, rfl, HA, HK4, HO_9, HB⟩ := hrel
                                  have hl9_4 := (Kd.S_reads' HO_9.out).1
                                  rw [hl9_4] at HO_9
                                  (try simp only [hl9_4])
                                  cases gk with
                                  | zero => exact absurd HA.out (by simp [impl_ChanceOfColours.l2])
                                  | succ k4 =>
                                    have H := HA.out
                                    clear HA
                                    simp only [impl_ChanceOfColours.l2] at H
                                    by_cases c35 : x13_4 ≥ 0
                                    · rw [if_pos c35] at H
                                      have c35b0 : decide (0 ≤ x13_4) = true := decide_eq_true c35
                                      clear c35
                                      have H' := Aside0.mk H
                                      clear H
                                      go_wp2
                                      go_loopg [14] k4 (fun kq v14 w' => ∃ (x9_5 : List (List Int)) (x14_5 : Int), v14 = .int .i64 x14_5 ∧ Aside0 (impl_ChanceOfColours.l3 kq l0 a1 a2 x9_5 (rd l0 x46_3) x13_4 x14_5 l0 (l0.length : Int) x46_3 = some (r1, r2, r3)) ∧ Aside0 (kq ≤ k4) ∧ Aside0 (Kd.S (Kd.slice 3 (Kd.int .i64)) 22 w' w.heap.size (fun _ => True) (.slice (some ad165) x9_4.length co15) x9_5) ∧ Aside0 (Below w.heap.size w w'))
                                      case atStart => exact ⟨(x9_4), ((l0.length : Int)), (by first | rfl | (simp; done) | (simp [*]; done)), H', ⟨Nat.le_refl _⟩, ⟨by (try simp only [hl9_2]); (try simp only [hl9_3]); (try simp only [hl9_4]); (with_reducible repeat (first | apply Kd.S_alloc | apply Kd.S_drewN | apply Kd.S_drew)); exact HO_9.out⟩, ⟨by repeat (first | (with_reducible first | exact HB.out | apply below_alloc | apply pw_below_drewN | apply below_drew1) | exact HB.out)⟩⟩
                                      case round =>
                                        clear H'
                                        try clear c1
                                        try clear p1
                                        try clear q1
                                        try clear hx1
                                        try clear qi1
                                        try clear c2
                                        try clear p2
                                        try clear q2
                                        try clear hx2
                                        try clear qi2
                                        try clear c3
                                        try clear q3
                                        try clear c6
                                        try clear p6
                                        try clear c9
                                        try clear c11
                                        try clear c11b0
                                        try clear c11b1
                                        try clear c12
                                        try clear c12b0
                                        try clear c12b1
                                        try clear c13
                                        try clear c16
                                        try clear c16b0
                                        try clear p16
                                        try clear q16
                                        try clear hx16
                                        try clear qi16
                                        try clear c18
                                        try clear c18b0
                                        try clear c18b1
                                        try clear c19
                                        try clear c19b0
                                        try clear c19b1
                                        try clear c20
                                        try clear c20b0
                                        try clear c21
                                        try clear c21b0
                                        try clear c22
                                        try clear p22
                                        try clear q22
                                        try clear hx22
                                        try clear hf22
                                        try clear c25
                                        try clear hx25
                                        try clear hf25
                                        try clear c27
                                        try clear c27b0
                                        try clear c27b1
                                        try clear c28
                                        try clear c28b0
                                        try clear c28b1
                                        try clear p29
                                        try clear q29
                                        try clear hx29
                                        try clear qi29
                                        try clear hf29
                                        try clear c30
                                        try clear q30
                                        try clear c32
                                        try clear c32b0
                                        try clear c33
                                        try clear c33b0
                                        try clear c34
                                        try clear c34b0
                                        try clear c35
                                        try clear c35b0
                                        try clear hx165_0
                                        try clear hx169_0
                                        try clear hx22_0
                                        try clear hx25_0
                                        try clear hx29_0
                                        try clear p1
                                        try clear p16
                                        try clear p165
                                        try clear p169
                                        try clear p2
                                        try clear p22
                                        try clear p29
                                        try clear p6
                                        try clear q1
                                        try clear q16
                                        try clear q165
                                        try clear q169
                                        try clear q2
                                        try clear q22
                                        try clear q29
                                        try clear q3
                                        try clear q30
                                        obtain ⟨x9_5, x14_5, rfl, HA, HK5, HO_9, HB⟩ := hrel
                                        have hl9_5 := (Kd.S_reads' HO_9.out).1
                                        rw [hl9_5] at HO_9
                                        (try simp only [hl9_5])
                                        cases gk with
                                        | zero => exact absurd HA.out (by simp [impl_ChanceOfColours.l3])
                                        | succ k5 =>
                                          have H := HA.out
                                          clear HA
                                          simp only [impl_ChanceOfColours.l3] at H
                                          by_cases c36 : x14_5 ≥ 1
                                          · rw [if_pos c36] at H
                                            have c36b0 : decide (1 ≤ x14_5) = true := decide_eq_true c36
                                            clear c36
                                            have H' := Aside0.mk H
                                            clear H
                                            go_wp2
                                            go_loopg [15] k5 (fun kq v15 w' => ∃ (x9_6 : List (List Int)) (x15_6 : Int), v15 = .int .i64 x15_6 ∧ Aside0 (impl_ChanceOfColours.l4 kq l0 a1 a2 x9_6 (rd l0 x46_3) x13_4 x14_5 x15_6 l0 (l0.length : Int) x46_3 = some (r1, r2, r3)) ∧ Aside0 (kq ≤ k5) ∧ Aside0 (Kd.S (Kd.slice 3 (Kd.int .i64)) 22 w' w.heap.size (fun _ => True) (.slice (some ad165) x9_5.length co15) x9_6) ∧ Aside0 (Below w.heap.size w w'))
                                            case atStart => exact ⟨(x9_5), (1), (by first | rfl | (simp; done) | (simp [*]; done)), H', ⟨Nat.le_refl _⟩, ⟨by (try simp only [hl9_2]); (try simp only [hl9_3]); (try simp only [hl9_4]); (try simp only [hl9_5]); (with_reducible repeat (first | apply Kd.S_alloc | apply Kd.S_drewN | apply Kd.S_drew)); exact HO_9.out⟩, ⟨by repeat (first | (with_reducible first | exact HB.out | apply below_alloc | apply pw_below_drewN | apply below_drew1) | exact HB.out)⟩⟩
                                            case round =>
                                              clear H'
                                              try clear c1
                                              try clear p1
                                              try clear q1
                                              try clear hx1
                                              try clear qi1
                                              try clear c2
                                              try clear p2
                                              try clear q2
                                              try clear hx2
                                              try clear qi2
                                              try clear c3
                                              try clear q3
                                              try clear c6
                                              try clear p6
                                              try clear c9
                                              try clear c11
                                              try clear c11b0
                                              try clear c11b1
                                              try clear c12
                                              try clear c12b0
                                              try clear c12b1
                                              try clear c13
                                              try clear c16
                                              try clear c16b0
                                              try clear p16
                                              try clear q16
                                              try clear hx16
                                              try clear qi16
                                              try clear c18
                                              try clear c18b0
                                              try clear c18b1
                                              try clear c19
                                              try clear c19b0
                                              try clear c19b1
                                              try clear c20
                                              try clear c20b0
                                              try clear c21
                                              try clear c21b0
                                              try clear c22
                                              try clear p22
                                              try clear q22
                                              try clear hx22
                                              try clear hf22
                                              try clear c25
                                              try clear hx25
                                              try clear hf25
                                              try clear c27
                                              try clear c27b0
                                              try clear c27b1
                                              try clear c28
                                              try clear c28b0
                                              try clear c28b1
                                              try clear p29
                                              try clear q29
                                              try clear hx29
                                              try clear qi29
                                              try clear hf29
                                              try clear c30
                                              try clear q30
                                              try clear c32
                                              try clear c32b0
                                              try clear c33
                                              try clear c33b0
                                              try clear c34
                                              try clear c34b0
                                              try clear c35
                                              try clear c35b0
                                              try clear c36
                                              try clear c36b0
                                              try clear hx165_0
                                              try clear hx169_0
                                              try clear hx22_0
                                              try clear hx25_0
                                              try clear hx29_0
                                              try clear p1
                                              try clear p16
                                              try clear p165
                                              try clear p169
                                              try clear p2
                                              try clear p22
                                              try clear p29
                                              try clear p6
                                              try clear q1
                                              try clear q16
                                              try clear q165
                                              try clear q169
                                              try clear q2
                                              try clear q22
                                              try clear q29
                                              try clear q3
                                              try clear q30
                                              obtain ⟨x9_6, x15_6, rfl, HA, HK6, HO_9, HB⟩ := hrel
                                              have hl9_6 := (Kd.S_reads' HO_9.out).1
                                              rw [hl9_6] at HO_9
                                              (try simp only [hl9_6])
                                              cases gk with
                                              | zero => exact absurd HA.out (by simp [impl_ChanceOfColours.l4])
                                              | succ k6 =>
                                                have H := HA.out
                                                clear HA
                                                simp only [impl_ChanceOfColours.l4] at H
                                                obtain ⟨ji37, hji37⟩ : ∃ j_ : Int, (mn (rd l0 x46_3) x13_4) = j_ := ⟨_, rfl⟩
                                                replace H : (if x15_6 ≤ (ji37) then (if 0 ≤ x13_4 then (if x13_4 < (x9_6.length : Int) then (if 0 ≤ x14_5 then (if x14_5 < ((rd_L1 x9_6 x13_4).length : Int) then ((impl_choose.f k6 (rd l0 x46_3) x15_6).bind fun t172 => (if 0 ≤ (wrap64 (x13_4 - x15_6)) then (if (wrap64 (x13_4 - x15_6)) < (x9_6.length : Int) then (if 0 ≤ (wrap64 (x14_5 - 1)) then (if (wrap64 (x14_5 - 1)) < ((rd_L1 x9_6 (wrap64 (x13_4 - x15_6))).length : Int) then (impl_ChanceOfColours.l4 k6 l0 a1 a2 (x9_6.set (x13_4 : Int).toNat ((rd_L1 x9_6 x13_4).set (x14_5 : Int).toNat (wrap64 ((rd (rd_L1 x9_6 x13_4) x14_5) + (wrap64 (t172 * (rd (rd_L1 x9_6 (wrap64 (x13_4 - x15_6))) (wrap64 (x14_5 - 1))))))))) (rd l0 x46_3) x13_4 x14_5 (wrap64 (x15_6 + 1)) l0 (l0.length : Int) x46_3) else (none)) else (none)) else (none)) else (none))) else (none)) else (none)) else (none)) else (none)) else (impl_ChanceOfColours.l3 k6 l0 a1 a2 x9_6 (rd l0 x46_3) x13_4 (wrap64 (x14_5 - 1)) l0 (l0.length : Int) x46_3)) = some (r1, r2, r3) := by first | (rw [hji37] at H; exact H) | (simp only [hji37] at H ⊢; exact H)
                                                have hji37_ : (if x13_4 < (rd l0 x46_3) then x13_4 else (rd l0 x46_3)) = ji37 := hji37
                                                by_cases c38 : x15_6 ≤ (ji37)
                                                · rw [if_pos c38] at H
                                                  have c38b0 : decide (x15_6 ≤ (ji37)) = true := decide_eq_true c38
                                                  clear c38
                                                  by_cases c39 : 0 ≤ x13_4
                                                  · rw [if_pos c39] at H
                                                    have c39b0 : decide (0 ≤ x13_4) = true := decide_eq_true c39
                                                    clear c39
                                                    by_cases c40 : x13_4 < (x9_6.length : Int)
                                                    · rw [if_pos c40] at H
                                                      have c40b0 : decide (x13_4 < (x9_6.length : Int)) = true := decide_eq_true c40
                                                      clear c40
                                                      by_cases c41 : 0 ≤ x14_5
                                                      · rw [if_pos c41] at H
                                                        have c41b0 : decide (0 ≤ x14_5) = true := decide_eq_true c41
                                                        clear c41
                                                        by_cases c42 : x14_5 < ((rd_L1 x9_6 x13_4).length : Int)
                                                        · rw [if_pos c42] at H
                                                          have c42b0 : decide (x14_5 < ((rd_L1 x9_6 x13_4).length : Int)) = true := decide_eq_true c42
                                                          clear c42
                                                          replace H := Option.bind_eq_some_iff.mp H
                                                          obtain ⟨t172, A430, H⟩ := H
                                                          replace H : (if 0 ≤ (wrap64 (x13_4 - x15_6)) then (if (wrap64 (x13_4 - x15_6)) < (x9_6.length : Int) then (if 0 ≤ (wrap64 (x14_5 - 1)) then (if (wrap64 (x14_5 - 1)) < ((rd_L1 x9_6 (wrap64 (x13_4 - x15_6))).length : Int) then (impl_ChanceOfColours.l4 k6 l0 a1 a2 (x9_6.set (x13_4 : Int).toNat ((rd_L1 x9_6 x13_4).set (x14_5 : Int).toNat (wrap64 ((rd (rd_L1 x9_6 x13_4) x14_5) + (wrap64 (t172 * (rd (rd_L1 x9_6 (wrap64 (x13_4 - x15_6))) (wrap64 (x14_5 - 1))))))))) (rd l0 x46_3) x13_4 x14_5 (wrap64 (x15_6 + 1)) l0 (l0.length : Int) x46_3) else (none)) else (none)) else (none)) else (none)) = some (r1, r2, r3) := H
                                                          have A43 := Aside0.mk A430
                                                          clear A430
                                                          obtain ⟨ji44, hji44⟩ : ∃ j_ : Int, (wrap64 (x13_4 - x15_6)) = j_ := ⟨_, rfl⟩
                                                          replace H : (if 0 ≤ (ji44) then (if (ji44) < (x9_6.length : Int) then (if 0 ≤ (wrap64 (x14_5 - 1)) then (if (wrap64 (x14_5 - 1)) < ((rd_L1 x9_6 (ji44)).length : Int) then (impl_ChanceOfColours.l4 k6 l0 a1 a2 (x9_6.set (x13_4 : Int).toNat ((rd_L1 x9_6 x13_4).set (x14_5 : Int).toNat (wrap64 ((rd (rd_L1 x9_6 x13_4) x14_5) + (wrap64 (t172 * (rd (rd_L1 x9_6 (ji44)) (wrap64 (x14_5 - 1))))))))) (rd l0 x46_3) x13_4 x14_5 (wrap64 (x15_6 + 1)) l0 (l0.length : Int) x46_3) else (none)) else (none)) else (none)) else (none)) = some (r1, r2, r3) := by first | (rw [hji44] at H; exact H) | (simp only [hji44] at H ⊢; exact H)
                                                          (try rw [hji44] at A43)
                                                          have hji44w : (IntKind.i64.wrap (x13_4 - x15_6)) = ji44 := (i64_w _).trans hji44
                                                          by_cases c45 : 0 ≤ (ji44)
                                                          · rw [if_pos c45] at H
                                                            have c45b0 : decide (0 ≤ (ji44)) = true := decide_eq_true c45
                                                            clear c45
                                                            by_cases c46 : (ji44) < (x9_6.length : Int)
                                                            · rw [if_pos c46] at H
                                                              have c46b0 : decide ((ji44) < (x9_6.length : Int)) = true := decide_eq_true c46
                                                              clear c46
                                                              obtain ⟨ji47, hji47⟩ : ∃ j_ : Int, (wrap64 (x14_5 - 1)) = j_ := ⟨_, rfl⟩
                                                              replace H : (if 0 ≤ (ji47) then (if (ji47) < ((rd_L1 x9_6 (ji44)).length : Int) then (impl_ChanceOfColours.l4 k6 l0 a1 a2 (x9_6.set (x13_4 : Int).toNat ((rd_L1 x9_6 x13_4).set (x14_5 : Int).toNat (wrap64 ((rd (rd_L1 x9_6 x13_4) x14_5) + (wrap64 (t172 * (rd (rd_L1 x9_6 (ji44)) (ji47)))))))) (rd l0 x46_3) x13_4 x14_5 (wrap64 (x15_6 + 1)) l0 (l0.length : Int) x46_3) else (none)) else (none)) = some (r1, r2, r3) := by first | (rw [hji47] at H; exact H) | (simp only [hji47] at H ⊢; exact H)
                                                              (try rw [hji47] at A43)
                                                              have hji47w : (IntKind.i64.wrap (x14_5 - 1)) = ji47 := (i64_w _).trans hji47
                                                              by_cases c48 : 0 ≤ (ji47)
                                                              · rw [if_pos c48] at H
                                                                have c48b0 : decide (0 ≤ (ji47)) = true := decide_eq_true c48
                                                                clear c48
                                                                by_cases c49 : (ji47) < ((rd_L1 x9_6 (ji44)).length : Int)
                                                                · rw [if_pos c49] at H
                                                                  have c49b0 : decide ((ji47) < ((rd_L1 x9_6 (ji44)).length : Int)) = true := decide_eq_true c49
                                                                  clear c49
                                                                  obtain ⟨y175, hy175⟩ : ∃ y_ : List Int, y_ = ((rd_L1 x9_6 x13_4).set (x14_5 : Int).toNat (wrap64 ((rd (rd_L1 x9_6 x13_4) x14_5) + (wrap64 (t172 * (rd (rd_L1 x9_6 (ji44)) (ji47))))))) := ⟨_, rfl⟩
                                                                  replace H : (impl_ChanceOfColours.l4 k6 l0 a1 a2 (x9_6.set (x13_4 : Int).toNat y175) (rd l0 x46_3) x13_4 x14_5 (wrap64 (x15_6 + 1)) l0 (l0.length : Int) x46_3) = some (r1, r2, r3) := by first | (rw [hy175]; with_reducible exact H) | (have H2_ := (Option.bind_some _ _).symm.trans H; rw [hy175]; with_reducible exact H2_) | (have H2_ := (Option.bind_some _ _).symm.trans H; with_reducible exact H2_) | with_reducible exact H | (rw [hy175]; exact H) | exact H
                                                                  have Ny175 := Aside0.mk hy175
                                                                  clear hy175
                                                                  obtain ⟨y177, hy177⟩ : ∃ y_ : List (List Int), y_ = (x9_6.set (x13_4 : Int).toNat y175) := ⟨_, rfl⟩
                                                                  replace H : (impl_ChanceOfColours.l4 k6 l0 a1 a2 y177 (rd l0 x46_3) x13_4 x14_5 (wrap64 (x15_6 + 1)) l0 (l0.length : Int) x46_3) = some (r1, r2, r3) := by first | (rw [hy177]; with_reducible exact H) | (have H2_ := (Option.bind_some _ _).symm.trans H; rw [hy177]; with_reducible exact H2_) | (have H2_ := (Option.bind_some _ _).symm.trans H; with_reducible exact H2_) | with_reducible exact H | (rw [hy177]; exact H) | exact H
                                                                  have Ny177 := Aside0.mk hy177
                                                                  clear hy177
                                                                  have H' := Aside0.mk H
                                                                  clear H
                                                                  try go_wp2
                                                                  have n0_ := Aside0.mk (Kd.S_drew HO_9.out)
                                                                  have n1_ := Aside0.mk (below_drew1 HB.out)
                                                                  clear HO_9
                                                                  clear HB
                                                                  have HO_9 := n0_
                                                                  have HB := n1_
                                                                  clear n0_ n1_
                                                                  have p170 : 0 ≤ (x13_4 : Int) := of_decide_eq_true (by first | (with_reducible assumption) | assumption)
                                                                  have q170 : x13_4 < (x9_6.length : Int) := of_decide_eq_true (by first | (with_reducible assumption) | assumption)
                                                                  obtain ⟨ad170, A170_0, c170_0, e170, hx170_0, hl170_0, hi170_0⟩ := at_L1 (Kd.S_reads' HO_9.out).2.2 x13_4 p170 q170
                                                                  obtain rfl : ad165 = ad170 := (by injection e170)
                                                                  obtain ⟨ce170, hce170, hMe170, hcc170⟩ := Kd.S_get HO_9.out [] x13_4 p170 (by first | exact q170 | exact of_decide_eq_true (by first | (with_reducible assumption) | assumption) | (have e_ := (Kd.S_reads' HO_9.out).1; omega))
                                                                  obtain ⟨ve170_0, rfl, ge170_0⟩ := hMe170
                                                                  have hv170_0 := hcc170 0 _ rfl
                                                                  rw [Nat.add_zero, show ((Kd.slice 3 (Kd.int .i64))).sz = 1 from rfl, Nat.mul_one] at hv170_0
                                                                  replace hv170_0 := Option.some.inj (hv170_0.symm.trans hx170_0)
                                                                  rw [hv170_0] at ge170_0
                                                                  have HL170_0 := Aside0.mk (show Kd.R (Kd.int .i64) 3 _ _ _ _ (rd_L1 x9_6 x13_4) from ge170_0)
                                                                  clear hv170_0 ge170_0
                                                                  have HX170_0 := Aside0.mk hx170_0
                                                                  clear hcc170 hce170
                                                                  have HR170_0 := Aside0.mk hi170_0
                                                                  have HC170_0 := Aside0.mk hl170_0
                                                                  clear hi170_0 hl170_0
                                                                  replace p170 := eq_true p170
                                                                  replace q170 := eq_true q170
                                                                  have p171 : 0 ≤ (x14_5 : Int) := of_decide_eq_true (by first | (with_reducible assumption) | assumption)
                                                                  have q171 : x14_5 < ((rd_L1 x9_6 x13_4).length : Int) := of_decide_eq_true (by first | (with_reducible assumption) | assumption)
                                                                  obtain ⟨ad171, e171, hx171_0⟩ := Kd.at_int (by repeat (first | (with_reducible exact HR170_0.out) | (with_reducible refine Kd.C_alloc ?_ _) | (with_reducible refine Kd.C_drewN ?_ _) | (with_reducible refine Kd.C_drew ?_) | exact HR170_0.out)) x14_5 p171 q171
                                                                  cases e171
                                                                  replace p171 := eq_true p171
                                                                  replace q171 := eq_true q171
                                                                  have p173 : 0 ≤ ((ji44) : Int) := of_decide_eq_true (by first | (with_reducible assumption) | assumption)
                                                                  have q173 : (ji44) < (x9_6.length : Int) := of_decide_eq_true (by first | (with_reducible assumption) | assumption)
                                                                  obtain ⟨ad173, A173_0, c173_0, e173, hx173_0, hl173_0, hi173_0⟩ := at_L1 (Kd.S_reads' HO_9.out).2.2 (ji44) p173 q173
                                                                  obtain rfl : ad165 = ad173 := (by injection e173)
                                                                  obtain ⟨ce173, hce173, hMe173, hcc173⟩ := Kd.S_get HO_9.out [] (ji44) p173 (by first | exact q173 | exact of_decide_eq_true (by first | (with_reducible assumption) | assumption) | (have e_ := (Kd.S_reads' HO_9.out).1; omega))
                                                                  obtain ⟨ve173_0, rfl, ge173_0⟩ := hMe173
                                                                  have hv173_0 := hcc173 0 _ rfl
                                                                  rw [Nat.add_zero, show ((Kd.slice 3 (Kd.int .i64))).sz = 1 from rfl, Nat.mul_one] at hv173_0
                                                                  replace hv173_0 := Option.some.inj (hv173_0.symm.trans hx173_0)
                                                                  rw [hv173_0] at ge173_0
                                                                  have HL173_0 := Aside0.mk (show Kd.R (Kd.int .i64) 3 _ _ _ _ (rd_L1 x9_6 (ji44)) from ge173_0)
                                                                  clear hv173_0 ge173_0
                                                                  have HX173_0 := Aside0.mk hx173_0
                                                                  clear hcc173 hce173
                                                                  have HR173_0 := Aside0.mk hi173_0
                                                                  have HC173_0 := Aside0.mk hl173_0
                                                                  clear hi173_0 hl173_0
                                                                  replace p173 := eq_true p173
                                                                  replace q173 := eq_true q173
                                                                  have p174 : 0 ≤ ((ji47) : Int) := of_decide_eq_true (by first | (with_reducible assumption) | assumption)
                                                                  have q174 : (ji47) < ((rd_L1 x9_6 (ji44)).length : Int) := of_decide_eq_true (by first | (with_reducible assumption) | assumption)
                                                                  obtain ⟨ad174, e174, hx174_0⟩ := Kd.at_int (by repeat (first | (with_reducible exact HR173_0.out) | (with_reducible refine Kd.C_alloc ?_ _) | (with_reducible refine Kd.C_drewN ?_ _) | (with_reducible refine Kd.C_drew ?_) | exact HR173_0.out)) (ji47) p174 q174
                                                                  cases e174
                                                                  replace p174 := eq_true p174
                                                                  replace q174 := eq_true q174
                                                                  refine start_ (n := 24) (S := fun w' => w'.cell? (ad165.add (x13_4).toNat) = some (.slice (some ad171) (rd_L1 x9_6 x13_4).length c170_0) ∧ w'.cell? (ad171.add (x14_5).toNat) = some (.int .i64 (rd (rd_L1 x9_6 x13_4) x14_5)) ∧ w'.cell? (ad165.add ((ji44)).toNat) = some (.slice (some ad174) (rd_L1 x9_6 (ji44)).length c173_0) ∧ w'.cell? (ad174.add ((ji47)).toNat) = some (.int .i64 (rd (rd_L1 x9_6 (ji44)) (ji47)))) (ds := [23]) #[false, false, false, false, false, false, false, false, false, false, false, false, false, false, false, false, false, false, false, false, false, false, false, false] (by kernel_rfl) rfl rfl ⟨hx170_0, hx171_0, hx173_0, hx174_0⟩ (fun hHeld => ?_); refine with_tabW impl_ChanceOfColours.tab22 impl_ChanceOfColours.bits22 (fun HT_ HW_ => ?_)
                                                                  generalize wr.drew = w51 at HO_9 HB HL170_0 HL173_0 HR170_0 HR173_0 HX170_0 HX173_0 hx170_0 hx171_0 hx173_0 hx174_0 hHeld ⊢
                                                                  refine pure_ (i := 0) (N := some 68) (v := ?_) (a' := ?_) #[true, false, false, false, false, false, false, false, false, false, false, false, false, false, false, false, false, false, false, false, false, false, false, false] rfl rfl (any_of HT_.out (by kernel_rfl)) (fun _ _ _ h => h) (Or.inl ⟨by rfl, ?_⟩) ?_ ?_
                                                                  rotate_left
                                                                  · intro w'
                                                                    go_simp
                                                                    with_reducible rfl
                                                                  rotate_left
                                                                  · simp only [Act.put, List.setIfInBounds_toArray, List.set_cons_zero, List.set_cons_succ, i64_w, i32_w]
                                                                    rfl
                                                                  refine pure_ (i := 1) (N := some 69) (v := ?_) (a' := ?_) #[true, true, false, false, false, false, false, false, false, false, false, false, false, false, false, false, false, false, false, false, false, false, false, false] rfl rfl (any_of HT_.out (by kernel_rfl)) (fun _ _ _ h => h) (Or.inl ⟨by rfl, ?_⟩) ?_ ?_
                                                                  rotate_left
                                                                  · intro w'
                                                                    go_simp
                                                                    with_reducible rfl
                                                                  rotate_left
                                                                  · simp only [Act.put, List.setIfInBounds_toArray, List.set_cons_zero, List.set_cons_succ, i64_w, i32_w]
                                                                    rfl
                                                                  refine pure_ (i := 2) (N := some 70) (v := ?_) (a' := ?_) #[true, true, true, false, false, false, false, false, false, false, false, false, false, false, false, false, false, false, false, false, false, false, false, false] rfl rfl (any_of HT_.out (by kernel_rfl)) (fun _ _ _ h => h) (Or.inl ⟨by rfl, ?_⟩) ?_ ?_
                                                                  rotate_left
                                                                  · intro w'
                                                                    go_simp
                                                                    with_reducible rfl
                                                                  rotate_left
                                                                  · simp only [Act.put, List.setIfInBounds_toArray, List.set_cons_zero, List.set_cons_succ, i64_w, i32_w]
                                                                    rfl
                                                                  refine pure_ (i := 4) (N := some 72) (v := ?_) (a' := ?_) #[true, true, true, false, true, false, false, false, false, false, false, false, false, false, false, false, false, false, false, false, false, false, false, false] rfl rfl (any_of HT_.out (by kernel_rfl)) (fun _ _ _ h => h) (Or.inl ⟨by rfl, ?_⟩) ?_ ?_
                                                                  rotate_left
                                                                  · intro w'
                                                                    go_simp
                                                                    with_reducible rfl
                                                                  rotate_left
                                                                  · simp only [Act.put, List.setIfInBounds_toArray, List.set_cons_zero, List.set_cons_succ, i64_w, i32_w]
                                                                    rfl
                                                                  refine pure_ (i := 7) (N := some 75) (v := ?_) (a' := ?_) #[true, true, true, false, true, false, false, true, false, false, false, false, false, false, false, false, false, false, false, false, false, false, false, false] rfl rfl (any_of HT_.out (by kernel_rfl)) (fun _ _ _ h => h) (Or.inl ⟨by rfl, ?_⟩) ?_ ?_
                                                                  rotate_left
                                                                  · intro w'
                                                                    go_simp
                                                                    with_reducible rfl
                                                                  rotate_left
                                                                  · simp only [Act.put, List.setIfInBounds_toArray, List.set_cons_zero, List.set_cons_succ, i64_w, i32_w]
                                                                    rfl
                                                                  refine pure_ (i := 8) (N := some 76) (v := ?_) (a' := ?_) #[true, true, true, false, true, false, false, true, true, false, false, false, false, false, false, false, false, false, false, false, false, false, false, false] rfl rfl (any_of HT_.out (by kernel_rfl)) (fun _ _ _ h => h) (Or.inl ⟨by rfl, ?_⟩) ?_ ?_
                                                                  rotate_left
                                                                  · intro w'
                                                                    go_simp
                                                                    with_reducible rfl
                                                                  rotate_left
                                                                  · simp only [Act.put, List.setIfInBounds_toArray, List.set_cons_zero, List.set_cons_succ, i64_w, i32_w]
                                                                    rfl
                                                                  refine pure_ (i := 10) (N := some 78) (v := ?_) (a' := ?_) #[true, true, true, false, true, false, false, true, true, false, true, false, false, false, false, false, false, false, false, false, false, false, false, false] rfl rfl (any_of HT_.out (by kernel_rfl)) (fun _ _ _ h => h) (Or.inl ⟨by rfl, ?_⟩) ?_ ?_
                                                                  rotate_left
                                                                  · intro w'
                                                                    go_simp
                                                                    with_reducible rfl
                                                                  rotate_left
                                                                  · simp only [Act.put, List.setIfInBounds_toArray, List.set_cons_zero, List.set_cons_succ, i64_w, i32_w]
                                                                    rfl
                                                                  refine pure_ (i := 11) (N := some 79) (v := ?_) (a' := ?_) #[true, true, true, false, true, false, false, true, true, false, true, true, false, false, false, false, false, false, false, false, false, false, false, false] rfl rfl (any_of HT_.out (by kernel_rfl)) (fun _ _ _ h => h) (Or.inl ⟨by rfl, ?_⟩) ?_ ?_
                                                                  rotate_left
                                                                  · intro w'
                                                                    go_simp
                                                                    with_reducible rfl
                                                                  rotate_left
                                                                  · simp only [Act.put, List.setIfInBounds_toArray, List.set_cons_zero, List.set_cons_succ, i64_w, i32_w]
                                                                    rfl
                                                                  refine pure_ (i := 12) (N := some 80) (v := ?_) (a' := ?_) #[true, true, true, false, true, false, false, true, true, false, true, true, true, false, false, false, false, false, false, false, false, false, false, false] rfl rfl (any_of HT_.out (by kernel_rfl)) (fun _ _ _ h => h) (Or.inl ⟨by rfl, ?_⟩) ?_ ?_
                                                                  rotate_left
                                                                  · intro w'
                                                                    go_simp
                                                                    with_reducible rfl
                                                                  rotate_left
                                                                  · simp only [Act.put, List.setIfInBounds_toArray, List.set_cons_zero, List.set_cons_succ, i64_w, i32_w]
                                                                    rfl
                                                                  refine pure_ (i := 13) (N := some 81) (v := ?_) (a' := ?_) #[true, true, true, false, true, false, false, true, true, false, true, true, true, true, false, false, false, false, false, false, false, false, false, false] rfl rfl (any_of HT_.out (by kernel_rfl)) (fun _ _ _ h => h) (Or.inl ⟨by rfl, ?_⟩) ?_ ?_
                                                                  rotate_left
                                                                  · intro w'
                                                                    go_simp
                                                                    with_reducible rfl
                                                                  rotate_left
                                                                  · simp only [Act.put, List.setIfInBounds_toArray, List.set_cons_zero, List.set_cons_succ, i64_w, i32_w]
                                                                    rfl
                                                                  refine pure_ (i := 14) (N := some 82) (v := ?_) (a' := ?_) #[true, true, true, false, true, false, false, true, true, false, true, true, true, true, true, false, false, false, false, false, false, false, false, false] rfl rfl (any_of HT_.out (by kernel_rfl)) (fun _ _ _ h => h) (Or.inl ⟨by rfl, ?_⟩) ?_ ?_
                                                                  rotate_left
                                                                  · intro w'
                                                                    go_simp
                                                                    with_reducible rfl
                                                                  rotate_left
                                                                  · simp only [Act.put, List.setIfInBounds_toArray, List.set_cons_zero, List.set_cons_succ, i64_w, i32_w]
                                                                    rfl
                                                                  refine pure_ (i := 16) (N := some 84) (v := ?_) (a' := ?_) #[true, true, true, false, true, false, false, true, true, false, true, true, true, true, true, false, true, false, false, false, false, false, false, false] rfl rfl (any_of HT_.out (by kernel_rfl)) (fun _ _ _ h => h) (Or.inl ⟨by rfl, ?_⟩) ?_ ?_
                                                                  rotate_left
                                                                  · intro w'
                                                                    go_simp
                                                                    with_reducible rfl
                                                                  rotate_left
                                                                  · simp only [Act.put, List.setIfInBounds_toArray, List.set_cons_zero, List.set_cons_succ, i64_w, i32_w]
                                                                    rfl
                                                                  refine pure_ (i := 17) (N := some 85) (v := ?_) (a' := ?_) #[true, true, true, false, true, false, false, true, true, false, true, true, true, true, true, false, true, true, false, false, false, false, false, false] rfl rfl (any_of HT_.out (by kernel_rfl)) (fun _ _ _ h => h) (Or.inl ⟨by rfl, ?_⟩) ?_ ?_
                                                                  rotate_left
                                                                  · intro w'
                                                                    go_simp
                                                                    with_reducible rfl
                                                                  rotate_left
                                                                  · simp only [Act.put, List.setIfInBounds_toArray, List.set_cons_zero, List.set_cons_succ, i64_w, i32_w]
                                                                    rfl
                                                                  refine take_ (i := 3) (N := some 71) (v := ?_) (a' := ?_) #[true, true, true, true, true, false, false, true, true, false, true, true, true, true, true, false, true, true, false, false, false, false, false, false] rfl rfl (take_ofW HT_.out HW_.out (by kernel_rfl)) (fun _ _ _ h => h) (Or.inl ⟨by rfl, ?_⟩) hHeld ?_ ?_
                                                                  rotate_left
                                                                  · rintro w' ⟨s0, s1, s2, s3⟩
                                                                    go_simp
                                                                    with_reducible rfl
                                                                  rotate_left
                                                                  · simp only [Act.put, List.setIfInBounds_toArray, List.set_cons_zero, List.set_cons_succ, i64_w, i32_w]
                                                                    rfl
                                                                  refine pure_ (i := 5) (N := some 73) (v := ?_) (a' := ?_) #[true, true, true, true, true, true, false, true, true, false, true, true, true, true, true, false, true, true, false, false, false, false, false, false] rfl rfl (any_of HT_.out (by kernel_rfl)) (fun _ _ _ h => h) (Or.inl ⟨by rfl, ?_⟩) ?_ ?_
                                                                  rotate_left
                                                                  · intro w'
                                                                    go_simp
                                                                    with_reducible rfl
                                                                  rotate_left
                                                                  · simp only [Act.put, List.setIfInBounds_toArray, List.set_cons_zero, List.set_cons_succ, i64_w, i32_w]
                                                                    rfl
                                                                  refine take_ (i := 6) (N := some 74) (v := ?_) (a' := ?_) #[true, true, true, true, true, true, true, true, true, false, true, true, true, true, true, false, true, true, false, false, false, false, false, false] rfl rfl (take_ofW HT_.out HW_.out (by kernel_rfl)) (fun _ _ _ h => h) (Or.inl ⟨by rfl, ?_⟩) hHeld ?_ ?_
                                                                  rotate_left
                                                                  · rintro w' ⟨s0, s1, s2, s3⟩
                                                                    go_simp
                                                                    with_reducible rfl
                                                                  rotate_left
                                                                  · simp only [Act.put, List.setIfInBounds_toArray, List.set_cons_zero, List.set_cons_succ, i64_w, i32_w]
                                                                    rfl
                                                                  refine take_ (i := 15) (N := some 83) (v := ?_) (a' := ?_) #[true, true, true, true, true, true, true, true, true, false, true, true, true, true, true, true, true, true, false, false, false, false, false, false] rfl rfl (take_ofW HT_.out HW_.out (by kernel_rfl)) (fun _ _ _ h => h) (Or.inl ⟨by rfl, ?_⟩) hHeld ?_ ?_
                                                                  rotate_left
                                                                  · rintro w' ⟨s0, s1, s2, s3⟩
                                                                    go_simp
                                                                    with_reducible rfl
                                                                  rotate_left
                                                                  · simp only [Act.put, List.setIfInBounds_toArray, List.set_cons_zero, List.set_cons_succ, i64_w, i32_w]
                                                                    rfl
                                                                  refine pure_ (i := 18) (N := some 86) (v := ?_) (a' := ?_) #[true, true, true, true, true, true, true, true, true, false, true, true, true, true, true, true, true, true, true, false, false, false, false, false] rfl rfl (any_of HT_.out (by kernel_rfl)) (fun _ _ _ h => h) (Or.inl ⟨by rfl, ?_⟩) ?_ ?_
                                                                  rotate_left
                                                                  · intro w'
                                                                    go_simp
                                                                    with_reducible rfl
                                                                  rotate_left
                                                                  · simp only [Act.put, List.setIfInBounds_toArray, List.set_cons_zero, List.set_cons_succ, i64_w, i32_w]
                                                                    rfl
                                                                  refine take_ (i := 19) (N := some 87) (v := ?_) (a' := ?_) #[true, true, true, true, true, true, true, true, true, false, true, true, true, true, true, true, true, true, true, true, false, false, false, false] rfl rfl (take_ofW HT_.out HW_.out (by kernel_rfl)) (fun _ _ _ h => h) (Or.inl ⟨by rfl, ?_⟩) hHeld ?_ ?_
                                                                  rotate_left
                                                                  · rintro w' ⟨s0, s1, s2, s3⟩
                                                                    go_simp
                                                                    with_reducible rfl
                                                                  rotate_left
                                                                  · simp only [Act.put, List.setIfInBounds_toArray, List.set_cons_zero, List.set_cons_succ, i64_w, i32_w]
                                                                    rfl
                                                                  refine one_ (i := 9) (N := some 77) #[true, true, true, true, true, true, true, true, true, true, true, true, true, true, true, true, true, true, true, true, false, false, false, false] rfl rfl (one_of HT_.out (by kernel_rfl)) (by decide) (fun K hK => ?_)
                                                                  refine goes_ Try.func38 (by kernel_rfl) rfl #[.int .i64 (rd l0 x46_3), .int .i64 x15_6] (by rfl) rfl rfl (by (try simp only [List.map_toArray, List.map_cons, List.map_nil]); first | done | rfl | (simp only [List.length_drop, List.length_take]; rfl)) ?_
                                                                  with_reducible refine (impl_choose.calls k6 (rd l0 x46_3) x15_6 t172 _ A43.out).mono ?_
                                                                  rintro e w52 ⟨rfl, hb⟩
                                                                  have HS0_ := (hb.cell (World.block_lt_of_cell? _ _ (hHeld.1))).trans (hHeld.1)
                                                                  have HS1_ := (hb.cell (World.block_lt_of_cell? _ _ (hHeld.2.1))).trans (hHeld.2.1)
                                                                  have HS2_ := (hb.cell (World.block_lt_of_cell? _ _ (hHeld.2.2.1))).trans (hHeld.2.2.1)
                                                                  have HS3_ := (hb.cell (World.block_lt_of_cell? _ _ (hHeld.2.2.2))).trans (hHeld.2.2.2)
                                                                  refine ⟨_, rfl, ?_⟩
                                                                  have n0_ := Aside0.mk (Kd.S_below (by (with_reducible repeat (first | apply Kd.S_alloc | apply Kd.S_drewN | apply Kd.S_drew)); exact HO_9.out) hb)
                                                                  have n1_ := Aside0.mk (Kd.R_below (by (with_reducible repeat (first | apply Kd.R_alloc | apply Kd.R_drewN | apply Kd.R_drew)); exact HL170_0.out) hb)
                                                                  have n2_ := Aside0.mk (Kd.R_below (by (with_reducible repeat (first | apply Kd.R_alloc | apply Kd.R_drewN | apply Kd.R_drew)); exact HL173_0.out) hb)
                                                                  have n3_ := Aside0.mk (Kd.C_below (by repeat (first | (with_reducible exact HR170_0.out) | (with_reducible refine Kd.C_alloc ?_ _) | (with_reducible refine Kd.C_drewN ?_ _) | (with_reducible refine Kd.C_drew ?_) | exact HR170_0.out)) hb)
                                                                  have n4_ := Aside0.mk (pw_cell_below hb HX170_0.out)
                                                                  have n5_ := Aside0.mk (Kd.C_below (by repeat (first | (with_reducible exact HR173_0.out) | (with_reducible refine Kd.C_alloc ?_ _) | (with_reducible refine Kd.C_drewN ?_ _) | (with_reducible refine Kd.C_drew ?_) | exact HR173_0.out)) hb)
                                                                  have n6_ := Aside0.mk (pw_cell_below hb HX173_0.out)
                                                                  have n7_ := Aside0.mk (below_step (by repeat (first | (with_reducible first | exact HB.out | apply below_alloc | apply pw_below_drewN | apply below_drew1) | exact HB.out)) hb)
                                                                  clear HO_9
                                                                  clear HL170_0
                                                                  clear HL173_0
                                                                  clear HR170_0
                                                                  clear HX170_0
                                                                  clear HR173_0
                                                                  clear HX173_0
                                                                  clear HB
                                                                  have HO_9 := n0_
                                                                  have HL170_0 := n1_
                                                                  have HL173_0 := n2_
                                                                  have HR170_0 := n3_
                                                                  have HX170_0 := n4_
                                                                  have HR173_0 := n5_
                                                                  have HX173_0 := n6_
                                                                  have HB := n7_
                                                                  clear n0_ n1_ n2_ n3_ n4_ n5_ n6_ n7_
                                                                  (try clear hb)
                                                                  (try clear hb2)
                                                                  (try clear hk)
                                                                  (try clear hi)
                                                                  have p50 : 0 ≤ (x14_5 : Int) := of_decide_eq_true (by first | (with_reducible assumption) | assumption)
                                                                  have q50 : (x14_5 : Int) < (((rd_L1 x9_6 x13_4).length : Int) : Int) := of_decide_eq_true (by first | (with_reducible assumption) | assumption)
                                                                  obtain ⟨go50, co50, eo50, gb50, gl50, cl50, HG50⟩ := Kd.R_form HL170_0.out (by omega)
                                                                  (first | cases eo50 | (injection eo50 with ea_ en_ ec_; (first | subst ea_ | (injection ea_ with ea_; subst ea_)); subst ec_; clear en_))
                                                                  have GB50 := Aside0.mk gb50
                                                                  have GG50 := Aside0.mk HG50
                                                                  clear gb50 gl50 HG50
                                                                  (first | simp only [add_plain] at hx171_0 | skip)
                                                                  obtain ⟨hx50_0, hf50_0⟩ := Kd.R_celln 0 HL170_0.out (x14_5 : Int) p50 q50
                                                                  replace p50 := eq_true p50
                                                                  replace q50 := eq_true q50
                                                                  have hq53 : (x13_4 : Int) < (x9_6.length : Int) := (by have h_ : (x13_4 : Int) < ((x9_6.length : Int) : Int) := of_decide_eq_true (by first | (with_reducible assumption) | assumption); first | exact h_ | (have e_ := (Kd.S_reads' HO_9.out).1; omega) | simpa only [List.length_set, List.length_set] using h_)
                                                                  obtain ⟨oki53, ce53, hcl53, hM53, hcc53, hok53, hbk53⟩ := Kd.S_borrow HO_9.out [] (x13_4 : Int) (of_decide_eq_true (by first | (with_reducible assumption) | assumption)) hq53
                                                                  obtain ⟨ve53_0, rfl, ge53_0⟩ := hM53
                                                                  have hv53 := hcc53 0 _ rfl
                                                                  rw [Nat.add_zero, show ((Kd.slice 3 (Kd.int .i64))).sz = 1 from rfl, Nat.mul_one] at hv53
                                                                  replace hv53 := Option.some.inj (hv53.symm.trans HX170_0.out)
                                                                  subst hv53
                                                                  clear hcc53 hcl53
                                                                  replace ge53_0 := (show Kd.R (Kd.int .i64) 3 _ _ _ _ (rd_L1 x9_6 x13_4) from ge53_0)
                                                                  have HP53 := Kd.R_putg ge53_0 (x14_5 : Int) (wrap64 ((rd (rd_L1 x9_6 x13_4) x14_5) + (wrap64 (t172 * (rd (rd_L1 x9_6 (ji44)) (ji47))))))
                                                                  rw [← Ny175.out] at HP53
                                                                  have HS53 := hbk53 HP53.2 (fun k_ e_ => by injection e_ with e_; subst e_; exact ge53_0.1 _ rfl) (x' := y175) (Kd.M_row HP53.1)
                                                                  rw [← Ny177.out] at HS53
                                                                  have HQ53 := Aside0.mk HS53
                                                                  clear HP53 HS53 hbk53 hok53
                                                                  refine hK.out _ _ ⟨HS0_, HS1_, HS2_, HS3_⟩ (fun hHeld => ?_)
                                                                  clear hK K
                                                                  refine norm_ (a' := ?_) ?_ ?_
                                                                  rotate_left
                                                                  · show Act.put _ (some 77) _ = _
                                                                    simp only [Act.put, List.setIfInBounds_toArray, List.set_cons_zero, List.set_cons_succ, i64_w, i32_w]
                                                                    rfl
                                                                  refine pure_ (i := 20) (N := some 88) (v := ?_) (a' := ?_) #[true, true, true, true, true, true, true, true, true, true, true, true, true, true, true, true, true, true, true, true, true, false, false, false] rfl rfl (any_of HT_.out (by kernel_rfl)) (fun _ _ _ h => h) (Or.inl ⟨by rfl, ?_⟩) ?_ ?_
                                                                  rotate_left
                                                                  · intro w'
                                                                    go_simp
                                                                    with_reducible rfl
                                                                  rotate_left
                                                                  · simp only [Act.put, List.setIfInBounds_toArray, List.set_cons_zero, List.set_cons_succ, i64_w, i32_w]
                                                                    rfl
                                                                  refine pure_ (i := 21) (N := some 89) (v := ?_) (a' := ?_) #[true, true, true, true, true, true, true, true, true, true, true, true, true, true, true, true, true, true, true, true, true, true, false, false] rfl rfl (any_of HT_.out (by kernel_rfl)) (fun _ _ _ h => h) (Or.inl ⟨by rfl, ?_⟩) ?_ ?_
                                                                  rotate_left
                                                                  · intro w'
                                                                    go_simp
                                                                    with_reducible rfl
                                                                  rotate_left
                                                                  · simp only [Act.put, List.setIfInBounds_toArray, List.set_cons_zero, List.set_cons_succ, i64_w, i32_w]
                                                                    rfl
                                                                  refine pure_ (i := 22) (N := some 90) (v := ?_) (a' := ?_) #[true, true, true, true, true, true, true, true, true, true, true, true, true, true, true, true, true, true, true, true, true, true, true, false] rfl rfl (any_of HT_.out (by kernel_rfl)) (fun _ _ _ h => h) (Or.inl ⟨by rfl, ?_⟩) ?_ ?_
                                                                  rotate_left
                                                                  · intro w'
                                                                    go_simp
                                                                    with_reducible rfl
                                                                  rotate_left
                                                                  · simp only [Act.put, List.setIfInBounds_toArray, List.set_cons_zero, List.set_cons_succ, i64_w, i32_w]
                                                                    rfl
                                                                  refine last_ (i := 23) (N := none) #[true, true, true, true, true, true, true, true, true, true, true, true, true, true, true, true, true, true, true, true, true, true, true, true] rfl rfl (one_of HT_.out (by kernel_rfl)) (by decide) (fun K hK => ?_)
                                                                  refine skip_ (w1 := ?_) (by rfl) rfl ?_ ?_
                                                                  rotate_left
                                                                  · go_simp
                                                                    rfl
                                                                  refine hK.out _ _ ?_
                                                                  clear hK K
                                                                  refine done_ (done_of HT_.out (by kernel_rfl)) ?_
                                                                  try go_wp2
                                                                  (try simp only [← hl9_6])
                                                                  go_roundg k6
                                                                  case measure => have := HJ3.out; have := HK2.out; have := HK3.out; have := HK4.out; have := HK5.out; have := HK6.out; omega
                                                                  case rel => exact ⟨(y177), (wrap64 (x15_6 + 1)), (by first | rfl | (simp; done) | (simp [*]; done)), H', ⟨by have := HJ3.out; have := HK2.out; have := HK3.out; have := HK4.out; have := HK5.out; have := HK6.out; omega⟩, ⟨by (try simp only [hl9_2]); (try simp only [hl9_3]); (try simp only [hl9_4]); (try simp only [hl9_5]); (try simp only [hl9_6]); (with_reducible repeat (first | apply Kd.S_alloc | apply Kd.S_drewN | apply Kd.S_drew)); exact HQ53.out⟩, ⟨by repeat (first | (with_reducible first | exact HB.out | apply below_alloc | apply pw_below_drewN | apply below_drew1 | refine below_set ?_ GB50.out) | exact HB.out)⟩⟩
                                                                · rw [if_neg c49] at H
                                                                  exact absurd H (by simp)
                                                              · rw [if_neg c48] at H
                                                                exact absurd H (by simp)
                                                            · rw [if_neg c46] at H
                                                              exact absurd H (by simp)
                                                          · rw [if_neg c45] at H
                                                            exact absurd H (by simp)
                                                        · rw [if_neg c42] at H
                                                          exact absurd H (by simp)
                                                      · rw [if_neg c41] at H
                                                        exact absurd H (by simp)
                                                    · rw [if_neg c40] at H
                                                      exact absurd H (by simp)
                                                  · rw [if_neg c39] at H
                                                    exact absurd H (by simp)
                                                · rw [if_neg c38] at H
                                                  have c38b0 : decide (x15_6 ≤ (ji37)) = false := decide_eq_false c38
                                                  clear c38
                                                  have H' := Aside0.mk H
                                                  clear H
                                                  go_wp2
                                                  (try simp only [← hl9_5, ← hl9_6])
                                                  go_roundg k6
                                                  case measure => have := HJ3.out; have := HK2.out; have := HK3.out; have := HK4.out; have := HK5.out; have := HK6.out; omega
                                                  case rel => exact ⟨(x9_6), (wrap64 (x14_5 - 1)), (by first | rfl | (simp; done) | (simp [*]; done)), H', ⟨by have := HJ3.out; have := HK2.out; have := HK3.out; have := HK4.out; have := HK5.out; have := HK6.out; omega⟩, ⟨by (try simp only [hl9_2]); (try simp only [hl9_3]); (try simp only [hl9_4]); (try simp only [hl9_5]); (try simp only [hl9_6]); (with_reducible repeat (first | apply Kd.S_alloc | apply Kd.S_drewN | apply Kd.S_drew)); exact HO_9.out⟩, ⟨by repeat (first | (with_reducible first | exact HB.out | apply below_alloc | apply pw_below_drewN | apply below_drew1) | exact HB.out)⟩⟩
                                          · rw [if_neg c36] at H
                                            have c36b0 : decide (1 ≤ x14_5) = false := decide_eq_false c36
                                            clear c36
                                            have H' := Aside0.mk H
                                            clear H
                                            go_wp2
                                            (try simp only [← hl9_4, ← hl9_5])
                                            go_roundg k5
                                            case measure => have := HJ3.out; have := HK2.out; have := HK3.out; have := HK4.out; have := HK5.out; omega
                                            case rel => exact ⟨(x9_5), (wrap64 (x13_4 - 1)), (by first | rfl | (simp; done) | (simp [*]; done)), H', ⟨by have := HJ3.out; have := HK2.out; have := HK3.out; have := HK4.out; have := HK5.out; omega⟩, ⟨by (try simp only [hl9_2]); (try simp only [hl9_3]); (try simp only [hl9_4]); (try simp only [hl9_5]); (with_reducible repeat (first | apply Kd.S_alloc | apply Kd.S_drewN | apply Kd.S_drew)); exact HO_9.out⟩, ⟨by repeat (first | (with_reducible first | exact HB.out | apply below_alloc | apply pw_below_drewN | apply below_drew1) | exact HB.out)⟩⟩
                                    · rw [if_neg c35] at H
                                      have c35b0 : decide (0 ≤ x13_4) = false := decide_eq_false c35
                                      clear c35
                                      have H' := Aside0.mk H
                                      clear H
                                      go_wp2
                                      (try simp only [← hl9_3, ← hl9_4])
                                      go_roundg k4
                                      case measure => have := HJ3.out; have := HK2.out; have := HK3.out; have := HK4.out; omega
                                      case rel => exact ⟨(x9_4), (wrap64 (x46_3 + 1)), (by first | rfl | (simp; done) | (simp [*]; done)), H', ⟨by have := HJ3.out; have := HK2.out; have := HK3.out; have := HK4.out; omega⟩, ⟨by (try simp only [hl9_2]); (try simp only [hl9_3]); (try simp only [hl9_4]); (with_reducible repeat (first | apply Kd.S_alloc | apply Kd.S_drewN | apply Kd.S_drew)); exact HO_9.out⟩, ⟨by repeat (first | (with_reducible first | exact HB.out | apply below_alloc | apply pw_below_drewN | apply below_drew1) | exact HB.out)⟩⟩
                              · rw [if_neg c34] at H
                                exact absurd H (by simp)
                            · rw [if_neg c33] at H
                              exact absurd H (by simp)
                          · rw [if_neg c32] at H
                            have c32b0 : decide (x46_3 < (l0.length : Int)) = false := decide_eq_false c32
                            clear c32
                            by_cases c55 : a2 > (l0.length : Int)
                            · rw [if_pos c55] at H
                              have c55b0 : decide ((l0.length : Int) < a2) = true := decide_eq_true c55
                              clear c55
                              simp only [Option.some.injEq, Prod.mk.injEq] at H
                              obtain ⟨rfl, rfl, rfl⟩ := H
                              go_wp2
                              go_ret3
                              exact ⟨by first | rfl | (simp [errW_none, errW_some] <;> rfl) | (simp only [← hji10]; first | rfl | (simp [errW_none, errW_some] <;> rfl)) | (simp [*, errW_none, errW_some] <;> rfl), by repeat (first | (with_reducible first | exact HB.out | apply below_alloc | apply pw_below_drewN | apply below_drew1) | exact HB.out)⟩
                            · rw [if_neg c55] at H
                              have c55b0 : decide ((l0.length : Int) < a2) = false := decide_eq_false c55
                              clear c55
                              by_cases c56 : 0 ≤ a1
                              · rw [if_pos c56] at H
                                have c56b0 : decide (0 ≤ a1) = true := decide_eq_true c56
                                clear c56
                                by_cases c57 : a1 < (x9_3.length : Int)
                                · rw [if_pos c57] at H
                                  have c57b0 : decide (a1 < (x9_3.length : Int)) = true := decide_eq_true c57
                                  clear c57
                                  by_cases c58 : 0 ≤ a2
                                  · rw [if_pos c58] at H
                                    have c58b0 : decide (0 ≤ a2) = true := decide_eq_true c58
                                    clear c58
                                    by_cases c59 : a2 < ((rd_L1 x9_3 a1).length : Int)
                                    · rw [if_pos c59] at H
                                      have c59b0 : decide (a2 < ((rd_L1 x9_3 a1).length : Int)) = true := decide_eq_true c59
                                      clear c59
                                      replace H := Option.bind_eq_some_iff.mp H
                                      obtain ⟨t180, A600, H⟩ := H
                                      replace H : ((impl_choose.f k3 t180 a1).bind fun t181 => ((impl_fraction.f k3 (rd (rd_L1 x9_3 a1) a2) t181).bind fun bt182 => (some (bt182.1, bt182.2.1, bt182.2.2)))) = some (r1, r2, r3) := H
                                      have A60 := Aside0.mk A600
                                      clear A600
                                      replace H := Option.bind_eq_some_iff.mp H
                                      obtain ⟨t181, A610, H⟩ := H
                                      replace H : ((impl_fraction.f k3 (rd (rd_L1 x9_3 a1) a2) t181).bind fun bt182 => (some (bt182.1, bt182.2.1, bt182.2.2))) = some (r1, r2, r3) := H
                                      have A61 := Aside0.mk A610
                                      clear A610
                                      replace H := Option.bind_eq_some_iff.mp H
                                      obtain ⟨⟨t182, t183, t184⟩, A620, H⟩ := H
                                      replace H : (some (t182, t183, t184)) = some (r1, r2, r3) := H
                                      have A62 := Aside0.mk A620
                                      clear A620
                                      simp only [Option.some.injEq, Prod.mk.injEq] at H
                                      obtain ⟨rfl, rfl, rfl⟩ := H
                                      try go_wp2
                                      have n0_ := Aside0.mk (Kd.S_drew HO_9.out)
                                      have n1_ := Aside0.mk (below_drew1 HB.out)
                                      clear HO_9
                                      clear HB
                                      have HO_9 := n0_
                                      have HB := n1_
                                      clear n0_ n1_
                                      have p178 : 0 ≤ (a1 : Int) := of_decide_eq_true (by first | (with_reducible assumption) | assumption)
                                      have q178 : a1 < (x9_3.length : Int) := of_decide_eq_true (by first | (with_reducible assumption) | assumption)
                                      obtain ⟨ad178, A178_0, c178_0, e178, hx178_0, hl178_0, hi178_0⟩ := at_L1 (Kd.S_reads' HO_9.out).2.2 a1 p178 q178
                                      obtain rfl : ad165 = ad178 := (by injection e178)
                                      obtain ⟨ce178, hce178, hMe178, hcc178⟩ := Kd.S_get HO_9.out [] a1 p178 (by first | exact q178 | exact of_decide_eq_true (by first | (with_reducible assumption) | assumption) | (have e_ := (Kd.S_reads' HO_9.out).1; omega))
                                      obtain ⟨ve178_0, rfl, ge178_0⟩ := hMe178
                                      have hv178_0 := hcc178 0 _ rfl
                                      rw [Nat.add_zero, show ((Kd.slice 3 (Kd.int .i64))).sz = 1 from rfl, Nat.mul_one] at hv178_0
                                      replace hv178_0 := Option.some.inj (hv178_0.symm.trans hx178_0)
                                      rw [hv178_0] at ge178_0
                                      have HL178_0 := Aside0.mk (show Kd.R (Kd.int .i64) 3 _ _ _ _ (rd_L1 x9_3 a1) from ge178_0)
                                      clear hv178_0 ge178_0
                                      have HX178_0 := Aside0.mk hx178_0
                                      clear hcc178 hce178
                                      have HR178_0 := Aside0.mk hi178_0
                                      have HC178_0 := Aside0.mk hl178_0
                                      clear hi178_0 hl178_0
                                      replace p178 := eq_true p178
                                      replace q178 := eq_true q178
                                      have p179 : 0 ≤ (a2 : Int) := of_decide_eq_true (by first | (with_reducible assumption) | assumption)
                                      have q179 : a2 < ((rd_L1 x9_3 a1).length : Int) := of_decide_eq_true (by first | (with_reducible assumption) | assumption)
                                      obtain ⟨ad179, e179, hx179_0⟩ := Kd.at_int (by repeat (first | (with_reducible exact HR178_0.out) | (with_reducible refine Kd.C_alloc ?_ _) | (with_reducible refine Kd.C_drewN ?_ _) | (with_reducible refine Kd.C_drew ?_) | exact HR178_0.out)) a2 p179 q179
                                      cases e179
                                      replace p179 := eq_true p179
                                      replace q179 := eq_true q179
                                      refine start_ (n := 18) (S := fun w' => w'.cell? (ad165.add (a1).toNat) = some (.slice (some ad179) (rd_L1 x9_3 a1).length c178_0) ∧ w'.cell? (ad179.add (a2).toNat) = some (.int .i64 (rd (rd_L1 x9_3 a1) a2))) (ds := []) #[false, false, false, false, false, false, false, false, false, false, false, false, false, false, false, false, false, false] (by kernel_rfl) rfl rfl ⟨hx178_0, hx179_0⟩ (fun hHeld => ?_); refine with_tabW impl_ChanceOfColours.tab26 impl_ChanceOfColours.bits26 (fun HT_ HW_ => ?_)
                                      generalize wr.drew = w63 at HO_9 HB HL178_0 HR178_0 HX178_0 hx178_0 hx179_0 hHeld ⊢
                                      refine pure_ (i := 0) (N := some 96) (v := ?_) (a' := ?_) #[true, false, false, false, false, false, false, false, false, false, false, false, false, false, false, false, false, false] rfl rfl (any_of HT_.out (by kernel_rfl)) (fun _ _ _ h => h) (Or.inl ⟨by rfl, ?_⟩) ?_ ?_
                                      rotate_left
                                      · intro w'
                                        go_simp
                                        with_reducible rfl
                                      rotate_left
                                      · simp only [Act.put, List.setIfInBounds_toArray, List.set_cons_zero, List.set_cons_succ, i64_w, i32_w]
                                        rfl
                                      refine pure_ (i := 1) (N := some 97) (v := ?_) (a' := ?_) #[true, true, false, false, false, false, false, false, false, false, false, false, false, false, false, false, false, false] rfl rfl (any_of HT_.out (by kernel_rfl)) (fun _ _ _ h => h) (Or.inl ⟨by rfl, ?_⟩) ?_ ?_
                                      rotate_left
                                      · intro w'
                                        go_simp
                                        with_reducible rfl
                                      rotate_left
                                      · simp only [Act.put, List.setIfInBounds_toArray, List.set_cons_zero, List.set_cons_succ, i64_w, i32_w]
                                        rfl
                                      refine pure_ (i := 2) (N := some 98) (v := ?_) (a' := ?_) #[true, true, true, false, false, false, false, false, false, false, false, false, false, false, false, false, false, false] rfl rfl (any_of HT_.out (by kernel_rfl)) (fun _ _ _ h => h) (Or.inl ⟨by rfl, ?_⟩) ?_ ?_
                                      rotate_left
                                      · intro w'
                                        go_simp
                                        with_reducible rfl
                                      rotate_left
                                      · simp only [Act.put, List.setIfInBounds_toArray, List.set_cons_zero, List.set_cons_succ, i64_w, i32_w]
                                        rfl
                                      refine pure_ (i := 4) (N := some 100) (v := ?_) (a' := ?_) #[true, true, true, false, true, false, false, false, false, false, false, false, false, false, false, false, false, false] rfl rfl (any_of HT_.out (by kernel_rfl)) (fun _ _ _ h => h) (Or.inl ⟨by rfl, ?_⟩) ?_ ?_
                                      rotate_left
                                      · intro w'
                                        go_simp
                                        with_reducible rfl
                                      rotate_left
                                      · simp only [Act.put, List.setIfInBounds_toArray, List.set_cons_zero, List.set_cons_succ, i64_w, i32_w]
                                        rfl
                                      refine pure_ (i := 7) (N := some 103) (v := ?_) (a' := ?_) #[true, true, true, false, true, false, false, true, false, false, false, false, false, false, false, false, false, false] rfl rfl (any_of HT_.out (by kernel_rfl)) (fun _ _ _ h => h) (Or.inl ⟨by rfl, ?_⟩) ?_ ?_
                                      rotate_left
                                      · intro w'
                                        go_simp
                                        with_reducible rfl
                                      rotate_left
                                      · simp only [Act.put, List.setIfInBounds_toArray, List.set_cons_zero, List.set_cons_succ, i64_w, i32_w]
                                        rfl
                                      refine pure_ (i := 9) (N := some 105) (v := ?_) (a' := ?_) #[true, true, true, false, true, false, false, true, false, true, false, false, false, false, false, false, false, false] rfl rfl (any_of HT_.out (by kernel_rfl)) (fun _ _ _ h => h) (Or.inl ⟨by rfl, ?_⟩) ?_ ?_
                                      rotate_left
                                      · intro w'
                                        go_simp
                                        with_reducible rfl
                                      rotate_left
                                      · simp only [Act.put, List.setIfInBounds_toArray, List.set_cons_zero, List.set_cons_succ, i64_w, i32_w]
                                        rfl
                                      refine take_ (i := 3) (N := some 99) (v := ?_) (a' := ?_) #[true, true, true, true, true, false, false, true, false, true, false, false, false, false, false, false, false, false] rfl rfl (take_ofW HT_.out HW_.out (by kernel_rfl)) (fun _ _ _ h => h) (Or.inl ⟨by rfl, ?_⟩) hHeld ?_ ?_
                                      rotate_left
                                      · rintro w' ⟨s0, s1⟩
                                        go_simp
                                        with_reducible rfl
                                      rotate_left
                                      · simp only [Act.put, List.setIfInBounds_toArray, List.set_cons_zero, List.set_cons_succ, i64_w, i32_w]
                                        rfl
                                      refine pure_ (i := 5) (N := some 101) (v := ?_) (a' := ?_) #[true, true, true, true, true, true, false, true, false, true, false, false, false, false, false, false, false, false] rfl rfl (any_of HT_.out (by kernel_rfl)) (fun _ _ _ h => h) (Or.inl ⟨by rfl, ?_⟩) ?_ ?_
                                      rotate_left
                                      · intro w'
                                        go_simp
                                        with_reducible rfl
                                      rotate_left
                                      · simp only [Act.put, List.setIfInBounds_toArray, List.set_cons_zero, List.set_cons_succ, i64_w, i32_w]
                                        rfl
                                      refine take_ (i := 6) (N := some 102) (v := ?_) (a' := ?_) #[true, true, true, true, true, true, true, true, false, true, false, false, false, false, false, false, false, false] rfl rfl (take_ofW HT_.out HW_.out (by kernel_rfl)) (fun _ _ _ h => h) (Or.inl ⟨by rfl, ?_⟩) hHeld ?_ ?_
                                      rotate_left
                                      · rintro w' ⟨s0, s1⟩
                                        go_simp
                                        with_reducible rfl
                                      rotate_left
                                      · simp only [Act.put, List.setIfInBounds_toArray, List.set_cons_zero, List.set_cons_succ, i64_w, i32_w]
                                        rfl
                                      refine one_ (i := 8) (N := some 104) #[true, true, true, true, true, true, true, true, true, true, false, false, false, false, false, false, false, false] rfl rfl (one_of HT_.out (by kernel_rfl)) (by decide) (fun K hK => ?_)
                                      refine goes_ Try.func40 (by kernel_rfl) rfl #[.slice A0 l0.length c0] (by rfl) rfl rfl (by (try simp only [List.map_toArray, List.map_cons, List.map_nil]); first | done | rfl | (simp only [List.length_drop, List.length_take]; rfl)) ?_
                                      with_reducible refine (impl_total.calls k3 _ _ l0 t180 _ ?side1 ?side2 A60.out).mono ?_
                                      (case side1 => repeat (first | exact (Kd.C_below HR0.out HB.out) | (with_reducible refine Kd.C_alloc ?_ _) | (with_reducible refine Kd.C_drewN ?_ _) | (with_reducible refine Kd.C_drew ?_)))
                                      (case side2 => exact HC0.out)
                                      rintro e w' ⟨rfl, ⟨nd, rfl⟩⟩
                                      refine ⟨_, rfl, ?_⟩
                                      refine hK.out _ _ ⟨hHeld.1, hHeld.2⟩ (fun hHeld => ?_)
                                      clear hK K
                                      refine norm_ (a' := ?_) ?_ ?_
                                      rotate_left
                                      · show Act.put _ (some 104) _ = _
                                        simp only [Act.put, List.setIfInBounds_toArray, List.set_cons_zero, List.set_cons_succ, i64_w, i32_w]
                                        rfl
                                      refine one_ (i := 10) (N := some 106) #[true, true, true, true, true, true, true, true, true, true, true, false, false, false, false, false, false, false] rfl rfl (one_of HT_.out (by kernel_rfl)) (by decide) (fun K hK => ?_)
                                      refine goes_ Try.func38 (by kernel_rfl) rfl #[.int .i64 t180, .int .i64 a1] (by rfl) rfl rfl (by (try simp only [List.map_toArray, List.map_cons, List.map_nil]); first | done | rfl | (simp only [List.length_drop, List.length_take]; rfl)) ?_
                                      with_reducible refine (impl_choose.calls k3 t180 a1 t181 _ A61.out).mono ?_
                                      rintro e w64 ⟨rfl, hb⟩
                                      have HS0_ := (hb.cell (World.block_lt_of_cell? _ _ (hHeld.1))).trans (hHeld.1)
                                      have HS1_ := (hb.cell (World.block_lt_of_cell? _ _ (hHeld.2))).trans (hHeld.2)
                                      refine ⟨_, rfl, ?_⟩
                                      have n0_ := Aside0.mk (Kd.S_below (by (with_reducible repeat (first | apply Kd.S_alloc | apply Kd.S_drewN | apply Kd.S_drew)); exact HO_9.out) hb)
                                      have n1_ := Aside0.mk (Kd.R_below (by (with_reducible repeat (first | apply Kd.R_alloc | apply Kd.R_drewN | apply Kd.R_drew)); exact HL178_0.out) hb)
                                      have n2_ := Aside0.mk (Kd.C_below (by repeat (first | (with_reducible exact HR178_0.out) | (with_reducible refine Kd.C_alloc ?_ _) | (with_reducible refine Kd.C_drewN ?_ _) | (with_reducible refine Kd.C_drew ?_) | exact HR178_0.out)) hb)
                                      have n3_ := Aside0.mk (pw_cell_below hb HX178_0.out)
                                      have n4_ := Aside0.mk (below_step (by repeat (first | (with_reducible first | exact HB.out | apply below_alloc | apply pw_below_drewN | apply below_drew1) | exact HB.out)) hb)
                                      clear HO_9
                                      clear HL178_0
                                      clear HR178_0
                                      clear HX178_0
                                      clear HB
                                      have HO_9 := n0_
                                      have HL178_0 := n1_
                                      have HR178_0 := n2_
                                      have HX178_0 := n3_
                                      have HB := n4_
                                      clear n0_ n1_ n2_ n3_ n4_
                                      (try clear hb)
                                      (try clear hb2)
                                      (try clear hk)
                                      (try clear hi)
                                      refine hK.out _ _ ⟨HS0_, HS1_⟩ (fun hHeld => ?_)
                                      clear hK K
                                      refine norm_ (a' := ?_) ?_ ?_
                                      rotate_left
                                      · show Act.put _ (some 106) _ = _
                                        simp only [Act.put, List.setIfInBounds_toArray, List.set_cons_zero, List.set_cons_succ, i64_w, i32_w]
                                        rfl
                                      refine one_ (i := 11) (N := some 107) #[true, true, true, true, true, true, true, true, true, true, true, true, false, false, false, false, false, false] rfl rfl (one_of HT_.out (by kernel_rfl)) (by decide) (fun K hK => ?_)
                                      refine goes_ Try.func39 (by kernel_rfl) rfl #[.int .i64 (rd (rd_L1 x9_3 a1) a2), .int .i64 t181] (by rfl) rfl rfl (by (try simp only [List.map_toArray, List.map_cons, List.map_nil]); first | done | rfl | (simp only [List.length_drop, List.length_take]; rfl)) ?_
                                      with_reducible refine (impl_fraction.calls k3 (rd (rd_L1 x9_3 a1) a2) t181 t182 t183 t184 _ A62.out).mono ?_
                                      rintro e w' ⟨rfl, ⟨nd, rfl⟩⟩
                                      refine ⟨_, rfl, ?_⟩
                                      refine hK.out _ _ ⟨hHeld.1, hHeld.2⟩ (fun hHeld => ?_)
                                      clear hK K
                                      refine norm_ (a' := ?_) ?_ ?_
                                      rotate_left
                                      · show Act.put _ (some 107) _ = _
                                        simp only [Act.put, List.setIfInBounds_toArray, List.set_cons_zero, List.set_cons_succ, i64_w, i32_w]
                                        rfl
                                      refine pure_ (i := 12) (N := some 108) (v := ?_) (a' := ?_) #[true, true, true, true, true, true, true, true, true, true, true, true, true, false, false, false, false, false] rfl rfl (any_of HT_.out (by kernel_rfl)) (fun _ _ _ h => h) (Or.inl ⟨by rfl, ?_⟩) ?_ ?_
                                      rotate_left
                                      · intro w'
                                        go_simp
                                        with_reducible rfl
                                      rotate_left
                                      · simp only [Act.put, List.setIfInBounds_toArray, List.set_cons_zero, List.set_cons_succ, i64_w, i32_w]
                                        rfl
                                      refine pure_ (i := 13) (N := some 109) (v := ?_) (a' := ?_) #[true, true, true, true, true, true, true, true, true, true, true, true, true, true, false, false, false, false] rfl rfl (any_of HT_.out (by kernel_rfl)) (fun _ _ _ h => h) (Or.inl ⟨by rfl, ?_⟩) ?_ ?_
                                      rotate_left
                                      · intro w'
                                        go_simp
                                        with_reducible rfl
                                      rotate_left
                                      · simp only [Act.put, List.setIfInBounds_toArray, List.set_cons_zero, List.set_cons_succ, i64_w, i32_w]
                                        rfl
                                      refine pure_ (i := 14) (N := some 110) (v := ?_) (a' := ?_) #[true, true, true, true, true, true, true, true, true, true, true, true, true, true, true, false, false, false] rfl rfl (any_of HT_.out (by kernel_rfl)) (fun _ _ _ h => h) (Or.inl ⟨by rfl, ?_⟩) ?_ ?_
                                      rotate_left
                                      · intro w'
                                        go_simp
                                        with_reducible rfl
                                      rotate_left
                                      · simp only [Act.put, List.setIfInBounds_toArray, List.set_cons_zero, List.set_cons_succ, i64_w, i32_w]
                                        rfl
                                      refine pure_ (i := 15) (N := some 6) (v := ?_) (a' := ?_) #[true, true, true, true, true, true, true, true, true, true, true, true, true, true, true, true, false, false] rfl rfl (any_of HT_.out (by kernel_rfl)) (fun _ _ _ h => h) (Or.inl ⟨by rfl, ?_⟩) ?_ ?_
                                      rotate_left
                                      · intro w'
                                        go_simp
                                        with_reducible rfl
                                      rotate_left
                                      · simp only [Act.put, List.setIfInBounds_toArray, List.set_cons_zero, List.set_cons_succ, i64_w, i32_w]
                                        rfl
                                      refine pure_ (i := 16) (N := some 7) (v := ?_) (a' := ?_) #[true, true, true, true, true, true, true, true, true, true, true, true, true, true, true, true, true, false] rfl rfl (any_of HT_.out (by kernel_rfl)) (fun _ _ _ h => h) (Or.inl ⟨by rfl, ?_⟩) ?_ ?_
                                      rotate_left
                                      · intro w'
                                        go_simp
                                        with_reducible rfl
                                      rotate_left
                                      · simp only [Act.put, List.setIfInBounds_toArray, List.set_cons_zero, List.set_cons_succ, i64_w, i32_w]
                                        rfl
                                      refine pure_ (i := 17) (N := some 8) (v := ?_) (a' := ?_) #[true, true, true, true, true, true, true, true, true, true, true, true, true, true, true, true, true, true] rfl rfl (any_of HT_.out (by kernel_rfl)) (fun _ _ _ h => h) (Or.inl ⟨by rfl, ?_⟩) ?_ ?_
                                      rotate_left
                                      · intro w'
                                        go_simp
                                        with_reducible rfl
                                      rotate_left
                                      · simp only [Act.put, List.setIfInBounds_toArray, List.set_cons_zero, List.set_cons_succ, i64_w, i32_w]
                                        rfl
                                      refine done_ (done_of HT_.out (by kernel_rfl)) ?_
                                      try go_wp2
                                      go_ret3
                                      exact ⟨by first | rfl | (simp [errW_none, errW_some] <;> rfl) | (simp only [← hji10]; first | rfl | (simp [errW_none, errW_some] <;> rfl)) | (simp [*, errW_none, errW_some] <;> rfl), by repeat (first | (with_reducible first | exact HB.out | apply below_alloc | apply pw_below_drewN | apply below_drew1) | exact HB.out)⟩
                                    · rw [if_neg c59] at H
                                      exact absurd H (by simp)
                                  · rw [if_neg c58] at H
                                    exact absurd H (by simp)
                                · rw [if_neg c57] at H
                                  exact absurd H (by simp)
                              · rw [if_neg c56] at H
                                exact absurd H (by simp)
                    · rw [if_neg c28] at H
                      exact absurd H (by simp)
                  · rw [if_neg c27] at H
                    exact absurd H (by simp)
          · rw [if_neg c12] at H
            exact absurd H (by simp)
        · rw [if_neg c11] at H
          exact absurd H (by simp)

end Go.Proofs.Ytnikblimnjpmpaa.X
