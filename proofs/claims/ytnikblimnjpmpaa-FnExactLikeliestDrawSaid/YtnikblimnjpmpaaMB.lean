/- Texts of this seat in one: contracts of the functions (those written by wip/tools/xprint.py and those proved by hand) and plain laws. -/
import Derived.Test.YtnikblimnjpmpaaMA
import Derived.Lib.SliceRun
import Derived.Shelf.Abstract
import Derived.Deep.RegionHeld3
import Derived.Laws.EntriesVeiled
/- ==== XspecsoCounts ==== -/
namespace Go.Proofs.Ytnikblimnjpmpaa.X
open Go.RowKit Go.Proofs.YtnikblimnjpmpaaW.PrintWords Go.Proofs.YtnikblimnjpmpaaW.PrintLast Go.Proofs.YtnikblimnjpmpaaW.PrintMore
attribute [local go_sem] max2_int min2_int max_two min_two max_three min_three max_four min_four   -- for this text's walks alone
set_option linter.unusedVariables false
set_option linter.unusedSimpArgs false

/-! ### spec_soCounts: function 64 -/
mutual
def spec_soCounts.l0 : Nat → Int → Int → Int → List Int → List Int → Int → Int → Option (Int)
  | 0, _, _, _, _, _, _, _ => none
  | k + 1, x1, x2, x7, x8, x29, x30, x31 => if x31 < x30 then (if 0 ≤ x31 then (if x31 < (x29.length : Int) then (if 0 ≤ (x8.length : Int) then (if ((x8.length : Int) : Int).toNat ≤ 35184372088832 then (spec_soCounts.l1 k x1 x2 x7 (rd x29 x31) (List.replicate ((x8.length : Int) : Int).toNat 0) x29 x30 x31 x8 (x8.length : Int) 0) else (none)) else (none)) else (none)) else (none)) else ((spec_l1Most.f x2 0).bind fun t375 => (if 0 ≤ (wrap64 ((wrap64 (x1 * x7)) + t375)) then (if (wrap64 ((wrap64 (x1 * x7)) + t375)) < (x8.length : Int) then (some (rd x8 (wrap64 ((wrap64 (x1 * x7)) + t375)))) else (none)) else (none)))
def spec_soCounts.l1 : Nat → Int → Int → Int → Int → List Int → List Int → Int → Int → List Int → Int → Int → Option (Int)
  | 0, _, _, _, _, _, _, _, _, _, _, _ => none
  | k + 1, x1, x2, x7, x10, x11, x29, x30, x31, x38, x39, x40 => if x40 < x39 then (if 0 ≤ x40 then (if x40 < (x38.length : Int) then (if (rd x38 x40) = 0 then (spec_soCounts.l1 k x1 x2 x7 x10 x11 x29 x30 x31 x38 x39 (wrap64 (x40 + 1))) else (if x7 = 0 then (none) else (spec_soCounts.l2 k x1 x2 x7 x10 x11 (rd x38 x40) (wrap64 (Int.tdiv x40 x7)) (Int.tmod x40 x7) 0 x29 x30 x31 x38 x39 x40))) else (none)) else (none)) else (spec_soCounts.l0 k x1 x2 x7 x11 x29 x30 (wrap64 (x31 + 1)))
def spec_soCounts.l2 : Nat → Int → Int → Int → Int → List Int → Int → Int → Int → Int → List Int → Int → Int → List Int → Int → Int → Option (Int)
  | 0, _, _, _, _, _, _, _, _, _, _, _, _, _, _, _ => none
  | k + 1, x1, x2, x7, x10, x11, x13, x14, x15, x16, x29, x30, x31, x38, x39, x40 => if x16 ≤ x10 then (spec_soCounts.j3 k x1 x2 x7 x10 x11 x13 x14 x15 x16 x29 x30 x31 x38 x39 x40 (decide ((wrap64 (x14 + x16)) ≤ x1))) else (spec_soCounts.j3 k x1 x2 x7 x10 x11 x13 x14 x15 x16 x29 x30 x31 x38 x39 x40 false)
def spec_soCounts.j3 : Nat → Int → Int → Int → Int → List Int → Int → Int → Int → Int → List Int → Int → Int → List Int → Int → Int → Bool → Option (Int)
  | 0, _, _, _, _, _, _, _, _, _, _, _, _, _, _, _, _ => none
  | k + 1, x1, x2, x7, x10, x11, x13, x14, x15, x16, x29, x30, x31, x38, x39, x40, x62 => if x62 = true then (if x2 ≥ 0 then (if (wrap64 (x15 + (wrap64 (Int.tdiv x16 2)))) < x7 then (if 0 ≤ (wrap64 ((wrap64 ((wrap64 (x14 + x16)) * x7)) + (wrap64 (x15 + (wrap64 (Int.tdiv x16 2)))))) then (if (wrap64 ((wrap64 ((wrap64 (x14 + x16)) * x7)) + (wrap64 (x15 + (wrap64 (Int.tdiv x16 2)))))) < (x11.length : Int) then ((spec_l1Least.f (wrap64 ((rd x11 (wrap64 ((wrap64 ((wrap64 (x14 + x16)) * x7)) + (wrap64 (x15 + (wrap64 (Int.tdiv x16 2))))))) + x13)) 1000000000001).bind fun t383 => (spec_soCounts.l2 k x1 x2 x7 x10 (x11.set ((wrap64 ((wrap64 ((wrap64 (x14 + x16)) * x7)) + (wrap64 (x15 + (wrap64 (Int.tdiv x16 2)))))) : Int).toNat t383) x13 x14 x15 (wrap64 (x16 + 1)) x29 x30 x31 x38 x39 x40)) else (none)) else (none)) else (spec_soCounts.l2 k x1 x2 x7 x10 x11 x13 x14 x15 (wrap64 (x16 + 1)) x29 x30 x31 x38 x39 x40)) else (if x15 < x7 then (if 0 ≤ (wrap64 ((wrap64 ((wrap64 (x14 + x16)) * x7)) + x15)) then (if (wrap64 ((wrap64 ((wrap64 (x14 + x16)) * x7)) + x15)) < (x11.length : Int) then ((spec_l1Least.f (wrap64 ((rd x11 (wrap64 ((wrap64 ((wrap64 (x14 + x16)) * x7)) + x15))) + x13)) 1000000000001).bind fun t386 => (spec_soCounts.l2 k x1 x2 x7 x10 (x11.set ((wrap64 ((wrap64 ((wrap64 (x14 + x16)) * x7)) + x15)) : Int).toNat t386) x13 x14 x15 (wrap64 (x16 + 1)) x29 x30 x31 x38 x39 x40)) else (none)) else (none)) else (spec_soCounts.l2 k x1 x2 x7 x10 x11 x13 x14 x15 (wrap64 (x16 + 1)) x29 x30 x31 x38 x39 x40))) else (spec_soCounts.l1 k x1 x2 x7 x10 x11 x29 x30 x31 x38 x39 (wrap64 (x40 + 1)))
end
def spec_soCounts.f (k : Nat) (l0 : List Int) (a1 : Int) (a2 : Int) : Option (Int) := (spec_l1Most.f a2 0).bind fun t370 => (if 0 ≤ (wrap64 ((wrap64 (a1 + 1)) * (wrap64 (t370 + 1)))) then (if (wrap64 ((wrap64 (a1 + 1)) * (wrap64 (t370 + 1))) : Int).toNat ≤ 35184372088832 then ((some (List.replicate (wrap64 ((wrap64 (a1 + 1)) * (wrap64 (t370 + 1))) : Int).toNat 0 : List Int)).bind fun y371 => (if 0 < (y371.length : Int) then (spec_soCounts.l0 k a1 a2 (wrap64 (t370 + 1)) (y371.set (0 : Int).toNat 1) l0 (l0.length : Int) 0) else (none))) else (none)) else (none))
theorem spec_soCounts.mono_l : ∀ k, (∀ y0 y1 y2 y3 y4 y5 y6, LeO (spec_soCounts.l0 k y0 y1 y2 y3 y4 y5 y6) (spec_soCounts.l0 (k + 1) y0 y1 y2 y3 y4 y5 y6)) ∧ (∀ y0 y1 y2 y3 y4 y5 y6 y7 y8 y9 y10, LeO (spec_soCounts.l1 k y0 y1 y2 y3 y4 y5 y6 y7 y8 y9 y10) (spec_soCounts.l1 (k + 1) y0 y1 y2 y3 y4 y5 y6 y7 y8 y9 y10)) ∧ (∀ y0 y1 y2 y3 y4 y5 y6 y7 y8 y9 y10 y11 y12 y13 y14, LeO (spec_soCounts.l2 k y0 y1 y2 y3 y4 y5 y6 y7 y8 y9 y10 y11 y12 y13 y14) (spec_soCounts.l2 (k + 1) y0 y1 y2 y3 y4 y5 y6 y7 y8 y9 y10 y11 y12 y13 y14)) ∧ (∀ y0 y1 y2 y3 y4 y5 y6 y7 y8 y9 y10 y11 y12 y13 y14 y15, LeO (spec_soCounts.j3 k y0 y1 y2 y3 y4 y5 y6 y7 y8 y9 y10 y11 y12 y13 y14 y15) (spec_soCounts.j3 (k + 1) y0 y1 y2 y3 y4 y5 y6 y7 y8 y9 y10 y11 y12 y13 y14 y15))
  | 0 => ⟨fun _ _ _ _ _ _ _ r h => by simp [spec_soCounts.l0] at h, fun _ _ _ _ _ _ _ _ _ _ _ r h => by simp [spec_soCounts.l1] at h, fun _ _ _ _ _ _ _ _ _ _ _ _ _ _ _ r h => by simp [spec_soCounts.l2] at h, fun _ _ _ _ _ _ _ _ _ _ _ _ _ _ _ _ r h => by simp [spec_soCounts.j3] at h⟩
  | k + 1 => by
    obtain ⟨ih0, ih1, ih2, ih3⟩ := spec_soCounts.mono_l k
    refine ⟨?_, ?_, ?_, ?_⟩
    · intro y0 y1 y2 y3 y4 y5 y6
      unfold spec_soCounts.l0
      repeat' first
      | (with_reducible exact ih0 _ _ _ _ _ _ _)
      | (with_reducible exact ih1 _ _ _ _ _ _ _ _ _ _ _)
      | (with_reducible exact ih2 _ _ _ _ _ _ _ _ _ _ _ _ _ _ _)
      | (with_reducible exact ih3 _ _ _ _ _ _ _ _ _ _ _ _ _ _ _ _)
      | (with_reducible exact LeO.refl _)
      | (with_reducible exact LeO.none _)
      | (with_reducible refine LeO.ite ?_ ?_)
      | (with_reducible refine LeO.bind ?_ (fun _ => ?_))
      | exact ih0 _ _ _ _ _ _ _
      | exact ih1 _ _ _ _ _ _ _ _ _ _ _
      | exact ih2 _ _ _ _ _ _ _ _ _ _ _ _ _ _ _
      | exact ih3 _ _ _ _ _ _ _ _ _ _ _ _ _ _ _ _
      | exact LeO.none _
      | refine LeO.ite ?_ ?_
      | refine LeO.bind ?_ (fun _ => ?_)
    · intro y0 y1 y2 y3 y4 y5 y6 y7 y8 y9 y10
      unfold spec_soCounts.l1
      repeat' first
      | (with_reducible exact ih0 _ _ _ _ _ _ _)
      | (with_reducible exact ih1 _ _ _ _ _ _ _ _ _ _ _)
      | (with_reducible exact ih2 _ _ _ _ _ _ _ _ _ _ _ _ _ _ _)
      | (with_reducible exact ih3 _ _ _ _ _ _ _ _ _ _ _ _ _ _ _ _)
      | (with_reducible exact LeO.refl _)
      | (with_reducible exact LeO.none _)
      | (with_reducible refine LeO.ite ?_ ?_)
      | (with_reducible refine LeO.bind ?_ (fun _ => ?_))
      | exact ih0 _ _ _ _ _ _ _
      | exact ih1 _ _ _ _ _ _ _ _ _ _ _
      | exact ih2 _ _ _ _ _ _ _ _ _ _ _ _ _ _ _
      | exact ih3 _ _ _ _ _ _ _ _ _ _ _ _ _ _ _ _
      | exact LeO.none _
      | refine LeO.ite ?_ ?_
      | refine LeO.bind ?_ (fun _ => ?_)
    · intro y0 y1 y2 y3 y4 y5 y6 y7 y8 y9 y10 y11 y12 y13 y14
      unfold spec_soCounts.l2
      repeat' first
      | (with_reducible exact ih0 _ _ _ _ _ _ _)
      | (with_reducible exact ih1 _ _ _ _ _ _ _ _ _ _ _)
      | (with_reducible exact ih2 _ _ _ _ _ _ _ _ _ _ _ _ _ _ _)
      | (with_reducible exact ih3 _ _ _ _ _ _ _ _ _ _ _ _ _ _ _ _)
      | (with_reducible exact LeO.refl _)
      | (with_reducible exact LeO.none _)
      | (with_reducible refine LeO.ite ?_ ?_)
      | (with_reducible refine LeO.bind ?_ (fun _ => ?_))
      | exact ih0 _ _ _ _ _ _ _
      | exact ih1 _ _ _ _ _ _ _ _ _ _ _
      | exact ih2 _ _ _ _ _ _ _ _ _ _ _ _ _ _ _
      | exact ih3 _ _ _ _ _ _ _ _ _ _ _ _ _ _ _ _
      | exact LeO.none _
      | refine LeO.ite ?_ ?_
      | refine LeO.bind ?_ (fun _ => ?_)
    · intro y0 y1 y2 y3 y4 y5 y6 y7 y8 y9 y10 y11 y12 y13 y14 y15
      unfold spec_soCounts.j3
      repeat' first
      | (with_reducible exact ih0 _ _ _ _ _ _ _)
      | (with_reducible exact ih1 _ _ _ _ _ _ _ _ _ _ _)
      | (with_reducible exact ih2 _ _ _ _ _ _ _ _ _ _ _ _ _ _ _)
      | (with_reducible exact ih3 _ _ _ _ _ _ _ _ _ _ _ _ _ _ _ _)
      | (with_reducible exact LeO.refl _)
      | (with_reducible exact LeO.none _)
      | (with_reducible refine LeO.ite ?_ ?_)
      | (with_reducible refine LeO.bind ?_ (fun _ => ?_))
      | exact ih0 _ _ _ _ _ _ _
      | exact ih1 _ _ _ _ _ _ _ _ _ _ _
      | exact ih2 _ _ _ _ _ _ _ _ _ _ _ _ _ _ _
      | exact ih3 _ _ _ _ _ _ _ _ _ _ _ _ _ _ _ _
      | exact LeO.none _
      | refine LeO.ite ?_ ?_
      | refine LeO.bind ?_ (fun _ => ?_)
theorem spec_soCounts.mono : ∀ a0 a1 a2 k, LeO (spec_soCounts.f k a0 a1 a2) (spec_soCounts.f (k + 1) a0 a1 a2) := by
  intro a0 a1 a2 k
  obtain ⟨ih0, ih1, ih2, ih3⟩ := spec_soCounts.mono_l k
  unfold spec_soCounts.f
  repeat' first
      | (with_reducible exact ih0 _ _ _ _ _ _ _)
      | (with_reducible exact ih1 _ _ _ _ _ _ _ _ _ _ _)
      | (with_reducible exact ih2 _ _ _ _ _ _ _ _ _ _ _ _ _ _ _)
      | (with_reducible exact ih3 _ _ _ _ _ _ _ _ _ _ _ _ _ _ _ _)
      | (with_reducible exact LeO.refl _)
      | (with_reducible exact LeO.none _)
      | (with_reducible refine LeO.ite ?_ ?_)
      | (with_reducible refine LeO.bind ?_ (fun _ => ?_))
      | exact ih0 _ _ _ _ _ _ _
      | exact ih1 _ _ _ _ _ _ _ _ _ _ _
      | exact ih2 _ _ _ _ _ _ _ _ _ _ _ _ _ _ _
      | exact ih3 _ _ _ _ _ _ _ _ _ _ _ _ _ _ _ _
      | exact LeO.none _
      | refine LeO.ite ?_ ?_
      | refine LeO.bind ?_ (fun _ => ?_)
set_option maxHeartbeats 8000000 in
set_option maxRecDepth 100000 in
theorem spec_soCounts.calls (k : Nat) (A0 : Option Addr) (c0 : Nat) (l0 : List Int) (a1 : Int) (a2 : Int) (r : Int) (w : World) (hr0 : Kd.C (Kd.int .i64) w A0 l0.length l0) (hc0 : l0.length ≤ c0) (h : spec_soCounts.f k l0 a1 a2 = some r) :
    Calls Try.prog 64 #[.slice A0 l0.length c0, .int .i64 a1, .int .i64 a2] w fun e w' => e = .returned (.int .i64 r) ∧ Below w.heap.size w w' := by
  have HR0 := Aside0.mk hr0
  have HC0 := Aside0.mk hc0
  clear hr0 hc0
  have HB := Aside0.mk (Below.refl w.heap.size w)
  have H : ((spec_l1Most.f a2 0).bind fun t370 => (if 0 ≤ (wrap64 ((wrap64 (a1 + 1)) * (wrap64 (t370 + 1)))) then (if (wrap64 ((wrap64 (a1 + 1)) * (wrap64 (t370 + 1))) : Int).toNat ≤ 35184372088832 then ((some (List.replicate (wrap64 ((wrap64 (a1 + 1)) * (wrap64 (t370 + 1))) : Int).toNat 0 : List Int)).bind fun y371 => (if 0 < (y371.length : Int) then (spec_soCounts.l0 k a1 a2 (wrap64 (t370 + 1)) (y371.set (0 : Int).toNat 1) l0 (l0.length : Int) 0) else (none))) else (none)) else (none))) = some r := h
  clear h
  replace H := Option.bind_eq_some_iff.mp H
  obtain ⟨t370, A40, H⟩ := H
  replace H : (if 0 ≤ (wrap64 ((wrap64 (a1 + 1)) * (wrap64 (t370 + 1)))) then (if (wrap64 ((wrap64 (a1 + 1)) * (wrap64 (t370 + 1))) : Int).toNat ≤ 35184372088832 then ((some (List.replicate (wrap64 ((wrap64 (a1 + 1)) * (wrap64 (t370 + 1))) : Int).toNat 0 : List Int)).bind fun y371 => (if 0 < (y371.length : Int) then (spec_soCounts.l0 k a1 a2 (wrap64 (t370 + 1)) (y371.set (0 : Int).toNat 1) l0 (l0.length : Int) 0) else (none))) else (none)) else (none)) = some r := H
  have A4 := Aside0.mk A40
  clear A40
  obtain ⟨ji5, hji5⟩ : ∃ j_ : Int, (wrap64 ((wrap64 (a1 + 1)) * (wrap64 (t370 + 1)))) = j_ := ⟨_, rfl⟩
  replace H : (if 0 ≤ (ji5) then (if (ji5 : Int).toNat ≤ 35184372088832 then ((some (List.replicate (ji5 : Int).toNat 0 : List Int)).bind fun y371 => (if 0 < (y371.length : Int) then (spec_soCounts.l0 k a1 a2 (wrap64 (t370 + 1)) (y371.set (0 : Int).toNat 1) l0 (l0.length : Int) 0) else (none))) else (none)) else (none)) = some r := by first | (rw [hji5] at H; exact H) | (simp only [hji5] at H ⊢; exact H)
  (try rw [hji5] at A4)
  have hji5w : (IntKind.i64.wrap ((wrap64 (a1 + 1)) * (wrap64 (t370 + 1)))) = ji5 := (i64_w _).trans hji5
  by_cases c6 : 0 ≤ (ji5)
  · rw [if_pos c6] at H
    have c6b0 := eq_true c6
    have c6b1 : decide (0 ≤ (ji5)) = true := decide_eq_true c6
    clear c6
    by_cases c7 : (ji5 : Int).toNat ≤ 35184372088832
    · rw [if_pos c7] at H
      have c7b0 := eq_true c7
      have c7b1 : decide ((ji5 : Int).toNat ≤ 35184372088832) = true := decide_eq_true c7
      clear c7
      obtain ⟨y371, hy371⟩ : ∃ y_ : List Int, y_ = (List.replicate (ji5 : Int).toNat 0) := ⟨_, rfl⟩
      replace H : (if 0 < (y371.length : Int) then (spec_soCounts.l0 k a1 a2 (wrap64 (t370 + 1)) (y371.set (0 : Int).toNat 1) l0 (l0.length : Int) 0) else (none)) = some r := by first | (rw [hy371]; with_reducible exact H) | (have H2_ := (Option.bind_some _ _).symm.trans H; rw [hy371]; with_reducible exact H2_) | (have H2_ := (Option.bind_some _ _).symm.trans H; with_reducible exact H2_) | with_reducible exact H | (rw [hy371]; exact H) | exact H
      have Ny371 := Aside0.mk hy371
      clear hy371
      by_cases c8 : 0 < (y371.length : Int)
      · rw [if_pos c8] at H
        have c8b0 : decide (0 < (y371.length : Int)) = true := decide_eq_true c8
        have c8b1 : decide (0 < y371.length) = true := decide_eq_true (by omega)
        clear c8
        obtain ⟨y374, hy374⟩ : ∃ y_ : List Int, y_ = (y371.set (0 : Int).toNat 1) := ⟨_, rfl⟩
        replace H : (spec_soCounts.l0 k a1 a2 (wrap64 (t370 + 1)) y374 l0 (l0.length : Int) 0) = some r := by first | (rw [hy374]; with_reducible exact H) | (have H2_ := (Option.bind_some _ _).symm.trans H; rw [hy374]; with_reducible exact H2_) | (have H2_ := (Option.bind_some _ _).symm.trans H; with_reducible exact H2_) | with_reducible exact H | (rw [hy374]; exact H) | exact H
        have Ny374 := Aside0.mk hy374
        clear hy374
        have H' := Aside0.mk H
        clear H
        go_enter Try.func64, Try.ntmps64
        go_wp2_with (first | (go_at_call 72; (with_reducible refine (spec_l1Most.calls a2 0 t370 _ A4.out).mono ?_); rintro e w' ⟨rfl, ⟨nd, rfl⟩⟩; (try first | exact ⟨rfl, _, World.drewN_drewN _ _ _⟩ | exact ⟨rfl, _, Eq.trans (World.drewN_drewN _ _ _) (congrArg (World.drewN _) (Nat.add_assoc _ _ _))⟩)) | ((with_reducible refine gate_dst (N := 26) rfl ?_); refine Kd.R_make (Kd.int .i64) _ 3 rfl (N := 26) rfl 22 _ _ rfl ji5 rfl rfl Try.underlying22 (.int .i64 0) 8 info3 rfl (by decide) (by omega) 0 (ok := fun _ => True) (okp := fun _ => True) rfl (fun _ hk => hk) trivial (of_decide_eq_true (by first | (with_reducible assumption) | assumption)) (Nat.le_trans (Nat.mul_le_mul_right _ (of_decide_eq_true (by first | (with_reducible assumption) | assumption) : ji5.toNat ≤ 35184372088832)) (by omega)) (Below.refl _ _) (Nat.le_refl _) ?_; intro v372 w10 ho11 hb hg_ hnew_; clear hg_ hnew_; (first | rw [← Ny371.out] at ho11 | (simp only [Int.reduceToNat] at ho11; rw [← Ny371.out] at ho11)); have n0_ := Aside0.mk (Kd.R_lower ho11 (below_size (by repeat (first | (with_reducible first | exact HB.out | apply below_alloc | apply pw_below_drewN | apply below_drew1) | exact HB.out)))); have n1_ := Aside0.mk (below_step (by repeat (first | (with_reducible first | exact HB.out | apply below_alloc | apply pw_below_drewN | apply below_drew1) | exact HB.out)) hb); clear HB; have HO373 := n0_; have HB := n1_; clear n0_ n1_; clear hb ho11; have p9 : 0 ≤ (0 : Int) := (by omega); have q9 : (0 : Int) < ((y371.length : Int) : Int) := of_decide_eq_true (by first | (with_reducible assumption) | assumption); have qi9 : (0 < y371.length) = True := eq_true (by omega); obtain ⟨go9, co9, eo9, gb9, gl9, cl9, HG9⟩ := Kd.R_form HO373.out (by omega); (first | cases eo9 | (injection eo9 with ea_ en_ ec_; (first | subst ea_ | (injection ea_ with ea_; subst ea_)); subst ec_; clear en_)); have GB9 := Aside0.mk gb9; have GG9 := Aside0.mk HG9; clear gb9 gl9 HG9; obtain ⟨hx9_0, hf9_0⟩ := Kd.R_celln 0 HO373.out (0 : Int) p9 q9; (try rw [show ((0 : Int)).toNat = 0 from rfl] at hx9_0); (try simp only [Nat.reduceMul, Nat.zero_mul, Nat.zero_add, Nat.reduceAdd] at hx9_0); (try rw [show ((0 : Int)).toNat = 0 from rfl] at hf9_0); (try simp only [Nat.reduceMul, Nat.zero_mul, Nat.zero_add, Nat.reduceAdd] at hf9_0); replace p9 := eq_true p9; replace q9 := eq_true q9; obtain ⟨hy12_, hz12_⟩ := Kd.R_celln 0 HO373.out (0 : Int) (by omega) (of_decide_eq_true (by first | (with_reducible assumption) | assumption)); (try simp only [Int.reduceToNat, Int.toNat_zero, Int.toNat_ofNat, Nat.reduceMul, Nat.zero_mul, Nat.zero_add] at hy12_ hz12_); (try rw [show ((0 : Int)).toNat = 0 from rfl] at hy12_); (try rw [show ((0 : Int)).toNat = 0 from rfl] at hz12_); have HP12 := Kd.R_putg HO373.out (0 : Int) 1) | ((with_reducible refine gate_store (t := 3) (p := 28) rfl ?_); (try (rw [drewN_self w10]; generalize hq_ : World.drewN w10 _ = w10; have n0_ := Aside0.mk (Kd.R_at hq_ HO373.out); have n1_ := Aside0.mk (below_at hq_ HB.out); clear hq_ HO373 HB; have HO373 := n0_; have HB := n1_; clear n0_ n1_; (try (obtain ⟨hy12_, hz12_⟩ := Kd.R_celln 0 HO373.out (0 : Int) (by omega) (of_decide_eq_true (by first | (with_reducible assumption) | assumption)))); (try (try simp only [Int.reduceToNat, Int.toNat_zero, Int.toNat_ofNat, Nat.reduceMul, Nat.zero_mul, Nat.zero_add] at hy12_ hz12_)); (try (try rw [show ((0 : Int)).toNat = 0 from rfl] at hy12_)); (try (try rw [show ((0 : Int)).toNat = 0 from rfl] at hz12_)); (try (have HP12 := Kd.R_putg HO373.out (0 : Int) 1)))); refine store_event (t := 3) (p := 28) (v := ?vo_w13) (w1 := (w10.setCell ⟨go9, (0 : Int).toNat, none⟩ (.int .i64 1))) ?hg ?ho ?hn ?hr ?_; (case ho => rfl); (case hg => rfl); (case hn => rfl); (case hr => first | (go_simp; done) | (go_simp; rfl)); intro w13 hw; have hg : w10.grownBy w13 (some go9) := (by rw [hw]; exact HP12.2); have hp_ : Kd.R (Kd.int .i64) 3 w13 w.heap.size (fun _ => True) (.slice (some ⟨go9, 0, none⟩) y371.length co9) y374 := (by rw [hw, Ny374.out]; exact HP12.1); clear HP12; have n0_ := Aside0.mk (hp_); have n1_ := Aside0.mk ((by rw [hw]; exact below_set (HB.out) GB9.out : Below w.heap.size w w13)); clear HO373; clear HB; have HO373 := n0_; have HB := n1_; clear n0_ n1_; clear hg hw hp_))
        repeat (go_quiet (first | (go_at_call 72; (with_reducible refine (spec_l1Most.calls a2 0 t370 _ A4.out).mono ?_); rintro e w' ⟨rfl, ⟨nd, rfl⟩⟩; (try first | exact ⟨rfl, _, World.drewN_drewN _ _ _⟩ | exact ⟨rfl, _, Eq.trans (World.drewN_drewN _ _ _) (congrArg (World.drewN _) (Nat.add_assoc _ _ _))⟩)) | ((with_reducible refine gate_dst (N := 26) rfl ?_); refine Kd.R_make (Kd.int .i64) _ 3 rfl (N := 26) rfl 22 _ _ rfl ji5 rfl rfl Try.underlying22 (.int .i64 0) 8 info3 rfl (by decide) (by omega) 0 (ok := fun _ => True) (okp := fun _ => True) rfl (fun _ hk => hk) trivial (of_decide_eq_true (by first | (with_reducible assumption) | assumption)) (Nat.le_trans (Nat.mul_le_mul_right _ (of_decide_eq_true (by first | (with_reducible assumption) | assumption) : ji5.toNat ≤ 35184372088832)) (by omega)) (Below.refl _ _) (Nat.le_refl _) ?_; intro v372 w10 ho11 hb hg_ hnew_; clear hg_ hnew_; (first | rw [← Ny371.out] at ho11 | (simp only [Int.reduceToNat] at ho11; rw [← Ny371.out] at ho11)); have n0_ := Aside0.mk (Kd.R_lower ho11 (below_size (by repeat (first | (with_reducible first | exact HB.out | apply below_alloc | apply pw_below_drewN | apply below_drew1) | exact HB.out)))); have n1_ := Aside0.mk (below_step (by repeat (first | (with_reducible first | exact HB.out | apply below_alloc | apply pw_below_drewN | apply below_drew1) | exact HB.out)) hb); clear HB; have HO373 := n0_; have HB := n1_; clear n0_ n1_; clear hb ho11; have p9 : 0 ≤ (0 : Int) := (by omega); have q9 : (0 : Int) < ((y371.length : Int) : Int) := of_decide_eq_true (by first | (with_reducible assumption) | assumption); have qi9 : (0 < y371.length) = True := eq_true (by omega); obtain ⟨go9, co9, eo9, gb9, gl9, cl9, HG9⟩ := Kd.R_form HO373.out (by omega); (first | cases eo9 | (injection eo9 with ea_ en_ ec_; (first | subst ea_ | (injection ea_ with ea_; subst ea_)); subst ec_; clear en_)); have GB9 := Aside0.mk gb9; have GG9 := Aside0.mk HG9; clear gb9 gl9 HG9; obtain ⟨hx9_0, hf9_0⟩ := Kd.R_celln 0 HO373.out (0 : Int) p9 q9; (try rw [show ((0 : Int)).toNat = 0 from rfl] at hx9_0); (try simp only [Nat.reduceMul, Nat.zero_mul, Nat.zero_add, Nat.reduceAdd] at hx9_0); (try rw [show ((0 : Int)).toNat = 0 from rfl] at hf9_0); (try simp only [Nat.reduceMul, Nat.zero_mul, Nat.zero_add, Nat.reduceAdd] at hf9_0); replace p9 := eq_true p9; replace q9 := eq_true q9; obtain ⟨hy12_, hz12_⟩ := Kd.R_celln 0 HO373.out (0 : Int) (by omega) (of_decide_eq_true (by first | (with_reducible assumption) | assumption)); (try simp only [Int.reduceToNat, Int.toNat_zero, Int.toNat_ofNat, Nat.reduceMul, Nat.zero_mul, Nat.zero_add] at hy12_ hz12_); (try rw [show ((0 : Int)).toNat = 0 from rfl] at hy12_); (try rw [show ((0 : Int)).toNat = 0 from rfl] at hz12_); have HP12 := Kd.R_putg HO373.out (0 : Int) 1) | ((with_reducible refine gate_store (t := 3) (p := 28) rfl ?_); (try (rw [drewN_self w10]; generalize hq_ : World.drewN w10 _ = w10; have n0_ := Aside0.mk (Kd.R_at hq_ HO373.out); have n1_ := Aside0.mk (below_at hq_ HB.out); clear hq_ HO373 HB; have HO373 := n0_; have HB := n1_; clear n0_ n1_; (try (obtain ⟨hy12_, hz12_⟩ := Kd.R_celln 0 HO373.out (0 : Int) (by omega) (of_decide_eq_true (by first | (with_reducible assumption) | assumption)))); (try (try simp only [Int.reduceToNat, Int.toNat_zero, Int.toNat_ofNat, Nat.reduceMul, Nat.zero_mul, Nat.zero_add] at hy12_ hz12_)); (try (try rw [show ((0 : Int)).toNat = 0 from rfl] at hy12_)); (try (try rw [show ((0 : Int)).toNat = 0 from rfl] at hz12_)); (try (have HP12 := Kd.R_putg HO373.out (0 : Int) 1)))); refine store_event (t := 3) (p := 28) (v := ?vo_w13) (w1 := (w10.setCell ⟨go9, (0 : Int).toNat, none⟩ (.int .i64 1))) ?hg ?ho ?hn ?hr ?_; (case ho => rfl); (case hg => rfl); (case hn => rfl); (case hr => first | (go_simp; done) | (go_simp; rfl)); intro w13 hw; have hg : w10.grownBy w13 (some go9) := (by rw [hw]; exact HP12.2); have hp_ : Kd.R (Kd.int .i64) 3 w13 w.heap.size (fun _ => True) (.slice (some ⟨go9, 0, none⟩) y371.length co9) y374 := (by rw [hw, Ny374.out]; exact HP12.1); clear HP12; have n0_ := Aside0.mk (hp_); have n1_ := Aside0.mk ((by rw [hw]; exact below_set (HB.out) GB9.out : Below w.heap.size w w13)); clear HO373; clear HB; have HO373 := n0_; have HB := n1_; clear n0_ n1_; clear hg hw hp_)); try go_wp2_with (first | (go_at_call 72; (with_reducible refine (spec_l1Most.calls a2 0 t370 _ A4.out).mono ?_); rintro e w' ⟨rfl, ⟨nd, rfl⟩⟩; (try first | exact ⟨rfl, _, World.drewN_drewN _ _ _⟩ | exact ⟨rfl, _, Eq.trans (World.drewN_drewN _ _ _) (congrArg (World.drewN _) (Nat.add_assoc _ _ _))⟩)) | ((with_reducible refine gate_dst (N := 26) rfl ?_); refine Kd.R_make (Kd.int .i64) _ 3 rfl (N := 26) rfl 22 _ _ rfl ji5 rfl rfl Try.underlying22 (.int .i64 0) 8 info3 rfl (by decide) (by omega) 0 (ok := fun _ => True) (okp := fun _ => True) rfl (fun _ hk => hk) trivial (of_decide_eq_true (by first | (with_reducible assumption) | assumption)) (Nat.le_trans (Nat.mul_le_mul_right _ (of_decide_eq_true (by first | (with_reducible assumption) | assumption) : ji5.toNat ≤ 35184372088832)) (by omega)) (Below.refl _ _) (Nat.le_refl _) ?_; intro v372 w10 ho11 hb hg_ hnew_; clear hg_ hnew_; (first | rw [← Ny371.out] at ho11 | (simp only [Int.reduceToNat] at ho11; rw [← Ny371.out] at ho11)); have n0_ := Aside0.mk (Kd.R_lower ho11 (below_size (by repeat (first | (with_reducible first | exact HB.out | apply below_alloc | apply pw_below_drewN | apply below_drew1) | exact HB.out)))); have n1_ := Aside0.mk (below_step (by repeat (first | (with_reducible first | exact HB.out | apply below_alloc | apply pw_below_drewN | apply below_drew1) | exact HB.out)) hb); clear HB; have HO373 := n0_; have HB := n1_; clear n0_ n1_; clear hb ho11; have p9 : 0 ≤ (0 : Int) := (by omega); have q9 : (0 : Int) < ((y371.length : Int) : Int) := of_decide_eq_true (by first | (with_reducible assumption) | assumption); have qi9 : (0 < y371.length) = True := eq_true (by omega); obtain ⟨go9, co9, eo9, gb9, gl9, cl9, HG9⟩ := Kd.R_form HO373.out (by omega); (first | cases eo9 | (injection eo9 with ea_ en_ ec_; (first | subst ea_ | (injection ea_ with ea_; subst ea_)); subst ec_; clear en_)); have GB9 := Aside0.mk gb9; have GG9 := Aside0.mk HG9; clear gb9 gl9 HG9; obtain ⟨hx9_0, hf9_0⟩ := Kd.R_celln 0 HO373.out (0 : Int) p9 q9; (try rw [show ((0 : Int)).toNat = 0 from rfl] at hx9_0); (try simp only [Nat.reduceMul, Nat.zero_mul, Nat.zero_add, Nat.reduceAdd] at hx9_0); (try rw [show ((0 : Int)).toNat = 0 from rfl] at hf9_0); (try simp only [Nat.reduceMul, Nat.zero_mul, Nat.zero_add, Nat.reduceAdd] at hf9_0); replace p9 := eq_true p9; replace q9 := eq_true q9; obtain ⟨hy12_, hz12_⟩ := Kd.R_celln 0 HO373.out (0 : Int) (by omega) (of_decide_eq_true (by first | (with_reducible assumption) | assumption)); (try simp only [Int.reduceToNat, Int.toNat_zero, Int.toNat_ofNat, Nat.reduceMul, Nat.zero_mul, Nat.zero_add] at hy12_ hz12_); (try rw [show ((0 : Int)).toNat = 0 from rfl] at hy12_); (try rw [show ((0 : Int)).toNat = 0 from rfl] at hz12_); have HP12 := Kd.R_putg HO373.out (0 : Int) 1) | ((with_reducible refine gate_store (t := 3) (p := 28) rfl ?_); (try (rw [drewN_self w10]; generalize hq_ : World.drewN w10 _ = w10; have n0_ := Aside0.mk (Kd.R_at hq_ HO373.out); have n1_ := Aside0.mk (below_at hq_ HB.out); clear hq_ HO373 HB; have HO373 := n0_; have HB := n1_; clear n0_ n1_; (try (obtain ⟨hy12_, hz12_⟩ := Kd.R_celln 0 HO373.out (0 : Int) (by omega) (of_decide_eq_true (by first | (with_reducible assumption) | assumption)))); (try (try simp only [Int.reduceToNat, Int.toNat_zero, Int.toNat_ofNat, Nat.reduceMul, Nat.zero_mul, Nat.zero_add] at hy12_ hz12_)); (try (try rw [show ((0 : Int)).toNat = 0 from rfl] at hy12_)); (try (try rw [show ((0 : Int)).toNat = 0 from rfl] at hz12_)); (try (have HP12 := Kd.R_putg HO373.out (0 : Int) 1)))); refine store_event (t := 3) (p := 28) (v := ?vo_w13) (w1 := (w10.setCell ⟨go9, (0 : Int).toNat, none⟩ (.int .i64 1))) ?hg ?ho ?hn ?hr ?_; (case ho => rfl); (case hg => rfl); (case hn => rfl); (case hr => first | (go_simp; done) | (go_simp; rfl)); intro w13 hw; have hg : w10.grownBy w13 (some go9) := (by rw [hw]; exact HP12.2); have hp_ : Kd.R (Kd.int .i64) 3 w13 w.heap.size (fun _ => True) (.slice (some ⟨go9, 0, none⟩) y371.length co9) y374 := (by rw [hw, Ny374.out]; exact HP12.1); clear HP12; have n0_ := Aside0.mk (hp_); have n1_ := Aside0.mk ((by rw [hw]; exact below_set (HB.out) GB9.out : Below w.heap.size w w13)); clear HO373; clear HB; have HO373 := n0_; have HB := n1_; clear n0_ n1_; clear hg hw hp_)))
        go_loopg [8, 31] k (fun kq v8 v31 w' => ∃ (x8_1 : List Int) (x31_1 : Int), v31 = .int .i64 x31_1 ∧ Aside0 (spec_soCounts.l0 kq a1 a2 (wrap64 (t370 + 1)) x8_1 l0 (l0.length : Int) x31_1 = some r) ∧ Aside0 (kq ≤ k) ∧ Aside0 (Kd.R (Kd.int .i64) 3 w' w.heap.size (fun _ => True) v8 x8_1) ∧ Aside0 (Below w.heap.size w w'))
        case atStart => exact ⟨(y374), (0), (by first | rfl | (simp; done) | (simp [*]; done)), H', ⟨Nat.le_refl _⟩, ⟨by (with_reducible repeat (first | apply Kd.R_alloc | apply Kd.R_drewN | apply Kd.R_drew)); exact HO373.out⟩, ⟨by repeat (first | (with_reducible first | exact HB.out | apply below_alloc | apply pw_below_drewN | apply below_drew1) | exact HB.out)⟩⟩
        case round =>
          clear H'
          try clear p2
          try clear c6
          try clear c6b0
          try clear c6b1
          try clear p6
          try clear c7
          try clear c7b0
          try clear c7b1
          try clear c8
          try clear c8b0
          try clear c8b1
          try clear p9
          try clear q9
          try clear hx9
          try clear qi9
          try clear hf9
          try clear hx9_0
          try clear p9
          try clear q9
          obtain ⟨x8_1, x31_1, rfl, HA, HK1, HO_8, HB⟩ := hrel
          cases gk with
          | zero => exact absurd HA.out (by simp [spec_soCounts.l0])
          | succ k1 =>
            have H := HA.out
            clear HA
            simp only [spec_soCounts.l0] at H
            by_cases c14 : x31_1 < (l0.length : Int)
            · rw [if_pos c14] at H
              have c14b0 : decide (x31_1 < (l0.length : Int)) = true := decide_eq_true c14
              clear c14
              by_cases c15 : 0 ≤ x31_1
              · rw [if_pos c15] at H
                have c15b0 : decide (0 ≤ x31_1) = true := decide_eq_true c15
                clear c15
                by_cases c16 : x31_1 < (l0.length : Int)
                · rw [if_pos c16] at H
                  have c16b0 : decide (x31_1 < (l0.length : Int)) = true := decide_eq_true c16
                  clear c16
                  by_cases c17 : 0 ≤ (x8_1.length : Int)
                  · rw [if_pos c17] at H
                    have c17b0 := eq_true c17
                    have c17b1 : decide (0 ≤ (x8_1.length : Int)) = true := decide_eq_true c17
                    clear c17
                    by_cases c18 : ((x8_1.length : Int) : Int).toNat ≤ 35184372088832
                    · rw [if_pos c18] at H
                      have c18b0 := eq_true c18
                      have c18b1 : decide (((x8_1.length : Int) : Int).toNat ≤ 35184372088832) = true := decide_eq_true c18
                      clear c18
                      obtain ⟨y378, hy378⟩ : ∃ y_ : List Int, y_ = (List.replicate ((x8_1.length : Int) : Int).toNat 0) := ⟨_, rfl⟩
                      replace H : (spec_soCounts.l1 k1 a1 a2 (wrap64 (t370 + 1)) (rd l0 x31_1) y378 l0 (l0.length : Int) x31_1 x8_1 (x8_1.length : Int) 0) = some r := by first | (rw [hy378]; with_reducible exact H) | (have H2_ := (Option.bind_some _ _).symm.trans H; rw [hy378]; with_reducible exact H2_) | (have H2_ := (Option.bind_some _ _).symm.trans H; with_reducible exact H2_) | with_reducible exact H | (rw [hy378]; exact H) | exact H
                      have Ny378 := Aside0.mk hy378
                      clear hy378
                      have H' := Aside0.mk H
                      clear H
                      have p377 : 0 ≤ (x31_1 : Int) := of_decide_eq_true (by first | (with_reducible assumption) | assumption)
                      have q377 : x31_1 < (l0.length : Int) := of_decide_eq_true (by first | (with_reducible assumption) | assumption)
                      obtain ⟨ad377, e377, hx377_0⟩ := Kd.at_int HR0.out x31_1 p377 q377
                      cases e377
                      replace hx377_0 := (HB.out.cell (World.block_lt_of_cell? w _ hx377_0)).trans hx377_0
                      replace p377 := eq_true p377
                      replace q377 := eq_true q377
                      obtain ⟨Ao19, co19, eo19⟩ := Kd.R_slice HO_8.out
                      subst eo19
                      go_wp2_with (first | ((with_reducible refine gate_dst (N := 37) rfl ?_); refine Kd.R_make (Kd.int .i64) _ 3 rfl (N := 37) rfl 22 _ _ rfl (x8_1.length : Int) rfl rfl Try.underlying22 (.int .i64 0) 8 info3 rfl (by decide) (by omega) 0 (ok := fun _ => True) (okp := fun _ => True) rfl (fun _ hk => hk) trivial (of_decide_eq_true (by first | (with_reducible assumption) | assumption)) (Nat.le_trans (Nat.mul_le_mul_right _ (of_decide_eq_true (by first | (with_reducible assumption) | assumption) : (x8_1.length : Int).toNat ≤ 35184372088832)) (by omega)) (Below.refl _ _) (Nat.le_refl _) ?_; intro v379 w20 ho21 hb hg_ hnew_; clear hg_ hnew_; (first | rw [← Ny378.out] at ho21 | (simp only [Int.reduceToNat] at ho21; rw [← Ny378.out] at ho21)); have n0_ := Aside0.mk (Kd.R_elder' (by (with_reducible repeat (first | apply Kd.R_alloc | apply Kd.R_drewN | apply Kd.R_drew)); exact HO_8.out) (Kd.R_base ho21) hb); have n1_ := Aside0.mk (Kd.R_lower (Kd.R_new' ho21 (Kd.R_lt (by (with_reducible repeat (first | apply Kd.R_alloc | apply Kd.R_drewN | apply Kd.R_drew)); exact HO_8.out))) (below_size (by repeat (first | (with_reducible first | exact HB.out | apply below_alloc | apply pw_below_drewN | apply below_drew1) | exact HB.out)))); have n2_ := Aside0.mk (below_step (by repeat (first | (with_reducible first | exact HB.out | apply below_alloc | apply pw_below_drewN | apply below_drew1) | exact HB.out)) hb); clear HO_8; clear HB; have HO_8 := n0_; have HO380 := n1_; have HB := n2_; clear n0_ n1_ n2_; clear hb ho21))
                      repeat (go_quiet (first | ((with_reducible refine gate_dst (N := 37) rfl ?_); refine Kd.R_make (Kd.int .i64) _ 3 rfl (N := 37) rfl 22 _ _ rfl (x8_1.length : Int) rfl rfl Try.underlying22 (.int .i64 0) 8 info3 rfl (by decide) (by omega) 0 (ok := fun _ => True) (okp := fun _ => True) rfl (fun _ hk => hk) trivial (of_decide_eq_true (by first | (with_reducible assumption) | assumption)) (Nat.le_trans (Nat.mul_le_mul_right _ (of_decide_eq_true (by first | (with_reducible assumption) | assumption) : (x8_1.length : Int).toNat ≤ 35184372088832)) (by omega)) (Below.refl _ _) (Nat.le_refl _) ?_; intro v379 w20 ho21 hb hg_ hnew_; clear hg_ hnew_; (first | rw [← Ny378.out] at ho21 | (simp only [Int.reduceToNat] at ho21; rw [← Ny378.out] at ho21)); have n0_ := Aside0.mk (Kd.R_elder' (by (with_reducible repeat (first | apply Kd.R_alloc | apply Kd.R_drewN | apply Kd.R_drew)); exact HO_8.out) (Kd.R_base ho21) hb); have n1_ := Aside0.mk (Kd.R_lower (Kd.R_new' ho21 (Kd.R_lt (by (with_reducible repeat (first | apply Kd.R_alloc | apply Kd.R_drewN | apply Kd.R_drew)); exact HO_8.out))) (below_size (by repeat (first | (with_reducible first | exact HB.out | apply below_alloc | apply pw_below_drewN | apply below_drew1) | exact HB.out)))); have n2_ := Aside0.mk (below_step (by repeat (first | (with_reducible first | exact HB.out | apply below_alloc | apply pw_below_drewN | apply below_drew1) | exact HB.out)) hb); clear HO_8; clear HB; have HO_8 := n0_; have HO380 := n1_; have HB := n2_; clear n0_ n1_ n2_; clear hb ho21)); try go_wp2_with (first | ((with_reducible refine gate_dst (N := 37) rfl ?_); refine Kd.R_make (Kd.int .i64) _ 3 rfl (N := 37) rfl 22 _ _ rfl (x8_1.length : Int) rfl rfl Try.underlying22 (.int .i64 0) 8 info3 rfl (by decide) (by omega) 0 (ok := fun _ => True) (okp := fun _ => True) rfl (fun _ hk => hk) trivial (of_decide_eq_true (by first | (with_reducible assumption) | assumption)) (Nat.le_trans (Nat.mul_le_mul_right _ (of_decide_eq_true (by first | (with_reducible assumption) | assumption) : (x8_1.length : Int).toNat ≤ 35184372088832)) (by omega)) (Below.refl _ _) (Nat.le_refl _) ?_; intro v379 w20 ho21 hb hg_ hnew_; clear hg_ hnew_; (first | rw [← Ny378.out] at ho21 | (simp only [Int.reduceToNat] at ho21; rw [← Ny378.out] at ho21)); have n0_ := Aside0.mk (Kd.R_elder' (by (with_reducible repeat (first | apply Kd.R_alloc | apply Kd.R_drewN | apply Kd.R_drew)); exact HO_8.out) (Kd.R_base ho21) hb); have n1_ := Aside0.mk (Kd.R_lower (Kd.R_new' ho21 (Kd.R_lt (by (with_reducible repeat (first | apply Kd.R_alloc | apply Kd.R_drewN | apply Kd.R_drew)); exact HO_8.out))) (below_size (by repeat (first | (with_reducible first | exact HB.out | apply below_alloc | apply pw_below_drewN | apply below_drew1) | exact HB.out)))); have n2_ := Aside0.mk (below_step (by repeat (first | (with_reducible first | exact HB.out | apply below_alloc | apply pw_below_drewN | apply below_drew1) | exact HB.out)) hb); clear HO_8; clear HB; have HO_8 := n0_; have HO380 := n1_; have HB := n2_; clear n0_ n1_ n2_; clear hb ho21)))
                      go_loopg [40] k1 (fun kq v40 w' => ∃ (x11_2 : List Int) (x40_2 : Int), v40 = .int .i64 x40_2 ∧ Aside0 (spec_soCounts.l1 kq a1 a2 (wrap64 (t370 + 1)) (rd l0 x31_1) x11_2 l0 (l0.length : Int) x31_1 x8_1 (x8_1.length : Int) x40_2 = some r) ∧ Aside0 (kq ≤ k1) ∧ Aside0 (Kd.R (Kd.int .i64) 3 w' w.heap.size (fun k_ => some k_ ≠ ((.slice Ao19 x8_1.length co19) : Value).ownBlock) v379 x11_2) ∧ Aside0 (Kd.R (Kd.int .i64) 3 w' w.heap.size (fun k_ => some k_ ≠ (v379 : Value).ownBlock) (.slice Ao19 x8_1.length co19) x8_1) ∧ Aside0 (Below w.heap.size w w'))
                      case atStart => exact ⟨(y378), (0), (by first | rfl | (simp; done) | (simp [*]; done)), H', ⟨Nat.le_refl _⟩, ⟨by (with_reducible repeat (first | apply Kd.R_alloc | apply Kd.R_drewN | apply Kd.R_drew)); exact Kd.R_mono HO380.out (fun _ hk => hk.2)⟩, ⟨by (with_reducible repeat (first | apply Kd.R_alloc | apply Kd.R_drewN | apply Kd.R_drew)); exact Kd.R_mono HO_8.out (fun _ hk => hk.2)⟩, ⟨by repeat (first | (with_reducible first | exact HB.out | apply below_alloc | apply pw_below_drewN | apply below_drew1) | exact HB.out)⟩⟩
                      case round =>
                        clear H'
                        try clear c1
                        try clear p2
                        try clear p3
                        try clear q3
                        try clear hx3
                        try clear c6
                        try clear c6b0
                        try clear c6b1
                        try clear p6
                        try clear c7
                        try clear c7b0
                        try clear c7b1
                        try clear c8
                        try clear c8b0
                        try clear c8b1
                        try clear p9
                        try clear q9
                        try clear hx9
                        try clear qi9
                        try clear hf9
                        try clear c14
                        try clear c14b0
                        try clear c15
                        try clear c15b0
                        try clear c16
                        try clear c16b0
                        try clear c17
                        try clear c17b0
                        try clear c17b1
                        try clear c18
                        try clear c18b0
                        try clear c18b1
                        try clear hx377_0
                        try clear hx9_0
                        try clear p2
                        try clear p377
                        try clear p6
                        try clear p9
                        try clear q377
                        try clear q9
                        obtain ⟨x11_2, x40_2, rfl, HA, HK2, HO_11, HO_38, HB⟩ := hrel
                        cases gk with
                        | zero => exact absurd HA.out (by simp [spec_soCounts.l1])
                        | succ k2 =>
                          have H := HA.out
                          clear HA
                          simp only [spec_soCounts.l1] at H
                          by_cases c22 : x40_2 < (x8_1.length : Int)
                          · rw [if_pos c22] at H
                            have c22b0 : decide (x40_2 < (x8_1.length : Int)) = true := decide_eq_true c22
                            clear c22
                            by_cases c23 : 0 ≤ x40_2
                            · rw [if_pos c23] at H
                              have c23b0 : decide (0 ≤ x40_2) = true := decide_eq_true c23
                              clear c23
                              by_cases c24 : x40_2 < (x8_1.length : Int)
                              · rw [if_pos c24] at H
                                have c24b0 : decide (x40_2 < (x8_1.length : Int)) = true := decide_eq_true c24
                                clear c24
                                by_cases c25 : (rd x8_1 x40_2) = 0
                                · rw [if_pos c25] at H
                                  have c25b0 : ((rd x8_1 x40_2) == 0) = true := beq_iff_eq.mpr c25
                                  have c25b1 : ((rd x8_1 x40_2) != 0) = false := bne_eq_false_iff_eq.mpr c25
                                  clear c25
                                  have H' := Aside0.mk H
                                  clear H
                                  have p381 : 0 ≤ (x40_2 : Int) := of_decide_eq_true (by first | (with_reducible assumption) | assumption)
                                  have q381 : x40_2 < (x8_1.length : Int) := of_decide_eq_true (by first | (with_reducible assumption) | assumption)
                                  obtain ⟨ad381, e381, hx381_0⟩ := Kd.at_int (Kd.R_reads' HO_38.out).2.2 x40_2 p381 q381
                                  cases e381
                                  replace p381 := eq_true p381
                                  replace q381 := eq_true q381
                                  go_wp2
                                  repeat (go_quiet (fail); try go_wp2)
                                  go_roundg k2
                                  case measure => have := HK1.out; have := HK2.out; omega
                                  case rel => exact ⟨(x11_2), (wrap64 (x40_2 + 1)), (by first | rfl | (simp; done) | (simp [*]; done)), H', ⟨by have := HK1.out; have := HK2.out; omega⟩, ⟨by (with_reducible repeat (first | apply Kd.R_alloc | apply Kd.R_drewN | apply Kd.R_drew)); exact HO_11.out⟩, ⟨by (with_reducible repeat (first | apply Kd.R_alloc | apply Kd.R_drewN | apply Kd.R_drew)); exact HO_38.out⟩, ⟨by repeat (first | (with_reducible first | exact HB.out | apply below_alloc | apply pw_below_drewN | apply below_drew1) | exact HB.out)⟩⟩
                                · rw [if_neg c25] at H
                                  have c25b0 : ((rd x8_1 x40_2) == 0) = false := beq_eq_false_iff_ne.mpr c25
                                  have c25b1 : ((rd x8_1 x40_2) != 0) = true := bne_iff_ne.mpr c25
                                  by_cases c26 : (wrap64 (t370 + 1)) = 0
                                  · rw [if_pos c26] at H
                                    exact absurd H (by simp)
                                  · rw [if_neg c26] at H
                                    have c26b0 : ((wrap64 (t370 + 1)) == 0) = false := beq_eq_false_iff_ne.mpr c26
                                    have c26b1 : ((wrap64 (t370 + 1)) != 0) = true := bne_iff_ne.mpr c26
                                    have H' := Aside0.mk H
                                    clear H
                                    have p381 : 0 ≤ (x40_2 : Int) := of_decide_eq_true (by first | (with_reducible assumption) | assumption)
                                    have q381 : x40_2 < (x8_1.length : Int) := of_decide_eq_true (by first | (with_reducible assumption) | assumption)
                                    obtain ⟨ad381, e381, hx381_0⟩ := Kd.at_int (Kd.R_reads' HO_38.out).2.2 x40_2 p381 q381
                                    cases e381
                                    replace p381 := eq_true p381
                                    replace q381 := eq_true q381
                                    go_wp2
                                    repeat (go_quiet (fail); try go_wp2)
                                    go_loopg [16] k2 (fun kq v16 w' => ∃ (x11_3 : List Int) (x16_3 : Int), v16 = .int .i64 x16_3 ∧ Aside0 (spec_soCounts.l2 kq a1 a2 (wrap64 (t370 + 1)) (rd l0 x31_1) x11_3 (rd x8_1 x40_2) (wrap64 (Int.tdiv x40_2 (wrap64 (t370 + 1)))) (Int.tmod x40_2 (wrap64 (t370 + 1))) x16_3 l0 (l0.length : Int) x31_1 x8_1 (x8_1.length : Int) x40_2 = some r) ∧ Aside0 (kq ≤ k2) ∧ Aside0 (Kd.R (Kd.int .i64) 3 w' w.heap.size (fun k_ => some k_ ≠ ((.slice (some ad381) x8_1.length co19) : Value).ownBlock) v379 x11_3) ∧ Aside0 (Kd.R (Kd.int .i64) 3 w' w.heap.size (fun k_ => some k_ ≠ (v379 : Value).ownBlock) (.slice (some ad381) x8_1.length co19) x8_1) ∧ Aside0 (Below w.heap.size w w'))
                                    case atStart => exact ⟨(x11_2), (0), (by first | rfl | (simp; done) | (simp [*]; done)), H', ⟨Nat.le_refl _⟩, ⟨by (with_reducible repeat (first | apply Kd.R_alloc | apply Kd.R_drewN | apply Kd.R_drew)); exact HO_11.out⟩, ⟨by (with_reducible repeat (first | apply Kd.R_alloc | apply Kd.R_drewN | apply Kd.R_drew)); exact HO_38.out⟩, ⟨by repeat (first | (with_reducible first | exact HB.out | apply below_alloc | apply pw_below_drewN | apply below_drew1) | exact HB.out)⟩⟩
                                    case round =>
                                      clear H'
                                      try clear c1
                                      try clear c2
                                      try clear p2
                                      try clear p3
                                      try clear q3
                                      try clear hx3
                                      try clear c6
                                      try clear c6b0
                                      try clear c6b1
                                      try clear p6
                                      try clear c7
                                      try clear c7b0
                                      try clear c7b1
                                      try clear c8
                                      try clear c8b0
                                      try clear c8b1
                                      try clear p9
                                      try clear q9
                                      try clear hx9
                                      try clear qi9
                                      try clear hf9
                                      try clear c14
                                      try clear c14b0
                                      try clear c15
                                      try clear c15b0
                                      try clear c16
                                      try clear c16b0
                                      try clear c17
                                      try clear c17b0
                                      try clear c17b1
                                      try clear c18
                                      try clear c18b0
                                      try clear c18b1
                                      try clear c22
                                      try clear c22b0
                                      try clear c23
                                      try clear c23b0
                                      try clear c24
                                      try clear c24b0
                                      try clear c25
                                      try clear c25b0
                                      try clear c25b1
                                      try clear c26
                                      try clear c26b0
                                      try clear c26b1
                                      try clear hx377_0
                                      try clear hx381_0
                                      try clear hx9_0
                                      try clear p2
                                      try clear p3
                                      try clear p377
                                      try clear p381
                                      try clear p6
                                      try clear p9
                                      try clear q3
                                      try clear q377
                                      try clear q381
                                      try clear q9
                                      obtain ⟨x11_3, x16_3, rfl, HA, HK3, HO_11, HO_38, HB⟩ := hrel
                                      cases gk with
                                      | zero => exact absurd HA.out (by simp [spec_soCounts.l2])
                                      | succ k3 =>
                                        have H := HA.out
                                        clear HA
                                        simp only [spec_soCounts.l2] at H
                                        have HC27 := Aside0.mk H
                                        clear H
                                        go_upto_region 14 with (fail)
                                        repeat (go_quiet (fail); go_upto_region 14 with (fail))
                                        go_cut [62] (fun v62 wc => ∃ (kq : Nat) (x62_26 : Bool), v62 = .bool x62_26 ∧ Aside0 (spec_soCounts.j3 kq a1 a2 (wrap64 (t370 + 1)) (rd l0 x31_1) x11_3 (rd x8_1 x40_2) (wrap64 (Int.tdiv x40_2 (wrap64 (t370 + 1)))) (Int.tmod x40_2 (wrap64 (t370 + 1))) x16_3 l0 (l0.length : Int) x31_1 x8_1 (x8_1.length : Int) x40_2 x62_26 = some r) ∧ Aside0 (kq ≤ k3) ∧ Aside0 (Kd.R (Kd.int .i64) 3 wc w.heap.size (fun k_ => some k_ ≠ ((.slice (some ad381) x8_1.length co19) : Value).ownBlock) v379 x11_3) ∧ Aside0 (Kd.R (Kd.int .i64) 3 wc w.heap.size (fun k_ => some k_ ≠ (v379 : Value).ownBlock) (.slice (some ad381) x8_1.length co19) x8_1) ∧ Aside0 (Below w.heap.size w wc))
                                        case first =>
                                          have H := HC27.out
                                          clear HC27
                                          by_cases c28 : x16_3 ≤ (rd l0 x31_1)
                                          · rw [if_pos c28] at H
                                            have c28b0 : decide (x16_3 ≤ (rd l0 x31_1)) = true := decide_eq_true c28
                                            clear c28
                                            (first | rw [c28b0] | (simp only [i64_w, i32_w]; rw [c28b0]) | skip)
                                            have H' := Aside0.mk H
                                            clear H
                                            go_wp2
                                            repeat (go_quiet (fail); try go_wp2)
                                            go_meet
                                            case rel => exact ⟨_, (decide ((wrap64 ((wrap64 (Int.tdiv x40_2 (wrap64 (t370 + 1)))) + x16_3)) ≤ a1)), (by first | rfl | (simp; done) | (simp [*]; done)), H', ⟨by have := HK1.out; have := HK2.out; have := HK3.out; first | omega | exact Nat.le_refl _⟩, ⟨by (with_reducible repeat (first | apply Kd.R_alloc | apply Kd.R_drewN | apply Kd.R_drew)); exact HO_11.out⟩, ⟨by (with_reducible repeat (first | apply Kd.R_alloc | apply Kd.R_drewN | apply Kd.R_drew)); exact HO_38.out⟩, ⟨by repeat (first | (with_reducible first | exact HB.out | apply below_alloc | apply pw_below_drewN | apply below_drew1) | exact HB.out)⟩⟩
                                          · rw [if_neg c28] at H
                                            have c28b0 : decide (x16_3 ≤ (rd l0 x31_1)) = false := decide_eq_false c28
                                            clear c28
                                            (first | rw [c28b0] | (simp only [i64_w, i32_w]; rw [c28b0]) | skip)
                                            have H' := Aside0.mk H
                                            clear H
                                            go_wp2
                                            repeat (go_quiet (fail); try go_wp2)
                                            go_meet
                                            case rel => exact ⟨_, (false), (by first | rfl | (simp; done) | (simp [*]; done)), H', ⟨by have := HK1.out; have := HK2.out; have := HK3.out; first | omega | exact Nat.le_refl _⟩, ⟨by (with_reducible repeat (first | apply Kd.R_alloc | apply Kd.R_drewN | apply Kd.R_drew)); exact HO_11.out⟩, ⟨by (with_reducible repeat (first | apply Kd.R_alloc | apply Kd.R_drewN | apply Kd.R_drew)); exact HO_38.out⟩, ⟨by repeat (first | (with_reducible first | exact HB.out | apply below_alloc | apply pw_below_drewN | apply below_drew1) | exact HB.out)⟩⟩
                                        case rest =>
                                          clear HC27
                                          try clear c1
                                          try clear c2
                                          try clear p2
                                          try clear p3
                                          try clear q3
                                          try clear hx3
                                          try clear c6
                                          try clear c6b0
                                          try clear c6b1
                                          try clear p6
                                          try clear c7
                                          try clear c7b0
                                          try clear c7b1
                                          try clear c8
                                          try clear c8b0
                                          try clear c8b1
                                          try clear p9
                                          try clear q9
                                          try clear hx9
                                          try clear qi9
                                          try clear hf9
                                          try clear c14
                                          try clear c14b0
                                          try clear c15
                                          try clear c15b0
                                          try clear c16
                                          try clear c16b0
                                          try clear c17
                                          try clear c17b0
                                          try clear c17b1
                                          try clear c18
                                          try clear c18b0
                                          try clear c18b1
                                          try clear c22
                                          try clear c22b0
                                          try clear c23
                                          try clear c23b0
                                          try clear c24
                                          try clear c24b0
                                          try clear c25
                                          try clear c25b0
                                          try clear c25b1
                                          try clear c26
                                          try clear c26b0
                                          try clear c26b1
                                          try clear c28
                                          try clear c28b0
                                          try clear hx377_0
                                          try clear hx381_0
                                          try clear hx9_0
                                          try clear p2
                                          try clear p3
                                          try clear p377
                                          try clear p381
                                          try clear p6
                                          try clear p9
                                          try clear q3
                                          try clear q377
                                          try clear q381
                                          try clear q9
                                          obtain ⟨kq, x62_26, rfl, HA, HJ26, HO_11, HO_38, HB⟩ := hcut
                                          cases kq with
                                          | zero => exact absurd HA.out (by simp [spec_soCounts.j3])
                                          | succ kj26 =>
                                            have H := HA.out
                                            clear HA
                                            simp only [spec_soCounts.j3] at H
                                            by_cases c29 : x62_26 = true
                                            · subst c29
                                              have H1 : (if a2 ≥ 0 then (if (wrap64 ((Int.tmod x40_2 (wrap64 (t370 + 1))) + (wrap64 (Int.tdiv x16_3 2)))) < (wrap64 (t370 + 1)) then (if 0 ≤ (wrap64 ((wrap64 ((wrap64 ((wrap64 (Int.tdiv x40_2 (wrap64 (t370 + 1)))) + x16_3)) * (wrap64 (t370 + 1)))) + (wrap64 ((Int.tmod x40_2 (wrap64 (t370 + 1))) + (wrap64 (Int.tdiv x16_3 2)))))) then (if (wrap64 ((wrap64 ((wrap64 ((wrap64 (Int.tdiv x40_2 (wrap64 (t370 + 1)))) + x16_3)) * (wrap64 (t370 + 1)))) + (wrap64 ((Int.tmod x40_2 (wrap64 (t370 + 1))) + (wrap64 (Int.tdiv x16_3 2)))))) < (x11_3.length : Int) then ((spec_l1Least.f (wrap64 ((rd x11_3 (wrap64 ((wrap64 ((wrap64 ((wrap64 (Int.tdiv x40_2 (wrap64 (t370 + 1)))) + x16_3)) * (wrap64 (t370 + 1)))) + (wrap64 ((Int.tmod x40_2 (wrap64 (t370 + 1))) + (wrap64 (Int.tdiv x16_3 2))))))) + (rd x8_1 x40_2))) 1000000000001).bind fun t383 => (spec_soCounts.l2 kj26 a1 a2 (wrap64 (t370 + 1)) (rd l0 x31_1) (x11_3.set ((wrap64 ((wrap64 ((wrap64 ((wrap64 (Int.tdiv x40_2 (wrap64 (t370 + 1)))) + x16_3)) * (wrap64 (t370 + 1)))) + (wrap64 ((Int.tmod x40_2 (wrap64 (t370 + 1))) + (wrap64 (Int.tdiv x16_3 2)))))) : Int).toNat t383) (rd x8_1 x40_2) (wrap64 (Int.tdiv x40_2 (wrap64 (t370 + 1)))) (Int.tmod x40_2 (wrap64 (t370 + 1))) (wrap64 (x16_3 + 1)) l0 (l0.length : Int) x31_1 x8_1 (x8_1.length : Int) x40_2)) else (none)) else (none)) else (spec_soCounts.l2 kj26 a1 a2 (wrap64 (t370 + 1)) (rd l0 x31_1) x11_3 (rd x8_1 x40_2) (wrap64 (Int.tdiv x40_2 (wrap64 (t370 + 1)))) (Int.tmod x40_2 (wrap64 (t370 + 1))) (wrap64 (x16_3 + 1)) l0 (l0.length : Int) x31_1 x8_1 (x8_1.length : Int) x40_2)) else (if (Int.tmod x40_2 (wrap64 (t370 + 1))) < (wrap64 (t370 + 1)) then (if 0 ≤ (wrap64 ((wrap64 ((wrap64 ((wrap64 (Int.tdiv x40_2 (wrap64 (t370 + 1)))) + x16_3)) * (wrap64 (t370 + 1)))) + (Int.tmod x40_2 (wrap64 (t370 + 1))))) then (if (wrap64 ((wrap64 ((wrap64 ((wrap64 (Int.tdiv x40_2 (wrap64 (t370 + 1)))) + x16_3)) * (wrap64 (t370 + 1)))) + (Int.tmod x40_2 (wrap64 (t370 + 1))))) < (x11_3.length : Int) then ((spec_l1Least.f (wrap64 ((rd x11_3 (wrap64 ((wrap64 ((wrap64 ((wrap64 (Int.tdiv x40_2 (wrap64 (t370 + 1)))) + x16_3)) * (wrap64 (t370 + 1)))) + (Int.tmod x40_2 (wrap64 (t370 + 1)))))) + (rd x8_1 x40_2))) 1000000000001).bind fun t386 => (spec_soCounts.l2 kj26 a1 a2 (wrap64 (t370 + 1)) (rd l0 x31_1) (x11_3.set ((wrap64 ((wrap64 ((wrap64 ((wrap64 (Int.tdiv x40_2 (wrap64 (t370 + 1)))) + x16_3)) * (wrap64 (t370 + 1)))) + (Int.tmod x40_2 (wrap64 (t370 + 1))))) : Int).toNat t386) (rd x8_1 x40_2) (wrap64 (Int.tdiv x40_2 (wrap64 (t370 + 1)))) (Int.tmod x40_2 (wrap64 (t370 + 1))) (wrap64 (x16_3 + 1)) l0 (l0.length : Int) x31_1 x8_1 (x8_1.length : Int) x40_2)) else (none)) else (none)) else (spec_soCounts.l2 kj26 a1 a2 (wrap64 (t370 + 1)) (rd l0 x31_1) x11_3 (rd x8_1 x40_2) (wrap64 (Int.tdiv x40_2 (wrap64 (t370 + 1)))) (Int.tmod x40_2 (wrap64 (t370 + 1))) (wrap64 (x16_3 + 1)) l0 (l0.length : Int) x31_1 x8_1 (x8_1.length : Int) x40_2))) = some r := by rw [if_pos rfl] at H; exact H
                                              clear H
                                              have H := H1
                                              clear H1
                                              by_cases c30 : a2 ≥ 0
                                              · rw [if_pos c30] at H
                                                have c30b0 : decide (0 ≤ a2) = true := decide_eq_true c30
                                                clear c30
                                                by_cases c31 : (wrap64 ((Int.tmod x40_2 (wrap64 (t370 + 1))) + (wrap64 (Int.tdiv x16_3 2)))) < (wrap64 (t370 + 1))
                                                · rw [if_pos c31] at H
                                                  have c31b0 : decide ((wrap64 ((Int.tmod x40_2 (wrap64 (t370 + 1))) + (wrap64 (Int.tdiv x16_3 2)))) < (wrap64 (t370 + 1))) = true := decide_eq_true c31
                                                  clear c31
                                                  obtain ⟨ji32, hji32⟩ : ∃ j_ : Int, (wrap64 ((wrap64 ((wrap64 ((wrap64 (Int.tdiv x40_2 (wrap64 (t370 + 1)))) + x16_3)) * (wrap64 (t370 + 1)))) + (wrap64 ((Int.tmod x40_2 (wrap64 (t370 + 1))) + (wrap64 (Int.tdiv x16_3 2)))))) = j_ := ⟨_, rfl⟩
                                                  replace H : (if 0 ≤ (ji32) then (if (ji32) < (x11_3.length : Int) then ((spec_l1Least.f (wrap64 ((rd x11_3 (ji32)) + (rd x8_1 x40_2))) 1000000000001).bind fun t383 => (spec_soCounts.l2 kj26 a1 a2 (wrap64 (t370 + 1)) (rd l0 x31_1) (x11_3.set ((ji32) : Int).toNat t383) (rd x8_1 x40_2) (wrap64 (Int.tdiv x40_2 (wrap64 (t370 + 1)))) (Int.tmod x40_2 (wrap64 (t370 + 1))) (wrap64 (x16_3 + 1)) l0 (l0.length : Int) x31_1 x8_1 (x8_1.length : Int) x40_2)) else (none)) else (none)) = some r := by first | (rw [hji32] at H; exact H) | (simp only [hji32] at H ⊢; exact H)
                                                  have hji32w : (IntKind.i64.wrap ((wrap64 ((wrap64 ((wrap64 (Int.tdiv x40_2 (wrap64 (t370 + 1)))) + x16_3)) * (wrap64 (t370 + 1)))) + (wrap64 ((Int.tmod x40_2 (wrap64 (t370 + 1))) + (wrap64 (Int.tdiv x16_3 2)))))) = ji32 := (i64_w _).trans hji32
                                                  by_cases c33 : 0 ≤ (ji32)
                                                  · rw [if_pos c33] at H
                                                    have c33b0 : decide (0 ≤ (ji32)) = true := decide_eq_true c33
                                                    clear c33
                                                    by_cases c34 : (ji32) < (x11_3.length : Int)
                                                    · rw [if_pos c34] at H
                                                      have c34b0 : decide ((ji32) < (x11_3.length : Int)) = true := decide_eq_true c34
                                                      clear c34
                                                      replace H := Option.bind_eq_some_iff.mp H
                                                      obtain ⟨t383, A350, H⟩ := H
                                                      replace H : (spec_soCounts.l2 kj26 a1 a2 (wrap64 (t370 + 1)) (rd l0 x31_1) (x11_3.set ((ji32) : Int).toNat t383) (rd x8_1 x40_2) (wrap64 (Int.tdiv x40_2 (wrap64 (t370 + 1)))) (Int.tmod x40_2 (wrap64 (t370 + 1))) (wrap64 (x16_3 + 1)) l0 (l0.length : Int) x31_1 x8_1 (x8_1.length : Int) x40_2) = some r := H
                                                      have A35 := Aside0.mk A350
                                                      clear A350
                                                      obtain ⟨y384, hy384⟩ : ∃ y_ : List Int, y_ = (x11_3.set ((ji32) : Int).toNat t383) := ⟨_, rfl⟩
                                                      replace H : (spec_soCounts.l2 kj26 a1 a2 (wrap64 (t370 + 1)) (rd l0 x31_1) y384 (rd x8_1 x40_2) (wrap64 (Int.tdiv x40_2 (wrap64 (t370 + 1)))) (Int.tmod x40_2 (wrap64 (t370 + 1))) (wrap64 (x16_3 + 1)) l0 (l0.length : Int) x31_1 x8_1 (x8_1.length : Int) x40_2) = some r := by first | (rw [hy384]; with_reducible exact H) | (have H2_ := (Option.bind_some _ _).symm.trans H; rw [hy384]; with_reducible exact H2_) | (have H2_ := (Option.bind_some _ _).symm.trans H; with_reducible exact H2_) | with_reducible exact H | (rw [hy384]; exact H) | exact H
                                                      have Ny384 := Aside0.mk hy384
                                                      clear hy384
                                                      have H' := Aside0.mk H
                                                      clear H
                                                      obtain ⟨Ao37, co37, eo37⟩ := Kd.R_slice HO_11.out
                                                      subst eo37
                                                      have p382 : 0 ≤ ((ji32) : Int) := of_decide_eq_true (by first | (with_reducible assumption) | assumption)
                                                      have q382 : (ji32) < (x11_3.length : Int) := of_decide_eq_true (by first | (with_reducible assumption) | assumption)
                                                      obtain ⟨ad382, e382, hx382_0⟩ := Kd.at_int (Kd.R_reads' HO_11.out).2.2 (ji32) p382 q382
                                                      cases e382
                                                      replace p382 := eq_true p382
                                                      replace q382 := eq_true q382
                                                      go_wp2_with (first | (go_at_call 58; (with_reducible refine (spec_l1Least.calls (wrap64 ((rd x11_3 (ji32)) + (rd x8_1 x40_2))) 1000000000001 t383 _ A35.out).mono ?_); rintro e w' ⟨rfl, ⟨nd, rfl⟩⟩; (try first | exact ⟨rfl, _, World.drewN_drewN _ _ _⟩ | exact ⟨rfl, _, Eq.trans (World.drewN_drewN _ _ _) (congrArg (World.drewN _) (Nat.add_assoc _ _ _))⟩); have p36 : 0 ≤ ((ji32) : Int) := of_decide_eq_true (by first | (with_reducible assumption) | assumption); have q36 : ((ji32) : Int) < ((x11_3.length : Int) : Int) := of_decide_eq_true (by first | (with_reducible assumption) | assumption); obtain ⟨go36, co36, eo36, gb36, gl36, cl36, HG36⟩ := Kd.R_form HO_11.out (by omega); (first | cases eo36 | (injection eo36 with ea_ en_ ec_; (first | subst ea_ | (injection ea_ with ea_; subst ea_)); subst ec_; clear en_)); have GB36 := Aside0.mk gb36; have GG36 := Aside0.mk HG36; clear gb36 gl36 HG36; (first | simp only [add_plain] at hx382_0 | skip); obtain ⟨hx36_0, hf36_0⟩ := Kd.R_celln 0 HO_11.out ((ji32) : Int) p36 q36; replace p36 := eq_true p36; replace q36 := eq_true q36; obtain ⟨hy38_, hz38_⟩ := Kd.R_celln 0 HO_11.out ((ji32) : Int) (of_decide_eq_true (by first | (with_reducible assumption) | assumption)) (of_decide_eq_true (by first | (with_reducible assumption) | assumption)); have HP38 := Kd.R_putg HO_11.out ((ji32) : Int) t383) | ((with_reducible refine gate_store (t := 3) (p := 91) rfl ?_); (try (rw [drewN_self wc]; generalize hq_ : World.drewN wc _ = wc; have n0_ := Aside0.mk (Kd.R_at hq_ HO_11.out); have n1_ := Aside0.mk (Kd.R_at hq_ HO_38.out); have n2_ := Aside0.mk (below_at hq_ HB.out); clear hq_ HO_11 HO_38 HB; have HO_11 := n0_; have HO_38 := n1_; have HB := n2_; clear n0_ n1_ n2_; (try (obtain ⟨hy38_, hz38_⟩ := Kd.R_celln 0 HO_11.out ((ji32) : Int) (of_decide_eq_true (by first | (with_reducible assumption) | assumption)) (of_decide_eq_true (by first | (with_reducible assumption) | assumption)))); (try (have HP38 := Kd.R_putg HO_11.out ((ji32) : Int) t383)))); refine store_event (t := 3) (p := 91) (v := ?vo_w39) (w1 := (wc.setCell ⟨go36, ((ji32) : Int).toNat, none⟩ (.int .i64 t383))) ?hg ?ho ?hn ?hr ?_; (case ho => rfl); (case hg => rfl); (case hn => rfl); (case hr => first | (go_simp; done) | (go_simp; rfl)); intro w39 hw; have hg : wc.grownBy w39 (some go36) := (by rw [hw]; exact HP38.2); have hp_ : Kd.R (Kd.int .i64) 3 w39 w.heap.size (fun k_ => some k_ ≠ (.slice (some ad381) x8_1.length co19 : Value).ownBlock) (.slice (some ⟨go36, 0, none⟩) x11_3.length co37) y384 := (by rw [hw, Ny384.out]; exact HP38.1); clear HP38; have n0_ := Aside0.mk (hp_); have n1_ := Aside0.mk (Kd.R_after (v := (.slice (some ⟨go36, 0, none⟩) x11_3.length co37)) (v1 := (.slice (some ⟨go36, 0, none⟩) x11_3.length co37)) (ok := (fun _ => True)) (by (with_reducible repeat (first | apply Kd.R_alloc | apply Kd.R_drewN | apply Kd.R_drew)); exact Kd.R_mono HO_38.out (fun _ hk => ⟨trivial, hk⟩)) hg (.inl rfl)); have n2_ := Aside0.mk ((by rw [hw]; exact below_set (HB.out) GB36.out : Below w.heap.size w w39)); clear HO_11; clear HO_38; clear HB; have HO_11 := n0_; have HO_38 := n1_; have HB := n2_; clear n0_ n1_ n2_; clear hg hw hp_))
                                                      repeat (go_quiet (first | (go_at_call 58; (with_reducible refine (spec_l1Least.calls (wrap64 ((rd x11_3 (ji32)) + (rd x8_1 x40_2))) 1000000000001 t383 _ A35.out).mono ?_); rintro e w' ⟨rfl, ⟨nd, rfl⟩⟩; (try first | exact ⟨rfl, _, World.drewN_drewN _ _ _⟩ | exact ⟨rfl, _, Eq.trans (World.drewN_drewN _ _ _) (congrArg (World.drewN _) (Nat.add_assoc _ _ _))⟩); have p36 : 0 ≤ ((ji32) : Int) := of_decide_eq_true (by first | (with_reducible assumption) | assumption); have q36 : ((ji32) : Int) < ((x11_3.length : Int) : Int) := of_decide_eq_true (by first | (with_reducible assumption) | assumption); obtain ⟨go36, co36, eo36, gb36, gl36, cl36, HG36⟩ := Kd.R_form HO_11.out (by omega); (first | cases eo36 | (injection eo36 with ea_ en_ ec_; (first | subst ea_ | (injection ea_ with ea_; subst ea_)); subst ec_; clear en_)); have GB36 := Aside0.mk gb36; have GG36 := Aside0.mk HG36; clear gb36 gl36 HG36; (first | simp only [add_plain] at hx382_0 | skip); obtain ⟨hx36_0, hf36_0⟩ := Kd.R_celln 0 HO_11.out ((ji32) : Int) p36 q36; replace p36 := eq_true p36; replace q36 := eq_true q36; obtain ⟨hy38_, hz38_⟩ := Kd.R_celln 0 HO_11.out ((ji32) : Int) (of_decide_eq_true (by first | (with_reducible assumption) | assumption)) (of_decide_eq_true (by first | (with_reducible assumption) | assumption)); have HP38 := Kd.R_putg HO_11.out ((ji32) : Int) t383) | ((with_reducible refine gate_store (t := 3) (p := 91) rfl ?_); (try (rw [drewN_self wc]; generalize hq_ : World.drewN wc _ = wc; have n0_ := Aside0.mk (Kd.R_at hq_ HO_11.out); have n1_ := Aside0.mk (Kd.R_at hq_ HO_38.out); have n2_ := Aside0.mk (below_at hq_ HB.out); clear hq_ HO_11 HO_38 HB; have HO_11 := n0_; have HO_38 := n1_; have HB := n2_; clear n0_ n1_ n2_; (try (obtain ⟨hy38_, hz38_⟩ := Kd.R_celln 0 HO_11.out ((ji32) : Int) (of_decide_eq_true (by first | (with_reducible assumption) | assumption)) (of_decide_eq_true (by first | (with_reducible assumption) | assumption)))); (try (have HP38 := Kd.R_putg HO_11.out ((ji32) : Int) t383)))); refine store_event (t := 3) (p := 91) (v := ?vo_w39) (w1 := (wc.setCell ⟨go36, ((ji32) : Int).toNat, none⟩ (.int .i64 t383))) ?hg ?ho ?hn ?hr ?_; (case ho => rfl); (case hg => rfl); (case hn => rfl); (case hr => first | (go_simp; done) | (go_simp; rfl)); intro w39 hw; have hg : wc.grownBy w39 (some go36) := (by rw [hw]; exact HP38.2); have hp_ : Kd.R (Kd.int .i64) 3 w39 w.heap.size (fun k_ => some k_ ≠ (.slice (some ad381) x8_1.length co19 : Value).ownBlock) (.slice (some ⟨go36, 0, none⟩) x11_3.length co37) y384 := (by rw [hw, Ny384.out]; exact HP38.1); clear HP38; have n0_ := Aside0.mk (hp_); have n1_ := Aside0.mk (Kd.R_after (v := (.slice (some ⟨go36, 0, none⟩) x11_3.length co37)) (v1 := (.slice (some ⟨go36, 0, none⟩) x11_3.length co37)) (ok := (fun _ => True)) (by (with_reducible repeat (first | apply Kd.R_alloc | apply Kd.R_drewN | apply Kd.R_drew)); exact Kd.R_mono HO_38.out (fun _ hk => ⟨trivial, hk⟩)) hg (.inl rfl)); have n2_ := Aside0.mk ((by rw [hw]; exact below_set (HB.out) GB36.out : Below w.heap.size w w39)); clear HO_11; clear HO_38; clear HB; have HO_11 := n0_; have HO_38 := n1_; have HB := n2_; clear n0_ n1_ n2_; clear hg hw hp_)); try go_wp2_with (first | (go_at_call 58; (with_reducible refine (spec_l1Least.calls (wrap64 ((rd x11_3 (ji32)) + (rd x8_1 x40_2))) 1000000000001 t383 _ A35.out).mono ?_); rintro e w' ⟨rfl, ⟨nd, rfl⟩⟩; (try first | exact ⟨rfl, _, World.drewN_drewN _ _ _⟩ | exact ⟨rfl, _, Eq.trans (World.drewN_drewN _ _ _) (congrArg (World.drewN _) (Nat.add_assoc _ _ _))⟩); have p36 : 0 ≤ ((ji32) : Int) := of_decide_eq_true (by first | (with_reducible assumption) | assumption); have q36 : ((ji32) : Int) < ((x11_3.length : Int) : Int) := of_decide_eq_true (by first | (with_reducible assumption) | assumption); obtain ⟨go36, co36, eo36, gb36, gl36, cl36, HG36⟩ := Kd.R_form HO_11.out (by omega); (first | cases eo36 | (injection eo36 with ea_ en_ ec_; (first | subst ea_ | (injection ea_ with ea_; subst ea_)); subst ec_; clear en_)); have GB36 := Aside0.mk gb36; have GG36 := Aside0.mk HG36; clear gb36 gl36 HG36; (first | simp only [add_plain] at hx382_0 | skip); obtain ⟨hx36_0, hf36_0⟩ := Kd.R_celln 0 HO_11.out ((ji32) : Int) p36 q36; replace p36 := eq_true p36; replace q36 := eq_true q36; obtain ⟨hy38_, hz38_⟩ := Kd.R_celln 0 HO_11.out ((ji32) : Int) (of_decide_eq_true (by first | (with_reducible assumption) | assumption)) (of_decide_eq_true (by first | (with_reducible assumption) | assumption)); have HP38 := Kd.R_putg HO_11.out ((ji32) : Int) t383) | ((with_reducible refine gate_store (t := 3) (p := 91) rfl ?_); (try (rw [drewN_self wc]; generalize hq_ : World.drewN wc _ = wc; have n0_ := Aside0.mk (Kd.R_at hq_ HO_11.out); have n1_ := Aside0.mk (Kd.R_at hq_ HO_38.out); have n2_ := Aside0.mk (below_at hq_ HB.out); clear hq_ HO_11 HO_38 HB; have HO_11 := n0_; have HO_38 := n1_; have HB := n2_; clear n0_ n1_ n2_; (try (obtain ⟨hy38_, hz38_⟩ := Kd.R_celln 0 HO_11.out ((ji32) : Int) (of_decide_eq_true (by first | (with_reducible assumption) | assumption)) (of_decide_eq_true (by first | (with_reducible assumption) | assumption)))); (try (have HP38 := Kd.R_putg HO_11.out ((ji32) : Int) t383)))); refine store_event (t := 3) (p := 91) (v := ?vo_w39) (w1 := (wc.setCell ⟨go36, ((ji32) : Int).toNat, none⟩ (.int .i64 t383))) ?hg ?ho ?hn ?hr ?_; (case ho => rfl); (case hg => rfl); (case hn => rfl); (case hr => first | (go_simp; done) | (go_simp; rfl)); intro w39 hw; have hg : wc.grownBy w39 (some go36) := (by rw [hw]; exact HP38.2); have hp_ : Kd.R (Kd.int .i64) 3 w39 w.heap.size (fun k_ => some k_ ≠ (.slice (some ad381) x8_1.length co19 : Value).ownBlock) (.slice (some ⟨go36, 0, none⟩) x11_3.length co37) y384 := (by rw [hw, Ny384.out]; exact HP38.1); clear HP38; have n0_ := Aside0.mk (hp_); have n1_ := Aside0.mk (Kd.R_after (v := (.slice (some ⟨go36, 0, none⟩) x11_3.length co37)) (v1 := (.slice (some ⟨go36, 0, none⟩) x11_3.length co37)) (ok := (fun _ => True)) (by (with_reducible repeat (first | apply Kd.R_alloc | apply Kd.R_drewN | apply Kd.R_drew)); exact Kd.R_mono HO_38.out (fun _ hk => ⟨trivial, hk⟩)) hg (.inl rfl)); have n2_ := Aside0.mk ((by rw [hw]; exact below_set (HB.out) GB36.out : Below w.heap.size w w39)); clear HO_11; clear HO_38; clear HB; have HO_11 := n0_; have HO_38 := n1_; have HB := n2_; clear n0_ n1_ n2_; clear hg hw hp_)))
                                                      go_roundg kj26
                                                      case measure => have := HK1.out; have := HK2.out; have := HK3.out; have := HJ26.out; omega
                                                      case rel => exact ⟨(y384), (wrap64 (x16_3 + 1)), (by first | rfl | (simp; done) | (simp [*]; done)), H', ⟨by have := HK1.out; have := HK2.out; have := HK3.out; have := HJ26.out; omega⟩, ⟨by (with_reducible repeat (first | apply Kd.R_alloc | apply Kd.R_drewN | apply Kd.R_drew)); exact HO_11.out⟩, ⟨by (with_reducible repeat (first | apply Kd.R_alloc | apply Kd.R_drewN | apply Kd.R_drew)); exact Kd.R_mono HO_38.out (fun _ hk => hk.2)⟩, ⟨by repeat (first | (with_reducible first | exact HB.out | apply below_alloc | apply pw_below_drewN | apply below_drew1) | exact HB.out)⟩⟩
                                                    · rw [if_neg c34] at H
                                                      exact absurd H (by simp)
                                                  · rw [if_neg c33] at H
                                                    exact absurd H (by simp)
                                                · rw [if_neg c31] at H
                                                  have c31b0 : decide ((wrap64 ((Int.tmod x40_2 (wrap64 (t370 + 1))) + (wrap64 (Int.tdiv x16_3 2)))) < (wrap64 (t370 + 1))) = false := decide_eq_false c31
                                                  clear c31
                                                  have H' := Aside0.mk H
                                                  clear H
                                                  go_wp2
                                                  repeat (go_quiet (fail); try go_wp2)
                                                  go_roundg kj26
                                                  case measure => have := HK1.out; have := HK2.out; have := HK3.out; have := HJ26.out; omega
                                                  case rel => exact ⟨(x11_3), (wrap64 (x16_3 + 1)), (by first | rfl | (simp; done) | (simp [*]; done)), H', ⟨by have := HK1.out; have := HK2.out; have := HK3.out; have := HJ26.out; omega⟩, ⟨by (with_reducible repeat (first | apply Kd.R_alloc | apply Kd.R_drewN | apply Kd.R_drew)); exact HO_11.out⟩, ⟨by (with_reducible repeat (first | apply Kd.R_alloc | apply Kd.R_drewN | apply Kd.R_drew)); exact HO_38.out⟩, ⟨by repeat (first | (with_reducible first | exact HB.out | apply below_alloc | apply pw_below_drewN | apply below_drew1) | exact HB.out)⟩⟩
                                              · rw [if_neg c30] at H
                                                have c30b0 : decide (0 ≤ a2) = false := decide_eq_false c30
                                                clear c30
                                                by_cases c40 : (Int.tmod x40_2 (wrap64 (t370 + 1))) < (wrap64 (t370 + 1))
                                                · rw [if_pos c40] at H
                                                  have c40b0 : decide ((Int.tmod x40_2 (wrap64 (t370 + 1))) < (wrap64 (t370 + 1))) = true := decide_eq_true c40
                                                  clear c40
                                                  obtain ⟨ji41, hji41⟩ : ∃ j_ : Int, (wrap64 ((wrap64 ((wrap64 ((wrap64 (Int.tdiv x40_2 (wrap64 (t370 + 1)))) + x16_3)) * (wrap64 (t370 + 1)))) + (Int.tmod x40_2 (wrap64 (t370 + 1))))) = j_ := ⟨_, rfl⟩
                                                  replace H : (if 0 ≤ (ji41) then (if (ji41) < (x11_3.length : Int) then ((spec_l1Least.f (wrap64 ((rd x11_3 (ji41)) + (rd x8_1 x40_2))) 1000000000001).bind fun t386 => (spec_soCounts.l2 kj26 a1 a2 (wrap64 (t370 + 1)) (rd l0 x31_1) (x11_3.set ((ji41) : Int).toNat t386) (rd x8_1 x40_2) (wrap64 (Int.tdiv x40_2 (wrap64 (t370 + 1)))) (Int.tmod x40_2 (wrap64 (t370 + 1))) (wrap64 (x16_3 + 1)) l0 (l0.length : Int) x31_1 x8_1 (x8_1.length : Int) x40_2)) else (none)) else (none)) = some r := by first | (rw [hji41] at H; exact H) | (simp only [hji41] at H ⊢; exact H)
                                                  have hji41w : (IntKind.i64.wrap ((wrap64 ((wrap64 ((wrap64 (Int.tdiv x40_2 (wrap64 (t370 + 1)))) + x16_3)) * (wrap64 (t370 + 1)))) + (Int.tmod x40_2 (wrap64 (t370 + 1))))) = ji41 := (i64_w _).trans hji41
                                                  by_cases c42 : 0 ≤ (ji41)
                                                  · rw [if_pos c42] at H
                                                    have c42b0 : decide (0 ≤ (ji41)) = true := decide_eq_true c42
                                                    clear c42
                                                    by_cases c43 : (ji41) < (x11_3.length : Int)
                                                    · rw [if_pos c43] at H
                                                      have c43b0 : decide ((ji41) < (x11_3.length : Int)) = true := decide_eq_true c43
                                                      clear c43
                                                      replace H := Option.bind_eq_some_iff.mp H
                                                      obtain ⟨t386, A440, H⟩ := H
                                                      replace H : (spec_soCounts.l2 kj26 a1 a2 (wrap64 (t370 + 1)) (rd l0 x31_1) (x11_3.set ((ji41) : Int).toNat t386) (rd x8_1 x40_2) (wrap64 (Int.tdiv x40_2 (wrap64 (t370 + 1)))) (Int.tmod x40_2 (wrap64 (t370 + 1))) (wrap64 (x16_3 + 1)) l0 (l0.length : Int) x31_1 x8_1 (x8_1.length : Int) x40_2) = some r := H
                                                      have A44 := Aside0.mk A440
                                                      clear A440
                                                      obtain ⟨y387, hy387⟩ : ∃ y_ : List Int, y_ = (x11_3.set ((ji41) : Int).toNat t386) := ⟨_, rfl⟩
                                                      replace H : (spec_soCounts.l2 kj26 a1 a2 (wrap64 (t370 + 1)) (rd l0 x31_1) y387 (rd x8_1 x40_2) (wrap64 (Int.tdiv x40_2 (wrap64 (t370 + 1)))) (Int.tmod x40_2 (wrap64 (t370 + 1))) (wrap64 (x16_3 + 1)) l0 (l0.length : Int) x31_1 x8_1 (x8_1.length : Int) x40_2) = some r := by first | (rw [hy387]; with_reducible exact H) | (have H2_ := (Option.bind_some _ _).symm.trans H; rw [hy387]; with_reducible exact H2_) | (have H2_ := (Option.bind_some _ _).symm.trans H; with_reducible exact H2_) | with_reducible exact H | (rw [hy387]; exact H) | exact H
                                                      have Ny387 := Aside0.mk hy387
                                                      clear hy387
                                                      have H' := Aside0.mk H
                                                      clear H
                                                      obtain ⟨Ao46, co46, eo46⟩ := Kd.R_slice HO_11.out
                                                      subst eo46
                                                      have p385 : 0 ≤ ((ji41) : Int) := of_decide_eq_true (by first | (with_reducible assumption) | assumption)
                                                      have q385 : (ji41) < (x11_3.length : Int) := of_decide_eq_true (by first | (with_reducible assumption) | assumption)
                                                      obtain ⟨ad385, e385, hx385_0⟩ := Kd.at_int (Kd.R_reads' HO_11.out).2.2 (ji41) p385 q385
                                                      cases e385
                                                      replace p385 := eq_true p385
                                                      replace q385 := eq_true q385
                                                      go_wp2_with (first | (go_at_call 58; (with_reducible refine (spec_l1Least.calls (wrap64 ((rd x11_3 (ji41)) + (rd x8_1 x40_2))) 1000000000001 t386 _ A44.out).mono ?_); rintro e w' ⟨rfl, ⟨nd, rfl⟩⟩; (try first | exact ⟨rfl, _, World.drewN_drewN _ _ _⟩ | exact ⟨rfl, _, Eq.trans (World.drewN_drewN _ _ _) (congrArg (World.drewN _) (Nat.add_assoc _ _ _))⟩); have p45 : 0 ≤ ((ji41) : Int) := of_decide_eq_true (by first | (with_reducible assumption) | assumption); have q45 : ((ji41) : Int) < ((x11_3.length : Int) : Int) := of_decide_eq_true (by first | (with_reducible assumption) | assumption); obtain ⟨go45, co45, eo45, gb45, gl45, cl45, HG45⟩ := Kd.R_form HO_11.out (by omega); (first | cases eo45 | (injection eo45 with ea_ en_ ec_; (first | subst ea_ | (injection ea_ with ea_; subst ea_)); subst ec_; clear en_)); have GB45 := Aside0.mk gb45; have GG45 := Aside0.mk HG45; clear gb45 gl45 HG45; (first | simp only [add_plain] at hx385_0 | skip); obtain ⟨hx45_0, hf45_0⟩ := Kd.R_celln 0 HO_11.out ((ji41) : Int) p45 q45; replace p45 := eq_true p45; replace q45 := eq_true q45; obtain ⟨hy47_, hz47_⟩ := Kd.R_celln 0 HO_11.out ((ji41) : Int) (of_decide_eq_true (by first | (with_reducible assumption) | assumption)) (of_decide_eq_true (by first | (with_reducible assumption) | assumption)); have HP47 := Kd.R_putg HO_11.out ((ji41) : Int) t386) | ((with_reducible refine gate_store (t := 3) (p := 91) rfl ?_); (try (rw [drewN_self wc]; generalize hq_ : World.drewN wc _ = wc; have n0_ := Aside0.mk (Kd.R_at hq_ HO_11.out); have n1_ := Aside0.mk (Kd.R_at hq_ HO_38.out); have n2_ := Aside0.mk (below_at hq_ HB.out); clear hq_ HO_11 HO_38 HB; have HO_11 := n0_; have HO_38 := n1_; have HB := n2_; clear n0_ n1_ n2_; (try (obtain ⟨hy47_, hz47_⟩ := Kd.R_celln 0 HO_11.out ((ji41) : Int) (of_decide_eq_true (by first | (with_reducible assumption) | assumption)) (of_decide_eq_true (by first | (with_reducible assumption) | assumption)))); (try (have HP47 := Kd.R_putg HO_11.out ((ji41) : Int) t386)))); refine store_event (t := 3) (p := 91) (v := ?vo_w48) (w1 := (wc.setCell ⟨go45, ((ji41) : Int).toNat, none⟩ (.int .i64 t386))) ?hg ?ho ?hn ?hr ?_; (case ho => rfl); (case hg => rfl); (case hn => rfl); (case hr => first | (go_simp; done) | (go_simp; rfl)); intro w48 hw; have hg : wc.grownBy w48 (some go45) := (by rw [hw]; exact HP47.2); have hp_ : Kd.R (Kd.int .i64) 3 w48 w.heap.size (fun k_ => some k_ ≠ (.slice (some ad381) x8_1.length co19 : Value).ownBlock) (.slice (some ⟨go45, 0, none⟩) x11_3.length co46) y387 := (by rw [hw, Ny387.out]; exact HP47.1); clear HP47; have n0_ := Aside0.mk (hp_); have n1_ := Aside0.mk (Kd.R_after (v := (.slice (some ⟨go45, 0, none⟩) x11_3.length co46)) (v1 := (.slice (some ⟨go45, 0, none⟩) x11_3.length co46)) (ok := (fun _ => True)) (by (with_reducible repeat (first | apply Kd.R_alloc | apply Kd.R_drewN | apply Kd.R_drew)); exact Kd.R_mono HO_38.out (fun _ hk => ⟨trivial, hk⟩)) hg (.inl rfl)); have n2_ := Aside0.mk ((by rw [hw]; exact below_set (HB.out) GB45.out : Below w.heap.size w w48)); clear HO_11; clear HO_38; clear HB; have HO_11 := n0_; have HO_38 := n1_; have HB := n2_; clear n0_ n1_ n2_; clear hg hw hp_))
                                                      repeat (go_quiet (first | (go_at_call 58; (with_reducible refine (spec_l1Least.calls (wrap64 ((rd x11_3 (ji41)) + (rd x8_1 x40_2))) 1000000000001 t386 _ A44.out).mono ?_); rintro e w' ⟨rfl, ⟨nd, rfl⟩⟩; (try first | exact ⟨rfl, _, World.drewN_drewN _ _ _⟩ | exact ⟨rfl, _, Eq.trans (World.drewN_drewN _ _ _) (congrArg (World.drewN _) (Nat.add_assoc _ _ _))⟩); have p45 : 0 ≤ ((ji41) : Int) := of_decide_eq_true (by first | (with_reducible assumption) | assumption); have q45 : ((ji41) : Int) < ((x11_3.length : Int) : Int) := of_decide_eq_true (by first | (with_reducible assumption) | assumption); obtain ⟨go45, co45, eo45, gb45, gl45, cl45, HG45⟩ := Kd.R_form HO_11.out (by omega); (first | cases eo45 | (injection eo45 with ea_ en_ ec_; (first | subst ea_ | (injection ea_ with ea_; subst ea_)); subst ec_; clear en_)); have GB45 := Aside0.mk gb45; have GG45 := Aside0.mk HG45; clear gb45 gl45 HG45; (first | simp only [add_plain] at hx385_0 | skip); obtain ⟨hx45_0, hf45_0⟩ := Kd.R_celln 0 HO_11.out ((ji41) : Int) p45 q45; replace p45 := eq_true p45; replace q45 := eq_true q45; obtain ⟨hy47_, hz47_⟩ := Kd.R_celln 0 HO_11.out ((ji41) : Int) (of_decide_eq_true (by first | (with_reducible assumption) | assumption)) (of_decide_eq_true (by first | (with_reducible assumption) | assumption)); have HP47 := Kd.R_putg HO_11.out ((ji41) : Int) t386) | ((with_reducible refine gate_store (t := 3) (p := 91) rfl ?_); (try (rw [drewN_self wc]; generalize hq_ : World.drewN wc _ = wc; have n0_ := Aside0.mk (Kd.R_at hq_ HO_11.out); have n1_ := Aside0.mk (Kd.R_at hq_ HO_38.out); have n2_ := Aside0.mk (below_at hq_ HB.out); clear hq_ HO_11 HO_38 HB; have HO_11 := n0_; have HO_38 := n1_; have HB := n2_; clear n0_ n1_ n2_; (try (obtain ⟨hy47_, hz47_⟩ := Kd.R_celln 0 HO_11.out ((ji41) : Int) (of_decide_eq_true (by first | (with_reducible assumption) | assumption)) (of_decide_eq_true (by first | (with_reducible assumption) | assumption)))); (try (have HP47 := Kd.R_putg HO_11.out ((ji41) : Int) t386)))); refine store_event (t := 3) (p := 91) (v := ?vo_w48) (w1 := (wc.setCell ⟨go45, ((ji41) : Int).toNat, none⟩ (.int .i64 t386))) ?hg ?ho ?hn ?hr ?_; (case ho => rfl); (case hg => rfl); (case hn => rfl); (case hr => first | (go_simp; done) | (go_simp; rfl)); intro w48 hw; have hg : wc.grownBy w48 (some go45) := (by rw [hw]; exact HP47.2); have hp_ : Kd.R (Kd.int .i64) 3 w48 w.heap.size (fun k_ => some k_ ≠ (.slice (some ad381) x8_1.length co19 : Value).ownBlock) (.slice (some ⟨go45, 0, none⟩) x11_3.length co46) y387 := (by rw [hw, Ny387.out]; exact HP47.1); clear HP47; have n0_ := Aside0.mk (hp_); have n1_ := Aside0.mk (Kd.R_after (v := (.slice (some ⟨go45, 0, none⟩) x11_3.length co46)) (v1 := (.slice (some ⟨go45, 0, none⟩) x11_3.length co46)) (ok := (fun _ => True)) (by (with_reducible repeat (first | apply Kd.R_alloc | apply Kd.R_drewN | apply Kd.R_drew)); exact Kd.R_mono HO_38.out (fun _ hk => ⟨trivial, hk⟩)) hg (.inl rfl)); have n2_ := Aside0.mk ((by rw [hw]; exact below_set (HB.out) GB45.out : Below w.heap.size w w48)); clear HO_11; clear HO_38; clear HB; have HO_11 := n0_; have HO_38 := n1_; have HB := n2_; clear n0_ n1_ n2_; clear hg hw hp_)); try go_wp2_with (first | (go_at_call 58; (with_reducible refine (spec_l1Least.calls (wrap64 ((rd x11_3 (ji41)) + (rd x8_1 x40_2))) 1000000000001 t386 _ A44.out).mono ?_); rintro e w' ⟨rfl, ⟨nd, rfl⟩⟩; (try first | exact ⟨rfl, _, World.drewN_drewN _ _ _⟩ | exact ⟨rfl, _, Eq.trans (World.drewN_drewN _ _ _) (congrArg (World.drewN _) (Nat.add_assoc _ _ _))⟩); have p45 : 0 ≤ ((ji41) : Int) := of_decide_eq_true (by first | (with_reducible assumption) | assumption); have q45 : ((ji41) : Int) < ((x11_3.length : Int) : Int) := of_decide_eq_true (by first | (with_reducible assumption) | assumption); obtain ⟨go45, co45, eo45, gb45, gl45, cl45, HG45⟩ := Kd.R_form HO_11.out (by omega); (first | cases eo45 | (injection eo45 with ea_ en_ ec_; (first | subst ea_ | (injection ea_ with ea_; subst ea_)); subst ec_; clear en_)); have GB45 := Aside0.mk gb45; have GG45 := Aside0.mk HG45; clear gb45 gl45 HG45; (first | simp only [add_plain] at hx385_0 | skip); obtain ⟨hx45_0, hf45_0⟩ := Kd.R_celln 0 HO_11.out ((ji41) : Int) p45 q45; replace p45 := eq_true p45; replace q45 := eq_true q45; obtain ⟨hy47_, hz47_⟩ := Kd.R_celln 0 HO_11.out ((ji41) : Int) (of_decide_eq_true (by first | (with_reducible assumption) | assumption)) (of_decide_eq_true (by first | (with_reducible assumption) | assumption)); have HP47 := Kd.R_putg HO_11.out ((ji41) : Int) t386) | ((with_reducible refine gate_store (t := 3) (p := 91) rfl ?_); (try (rw [drewN_self wc]; generalize hq_ : World.drewN wc _ = wc; have n0_ := Aside0.mk (Kd.R_at hq_ HO_11.out); have n1_ := Aside0.mk (Kd.R_at hq_ HO_38.out); have n2_ := Aside0.mk (below_at hq_ HB.out); clear hq_ HO_11 HO_38 HB; have HO_11 := n0_; have HO_38 := n1_; have HB := n2_; clear n0_ n1_ n2_; (try (obtain ⟨hy47_, hz47_⟩ := Kd.R_celln 0 HO_11.out ((ji41) : Int) (of_decide_eq_true (by first | (with_reducible assumption) | assumption)) (of_decide_eq_true (by first | (with_reducible assumption) | assumption)))); (try (have HP47 := Kd.R_putg HO_11.out ((ji41) : Int) t386)))); refine store_event (t := 3) (p := 91) (v := ?vo_w48) (w1 := (wc.setCell ⟨go45, ((ji41) : Int).toNat, none⟩ (.int .i64 t386))) ?hg ?ho ?hn ?hr ?_; (case ho => rfl); (case hg => rfl); (case hn => rfl); (case hr => first | (go_simp; done) | (go_simp; rfl)); intro w48 hw; have hg : wc.grownBy w48 (some go45) := (by rw [hw]; exact HP47.2); have hp_ : Kd.R (Kd.int .i64) 3 w48 w.heap.size (fun k_ => some k_ ≠ (.slice (some ad381) x8_1.length co19 : Value).ownBlock) (.slice (some ⟨go45, 0, none⟩) x11_3.length co46) y387 := (by rw [hw, Ny387.out]; exact HP47.1); clear HP47; have n0_ := Aside0.mk (hp_); have n1_ := Aside0.mk (Kd.R_after (v := (.slice (some ⟨go45, 0, none⟩) x11_3.length co46)) (v1 := (.slice (some ⟨go45, 0, none⟩) x11_3.length co46)) (ok := (fun _ => True)) (by (with_reducible repeat (first | apply Kd.R_alloc | apply Kd.R_drewN | apply Kd.R_drew)); exact Kd.R_mono HO_38.out (fun _ hk => ⟨trivial, hk⟩)) hg (.inl rfl)); have n2_ := Aside0.mk ((by rw [hw]; exact below_set (HB.out) GB45.out : Below w.heap.size w w48)); clear HO_11; clear HO_38; clear HB; have HO_11 := n0_; have HO_38 := n1_; have HB := n2_; clear n0_ n1_ n2_; clear hg hw hp_)))
                                                      go_roundg kj26
                                                      case measure => have := HK1.out; have := HK2.out; have := HK3.out; have := HJ26.out; omega
                                                      case rel => exact ⟨(y387), (wrap64 (x16_3 + 1)), (by first | rfl | (simp; done) | (simp [*]; done)), H', ⟨by have := HK1.out; have := HK2.out; have := HK3.out; have := HJ26.out; omega⟩, ⟨by (with_reducible repeat (first | apply Kd.R_alloc | apply Kd.R_drewN | apply Kd.R_drew)); exact HO_11.out⟩, ⟨by (with_reducible repeat (first | apply Kd.R_alloc | apply Kd.R_drewN | apply Kd.R_drew)); exact Kd.R_mono HO_38.out (fun _ hk => hk.2)⟩, ⟨by repeat (first | (with_reducible first | exact HB.out | apply below_alloc | apply pw_below_drewN | apply below_drew1) | exact HB.out)⟩⟩
                                                    · rw [if_neg c43] at H
                                                      exact absurd H (by simp)
                                                  · rw [if_neg c42] at H
                                                    exact absurd H (by simp)
                                                · rw [if_neg c40] at H
                                                  have c40b0 : decide ((Int.tmod x40_2 (wrap64 (t370 + 1))) < (wrap64 (t370 + 1))) = false := decide_eq_false c40
                                                  clear c40
                                                  have H' := Aside0.mk H
                                                  clear H
                                                  go_wp2
                                                  repeat (go_quiet (fail); try go_wp2)
                                                  go_roundg kj26
                                                  case measure => have := HK1.out; have := HK2.out; have := HK3.out; have := HJ26.out; omega
                                                  case rel => exact ⟨(x11_3), (wrap64 (x16_3 + 1)), (by first | rfl | (simp; done) | (simp [*]; done)), H', ⟨by have := HK1.out; have := HK2.out; have := HK3.out; have := HJ26.out; omega⟩, ⟨by (with_reducible repeat (first | apply Kd.R_alloc | apply Kd.R_drewN | apply Kd.R_drew)); exact HO_11.out⟩, ⟨by (with_reducible repeat (first | apply Kd.R_alloc | apply Kd.R_drewN | apply Kd.R_drew)); exact HO_38.out⟩, ⟨by repeat (first | (with_reducible first | exact HB.out | apply below_alloc | apply pw_below_drewN | apply below_drew1) | exact HB.out)⟩⟩
                                            · replace c29 := Bool.eq_false_iff.mpr c29
                                              subst c29
                                              have H1 : (spec_soCounts.l1 kj26 a1 a2 (wrap64 (t370 + 1)) (rd l0 x31_1) x11_3 l0 (l0.length : Int) x31_1 x8_1 (x8_1.length : Int) (wrap64 (x40_2 + 1))) = some r := by rw [if_neg (show ¬ (false = true) by decide)] at H; exact H
                                              clear H
                                              have H := H1
                                              clear H1
                                              have H' := Aside0.mk H
                                              clear H
                                              go_wp2
                                              repeat (go_quiet (fail); try go_wp2)
                                              go_roundg kj26
                                              case measure => have := HK1.out; have := HK2.out; have := HK3.out; have := HJ26.out; omega
                                              case rel => exact ⟨(x11_3), (wrap64 (x40_2 + 1)), (by first | rfl | (simp; done) | (simp [*]; done)), H', ⟨by have := HK1.out; have := HK2.out; have := HK3.out; have := HJ26.out; omega⟩, ⟨by (with_reducible repeat (first | apply Kd.R_alloc | apply Kd.R_drewN | apply Kd.R_drew)); exact HO_11.out⟩, ⟨by (with_reducible repeat (first | apply Kd.R_alloc | apply Kd.R_drewN | apply Kd.R_drew)); exact HO_38.out⟩, ⟨by repeat (first | (with_reducible first | exact HB.out | apply below_alloc | apply pw_below_drewN | apply below_drew1) | exact HB.out)⟩⟩
                              · rw [if_neg c24] at H
                                exact absurd H (by simp)
                            · rw [if_neg c23] at H
                              exact absurd H (by simp)
                          · rw [if_neg c22] at H
                            have c22b0 : decide (x40_2 < (x8_1.length : Int)) = false := decide_eq_false c22
                            clear c22
                            have H' := Aside0.mk H
                            clear H
                            go_wp2
                            repeat (go_quiet (fail); try go_wp2)
                            go_roundg k2
                            case measure => have := HK1.out; have := HK2.out; omega
                            case rel => exact ⟨(x11_2), (wrap64 (x31_1 + 1)), (by first | rfl | (simp; done) | (simp [*]; done)), H', ⟨by have := HK1.out; have := HK2.out; omega⟩, ⟨by (with_reducible repeat (first | apply Kd.R_alloc | apply Kd.R_drewN | apply Kd.R_drew)); exact Kd.R_mono HO_11.out (fun _ hk => trivial)⟩, ⟨by repeat (first | (with_reducible first | exact HB.out | apply below_alloc | apply pw_below_drewN | apply below_drew1) | exact HB.out)⟩⟩
                    · rw [if_neg c18] at H
                      exact absurd H (by simp)
                  · rw [if_neg c17] at H
                    exact absurd H (by simp)
                · rw [if_neg c16] at H
                  exact absurd H (by simp)
              · rw [if_neg c15] at H
                exact absurd H (by simp)
            · rw [if_neg c14] at H
              have c14b0 : decide (x31_1 < (l0.length : Int)) = false := decide_eq_false c14
              clear c14
              replace H := Option.bind_eq_some_iff.mp H
              obtain ⟨t375, A490, H⟩ := H
              replace H : (if 0 ≤ (wrap64 ((wrap64 (a1 * (wrap64 (t370 + 1)))) + t375)) then (if (wrap64 ((wrap64 (a1 * (wrap64 (t370 + 1)))) + t375)) < (x8_1.length : Int) then (some (rd x8_1 (wrap64 ((wrap64 (a1 * (wrap64 (t370 + 1)))) + t375)))) else (none)) else (none)) = some r := H
              have A49 := Aside0.mk A490
              clear A490
              obtain ⟨ji50, hji50⟩ : ∃ j_ : Int, (wrap64 ((wrap64 (a1 * (wrap64 (t370 + 1)))) + t375)) = j_ := ⟨_, rfl⟩
              replace H : (if 0 ≤ (ji50) then (if (ji50) < (x8_1.length : Int) then (some (rd x8_1 (ji50))) else (none)) else (none)) = some r := by first | (rw [hji50] at H; exact H) | (simp only [hji50] at H ⊢; exact H)
              (try rw [hji50] at A49)
              have hji50w : (IntKind.i64.wrap ((wrap64 (a1 * (wrap64 (t370 + 1)))) + t375)) = ji50 := (i64_w _).trans hji50
              by_cases c51 : 0 ≤ (ji50)
              · rw [if_pos c51] at H
                have c51b0 : decide (0 ≤ (ji50)) = true := decide_eq_true c51
                clear c51
                by_cases c52 : (ji50) < (x8_1.length : Int)
                · rw [if_pos c52] at H
                  have c52b0 : decide ((ji50) < (x8_1.length : Int)) = true := decide_eq_true c52
                  clear c52
                  obtain rfl := Option.some.inj H
                  go_wp2_with (first | (go_at_call 72; (with_reducible refine (spec_l1Most.calls a2 0 t375 _ A49.out).mono ?_); rintro e w' ⟨rfl, ⟨nd, rfl⟩⟩; (try first | exact ⟨rfl, _, World.drewN_drewN _ _ _⟩ | exact ⟨rfl, _, Eq.trans (World.drewN_drewN _ _ _) (congrArg (World.drewN _) (Nat.add_assoc _ _ _))⟩); obtain ⟨Ao53, co53, eo53⟩ := Kd.R_slice HO_8.out; subst eo53; have p376 : 0 ≤ ((ji50) : Int) := of_decide_eq_true (by first | (with_reducible assumption) | assumption); have q376 : (ji50) < (x8_1.length : Int) := of_decide_eq_true (by first | (with_reducible assumption) | assumption); obtain ⟨ad376, e376, hx376_0⟩ := Kd.at_int (Kd.R_reads' HO_8.out).2.2 (ji50) p376 q376; cases e376; replace p376 := eq_true p376; replace q376 := eq_true q376))
                  repeat (go_quiet (first | (go_at_call 72; (with_reducible refine (spec_l1Most.calls a2 0 t375 _ A49.out).mono ?_); rintro e w' ⟨rfl, ⟨nd, rfl⟩⟩; (try first | exact ⟨rfl, _, World.drewN_drewN _ _ _⟩ | exact ⟨rfl, _, Eq.trans (World.drewN_drewN _ _ _) (congrArg (World.drewN _) (Nat.add_assoc _ _ _))⟩); obtain ⟨Ao53, co53, eo53⟩ := Kd.R_slice HO_8.out; subst eo53; have p376 : 0 ≤ ((ji50) : Int) := of_decide_eq_true (by first | (with_reducible assumption) | assumption); have q376 : (ji50) < (x8_1.length : Int) := of_decide_eq_true (by first | (with_reducible assumption) | assumption); obtain ⟨ad376, e376, hx376_0⟩ := Kd.at_int (Kd.R_reads' HO_8.out).2.2 (ji50) p376 q376; cases e376; replace p376 := eq_true p376; replace q376 := eq_true q376)); try go_wp2_with (first | (go_at_call 72; (with_reducible refine (spec_l1Most.calls a2 0 t375 _ A49.out).mono ?_); rintro e w' ⟨rfl, ⟨nd, rfl⟩⟩; (try first | exact ⟨rfl, _, World.drewN_drewN _ _ _⟩ | exact ⟨rfl, _, Eq.trans (World.drewN_drewN _ _ _) (congrArg (World.drewN _) (Nat.add_assoc _ _ _))⟩); obtain ⟨Ao53, co53, eo53⟩ := Kd.R_slice HO_8.out; subst eo53; have p376 : 0 ≤ ((ji50) : Int) := of_decide_eq_true (by first | (with_reducible assumption) | assumption); have q376 : (ji50) < (x8_1.length : Int) := of_decide_eq_true (by first | (with_reducible assumption) | assumption); obtain ⟨ad376, e376, hx376_0⟩ := Kd.at_int (Kd.R_reads' HO_8.out).2.2 (ji50) p376 q376; cases e376; replace p376 := eq_true p376; replace q376 := eq_true q376)))
                  go_ret
                  exact ⟨by first | rfl | (simp [errW_none, errW_some] <;> rfl) | (simp only [← hji5, ← hji50]; first | rfl | (simp [errW_none, errW_some] <;> rfl)) | (simp [*, errW_none, errW_some] <;> rfl), by repeat (first | (with_reducible first | exact HB.out | apply below_alloc | apply pw_below_drewN | apply below_drew1) | exact HB.out)⟩
                · rw [if_neg c52] at H
                  exact absurd H (by simp)
              · rw [if_neg c51] at H
                exact absurd H (by simp)
      · rw [if_neg c8] at H
        exact absurd H (by simp)
    · rw [if_neg c7] at H
      exact absurd H (by simp)
  · rw [if_neg c6] at H
    exact absurd H (by simp)

end Go.Proofs.Ytnikblimnjpmpaa.X

/- ==== XspecsoDraws ==== -/
namespace Go.Proofs.Ytnikblimnjpmpaa.X
open Go.RowKit Go.Proofs.YtnikblimnjpmpaaW.PrintWords Go.Proofs.YtnikblimnjpmpaaW.PrintLast Go.Proofs.YtnikblimnjpmpaaW.PrintMore
attribute [local go_sem] max2_int min2_int max_two min_two max_three min_three max_four min_four   -- for this text's walks alone
set_option linter.unusedVariables false
set_option linter.unusedSimpArgs false

/-! ### spec_soDraws: function 52 -/
def spec_soDraws.f (k : Nat) (l0 : List Int) (a1 : Int) : Option (Int) := (spec_soSum.f k l0).bind fun t388 => (if a1 > t388 then (some 0) else ((spec_soCounts.f k l0 a1 (-1)).bind fun t389 => (some t389)))
theorem spec_soDraws.mono : ∀ a0 a1 k, LeO (spec_soDraws.f k a0 a1) (spec_soDraws.f (k + 1) a0 a1) := by
  intro a0 a1 k
  unfold spec_soDraws.f
  repeat' first
      | (with_reducible exact spec_soCounts.mono _ _ _ _)
      | (with_reducible exact spec_soSum.mono _ _)
      | (with_reducible exact LeO.refl _)
      | (with_reducible exact LeO.none _)
      | (with_reducible refine LeO.ite ?_ ?_)
      | (with_reducible refine LeO.bind ?_ (fun _ => ?_))
      | exact spec_soCounts.mono _ _ _ _
      | exact spec_soSum.mono _ _
      | exact LeO.none _
      | refine LeO.ite ?_ ?_
      | refine LeO.bind ?_ (fun _ => ?_)
set_option maxHeartbeats 8000000 in
set_option maxRecDepth 100000 in
theorem spec_soDraws.calls (k : Nat) (A0 : Option Addr) (c0 : Nat) (l0 : List Int) (a1 : Int) (r : Int) (w : World) (hr0 : Kd.C (Kd.int .i64) w A0 l0.length l0) (hc0 : l0.length ≤ c0) (h : spec_soDraws.f k l0 a1 = some r) :
    Calls Try.prog 52 #[.slice A0 l0.length c0, .int .i64 a1] w fun e w' => e = .returned (.int .i64 r) ∧ Below w.heap.size w w' := by
  have HR0 := Aside0.mk hr0
  have HC0 := Aside0.mk hc0
  clear hr0 hc0
  have HB := Aside0.mk (Below.refl w.heap.size w)
  have H : ((spec_soSum.f k l0).bind fun t388 => (if a1 > t388 then (some 0) else ((spec_soCounts.f k l0 a1 (-1)).bind fun t389 => (some t389)))) = some r := h
  clear h
  replace H := Option.bind_eq_some_iff.mp H
  obtain ⟨t388, A30, H⟩ := H
  replace H : (if a1 > t388 then (some 0) else ((spec_soCounts.f k l0 a1 (-1)).bind fun t389 => (some t389))) = some r := H
  have A3 := Aside0.mk A30
  clear A30
  by_cases c4 : a1 > t388
  · rw [if_pos c4] at H
    have c4b0 : decide (t388 < a1) = true := decide_eq_true c4
    clear c4
    obtain rfl := Option.some.inj H
    go_enter Try.func52, Try.ntmps52
    go_wp2_with (first | ((with_reducible refine gate_callee (f := 36) rfl ?_); refine goesL_ (some 7) rfl rfl Try.func36 (by kernel_rfl) rfl #[.slice A0 l0.length c0] rfl (by (try simp only [List.map_toArray, List.map_cons, List.map_nil]); first | done | rfl | (simp only [List.length_drop, List.length_take]; rfl)) ?_; (with_reducible refine (spec_soSum.calls k _ _ l0 t388 _ ?side1 ?side2 A3.out).mono ?_); (case side1 => repeat (first | exact HR0.out | (with_reducible refine Kd.C_alloc ?_ _) | (with_reducible refine Kd.C_drewN ?_ _) | (with_reducible refine Kd.C_drew ?_))); (case side2 => exact HC0.out); rintro e w' ⟨rfl, ⟨nd, rfl⟩⟩; refine ⟨_, rfl, ?_⟩))
    go_ret
    exact ⟨by first | rfl | (simp [errW_none, errW_some] <;> rfl) | (simp [*, errW_none, errW_some] <;> rfl), by repeat (first | (with_reducible first | exact HB.out | apply below_alloc | apply pw_below_drewN | apply below_drew1) | exact HB.out)⟩
  · rw [if_neg c4] at H
    have c4b0 : decide (t388 < a1) = false := decide_eq_false c4
    clear c4
    replace H := Option.bind_eq_some_iff.mp H
    obtain ⟨t389, A50, H⟩ := H
    replace H : (some t389) = some r := H
    have A5 := Aside0.mk A50
    clear A50
    obtain rfl := Option.some.inj H
    go_enter Try.func52, Try.ntmps52
    go_wp2_with (first | ((with_reducible refine gate_callee (f := 36) rfl ?_); refine goesL_ (some 7) rfl rfl Try.func36 (by kernel_rfl) rfl #[.slice A0 l0.length c0] rfl (by (try simp only [List.map_toArray, List.map_cons, List.map_nil]); first | done | rfl | (simp only [List.length_drop, List.length_take]; rfl)) ?_; (with_reducible refine (spec_soSum.calls k _ _ l0 t388 _ ?side1 ?side2 A3.out).mono ?_); (case side1 => repeat (first | exact HR0.out | (with_reducible refine Kd.C_alloc ?_ _) | (with_reducible refine Kd.C_drewN ?_ _) | (with_reducible refine Kd.C_drew ?_))); (case side2 => exact HC0.out); rintro e w' ⟨rfl, ⟨nd, rfl⟩⟩; refine ⟨_, rfl, ?_⟩) | ((with_reducible refine gate_callee (f := 64) rfl ?_); refine goesL_ (some 11) rfl rfl Try.func64 (by kernel_rfl) rfl #[.slice A0 l0.length c0, .int .i64 a1, .int .i64 (-1)] rfl (by (try simp only [List.map_toArray, List.map_cons, List.map_nil]); first | done | rfl | (simp only [List.length_drop, List.length_take]; rfl)) ?_; (with_reducible refine (spec_soCounts.calls k _ _ l0 a1 (-1) t389 _ ?side1 ?side2 A5.out).mono ?_); (case side1 => repeat (first | exact HR0.out | (with_reducible refine Kd.C_alloc ?_ _) | (with_reducible refine Kd.C_drewN ?_ _) | (with_reducible refine Kd.C_drew ?_))); (case side2 => exact HC0.out); rintro e w6 ⟨rfl, hb⟩; refine ⟨_, rfl, ?_⟩; have n0_ := Aside0.mk (below_step (by repeat (first | (with_reducible first | exact HB.out | apply below_alloc | apply pw_below_drewN | apply below_drew1) | exact HB.out)) hb); clear HB; have HB := n0_; clear n0_; (try clear hb); (try clear hb2); (try clear hk); (try clear hi)))
    go_ret
    exact ⟨by first | rfl | (simp [errW_none, errW_some] <;> rfl) | (simp [*, errW_none, errW_some] <;> rfl), by repeat (first | (with_reducible first | exact HB.out | apply below_alloc | apply pw_below_drewN | apply below_drew1) | exact HB.out)⟩

end Go.Proofs.Ytnikblimnjpmpaa.X

/- ==== PlCounts ==== -/
/- Plain laws, no program in sight: the reference's count of the draws of just so many socks. -/
namespace Go.Proofs.Ytnikblimnjpmpaa.X
open Go.RowKit Go.Proofs.YtnikblimnjpmpaaW.PrintWords Go.Proofs.YtnikblimnjpmpaaW.PrintLast Go.Proofs.YtnikblimnjpmpaaW.PrintMore

theorem ws1 (i : Nat) (h : i ≤ 100000) : wrap64 ((i : Int) + 1) = ((i + 1 : Nat) : Int) := by unfold wrap64; omega
theorem wsa (a b : Nat) (h : a + b ≤ 100000) : wrap64 ((a : Int) + (b : Int)) = ((a + b : Nat) : Int) := by unfold wrap64; omega
theorem wsx (a : Nat) (h : a ≤ 100000) : wrap64 (wrap64 ((a : Int) * 1) + 0) = (a : Int) := by
  rw [Int.mul_one, w64 (x := (a : Int)) (by omega) (by omega), Int.add_zero, w64 (by omega) (by omega)]
theorem wsk (a : Nat) (h : a ≤ 100000) : wrap64 (wrap64 ((a : Int) + 1) * 1) = ((a + 1 : Nat) : Int) := by
  rw [ws1 a h, Int.mul_one, w64 (by omega) (by omega)]
theorem wsd (a : Nat) (h : a ≤ 100000) : wrap64 (Int.tdiv (a : Int) 1) = (a : Int) := by
  rw [Int.tdiv_one, w64 (by omega) (by omega)]
theorem ws0 : wrap64 (0 + 1) = 1 := by unfold wrap64; omega
theorem wsl {v : Int} (h : v ≤ 37822859361) : spec_l1Least.f v 1000000000001 = some v := by unfold spec_l1Least.f; rw [if_pos (by omega)]
theorem wsv {x y v : Int} (hv : v = x + y) (h0 : 0 ≤ v) (h : v ≤ 37822859361) : wrap64 (x + y) = v := by rw [← hv, w64 (by omega) (by omega)]
theorem l1Most0 : spec_l1Most.f (-1) 0 = some 0 := by unfold spec_l1Most.f; rw [if_neg (by omega)]
def Gs (l : List Nat) (n i j : Nat) : Int := sumN i (fun a => if a ≤ j ∧ j ≤ a + n then Nd l (a : Int) else 0)
structure Cn (K : Nat) (l : List Nat) (now : List Int) : Prop where
  len : now.length = K + 1
  val : ∀ j : Nat, j ≤ K → rd now (j : Int) = Nd l (j : Int)
structure Pn (K : Nat) (l : List Nat) (n i d : Nat) (next : List Int) : Prop where
  len : next.length = K + 1
  val : ∀ j : Nat, j ≤ K → rd next (j : Int) = Gs l n i j + (if i ≤ j ∧ j < i + d then Nd l (i : Int) else 0)
theorem Nd_nonneg (l : List Nat) (k : Int) : 0 ≤ Nd l k := T_nonneg w1_nonneg
theorem Gs_nonneg (l : List Nat) (n i j : Nat) : 0 ≤ Gs l n i j := sumN_nonneg fun a _ => by
  have := Nd_nonneg l (a : Int)
  split <;> omega
theorem Gs_succ (l : List Nat) (n i j : Nat) : Gs l n (i + 1) j = Gs l n i j + (if i ≤ j ∧ j ≤ i + n then Nd l (i : Int) else 0) := rfl
theorem Gs_le {l : List Nat} {n i j K : Nat} (hi : i ≤ K) (hj : j ≤ K) : Gs l n (i + 1) j ≤ Nd (l ++ [n]) (j : Int) := by
  rw [← Nd_snoc l n K j hj]
  exact sumN_mono (by omega) fun a => by
    have := Nd_nonneg l (a : Int)
    split <;> omega
section
variable {K : Nat} {l : List Nat} {n : Nat}
theorem Pn.done {i d : Nat} {next : List Int} (h : Pn K l n i d next) (hdn : d ≤ n + 1) (hd : K < i + d ∨ d = n + 1) : Pn K l n (i + 1) 0 next := by
  refine ⟨h.len, fun j hj => ?_⟩
  rw [h.val j hj, Gs_succ, if_neg (show ¬ (i + 1 ≤ j ∧ j < i + 1 + 0) by omega), Int.add_zero]
  by_cases c : i ≤ j ∧ j < i + d
  · by_cases c2 : j ≤ i + n
    · rw [if_pos c, if_pos (by omega)]
    · rcases hd with hd | hd <;> omega
  · rw [if_neg c]
    by_cases c2 : i ≤ j ∧ j ≤ i + n
    · rcases hd with hd | hd <;> omega
    · rw [if_neg c2]
theorem Pn.skip {i : Nat} {next : List Int} (h : Pn K l n i 0 next) (hz : Nd l (i : Int) = 0) : Pn K l n (i + 1) 0 next := by
  refine ⟨h.len, fun j hj => ?_⟩
  rw [h.val j hj, Gs_succ, hz, if_neg (show ¬ (i + 1 ≤ j ∧ j < i + 1 + 0) by omega)]
  split <;> split <;> omega
theorem Pn.set {i d : Nat} {next : List Int} (h : Pn K l n i d next) (hK : i + d ≤ K) {v : Int} (hv : v = rd next ((i + d : Nat) : Int) + Nd l (i : Int)) : Pn K l n i (d + 1) (next.set (i + d) v) := by
  refine ⟨by rw [List.length_set]; exact h.len, fun j hj => ?_⟩
  by_cases c : j = i + d
  · subst c
    rw [rd_set_same (by rw [h.len]; omega), hv, h.val _ hj, if_neg (by omega), if_pos (by omega)]
    omega
  · rw [rd_set_other c, h.val j hj]
    by_cases c2 : i ≤ j ∧ j < i + d
    · rw [if_pos c2, if_pos (by omega)]
    · rw [if_neg c2, if_neg (by omega)]
/-- The walk over how many of a colour are drawn. -/
theorem sc_l2 (hK : K ≤ 200) (hn : n ≤ 20) (h20 : ∀ x ∈ l ++ [n], x ≤ 20) (h8 : (l ++ [n]).length ≤ 8) (S : List Int) (sl si : Int) (now : List Int) (nl : Int) (i : Nat) (hi : i ≤ K) (e : Nat) :
    ∀ (d : Nat) (next : List Int), d + e = n + 1 → Pn K l n i d next →
    ∃ next' : List Int, Pn K l n (i + 1) 0 next' ∧ (∀ r : Int, Ev (fun k => spec_soCounts.l1 k (K : Int) (-1) 1 (n : Int) next' S sl si now nl ((i + 1 : Nat) : Int)) r → Ev (fun k => spec_soCounts.l2 k (K : Int) (-1) 1 (n : Int) next (Nd l (i : Int)) (i : Int) 0 (d : Int) S sl si now nl (i : Int)) r) := by
  have HIN := Aside0.mk (ws1 i (by omega))
  induction e with
  | zero =>
    intro d next hd hp
    obtain rfl : d = n + 1 := by omega
    refine ⟨next, hp.done (Nat.le_refl _) (.inr rfl), fun r h1 => ?_⟩
    refine Ev.step (f := fun k => spec_soCounts.j3 k (K : Int) (-1) 1 (n : Int) next (Nd l (i : Int)) (i : Int) 0 ((n + 1 : Nat) : Int) S sl si now nl (i : Int) false) (fun k => ?_) (Ev.step (fun k => ?_) h1)
    · simp only [spec_soCounts.l2]
      rw [if_neg (by omega)]
    · simp only [spec_soCounts.j3]
      rw [if_neg (by decide), HIN.out]
  | succ e ih =>
    intro d next hd hp
    have HDN := Aside0.mk (ws1 d (by omega))
    by_cases c : i + d ≤ K
    · have hb := Gs_le (l := l) (n := n) (j := i + d) hi c
      rw [Gs_succ, if_pos (by omega)] at hb
      have hb2 := (T1_bound (m := z0) h20 h8 ((i + d : Nat) : Int) 0).2
      have hb3 : Nd (l ++ [n]) ((i + d : Nat) : Int) ≤ 37822859361 := hb2
      have hv := hp.val (i + d) c
      rw [if_neg (by omega), Int.add_zero] at hv
      have h0 := Gs_nonneg l n i (i + d)
      have h1 := Nd_nonneg l (i : Int)
      rw [← hv] at hb h0
      obtain ⟨v, hvv⟩ : ∃ v, v = rd next ((i + d : Nat) : Int) + Nd l (i : Int) := ⟨_, rfl⟩
      have hvb : 0 ≤ v ∧ v ≤ 37822859361 := by omega
      obtain ⟨next', g1, g2⟩ := ih (d + 1) _ (by omega) (hp.set c hvv)
      refine ⟨next', g1, fun r hr => ?_⟩
      have hlen := hp.len
      have h4 := g2 r hr
      have W1 := Aside0.mk (wsx (i + d) (by omega))
      have W2 := Aside0.mk (wsv hvv hvb.1 hvb.2)
      have W3 := Aside0.mk (wsl hvb.2)
      have WHD := Aside0.mk (wsa i d (by omega))
      clear hb hb2 hb3 hv h0 h1 hvb hvv ih g1 g2
      refine Ev.step (f := fun k => spec_soCounts.j3 k (K : Int) (-1) 1 (n : Int) next (Nd l (i : Int)) (i : Int) 0 (d : Int) S sl si now nl (i : Int) true) (fun k => ?_) (Ev.step (fun k => ?_) h4)
      · simp only [spec_soCounts.l2]
        rw [if_pos (by omega), WHD.out, decide_eq_true (by omega)]
      · simp only [spec_soCounts.j3]
        rw [if_pos trivial, if_neg (by decide), if_pos (by decide), WHD.out, W1.out, if_pos (by omega), if_pos (by omega), W2.out, W3.out, HDN.out, Int.toNat_natCast]
        rfl
    · refine ⟨next, hp.done (by omega) (.inl (by omega)), fun r h1 => ?_⟩
      refine Ev.step (f := fun k => spec_soCounts.j3 k (K : Int) (-1) 1 (n : Int) next (Nd l (i : Int)) (i : Int) 0 (d : Int) S sl si now nl (i : Int) false) (fun k => ?_) (Ev.step (fun k => ?_) h1)
      · simp only [spec_soCounts.l2]
        rw [if_pos (by omega), wsa i d (by omega), decide_eq_false (by omega)]
      · simp only [spec_soCounts.j3]
        rw [if_neg (by decide), HIN.out]
/-- The walk over the places of the table so far. -/
theorem sc_l1 (hK : K ≤ 200) (hn : n ≤ 20) (h20 : ∀ x ∈ l ++ [n], x ≤ 20) (h8 : (l ++ [n]).length ≤ 8) (S : List Int) (sl si : Int) (now : List Int) (hc : Cn K l now) (e : Nat) :
    ∀ (i : Nat) (next : List Int), i + e = K + 1 → Pn K l n i 0 next →
    ∃ next' : List Int, Pn K l n (K + 1) 0 next' ∧ (∀ r : Int, Ev (fun k => spec_soCounts.l0 k (K : Int) (-1) 1 next' S sl (wrap64 (si + 1))) r → Ev (fun k => spec_soCounts.l1 k (K : Int) (-1) 1 (n : Int) next S sl si now (now.length : Int) (i : Int)) r) := by
  have hlen := hc.len
  induction e with
  | zero =>
    intro i next hi hp
    obtain rfl : i = K + 1 := by omega
    refine ⟨next, hp, fun r h1 => Ev.step (fun k => ?_) h1⟩
    simp only [spec_soCounts.l1]
    rw [if_neg (by omega)]
  | succ e ih =>
    intro i next hi hp
    have HIN := Aside0.mk (ws1 i (by omega))
    have HV := Aside0.mk (hc.val i (by omega))
    by_cases c : Nd l (i : Int) = 0
    · obtain ⟨next', g1, g2⟩ := ih (i + 1) next (by omega) (hp.skip c)
      refine ⟨next', g1, fun r hr => Ev.step (fun k => ?_) (g2 r hr)⟩
      simp only [spec_soCounts.l1]
      rw [if_pos (by omega), if_pos (by omega), if_pos (by omega), HV.out, if_pos c, HIN.out]
    · obtain ⟨next1, g1, g2⟩ := sc_l2 hK hn h20 h8 S sl si now (now.length : Int) i (by omega) (n + 1) 0 next (by omega) hp
      obtain ⟨next', k1, k2⟩ := ih (i + 1) next1 (by omega) g1
      refine ⟨next', k1, fun r hr => ?_⟩
      have h4 := g2 r (k2 r hr)
      have D1 := Aside0.mk (wsd i (by omega))
      have D2 := Aside0.mk (Int.tmod_one (i : Int))
      refine Ev.step (fun k => ?_) h4
      simp only [spec_soCounts.l1]
      rw [if_pos (by omega), if_pos (by omega), if_pos (by omega), HV.out, if_neg c, if_neg (by decide), D1.out, D2.out]
      rfl
end
/-- The walk over the colours. -/
theorem sc_l0 {K : Nat} (hK : K ≤ 200) (ns : List Nat) (h20 : ∀ n ∈ ns, n ≤ 20) (hl8 : ns.length ≤ 8) (e : Nat) : ∀ (i : Nat) (now : List Int), i + e = ns.length → Cn K (ns.take i) now →
    Ev (fun k => spec_soCounts.l0 k (K : Int) (-1) 1 now (toI ns) ((toI ns).length : Int) (i : Int)) (Nd ns (K : Int)) := by
  have hSl : (toI ns).length = ns.length := by simp [toI]
  induction e with
  | zero =>
    intro i now hi hc
    obtain rfl : i = ns.length := by omega
    have hv := hc.val K (Nat.le_refl _)
    rw [List.take_length] at hv
    have hlen := hc.len
    have hm := l1Most0
    have w := Aside0.mk (wsx K (by omega))
    refine Ev.step (f := fun _ => some (Nd ns (K : Int))) (fun k => ?_) (Ev.now _)
    simp only [spec_soCounts.l0]
    rw [if_neg (by omega), hm, Option.bind_some, w.out, if_pos (by omega), if_pos (by omega), hv]
  | succ e ih =>
    intro i now hi hc
    have hil : i < ns.length := by omega
    have HIN := Aside0.mk (ws1 i (by omega))
    have hrd : rd (toI ns) (i : Int) = ((ns[i] : Nat) : Int) := by simp [toI, rd, List.getD_eq_getElem?_getD, hil]
    have htk : ns.take i ++ [ns[i]] = ns.take (i + 1) := by rw [List.take_succ_eq_append_getElem hil]
    have hz : Pn K (ns.take i) ns[i] 0 0 (List.replicate (K + 1) 0) := by
      refine ⟨by simp, fun j hj => ?_⟩
      rw [rd_rep, if_neg (by omega)]
      rfl
    obtain ⟨next', g1, g2⟩ := sc_l1 hK (h20 _ (List.getElem_mem hil)) (by rw [htk]; exact fun x hx => h20 x (List.mem_of_mem_take hx)) (by rw [htk, List.length_take]; omega) (toI ns) ((toI ns).length : Int) (i : Int) now hc (K + 1) 0 _ (by omega) hz
    have hc2 : Cn K (ns.take (i + 1)) next' := by
      refine ⟨g1.len, fun j hj => ?_⟩
      rw [g1.val j hj, if_neg (by omega), Int.add_zero, ← htk, ← Nd_snoc _ _ K j hj]
      rfl
    have h3 := ih (i + 1) next' (by omega) hc2
    rw [← HIN.out] at h3
    have h4 := g2 _ h3
    have hlen := hc.len
    rw [← hlen] at h4
    refine Ev.step (fun k => ?_) h4
    simp only [spec_soCounts.l0]
    rw [if_pos (by omega), if_pos (by omega), if_pos (by omega), if_pos (by omega), if_pos (by omega), hrd, Int.toNat_natCast]
    rfl
theorem soCounts_ev (K : Nat) (hK : K ≤ 200) (ns : List Nat) (h20 : ∀ n ∈ ns, n ≤ 20) (hl8 : ns.length ≤ 8) : Ev (fun k => spec_soCounts.f k (toI ns) (K : Int) (-1)) (Nd ns (K : Int)) := by
  have hm := l1Most0
  have W2 := Aside0.mk (wsk K (by omega))
  have hs : Cn K (ns.take 0) ((List.replicate (K + 1) 0).set 0 1) := by
    refine ⟨by simp, fun j hj => ?_⟩
    rw [List.take_zero]
    by_cases c : j = 0
    · subst c
      rw [rd_set_same (by simp)]
      rfl
    · rw [rd_set_other c, rd_rep]
      unfold Nd
      simp only [T]
      rw [if_neg (by omega)]
  have h1 := sc_l0 hK ns h20 hl8 ns.length 0 _ (by omega) hs
  refine Ev.congr (fun k => ?_) h1
  simp only [spec_soCounts.f]
  rw [hm, Option.bind_some, ws0, W2.out, if_pos (by omega), if_pos (by omega), Int.toNat_natCast]
  rw [Option.bind_some, if_pos (by simp)]
  rfl
end Go.Proofs.Ytnikblimnjpmpaa.X

/- ==== XspecchWays ==== -/
namespace Go.Proofs.Ytnikblimnjpmpaa.X
open Go.RowKit Go.Proofs.YtnikblimnjpmpaaW.PrintWords Go.Proofs.YtnikblimnjpmpaaW.PrintLast Go.Proofs.YtnikblimnjpmpaaW.PrintMore
attribute [local go_sem] max2_int min2_int max_two min_two max_three min_three max_four min_four   -- for this text's walks alone
set_option linter.unusedVariables false
set_option linter.unusedSimpArgs false

/-! ### spec_chWays: function 66 -/
def spec_chWays.l0 : Nat → List Int → Int → List Int → Int → Int → Option (Int)
  | 0, _, _, _, _, _ => none
  | k + 1, x0, x5, x8, x9, x10 => if x10 < x9 then (if 0 ≤ x10 then (if x10 < (x8.length : Int) then (if x10 < (x0.length : Int) then ((spec_chChoose.f k (rd x0 x10) (rd x8 x10)).bind fun t398 => (spec_chWays.l0 k x0 (wrap64 (x5 * t398)) x8 x9 (wrap64 (x10 + 1)))) else (none)) else (none)) else (none)) else (some x5)
def spec_chWays.f (k : Nat) (l0 : List Int) (l1 : List Int) : Option (Int) := spec_chWays.l0 k l0 1 l1 (l1.length : Int) 0
theorem spec_chWays.mono_l : ∀ k, (∀ y0 y1 y2 y3 y4, LeO (spec_chWays.l0 k y0 y1 y2 y3 y4) (spec_chWays.l0 (k + 1) y0 y1 y2 y3 y4))
  | 0 => fun _ _ _ _ _ r h => by simp [spec_chWays.l0] at h
  | k + 1 => by
    have ih0 := spec_chWays.mono_l k
    · intro y0 y1 y2 y3 y4
      unfold spec_chWays.l0
      repeat' first
      | (with_reducible exact ih0 _ _ _ _ _)
      | (with_reducible exact spec_chChoose.mono _ _ _)
      | (with_reducible exact LeO.refl _)
      | (with_reducible exact LeO.none _)
      | (with_reducible refine LeO.ite ?_ ?_)
      | (with_reducible refine LeO.bind ?_ (fun _ => ?_))
      | exact ih0 _ _ _ _ _
      | exact spec_chChoose.mono _ _ _
      | exact LeO.none _
      | refine LeO.ite ?_ ?_
      | refine LeO.bind ?_ (fun _ => ?_)
theorem spec_chWays.mono : ∀ a0 a1 k, LeO (spec_chWays.f k a0 a1) (spec_chWays.f (k + 1) a0 a1) := by
  intro a0 a1 k
  have ih0 := spec_chWays.mono_l k
  unfold spec_chWays.f
  repeat' first
      | (with_reducible exact ih0 _ _ _ _ _)
      | (with_reducible exact spec_chChoose.mono _ _ _)
      | (with_reducible exact LeO.refl _)
      | (with_reducible exact LeO.none _)
      | (with_reducible refine LeO.ite ?_ ?_)
      | (with_reducible refine LeO.bind ?_ (fun _ => ?_))
      | exact ih0 _ _ _ _ _
      | exact spec_chChoose.mono _ _ _
      | exact LeO.none _
      | refine LeO.ite ?_ ?_
      | refine LeO.bind ?_ (fun _ => ?_)
set_option maxHeartbeats 8000000 in
set_option maxRecDepth 100000 in
theorem spec_chWays.calls (k : Nat) (A0 : Option Addr) (c0 : Nat) (l0 : List Int) (A1 : Option Addr) (c1 : Nat) (l1 : List Int) (r : Int) (w : World) (hr0 : Kd.C (Kd.int .i64) w A0 l0.length l0) (hc0 : l0.length ≤ c0) (hr1 : Kd.C (Kd.int .i64) w A1 l1.length l1) (hc1 : l1.length ≤ c1) (h : spec_chWays.f k l0 l1 = some r) :
    Calls Try.prog 66 #[.slice A0 l0.length c0, .slice A1 l1.length c1] w fun e w' => e = .returned (.int .i64 r) ∧ Drawn0 w w' := by
  have HR0 := Aside0.mk hr0
  have HC0 := Aside0.mk hc0
  clear hr0 hc0
  have HR1 := Aside0.mk hr1
  have HC1 := Aside0.mk hc1
  clear hr1 hc1
  have H : (spec_chWays.l0 k l0 1 l1 (l1.length : Int) 0) = some r := h
  clear h
  have H' := Aside0.mk H
  clear H
  go_enter Try.func66, Try.ntmps66
  go_wp2
  go_loopg [5, 10] k (fun kq v5 v10 w' => ∃ (x5_1 : Int) (x10_1 : Int), v5 = .int .i64 x5_1 ∧ v10 = .int .i64 x10_1 ∧ Aside0 (spec_chWays.l0 kq l0 x5_1 l1 (l1.length : Int) x10_1 = some r) ∧ Aside0 (kq ≤ k) ∧ Drawn0 w w')
  case atStart => exact ⟨(1), (0), (by first | rfl | (simp; done) | (simp [*]; done)), (by first | rfl | (simp; done) | (simp [*]; done)), H', ⟨Nat.le_refl _⟩, by repeat (first | exact Drawn0.refl _ | apply Drawn0.step)⟩
  case round =>
    clear H'
    try clear c1
    try clear p2
    obtain ⟨x5_1, x10_1, rfl, rfl, HA, HK1, ⟨m1, rfl⟩⟩ := hrel
    cases gk with
    | zero => exact absurd HA.out (by simp [spec_chWays.l0])
    | succ k1 =>
      have H := HA.out
      clear HA
      simp only [spec_chWays.l0] at H
      by_cases c3 : x10_1 < (l1.length : Int)
      · rw [if_pos c3] at H
        have c3b0 : decide (x10_1 < (l1.length : Int)) = true := decide_eq_true c3
        clear c3
        by_cases c4 : 0 ≤ x10_1
        · rw [if_pos c4] at H
          have c4b0 : decide (0 ≤ x10_1) = true := decide_eq_true c4
          clear c4
          by_cases c5 : x10_1 < (l1.length : Int)
          · rw [if_pos c5] at H
            have c5b0 : decide (x10_1 < (l1.length : Int)) = true := decide_eq_true c5
            clear c5
            by_cases c6 : x10_1 < (l0.length : Int)
            · rw [if_pos c6] at H
              have c6b0 : decide (x10_1 < (l0.length : Int)) = true := decide_eq_true c6
              clear c6
              replace H := Option.bind_eq_some_iff.mp H
              obtain ⟨t398, A70, H⟩ := H
              replace H : (spec_chWays.l0 k1 l0 (wrap64 (x5_1 * t398)) l1 (l1.length : Int) (wrap64 (x10_1 + 1))) = some r := H
              have A7 := Aside0.mk A70
              clear A70
              have H' := Aside0.mk H
              clear H
              have p396 : 0 ≤ (x10_1 : Int) := of_decide_eq_true (by first | (with_reducible assumption) | assumption)
              have q396 : x10_1 < (l1.length : Int) := of_decide_eq_true (by first | (with_reducible assumption) | assumption)
              obtain ⟨ad396, e396, hx396_0⟩ := Kd.at_int HR1.out x10_1 p396 q396
              cases e396
              replace p396 := eq_true p396
              replace q396 := eq_true q396
              have p397 : 0 ≤ (x10_1 : Int) := of_decide_eq_true (by first | (with_reducible assumption) | assumption)
              have q397 : x10_1 < (l0.length : Int) := of_decide_eq_true (by first | (with_reducible assumption) | assumption)
              obtain ⟨ad397, e397, hx397_0⟩ := Kd.at_int HR0.out x10_1 p397 q397
              cases e397
              replace p397 := eq_true p397
              replace q397 := eq_true q397
              go_wp2_with (first | ((with_reducible refine gate_callee (f := 35) rfl ?_); refine goesL_ (some 21) rfl rfl Try.func35 (by kernel_rfl) rfl #[.int .i64 (rd l0 x10_1), .int .i64 (rd l1 x10_1)] rfl (by (try simp only [List.map_toArray, List.map_cons, List.map_nil]); first | done | rfl | (simp only [List.length_drop, List.length_take]; rfl)) ?_; (with_reducible refine (spec_chChoose.calls k1 (rd l0 x10_1) (rd l1 x10_1) t398 _ A7.out).mono ?_); rintro e w' ⟨rfl, ⟨nd, rfl⟩⟩; refine ⟨_, rfl, ?_⟩))
              go_roundg k1
              case measure => have := HK1.out; omega
              case rel => exact ⟨(wrap64 (x5_1 * t398)), (wrap64 (x10_1 + 1)), (by first | rfl | (simp; done) | (simp [*]; done)), (by first | rfl | (simp; done) | (simp [*]; done)), H', ⟨by have := HK1.out; omega⟩, by repeat (first | exact Drawn0.refl _ | apply Drawn0.step)⟩
            · rw [if_neg c6] at H
              exact absurd H (by simp)
          · rw [if_neg c5] at H
            exact absurd H (by simp)
        · rw [if_neg c4] at H
          exact absurd H (by simp)
      · rw [if_neg c3] at H
        have c3b0 : decide (x10_1 < (l1.length : Int)) = false := decide_eq_false c3
        clear c3
        obtain rfl := Option.some.inj H
        go_wp2
        go_ret
        exact ⟨by first | rfl | (simp; done) | (simp [*]; done), by repeat (first | exact Drawn0.refl _ | apply Drawn0.step)⟩

end Go.Proofs.Ytnikblimnjpmpaa.X

/- ==== Xspecl1Own ==== -/
namespace Go.Proofs.Ytnikblimnjpmpaa.X
open Go.RowKit Go.Proofs.YtnikblimnjpmpaaW.PrintWords Go.Proofs.YtnikblimnjpmpaaW.PrintLast Go.Proofs.YtnikblimnjpmpaaW.PrintMore
attribute [local go_sem] max2_int min2_int max_two min_two max_three min_three max_four min_four   -- for this text's walks alone
set_option linter.unusedVariables false
set_option linter.unusedSimpArgs false

/-! ### spec_l1Own: function 65 -/
def spec_l1Own.f (l0 : List Int) : Option (List Int) := (some (([] : List Int) : List Int)).bind fun y390 => (if y390.length + l0.length < 17592186044416 then (some (y390 ++ l0)) else (none))
set_option maxHeartbeats 8000000 in
set_option maxRecDepth 100000 in
theorem spec_l1Own.calls (A0 : Option Addr) (c0 : Nat) (l0 : List Int) (r : List Int) (w : World) (hr0 : Kd.C (Kd.int .i64) w A0 l0.length l0) (hc0 : l0.length ≤ c0) (h : spec_l1Own.f l0 = some r) :
    Calls Try.prog 65 #[.slice A0 l0.length c0] w fun e w' => ∃ v0_ : Value, e = .returned (v0_) ∧ Kd.R (Kd.int .i64) 3 w' w.heap.size (fun _ => True) v0_ r ∧ Below w.heap.size w w' := by
  have HR0 := Aside0.mk hr0
  have HC0 := Aside0.mk hc0
  clear hr0 hc0
  have HB := Aside0.mk (Below.refl w.heap.size w)
  have H : ((some (([] : List Int) : List Int)).bind fun y390 => (if y390.length + l0.length < 17592186044416 then (some (y390 ++ l0)) else (none))) = some r := h
  clear h
  obtain ⟨y390, hy390⟩ : ∃ y_ : List Int, y_ = (([] : List Int)) := ⟨_, rfl⟩
  replace H : (if y390.length + l0.length < 17592186044416 then (some (y390 ++ l0)) else (none)) = some r := by first | (rw [hy390]; with_reducible exact H) | (have H2_ := (Option.bind_some _ _).symm.trans H; rw [hy390]; with_reducible exact H2_) | (have H2_ := (Option.bind_some _ _).symm.trans H; with_reducible exact H2_) | with_reducible exact H | (rw [hy390]; exact H) | exact H
  have Ny390 := Aside0.mk hy390
  clear hy390
  by_cases c2 : y390.length + l0.length < 17592186044416
  · rw [if_pos c2] at H
    have LMc2 := Aside0.mk c2
    clear c2
    obtain ⟨y393, hy393⟩ : ∃ y_ : List Int, y_ = (y390 ++ l0) := ⟨_, rfl⟩
    replace H : (some y393) = some r := by first | (rw [hy393]; with_reducible exact H) | (have H2_ := (Option.bind_some _ _).symm.trans H; rw [hy393]; with_reducible exact H2_) | (have H2_ := (Option.bind_some _ _).symm.trans H; with_reducible exact H2_) | with_reducible exact H | (rw [hy393]; exact H) | exact H
    have Ny393 := Aside0.mk hy393
    clear hy393
    obtain rfl := Option.some.inj H
    go_enter Try.func65, Try.ntmps65
    go_wp2_with (first | ((with_reducible refine gate_dst (N := 3) rfl ?_); refine Kd.R_lit (Kd.int .i64) _ 3 ?hg (N := 3) ?hd (xs := ([] : List Int)) (inner := []) (ok := fun _ => True) (okp := fun _ => True) ?hr ?hp (fun _ hk => hk) trivial (Below.refl _ _) (Nat.le_refl _) (by simp) ?_; (case hd => rfl); (case hg => rfl); (case hr => first | (go_simp; done) | (go_simp; rfl)); (case hp => exact (Reps.none _ _)); intro v391 w3 ho4 hb hg_ hnew_; clear hg_ hnew_; (first | rw [← Ny390.out] at ho4 | (simp only [Int.reduceToNat] at ho4; rw [← Ny390.out] at ho4)); have n0_ := Aside0.mk (Kd.R_lower ho4 (below_size (by repeat (first | (with_reducible first | exact HB.out | apply below_alloc | apply pw_below_drewN | apply below_drew1) | exact HB.out)))); have n1_ := Aside0.mk (below_step (by repeat (first | (with_reducible first | exact HB.out | apply below_alloc | apply pw_below_drewN | apply below_drew1) | exact HB.out)) hb); clear HB; have HO392 := n0_; have HB := n1_; clear n0_ n1_; clear hb ho4) | ((with_reducible refine gate_builtin (b := .append) (xs := #[.tmp 3, .tmp 4]) rfl ?_); at_builtin; refine Kd.R_append_rows (Kd.int .i64) (w0 := w) w.heap.size rfl (.tmp 3) (.tmp 4) 22 3 (.int .i64 0) 8 rfl Try.underlying22 info3 rfl (by decide) (by omega) v391 y390 l0 _ _ _ (fun _ => True) (fun _ => False) rfl rfl ?aO ?aR (fun _ _ h => h) (fun _ h => h.elim) ?aF ?aB ?aS ?aL ?_; (case aR => repeat (first | exact (Kd.C_below HR0.out HB.out) | (with_reducible refine Kd.C_alloc ?_ _) | (with_reducible refine Kd.C_drewN ?_ _) | (with_reducible refine Kd.C_drew ?_))); (case aB => exact (by repeat (first | (with_reducible first | exact HB.out | apply below_alloc | apply pw_below_drewN | apply below_drew1) | exact HB.out))); (case aF => exact (fun _ _ => trivial)); (case aO => exact (by (with_reducible repeat (first | apply Kd.R_alloc | apply Kd.R_drewN | apply Kd.R_drew)); exact HO392.out)); (case aS => exact (below_size (by repeat (first | (with_reducible first | exact HB.out | apply below_alloc | apply pw_below_drewN | apply below_drew1) | exact HB.out)))); (case aL => have := LMc2.out; omega); intro v394 w5 ho hb hg hat; rw [← Ny393.out] at ho; have n0_ := Aside0.mk (hb); have n1_ := Aside0.mk (ho); clear HB; clear HO392; have HB := n0_; have HO395 := n1_; clear n0_ n1_; clear ho hb hg hat))
    go_ret
    exact ⟨_, by first | rfl | (simp [errW_none, errW_some] <;> rfl) | (simp [*, errW_none, errW_some] <;> rfl), by (with_reducible repeat (first | apply Kd.R_alloc | apply Kd.R_drewN | apply Kd.R_drew)); exact HO395.out, by repeat (first | (with_reducible first | exact HB.out | apply below_alloc | apply pw_below_drewN | apply below_drew1) | exact HB.out)⟩
  · rw [if_neg c2] at H
    exact absurd H (by simp)

end Go.Proofs.Ytnikblimnjpmpaa.X

/- ==== XspecchBest ==== -/
namespace Go.Proofs.Ytnikblimnjpmpaa.X
open Go.RowKit Go.Proofs.YtnikblimnjpmpaaW.PrintWords Go.Proofs.YtnikblimnjpmpaaW.PrintLast Go.Proofs.YtnikblimnjpmpaaW.PrintMore
attribute [local go_sem] max2_int min2_int max_two min_two max_three min_three max_four min_four   -- for this text's walks alone
set_option linter.unusedVariables false
set_option linter.unusedSimpArgs false

/-! ### spec_chBest: function 53 -/
mutual
def spec_chBest.l0 : Nat → List Int → List Int → Int → Int → List Int → Int → Int → Option (List Int × Int)
  | 0, _, _, _, _, _, _, _ => none
  | k + 1, x0, x1, x2, x8, x9, x10, x11 => if 0 ≤ x8 then (if x8 < (x0.length : Int) then (if x11 ≤ (rd x0 x8) then (spec_chBest.j1 k x0 x1 x2 x8 x9 x10 x11 (decide (x11 ≤ x2))) else (spec_chBest.j1 k x0 x1 x2 x8 x9 x10 x11 false)) else (none)) else (none)
def spec_chBest.j1 : Nat → List Int → List Int → Int → Int → List Int → Int → Int → Bool → Option (List Int × Int)
  | 0, _, _, _, _, _, _, _, _ => none
  | k + 1, x0, x1, x2, x8, x9, x10, x11, x35 => if x35 = true then (if 0 ≤ (wrap64 (x8 + 1)) then (if (wrap64 (x8 + 1)) ≤ (x0.length : Int) then ((spec_soSum.f k (x0.drop ((wrap64 (x8 + 1)) : Int).toNat)).bind fun t405 => (if (wrap64 (x2 - x11)) > t405 then (spec_chBest.l0 k x0 x1 x2 x8 x9 x10 (wrap64 (x11 + 1))) else ((spec_l1Own.f x1).bind fun t406 => (if t406.length < 17592186044416 then ((spec_chBest.f k x0 (t406 ++ [x11]) (wrap64 (x2 - x11))).bind fun bt412 => (if bt412.2 > x10 then (spec_chBest.l0 k x0 x1 x2 x8 bt412.1 bt412.2 (wrap64 (x11 + 1))) else (spec_chBest.l0 k x0 x1 x2 x8 x9 x10 (wrap64 (x11 + 1))))) else (none))))) else (none)) else (none)) else (some (x9, x10))
def spec_chBest.f : Nat → List Int → List Int → Int → Option (List Int × Int)
  | 0, _, _, _ => none
  | k + 1, l0, l1, a2 => if (l1.length : Int) = (l0.length : Int) then ((spec_l1Own.f l1).bind fun t399 => ((spec_chWays.f k l0 l1).bind fun t402 => (some (t399, t402)))) else (spec_chBest.l0 k l0 l1 a2 (l1.length : Int) ([] : List Int) 0 0)
end
theorem spec_chBest.mono_l : ∀ k, (∀ y0 y1 y2, LeO (spec_chBest.f k y0 y1 y2) (spec_chBest.f (k + 1) y0 y1 y2)) ∧ (∀ y0 y1 y2 y3 y4 y5 y6, LeO (spec_chBest.l0 k y0 y1 y2 y3 y4 y5 y6) (spec_chBest.l0 (k + 1) y0 y1 y2 y3 y4 y5 y6)) ∧ (∀ y0 y1 y2 y3 y4 y5 y6 y7, LeO (spec_chBest.j1 k y0 y1 y2 y3 y4 y5 y6 y7) (spec_chBest.j1 (k + 1) y0 y1 y2 y3 y4 y5 y6 y7))
  | 0 => ⟨fun _ _ _ r h => by simp [spec_chBest.f] at h, fun _ _ _ _ _ _ _ r h => by simp [spec_chBest.l0] at h, fun _ _ _ _ _ _ _ _ r h => by simp [spec_chBest.j1] at h⟩
  | k + 1 => by
    obtain ⟨ih0, ih1, ih2⟩ := spec_chBest.mono_l k
    refine ⟨?_, ?_, ?_⟩
    · intro y0 y1 y2
      unfold spec_chBest.f
      repeat' first
      | (with_reducible exact ih0 _ _ _)
      | (with_reducible exact ih1 _ _ _ _ _ _ _)
      | (with_reducible exact ih2 _ _ _ _ _ _ _ _)
      | (with_reducible exact spec_chWays.mono _ _ _)
      | (with_reducible exact spec_soSum.mono _ _)
      | (with_reducible exact LeO.refl _)
      | (with_reducible exact LeO.none _)
      | (with_reducible refine LeO.ite ?_ ?_)
      | (with_reducible refine LeO.bind ?_ (fun _ => ?_))
      | exact ih0 _ _ _
      | exact ih1 _ _ _ _ _ _ _
      | exact ih2 _ _ _ _ _ _ _ _
      | exact spec_chWays.mono _ _ _
      | exact spec_soSum.mono _ _
      | exact LeO.none _
      | refine LeO.ite ?_ ?_
      | refine LeO.bind ?_ (fun _ => ?_)
    · intro y0 y1 y2 y3 y4 y5 y6
      unfold spec_chBest.l0
      repeat' first
      | (with_reducible exact ih0 _ _ _)
      | (with_reducible exact ih1 _ _ _ _ _ _ _)
      | (with_reducible exact ih2 _ _ _ _ _ _ _ _)
      | (with_reducible exact spec_chWays.mono _ _ _)
      | (with_reducible exact spec_soSum.mono _ _)
      | (with_reducible exact LeO.refl _)
      | (with_reducible exact LeO.none _)
      | (with_reducible refine LeO.ite ?_ ?_)
      | (with_reducible refine LeO.bind ?_ (fun _ => ?_))
      | exact ih0 _ _ _
      | exact ih1 _ _ _ _ _ _ _
      | exact ih2 _ _ _ _ _ _ _ _
      | exact spec_chWays.mono _ _ _
      | exact spec_soSum.mono _ _
      | exact LeO.none _
      | refine LeO.ite ?_ ?_
      | refine LeO.bind ?_ (fun _ => ?_)
    · intro y0 y1 y2 y3 y4 y5 y6 y7
      unfold spec_chBest.j1
      repeat' first
      | (with_reducible exact ih0 _ _ _)
      | (with_reducible exact ih1 _ _ _ _ _ _ _)
      | (with_reducible exact ih2 _ _ _ _ _ _ _ _)
      | (with_reducible exact spec_chWays.mono _ _ _)
      | (with_reducible exact spec_soSum.mono _ _)
      | (with_reducible exact LeO.refl _)
      | (with_reducible exact LeO.none _)
      | (with_reducible refine LeO.ite ?_ ?_)
      | (with_reducible refine LeO.bind ?_ (fun _ => ?_))
      | exact ih0 _ _ _
      | exact ih1 _ _ _ _ _ _ _
      | exact ih2 _ _ _ _ _ _ _ _
      | exact spec_chWays.mono _ _ _
      | exact spec_soSum.mono _ _
      | exact LeO.none _
      | refine LeO.ite ?_ ?_
      | refine LeO.bind ?_ (fun _ => ?_)
theorem spec_chBest.mono : ∀ a0 a1 a2 k, LeO (spec_chBest.f k a0 a1 a2) (spec_chBest.f (k + 1) a0 a1 a2) := by
  intro a0 a1 a2 k
  obtain ⟨ih0, ih1, ih2⟩ := spec_chBest.mono_l k
  exact ih0 a0 a1 a2
set_option maxHeartbeats 8000000 in
set_option maxRecDepth 100000 in
theorem spec_chBest.calls (k : Nat) : ∀ (A0 : Option Addr) (c0 : Nat) (l0 : List Int) (A1 : Option Addr) (c1 : Nat) (l1 : List Int) (a2 : Int) (r1 : List Int) (r2 : Int) (w : World) (hr0 : Kd.C (Kd.int .i64) w A0 l0.length l0) (hc0 : l0.length ≤ c0) (hr1 : Kd.C (Kd.int .i64) w A1 l1.length l1) (hc1 : l1.length ≤ c1) (h : spec_chBest.f k l0 l1 a2 = some (r1, r2)),
    Calls Try.prog 53 #[.slice A0 l0.length c0, .slice A1 l1.length c1, .int .i64 a2] w fun e w' => ∃ v0_ : Value, e = .returned (.tuple #[v0_, .int .i64 r2]) ∧ Kd.R (Kd.int .i64) 3 w' w.heap.size (fun _ => True) v0_ r1 ∧ Below w.heap.size w w' := by
  induction k using Nat.strongRecOn with
  | _ k ih =>
  intro A0 c0 l0 A1 c1 l1 a2 r1 r2 w hr0 hc0 hr1 hc1 h
  cases k with
  | zero => exact absurd h (by simp [spec_chBest.f])
  | succ k =>
  simp only [spec_chBest.f] at h
  have HR0 := Aside0.mk hr0
  have HC0 := Aside0.mk hc0
  clear hr0 hc0
  have HR1 := Aside0.mk hr1
  have HC1 := Aside0.mk hc1
  clear hr1 hc1
  have HB := Aside0.mk (Below.refl w.heap.size w)
  have H : (if (l1.length : Int) = (l0.length : Int) then ((spec_l1Own.f l1).bind fun t399 => ((spec_chWays.f k l0 l1).bind fun t402 => (some (t399, t402)))) else (spec_chBest.l0 k l0 l1 a2 (l1.length : Int) ([] : List Int) 0 0)) = some (r1, r2) := h
  clear h
  by_cases c4 : (l1.length : Int) = (l0.length : Int)
  · rw [if_pos c4] at H
    have c4b0 : ((l1.length : Int) == (l0.length : Int)) = true := beq_iff_eq.mpr c4
    have c4b1 : ((l1.length : Int) != (l0.length : Int)) = false := bne_eq_false_iff_eq.mpr c4
    have c4b2 : (l1.length == l0.length) = true := by first | simpa using c4 | (simp at c4 ⊢; omega)
    clear c4
    replace H := Option.bind_eq_some_iff.mp H
    obtain ⟨t399, A50, H⟩ := H
    replace H : ((spec_chWays.f k l0 l1).bind fun t402 => (some (t399, t402))) = some (r1, r2) := H
    have A5 := Aside0.mk A50
    clear A50
    replace H := Option.bind_eq_some_iff.mp H
    obtain ⟨t402, A60, H⟩ := H
    replace H : (some (t399, t402)) = some (r1, r2) := H
    have A6 := Aside0.mk A60
    clear A60
    simp only [Option.some.injEq, Prod.mk.injEq] at H
    obtain ⟨rfl, rfl⟩ := H
    go_enter Try.func53, Try.ntmps53
    go_wp2_with (first | ((with_reducible refine gate_callee (f := 65) rfl ?_); refine goesL_ (some 21) rfl rfl Try.func65 (by kernel_rfl) rfl #[.slice A1 l1.length c1] rfl (by (try simp only [List.map_toArray, List.map_cons, List.map_nil]); first | done | rfl | (simp only [List.length_drop, List.length_take]; rfl)) ?_; (with_reducible refine (spec_l1Own.calls _ _ l1 t399 _ ?side1 ?side2 A5.out).mono ?_); (case side1 => repeat (first | exact HR1.out | (with_reducible refine Kd.C_alloc ?_ _) | (with_reducible refine Kd.C_drewN ?_ _) | (with_reducible refine Kd.C_drew ?_))); (case side2 => exact HC1.out); rintro e w7 ⟨v400, rfl, ho0, hb⟩; refine ⟨_, rfl, ?_⟩; have n0_ := Aside0.mk (Kd.R_lower ho0 (below_size (by repeat (first | (with_reducible first | exact HB.out | apply below_alloc | apply pw_below_drewN | apply below_drew1) | exact HB.out)))); have n1_ := Aside0.mk (below_step (by repeat (first | (with_reducible first | exact HB.out | apply below_alloc | apply pw_below_drewN | apply below_drew1) | exact HB.out)) hb); clear HB; have HO401 := n0_; have HB := n1_; clear n0_ n1_; (try clear hb); (try clear hb2); (try clear hk); (try clear hi); (try clear ho0)) | ((with_reducible refine gate_callee (f := 66) rfl ?_); refine goesL_ (some 24) rfl rfl Try.func66 (by kernel_rfl) rfl #[.slice A0 l0.length c0, .slice A1 l1.length c1] rfl (by (try simp only [List.map_toArray, List.map_cons, List.map_nil]); first | done | rfl | (simp only [List.length_drop, List.length_take]; rfl)) ?_; (with_reducible refine (spec_chWays.calls k _ _ l0 _ _ l1 t402 _ ?side1 ?side2 ?side3 ?side4 A6.out).mono ?_); (case side1 => repeat (first | exact (Kd.C_below HR0.out HB.out) | (with_reducible refine Kd.C_alloc ?_ _) | (with_reducible refine Kd.C_drewN ?_ _) | (with_reducible refine Kd.C_drew ?_))); (case side2 => exact HC0.out); (case side3 => repeat (first | exact (Kd.C_below HR1.out HB.out) | (with_reducible refine Kd.C_alloc ?_ _) | (with_reducible refine Kd.C_drewN ?_ _) | (with_reducible refine Kd.C_drew ?_))); (case side4 => exact HC1.out); rintro e w' ⟨rfl, ⟨nd, rfl⟩⟩; refine ⟨_, rfl, ?_⟩))
    go_ret2
    exact ⟨_, by first | rfl | (simp [errW_none, errW_some] <;> rfl) | (simp [*, errW_none, errW_some] <;> rfl), by (with_reducible repeat (first | apply Kd.R_alloc | apply Kd.R_drewN | apply Kd.R_drew)); exact HO401.out, by repeat (first | (with_reducible first | exact HB.out | apply below_alloc | apply pw_below_drewN | apply below_drew1) | exact HB.out)⟩
  · rw [if_neg c4] at H
    have c4b0 : ((l1.length : Int) == (l0.length : Int)) = false := beq_eq_false_iff_ne.mpr c4
    have c4b1 : ((l1.length : Int) != (l0.length : Int)) = true := bne_iff_ne.mpr c4
    have c4b2 : (l1.length == l0.length) = false := by first | simpa using c4 | (simp at c4 ⊢; omega)
    have H' := Aside0.mk H
    clear H
    go_enter Try.func53, Try.ntmps53
    go_wp2
    go_loopg [9, 10, 11] k (fun kq v9 v10 v11 w' => ∃ (x9_1 : List Int) (x10_1 : Int) (x11_1 : Int), v10 = .int .i64 x10_1 ∧ v11 = .int .i64 x11_1 ∧ Aside0 (spec_chBest.l0 kq l0 l1 a2 (l1.length : Int) x9_1 x10_1 x11_1 = some (r1, r2)) ∧ Aside0 (kq ≤ k) ∧ Aside0 (Kd.R (Kd.int .i64) 3 w' w.heap.size (fun _ => True) v9 x9_1) ∧ Aside0 (Below w.heap.size w w'))
    case atStart => exact ⟨(([] : List Int)), (0), (0), (by first | rfl | (simp; done) | (simp [*]; done)), (by first | rfl | (simp; done) | (simp [*]; done)), H', ⟨Nat.le_refl _⟩, ⟨by first | exact Kd.R_nil _ _ _ _ _ | exact Kd.N_nil _ _ _ _ _ | exact Kd.V_nil _ _ _ _ _ | exact Kd.Q_nil _ _ _ _ _ | exact Kd.S_nil _ _ _ _ _⟩, ⟨by repeat (first | (with_reducible first | exact HB.out | apply below_alloc | apply pw_below_drewN | apply below_drew1) | exact HB.out)⟩⟩
    case round =>
      clear H'
      try clear c1
      try clear p2
      try clear c4
      try clear c4b0
      try clear c4b1
      try clear c4b2
      try clear c5
      try clear c6
      obtain ⟨x9_1, x10_1, x11_1, rfl, rfl, HA, HK1, HO_9, HB⟩ := hrel
      cases gk with
      | zero => exact absurd HA.out (by simp [spec_chBest.l0])
      | succ k1 =>
        have H := HA.out
        clear HA
        simp only [spec_chBest.l0] at H
        have HC8 := Aside0.mk H
        clear H
        go_upto_region 7 with (fail)
        go_cut [35] (fun v35 wc => ∃ (kq : Nat) (x35_7 : Bool), v35 = .bool x35_7 ∧ Aside0 (spec_chBest.j1 kq l0 l1 a2 (l1.length : Int) x9_1 x10_1 x11_1 x35_7 = some (r1, r2)) ∧ Aside0 (kq ≤ k1) ∧ Aside0 (Kd.R (Kd.int .i64) 3 wc w.heap.size (fun _ => True) u9 x9_1) ∧ Aside0 (Below w.heap.size w wc))
        case first =>
          have H := HC8.out
          clear HC8
          by_cases c9 : 0 ≤ (l1.length : Int)
          · rw [if_pos c9] at H
            have c9b0 : decide (0 ≤ (l1.length : Int)) = true := decide_eq_true c9
            have c9b1 : decide (0 ≤ l1.length) = true := decide_eq_true (by omega)
            clear c9
            (first | rw [c9b0] | (simp only [i64_w, i32_w]; rw [c9b0]) | skip)
            by_cases c10 : (l1.length : Int) < (l0.length : Int)
            · rw [if_pos c10] at H
              have c10b0 : decide ((l1.length : Int) < (l0.length : Int)) = true := decide_eq_true c10
              have c10b1 : decide (l1.length < l0.length) = true := decide_eq_true (Int.ofNat_lt.mp c10)
              clear c10
              by_cases c11 : x11_1 ≤ (rd l0 (l1.length : Int))
              · rw [if_pos c11] at H
                have c11b0 : decide (x11_1 ≤ (rd l0 (l1.length : Int))) = true := decide_eq_true c11
                clear c11
                have H' := Aside0.mk H
                clear H
                have p403 : 0 ≤ ((l1.length : Int) : Int) := of_decide_eq_true (by first | (with_reducible assumption) | assumption)
                have q403 : (l1.length : Int) < (l0.length : Int) := of_decide_eq_true (by first | (with_reducible assumption) | assumption)
                obtain ⟨ad403, e403, hx403_0⟩ := Kd.at_int HR0.out (l1.length : Int) p403 q403
                cases e403
                replace hx403_0 := (HB.out.cell (World.block_lt_of_cell? w _ hx403_0)).trans hx403_0
                (try simp only [Go.IntWalk.toNatUp] at hx403_0)
                replace p403 := eq_true p403
                replace q403 := eq_true q403
                go_wp2
                go_meet
                case rel => exact ⟨_, (decide (x11_1 ≤ a2)), (by first | rfl | (simp; done) | (simp [*]; done)), H', ⟨by have := HK1.out; first | omega | exact Nat.le_refl _⟩, ⟨by (with_reducible repeat (first | apply Kd.R_alloc | apply Kd.R_drewN | apply Kd.R_drew)); exact HO_9.out⟩, ⟨by repeat (first | (with_reducible first | exact HB.out | apply below_alloc | apply pw_below_drewN | apply below_drew1) | exact HB.out)⟩⟩
              · rw [if_neg c11] at H
                have c11b0 : decide (x11_1 ≤ (rd l0 (l1.length : Int))) = false := decide_eq_false c11
                clear c11
                have H' := Aside0.mk H
                clear H
                have p403 : 0 ≤ ((l1.length : Int) : Int) := of_decide_eq_true (by first | (with_reducible assumption) | assumption)
                have q403 : (l1.length : Int) < (l0.length : Int) := of_decide_eq_true (by first | (with_reducible assumption) | assumption)
                obtain ⟨ad403, e403, hx403_0⟩ := Kd.at_int HR0.out (l1.length : Int) p403 q403
                cases e403
                replace hx403_0 := (HB.out.cell (World.block_lt_of_cell? w _ hx403_0)).trans hx403_0
                (try simp only [Go.IntWalk.toNatUp] at hx403_0)
                replace p403 := eq_true p403
                replace q403 := eq_true q403
                go_wp2
                go_meet
                case rel => exact ⟨_, (false), (by first | rfl | (simp; done) | (simp [*]; done)), H', ⟨by have := HK1.out; first | omega | exact Nat.le_refl _⟩, ⟨by (with_reducible repeat (first | apply Kd.R_alloc | apply Kd.R_drewN | apply Kd.R_drew)); exact HO_9.out⟩, ⟨by repeat (first | (with_reducible first | exact HB.out | apply below_alloc | apply pw_below_drewN | apply below_drew1) | exact HB.out)⟩⟩
            · rw [if_neg c10] at H
              exact absurd H (by simp)
          · rw [if_neg c9] at H
            exact absurd H (by simp)
        case rest =>
          clear HC8
          try clear c1
          try clear p2
          try clear c4
          try clear c4b0
          try clear c4b1
          try clear c4b2
          try clear p4
          try clear q4
          try clear hx4
          try clear c5
          try clear c6
          try clear c9
          try clear c9b0
          try clear c9b1
          try clear c10
          try clear c10b0
          try clear c10b1
          try clear c11
          try clear c11b0
          try clear hx403_0
          try clear p2
          try clear p403
          try clear q403
          obtain ⟨kq, x35_7, rfl, HA, HJ7, HO_9, HB⟩ := hcut
          cases kq with
          | zero => exact absurd HA.out (by simp [spec_chBest.j1])
          | succ kj7 =>
            have H := HA.out
            clear HA
            simp only [spec_chBest.j1] at H
            by_cases c12 : x35_7 = true
            · subst c12
              have H1 : (if 0 ≤ (wrap64 ((l1.length : Int) + 1)) then (if (wrap64 ((l1.length : Int) + 1)) ≤ (l0.length : Int) then ((spec_soSum.f kj7 (l0.drop ((wrap64 ((l1.length : Int) + 1)) : Int).toNat)).bind fun t405 => (if (wrap64 (a2 - x11_1)) > t405 then (spec_chBest.l0 kj7 l0 l1 a2 (l1.length : Int) x9_1 x10_1 (wrap64 (x11_1 + 1))) else ((spec_l1Own.f l1).bind fun t406 => (if t406.length < 17592186044416 then ((spec_chBest.f kj7 l0 (t406 ++ [x11_1]) (wrap64 (a2 - x11_1))).bind fun bt412 => (if bt412.2 > x10_1 then (spec_chBest.l0 kj7 l0 l1 a2 (l1.length : Int) bt412.1 bt412.2 (wrap64 (x11_1 + 1))) else (spec_chBest.l0 kj7 l0 l1 a2 (l1.length : Int) x9_1 x10_1 (wrap64 (x11_1 + 1))))) else (none))))) else (none)) else (none)) = some (r1, r2) := by rw [if_pos rfl] at H; exact H
              clear H
              have H := H1
              clear H1
              obtain ⟨ji13, hji13⟩ : ∃ j_ : Int, (wrap64 ((l1.length : Int) + 1)) = j_ := ⟨_, rfl⟩
              replace H : (if 0 ≤ (ji13) then (if (ji13) ≤ (l0.length : Int) then ((spec_soSum.f kj7 (l0.drop ((ji13) : Int).toNat)).bind fun t405 => (if (wrap64 (a2 - x11_1)) > t405 then (spec_chBest.l0 kj7 l0 l1 a2 (l1.length : Int) x9_1 x10_1 (wrap64 (x11_1 + 1))) else ((spec_l1Own.f l1).bind fun t406 => (if t406.length < 17592186044416 then ((spec_chBest.f kj7 l0 (t406 ++ [x11_1]) (wrap64 (a2 - x11_1))).bind fun bt412 => (if bt412.2 > x10_1 then (spec_chBest.l0 kj7 l0 l1 a2 (l1.length : Int) bt412.1 bt412.2 (wrap64 (x11_1 + 1))) else (spec_chBest.l0 kj7 l0 l1 a2 (l1.length : Int) x9_1 x10_1 (wrap64 (x11_1 + 1))))) else (none))))) else (none)) else (none)) = some (r1, r2) := by first | (rw [hji13] at H; exact H) | (simp only [hji13] at H ⊢; exact H)
              have hji13w : (IntKind.i64.wrap ((l1.length : Int) + 1)) = ji13 := (i64_w _).trans hji13
              by_cases c14 : 0 ≤ (ji13)
              · rw [if_pos c14] at H
                have c14b0 := eq_true c14
                have c14b1 : decide (0 ≤ (ji13)) = true := decide_eq_true c14
                clear c14
                by_cases c15 : (ji13) ≤ (l0.length : Int)
                · rw [if_pos c15] at H
                  have c15b0 := eq_true c15
                  have c15b1 : decide ((ji13) ≤ (l0.length : Int)) = true := decide_eq_true c15
                  clear c15
                  replace H := Option.bind_eq_some_iff.mp H
                  obtain ⟨t405, A160, H⟩ := H
                  replace H : (if (wrap64 (a2 - x11_1)) > t405 then (spec_chBest.l0 kj7 l0 l1 a2 (l1.length : Int) x9_1 x10_1 (wrap64 (x11_1 + 1))) else ((spec_l1Own.f l1).bind fun t406 => (if t406.length < 17592186044416 then ((spec_chBest.f kj7 l0 (t406 ++ [x11_1]) (wrap64 (a2 - x11_1))).bind fun bt412 => (if bt412.2 > x10_1 then (spec_chBest.l0 kj7 l0 l1 a2 (l1.length : Int) bt412.1 bt412.2 (wrap64 (x11_1 + 1))) else (spec_chBest.l0 kj7 l0 l1 a2 (l1.length : Int) x9_1 x10_1 (wrap64 (x11_1 + 1))))) else (none)))) = some (r1, r2) := H
                  have A16 := Aside0.mk A160
                  clear A160
                  by_cases c17 : (wrap64 (a2 - x11_1)) > t405
                  · rw [if_pos c17] at H
                    have c17b0 : decide (t405 < (wrap64 (a2 - x11_1))) = true := decide_eq_true c17
                    clear c17
                    have H' := Aside0.mk H
                    clear H
                    obtain ⟨i018, hi018, _, hsz18, _⟩ := info_parts info3
                    obtain ⟨A18, hcut18, hA18, hC18⟩ := print_drop_of (P := Try.prog) (Value.int .i64) 0 22 3 .i64 Try.underlying22 hi018 hsz18 A0 c0 l0 (ji13) (of_decide_eq_true (by first | (with_reducible assumption) | assumption)) (of_decide_eq_true (by first | (with_reducible assumption) | assumption)) HC0.out
                    have HR404 := Aside0.mk (Kd.C_of_reads (h1 := fun _ => rfl) (hA18 _ (Kd.reads_of_C HR0.out)))
                    have HC404 := Aside0.mk hC18
                    clear hA18 hC18 hi018 hsz18
                    go_wp2_with (first | ((with_reducible refine gate_callee (f := 36) rfl ?_); refine goesL_ (some 45) rfl rfl Try.func36 (by kernel_rfl) rfl #[.slice A18 (l0.drop ((ji13) : Int).toNat).length (c0 - (ji13).toNat)] rfl (by (try simp only [List.map_toArray, List.map_cons, List.map_nil]); first | done | (rw [show (l0.drop ((ji13) : Int).toNat).length = (l0.length - (ji13).toNat) from List.length_drop] <;> rfl) | (simp only [hji13]; rfl) | rfl | (simp only [List.length_drop, List.length_take]; rfl)) ?_; (with_reducible refine (spec_soSum.calls kj7 _ _ (l0.drop ((ji13) : Int).toNat) t405 _ ?side1 ?side2 A16.out).mono ?_); (case side1 => repeat (first | exact (Kd.C_below HR404.out HB.out) | (with_reducible refine Kd.C_alloc ?_ _) | (with_reducible refine Kd.C_drewN ?_ _) | (with_reducible refine Kd.C_drew ?_))); (case side2 => exact HC404.out); rintro e w' ⟨rfl, ⟨nd, rfl⟩⟩; refine ⟨_, rfl, ?_⟩))
                    go_roundg kj7
                    case measure => have := HK1.out; have := HJ7.out; omega
                    case rel => exact ⟨(x9_1), (x10_1), (wrap64 (x11_1 + 1)), (by first | rfl | (simp; done) | (simp [*]; done)), (by first | rfl | (simp; done) | (simp [*]; done)), H', ⟨by have := HK1.out; have := HJ7.out; omega⟩, ⟨by (with_reducible repeat (first | apply Kd.R_alloc | apply Kd.R_drewN | apply Kd.R_drew)); exact HO_9.out⟩, ⟨by repeat (first | (with_reducible first | exact HB.out | apply below_alloc | apply pw_below_drewN | apply below_drew1) | exact HB.out)⟩⟩
                  · rw [if_neg c17] at H
                    have c17b0 : decide (t405 < (wrap64 (a2 - x11_1))) = false := decide_eq_false c17
                    clear c17
                    replace H := Option.bind_eq_some_iff.mp H
                    obtain ⟨t406, A190, H⟩ := H
                    replace H : (if t406.length < 17592186044416 then ((spec_chBest.f kj7 l0 (t406 ++ [x11_1]) (wrap64 (a2 - x11_1))).bind fun bt412 => (if bt412.2 > x10_1 then (spec_chBest.l0 kj7 l0 l1 a2 (l1.length : Int) bt412.1 bt412.2 (wrap64 (x11_1 + 1))) else (spec_chBest.l0 kj7 l0 l1 a2 (l1.length : Int) x9_1 x10_1 (wrap64 (x11_1 + 1))))) else (none)) = some (r1, r2) := H
                    have A19 := Aside0.mk A190
                    clear A190
                    by_cases c20 : t406.length < 17592186044416
                    · rw [if_pos c20] at H
                      have LMc20 := Aside0.mk c20
                      clear c20
                      obtain ⟨y409, hy409⟩ : ∃ y_ : List Int, y_ = (t406 ++ [x11_1]) := ⟨_, rfl⟩
                      replace H : ((spec_chBest.f kj7 l0 y409 (wrap64 (a2 - x11_1))).bind fun bt412 => (if bt412.2 > x10_1 then (spec_chBest.l0 kj7 l0 l1 a2 (l1.length : Int) bt412.1 bt412.2 (wrap64 (x11_1 + 1))) else (spec_chBest.l0 kj7 l0 l1 a2 (l1.length : Int) x9_1 x10_1 (wrap64 (x11_1 + 1))))) = some (r1, r2) := by first | (rw [hy409]; with_reducible exact H) | (have H2_ := (Option.bind_some _ _).symm.trans H; rw [hy409]; with_reducible exact H2_) | (have H2_ := (Option.bind_some _ _).symm.trans H; with_reducible exact H2_) | with_reducible exact H | (rw [hy409]; exact H) | exact H
                      have Ny409 := Aside0.mk hy409
                      clear hy409
                      replace H := Option.bind_eq_some_iff.mp H
                      obtain ⟨⟨t412, t413⟩, A210, H⟩ := H
                      replace H : (if t413 > x10_1 then (spec_chBest.l0 kj7 l0 l1 a2 (l1.length : Int) t412 t413 (wrap64 (x11_1 + 1))) else (spec_chBest.l0 kj7 l0 l1 a2 (l1.length : Int) x9_1 x10_1 (wrap64 (x11_1 + 1)))) = some (r1, r2) := H
                      have A21 := Aside0.mk A210
                      clear A210
                      by_cases c22 : t413 > x10_1
                      · rw [if_pos c22] at H
                        have c22b0 : decide (x10_1 < t413) = true := decide_eq_true c22
                        clear c22
                        have H' := Aside0.mk H
                        clear H
                        obtain ⟨i023, hi023, _, hsz23, _⟩ := info_parts info3
                        obtain ⟨A23, hcut23, hA23, hC23⟩ := print_drop_of (P := Try.prog) (Value.int .i64) 0 22 3 .i64 Try.underlying22 hi023 hsz23 A0 c0 l0 (ji13) (of_decide_eq_true (by first | (with_reducible assumption) | assumption)) (of_decide_eq_true (by first | (with_reducible assumption) | assumption)) HC0.out
                        have HR404 := Aside0.mk (Kd.C_of_reads (h1 := fun _ => rfl) (hA23 _ (Kd.reads_of_C HR0.out)))
                        have HC404 := Aside0.mk hC23
                        clear hA23 hC23 hi023 hsz23
                        go_wp2_with (first | ((with_reducible refine gate_callee (f := 36) rfl ?_); refine goesL_ (some 45) rfl rfl Try.func36 (by kernel_rfl) rfl #[.slice A23 (l0.drop ((ji13) : Int).toNat).length (c0 - (ji13).toNat)] rfl (by (try simp only [List.map_toArray, List.map_cons, List.map_nil]); first | done | (rw [show (l0.drop ((ji13) : Int).toNat).length = (l0.length - (ji13).toNat) from List.length_drop] <;> rfl) | (simp only [hji13]; rfl) | rfl | (simp only [List.length_drop, List.length_take]; rfl)) ?_; (with_reducible refine (spec_soSum.calls kj7 _ _ (l0.drop ((ji13) : Int).toNat) t405 _ ?side1 ?side2 A16.out).mono ?_); (case side1 => repeat (first | exact (Kd.C_below HR404.out HB.out) | (with_reducible refine Kd.C_alloc ?_ _) | (with_reducible refine Kd.C_drewN ?_ _) | (with_reducible refine Kd.C_drew ?_))); (case side2 => exact HC404.out); rintro e w' ⟨rfl, ⟨nd, rfl⟩⟩; refine ⟨_, rfl, ?_⟩) | ((with_reducible refine gate_callee (f := 65) rfl ?_); refine goesL_ (some 50) rfl rfl Try.func65 (by kernel_rfl) rfl #[.slice A1 l1.length c1] rfl (by (try simp only [List.map_toArray, List.map_cons, List.map_nil]); first | done | rfl | (simp only [List.length_drop, List.length_take]; rfl)) ?_; (with_reducible refine (spec_l1Own.calls _ _ l1 t406 _ ?side1 ?side2 A19.out).mono ?_); (case side1 => repeat (first | exact (Kd.C_below HR1.out (by repeat (first | (with_reducible first | exact HB.out | apply below_alloc | apply pw_below_drewN | apply below_drew1) | exact HB.out))) | (with_reducible refine Kd.C_alloc ?_ _) | (with_reducible refine Kd.C_drewN ?_ _) | (with_reducible refine Kd.C_drew ?_))); (case side2 => exact HC1.out); rintro e w24 ⟨v407, rfl, ho0, hb⟩; refine ⟨_, rfl, ?_⟩; have n0_ := Aside0.mk (Kd.R_elder' (by (with_reducible repeat (first | apply Kd.R_alloc | apply Kd.R_drewN | apply Kd.R_drew)); exact HO_9.out) (Kd.R_base ho0) hb); have n1_ := Aside0.mk (Kd.R_lower (Kd.R_new' ho0 (Kd.R_lt (by (with_reducible repeat (first | apply Kd.R_alloc | apply Kd.R_drewN | apply Kd.R_drew)); exact HO_9.out))) (below_size (by repeat (first | (with_reducible first | exact HB.out | apply below_alloc | apply pw_below_drewN | apply below_drew1) | exact HB.out)))); have n2_ := Aside0.mk (below_step (by repeat (first | (with_reducible first | exact HB.out | apply below_alloc | apply pw_below_drewN | apply below_drew1) | exact HB.out)) hb); clear HO_9; clear HB; have HO_9 := n0_; have HO408 := n1_; have HB := n2_; clear n0_ n1_ n2_; (try clear hb); (try clear hb2); (try clear hk); (try clear hi); (try clear ho0)) | ((with_reducible refine gate_builtin (b := .append) (xs := #[.tmp 50, .tmp 52]) rfl ?_); at_builtin; refine Kd.R_append (Kd.int .i64) (w0 := w) w.heap.size rfl (.tmp 50) (.tmp 52) 22 3 (.int .i64 0) 8 rfl Try.underlying22 info3 rfl (by decide) (by omega) v407 t406 x11_1 [.int .i64 x11_1] (fun k_ => some k_ ≠ (u9 : Value).ownBlock) (fun _ => False) rfl rfl ?aP (fun _ hk => hk.elim) ?aF ?aO ?aB ?aS ?aL ?_; (case aP => exact rfl); (case aB => exact (by repeat (first | (with_reducible first | exact HB.out | apply below_alloc | apply pw_below_drewN | apply below_drew1) | exact HB.out))); (case aF => exact (fun k_ hk => Kd.fresh' (Kd.R_lt (by (with_reducible repeat (first | apply Kd.R_alloc | apply Kd.R_drewN | apply Kd.R_drew)); exact HO_9.out)) k_ hk)); (case aO => exact (by (with_reducible repeat (first | apply Kd.R_alloc | apply Kd.R_drewN | apply Kd.R_drew)); exact Kd.R_mono HO408.out (fun _ hk => hk.2))); (case aS => exact (below_size (by repeat (first | (with_reducible first | exact HB.out | apply below_alloc | apply pw_below_drewN | apply below_drew1) | exact HB.out)))); (case aL => have := LMc20.out; omega); intro v410 w25 ho hb hg hat; rw [← Ny409.out] at ho; have n0_ := Aside0.mk (Kd.R_after (ok := (fun _ => True)) (by (with_reducible repeat (first | apply Kd.R_alloc | apply Kd.R_drewN | apply Kd.R_drew)); exact HO_9.out) hg hat); have n1_ := Aside0.mk (hb); have n2_ := Aside0.mk (ho); clear HO_9; clear HB; clear HO408; have HO_9 := n0_; have HB := n1_; have HO411 := n2_; clear n0_ n1_ n2_; clear ho hb hg hat; obtain ⟨Ao26, co26, eo26⟩ := Kd.R_slice HO411.out; subst eo26) | ((with_reducible refine gate_callee (f := 53) rfl ?_); refine goesL_ (some 57) rfl rfl Try.func53 (by kernel_rfl) rfl #[.slice A0 l0.length c0, .slice Ao26 y409.length co26, .int .i64 (wrap64 (a2 - x11_1))] rfl (by (try simp only [List.map_toArray, List.map_cons, List.map_nil]); first | done | rfl | (simp only [List.length_drop, List.length_take]; rfl)) ?_; (with_reducible refine (ih kj7 (by have := HK1.out; have := HJ7.out; omega) _ _ l0 _ _ y409 (wrap64 (a2 - x11_1)) t412 t413 _ ?side1 ?side2 ?side3 ?side4 A21.out).mono ?_); (case side1 => repeat (first | exact (Kd.C_below HR0.out HB.out) | (with_reducible refine Kd.C_alloc ?_ _) | (with_reducible refine Kd.C_drewN ?_ _) | (with_reducible refine Kd.C_drew ?_))); (case side2 => exact HC0.out); (case side3 => repeat (first | exact (Kd.R_reads' HO411.out).2.2 | (with_reducible refine Kd.C_alloc ?_ _) | (with_reducible refine Kd.C_drewN ?_ _) | (with_reducible refine Kd.C_drew ?_))); (case side4 => exact (Kd.R_reads' HO411.out).2.1); rintro e w27 ⟨v414, rfl, ho0, hb⟩; refine ⟨_, rfl, ?_⟩; have n0_ := Aside0.mk (Kd.R_elder' (by (with_reducible repeat (first | apply Kd.R_alloc | apply Kd.R_drewN | apply Kd.R_drew)); exact HO_9.out) (Kd.R_base ho0) hb); have n1_ := Aside0.mk (Kd.R_elder' (by (with_reducible repeat (first | apply Kd.R_alloc | apply Kd.R_drewN | apply Kd.R_drew)); exact HO411.out) (Kd.R_base ho0) hb); have n2_ := Aside0.mk (Kd.R_lower (Kd.R_new' (Kd.R_new' ho0 (Kd.R_lt (by (with_reducible repeat (first | apply Kd.R_alloc | apply Kd.R_drewN | apply Kd.R_drew)); exact HO_9.out))) (Kd.R_lt (by (with_reducible repeat (first | apply Kd.R_alloc | apply Kd.R_drewN | apply Kd.R_drew)); exact HO411.out))) (below_size (by repeat (first | (with_reducible first | exact HB.out | apply below_alloc | apply pw_below_drewN | apply below_drew1) | exact HB.out)))); have n3_ := Aside0.mk (below_step (by repeat (first | (with_reducible first | exact HB.out | apply below_alloc | apply pw_below_drewN | apply below_drew1) | exact HB.out)) hb); clear HO_9; clear HO411; clear HB; have HO_9 := n0_; have HO411 := n1_; have HO415 := n2_; have HB := n3_; clear n0_ n1_ n2_ n3_; (try clear hb); (try clear hb2); (try clear hk); (try clear hi); (try clear ho0)))
                        go_roundg kj7
                        case measure => have := HK1.out; have := HJ7.out; omega
                        case rel => exact ⟨(t412), (t413), (wrap64 (x11_1 + 1)), (by first | rfl | (simp; done) | (simp [*]; done)), (by first | rfl | (simp; done) | (simp [*]; done)), H', ⟨by have := HK1.out; have := HJ7.out; omega⟩, ⟨by (with_reducible repeat (first | apply Kd.R_alloc | apply Kd.R_drewN | apply Kd.R_drew)); exact Kd.R_mono HO415.out (fun _ hk => trivial)⟩, ⟨by repeat (first | (with_reducible first | exact HB.out | apply below_alloc | apply pw_below_drewN | apply below_drew1) | exact HB.out)⟩⟩
                      · rw [if_neg c22] at H
                        have c22b0 : decide (x10_1 < t413) = false := decide_eq_false c22
                        clear c22
                        have H' := Aside0.mk H
                        clear H
                        obtain ⟨i028, hi028, _, hsz28, _⟩ := info_parts info3
                        obtain ⟨A28, hcut28, hA28, hC28⟩ := print_drop_of (P := Try.prog) (Value.int .i64) 0 22 3 .i64 Try.underlying22 hi028 hsz28 A0 c0 l0 (ji13) (of_decide_eq_true (by first | (with_reducible assumption) | assumption)) (of_decide_eq_true (by first | (with_reducible assumption) | assumption)) HC0.out
                        have HR404 := Aside0.mk (Kd.C_of_reads (h1 := fun _ => rfl) (hA28 _ (Kd.reads_of_C HR0.out)))
                        have HC404 := Aside0.mk hC28
                        clear hA28 hC28 hi028 hsz28
                        go_wp2_with (first | ((with_reducible refine gate_callee (f := 36) rfl ?_); refine goesL_ (some 45) rfl rfl Try.func36 (by kernel_rfl) rfl #[.slice A28 (l0.drop ((ji13) : Int).toNat).length (c0 - (ji13).toNat)] rfl (by (try simp only [List.map_toArray, List.map_cons, List.map_nil]); first | done | (rw [show (l0.drop ((ji13) : Int).toNat).length = (l0.length - (ji13).toNat) from List.length_drop] <;> rfl) | (simp only [hji13]; rfl) | rfl | (simp only [List.length_drop, List.length_take]; rfl)) ?_; (with_reducible refine (spec_soSum.calls kj7 _ _ (l0.drop ((ji13) : Int).toNat) t405 _ ?side1 ?side2 A16.out).mono ?_); (case side1 => repeat (first | exact (Kd.C_below HR404.out HB.out) | (with_reducible refine Kd.C_alloc ?_ _) | (with_reducible refine Kd.C_drewN ?_ _) | (with_reducible refine Kd.C_drew ?_))); (case side2 => exact HC404.out); rintro e w' ⟨rfl, ⟨nd, rfl⟩⟩; refine ⟨_, rfl, ?_⟩) | ((with_reducible refine gate_callee (f := 65) rfl ?_); refine goesL_ (some 50) rfl rfl Try.func65 (by kernel_rfl) rfl #[.slice A1 l1.length c1] rfl (by (try simp only [List.map_toArray, List.map_cons, List.map_nil]); first | done | rfl | (simp only [List.length_drop, List.length_take]; rfl)) ?_; (with_reducible refine (spec_l1Own.calls _ _ l1 t406 _ ?side1 ?side2 A19.out).mono ?_); (case side1 => repeat (first | exact (Kd.C_below HR1.out (by repeat (first | (with_reducible first | exact HB.out | apply below_alloc | apply pw_below_drewN | apply below_drew1) | exact HB.out))) | (with_reducible refine Kd.C_alloc ?_ _) | (with_reducible refine Kd.C_drewN ?_ _) | (with_reducible refine Kd.C_drew ?_))); (case side2 => exact HC1.out); rintro e w29 ⟨v407, rfl, ho0, hb⟩; refine ⟨_, rfl, ?_⟩; have n0_ := Aside0.mk (Kd.R_elder' (by (with_reducible repeat (first | apply Kd.R_alloc | apply Kd.R_drewN | apply Kd.R_drew)); exact HO_9.out) (Kd.R_base ho0) hb); have n1_ := Aside0.mk (Kd.R_lower (Kd.R_new' ho0 (Kd.R_lt (by (with_reducible repeat (first | apply Kd.R_alloc | apply Kd.R_drewN | apply Kd.R_drew)); exact HO_9.out))) (below_size (by repeat (first | (with_reducible first | exact HB.out | apply below_alloc | apply pw_below_drewN | apply below_drew1) | exact HB.out)))); have n2_ := Aside0.mk (below_step (by repeat (first | (with_reducible first | exact HB.out | apply below_alloc | apply pw_below_drewN | apply below_drew1) | exact HB.out)) hb); clear HO_9; clear HB; have HO_9 := n0_; have HO408 := n1_; have HB := n2_; clear n0_ n1_ n2_; (try clear hb); (try clear hb2); (try clear hk); (try clear hi); (try clear ho0)) | ((with_reducible refine gate_builtin (b := .append) (xs := #[.tmp 50, .tmp 52]) rfl ?_); at_builtin; refine Kd.R_append (Kd.int .i64) (w0 := w) w.heap.size rfl (.tmp 50) (.tmp 52) 22 3 (.int .i64 0) 8 rfl Try.underlying22 info3 rfl (by decide) (by omega) v407 t406 x11_1 [.int .i64 x11_1] (fun k_ => some k_ ≠ (u9 : Value).ownBlock) (fun _ => False) rfl rfl ?aP (fun _ hk => hk.elim) ?aF ?aO ?aB ?aS ?aL ?_; (case aP => exact rfl); (case aB => exact (by repeat (first | (with_reducible first | exact HB.out | apply below_alloc | apply pw_below_drewN | apply below_drew1) | exact HB.out))); (case aF => exact (fun k_ hk => Kd.fresh' (Kd.R_lt (by (with_reducible repeat (first | apply Kd.R_alloc | apply Kd.R_drewN | apply Kd.R_drew)); exact HO_9.out)) k_ hk)); (case aO => exact (by (with_reducible repeat (first | apply Kd.R_alloc | apply Kd.R_drewN | apply Kd.R_drew)); exact Kd.R_mono HO408.out (fun _ hk => hk.2))); (case aS => exact (below_size (by repeat (first | (with_reducible first | exact HB.out | apply below_alloc | apply pw_below_drewN | apply below_drew1) | exact HB.out)))); (case aL => have := LMc20.out; omega); intro v410 w30 ho hb hg hat; rw [← Ny409.out] at ho; have n0_ := Aside0.mk (Kd.R_after (ok := (fun _ => True)) (by (with_reducible repeat (first | apply Kd.R_alloc | apply Kd.R_drewN | apply Kd.R_drew)); exact HO_9.out) hg hat); have n1_ := Aside0.mk (hb); have n2_ := Aside0.mk (ho); clear HO_9; clear HB; clear HO408; have HO_9 := n0_; have HB := n1_; have HO411 := n2_; clear n0_ n1_ n2_; clear ho hb hg hat; obtain ⟨Ao31, co31, eo31⟩ := Kd.R_slice HO411.out; subst eo31) | ((with_reducible refine gate_callee (f := 53) rfl ?_); refine goesL_ (some 57) rfl rfl Try.func53 (by kernel_rfl) rfl #[.slice A0 l0.length c0, .slice Ao31 y409.length co31, .int .i64 (wrap64 (a2 - x11_1))] rfl (by (try simp only [List.map_toArray, List.map_cons, List.map_nil]); first | done | rfl | (simp only [List.length_drop, List.length_take]; rfl)) ?_; (with_reducible refine (ih kj7 (by have := HK1.out; have := HJ7.out; omega) _ _ l0 _ _ y409 (wrap64 (a2 - x11_1)) t412 t413 _ ?side1 ?side2 ?side3 ?side4 A21.out).mono ?_); (case side1 => repeat (first | exact (Kd.C_below HR0.out HB.out) | (with_reducible refine Kd.C_alloc ?_ _) | (with_reducible refine Kd.C_drewN ?_ _) | (with_reducible refine Kd.C_drew ?_))); (case side2 => exact HC0.out); (case side3 => repeat (first | exact (Kd.R_reads' HO411.out).2.2 | (with_reducible refine Kd.C_alloc ?_ _) | (with_reducible refine Kd.C_drewN ?_ _) | (with_reducible refine Kd.C_drew ?_))); (case side4 => exact (Kd.R_reads' HO411.out).2.1); rintro e w32 ⟨v414, rfl, ho0, hb⟩; refine ⟨_, rfl, ?_⟩; have n0_ := Aside0.mk (Kd.R_elder' (by (with_reducible repeat (first | apply Kd.R_alloc | apply Kd.R_drewN | apply Kd.R_drew)); exact HO_9.out) (Kd.R_base ho0) hb); have n1_ := Aside0.mk (Kd.R_elder' (by (with_reducible repeat (first | apply Kd.R_alloc | apply Kd.R_drewN | apply Kd.R_drew)); exact HO411.out) (Kd.R_base ho0) hb); have n2_ := Aside0.mk (Kd.R_lower (Kd.R_new' (Kd.R_new' ho0 (Kd.R_lt (by (with_reducible repeat (first | apply Kd.R_alloc | apply Kd.R_drewN | apply Kd.R_drew)); exact HO_9.out))) (Kd.R_lt (by (with_reducible repeat (first | apply Kd.R_alloc | apply Kd.R_drewN | apply Kd.R_drew)); exact HO411.out))) (below_size (by repeat (first | (with_reducible first | exact HB.out | apply below_alloc | apply pw_below_drewN | apply below_drew1) | exact HB.out)))); have n3_ := Aside0.mk (below_step (by repeat (first | (with_reducible first | exact HB.out | apply below_alloc | apply pw_below_drewN | apply below_drew1) | exact HB.out)) hb); clear HO_9; clear HO411; clear HB; have HO_9 := n0_; have HO411 := n1_; have HO415 := n2_; have HB := n3_; clear n0_ n1_ n2_ n3_; (try clear hb); (try clear hb2); (try clear hk); (try clear hi); (try clear ho0)))
                        go_roundg kj7
                        case measure => have := HK1.out; have := HJ7.out; omega
                        case rel => exact ⟨(x9_1), (x10_1), (wrap64 (x11_1 + 1)), (by first | rfl | (simp; done) | (simp [*]; done)), (by first | rfl | (simp; done) | (simp [*]; done)), H', ⟨by have := HK1.out; have := HJ7.out; omega⟩, ⟨by (with_reducible repeat (first | apply Kd.R_alloc | apply Kd.R_drewN | apply Kd.R_drew)); exact Kd.R_mono HO_9.out (fun _ hk => trivial)⟩, ⟨by repeat (first | (with_reducible first | exact HB.out | apply below_alloc | apply pw_below_drewN | apply below_drew1) | exact HB.out)⟩⟩
                    · rw [if_neg c20] at H
                      exact absurd H (by simp)
                · rw [if_neg c15] at H
                  exact absurd H (by simp)
              · rw [if_neg c14] at H
                exact absurd H (by simp)
            · replace c12 := Bool.eq_false_iff.mpr c12
              subst c12
              have H1 : (some (x9_1, x10_1)) = some (r1, r2) := by rw [if_neg (show ¬ (false = true) by decide)] at H; exact H
              clear H
              have H := H1
              clear H1
              simp only [Option.some.injEq, Prod.mk.injEq] at H
              obtain ⟨rfl, rfl⟩ := H
              go_wp2
              go_ret2
              exact ⟨_, by first | rfl | (simp [errW_none, errW_some] <;> rfl) | (simp [*, errW_none, errW_some] <;> rfl), by (with_reducible repeat (first | apply Kd.R_alloc | apply Kd.R_drewN | apply Kd.R_drew)); exact HO_9.out, by repeat (first | (with_reducible first | exact HB.out | apply below_alloc | apply pw_below_drewN | apply below_drew1) | exact HB.out)⟩

end Go.Proofs.Ytnikblimnjpmpaa.X

/- ==== XspecLikeliestDraw ==== -/
namespace Go.Proofs.Ytnikblimnjpmpaa.X
open Go.RowKit Go.Proofs.YtnikblimnjpmpaaW.PrintWords Go.Proofs.YtnikblimnjpmpaaW.PrintLast Go.Proofs.YtnikblimnjpmpaaW.PrintMore
attribute [local go_sem] max2_int min2_int max_two min_two max_three min_three max_four min_four   -- for this text's walks alone
set_option linter.unusedVariables false
set_option linter.unusedSimpArgs false

/-! ### spec_LikeliestDraw: function 27 -/
def spec_LikeliestDraw.f (k : Nat) (l0 : List Int) (a1 : Int) : Option (List Int × Bool) := (spec_chAsked.f k l0 a1).bind fun t416 => (if t416 = true then ((spec_soDraws.f k l0 a1).bind fun t417 => (if t417 > 5000 then (some (([] : List Int), false)) else ((spec_chBest.f k l0 ([] : List Int) a1).bind fun bt418 => (some (bt418.1, true))))) else (some (([] : List Int), false)))
theorem spec_LikeliestDraw.mono : ∀ a0 a1 k, LeO (spec_LikeliestDraw.f k a0 a1) (spec_LikeliestDraw.f (k + 1) a0 a1) := by
  intro a0 a1 k
  unfold spec_LikeliestDraw.f
  repeat' first
      | (with_reducible exact spec_chAsked.mono _ _ _)
      | (with_reducible exact spec_chBest.mono _ _ _ _)
      | (with_reducible exact spec_soDraws.mono _ _ _)
      | (with_reducible exact LeO.refl _)
      | (with_reducible exact LeO.none _)
      | (with_reducible refine LeO.ite ?_ ?_)
      | (with_reducible refine LeO.bind ?_ (fun _ => ?_))
      | exact spec_chAsked.mono _ _ _
      | exact spec_chBest.mono _ _ _ _
      | exact spec_soDraws.mono _ _ _
      | exact LeO.none _
      | refine LeO.ite ?_ ?_
      | refine LeO.bind ?_ (fun _ => ?_)
set_option maxHeartbeats 8000000 in
set_option maxRecDepth 100000 in
theorem spec_LikeliestDraw.calls (k : Nat) (A0 : Option Addr) (c0 : Nat) (l0 : List Int) (a1 : Int) (r1 : List Int) (r2 : Bool) (w : World) (hr0 : Kd.C (Kd.int .i64) w A0 l0.length l0) (hc0 : l0.length ≤ c0) (h : spec_LikeliestDraw.f k l0 a1 = some (r1, r2)) :
    Calls Try.prog 27 #[.slice A0 l0.length c0, .int .i64 a1] w fun e w' => ∃ v0_ : Value, e = .returned (.tuple #[v0_, .bool r2]) ∧ Kd.R (Kd.int .i64) 3 w' w.heap.size (fun _ => True) v0_ r1 ∧ Below w.heap.size w w' := by
  have HR0 := Aside0.mk hr0
  have HC0 := Aside0.mk hc0
  clear hr0 hc0
  have HB := Aside0.mk (Below.refl w.heap.size w)
  have H : ((spec_chAsked.f k l0 a1).bind fun t416 => (if t416 = true then ((spec_soDraws.f k l0 a1).bind fun t417 => (if t417 > 5000 then (some (([] : List Int), false)) else ((spec_chBest.f k l0 ([] : List Int) a1).bind fun bt418 => (some (bt418.1, true))))) else (some (([] : List Int), false)))) = some (r1, r2) := h
  clear h
  replace H := Option.bind_eq_some_iff.mp H
  obtain ⟨t416, A30, H⟩ := H
  replace H : (if t416 = true then ((spec_soDraws.f k l0 a1).bind fun t417 => (if t417 > 5000 then (some (([] : List Int), false)) else ((spec_chBest.f k l0 ([] : List Int) a1).bind fun bt418 => (some (bt418.1, true))))) else (some (([] : List Int), false))) = some (r1, r2) := H
  have A3 := Aside0.mk A30
  clear A30
  by_cases c4 : t416 = true
  · subst c4
    have H1 : ((spec_soDraws.f k l0 a1).bind fun t417 => (if t417 > 5000 then (some (([] : List Int), false)) else ((spec_chBest.f k l0 ([] : List Int) a1).bind fun bt418 => (some (bt418.1, true))))) = some (r1, r2) := by rw [if_pos rfl] at H; exact H
    clear H
    have H := H1
    clear H1
    replace H := Option.bind_eq_some_iff.mp H
    obtain ⟨t417, A50, H⟩ := H
    replace H : (if t417 > 5000 then (some (([] : List Int), false)) else ((spec_chBest.f k l0 ([] : List Int) a1).bind fun bt418 => (some (bt418.1, true)))) = some (r1, r2) := H
    have A5 := Aside0.mk A50
    clear A50
    by_cases c6 : t417 > 5000
    · rw [if_pos c6] at H
      have c6b0 : decide (5000 < t417) = true := decide_eq_true c6
      clear c6
      simp only [Option.some.injEq, Prod.mk.injEq] at H
      obtain ⟨rfl, rfl⟩ := H
      go_enter Try.func27, Try.ntmps27
      go_wp2_with (first | ((with_reducible refine gate_callee (f := 31) rfl ?_); refine goesL_ (some 10) rfl rfl Try.func31 (by kernel_rfl) rfl #[.slice A0 l0.length c0, .int .i64 a1] rfl (by (try simp only [List.map_toArray, List.map_cons, List.map_nil]); first | done | rfl | (simp only [List.length_drop, List.length_take]; rfl)) ?_; (with_reducible refine (spec_chAsked.calls k _ _ l0 a1 true _ ?side1 ?side2 A3.out).mono ?_); (case side1 => repeat (first | exact HR0.out | (with_reducible refine Kd.C_alloc ?_ _) | (with_reducible refine Kd.C_drewN ?_ _) | (with_reducible refine Kd.C_drew ?_))); (case side2 => exact HC0.out); rintro e w' ⟨rfl, ⟨nd, rfl⟩⟩; refine ⟨_, rfl, ?_⟩) | (go_at_call 52; (with_reducible refine (spec_soDraws.calls k _ _ l0 a1 t417 _ ?side1 ?side2 A5.out).mono ?_); (case side1 => repeat (first | exact HR0.out | (with_reducible refine Kd.C_alloc ?_ _) | (with_reducible refine Kd.C_drewN ?_ _) | (with_reducible refine Kd.C_drew ?_))); (case side2 => exact HC0.out); rintro e w7 ⟨rfl, hb⟩; have n0_ := Aside0.mk (below_step (by repeat (first | (with_reducible first | exact HB.out | apply below_alloc | apply pw_below_drewN | apply below_drew1) | exact HB.out)) hb); clear HB; have HB := n0_; clear n0_; (try clear hb); (try clear hb2); (try clear hk); (try clear hi)))
      go_ret2
      exact ⟨_, by first | rfl | (simp [errW_none, errW_some] <;> rfl) | (simp [*, errW_none, errW_some] <;> rfl), by first | exact Kd.R_nil _ _ _ _ _ | exact Kd.N_nil _ _ _ _ _ | exact Kd.V_nil _ _ _ _ _ | exact Kd.Q_nil _ _ _ _ _ | exact Kd.S_nil _ _ _ _ _, by repeat (first | (with_reducible first | exact HB.out | apply below_alloc | apply pw_below_drewN | apply below_drew1) | exact HB.out)⟩
    · rw [if_neg c6] at H
      have c6b0 : decide (5000 < t417) = false := decide_eq_false c6
      clear c6
      replace H := Option.bind_eq_some_iff.mp H
      obtain ⟨⟨t418, t419⟩, A80, H⟩ := H
      replace H : (some (t418, true)) = some (r1, r2) := H
      have A8 := Aside0.mk A80
      clear A80
      simp only [Option.some.injEq, Prod.mk.injEq] at H
      obtain ⟨rfl, rfl⟩ := H
      go_enter Try.func27, Try.ntmps27
      go_wp2_with (first | ((with_reducible refine gate_callee (f := 31) rfl ?_); refine goesL_ (some 10) rfl rfl Try.func31 (by kernel_rfl) rfl #[.slice A0 l0.length c0, .int .i64 a1] rfl (by (try simp only [List.map_toArray, List.map_cons, List.map_nil]); first | done | rfl | (simp only [List.length_drop, List.length_take]; rfl)) ?_; (with_reducible refine (spec_chAsked.calls k _ _ l0 a1 true _ ?side1 ?side2 A3.out).mono ?_); (case side1 => repeat (first | exact HR0.out | (with_reducible refine Kd.C_alloc ?_ _) | (with_reducible refine Kd.C_drewN ?_ _) | (with_reducible refine Kd.C_drew ?_))); (case side2 => exact HC0.out); rintro e w' ⟨rfl, ⟨nd, rfl⟩⟩; refine ⟨_, rfl, ?_⟩) | (go_at_call 52; (with_reducible refine (spec_soDraws.calls k _ _ l0 a1 t417 _ ?side1 ?side2 A5.out).mono ?_); (case side1 => repeat (first | exact HR0.out | (with_reducible refine Kd.C_alloc ?_ _) | (with_reducible refine Kd.C_drewN ?_ _) | (with_reducible refine Kd.C_drew ?_))); (case side2 => exact HC0.out); rintro e w9 ⟨rfl, hb⟩; have n0_ := Aside0.mk (below_step (by repeat (first | (with_reducible first | exact HB.out | apply below_alloc | apply pw_below_drewN | apply below_drew1) | exact HB.out)) hb); clear HB; have HB := n0_; clear n0_; (try clear hb); (try clear hb2); (try clear hk); (try clear hi)) | ((with_reducible refine gate_callee (f := 53) rfl ?_); refine goesL_ (some 21) rfl rfl Try.func53 (by kernel_rfl) rfl #[.slice A0 l0.length c0, .slice none 0 0, .int .i64 a1] rfl (by (try simp only [List.map_toArray, List.map_cons, List.map_nil]); first | done | rfl | (simp only [List.length_drop, List.length_take]; rfl)) ?_; (refine (spec_chBest.calls k _ _ l0 _ _ ([] : List Int) a1 t418 t419 _ ?side1 ?side2 ?side3 ?side4 A8.out).mono ?_); (case side1 => repeat (first | exact (Kd.C_below HR0.out HB.out) | (with_reducible refine Kd.C_alloc ?_ _) | (with_reducible refine Kd.C_drewN ?_ _) | (with_reducible refine Kd.C_drew ?_))); (case side2 => exact HC0.out); (case side3 => exact Kd.C_nil _ _); (case side4 => exact Nat.le_refl _); rintro e w10 ⟨v420, rfl, ho0, hb⟩; refine ⟨_, rfl, ?_⟩; have n0_ := Aside0.mk (Kd.R_lower ho0 (below_size (by repeat (first | (with_reducible first | exact HB.out | apply below_alloc | apply pw_below_drewN | apply below_drew1) | exact HB.out)))); have n1_ := Aside0.mk (below_step (by repeat (first | (with_reducible first | exact HB.out | apply below_alloc | apply pw_below_drewN | apply below_drew1) | exact HB.out)) hb); clear HB; have HO421 := n0_; have HB := n1_; clear n0_ n1_; (try clear hb); (try clear hb2); (try clear hk); (try clear hi); (try clear ho0)))
      go_ret2
      exact ⟨_, by first | rfl | (simp [errW_none, errW_some] <;> rfl) | (simp [*, errW_none, errW_some] <;> rfl), by (with_reducible repeat (first | apply Kd.R_alloc | apply Kd.R_drewN | apply Kd.R_drew)); exact HO421.out, by repeat (first | (with_reducible first | exact HB.out | apply below_alloc | apply pw_below_drewN | apply below_drew1) | exact HB.out)⟩
  · replace c4 := Bool.eq_false_iff.mpr c4
    subst c4
    have H1 : (some (([] : List Int), false)) = some (r1, r2) := by rw [if_neg (show ¬ (false = true) by decide)] at H; exact H
    clear H
    have H := H1
    clear H1
    simp only [Option.some.injEq, Prod.mk.injEq] at H
    obtain ⟨rfl, rfl⟩ := H
    go_enter Try.func27, Try.ntmps27
    go_wp2_with (first | ((with_reducible refine gate_callee (f := 31) rfl ?_); refine goesL_ (some 10) rfl rfl Try.func31 (by kernel_rfl) rfl #[.slice A0 l0.length c0, .int .i64 a1] rfl (by (try simp only [List.map_toArray, List.map_cons, List.map_nil]); first | done | rfl | (simp only [List.length_drop, List.length_take]; rfl)) ?_; (with_reducible refine (spec_chAsked.calls k _ _ l0 a1 false _ ?side1 ?side2 A3.out).mono ?_); (case side1 => repeat (first | exact HR0.out | (with_reducible refine Kd.C_alloc ?_ _) | (with_reducible refine Kd.C_drewN ?_ _) | (with_reducible refine Kd.C_drew ?_))); (case side2 => exact HC0.out); rintro e w' ⟨rfl, ⟨nd, rfl⟩⟩; refine ⟨_, rfl, ?_⟩))
    go_ret2
    exact ⟨_, by first | rfl | (simp [errW_none, errW_some] <;> rfl) | (simp [*, errW_none, errW_some] <;> rfl), by first | exact Kd.R_nil _ _ _ _ _ | exact Kd.N_nil _ _ _ _ _ | exact Kd.V_nil _ _ _ _ _ | exact Kd.Q_nil _ _ _ _ _ | exact Kd.S_nil _ _ _ _ _, by repeat (first | (with_reducible first | exact HB.out | apply below_alloc | apply pw_below_drewN | apply below_drew1) | exact HB.out)⟩

end Go.Proofs.Ytnikblimnjpmpaa.X

/- ==== PlBestD ==== -/
/- Plain laws, no program in sight: the reference's search for the likeliest draw finds the first of the likeliest. -/
namespace Go.Proofs.Ytnikblimnjpmpaa.X
open Go.RowKit Go.Proofs.YtnikblimnjpmpaaW.PrintWords Go.Proofs.YtnikblimnjpmpaaW.PrintLast Go.Proofs.YtnikblimnjpmpaaW.PrintMore

theorem toI_len (l : List Nat) : (toI l).length = l.length := by simp [toI]
theorem toI_get {l : List Nat} {i : Nat} (h : i < l.length) : rd (toI l) (i : Int) = ((l.getD i 0 : Nat) : Int) := by simp [toI, rd, List.getD_eq_getElem?_getD, h]
theorem toI_snoc (l : List Nat) (d : Nat) : toI l ++ [(d : Int)] = toI (l ++ [d]) := by simp [toI]
theorem toI_drop (l : List Nat) (i : Nat) : (toI l).drop i = toI (l.drop i) := by simp [toI, List.map_drop]
theorem sum_ev {ns : List Nat} (h20 : ∀ n ∈ ns, n ≤ 20) (hl : ns.length ≤ 8) : Ev (fun k => impl_total.f k (toI ns)) ((sumL ns : Nat) : Int) ∧ Ev (fun k => spec_soSum.f k (toI ns)) ((sumL ns : Nat) : Int) := by
  have ha : (toI ns).all (inB 0 20) = true := by
    rw [List.all_eq_true]
    intro x hx
    simp only [toI, List.mem_map] at hx
    obtain ⟨n, hn, rfl⟩ := hx
    have := h20 n hn
    simp [inB]
    omega
  rw [← totI_toI]
  exact ⟨total_ev (by rw [toI_len]; exact hl) ha, soSum_ev (by rw [toI_len]; exact hl) ha⟩
theorem wrapm {a b : Int} (h0 : 1 ≤ a) (h1 : 1 ≤ b) (h2 : a * b ≤ 1099511627776) : wrap64 (a * b) = a * b := by
  have : 0 ≤ a * b := Int.mul_nonneg (by omega) (by omega)
  exact w64 (by omega) (by omega)
/-- A draw's ways so far: those of its first colours. -/
theorem chWays_loop {ns l : List Nat} (h20 : ∀ n ∈ ns, n ≤ 20) (h40 : sumL ns ≤ 40) (h8 : ns.length ≤ 8) (hb : Beg ns l) (e : Nat) : ∀ i : Nat, i + e = l.length →
    Ev (fun k => spec_chWays.l0 k (toI ns) (wy ns (l.take i)) (toI l) ((toI l).length : Int) (i : Int)) (wy ns l) := by
  have hll := hb.len
  have H1 := toI_len ns
  have H2 := toI_len l
  induction e with
  | zero =>
    intro i hi
    obtain rfl : i = l.length := by omega
    rw [List.take_length]
    refine Ev.step (f := fun _ => some (wy ns l)) (fun k => ?_) (Ev.now _)
    simp only [spec_chWays.l0]
    rw [if_neg (by omega)]
  | succ e ih =>
    intro i hi
    have hil : i < l.length := by omega
    have hat := hb.at hil
    have hn20 : ns.getD i 0 ≤ 20 := by
      have := h20 _ (List.getElem_mem (show i < ns.length by omega))
      simpa [List.getD_eq_getElem?_getD, show i < ns.length by omega] using this
    have htk : l.take (i + 1) = l.take i ++ [l.getD i 0] := by
      rw [List.take_succ_eq_append_getElem hil]
      simp [List.getD_eq_getElem?_getD, hil]
    have htl : (l.take i).length = i := by rw [List.length_take]; omega
    have hw := wy_snoc (hb.take i) (by rw [htl]; omega) (l.getD i 0)
    rw [htl, ← htk] at hw
    have hp1 := (wy_bound h20 h40 (hb.take i)).1
    have hp2 := (wy_bound h20 h40 (hb.take (i + 1)))
    have hp3 := wB_pos (show ns.getD i 0 ≤ 40 by omega) hat
    rw [hw] at hp2
    have h3 := ih (i + 1) (by omega)
    rw [hw] at h3
    have HI := Aside0.mk (ws1 i (by omega))
    have HM := Aside0.mk (wrapm hp1 hp3 hp2.2)
    refine Ev.step (f := fun k => (spec_chChoose.f k ((ns.getD i 0 : Nat) : Int) ((l.getD i 0 : Nat) : Int)).bind fun t => spec_chWays.l0 k (toI ns) (wrap64 (wy ns (l.take i) * t)) (toI l) ((toI l).length : Int) ((i + 1 : Nat) : Int)) (fun k => ?_) (Ev.bind (chChoose_ev (by omega) hat) ?_)
    · simp only [spec_chWays.l0]
      rw [if_pos (by omega), if_pos (by omega), if_pos (by omega), if_pos (by omega), toI_get (show i < ns.length by omega), toI_get hil, HI.out]
    · rw [HM.out]
      exact h3
theorem chWays_ev {ns l : List Nat} (h20 : ∀ n ∈ ns, n ≤ 20) (h40 : sumL ns ≤ 40) (h8 : ns.length ≤ 8) (hb : Beg ns l) : Ev (fun k => spec_chWays.f k (toI ns) (toI l)) (wy ns l) := by
  have := chWays_loop h20 h40 h8 hb l.length 0 (by omega)
  have e : wy ns (l.take 0) = 1 := by cases ns <;> rfl
  rw [e] at this
  exact this
theorem l1Own_at {l : List Int} (h : l.length ≤ 1000) : spec_l1Own.f l = some l := by
  unfold spec_l1Own.f
  rw [Option.bind_some, if_pos (by simp; omega)]
  rfl
theorem range_succ (d e : Nat) : List.range' d (e + 1) = d :: List.range' (d + 1) e := rfl
/-- What goes on from one number of a colour. -/
def visF (r l : List Nat) (left d : Nat) : List (List Nat) := if left - d ≤ sumL r then vis r (l ++ [d]) (left - d) else []
theorem vis_cons (n : Nat) (r l : List Nat) (left : Nat) : vis (n :: r) l left = (List.range' 0 (min n left + 1)).flatMap (visF r l left) := rfl
def bestOf (ns : List Nat) (L : List (List Nat)) (s : List Nat × Int) : List Nat × Int := L.foldl (stp (wy ns)) s
theorem bestOf_append (ns : List Nat) (L M : List (List Nat)) (s : List Nat × Int) : bestOf ns (L ++ M) s = bestOf ns M (bestOf ns L s) := List.foldl_append ..
theorem bestOf_ge (ns : List Nat) (L : List (List Nat)) (s : List Nat × Int) : s.2 ≤ (bestOf ns L s).2 := stp_ge _ _ _
def outS (s : List Nat × Int) : List Int × Int := (toI s.1, s.2)
theorem wsub {a b : Nat} (h : b ≤ a) (ha : a ≤ 100000) : wrap64 ((a : Int) - (b : Int)) = ((a - b : Nat) : Int) := by rw [w64 (by omega) (by omega)]; omega
section
variable {ns : List Nat} (h20 : ∀ n ∈ ns, n ≤ 20) (h8 : ns.length ≤ 8)
include h20 h8
theorem chBest_loop {r l : List Nat} {left : Nat} (hr : r = ns.drop (l.length + 1)) (hl : l.length < ns.length) (hleft : left ≤ 40)
    (ih : ∀ d, d ≤ ns.getD l.length 0 → d ≤ left → left - d ≤ sumL r → Ev (fun k => spec_chBest.f k (toI ns) (toI (l ++ [d])) ((left - d : Nat) : Int)) (outS (bestOf ns (vis r (l ++ [d]) (left - d)) ([], 0)))) (e : Nat) :
    ∀ (d : Nat) (s : List Nat × Int), d + e = min (ns.getD l.length 0) left + 1 → 0 ≤ s.2 →
    Ev (fun k => spec_chBest.l0 k (toI ns) (toI l) (left : Int) (l.length : Int) (toI s.1) s.2 (d : Int)) (outS (bestOf ns ((List.range' d e).flatMap (visF r l left)) s)) := by
  have H1 := toI_len ns
  have H2 := toI_len l
  have HRD := Aside0.mk (toI_get hl)
  induction e with
  | zero =>
    intro d s hd h0
    show Ev _ (toI s.1, s.2)
    by_cases c : d ≤ ns.getD l.length 0
    · refine Ev.step (f := fun k => spec_chBest.j1 k (toI ns) (toI l) (left : Int) (l.length : Int) (toI s.1) s.2 (d : Int) false) (fun k => ?_) (Ev.step (f := fun _ => some (toI s.1, s.2)) (fun k => ?_) (Ev.now _))
      · simp only [spec_chBest.l0]
        rw [if_pos (by omega), if_pos (by omega), HRD.out, if_pos (by omega), decide_eq_false (by omega)]
      · simp only [spec_chBest.j1]
        rw [if_neg (by decide)]
    · refine Ev.step (f := fun k => spec_chBest.j1 k (toI ns) (toI l) (left : Int) (l.length : Int) (toI s.1) s.2 (d : Int) false) (fun k => ?_) (Ev.step (f := fun _ => some (toI s.1, s.2)) (fun k => ?_) (Ev.now _))
      · simp only [spec_chBest.l0]
        rw [if_pos (by omega), if_pos (by omega), HRD.out, if_neg (by omega)]
      · simp only [spec_chBest.j1]
        rw [if_neg (by decide)]
  | succ e ihe =>
    intro d s hd h0
    have HD := Aside0.mk (ws1 d (by omega))
    have HL1 := Aside0.mk (ws1 l.length (by omega))
    have HSUB := Aside0.mk (wsub (a := left) (b := d) (by omega) (by omega))
    have hsum := (sum_ev (ns := r) (fun n hn => h20 n (by rw [hr] at hn; exact List.mem_of_mem_drop hn)) (by rw [hr, List.length_drop]; omega)).2
    have hdr : (toI ns).drop (l.length + 1) = toI r := by rw [toI_drop, hr]
    have HDR := Aside0.mk hdr
    clear hdr
    have hsp : bestOf ns ((List.range' d (e + 1)).flatMap (visF r l left)) s = bestOf ns ((List.range' (d + 1) e).flatMap (visF r l left)) (bestOf ns (visF r l left d) s) := by
      rw [range_succ, List.flatMap_cons, bestOf_append]
    rw [hsp]
    clear hsp
    refine Ev.step (f := fun k => spec_chBest.j1 k (toI ns) (toI l) (left : Int) (l.length : Int) (toI s.1) s.2 (d : Int) true) (fun k => ?_) (Ev.step (f := fun k => (spec_soSum.f k (toI r)).bind fun t154 => if ((left - d : Nat) : Int) > t154 then spec_chBest.l0 k (toI ns) (toI l) (left : Int) (l.length : Int) (toI s.1) s.2 ((d + 1 : Nat) : Int) else (spec_l1Own.f (toI l)).bind fun t155 => if t155.length < 17592186044416 then (spec_chBest.f k (toI ns) (t155 ++ [(d : Int)]) ((left - d : Nat) : Int)).bind fun bt161 => (if bt161.2 > s.2 then spec_chBest.l0 k (toI ns) (toI l) (left : Int) (l.length : Int) bt161.1 bt161.2 ((d + 1 : Nat) : Int) else spec_chBest.l0 k (toI ns) (toI l) (left : Int) (l.length : Int) (toI s.1) s.2 ((d + 1 : Nat) : Int)) else none) (fun k => ?_) (Ev.bind hsum ?_))
    · simp only [spec_chBest.l0]
      rw [if_pos (by omega), if_pos (by omega), HRD.out, if_pos (by omega), decide_eq_true (by omega)]
    · simp only [spec_chBest.j1]
      rw [if_pos trivial, HL1.out, if_pos (by omega), if_pos (by omega), Int.toNat_natCast, HDR.out, HSUB.out, HD.out]
    · by_cases c : left - d ≤ sumL r
      · have e1 : visF r l left d = vis r (l ++ [d]) (left - d) := if_pos c
        rw [e1]
        have hrec := ih d (by omega) (by omega) c
        have hown := l1Own_at (l := toI l) (by omega)
        have hfrom := stp_from (wy ns) (vis r (l ++ [d]) (left - d)) s.1 [] s.2 0 h0
        have hse : bestOf ns (vis r (l ++ [d]) (left - d)) s = if s.2 < (bestOf ns (vis r (l ++ [d]) (left - d)) ([], 0)).2 then bestOf ns (vis r (l ++ [d]) (left - d)) ([], 0) else s := hfrom
        rw [hse]
        clear hse hfrom
        have hge := bestOf_ge ns (vis r (l ++ [d]) (left - d)) ([], 0)
        generalize bestOf ns (vis r (l ++ [d]) (left - d)) ([], 0) = t at *
        refine Ev.congr (f := fun k => (spec_chBest.f k (toI ns) (toI (l ++ [d])) ((left - d : Nat) : Int)).bind fun bt161 => (if bt161.2 > s.2 then spec_chBest.l0 k (toI ns) (toI l) (left : Int) (l.length : Int) bt161.1 bt161.2 ((d + 1 : Nat) : Int) else spec_chBest.l0 k (toI ns) (toI l) (left : Int) (l.length : Int) (toI s.1) s.2 ((d + 1 : Nat) : Int))) (fun k => ?_) (Ev.bind hrec ?_)
        · rw [if_neg (by omega), hown, Option.bind_some, if_pos (by omega), toI_snoc]
        · by_cases c2 : s.2 < t.2
          · rw [if_pos c2]
            refine Ev.congr (fun k => ?_) (ihe (d + 1) t (by omega) (by simpa using hge))
            rw [if_pos (show (outS t).2 > s.2 from c2)]
            rfl
          · rw [if_neg c2]
            refine Ev.congr (fun k => ?_) (ihe (d + 1) s (by omega) h0)
            rw [if_neg (show ¬ (outS t).2 > s.2 from c2)]
      · have e1 : visF r l left d = [] := if_neg c
        rw [e1]
        refine Ev.congr (fun k => ?_) (ihe (d + 1) s (by omega) h0)
        rw [if_pos (by omega)]
end
section
variable {ns : List Nat} (h20 : ∀ n ∈ ns, n ≤ 20) (h40 : sumL ns ≤ 40) (h8 : ns.length ≤ 8)
include h20 h40 h8
theorem chBest_ev : ∀ (r l : List Nat) (left : Nat), r = ns.drop l.length → Beg ns l → left ≤ sumL r →
    Ev (fun k => spec_chBest.f k (toI ns) (toI l) (left : Int)) (outS (bestOf ns (vis r l left) ([], 0)))
  | [], l, left, hr, hb, hleft => by
    have hll := hb.len
    have hlen : l.length = ns.length := by
      have := congrArg List.length hr
      simp at this
      omega
    obtain rfl : left = 0 := by simp [sumL] at hleft; exact hleft
    have H1 := toI_len ns
    have H2 := toI_len l
    have hw := wy_bound h20 h40 hb
    have e1 : bestOf ns (vis [] l 0) ([], 0) = (l, wy ns l) := by
      show stp (wy ns) ([], 0) l = _
      unfold stp
      rw [if_pos (show (0 : Int) < wy ns l by omega)]
    rw [e1]
    have hown := l1Own_at (l := toI l) (by omega)
    refine Ev.step (f := fun k => (spec_chWays.f k (toI ns) (toI l)).bind fun t => some (toI l, t)) (fun k => ?_) (Ev.bind (chWays_ev h20 h40 h8 hb) (Ev.now _))
    simp only [spec_chBest.f]
    rw [if_pos (by omega), hown, Option.bind_some]
  | n :: r, l, left, hr, hb, hleft => by
    have hll := hb.len
    have hlt : l.length < ns.length := by
      have := congrArg List.length hr
      simp at this
      omega
    have ed := drop_cons ns hlt
    rw [← hr] at ed
    obtain rfl : n = ns.getD l.length 0 := (List.cons.inj ed).1
    have hr2 : r = ns.drop (l.length + 1) := (List.cons.inj ed).2
    have H1 := toI_len ns
    have H2 := toI_len l
    have hs40 : left ≤ 40 := by
      have := drop_sum ns l.length
      rw [← hr] at this
      omega
    rw [vis_cons]
    have h1 := chBest_loop h20 h8 hr2 hlt hs40 (fun d hd _ hs => chBest_ev r (l ++ [d]) (left - d) (by rw [hr2]; simp) (hb.snoc hlt hd) hs) (min (ns.getD l.length 0) left + 1) 0 ([], 0) (by omega) (Int.le_refl _)
    refine Ev.step (fun k => ?_) h1
    simp only [spec_chBest.f]
    rw [if_neg (by omega), toI_len]
    rfl
end
/-- What both answer. -/
def drawF (l0 : List Int) (a1 : Int) : Option (List Int × Bool) :=
  if asked l0 a1 = true then (if Nd (nat l0) a1 > 5000 then some ([], false) else some (toI (bestOf (nat l0) (vis (nat l0) [] a1.toNat) ([], -1)).1, true)) else some ([], false)
theorem nat_toI (ns : List Nat) : nat (toI ns) = ns := by
  unfold nat toI
  rw [List.map_map]
  have : ns.map (Int.toNat ∘ fun n : Nat => (n : Int)) = ns.map id := List.map_congr_left fun x _ => by simp
  rw [this, List.map_id]
theorem drawF_spec (l0 : List Int) (a1 : Int) (hn : l0.length ≤ 1048576) : ∃ r : List Int × Bool, r.1.length ≤ 1048576 ∧ drawF l0 a1 = some r ∧ Ev (fun k => spec_LikeliestDraw.f k l0 a1) r := by
  obtain ⟨_, e2⟩ := asked_ev l0 a1 hn
  unfold drawF
  cases h : asked l0 a1 with
  | false =>
    rw [h] at e2
    refine ⟨([], false), by simp, by rw [if_neg (by decide)], Ev.bind e2 (Ev.congr (f := fun _ => some ([], false)) (fun k => by rw [if_neg (by decide)]) (Ev.now _))⟩
  | true =>
    rw [h] at e2
    obtain ⟨hf, h0, h1⟩ := asked_of h
    obtain ⟨ns, rfl, h20, hl1, hl8, hs1, hs40, ht⟩ := few_ns hf
    rw [ht] at h1
    obtain ⟨a, rfl⟩ := Int.eq_ofNat_of_zero_le h0
    rw [nat_toI, Int.toNat_natCast]
    have hsum := (sum_ev h20 hl8).2
    have hcnt := soCounts_ev a (by omega) ns h20 hl8
    have hdr : Ev (fun k => spec_soDraws.f k (toI ns) (a : Int)) (Nd ns (a : Int)) := by
      refine Ev.bind hsum (Ev.congr (f := fun k => (spec_soCounts.f k (toI ns) (a : Int) (-1)).bind fun t => some t) (fun k => ?_) (Ev.bind hcnt (Ev.now _)))
      rw [if_neg (by omega)]
    by_cases c : Nd ns (a : Int) > 5000
    · refine ⟨([], false), by simp, by rw [if_pos rfl, if_pos c], Ev.bind e2 (Ev.congr (f := fun k => (spec_soDraws.f k (toI ns) (a : Int)).bind fun t417 => if t417 > 5000 then some (([] : List Int), false) else (spec_chBest.f k (toI ns) ([] : List Int) (a : Int)).bind fun bt418 => some (bt418.1, true)) (fun k => by rw [if_pos rfl]) (Ev.bind hdr (Ev.congr (f := fun _ => some ([], false)) (fun k => by rw [if_pos c]) (Ev.now _))))⟩
    · have hb := chBest_ev h20 hs40 hl8 ns [] a (by simp) (by simp [Beg]) (by omega)
      have hz := stp_zero (wy ns) (vis ns [] a) (fun x hx => (wy_bound h20 hs40 (vis_beg ns ns [] a (by simp) (by simp) (by simp [Beg]) x hx)).1) []
      have hz2 : (bestOf ns (vis ns [] a) ([], -1)).1 = (bestOf ns (vis ns [] a) ([], 0)).1 := hz
      have hbeg : (bestOf ns (vis ns [] a) ([], 0)).1.length ≤ 8 := by
        have : ∀ (L : List (List Nat)) (s : List Nat × Int), (∀ x ∈ L, x.length ≤ 8) → s.1.length ≤ 8 → (bestOf ns L s).1.length ≤ 8 := fun L => by
          induction L with
          | nil => exact fun s _ hs => hs
          | cons x L ih =>
            intro s hx hs
            refine ih _ (fun y hy => hx y (List.mem_cons_of_mem _ hy)) ?_
            unfold stp
            split
            · exact hx x (List.mem_cons_self ..)
            · exact hs
        exact this _ _ (fun x hx => Nat.le_trans (vis_beg ns ns [] a (by simp) (by simp) (by simp [Beg]) x hx).len hl8) (by simp)
      refine ⟨(toI (bestOf ns (vis ns [] a) ([], -1)).1, true), by rw [hz2, toI_len]; omega, by rw [if_pos rfl, if_neg c], Ev.bind e2 (Ev.congr (f := fun k => (spec_soDraws.f k (toI ns) (a : Int)).bind fun t417 => if t417 > 5000 then some (([] : List Int), false) else (spec_chBest.f k (toI ns) ([] : List Int) (a : Int)).bind fun bt418 => some (bt418.1, true)) (fun k => by rw [if_pos rfl]) (Ev.bind hdr (Ev.congr (f := fun k => (spec_chBest.f k (toI ns) ([] : List Int) (a : Int)).bind fun bt418 => some (bt418.1, true)) (fun k => by rw [if_neg c]) (Ev.bind hb ?_))))⟩
      rw [hz2]
      exact Ev.now _
end Go.Proofs.Ytnikblimnjpmpaa.X

/- ==== HWaysDraw ==== -/
/- The program's waysOfDraw: its contract: the ways of a draw of few socks. -/
namespace Go.Proofs.Ytnikblimnjpmpaa.X
open Go.RowKit Go.Proofs.YtnikblimnjpmpaaW.PrintWords Go.Proofs.YtnikblimnjpmpaaW.PrintLast Go.Proofs.YtnikblimnjpmpaaW.PrintMore

set_option maxHeartbeats 4000000 in
set_option maxRecDepth 100000 in
theorem waysOfDraw_calls {ns l : List Nat} (h20 : ∀ n ∈ ns, n ≤ 20) (h8 : ns.length ≤ 8) (h40 : sumL ns ≤ 40) (hb : Beg ns l) (A0 A1 : Option Addr) (c0 c1 : Nat) (w : World) (hr0 : Kd.C (Kd.int .i64) w A0 ns.length (toI ns)) (hr1 : Kd.C (Kd.int .i64) w A1 l.length (toI l)) :
    Calls Try.prog 56 #[.slice A0 ns.length c0, .slice A1 l.length c1] w fun e w' => e = .returned (.int .i64 (wy ns l)) ∧ Below w.heap.size w w' := by
  have hll := hb.len
  have H20 := Aside0.mk h20
  have H40 := Aside0.mk h40
  have HBEG := Aside0.mk hb
  have HR0 := Aside0.mk hr0
  have HR1 := Aside0.mk hr1
  clear h20 h40 hb hr0 hr1
  generalize hL : ns.length = L at *
  generalize hM : l.length = M at *
  have HL := Aside0.mk hL
  have HM := Aside0.mk hM
  clear hL hM
  go_enter Try.func56, Try.ntmps56
  go_wp2
  go_loopg [5, 6, 7, 10] M (fun gg s5 _ _ s10 wr => ∃ kk : Nat, kk ≤ M ∧ M - kk ≤ gg ∧ s10 = .int .i64 kk ∧ s5 = .int .i64 (wy ns (l.take kk)) ∧ Aside0 (Below w.heap.size w wr))
  case atStart => exact ⟨0, Nat.zero_le _, by omega, rfl, by cases ns <;> rfl, ⟨Below.refl _ _⟩⟩
  case round =>
    obtain ⟨kk, hkk, hgg, rfl, rfl, HB⟩ := hrel
    by_cases hlt : kk < M
    · have hltz : (kk : Int) < (M : Int) := by omega
      have hltz2 : (kk : Int) < (L : Int) := by omega
      have hkl : kk < l.length := by rw [HM.out]; exact hlt
      have hkn : kk < ns.length := by rw [HL.out]; omega
      obtain ⟨ad1, e1, hx1⟩ := Kd.at_int HR1.out (kk : Int) (by omega) hltz
      cases e1
      obtain ⟨ad0, e0, hx0⟩ := Kd.at_int HR0.out (kk : Int) (by omega) hltz2
      cases e0
      replace hx1 := (HB.out.cell (World.block_lt_of_cell? w _ hx1)).trans hx1
      replace hx0 := (HB.out.cell (World.block_lt_of_cell? w _ hx0)).trans hx0
      rw [Int.toNat_natCast, toI_get hkl] at hx1
      rw [Int.toNat_natCast, toI_get hkn] at hx0
      have hat := HBEG.out.at hkl
      have hn20 : ns.getD kk 0 ≤ 20 := by
        have := H20.out _ (List.getElem_mem hkn)
        simpa [List.getD_eq_getElem?_getD, hkn] using this
      have HC := Aside0.mk (fun W => impl_choose.calls 100 ((ns.getD kk 0 : Nat) : Int) ((l.getD kk 0 : Nat) : Int) (wB (ns.getD kk 0) (l.getD kk 0)) W (chkB_at (by omega) hat).1)
      have htk : l.take (kk + 1) = l.take kk ++ [l.getD kk 0] := by
        rw [List.take_succ_eq_append_getElem hkl]
        simp [List.getD_eq_getElem?_getD, hkl]
      have htl : (l.take kk).length = kk := by rw [List.length_take]; omega
      have hw := wy_snoc (HBEG.out.take kk) (by rw [htl]; exact hkn) (l.getD kk 0)
      rw [htl, ← htk] at hw
      have hp1 := (wy_bound H20.out H40.out (HBEG.out.take kk)).1
      have hp2 := (wy_bound H20.out H40.out (HBEG.out.take (kk + 1)))
      have hp3 := wB_pos (show ns.getD kk 0 ≤ 40 by omega) hat
      rw [hw] at hp2
      have hwm := (wrapm hp1 hp3 hp2.2).trans hw.symm
      have HWM := Aside0.mk hwm
      clear hwm hp1 hp2 hp3 hw htl htk hat hn20 hkl hkn hltz2
      generalize wy ns (l.take kk) = y at *
      generalize wB (ns.getD kk 0) (l.getD kk 0) = v at *
      generalize ns.getD kk 0 = own at *
      generalize l.getD kk 0 = n at *
      go_wp2_with (go_at_call 38; refine (HC.out _).mono ?_; rintro e w6 ⟨rfl, hb⟩; have HB6 := Aside0.mk (HB.out.trans (hb.mono HB.out.size)); clear hb)
      go_roundg (M - (kk + 1))
      case measure => omega
      case rel => exact ⟨kk + 1, by omega, by omega, by go_num, by rw [HWM.out], HB6⟩
    · have hltz : ¬ (kk : Int) < (M : Int) := by omega
      have e0 : kk = M := by omega
      have ht : l.take kk = l := by rw [e0, ← HM.out, List.take_length]
      rw [ht] at *
      clear e0 ht
      go_wp2
      go_ret
      exact ⟨rfl, HB.out⟩
end Go.Proofs.Ytnikblimnjpmpaa.X

/- ==== HClone ==== -/
/- The library's slices.Clone at one element type: its contract: a new row that holds the same. -/
namespace Go.Proofs.Ytnikblimnjpmpaa.X
open Go.RowKit Go.Proofs.YtnikblimnjpmpaaW.PrintWords Go.Proofs.YtnikblimnjpmpaaW.PrintLast Go.Proofs.YtnikblimnjpmpaaW.PrintMore

def slices_Clone_int_int.f (l0 : List Int) : Option (List Int) := if l0.length < 17592186044416 then some l0 else none
set_option maxHeartbeats 8000000 in
set_option maxRecDepth 100000 in
theorem slices_Clone_int_int.calls (A0 : Option Addr) (c0 : Nat) (l0 : List Int) (r : List Int) (w : World) (hr0 : Kd.C (Kd.int .i64) w A0 l0.length l0) (_hc0 : l0.length ≤ c0) (h : slices_Clone_int_int.f l0 = some r) :
    Calls Try.prog 57 #[.slice A0 l0.length c0] w fun e w' => ∃ v0_ : Value, e = .returned (v0_) ∧ Kd.R (Kd.int .i64) 3 w' w.heap.size (fun _ => True) v0_ r ∧ Below w.heap.size w w' := by
  have HR0 := Aside0.mk hr0
  have HB := Aside0.mk (Below.refl w.heap.size w)
  unfold slices_Clone_int_int.f at h
  by_cases c2 : l0.length < 17592186044416
  · rw [if_pos c2] at h
    obtain rfl := Option.some.inj h
    clear h
    have LMc2 := Aside0.mk c2
    clear c2
    have hnil : ∀ (W : World), (binOp .eql 22 (.slice A0 l0.length c0) (.slice none 0 0)).run Try.prog W = .ok (.bool A0.isNone) W := fun W => Lib.run_eql_slice_nil W 22 3 A0 l0.length c0 0 0 Try.underlying22
    cases A0 with
    | none =>
      have hl : l0 = [] := by
        cases l0 with
        | nil => rfl
        | cons x t =>
          obtain ⟨ad, e, _⟩ := hr0.2.2 (by simp)
          cases e
      subst hl
      clear hr0 hnil
      have hnil0 : ∀ (W : World), (binOp .eql 22 (.slice none 0 c0) (.slice none 0 0)).run Try.prog W = .ok (.bool true) W := fun W => Lib.run_eql_slice_nil W 22 3 none 0 c0 0 0 Try.underlying22
      show Calls Try.prog 57 #[.slice none 0 c0] w _
      go_enter Try.func57, Try.ntmps57
      go_wp2
      go_ret
      exact ⟨_, rfl, Kd.R_nil _ _ _ _ _, HB.out⟩
    | some ad =>
      clear hr0
      obtain ⟨y157, hy157⟩ : ∃ y_ : List Int, y_ = [] := ⟨_, rfl⟩
      have Ny157 := Aside0.mk hy157
      clear hy157
      go_enter Try.func57, Try.ntmps57
      go_wp2_with (first | ((with_reducible refine gate_dst (N := 5) rfl ?_); refine Kd.R_lit (Kd.int .i64) _ 3 ?hg (N := 5) ?hd (xs := ([] : List Int)) (inner := []) (ok := fun _ => True) (okp := fun _ => True) ?hr ?hp (fun _ hk => hk) trivial (Below.refl _ _) (Nat.le_refl _) (by simp) ?_; (case hd => rfl); (case hg => rfl); (case hr => first | (go_simp; done) | (go_simp; rfl)); (case hp => exact (Reps.none _ _)); intro v158 w3 ho4 hb hg_ hnew_; clear hg_ hnew_; rw [← Ny157.out] at ho4; have n0_ := Aside0.mk (Kd.R_lower ho4 (below_size (by repeat (first | (with_reducible first | exact HB.out | apply below_alloc | apply pw_below_drewN | apply below_drew1) | exact HB.out)))); have n1_ := Aside0.mk (below_step (by repeat (first | (with_reducible first | exact HB.out | apply below_alloc | apply pw_below_drewN | apply below_drew1) | exact HB.out)) hb); clear HB; have HO159 := n0_; have HB := n1_; clear n0_ n1_; clear hb ho4) | ((with_reducible refine gate_builtin (b := .append) (xs := #[.tmp 5, .tmp 6]) rfl ?_); at_builtin; refine Kd.R_append_rows (Kd.int .i64) (w0 := w) w.heap.size rfl (.tmp 5) (.tmp 6) 22 3 (.int .i64 0) 8 rfl Try.underlying22 info3 rfl (by decide) (by omega) v158 y157 l0 _ _ _ (fun _ => True) (fun _ => False) rfl rfl ?aO ?aR (fun _ _ h => h) (fun _ h => h.elim) ?aF ?aB ?aS ?aL ?_; (case aR => repeat (first | exact (Kd.C_below HR0.out HB.out) | (with_reducible refine Kd.C_alloc ?_ _) | (with_reducible refine Kd.C_drewN ?_ _) | (with_reducible refine Kd.C_drew ?_))); (case aB => exact (by repeat (first | (with_reducible first | exact HB.out | apply below_alloc | apply pw_below_drewN | apply below_drew1) | exact HB.out))); (case aF => exact (fun _ _ => trivial)); (case aO => exact (by (with_reducible repeat (first | apply Kd.R_alloc | apply Kd.R_drewN | apply Kd.R_drew)); exact HO159.out)); (case aS => exact (below_size (by repeat (first | (with_reducible first | exact HB.out | apply below_alloc | apply pw_below_drewN | apply below_drew1) | exact HB.out)))); (case aL => have := LMc2.out; rw [Ny157.out]; simp; omega); intro v161 w5 ho hb hg hat; rw [Ny157.out, List.nil_append] at ho; have n0_ := Aside0.mk (hb); have n1_ := Aside0.mk (ho); clear HB; clear HO159; have HB := n0_; have HO162 := n1_; clear n0_ n1_; clear ho hb hg hat))
      go_ret
      exact ⟨_, rfl, HO162.out, HB.out⟩
  · rw [if_neg c2] at h
    cases h

end Go.Proofs.Ytnikblimnjpmpaa.X

/- ==== HLook ==== -/
/- What the program's search for the likeliest draw holds in memory, and the call of its function value at a whole draw. -/
namespace Go.Proofs.Ytnikblimnjpmpaa.X
open Go.RowKit Go.Proofs.YtnikblimnjpmpaaW.PrintWords Go.Proofs.YtnikblimnjpmpaaW.PrintLast Go.Proofs.YtnikblimnjpmpaaW.PrintMore

/-- All but two blocks is as it was. -/
structure Kp (bw bb : Nat) (W W' : World) : Prop where
  os : W'.os = W.os
  tape : W'.tape = W.tape
  output : W'.output = W.output
  size : W.heap.size ≤ W'.heap.size
  block : ∀ k, k < W.heap.size → k ≠ bw → k ≠ bb → W'.heap[k]? = W.heap[k]?
section
variable {bw bb : Nat} {W W1 W2 : World}
theorem Kp.refl (W : World) : Kp bw bb W W := ⟨rfl, rfl, rfl, Nat.le_refl _, fun _ _ _ _ => rfl⟩
theorem Kp.trans (h : Kp bw bb W W1) (k : Kp bw bb W1 W2) : Kp bw bb W W2 :=
  ⟨k.os.trans h.os, k.tape.trans h.tape, k.output.trans h.output, Nat.le_trans h.size k.size, fun i hi h1 h2 => (k.block i (Nat.lt_of_lt_of_le hi h.size) h1 h2).trans (h.block i hi h1 h2)⟩
theorem Kp.of_below (h : Below W.heap.size W W1) : Kp bw bb W W1 := ⟨h.os, h.tape, h.output, h.size, fun k hk _ _ => h.block k hk⟩
theorem Kp.set (h : Kp bw bb W W1) {p : Addr} (hp : p.block = bw ∨ p.block = bb) (u : Value) : Kp bw bb W (W1.setCell p u) :=
  h.trans ⟨rfl, rfl, rfl, by simp [World.setCell], fun k _ h1 h2 => Below.heap_setCell _ _ _ _ (by rcases hp with hp | hp <;> omega)⟩
theorem Kp.below (h : Kp bw bb W W1) {B : Nat} (h1 : B ≤ bw) (h2 : B ≤ bb) (h3 : B ≤ W.heap.size) : Below B W W1 := ⟨h.os, h.tape, h.output, h.size, fun k hk => h.block k (by omega) (by omega) (by omega)⟩
theorem Kp.cell (h : Kp bw bb W W1) {p : Addr} (hp : p.block < W.heap.size) (h1 : p.block ≠ bw) (h2 : p.block ≠ bb) : W1.cell? p = W.cell? p := World.cell?_of_block (w := W) (h.block p.block hp h1 h2)
theorem Kp.reads (h : Kp bw bb W W1) {A : Option Addr} {n : Nat} {xs : List Int} (hA : ∀ ad, A = some ad → ad.block ≠ bw ∧ ad.block ≠ bb) (hr : Kd.C (Kd.int .i64) W A n xs) : Kd.C (Kd.int .i64) W1 A n xs := by
  have h0 := Kd.reads_of_C (d := (0 : Int)) hr
  refine Kd.C_of_reads (d := (0 : Int)) (h1 := fun _ => rfl) ⟨h0.1, h0.2.1, fun hn => ?_⟩
  obtain ⟨ad, e, hc⟩ := h0.2.2 hn
  obtain ⟨n1, n2⟩ := hA ad e
  refine ⟨ad, e, fun j hj => ?_⟩
  have h1 := hc j hj
  have hb : (ad.add j).block = ad.block := by
    unfold Addr.add
    first | rfl | (split <;> rfl)
  exact (h.cell (p := ad.add j) (World.block_lt_of_cell? W _ h1) (by rw [hb]; exact n1) (by rw [hb]; exact n2)).trans h1
end
/-- The search's cells: the socks, the function value itself, the best draw so far and its ways. -/
structure Look (A0 : Option Addr) (c0 : Nat) (ns : List Nat) (B bs bw bb bd : Nat) (W : World) (s : List Nat × Int) : Prop where
  soc : W.cell? ⟨bs, 0, none⟩ = some (.slice A0 ns.length c0)
  rds : Kd.C (Kd.int .i64) W A0 ns.length (toI ns)
  fn : W.cell? ⟨bd, 0, none⟩ = some (.func (.func 55) #[] #[.pointer (some ⟨bs, 0, none⟩), .pointer (some ⟨bw, 0, none⟩), .pointer (some ⟨bb, 0, none⟩), .pointer (some ⟨bd, 0, none⟩)])
  cw : W.cell? ⟨bw, 0, none⟩ = some (.int .i64 s.2)
  fw : W.frozen? ⟨bw, 0, none⟩ = false
  fb : W.frozen? ⟨bb, 0, none⟩ = false
  cb : ∃ v, W.cell? ⟨bb, 0, none⟩ = some v ∧ Kd.R (Kd.int .i64) 3 W B (fun k => k ≠ bw ∧ k ≠ bb) v (toI s.1)
  ne : bs ≠ bw ∧ bs ≠ bb ∧ bd ≠ bw ∧ bd ≠ bb ∧ bw ≠ bb ∧ B ≤ bw ∧ B ≤ bb ∧ B ≤ W.heap.size
  far : ∀ ad, A0 = some ad → ad.block ≠ bw ∧ ad.block ≠ bb
section
variable {A0 : Option Addr} {c0 : Nat} {ns : List Nat} {B bs bw bb bd : Nat} {W W1 : World} {s : List Nat × Int}
theorem Look.lts (h : Look A0 c0 ns B bs bw bb bd W s) : bs < W.heap.size ∧ bd < W.heap.size ∧ bw < W.heap.size ∧ bb < W.heap.size := by
  obtain ⟨v, hv, _⟩ := h.cb
  exact ⟨World.block_lt_of_cell? W _ h.soc, World.block_lt_of_cell? W _ h.fn, World.block_lt_of_cell? W _ h.cw, World.block_lt_of_cell? W _ hv⟩
theorem Look.below (h : Look A0 c0 ns B bs bw bb bd W s) (hb : Below W.heap.size W W1) : Look A0 c0 ns B bs bw bb bd W1 s := by
  obtain ⟨l1, l2, l3, l4⟩ := h.lts
  obtain ⟨v, hv, hr⟩ := h.cb
  obtain ⟨n1, n2, n3, n4, n5, n6, n7, n8⟩ := h.ne
  exact ⟨(hb.cell l1).trans h.soc, Kd.C_below h.rds hb, (hb.cell l2).trans h.fn, (hb.cell l3).trans h.cw, (hb.frozen l3).trans h.fw, (hb.frozen l4).trans h.fb, ⟨v, (hb.cell l4).trans hv, Kd.R_below hr hb⟩, ⟨n1, n2, n3, n4, n5, n6, n7, Nat.le_trans n8 hb.size⟩, h.far⟩
theorem Look.stored (h : Look A0 c0 ns B bs bw bb bd W s) {v : Value} {l : List Nat} (n : Int) (hr : Kd.R (Kd.int .i64) 3 W B (fun k => k ≠ bw ∧ k ≠ bb) v (toI l)) :
    Look A0 c0 ns B bs bw bb bd ((W.setCell ⟨bb, 0, none⟩ v).setCell ⟨bw, 0, none⟩ (.int .i64 n)) (l, n) := by
  obtain ⟨l1, l2, l3, l4⟩ := h.lts
  obtain ⟨v0, hv0, _⟩ := h.cb
  obtain ⟨n1, n2, n3, n4, n5, n6, n7, n8⟩ := h.ne
  have hk : Kp bw bb W ((W.setCell ⟨bb, 0, none⟩ v).setCell ⟨bw, 0, none⟩ (.int .i64 n)) := ((Kp.refl W).set (p := ⟨bb, 0, none⟩) (.inr rfl) v).set (p := ⟨bw, 0, none⟩) (.inl rfl) _
  refine ⟨(hk.cell l1 n1 n2).trans h.soc, hk.reads h.far h.rds, (hk.cell l2 n3 n4).trans h.fn, ?_, ?_, ?_, ⟨v, ?_, ?_⟩, ⟨n1, n2, n3, n4, n5, n6, n7, Nat.le_trans n8 hk.size⟩, h.far⟩
  · have h1 : (W.setCell ⟨bb, 0, none⟩ v).cell? ⟨bw, 0, none⟩ = some (.int .i64 s.2) := (World.cell?_setCell_other _ _ _ _ (by intro e; exact n5 (congrArg Addr.block e).symm)).trans h.cw
    exact World.cell?_setCell_same _ _ _ h1
  · simpa using h.fw
  · simpa using h.fb
  · rw [World.cell?_setCell_other _ _ _ _ (by intro e; exact n5 (congrArg Addr.block e))]
    exact World.cell?_setCell_same _ _ _ hv0
  · exact Kd.R_far (Kd.R_far hr (fun k hk => hk.2) _) (fun k hk => hk.1) _
end
def Looked (A0 : Option Addr) (c0 : Nat) (ns : List Nat) (B bs bw bb bd : Nat) (W : World) (t : List Nat × Int) (e : Ending) (W' : World) : Prop := e = .returned (.tuple #[]) ∧ Look A0 c0 ns B bs bw bb bd W' t ∧ Kp bw bb W W'
end Go.Proofs.Ytnikblimnjpmpaa.X

/- ==== HLeaf ==== -/
/- The program's search for the likeliest draw, its function value called at a whole draw: the contract. -/
namespace Go.Proofs.Ytnikblimnjpmpaa.X
open Go.RowKit Go.Proofs.YtnikblimnjpmpaaW.PrintWords Go.Proofs.YtnikblimnjpmpaaW.PrintLast Go.Proofs.YtnikblimnjpmpaaW.PrintMore

set_option maxHeartbeats 4000000 in
set_option maxRecDepth 100000 in
theorem leaf_calls {ns l : List Nat} (h20 : ∀ n ∈ ns, n ≤ 20) (h8 : ns.length ≤ 8) (h40 : sumL ns ≤ 40) (hb : Beg ns l) (hl : l.length = ns.length) (A0 A1 : Option Addr) (c0 c1 B bs bw bb bd : Nat) (s : List Nat × Int) (W : World)
    (hk : Look A0 c0 ns B bs bw bb bd W s) (hr1 : Kd.C (Kd.int .i64) W A1 l.length (toI l)) (hc1 : l.length ≤ c1) :
    Calls Try.prog 55 #[.slice A1 l.length c1, .int .i64 0, .pointer (some ⟨bs, 0, none⟩), .pointer (some ⟨bw, 0, none⟩), .pointer (some ⟨bb, 0, none⟩), .pointer (some ⟨bd, 0, none⟩)] W (Looked A0 c0 ns B bs bw bb bd W (stp (wy ns) s l)) := by
  obtain ⟨l1, l2, l3, l4⟩ := hk.lts
  have hne := hk.ne
  have hsoc := hk.soc
  have hcw := hk.cw
  have HWD := Aside0.mk (waysOfDraw_calls h20 h8 h40 hb A0 A1 c0 c1 W hk.rds hr1)
  have hlen := toI_len l
  have HCL := Aside0.mk (fun W1 (hB : Below W.heap.size W W1) => slices_Clone_int_int.calls A1 c1 (toI l) (toI l) W1 (by have := Kd.C_below hr1 hB; rw [hlen]; exact this) (by rw [hlen]; exact hc1) (by unfold slices_Clone_int_int.f; rw [if_pos (by omega)]))
  rw [hlen] at HCL
  have HK := Aside0.mk hk
  have HSW := Aside0.mk l3
  have HSB := Aside0.mk l4
  have HNE := Aside0.mk hne
  clear hr1 hc1 hlen h20 h8 h40 hb hk hne
  rw [← hl] at hsoc HWD
  unfold stp
  generalize wy ns l = y at *
  obtain ⟨sb, sw⟩ := s
  simp only at hcw ⊢
  generalize hM : l.length = M at *
  have HM := Aside0.mk hM
  clear hM hl l1 l2 l4
  by_cases c : sw < y
  · rw [if_pos c]
    go_enter Try.func55, Try.ntmps55
    go_wp2_with (first | (go_at_call 56; ((with_reducible refine HWD.out.mono ?_); rintro e w1 ⟨rfl, hb⟩; have hcw1 := (hb.cell (p := ⟨bw, 0, none⟩) HSW.out).trans hcw; have HB1 := Aside0.mk hb; clear hb)) | (go_at_call 57; ((with_reducible refine (HCL.out _ HB1.out).mono ?_); rintro e w2 ⟨v, rfl, ho, hb⟩; obtain ⟨A2, c2, rfl⟩ := Kd.R_slice ho; have HB2 := Aside0.mk (HB1.out.trans (hb.mono HB1.out.size)); have HO := Aside0.mk (Kd.R_lower (Kd.R_mono (ok' := fun k => k ≠ bw ∧ k ≠ bb) (Kd.R_bound (Kd.R_lower ho HB1.out.size)) (fun k hk => ⟨by have := hk.2.1; have := HSW.out; omega, by have := hk.2.1; have := HSB.out; omega⟩)) HNE.out.2.2.2.2.2.2.2); have hfb := (HK.out.below HB2.out).fb; have hfw := (HK.out.below HB2.out).fw; obtain ⟨v0, hv0, _⟩ := (HK.out.below HB2.out).cb; have hcw3 : (w2.setCell ⟨bb, 0, none⟩ (.slice A2 (toI l).length c2)).cell? ⟨bw, 0, none⟩ = some (.int .i64 sw) := (World.cell?_setCell_other _ _ _ _ (by intro e; exact HNE.out.2.2.2.2.1 (congrArg Addr.block e).symm)).trans (HK.out.below HB2.out).cw; clear ho hb)))
    go_end0
    exact ⟨rfl, (HK.out.below HB2.out).stored y HO.out, ((Kp.of_below HB2.out).set (p := ⟨bb, 0, none⟩) (.inr rfl) _).set (p := ⟨bw, 0, none⟩) (.inl rfl) _⟩
  · rw [if_neg c]
    go_enter Try.func55, Try.ntmps55
    go_wp2_with (go_at_call 56; ((with_reducible refine HWD.out.mono ?_); rintro e w1 ⟨rfl, hb⟩; have hcw1 := (hb.cell (p := ⟨bw, 0, none⟩) HSW.out).trans hcw; have HB1 := Aside0.mk hb; clear hb))
    go_end0
    exact ⟨rfl, HK.out.below HB1.out, Kp.of_below HB1.out⟩
end Go.Proofs.Ytnikblimnjpmpaa.X

/- ==== HNode ==== -/
/- The program's search for the likeliest draw, its function value called at a draw's begin: the contract. -/
namespace Go.Proofs.Ytnikblimnjpmpaa.X
open Go.RowKit Go.Proofs.YtnikblimnjpmpaaW.PrintWords Go.Proofs.YtnikblimnjpmpaaW.PrintLast Go.Proofs.YtnikblimnjpmpaaW.PrintMore
attribute [local go_sem] max2_int min2_int max_two min_two

/-- The values skipped at the begin bring nothing. -/
theorem vis_from {r l : List Nat} {left m lo : Nat} (hlo : lo = left - sumL r) (hm : lo ≤ m + 1) : (List.range' 0 (m + 1)).flatMap (visF r l left) = (List.range' lo (m + 1 - lo)).flatMap (visF r l left) := by
  have h1 : List.range' 0 (m + 1) = List.range' 0 lo ++ List.range' lo (m + 1 - lo) := by
    have := List.range'_append_1 (s := 0) (m := lo) (n := m + 1 - lo)
    rw [Nat.zero_add, show lo + (m + 1 - lo) = m + 1 by omega] at this
    exact this.symm
  rw [h1, List.flatMap_append]
  have h2 : (List.range' 0 lo).flatMap (visF r l left) = [] := by
    rw [List.flatMap_eq_nil_iff]
    intro d hd
    rw [List.mem_range'_1] at hd
    unfold visF
    rw [if_neg (by omega)]
  rw [h2, List.nil_append]
theorem box_C (W : World) (d : Int) (t : TypeId) : Kd.C (Kd.int .i64) (W.alloc (.cells #[.int .i64 d] t)) (some ⟨W.heap.size, 0, none⟩) 1 [d] := by
  refine Kd.C_of_reads (d := (0 : Int)) (h1 := fun _ => rfl) ⟨rfl, by omega, fun _ => ⟨_, rfl, fun j hj => ?_⟩⟩
  obtain rfl : j = 0 := by omega
  rw [Addr.add_zero']
  simp
/-- What the call does at one number more of the next colour. -/
def Goes (A0 : Option Addr) (c0 : Nat) (ns : List Nat) (B bs bw bb bd : Nat) (l : List Nat) (left : Nat) : Prop := ∀ (s : List Nat × Int) (v : Value) (W : World), Look A0 c0 ns B bs bw bb bd W s → Kd.R (Kd.int .i64) 3 W B (fun k => k ≠ bw ∧ k ≠ bb) v (toI l) →
  Calls Try.prog 55 #[v, .int .i64 (left : Int), .pointer (some ⟨bs, 0, none⟩), .pointer (some ⟨bw, 0, none⟩), .pointer (some ⟨bb, 0, none⟩), .pointer (some ⟨bd, 0, none⟩)] W (Looked A0 c0 ns B bs bw bb bd W (bestOf ns (vis (ns.drop l.length) l left) s))
set_option maxHeartbeats 8000000 in
set_option maxRecDepth 100000 in
theorem node_calls {ns l : List Nat} (h20 : ∀ n ∈ ns, n ≤ 20) (h8 : ns.length ≤ 8) (h40 : sumL ns ≤ 40) (hb : Beg ns l) (hl : l.length < ns.length) (left : Nat) (hleft : left ≤ sumL (ns.drop l.length)) (A0 A1 : Option Addr) (c0 c1 B bs bw bb bd : Nat) (s : List Nat × Int) (W : World)
    (ih : ∀ d, d ≤ ns.getD l.length 0 → d ≤ left → left - d ≤ sumL (ns.drop (l.length + 1)) → Goes A0 c0 ns B bs bw bb bd (l ++ [d]) (left - d))
    (hk : Look A0 c0 ns B bs bw bb bd W s) (hr1 : Kd.C (Kd.int .i64) W A1 l.length (toI l)) (hc0 : ns.length ≤ c0) (hc1 : l.length ≤ c1) (hA1 : ∀ ad, A1 = some ad → ad.block ≠ bw ∧ ad.block ≠ bb) :
    Calls Try.prog 55 #[.slice A1 l.length c1, .int .i64 (left : Int), .pointer (some ⟨bs, 0, none⟩), .pointer (some ⟨bw, 0, none⟩), .pointer (some ⟨bb, 0, none⟩), .pointer (some ⟨bd, 0, none⟩)] W (Looked A0 c0 ns B bs bw bb bd W (bestOf ns (vis (ns.drop l.length) l left) s)) := by
  obtain ⟨own, hown⟩ : ∃ n, n = ns.getD l.length 0 := ⟨_, rfl⟩
  obtain ⟨r, hr⟩ : ∃ r, r = ns.drop (l.length + 1) := ⟨_, rfl⟩
  have hcons := drop_cons ns hl
  rw [← hown, ← hr] at hcons ih
  rw [hcons] at hleft ⊢
  rw [vis_cons, vis_from (lo := left - sumL r) rfl (by rw [sumL_cons] at hleft; omega)]
  rw [sumL_cons] at hleft
  obtain ⟨rest, hrest⟩ : ∃ n, n = sumL r := ⟨_, rfl⟩
  obtain ⟨k1, hk1⟩ := (sum_ev (ns := r) (fun n hn => h20 n (by rw [hr] at hn; exact List.mem_of_mem_drop hn)) (by rw [hr, List.length_drop]; omega)).1.rounds
  rw [← hrest] at hk1 hleft ih ⊢
  obtain ⟨fin, hfin⟩ : ∃ f, f = bestOf ns ((List.range' (left - rest) (min own left + 1 - (left - rest))).flatMap (visF r l left)) s := ⟨_, rfl⟩
  rw [← hfin]
  have HFIN := Aside0.mk hfin.symm
  obtain ⟨m, hm⟩ : ∃ m, m = min own left := ⟨_, rfl⟩
  rw [← hm] at HFIN
  have hmo : m ≤ own ∧ m ≤ left ∧ (m = own ∨ m = left) := by omega
  have HREST := Aside0.mk hrest
  clear hfin hm
  have hs40 : own + rest ≤ 40 := by
    have := drop_sum ns l.length
    rw [hcons, sumL_cons] at this
    omega
  have hlen := toI_len l
  have hlenn := toI_len ns
  have hdr : (toI ns).drop (l.length + 1) = toI r := by rw [toI_drop, hr]
  have hgo : rd (toI ns) (l.length : Int) = (own : Int) := by rw [toI_get hl, ← hown]
  have HRD := Aside0.mk hgo
  have HDR := Aside0.mk hdr
  have HIH := Aside0.mk ih
  have HK := Aside0.mk hk
  have HRL := Aside0.mk hr1
  have HC1 := Aside0.mk hc1
  have HC0 := Aside0.mk hc0
  have HA1 := Aside0.mk hA1
  have HK1 := Aside0.mk hk1
  have HB := Aside0.mk hb
  have HLN := Aside0.mk hlen
  have HLNN := Aside0.mk hlenn
  have hsoc := hk.soc
  clear hgo hdr ih hk hr1 hc0 hc1 hA1 hk1 hb hlen hlenn hown hcons h20 hrest h40
  generalize hM : l.length = M at *
  have HM := Aside0.mk hM
  clear hM
  generalize hL : ns.length = L at *
  have HL := Aside0.mk hL
  clear hL
  have hMLb : ((M : Int) == (L : Int)) = false := by simp; omega
  have hML : ¬ (M : Int) = (L : Int) := by omega
  -- the rest's total
  have hM0 : (0 : Int) ≤ (M : Int) + 1 := by omega
  have hM1 : (M : Int) + 1 ≤ ((toI ns).length : Int) := by rw [HLNN.out]; omega
  obtain ⟨i028, hi028, _, hsz28, _⟩ := info_parts info3
  obtain ⟨A28, hcut28, hA28, hC28⟩ := print_drop_of (P := Try.prog) (Value.int .i64) 0 22 3 .i64 Try.underlying22 hi028 hsz28 A0 c0 (toI ns) ((M : Int) + 1) hM0 hM1 (by rw [HLNN.out]; exact HC0.out)
  rw [show ((M : Int) + 1).toNat = M + 1 by omega, HDR.out] at hcut28 hA28 hC28
  have HTOT := Aside0.mk (fun W1 (hB : Below W.heap.size W W1) => impl_total.calls k1 A28 (c0 - (M + 1)) (toI r) (rest : Int) W1 (Kd.C_of_reads (h1 := fun _ => rfl) (hA28 _ (Kd.reads_of_C (Kd.C_below (by have := HK.out.rds; rw [HL.out] at this; rw [HLNN.out]; exact this) hB)))) hC28 HK1.out)
  have hcut : ∀ W : World, (Instr.slice 22 (.slice A0 L c0) (some (.int .i64 ((M : Int) + 1))) none none).run Try.prog W = .ok (.slice A28 (toI r).length (c0 - (M + 1))) W := fun W => by
    have := hcut28 W
    rw [HLNN.out] at this
    exact this
  have HRE := Aside0.mk hr
  clear hcut28 hA28 hC28 hi028 hsz28 hr
  go_enter Try.func55, Try.ntmps55
  go_wp2_with (go_at_call 40; ((with_reducible refine (HTOT.out _ (Below.refl _ _)).mono ?_); rintro e w1 ⟨rfl, hb⟩; have HB1 := Aside0.mk hb.below; clear hb))
  all_goals
    go_loopg [11] (m + 2) (fun gg s11 wr => ∃ (k : Nat) (t : List Nat × Int), left - rest ≤ k ∧ k ≤ m + 1 ∧ m + 1 - k ≤ gg ∧ s11 = .int .i64 k ∧ Aside0 (Look A0 c0 ns B bs bw bb bd wr t) ∧ Aside0 (Kp bw bb W wr) ∧ Aside0 (bestOf ns ((List.range' k (m + 1 - k)).flatMap (visF r l left)) t = fin))
    case atStart => exact ⟨left - rest, s, Nat.le_refl _, by omega, by omega, congrArg (Value.int .i64) (by omega), ⟨HK.out.below HB1.out⟩, ⟨Kp.of_below HB1.out⟩, HFIN⟩
    case round =>
      obtain ⟨k, t, hk0, hk1, hgg, rfl, HLK, HKP, HF⟩ := hrel
      have hsoc := HLK.out.soc
      rw [HL.out] at hsoc
      obtain ⟨ad0, e0, hx0⟩ := Kd.at_int (by have := HLK.out.rds; rw [HL.out] at this; exact this) (M : Int) (by omega) (by omega)
      cases e0
      rw [HRD.out, Int.toNat_natCast] at hx0
      have hMz : (M : Int) < (L : Int) := by omega
      by_cases hle : k ≤ m
      · have hko : (k : Int) ≤ (own : Int) := by omega
        have hkl : (k : Int) ≤ (left : Int) := by omega
        have HRLr := Aside0.mk (HKP.out.reads HA1.out HRL.out)
        have HBr := Aside0.mk (Below.refl wr.heap.size wr)
        have HCL := Aside0.mk (fun W1 (hB : Below wr.heap.size wr W1) => slices_Clone_int_int.calls A1 c1 (toI l) (toI l) W1 (by have := Kd.C_below HRLr.out hB; rw [HLN.out]; exact this) (by rw [HLN.out]; exact HC1.out) (by unfold slices_Clone_int_int.f; rw [if_pos (by rw [HLN.out]; omega)]))
        rw [HLN.out] at HCL
        have hne := HLK.out.ne
        have HFB := Aside0.mk HLK.out.lts
        have HFN := Aside0.mk HLK.out.fn
        have HREC : Aside0 (∀ (W1 : World) (v : Value), Below wr.heap.size wr W1 → Kd.R (Kd.int .i64) 3 W1 wr.heap.size (fun _ => True) v (toI l ++ [(k : Int)]) →
            Calls Try.prog 55 #[v, .int .i64 (IntKind.i64.wrap ((left : Int) - (k : Int))), .pointer (some ⟨bs, 0, none⟩), .pointer (some ⟨bw, 0, none⟩), .pointer (some ⟨bb, 0, none⟩), .pointer (some ⟨bd, 0, none⟩)] W1 (fun e W' => e = .returned (.tuple #[]) ∧ Look (some ad0) c0 ns B bs bw bb bd W' (bestOf ns (visF r l left k) t) ∧ Kp bw bb wr W')) := by
          refine ⟨fun W1 v hB hR => ?_⟩
          rw [show IntKind.i64.wrap ((left : Int) - (k : Int)) = (left : Int) - (k : Int) by rw [IntKind.wrap_i64]; omega]
          have h1 := HIH.out k (by omega) (by omega) (by omega) t v W1 (HLK.out.below hB) (by
            rw [← toI_snoc]
            have hl3 := HFB.out
            exact Kd.R_lower (Kd.R_mono (Kd.R_bound hR) (fun q hq => ⟨by have := hq.2.1; omega, by have := hq.2.1; omega⟩)) hne.2.2.2.2.2.2.2)
          rw [show ((left - k : Nat) : Int) = (left : Int) - (k : Int) by omega, show (l ++ [k]).length = M + 1 by rw [List.length_append, HM.out]; rfl, ← HRE.out] at h1
          have e1 : visF r l left k = vis r (l ++ [k]) (left - k) := if_pos (by have := HREST.out; omega)
          rw [e1]
          exact h1.mono fun e W' ⟨q1, q2, q3⟩ => ⟨q1, q2, (Kp.of_below hB).trans q3⟩
        clear hne
        have e55 : ∀ args w, (callFunc 55 args).run Try.prog w = .ok (.enter 55 args) w := enters_of Try.func55 (by kernel_rfl) rfl
        have hf2 := HF.out
        rw [show m + 1 - k = (m + 1 - (k + 1)) + 1 by omega, range_succ, List.flatMap_cons, bestOf_append] at hf2
        have HF2 := Aside0.mk hf2
        clear hf2
        have hfn := HFN.out
        have HAL := Aside0.mk (show ((toI l).length + 1) * 8 ≤ 140737488355328 by rw [HLN.out]; omega)
        go_wp2_with fail
        all_goals
          go_region_held3 (fun w' => w'.cell? ⟨bd, 0, none⟩ = some (.func (.func 55) #[] #[.pointer (some ⟨bs, 0, none⟩), .pointer (some ⟨bw, 0, none⟩), .pointer (some ⟨bb, 0, none⟩), .pointer (some ⟨bd, 0, none⟩)]))
            (first | go_keep | assumption)
            (first
              | (go_at_call 57; ((with_reducible refine (HCL.out _ (by repeat (first | (with_reducible first | exact HBr.out | apply below_alloc | apply pw_below_drewN | apply below_drew1) | exact HBr.out))).mono ?_); rintro e w2 ⟨v2, rfl, ho, hb⟩; have HBC := Aside0.mk hb; have HO := Aside0.mk (Kd.R_lower ho (below_size (by repeat (first | (with_reducible first | exact HBr.out | apply below_alloc | apply pw_below_drewN | apply below_drew1) | exact HBr.out)))); have n1_ := Aside0.mk (below_step (by repeat (first | (with_reducible first | exact HBr.out | apply below_alloc | apply pw_below_drewN | apply below_drew1) | exact HBr.out)) hb); clear HBr; have HBr := n1_; clear n1_; have hs2 := (HBr.out.cell (p := ⟨bd, 0, none⟩) HFB.out.2.1).trans HFN.out; clear ho hb))
              | (go_at_call 55; ((with_reducible refine (HREC.out _ _ (by repeat (first | (with_reducible first | exact HBr.out | apply below_alloc | apply pw_below_drewN | apply below_drew1) | exact HBr.out)) ?hR).mono ?_); (case hR => exact HO3.out); rintro e w4 ⟨rfl, hq1, hq2⟩; have HL4 := Aside0.mk hq1; have HK4 := Aside0.mk hq2; have hs4 := hq1.fn; clear hq1 hq2))
              | (refine Kd.R_append_rows_step (Kd.int .i64) (w0 := wr) wr.heap.size (by rfl) (.tmp 52) (.tmp 54) 22 3 (.int .i64 0) 8 rfl Try.underlying22 info3 rfl (by decide) (by decide) v2 (toI l) [(k : Int)] _ _ _ (fun _ => True) (fun _ => False) rfl rfl ?aO ?aR (fun _ _ h => h) (fun _ h => h.elim) ?aF ?aB ?aS ?aL ?_; (case aR => first | exact box_C _ _ _ | exact Kd.C_below (box_C _ _ _) HBC.out | exact Kd.C_below (Kd.C_drew (box_C _ _ _)) HBC.out); (case aO => ((with_reducible repeat (first | apply Kd.R_alloc | apply Kd.R_drewN | apply Kd.R_drew)); exact HO.out)); (case aB => exact (by repeat (first | (with_reducible first | exact HBr.out | apply below_alloc | apply pw_below_drewN | apply below_drew1) | exact HBr.out))); (case aF => exact (fun _ _ => trivial)); (case aS => exact below_size (by repeat (first | (with_reducible first | exact HBr.out | apply below_alloc | apply pw_below_drewN | apply below_drew1) | exact HBr.out))); (case aL => exact HAL.out); intro v3 w3 ho hb hg hat; have HO3 := Aside0.mk ho; clear HBr; have HBr := Aside0.mk hb; have hs3 := (HBr.out.cell (p := ⟨bd, 0, none⟩) HFB.out.2.1).trans HFN.out; clear ho hb hg hat)
              | fail "noarm")
          all_goals
            go_wp2
            go_roundg (m + 1 - (k + 1))
            case measure => omega
            case rel => exact ⟨k + 1, _, by omega, by omega, by omega, by go_num, ⟨HL4.out⟩, ⟨HKP.out.trans HK4.out⟩, HF2⟩
      · have hnk : ¬ ((k : Int) ≤ (own : Int) ∧ (k : Int) ≤ (left : Int)) := by omega
        have ek : k = m + 1 := by omega
        have hkk : ¬ (k : Int) ≤ (own : Int) ∨ ¬ (k : Int) ≤ (left : Int) := by omega
        have hfin : t = fin := by
          rw [← HF.out, ek, Nat.sub_self]
          rfl
        subst hfin
        clear ek
        rcases hkk with hkk | hkk
        all_goals
          go_wp2
          all_goals
            go_end0
            exact ⟨rfl, HLK.out, HKP.out⟩
end Go.Proofs.Ytnikblimnjpmpaa.X

/- ==== HCountDraws ==== -/
/- The program's draws, and its CountDraws where the socks are few: their contracts. -/
namespace Go.Proofs.Ytnikblimnjpmpaa.X
open Go.RowKit Go.Proofs.YtnikblimnjpmpaaW.PrintWords Go.Proofs.YtnikblimnjpmpaaW.PrintLast Go.Proofs.YtnikblimnjpmpaaW.PrintMore

theorem weighs73 (ns : List Nat) (W : World) : Weighs 73 #[] ns w1 W.heap.size W := by
  intro W1 i n _ _ _
  show Calls Try.prog 73 #[.int .i64 (i : Int), .int .i64 (n : Int)] W1 _
  go_enter Try.func73, Try.ntmps73
  go_wp2
  go_ret
  exact ⟨rfl, Below.refl _ _⟩
theorem row_total (f : Nat → Int) (n : Nat) (hn : n ≤ 1000) (hf : ∀ p, 0 ≤ f p) (hb : sumN n f ≤ 4611686018427387904) (e : Nat) : ∀ i, i + e = n →
    Ev (fun k => impl_total.l0 k (sumN i f) ((List.range n).map f) (((List.range n).map f).length : Int) (i : Int)) (sumN n f) := by
  have hlen : ((List.range n).map f).length = n := by simp
  induction e with
  | zero =>
    intro i hi
    obtain rfl : i = n := by omega
    refine Ev.step (f := fun _ => some (sumN i f)) (fun k => ?_) (Ev.now _)
    simp only [impl_total.l0]
    rw [if_neg (by omega)]
  | succ e ih =>
    intro i hi
    have hrd : rd ((List.range n).map f) (i : Int) = f i := by simp [rd, List.getD_eq_getElem?_getD, show i < n by omega]
    have h1 : 0 ≤ sumN i f := sumN_nonneg fun p _ => hf p
    have h2 := hf i
    have h3 : sumN (i + 1) f ≤ sumN n f := sumN_mono (by omega) hf
    have h4 : sumN (i + 1) f = sumN i f + f i := rfl
    have HW := Aside0.mk (w64 (x := sumN i f + f i) (by omega) (by omega))
    have HI := Aside0.mk (ws1 i (by omega))
    refine Ev.step (fun k => ?_) (ih (i + 1) (by omega))
    simp only [impl_total.l0]
    rw [if_pos (by omega), if_pos (by omega), if_pos (by omega), hrd, HW.out, HI.out]
    rfl
theorem row_ev {ns : List Nat} (h20 : ∀ n ∈ ns, n ≤ 20) (h8 : ns.length ≤ 8) (h40 : sumL ns ≤ 40) (a : Nat) : Ev (fun k => impl_total.f k (numL (pairL ns) fun p => T w1 half ns (a : Int) (p : Int))) (Nd ns (a : Int)) := by
  have hb := (T1_bound (m := z0) h20 h8 (a : Int) 0).2
  have hr := T_rows ns (a : Int) (pairL ns) (Nat.le_refl _)
  have hp := pairL_le ns
  have h1 := row_total (fun p => T w1 half ns (a : Int) (p : Int)) (pairL ns + 1) (by omega) (fun p => T_nonneg w1_nonneg) (by rw [hr]; unfold Nd; omega) (pairL ns + 1) 0 (by omega)
  rw [hr] at h1
  exact h1
set_option maxHeartbeats 4000000 in
set_option maxRecDepth 100000 in
theorem draws_calls {ns : List Nat} (h20 : ∀ n ∈ ns, n ≤ 20) (h8 : ns.length ≤ 8) (h40 : sumL ns ≤ 40) (A0 : Option Addr) (c0 : Nat) (w : World) (hr : Kd.C (Kd.int .i64) w A0 ns.length (toI ns)) (hc0 : ns.length ≤ c0) :
    Calls Try.prog 67 #[.slice A0 ns.length c0] w (WaysMade w ns.length (sumL ns) (pairL ns) fun k p => T w1 half ns (k : Int) (p : Int)) := by
  obtain ⟨k1, ht⟩ := (sum_ev h20 h8).1.rounds
  obtain ⟨k2, hp⟩ := (pairsOf_ev h20 h8).rounds
  have hpl := pairL_le ns
  have HCON := Aside0.mk (waysOf_calls 73 #[] (enters_of Try.func73 (by kernel_rfl) rfl) ns w1 (sumL ns) (pairL ns) k1 k2 A0 c0 w hr hc0 (weighs73 ns w) h8 (by omega) (by omega)
    (fun i hi => get_le_sum ns i hi) (fun i n k p hi hn => by
      refine S_step w1_nonneg (fun k p => ?_) hn k p
      rw [← drop_cons ns hi]
      have := T1_bound (m := half) (l := ns.drop i) (fun x hx => h20 x (List.mem_of_mem_drop hx)) (by rw [List.length_drop]; omega) k p
      omega) ht hp)
  clear ht hp hr hc0 h20 h40 hpl
  generalize hL : ns.length = L at *
  have HL := Aside0.mk hL
  clear hL
  go_enter Try.func67, Try.ntmps67
  go_wp2_with (go_at_call 60; refine HCON.out.mono ?_; rintro e w1 ⟨ob, co, tb, ct, rb, cp, xs, rfl, q1, q2, hm, hb⟩; have Q1 := Aside0.mk q1; have Q2 := Aside0.mk q2; have HM := Aside0.mk hm; have HB := Aside0.mk hb; clear q1 q2 hm hb)
  go_ret
  exact ⟨ob, co, tb, ct, rb, cp, xs, rfl, Q1.out, Q2.out, HM.out, HB.out⟩
theorem Mat.readRow {W : World} {base tb ct : Nat} {rb cp : Nat → Nat} {A P n : Nat} {V : Nat → Nat → Int} (h : Mat W base tb ct rb cp A P n V) {k : Nat} (hk : k < n) : Kd.C (Kd.int .i64) W (some ⟨rb k, 0, none⟩) (P + 1) (numL P (V k)) ∧ P + 1 ≤ cp k := by
  have hr := h.row k hk
  have hl : (numL P (V k)).length = P + 1 := by simp [numL]
  have h1 : Kd.R (Kd.int .i64) 3 W base (fun _ => True) (rowV P rb cp k) (numL P (V k)) := Kd.R_of_own (by
    rw [hl]
    exact hr) (fun _ _ => trivial)
  obtain ⟨_, h2, h3⟩ := Kd.R_reads' h1
  rw [hl] at h3
  exact ⟨h3, h2⟩
set_option maxHeartbeats 4000000 in
set_option maxRecDepth 100000 in
theorem CountDraws_calls {ns : List Nat} (h20 : ∀ n ∈ ns, n ≤ 20) (h1 : 1 ≤ ns.length) (h8 : ns.length ≤ 8) (hs : 1 ≤ sumL ns) (h40 : sumL ns ≤ 40) (a : Nat) (ha : a ≤ sumL ns) (A0 : Option Addr) (c0 : Nat) (w : World) (hr : Kd.C (Kd.int .i64) w A0 ns.length (toI ns)) (hc0 : ns.length ≤ c0) :
    Calls Try.prog 54 #[.slice A0 ns.length c0, .int .i64 (a : Int)] w fun e w' => e = .returned (.tuple #[.int .i64 (Nd ns (a : Int)), .bool true]) ∧ Below w.heap.size w w' := by
  have hg : good (toI ns) = true := by
    unfold good
    simp only [Bool.and_eq_true, decide_eq_true_eq]
    refine ⟨by simp [inB, toI]; omega, ?_, by rw [totI_toI]; omega⟩
    rw [List.all_eq_true]
    intro x hx
    simp only [toI, List.mem_map] at hx
    obtain ⟨n, hn, rfl⟩ := hx
    have := h20 n hn
    simp [inB]
    omega
  obtain ⟨k0, hk0⟩ := (good_ev (toI ns) (by rw [toI_len]; omega)).1.rounds
  rw [hg] at hk0
  obtain ⟨k1, hk1⟩ := (sum_ev h20 h8).1.rounds
  obtain ⟨k2, hk2⟩ := (row_ev h20 h8 h40 a).rounds
  have hlen := toI_len ns
  have hbd := T1_bound (m := z0) h20 h8 (a : Int) 0
  have hb1 : ¬ 1000000000000 < Nd ns (a : Int) := by unfold Nd; omega
  have HA := Aside0.mk (fun W (hW : Below w.heap.size w W) => impl_AreSocks.calls k0 A0 c0 (toI ns) true W (by have := Kd.C_below hr hW; rw [hlen]; exact this) (by rw [hlen]; exact hc0) hk0)
  have HT := Aside0.mk (fun W (hW : Below w.heap.size w W) => impl_total.calls k1 A0 c0 (toI ns) _ W (by have := Kd.C_below hr hW; rw [hlen]; exact this) (by rw [hlen]; exact hc0) hk1)
  have HD := Aside0.mk (fun W (hW : Below w.heap.size w W) => draws_calls h20 h8 h40 A0 c0 W (Kd.C_below hr hW) hc0)
  have hrl : (numL (pairL ns) fun p => T w1 half ns (a : Int) (p : Int)).length = pairL ns + 1 := by simp [numL]
  have HR := Aside0.mk (fun W A c hC hc => impl_total.calls k2 A c _ _ W hC hc hk2)
  rw [hrl] at HR
  rw [hlen] at HA HT
  have hasum : ¬ ((sumL ns : Nat) : Int) < (a : Int) := by omega
  have haz : ¬ (a : Int) < 0 := by omega
  have has : (a : Int) < ((sumL ns : Nat) : Int) + 1 := by omega
  have hal : a < sumL ns + 1 := by omega
  have hL0 : (0 : Int) < (ns.length : Int) + 1 := by omega
  clear hrl hr hc0 hk0 hk1 hk2 hg hlen hbd h20 h1 h8 hs h40 ha
  generalize Nd ns (a : Int) = N at *
  generalize sumL ns = s at *
  generalize ns.length = L at *
  go_enter Try.func54, Try.ntmps54
  go_wp2_with (first | (go_at_call 63; ((with_reducible refine (HA.out _ (Below.refl _ _)).mono ?_); rintro e w1 ⟨rfl, hb⟩; have HB1 := Aside0.mk hb; clear hb)) | (go_at_call 40; ((with_reducible refine (HT.out _ HB1.out).mono ?_); rintro e w2 ⟨rfl, hb⟩; have HB2 := Aside0.mk (HB1.out.trans (hb.below.mono HB1.out.size)); clear hb)) | (go_at_call 67; ((with_reducible refine (HD.out _ HB2.out).mono ?_); rintro e w3 ⟨ob, co, tb, ct, rb, cp, xs, rfl, q1, q2, hm, hb⟩; have hcz := (q1.cellAt 0 (by omega)).trans q2; have hct := hm.cellT (k := a) (by omega) hal; have HRR := Aside0.mk (hm.readRow hal); have HB3 := Aside0.mk (HB2.out.trans (hb.mono HB2.out.size)); clear q1 q2 hm hb)) | (go_at_call 40; ((with_reducible refine (HR.out _ _ _ HRR.out.1 HRR.out.2).mono ?_); rintro e w4 ⟨rfl, hb⟩; have HB4 := Aside0.mk (HB3.out.trans (hb.below.mono HB3.out.size)); clear hb)))
  go_ret2
  exact ⟨rfl, HB4.out⟩
end Go.Proofs.Ytnikblimnjpmpaa.X

/- ==== HLikeliestDraw ==== -/
/- The program's LikeliestDraw: its contract: the first draw with the greatest chance. -/
namespace Go.Proofs.Ytnikblimnjpmpaa.X
open Go.RowKit Go.Proofs.YtnikblimnjpmpaaW.PrintWords Go.Proofs.YtnikblimnjpmpaaW.PrintLast Go.Proofs.YtnikblimnjpmpaaW.PrintMore

theorem goes {ns : List Nat} (h20 : ∀ n ∈ ns, n ≤ 20) (h8 : ns.length ≤ 8) (h40 : sumL ns ≤ 40) (A0 : Option Addr) (c0 B bs bw bb bd : Nat) (hc0 : ns.length ≤ c0) (e : Nat) : ∀ (l : List Nat) (left : Nat), l.length + e = ns.length → Beg ns l → left ≤ sumL (ns.drop l.length) →
    Goes A0 c0 ns B bs bw bb bd l left := by
  induction e with
  | zero =>
    intro l left hl hb hleft s v W hk hR
    obtain ⟨A1, c1, rfl, hc, hC⟩ := Kd.R_reads hR
    have hd : ns.drop l.length = [] := by rw [List.drop_eq_nil_iff]; omega
    rw [hd] at hleft ⊢
    obtain rfl : left = 0 := by simp [sumL] at hleft; exact hleft
    rw [toI_len] at hc hC ⊢
    exact leaf_calls h20 h8 h40 hb (by omega) A0 A1 c0 c1 B bs bw bb bd s W hk hC hc
  | succ e ih =>
    intro l left hl hb hleft s v W hk hR
    have hlt : l.length < ns.length := by omega
    obtain ⟨A1, c1, rfl, hc, hC⟩ := Kd.R_reads hR
    have hA1 : ∀ ad, A1 = some ad → ad.block ≠ bw ∧ ad.block ≠ bb := fun ad e1 => hR.1 ad.block (by rw [e1]; rfl)
    rw [toI_len] at hc hC ⊢
    refine node_calls h20 h8 h40 hb hlt left hleft A0 A1 c0 c1 B bs bw bb bd s W (fun d hd _ hs => ih (l ++ [d]) (left - d) (by simp; omega) (hb.snoc hlt hd) (by simpa using hs)) hk hC hc0 hc hA1
/-- The cells as they are made. -/
theorem look_start {A0 : Option Addr} {c0 bs : Nat} {ns : List Nat} {w2 : World} (hl : 1 ≤ ns.length) (hr : Kd.C (Kd.int .i64) w2 A0 ns.length (toI ns)) (hs : w2.cell? ⟨bs, 0, none⟩ = some (.slice A0 ns.length c0)) :
    Look A0 c0 ns w2.heap.size bs (w2.heap.size + 1 + 1) (w2.heap.size + 1) (w2.heap.size + 1 + 1 + 1)
      ((((w2.alloc (.cells #[] 3)).alloc (.cells #[.slice (some ⟨w2.heap.size, 0, none⟩) 0 0] 22)).alloc (.cells #[.int .i64 (-1)] 3)).alloc (.cells #[.func (.func 55) #[] #[.pointer (some ⟨bs, 0, none⟩), .pointer (some ⟨w2.heap.size + 1 + 1, 0, none⟩), .pointer (some ⟨w2.heap.size + 1, 0, none⟩), .pointer (some ⟨w2.heap.size + 1 + 1 + 1, 0, none⟩)]] 52)) ([], -1) := by
  have hlt := World.block_lt_of_cell? _ _ hs
  have hlt : bs < w2.heap.size := hlt
  have hfar : ∀ ad, A0 = some ad → ad.block < w2.heap.size := fun ad e => by
    have h0 := Kd.reads_of_C (d := (0 : Int)) hr
    obtain ⟨ad', e', hc⟩ := h0.2.2 (by omega)
    rw [e] at e'
    cases e'
    have h1 := World.block_lt_of_cell? _ _ (hc 0 (by omega))
    rw [Addr.add_zero'] at h1
    exact h1
  have hb : Below w2.heap.size w2 ((((w2.alloc (.cells #[] 3)).alloc (.cells #[.slice (some ⟨w2.heap.size, 0, none⟩) 0 0] 22)).alloc (.cells #[.int .i64 (-1)] 3)).alloc (.cells #[.func (.func 55) #[] #[.pointer (some ⟨bs, 0, none⟩), .pointer (some ⟨w2.heap.size + 1 + 1, 0, none⟩), .pointer (some ⟨w2.heap.size + 1, 0, none⟩), .pointer (some ⟨w2.heap.size + 1 + 1 + 1, 0, none⟩)]] 52)) :=
    below_alloc (below_alloc (below_alloc (below_alloc (Below.refl _ _) _) _) _) _
  refine ⟨(hb.cell hlt).trans hs, Kd.C_below hr hb, by go_simp, by go_simp, by go_simp, by go_simp, ⟨.slice (some ⟨w2.heap.size, 0, none⟩) 0 0, by go_simp, ?_⟩, ⟨by omega, by omega, by omega, by omega, by omega, by omega, by omega, by simp; omega⟩, fun ad e => by have := hfar ad e; omega⟩
  refine Kd.R_alloc (Kd.R_alloc (Kd.R_alloc (Kd.R_of_own (xs := ([] : List Int)) (own_lit w2 w2.heap.size 3 .i64 [] (Nat.le_refl _) (by simp)) (fun k hk => ?_)) _) _) _
  have : w2.heap.size = k := by simpa [Value.ownBlock] using hk
  omega
def impl_LikeliestDraw.f (_k : Nat) (l0 : List Int) (a1 : Int) : Option (List Int × Bool) := if l0.length ≤ 1048576 then drawF l0 a1 else none
theorem impl_LikeliestDraw.mono : ∀ a0 a1 k, LeO (impl_LikeliestDraw.f k a0 a1) (impl_LikeliestDraw.f (k + 1) a0 a1) := fun _ _ _ => LeO.refl _
set_option maxHeartbeats 8000000 in
set_option maxRecDepth 100000 in
theorem impl_LikeliestDraw.calls (k : Nat) (A0 : Option Addr) (c0 : Nat) (l0 : List Int) (a1 : Int) (r1 : List Int) (r2 : Bool) (w : World) (hr0 : Kd.C (Kd.int .i64) w A0 l0.length l0) (hc0 : l0.length ≤ c0) (h : impl_LikeliestDraw.f k l0 a1 = some (r1, r2)) :
    Calls Try.prog 28 #[.slice A0 l0.length c0, .int .i64 a1] w fun e w' => ∃ v0_ : Value, e = .returned (.tuple #[v0_, .bool r2]) ∧ Kd.R (Kd.int .i64) 3 w' w.heap.size (fun _ => True) v0_ r1 ∧ Below w.heap.size w w' := by
  unfold impl_LikeliestDraw.f at h
  by_cases hn : l0.length ≤ 1048576
  · rw [if_pos hn] at h
    obtain ⟨k0, hk0⟩ := (asked_ev l0 a1 hn).1.rounds
    have HIS := Aside0.mk (fun W (hB : Below w.heap.size w W) => impl_isNumber.calls k0 A0 c0 l0 a1 (asked l0 a1) W (Kd.C_below hr0 hB) hc0 hk0)
    clear hk0
    unfold drawF at h
    cases ha : asked l0 a1 with
    | false =>
      rw [ha] at h HIS
      rw [if_neg (by decide)] at h
      simp only [Option.some.injEq, Prod.mk.injEq] at h
      obtain ⟨rfl, rfl⟩ := h
      clear hr0 hc0 ha hn
      generalize l0.length = L at *
      go_enter Try.func28, Try.ntmps28
      go_wp2_with (go_at_call 37; ((with_reducible refine (HIS.out _ ((Below.refl _ _).alloc (Nat.le_refl _) _)).mono ?_); rintro e w1 ⟨rfl, hb⟩; have HB1 := Aside0.mk (((Below.refl w.heap.size w).alloc (Nat.le_refl _) (.cells #[.slice A0 L c0] 22)).trans (hb.mono (by simp))); clear hb))
      go_ret2
      exact ⟨_, rfl, Kd.R_nil _ _ _ _ _, HB1.out⟩
    | true =>
      rw [ha] at h HIS
      rw [if_pos rfl] at h
      obtain ⟨hf, h0, h1⟩ := asked_of ha
      obtain ⟨ns, rfl, h20, hl1, hl8, hs1, hs40, ht⟩ := few_ns hf
      rw [ht] at h1
      obtain ⟨a, rfl⟩ := Int.eq_ofNat_of_zero_le h0
      rw [nat_toI, Int.toNat_natCast] at h
      rw [toI_len] at hr0 hc0 HIS ⊢
      have HCO := Aside0.mk (fun W (hB : Below w.heap.size w W) => CountDraws_calls h20 hl1 hl8 hs1 hs40 a (by omega) A0 c0 W (Kd.C_below hr0 hB) hc0)
      by_cases c : Nd ns (a : Int) > 5000
      · rw [if_pos c] at h
        simp only [Option.some.injEq, Prod.mk.injEq] at h
        obtain ⟨rfl, rfl⟩ := h
        clear hr0 hc0 ha hn hf h0 h1 h20 hl1 hl8 hs1 hs40 ht
        generalize Nd ns (a : Int) = N at *
        generalize ns.length = L at *
        have c2 : 5000 < N := c
        go_enter Try.func28, Try.ntmps28
        go_wp2_with (first | (go_at_call 37; ((with_reducible refine (HIS.out _ ((Below.refl _ _).alloc (Nat.le_refl _) _)).mono ?_); rintro e w1 ⟨rfl, hb⟩; have hc1 := (hb.cell (p := ⟨w.heap.size, 0, none⟩) (by simp)).trans (by simp : (w.alloc (.cells #[.slice A0 L c0] 22)).cell? ⟨w.heap.size, 0, none⟩ = some (.slice A0 L c0)); have HB1 := Aside0.mk (((Below.refl w.heap.size w).alloc (Nat.le_refl _) (.cells #[.slice A0 L c0] 22)).trans (hb.mono (by simp))); clear hb)) | (go_at_call 54; ((with_reducible refine (HCO.out _ HB1.out).mono ?_); rintro e w2 ⟨rfl, hb⟩; have HB2 := Aside0.mk (HB1.out.trans (hb.mono HB1.out.size)); clear hb)))
        go_ret2
        exact ⟨_, rfl, Kd.R_nil _ _ _ _ _, HB2.out⟩
      · rw [if_neg c] at h
        simp only [Option.some.injEq, Prod.mk.injEq] at h
        obtain ⟨rfl, rfl⟩ := h
        have HGO := Aside0.mk (fun B bs bw bb bd s v W hk hR => goes h20 hl8 hs40 A0 c0 B bs bw bb bd hc0 ns.length [] a (by simp) (by simp [Beg]) (by simp only [List.length_nil, List.drop_zero]; omega) s v W hk hR)
        have HR := Aside0.mk hr0
        have HL1 := Aside0.mk hl1
        clear hr0 hc0 ha hn hf h0 h1 h20 hl1 hl8 hs1 hs40 ht
        generalize Nd ns (a : Int) = N at *
        have c2 : ¬ 5000 < N := c
        obtain ⟨L, hL⟩ : ∃ L, L = ns.length := ⟨_, rfl⟩
        rw [← hL] at HIS HCO ⊢
        have HL := Aside0.mk hL
        clear hL
        have e55 : ∀ args w, (callFunc 55 args).run Try.prog w = .ok (.enter 55 args) w := enters_of Try.func55 (by kernel_rfl) rfl
        go_enter Try.func28, Try.ntmps28
        go_wp2_with (first | (go_at_call 37; ((with_reducible refine (HIS.out _ ((Below.refl _ _).alloc (Nat.le_refl _) _)).mono ?_); rintro e w1 ⟨rfl, hb⟩; have hc1 := (hb.cell (p := ⟨w.heap.size, 0, none⟩) (by simp)).trans (by simp : (w.alloc (.cells #[.slice A0 L c0] 22)).cell? ⟨w.heap.size, 0, none⟩ = some (.slice A0 L c0)); have HB1 := Aside0.mk (((Below.refl w.heap.size w).alloc (Nat.le_refl _) (.cells #[.slice A0 L c0] 22)).trans (hb.mono (by simp))); clear hb)) | (go_at_call 54; ((with_reducible refine (HCO.out _ HB1.out).mono ?_); rintro e w2 ⟨rfl, hb⟩; have hc2 := (hb.cell (p := ⟨w.heap.size, 0, none⟩) (World.block_lt_of_cell? _ _ hc1)).trans hc1; have HB2 := Aside0.mk (HB1.out.trans (hb.mono HB1.out.size)); clear hb)) | (go_at_call 55; ((with_reducible refine (HGO.out w2.heap.size w.heap.size (w2.heap.size + 1 + 1) (w2.heap.size + 1) (w2.heap.size + 1 + 1 + 1) ([], -1) (.slice none 0 0) _ ?lk (Kd.R_nil _ _ _ _ _)).mono ?_); (case lk => exact look_start HL1.out (Kd.C_below HR.out HB2.out) (by rw [← HL.out]; exact hc2)); rintro e w5 ⟨rfl, hlk, hkp⟩; obtain ⟨v, hv, hR⟩ := hlk.cb; obtain ⟨A5, c5, rfl⟩ := Kd.R_slice hR; have HR5 := Aside0.mk hR; have HKP5 := Aside0.mk hkp; clear hlk hkp hR)))
        go_ret2
        have hz := HB2.out.size
        exact ⟨_, rfl, Kd.R_mono (Kd.R_lower HR5.out hz) (fun _ _ => trivial), (below_alloc (below_alloc (below_alloc (below_alloc HB2.out _) _) _) _).trans (HKP5.out.below (by omega) (by omega) (by simp; omega))⟩
  · rw [if_neg hn] at h
    cases h
end Go.Proofs.Ytnikblimnjpmpaa.X

/- ==== XlawsheldIntS ==== -/
namespace Go.Proofs.Ytnikblimnjpmpaa.X
open Go.RowKit Go.Proofs.YtnikblimnjpmpaaW.PrintWords Go.Proofs.YtnikblimnjpmpaaW.PrintLast Go.Proofs.YtnikblimnjpmpaaW.PrintMore
attribute [local go_sem] max2_int min2_int max_two min_two max_three min_three max_four min_four   -- for this text's walks alone
set_option linter.unusedVariables false
set_option linter.unusedSimpArgs false

/-! ### laws_heldIntS: function 30 -/
def laws_heldIntS.l0 : Nat → List Int → Int → Int → Option (Int)
  | 0, _, _, _ => none
  | k + 1, x0, x1, x5 => if x5 < (x0.length : Int) then (if 0 ≤ x5 then (if (rd x0 x5) = x1 then (laws_heldIntS.l0 k x0 (wrap64 (x1 + 1)) (wrap64 (x5 + 1))) else (some (-1))) else (none)) else (some x1)
def laws_heldIntS.f (k : Nat) (l0 : List Int) (a1 : Int) : Option (Int) := laws_heldIntS.l0 k l0 a1 0
theorem laws_heldIntS.mono_l : ∀ k, (∀ y0 y1 y2, LeO (laws_heldIntS.l0 k y0 y1 y2) (laws_heldIntS.l0 (k + 1) y0 y1 y2))
  | 0 => fun _ _ _ r h => by simp [laws_heldIntS.l0] at h
  | k + 1 => by
    have ih0 := laws_heldIntS.mono_l k
    · intro y0 y1 y2
      unfold laws_heldIntS.l0
      repeat' first
      | (with_reducible exact ih0 _ _ _)
      | (with_reducible exact LeO.refl _)
      | (with_reducible exact LeO.none _)
      | (with_reducible refine LeO.ite ?_ ?_)
      | (with_reducible refine LeO.bind ?_ (fun _ => ?_))
      | exact ih0 _ _ _
      | exact LeO.none _
      | refine LeO.ite ?_ ?_
      | refine LeO.bind ?_ (fun _ => ?_)
theorem laws_heldIntS.mono : ∀ a0 a1 k, LeO (laws_heldIntS.f k a0 a1) (laws_heldIntS.f (k + 1) a0 a1) := by
  intro a0 a1 k
  have ih0 := laws_heldIntS.mono_l k
  unfold laws_heldIntS.f
  repeat' first
      | (with_reducible exact ih0 _ _ _)
      | (with_reducible exact LeO.refl _)
      | (with_reducible exact LeO.none _)
      | (with_reducible refine LeO.ite ?_ ?_)
      | (with_reducible refine LeO.bind ?_ (fun _ => ?_))
      | exact ih0 _ _ _
      | exact LeO.none _
      | refine LeO.ite ?_ ?_
      | refine LeO.bind ?_ (fun _ => ?_)
set_option maxHeartbeats 8000000 in
set_option maxRecDepth 100000 in
theorem laws_heldIntS.calls (k : Nat) (A0 : Option Addr) (c0 : Nat) (l0 : List Int) (a1 : Int) (r : Int) (w : World) (hr0 : Kd.C (Kd.int .i64) w A0 l0.length l0) (hc0 : l0.length ≤ c0) (h : laws_heldIntS.f k l0 a1 = some r) :
    Calls Try.prog 30 #[.slice A0 l0.length c0, .int .i64 a1] w fun e w' => e = .returned (.int .i64 r) ∧ Drawn0 w w' := by
  have HR0 := Aside0.mk hr0
  have HC0 := Aside0.mk hc0
  clear hr0 hc0
  have H : (laws_heldIntS.l0 k l0 a1 0) = some r := h
  clear h
  have H' := Aside0.mk H
  clear H
  go_enter Try.func30, Try.ntmps30
  go_wp2
  go_loopg [1, 5] k (fun kq v1 v5 w' => ∃ (x1_1 : Int) (x5_1 : Int), v1 = .int .i64 x1_1 ∧ v5 = .int .i64 x5_1 ∧ Aside0 (laws_heldIntS.l0 kq l0 x1_1 x5_1 = some r) ∧ Aside0 (kq ≤ k) ∧ Drawn0 w w')
  case atStart => exact ⟨(a1), (0), (by first | rfl | (simp; done) | (simp [*]; done)), (by first | rfl | (simp; done) | (simp [*]; done)), H', ⟨Nat.le_refl _⟩, by repeat (first | exact Drawn0.refl _ | apply Drawn0.step)⟩
  case round =>
    clear H'
    try clear p2
    obtain ⟨x1_1, x5_1, rfl, rfl, HA, HK1, ⟨m1, rfl⟩⟩ := hrel
    cases gk with
    | zero => exact absurd HA.out (by simp [laws_heldIntS.l0])
    | succ k1 =>
      have H := HA.out
      clear HA
      simp only [laws_heldIntS.l0] at H
      by_cases c3 : x5_1 < (l0.length : Int)
      · rw [if_pos c3] at H
        have c3b0 : decide (x5_1 < (l0.length : Int)) = true := decide_eq_true c3
        clear c3
        by_cases c4 : 0 ≤ x5_1
        · rw [if_pos c4] at H
          have c4b0 : decide (0 ≤ x5_1) = true := decide_eq_true c4
          clear c4
          by_cases c5 : (rd l0 x5_1) = x1_1
          · rw [if_pos c5] at H
            have c5b0 : ((rd l0 x5_1) == x1_1) = true := beq_iff_eq.mpr c5
            have c5b1 : ((rd l0 x5_1) != x1_1) = false := bne_eq_false_iff_eq.mpr c5
            clear c5
            have H' := Aside0.mk H
            clear H
            have p431 : 0 ≤ (x5_1 : Int) := of_decide_eq_true (by first | (with_reducible assumption) | assumption)
            have q431 : x5_1 < (l0.length : Int) := of_decide_eq_true (by first | (with_reducible assumption) | assumption)
            obtain ⟨ad431, e431, hx431_0⟩ := Kd.at_int HR0.out x5_1 p431 q431
            cases e431
            replace p431 := eq_true p431
            replace q431 := eq_true q431
            go_wp2
            go_roundg k1
            case measure => have := HK1.out; omega
            case rel => exact ⟨(wrap64 (x1_1 + 1)), (wrap64 (x5_1 + 1)), (by first | rfl | (simp; done) | (simp [*]; done)), (by first | rfl | (simp; done) | (simp [*]; done)), H', ⟨by have := HK1.out; omega⟩, by repeat (first | exact Drawn0.refl _ | apply Drawn0.step)⟩
          · rw [if_neg c5] at H
            have c5b0 : ((rd l0 x5_1) == x1_1) = false := beq_eq_false_iff_ne.mpr c5
            have c5b1 : ((rd l0 x5_1) != x1_1) = true := bne_iff_ne.mpr c5
            obtain rfl := Option.some.inj H
            have p431 : 0 ≤ (x5_1 : Int) := of_decide_eq_true (by first | (with_reducible assumption) | assumption)
            have q431 : x5_1 < (l0.length : Int) := of_decide_eq_true (by first | (with_reducible assumption) | assumption)
            obtain ⟨ad431, e431, hx431_0⟩ := Kd.at_int HR0.out x5_1 p431 q431
            cases e431
            replace p431 := eq_true p431
            replace q431 := eq_true q431
            go_wp2
            go_ret
            exact ⟨by first | rfl | (simp; done) | (simp [*]; done), by repeat (first | exact Drawn0.refl _ | apply Drawn0.step)⟩
        · rw [if_neg c4] at H
          exact absurd H (by simp)
      · rw [if_neg c3] at H
        have c3b0 : decide (x5_1 < (l0.length : Int)) = false := decide_eq_false c3
        clear c3
        obtain rfl := Option.some.inj H
        go_wp2
        go_ret
        exact ⟨by first | rfl | (simp; done) | (simp [*]; done), by repeat (first | exact Drawn0.refl _ | apply Drawn0.step)⟩

end Go.Proofs.Ytnikblimnjpmpaa.X

/- ==== XlawsmarkIntS ==== -/
namespace Go.Proofs.Ytnikblimnjpmpaa.X
open Go.RowKit Go.Proofs.YtnikblimnjpmpaaW.PrintWords Go.Proofs.YtnikblimnjpmpaaW.PrintLast Go.Proofs.YtnikblimnjpmpaaW.PrintMore
attribute [local go_sem] max2_int min2_int max_two min_two max_three min_three max_four min_four   -- for this text's walks alone
set_option linter.unusedVariables false
set_option linter.unusedSimpArgs false

/-! ### laws_markIntS: function 29 -/
def laws_markIntS.l0 : Nat → List Int → Int → Int → Option (Int × List Int)
  | 0, _, _, _ => none
  | k + 1, x0, x1, x5 => if x5 < (x0.length : Int) then (if 0 ≤ x5 then (laws_markIntS.l0 k (x0.set (x5 : Int).toNat x1) (wrap64 (x1 + 1)) (wrap64 (x5 + 1))) else (none)) else (some (x1, x0))
def laws_markIntS.f (k : Nat) (l0 : List Int) (a1 : Int) : Option (Int × List Int) := laws_markIntS.l0 k l0 a1 0
theorem laws_markIntS.mono_l : ∀ k, (∀ y0 y1 y2, LeO (laws_markIntS.l0 k y0 y1 y2) (laws_markIntS.l0 (k + 1) y0 y1 y2))
  | 0 => fun _ _ _ r h => by simp [laws_markIntS.l0] at h
  | k + 1 => by
    have ih0 := laws_markIntS.mono_l k
    · intro y0 y1 y2
      unfold laws_markIntS.l0
      repeat' first
      | (with_reducible exact ih0 _ _ _)
      | (with_reducible exact LeO.refl _)
      | (with_reducible exact LeO.none _)
      | (with_reducible refine LeO.ite ?_ ?_)
      | (with_reducible refine LeO.bind ?_ (fun _ => ?_))
      | exact ih0 _ _ _
      | exact LeO.none _
      | refine LeO.ite ?_ ?_
      | refine LeO.bind ?_ (fun _ => ?_)
theorem laws_markIntS.mono : ∀ a0 a1 k, LeO (laws_markIntS.f k a0 a1) (laws_markIntS.f (k + 1) a0 a1) := by
  intro a0 a1 k
  have ih0 := laws_markIntS.mono_l k
  unfold laws_markIntS.f
  repeat' first
      | (with_reducible exact ih0 _ _ _)
      | (with_reducible exact LeO.refl _)
      | (with_reducible exact LeO.none _)
      | (with_reducible refine LeO.ite ?_ ?_)
      | (with_reducible refine LeO.bind ?_ (fun _ => ?_))
      | exact ih0 _ _ _
      | exact LeO.none _
      | refine LeO.ite ?_ ?_
      | refine LeO.bind ?_ (fun _ => ?_)
set_option maxHeartbeats 8000000 in
set_option maxRecDepth 100000 in
theorem laws_markIntS.calls (k : Nat) (P0_ : Nat → Prop) (u9000_ : Value) (l0 : List Int) (a1 : Int) (r1 : Int) (r2 : List Int) (w0 w : World) (hB : Below w0.heap.size w0 w) (ho0 : Kd.R (Kd.int .i64) 3 w w0.heap.size P0_ u9000_ l0) (h : laws_markIntS.f k l0 a1 = some (r1, r2)) :
    Calls Try.prog 29 #[u9000_, .int .i64 a1] w fun e w' => e = .returned (.int .i64 r1) ∧ Kd.R (Kd.int .i64) 3 w' w0.heap.size (fun k_ => (P0_ k_ ∨ w.heap.size ≤ k_)) u9000_ r2 ∧ Below w0.heap.size w0 w' ∧ Kept w w' (fun k_ => P0_ k_) := by
  have HO0 := Aside0.mk (show Kd.R (Kd.int .i64) 3 w w0.heap.size (fun k_ => (P0_ k_ ∨ w.heap.size ≤ k_)) u9000_ l0 from Kd.R_mono ho0 (fun k_ hk => (.inl hk)))
  have HK := Aside0.mk (Kept.refl w (fun k_ => P0_ k_))
  have HW0 := Aside0.mk hB.size
  have HB := Aside0.mk hB
  clear hB
  have H : (laws_markIntS.l0 k l0 a1 0) = some (r1, r2) := h
  clear h
  have H' := Aside0.mk H
  clear H
  go_enter Try.func29, Try.ntmps29
  go_wp2
  go_loopg [1, 5] k (fun kq v1 v5 w' => ∃ (x0_1 : List Int) (x1_1 : Int) (x5_1 : Int), v1 = .int .i64 x1_1 ∧ v5 = .int .i64 x5_1 ∧ Aside0 (laws_markIntS.l0 kq x0_1 x1_1 x5_1 = some (r1, r2)) ∧ Aside0 (kq ≤ k) ∧ Aside0 (Kd.R (Kd.int .i64) 3 w' w0.heap.size (fun k_ => (P0_ k_ ∨ w.heap.size ≤ k_)) u9000_ x0_1) ∧ Aside0 (Kept w w' (fun k_ => P0_ k_)) ∧ Aside0 (Below w0.heap.size w0 w'))
  case atStart => exact ⟨(l0), (a1), (0), (by first | rfl | (simp; done) | (simp [*]; done)), (by first | rfl | (simp; done) | (simp [*]; done)), H', ⟨Nat.le_refl _⟩, ⟨by (with_reducible repeat (first | apply Kd.R_alloc | apply Kd.R_drewN | apply Kd.R_drew)); exact HO0.out⟩, ⟨by repeat (first | (with_reducible first | exact HK.out | apply Kept.alloc | apply Kept.drewN | apply Kept.drew) | exact HK.out)⟩, ⟨by repeat (first | (with_reducible first | exact HB.out | apply below_alloc | apply pw_below_drewN | apply below_drew1) | exact HB.out)⟩⟩
  case round =>
    clear H'
    try clear c2
    try clear p2
    obtain ⟨x0_1, x1_1, x5_1, rfl, rfl, HA, HK1, HO_0, HK, HB⟩ := hrel
    cases gk with
    | zero => exact absurd HA.out (by simp [laws_markIntS.l0])
    | succ k1 =>
      have H := HA.out
      clear HA
      simp only [laws_markIntS.l0] at H
      by_cases c3 : x5_1 < (x0_1.length : Int)
      · rw [if_pos c3] at H
        have c3b0 : decide (x5_1 < (x0_1.length : Int)) = true := decide_eq_true c3
        clear c3
        by_cases c4 : 0 ≤ x5_1
        · rw [if_pos c4] at H
          have c4b0 : decide (0 ≤ x5_1) = true := decide_eq_true c4
          clear c4
          obtain ⟨y430, hy430⟩ : ∃ y_ : List Int, y_ = (x0_1.set (x5_1 : Int).toNat x1_1) := ⟨_, rfl⟩
          replace H : (laws_markIntS.l0 k1 y430 (wrap64 (x1_1 + 1)) (wrap64 (x5_1 + 1))) = some (r1, r2) := by first | (rw [hy430]; with_reducible exact H) | (have H2_ := (Option.bind_some _ _).symm.trans H; rw [hy430]; with_reducible exact H2_) | (have H2_ := (Option.bind_some _ _).symm.trans H; with_reducible exact H2_) | with_reducible exact H | (rw [hy430]; exact H) | exact H
          have Ny430 := Aside0.mk hy430
          clear hy430
          have H' := Aside0.mk H
          clear H
          obtain ⟨Ao6, co6, eo6⟩ := Kd.R_slice HO_0.out
          subst eo6
          have p5 : 0 ≤ (x5_1 : Int) := of_decide_eq_true (by first | (with_reducible assumption) | assumption)
          have q5 : (x5_1 : Int) < ((x0_1.length : Int) : Int) := of_decide_eq_true (by first | (with_reducible assumption) | assumption)
          obtain ⟨go5, co5, eo5, gb5, gl5, cl5, HG5⟩ := Kd.R_form HO_0.out (by omega)
          (first | cases eo5 | (injection eo5 with ea_ en_ ec_; (first | subst ea_ | (injection ea_ with ea_; subst ea_)); subst ec_; clear en_))
          have GB5 := Aside0.mk gb5
          have GG5 := Aside0.mk HG5
          clear gb5 gl5 HG5
          have HMgo5 := Aside0.mk (show (P0_ go5 ∨ w.heap.size ≤ go5) from (HO_0.out.1 _ rfl))
          obtain ⟨hx5_0, hf5_0⟩ := Kd.R_celln 0 HO_0.out (x5_1 : Int) p5 q5
          replace p5 := eq_true p5
          replace q5 := eq_true q5
          have HP7 := Kd.R_putg HO_0.out (x5_1 : Int) x1_1
          go_wp2_with (first | ((with_reducible refine gate_store (t := 3) (p := 15) rfl ?_); refine store_event (t := 3) (p := 15) (v := ?vo_w8) (w1 := (wr.setCell ⟨go5, (x5_1 : Int).toNat, none⟩ (.int .i64 x1_1))) ?hg ?ho ?hn ?hr ?_; (case ho => rfl); (case hg => rfl); (case hn => rfl); (case hr => first | (go_simp; done) | (go_simp; rfl)); intro w8 hw; have hg : wr.grownBy w8 (some go5) := (by rw [hw]; exact HP7.2); have hp_ : Kd.R (Kd.int .i64) 3 w8 w0.heap.size (fun k_ => (P0_ k_ ∨ w.heap.size ≤ k_)) (.slice (some ⟨go5, 0, none⟩) x0_1.length co6) y430 := (by rw [hw, Ny430.out]; exact HP7.1); clear HP7; have n0_ := Aside0.mk (hp_); have n1_ := Aside0.mk ((by rw [hw]; exact below_set (HB.out) GB5.out : Below w0.heap.size w0 w8)); have n2_ := Aside0.mk (Kept.of_grown (S := (fun k_ => P0_ k_)) hg (by repeat (first | (with_reducible first | exact HK.out | apply Kept.alloc | apply Kept.drewN | apply Kept.drew) | exact HK.out)) (fun k_ e_ => (HO_0.out.1 k_ e_))); clear HO_0; clear HB; clear HK; have HO_0 := n0_; have HB := n1_; have HK := n2_; clear n0_ n1_ n2_; clear hg hw hp_))
          go_roundg k1
          case measure => have := HK1.out; omega
          case rel => exact ⟨(y430), (wrap64 (x1_1 + 1)), (wrap64 (x5_1 + 1)), (by first | rfl | (simp; done) | (simp [*]; done)), (by first | rfl | (simp; done) | (simp [*]; done)), H', ⟨by have := HK1.out; omega⟩, ⟨by (with_reducible repeat (first | apply Kd.R_alloc | apply Kd.R_drewN | apply Kd.R_drew)); exact HO_0.out⟩, ⟨by repeat (first | (with_reducible first | exact HK.out | apply Kept.alloc | apply Kept.drewN | apply Kept.drew) | exact HK.out)⟩, ⟨by repeat (first | (with_reducible first | exact HB.out | apply below_alloc | apply pw_below_drewN | apply below_drew1) | exact HB.out)⟩⟩
        · rw [if_neg c4] at H
          exact absurd H (by simp)
      · rw [if_neg c3] at H
        have c3b0 : decide (x5_1 < (x0_1.length : Int)) = false := decide_eq_false c3
        clear c3
        simp only [Option.some.injEq, Prod.mk.injEq] at H
        obtain ⟨rfl, rfl⟩ := H
        obtain ⟨Ao9, co9, eo9⟩ := Kd.R_slice HO_0.out
        subst eo9
        go_wp2
        go_ret
        exact ⟨by first | rfl | (simp [errW_none, errW_some] <;> rfl) | (simp [*, errW_none, errW_some] <;> rfl), by (with_reducible repeat (first | apply Kd.R_alloc | apply Kd.R_drewN | apply Kd.R_drew)); exact HO_0.out, by repeat (first | (with_reducible first | exact HB.out | apply below_alloc | apply pw_below_drewN | apply below_drew1) | exact HB.out), by repeat (first | (with_reducible first | exact HK.out | apply Kept.alloc | apply Kept.drewN | apply Kept.drew) | exact HK.out)⟩

end Go.Proofs.Ytnikblimnjpmpaa.X

/- ==== PlDraw ==== -/
/- Plain laws, no program in sight: what the program's LikeliestDraw and the reference's answer is the same. -/
namespace Go.Proofs.Ytnikblimnjpmpaa.X
open Go.RowKit Go.Proofs.YtnikblimnjpmpaaW.PrintWords Go.Proofs.YtnikblimnjpmpaaW.PrintLast Go.Proofs.YtnikblimnjpmpaaW.PrintMore

theorem LikeliestDraw_both (l0 : List Int) (a1 : Int) (hn : l0.length ≤ 1048576) : ∃ r : List Int × Bool, r.1.length ≤ 1048576 ∧ Ev (fun k => spec_LikeliestDraw.f k l0 a1) r ∧ Ev (fun k => impl_LikeliestDraw.f k l0 a1) r := by
  obtain ⟨r, h1, h2, h3⟩ := drawF_spec l0 a1 hn
  refine ⟨r, h1, h3, Ev.congr (f := fun _ => some r) (fun k => ?_) (Ev.now r)⟩
  unfold impl_LikeliestDraw.f
  rw [if_pos hn, h2]
end Go.Proofs.Ytnikblimnjpmpaa.X

/- ==== PlMarkI ==== -/
/- Plain laws, no program in sight: the law's marks, written into a list of numbers and read back. -/
namespace Go.Proofs.Ytnikblimnjpmpaa.X
open Go.RowKit Go.Proofs.YtnikblimnjpmpaaW.PrintWords Go.Proofs.YtnikblimnjpmpaaW.PrintLast Go.Proofs.YtnikblimnjpmpaaW.PrintMore

theorem w64n {i n : Nat} (h : i ≤ n) (hn : n ≤ 1073741824) : wrap64 ((i : Int) + 1) = ((i + 1 : Nat) : Int) := by unfold wrap64; omega
def markedI (l : List Int) (m : Nat) : Prop := ∀ j, j < l.length → rd l (j : Int) = ((j + m : Nat) : Int)
theorem rdI_set_self {F : List Int} {i : Nat} {x : Int} (h : i < F.length) : rd (F.set i x) (i : Int) = x := by simp [rd, List.getD_eq_getElem?_getD, h]
theorem rdI_set_ne {F : List Int} {i k : Nat} {x : Int} (h : k ≠ i) : rd (F.set i x) (k : Int) = rd F (k : Int) := by
  simp [rd, List.getD_eq_getElem?_getD, List.getElem?_set_ne (Ne.symm h)]
theorem markI_loop (n m : Nat) (hn : n ≤ 1048576) (hm : m ≤ 4194304) (d : Nat) : ∀ (i : Nat) (l : List Int), l.length = n → i + d = n → (∀ j, j < i → rd l (j : Int) = ((j + m : Nat) : Int)) →
    ∃ l', l'.length = n ∧ markedI l' m ∧ Ev (fun k => laws_markIntS.l0 k l ((i + m : Nat) : Int) (i : Int)) (((n + m : Nat) : Int), l') := by
  induction d with
  | zero =>
    intro i l hl hi hp
    obtain rfl : i = n := by omega
    refine ⟨l, hl, fun j hj => hp j (by omega), Ev.step (f := fun _ => some _) (fun k => ?_) (Ev.now _)⟩
    simp only [laws_markIntS.l0]
    rw [if_neg (by omega)]
  | succ d ih =>
    intro i l hl hi hp
    have hlt : i < l.length := by omega
    obtain ⟨l', h1, h2, h3⟩ := ih (i + 1) (l.set i ((i + m : Nat) : Int)) (by simpa using hl) (by omega) (fun j hj => by
      by_cases e : j = i
      · subst e
        rw [rdI_set_self hlt]
      · rw [rdI_set_ne e]
        exact hp j (by omega))
    refine ⟨l', h1, h2, Ev.step (fun k => ?_) h3⟩
    simp only [laws_markIntS.l0]
    rw [if_pos (by omega), if_pos (by omega), Int.toNat_natCast, w64n (i := i + m) (n := 8388608) (by omega) (by omega), w64n (i := i) (n := 4194304) (by omega) (by omega), show i + m + 1 = i + 1 + m from by omega]
theorem markI_ev (l : List Int) (hn : l.length ≤ 1048576) (m : Nat) (hm : m ≤ 4194304) : ∃ l', l'.length = l.length ∧ markedI l' m ∧ Ev (fun k => laws_markIntS.f k l (m : Int)) (((l.length + m : Nat) : Int), l') := by
  obtain ⟨l', h1, h2, h3⟩ := markI_loop l.length m hn hm l.length 0 l rfl (by omega) (fun j hj => absurd hj (by omega))
  refine ⟨l', h1, h2, ?_⟩
  simpa [laws_markIntS.f] using h3
theorem heldI_loop (l : List Int) (m : Nat) (hn : l.length ≤ 1048576) (hm : m ≤ 4194304) (hk : markedI l m) (d : Nat) : ∀ (i : Nat), i + d = l.length →
    Ev (fun k => laws_heldIntS.l0 k l ((i + m : Nat) : Int) (i : Int)) ((l.length + m : Nat) : Int) := by
  induction d with
  | zero =>
    intro i hi
    obtain rfl : i = l.length := by omega
    refine Ev.step (f := fun _ => some _) (fun k => ?_) (Ev.now _)
    simp only [laws_heldIntS.l0]
    rw [if_neg (by omega)]
  | succ d ih =>
    intro i hi
    have hlt : i < l.length := by omega
    refine Ev.step (fun k => ?_) (ih (i + 1) (by omega))
    simp only [laws_heldIntS.l0]
    rw [if_pos (by omega), if_pos (by omega), if_pos (hk i hlt), w64n (i := i + m) (n := 8388608) (by omega) (by omega), w64n (i := i) (n := 4194304) (by omega) (by omega), show i + m + 1 = i + 1 + m from by omega]
theorem markI_ex (l : List Int) (hn : l.length ≤ 1048576) (m : Int) (h0 : 0 ≤ m) (h1 : m ≤ 4194304) : ∃ (q : Int) (l' : List Int), 0 ≤ q ∧ q ≤ m + 1048576 ∧ Ev (fun k => laws_markIntS.f k l m) (q, l') := by
  obtain ⟨m, rfl⟩ := Int.eq_ofNat_of_zero_le h0
  obtain ⟨l', h1, h2, h3⟩ := markI_ev l hn m (by omega)
  exact ⟨((l.length + m : Nat) : Int), l', by omega, by omega, h3⟩
theorem markH_ex (l : List Int) (hn : l.length ≤ 1048576) : ∃ (q : Int) (l' : List Int), 0 ≤ q ∧ q ≤ 4194304 ∧ Ev (fun k => laws_markIntS.f k l 1) (q, l') ∧ Ev (fun k => laws_heldIntS.f k l' 1) q := by
  obtain ⟨l', h1, h2, h3⟩ := markI_ev l hn 1 (by omega)
  refine ⟨((l.length + 1 : Nat) : Int), l', by omega, by omega, h3, ?_⟩
  have := heldI_loop l' 1 (by omega) (by omega) h2 l'.length 0 (by omega)
  rw [h1] at this
  simpa [laws_heldIntS.f] using this

end Go.Proofs.Ytnikblimnjpmpaa.X
