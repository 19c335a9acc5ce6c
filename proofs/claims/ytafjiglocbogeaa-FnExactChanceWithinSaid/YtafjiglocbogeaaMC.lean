/- Texts of this seat in one: contracts of the functions (those written by wip/tools/xprint.py and those proved by hand) and plain laws. -/
import Derived.Test.YtafjiglocbogeaaMA
import Derived.Test.YtafjiglocbogeaaMB
/- ==== XspecdwOpened ==== -/
namespace Go.Proofs.Ytafjiglocbogeaa.X
open Go.RowKit Go.Proofs.YtafjiglocbogeaaW.PrintWords Go.Proofs.YtafjiglocbogeaaW.PrintLast Go.Proofs.YtafjiglocbogeaaW.PrintMore
attribute [local go_sem] max2_int min2_int max_two min_two max_three min_three max_four min_four   -- for this text's walks alone
set_option linter.unusedVariables false
set_option linter.unusedSimpArgs false

/-! ### spec_dwOpened: function 64 -/
def spec_dwOpened.l0 : Nat → List (S50) → Int → List Int → Int → Int → Option (Int)
  | 0, _, _, _, _, _ => none
  | k + 1, x0, x5, x8, x9, x10 => if x10 < x9 then (if 0 ≤ x10 then (if x10 < (x8.length : Int) then (if 0 ≤ (rd x8 x10) then (if (rd x8 x10) < (x0.length : Int) then (spec_dwOpened.l0 k x0 (wrap64 (x5 + (wrap64 (((rd_T50 x0 (rd x8 x10)).f0) * (wrap64 (x10 + 1)))))) x8 x9 (wrap64 (x10 + 1))) else (none)) else (none)) else (none)) else (none)) else (some x5)
def spec_dwOpened.f (k : Nat) (l0 : List (S50)) (l1 : List Int) : Option (Int) := spec_dwOpened.l0 k l0 0 l1 (l1.length : Int) 0
theorem spec_dwOpened.mono_l : ∀ k, (∀ y0 y1 y2 y3 y4, LeO (spec_dwOpened.l0 k y0 y1 y2 y3 y4) (spec_dwOpened.l0 (k + 1) y0 y1 y2 y3 y4))
  | 0 => fun _ _ _ _ _ r h => by simp [spec_dwOpened.l0] at h
  | k + 1 => by
    have ih0 := spec_dwOpened.mono_l k
    · intro y0 y1 y2 y3 y4
      unfold spec_dwOpened.l0
      repeat' first
      | (with_reducible exact ih0 _ _ _ _ _)
      | (with_reducible exact LeO.refl _)
      | (with_reducible exact LeO.none _)
      | (with_reducible refine LeO.ite ?_ ?_)
      | (with_reducible refine LeO.bind ?_ (fun _ => ?_))
      | exact ih0 _ _ _ _ _
      | exact LeO.none _
      | refine LeO.ite ?_ ?_
      | refine LeO.bind ?_ (fun _ => ?_)
theorem spec_dwOpened.mono : ∀ a0 a1 k, LeO (spec_dwOpened.f k a0 a1) (spec_dwOpened.f (k + 1) a0 a1) := by
  intro a0 a1 k
  have ih0 := spec_dwOpened.mono_l k
  unfold spec_dwOpened.f
  repeat' first
      | (with_reducible exact ih0 _ _ _ _ _)
      | (with_reducible exact LeO.refl _)
      | (with_reducible exact LeO.none _)
      | (with_reducible refine LeO.ite ?_ ?_)
      | (with_reducible refine LeO.bind ?_ (fun _ => ?_))
      | exact ih0 _ _ _ _ _
      | exact LeO.none _
      | refine LeO.ite ?_ ?_
      | refine LeO.bind ?_ (fun _ => ?_)
set_option maxHeartbeats 8000000 in
set_option maxRecDepth 100000 in
theorem spec_dwOpened.calls (k : Nat) (A0 : Option Addr) (c0 : Nat) (l0 : List (S50)) (A1 : Option Addr) (c1 : Nat) (l1 : List Int) (r : Int) (w : World) (hr0 : Kd.C k50 w A0 l0.length l0) (hc0 : l0.length ≤ c0) (hr1 : Kd.C (Kd.int .i64) w A1 l1.length l1) (hc1 : l1.length ≤ c1) (h : spec_dwOpened.f k l0 l1 = some r) :
    Calls Try.prog 64 #[.slice A0 l0.length c0, .slice A1 l1.length c1] w fun e w' => e = .returned (.int .i64 r) ∧ Drawn0 w w' := by
  have HR0 := Aside0.mk hr0
  have HC0 := Aside0.mk hc0
  clear hr0 hc0
  have HR1 := Aside0.mk hr1
  have HC1 := Aside0.mk hc1
  clear hr1 hc1
  have H : (spec_dwOpened.l0 k l0 0 l1 (l1.length : Int) 0) = some r := h
  clear h
  have H' := Aside0.mk H
  clear H
  go_enter Try.func64, Try.ntmps64
  go_wp2
  go_loopg [5, 10] k (fun kq v5 v10 w' => ∃ (x5_1 : Int) (x10_1 : Int), v5 = .int .i64 x5_1 ∧ v10 = .int .i64 x10_1 ∧ Aside0 (spec_dwOpened.l0 kq l0 x5_1 l1 (l1.length : Int) x10_1 = some r) ∧ Aside0 (kq ≤ k) ∧ Drawn0 w w')
  case atStart => exact ⟨(0), (0), (by first | rfl | (simp; done) | (simp [*]; done)), (by first | rfl | (simp; done) | (simp [*]; done)), H', ⟨Nat.le_refl _⟩, by repeat (first | exact Drawn0.refl _ | apply Drawn0.step)⟩
  case round =>
    clear H'
    try clear c1
    try clear p2
    obtain ⟨x5_1, x10_1, rfl, rfl, HA, HK1, ⟨m1, rfl⟩⟩ := hrel
    cases gk with
    | zero => exact absurd HA.out (by simp [spec_dwOpened.l0])
    | succ k1 =>
      have H := HA.out
      clear HA
      simp only [spec_dwOpened.l0] at H
      by_cases c3 : x10_1 < (l1.length : Int)
      · rw [if_pos c3] at H
        have c3b0 : decide (x10_1 < (l1.length : Int)) = true := decide_eq_true c3
        clear c3
        by_cases c4 : 0 ≤ x10_1
        · rw [if_pos c4] at H
          have c4b0 : decide (0 ≤ x10_1) = true := decide_eq_true c4
          clear c4
          by_cases c5 : x10_1 < (l1.length : Int)
          · rw [if_pos c5] at H
            have c5b0 : decide (x10_1 < (l1.length : Int)) = true := decide_eq_true c5
            clear c5
            by_cases c6 : 0 ≤ (rd l1 x10_1)
            · rw [if_pos c6] at H
              have c6b0 : decide (0 ≤ (rd l1 x10_1)) = true := decide_eq_true c6
              clear c6
              by_cases c7 : (rd l1 x10_1) < (l0.length : Int)
              · rw [if_pos c7] at H
                have c7b0 : decide ((rd l1 x10_1) < (l0.length : Int)) = true := decide_eq_true c7
                clear c7
                have H' := Aside0.mk H
                clear H
                have p387 : 0 ≤ (x10_1 : Int) := of_decide_eq_true (by first | (with_reducible assumption) | assumption)
                have q387 : x10_1 < (l1.length : Int) := of_decide_eq_true (by first | (with_reducible assumption) | assumption)
                obtain ⟨ad387, e387, hx387_0⟩ := Kd.at_int HR1.out x10_1 p387 q387
                cases e387
                replace p387 := eq_true p387
                replace q387 := eq_true q387
                have p388 : 0 ≤ ((rd l1 x10_1) : Int) := of_decide_eq_true (by first | (with_reducible assumption) | assumption)
                have q388 : (rd l1 x10_1) < (l0.length : Int) := of_decide_eq_true (by first | (with_reducible assumption) | assumption)
                obtain ⟨ad388, e388, hx388_0, hx388_1⟩ := at_T50 HR0.out (rd l1 x10_1) p388 q388
                cases e388
                replace p388 := eq_true p388
                replace q388 := eq_true q388
                go_wp2
                go_roundg k1
                case measure => have := HK1.out; omega
                case rel => exact ⟨(wrap64 (x5_1 + (wrap64 (((rd_T50 l0 (rd l1 x10_1)).f0) * (wrap64 (x10_1 + 1)))))), (wrap64 (x10_1 + 1)), (by first | rfl | (simp; done) | (simp [*]; done)), (by first | rfl | (simp; done) | (simp [*]; done)), H', ⟨by have := HK1.out; omega⟩, by repeat (first | exact Drawn0.refl _ | apply Drawn0.step)⟩
              · rw [if_neg c7] at H
                exact absurd H (by simp)
            · rw [if_neg c6] at H
              exact absurd H (by simp)
          · rw [if_neg c5] at H
            exact absurd H (by simp)
        · rw [if_neg c4] at H
          exact absurd H (by simp)
      · rw [if_neg c3] at H
        have c3b0 : decide (x10_1 < (l1.length : Int)) = false := decide_eq_false c3
        clear c3
        obtain rfl := Option.some.inj H
        go_wp2
        go_ret
        exact ⟨by first | rfl | (simp; done) | (simp [*]; done), by repeat (first | exact Drawn0.refl _ | apply Drawn0.step)⟩

end Go.Proofs.Ytafjiglocbogeaa.X

/- ==== XspecMeanOpened ==== -/
namespace Go.Proofs.Ytafjiglocbogeaa.X
open Go.RowKit Go.Proofs.YtafjiglocbogeaaW.PrintWords Go.Proofs.YtafjiglocbogeaaW.PrintLast Go.Proofs.YtafjiglocbogeaaW.PrintMore
attribute [local go_sem] max2_int min2_int max_two min_two max_three min_three max_four min_four   -- for this text's walks alone
set_option linter.unusedVariables false
set_option linter.unusedSimpArgs false

/-! ### spec_MeanOpened: function 35 -/
def spec_MeanOpened.f (k : Nat) (l0 : List (S50)) (l1 : List Int) : Option (Int × Int × Bool) := (spec_dwBoth.f k l0 l1).bind fun t389 => (if t389 = true then ((spec_dwOpened.f k l0 l1).bind fun t390 => ((spec_dwAll.f k l0).bind fun t391 => ((spec_gvLow.f k t390 t391).bind fun bt392 => (some (bt392.1, bt392.2, true))))) else (some (0, 0, false)))
theorem spec_MeanOpened.mono : ∀ a0 a1 k, LeO (spec_MeanOpened.f k a0 a1) (spec_MeanOpened.f (k + 1) a0 a1) := by
  intro a0 a1 k
  unfold spec_MeanOpened.f
  repeat' first
      | (with_reducible exact spec_dwAll.mono _ _)
      | (with_reducible exact spec_dwBoth.mono _ _ _)
      | (with_reducible exact spec_dwOpened.mono _ _ _)
      | (with_reducible exact spec_gvLow.mono _ _ _)
      | (with_reducible exact LeO.refl _)
      | (with_reducible exact LeO.none _)
      | (with_reducible refine LeO.ite ?_ ?_)
      | (with_reducible refine LeO.bind ?_ (fun _ => ?_))
      | exact spec_dwAll.mono _ _
      | exact spec_dwBoth.mono _ _ _
      | exact spec_dwOpened.mono _ _ _
      | exact spec_gvLow.mono _ _ _
      | exact LeO.none _
      | refine LeO.ite ?_ ?_
      | refine LeO.bind ?_ (fun _ => ?_)
set_option maxHeartbeats 8000000 in
set_option maxRecDepth 100000 in
theorem spec_MeanOpened.calls (k : Nat) (A0 : Option Addr) (c0 : Nat) (l0 : List (S50)) (A1 : Option Addr) (c1 : Nat) (l1 : List Int) (r1 : Int) (r2 : Int) (r3 : Bool) (w : World) (hr0 : Kd.C k50 w A0 l0.length l0) (hc0 : l0.length ≤ c0) (hr1 : Kd.C (Kd.int .i64) w A1 l1.length l1) (hc1 : l1.length ≤ c1) (h : spec_MeanOpened.f k l0 l1 = some (r1, r2, r3)) :
    Calls Try.prog 35 #[.slice A0 l0.length c0, .slice A1 l1.length c1] w fun e w' => e = .returned (.tuple #[.int .i64 r1, .int .i64 r2, .bool r3]) ∧ Below w.heap.size w w' := by
  have HR0 := Aside0.mk hr0
  have HC0 := Aside0.mk hc0
  clear hr0 hc0
  have HR1 := Aside0.mk hr1
  have HC1 := Aside0.mk hc1
  clear hr1 hc1
  have HB := Aside0.mk (Below.refl w.heap.size w)
  have H : ((spec_dwBoth.f k l0 l1).bind fun t389 => (if t389 = true then ((spec_dwOpened.f k l0 l1).bind fun t390 => ((spec_dwAll.f k l0).bind fun t391 => ((spec_gvLow.f k t390 t391).bind fun bt392 => (some (bt392.1, bt392.2, true))))) else (some (0, 0, false)))) = some (r1, r2, r3) := h
  clear h
  replace H := Option.bind_eq_some_iff.mp H
  obtain ⟨t389, A30, H⟩ := H
  replace H : (if t389 = true then ((spec_dwOpened.f k l0 l1).bind fun t390 => ((spec_dwAll.f k l0).bind fun t391 => ((spec_gvLow.f k t390 t391).bind fun bt392 => (some (bt392.1, bt392.2, true))))) else (some (0, 0, false))) = some (r1, r2, r3) := H
  have A3 := Aside0.mk A30
  clear A30
  by_cases c4 : t389 = true
  · subst c4
    have H1 : ((spec_dwOpened.f k l0 l1).bind fun t390 => ((spec_dwAll.f k l0).bind fun t391 => ((spec_gvLow.f k t390 t391).bind fun bt392 => (some (bt392.1, bt392.2, true))))) = some (r1, r2, r3) := by rw [if_pos rfl] at H; exact H
    clear H
    have H := H1
    clear H1
    replace H := Option.bind_eq_some_iff.mp H
    obtain ⟨t390, A50, H⟩ := H
    replace H : ((spec_dwAll.f k l0).bind fun t391 => ((spec_gvLow.f k t390 t391).bind fun bt392 => (some (bt392.1, bt392.2, true)))) = some (r1, r2, r3) := H
    have A5 := Aside0.mk A50
    clear A50
    replace H := Option.bind_eq_some_iff.mp H
    obtain ⟨t391, A60, H⟩ := H
    replace H : ((spec_gvLow.f k t390 t391).bind fun bt392 => (some (bt392.1, bt392.2, true))) = some (r1, r2, r3) := H
    have A6 := Aside0.mk A60
    clear A60
    replace H := Option.bind_eq_some_iff.mp H
    obtain ⟨⟨t392, t393⟩, A70, H⟩ := H
    replace H : (some (t392, t393, true)) = some (r1, r2, r3) := H
    have A7 := Aside0.mk A70
    clear A70
    simp only [Option.some.injEq, Prod.mk.injEq] at H
    obtain ⟨rfl, rfl, rfl⟩ := H
    go_enter Try.func35, Try.ntmps35
    go_wp2_with (first | ((with_reducible refine gate_callee (f := 58) rfl ?_); refine goesL_ (some 11) rfl rfl Try.func58 (by kernel_rfl) rfl #[.slice A0 l0.length c0, .slice A1 l1.length c1] rfl (by (try simp only [List.map_toArray, List.map_cons, List.map_nil]); first | done | rfl | (simp only [List.length_drop, List.length_take]; rfl)) ?_; (with_reducible refine (spec_dwBoth.calls k _ _ l0 _ _ l1 true _ ?side1 ?side2 ?side3 ?side4 A3.out).mono ?_); (case side1 => repeat (first | exact HR0.out | (with_reducible refine Kd.C_alloc ?_ _) | (with_reducible refine Kd.C_drewN ?_ _) | (with_reducible refine Kd.C_drew ?_))); (case side2 => exact HC0.out); (case side3 => repeat (first | exact HR1.out | (with_reducible refine Kd.C_alloc ?_ _) | (with_reducible refine Kd.C_drewN ?_ _) | (with_reducible refine Kd.C_drew ?_))); (case side4 => exact HC1.out); rintro e w8 ⟨rfl, hb⟩; refine ⟨_, rfl, ?_⟩; have n0_ := Aside0.mk (below_step (by repeat (first | (with_reducible first | exact HB.out | apply below_alloc | apply pw_below_drewN | apply below_drew1) | exact HB.out)) hb); clear HB; have HB := n0_; clear n0_; (try clear hb); (try clear hb2); (try clear hk); (try clear hi)) | ((with_reducible refine gate_callee (f := 64) rfl ?_); refine goesL_ (some 16) rfl rfl Try.func64 (by kernel_rfl) rfl #[.slice A0 l0.length c0, .slice A1 l1.length c1] rfl (by (try simp only [List.map_toArray, List.map_cons, List.map_nil]); first | done | rfl | (simp only [List.length_drop, List.length_take]; rfl)) ?_; (with_reducible refine (spec_dwOpened.calls k _ _ l0 _ _ l1 t390 _ ?side1 ?side2 ?side3 ?side4 A5.out).mono ?_); (case side1 => repeat (first | exact (Kd.C_below HR0.out HB.out) | (with_reducible refine Kd.C_alloc ?_ _) | (with_reducible refine Kd.C_drewN ?_ _) | (with_reducible refine Kd.C_drew ?_))); (case side2 => exact HC0.out); (case side3 => repeat (first | exact (Kd.C_below HR1.out HB.out) | (with_reducible refine Kd.C_alloc ?_ _) | (with_reducible refine Kd.C_drewN ?_ _) | (with_reducible refine Kd.C_drew ?_))); (case side4 => exact HC1.out); rintro e w' ⟨rfl, ⟨nd, rfl⟩⟩; refine ⟨_, rfl, ?_⟩) | ((with_reducible refine gate_callee (f := 53) rfl ?_); refine goesL_ (some 18) rfl rfl Try.func53 (by kernel_rfl) rfl #[.slice A0 l0.length c0] rfl (by (try simp only [List.map_toArray, List.map_cons, List.map_nil]); first | done | rfl | (simp only [List.length_drop, List.length_take]; rfl)) ?_; (with_reducible refine (spec_dwAll.calls k _ _ l0 t391 _ ?side1 ?side2 A6.out).mono ?_); (case side1 => repeat (first | exact (Kd.C_below HR0.out (by repeat (first | (with_reducible first | exact HB.out | apply below_alloc | apply pw_below_drewN | apply below_drew1) | exact HB.out))) | (with_reducible refine Kd.C_alloc ?_ _) | (with_reducible refine Kd.C_drewN ?_ _) | (with_reducible refine Kd.C_drew ?_))); (case side2 => exact HC0.out); rintro e w9 ⟨rfl, hb⟩; refine ⟨_, rfl, ?_⟩; have n0_ := Aside0.mk (below_step (by repeat (first | (with_reducible first | exact HB.out | apply below_alloc | apply pw_below_drewN | apply below_drew1) | exact HB.out)) hb); clear HB; have HB := n0_; clear n0_; (try clear hb); (try clear hb2); (try clear hk); (try clear hi)) | ((with_reducible refine gate_callee (f := 52) rfl ?_); refine goesL_ (some 19) rfl rfl Try.func52 (by kernel_rfl) rfl #[.int .i64 t390, .int .i64 t391] rfl (by (try simp only [List.map_toArray, List.map_cons, List.map_nil]); first | done | rfl | (simp only [List.length_drop, List.length_take]; rfl)) ?_; (with_reducible refine (spec_gvLow.calls k t390 t391 t392 t393 _ A7.out).mono ?_); rintro e w' ⟨rfl, ⟨nd, rfl⟩⟩; refine ⟨_, rfl, ?_⟩))
    go_ret3
    exact ⟨by first | rfl | (simp [errW_none, errW_some] <;> rfl) | (simp [*, errW_none, errW_some] <;> rfl), by repeat (first | (with_reducible first | exact HB.out | apply below_alloc | apply pw_below_drewN | apply below_drew1) | exact HB.out)⟩
  · replace c4 := Bool.eq_false_iff.mpr c4
    subst c4
    have H1 : (some (0, 0, false)) = some (r1, r2, r3) := by rw [if_neg (show ¬ (false = true) by decide)] at H; exact H
    clear H
    have H := H1
    clear H1
    simp only [Option.some.injEq, Prod.mk.injEq] at H
    obtain ⟨rfl, rfl, rfl⟩ := H
    go_enter Try.func35, Try.ntmps35
    go_wp2_with (first | ((with_reducible refine gate_callee (f := 58) rfl ?_); refine goesL_ (some 11) rfl rfl Try.func58 (by kernel_rfl) rfl #[.slice A0 l0.length c0, .slice A1 l1.length c1] rfl (by (try simp only [List.map_toArray, List.map_cons, List.map_nil]); first | done | rfl | (simp only [List.length_drop, List.length_take]; rfl)) ?_; (with_reducible refine (spec_dwBoth.calls k _ _ l0 _ _ l1 false _ ?side1 ?side2 ?side3 ?side4 A3.out).mono ?_); (case side1 => repeat (first | exact HR0.out | (with_reducible refine Kd.C_alloc ?_ _) | (with_reducible refine Kd.C_drewN ?_ _) | (with_reducible refine Kd.C_drew ?_))); (case side2 => exact HC0.out); (case side3 => repeat (first | exact HR1.out | (with_reducible refine Kd.C_alloc ?_ _) | (with_reducible refine Kd.C_drewN ?_ _) | (with_reducible refine Kd.C_drew ?_))); (case side4 => exact HC1.out); rintro e w10 ⟨rfl, hb⟩; refine ⟨_, rfl, ?_⟩; have n0_ := Aside0.mk (below_step (by repeat (first | (with_reducible first | exact HB.out | apply below_alloc | apply pw_below_drewN | apply below_drew1) | exact HB.out)) hb); clear HB; have HB := n0_; clear n0_; (try clear hb); (try clear hb2); (try clear hk); (try clear hi)))
    go_ret3
    exact ⟨by first | rfl | (simp [errW_none, errW_some] <;> rfl) | (simp [*, errW_none, errW_some] <;> rfl), by repeat (first | (with_reducible first | exact HB.out | apply below_alloc | apply pw_below_drewN | apply below_drew1) | exact HB.out)⟩

end Go.Proofs.Ytafjiglocbogeaa.X

/- ==== XspecdwMinutes ==== -/
namespace Go.Proofs.Ytafjiglocbogeaa.X
open Go.RowKit Go.Proofs.YtafjiglocbogeaaW.PrintWords Go.Proofs.YtafjiglocbogeaaW.PrintLast Go.Proofs.YtafjiglocbogeaaW.PrintMore
attribute [local go_sem] max2_int min2_int max_two min_two max_three min_three max_four min_four   -- for this text's walks alone
set_option linter.unusedVariables false
set_option linter.unusedSimpArgs false

/-! ### spec_dwMinutes: function 68 -/
def spec_dwMinutes.f (a0 : Int) : Option (Bool) := (spec_l1In.f a0 0 1000).bind fun t466 => (some t466)
set_option maxHeartbeats 8000000 in
set_option maxRecDepth 100000 in
theorem spec_dwMinutes.calls (a0 : Int) (r : Bool) (w : World) (h : spec_dwMinutes.f a0 = some r) :
    Calls Try.prog 68 #[.int .i64 a0] w fun e w' => e = .returned (.bool r) ∧ Drawn0 w w' := by
  have H : ((spec_l1In.f a0 0 1000).bind fun t466 => (some t466)) = some r := h
  clear h
  replace H := Option.bind_eq_some_iff.mp H
  obtain ⟨t466, A20, H⟩ := H
  replace H : (some t466) = some r := H
  have A2 := Aside0.mk A20
  clear A20
  obtain rfl := Option.some.inj H
  go_enter Try.func68, Try.ntmps68
  go_wp2_with (first | ((with_reducible refine gate_callee (f := 51) rfl ?_); refine goesL_ (some 4) rfl rfl Try.func51 (by kernel_rfl) rfl #[.int .i64 a0, .int .i64 0, .int .i64 1000] rfl (by (try simp only [List.map_toArray, List.map_cons, List.map_nil]); first | done | rfl | (simp only [List.length_drop, List.length_take]; rfl)) ?_; (with_reducible refine (spec_l1In.calls a0 0 1000 t466 _ A2.out).mono ?_); rintro e w' ⟨rfl, ⟨nd, rfl⟩⟩; refine ⟨_, rfl, ?_⟩))
  go_ret
  exact ⟨by first | rfl | (simp; done) | (simp [*]; done), by repeat (first | exact Drawn0.refl _ | apply Drawn0.step)⟩

end Go.Proofs.Ytafjiglocbogeaa.X

/- ==== XspecChanceWithin ==== -/
namespace Go.Proofs.Ytafjiglocbogeaa.X
open Go.RowKit Go.Proofs.YtafjiglocbogeaaW.PrintWords Go.Proofs.YtafjiglocbogeaaW.PrintLast Go.Proofs.YtafjiglocbogeaaW.PrintMore
attribute [local go_sem] max2_int min2_int max_two min_two max_three min_three max_four min_four   -- for this text's walks alone
set_option linter.unusedVariables false
set_option linter.unusedSimpArgs false

/-! ### spec_ChanceWithin: function 39 -/
mutual
def spec_ChanceWithin.j0 : Nat → List (S50) → List Int → Int → Bool → Option (Int × Int × Bool)
  | 0, _, _, _, _ => none
  | k + 1, x0, x1, x2, x22 => if x22 = true then (some (0, 0, false)) else ((spec_dwFound.f k x0 x1).bind fun t469 => (spec_ChanceWithin.l0 k x0 x2 0 t469 (t469.length : Int) 0))
def spec_ChanceWithin.l0 : Nat → List (S50) → Int → Int → List Int → Int → Int → Option (Int × Int × Bool)
  | 0, _, _, _, _, _, _ => none
  | k + 1, x0, x2, x9, x25, x26, x27 => if x27 < x26 then (if 0 ≤ x27 then (if x27 < (x25.length : Int) then (if (rd x25 x27) ≤ x2 then (if x27 < (x0.length : Int) then (spec_ChanceWithin.l0 k x0 x2 (wrap64 (x9 + ((rd_T50 x0 x27).f0))) x25 x26 (wrap64 (x27 + 1))) else (none)) else (spec_ChanceWithin.l0 k x0 x2 x9 x25 x26 (wrap64 (x27 + 1)))) else (none)) else (none)) else ((spec_dwAll.f k x0).bind fun t474 => ((spec_gvLow.f k x9 t474).bind fun bt475 => (some (bt475.1, bt475.2, true))))
end
def spec_ChanceWithin.f (k : Nat) (l0 : List (S50)) (l1 : List Int) (a2 : Int) : Option (Int × Int × Bool) := (spec_dwBoth.f k l0 l1).bind fun t467 => (if t467 = true then ((spec_dwMinutes.f a2).bind fun t468 => (spec_ChanceWithin.j0 k l0 l1 a2 (!t468))) else (spec_ChanceWithin.j0 k l0 l1 a2 true))
theorem spec_ChanceWithin.mono_l : ∀ k, (∀ y0 y1 y2 y3, LeO (spec_ChanceWithin.j0 k y0 y1 y2 y3) (spec_ChanceWithin.j0 (k + 1) y0 y1 y2 y3)) ∧ (∀ y0 y1 y2 y3 y4 y5, LeO (spec_ChanceWithin.l0 k y0 y1 y2 y3 y4 y5) (spec_ChanceWithin.l0 (k + 1) y0 y1 y2 y3 y4 y5))
  | 0 => ⟨fun _ _ _ _ r h => by simp [spec_ChanceWithin.j0] at h, fun _ _ _ _ _ _ r h => by simp [spec_ChanceWithin.l0] at h⟩
  | k + 1 => by
    obtain ⟨ih0, ih1⟩ := spec_ChanceWithin.mono_l k
    refine ⟨?_, ?_⟩
    · intro y0 y1 y2 y3
      unfold spec_ChanceWithin.j0
      repeat' first
      | (with_reducible exact ih0 _ _ _ _)
      | (with_reducible exact ih1 _ _ _ _ _ _)
      | (with_reducible exact spec_dwAll.mono _ _)
      | (with_reducible exact spec_dwBoth.mono _ _ _)
      | (with_reducible exact spec_dwFound.mono _ _ _)
      | (with_reducible exact spec_gvLow.mono _ _ _)
      | (with_reducible exact LeO.refl _)
      | (with_reducible exact LeO.none _)
      | (with_reducible refine LeO.ite ?_ ?_)
      | (with_reducible refine LeO.bind ?_ (fun _ => ?_))
      | exact ih0 _ _ _ _
      | exact ih1 _ _ _ _ _ _
      | exact spec_dwAll.mono _ _
      | exact spec_dwBoth.mono _ _ _
      | exact spec_dwFound.mono _ _ _
      | exact spec_gvLow.mono _ _ _
      | exact LeO.none _
      | refine LeO.ite ?_ ?_
      | refine LeO.bind ?_ (fun _ => ?_)
    · intro y0 y1 y2 y3 y4 y5
      unfold spec_ChanceWithin.l0
      repeat' first
      | (with_reducible exact ih0 _ _ _ _)
      | (with_reducible exact ih1 _ _ _ _ _ _)
      | (with_reducible exact spec_dwAll.mono _ _)
      | (with_reducible exact spec_dwBoth.mono _ _ _)
      | (with_reducible exact spec_dwFound.mono _ _ _)
      | (with_reducible exact spec_gvLow.mono _ _ _)
      | (with_reducible exact LeO.refl _)
      | (with_reducible exact LeO.none _)
      | (with_reducible refine LeO.ite ?_ ?_)
      | (with_reducible refine LeO.bind ?_ (fun _ => ?_))
      | exact ih0 _ _ _ _
      | exact ih1 _ _ _ _ _ _
      | exact spec_dwAll.mono _ _
      | exact spec_dwBoth.mono _ _ _
      | exact spec_dwFound.mono _ _ _
      | exact spec_gvLow.mono _ _ _
      | exact LeO.none _
      | refine LeO.ite ?_ ?_
      | refine LeO.bind ?_ (fun _ => ?_)
theorem spec_ChanceWithin.mono : ∀ a0 a1 a2 k, LeO (spec_ChanceWithin.f k a0 a1 a2) (spec_ChanceWithin.f (k + 1) a0 a1 a2) := by
  intro a0 a1 a2 k
  obtain ⟨ih0, ih1⟩ := spec_ChanceWithin.mono_l k
  unfold spec_ChanceWithin.f
  repeat' first
      | (with_reducible exact ih0 _ _ _ _)
      | (with_reducible exact ih1 _ _ _ _ _ _)
      | (with_reducible exact spec_dwAll.mono _ _)
      | (with_reducible exact spec_dwBoth.mono _ _ _)
      | (with_reducible exact spec_dwFound.mono _ _ _)
      | (with_reducible exact spec_gvLow.mono _ _ _)
      | (with_reducible exact LeO.refl _)
      | (with_reducible exact LeO.none _)
      | (with_reducible refine LeO.ite ?_ ?_)
      | (with_reducible refine LeO.bind ?_ (fun _ => ?_))
      | exact ih0 _ _ _ _
      | exact ih1 _ _ _ _ _ _
      | exact spec_dwAll.mono _ _
      | exact spec_dwBoth.mono _ _ _
      | exact spec_dwFound.mono _ _ _
      | exact spec_gvLow.mono _ _ _
      | exact LeO.none _
      | refine LeO.ite ?_ ?_
      | refine LeO.bind ?_ (fun _ => ?_)
set_option maxHeartbeats 8000000 in
set_option maxRecDepth 100000 in
theorem spec_ChanceWithin.calls (k : Nat) (A0 : Option Addr) (c0 : Nat) (l0 : List (S50)) (A1 : Option Addr) (c1 : Nat) (l1 : List Int) (a2 : Int) (r1 : Int) (r2 : Int) (r3 : Bool) (w : World) (hr0 : Kd.C k50 w A0 l0.length l0) (hc0 : l0.length ≤ c0) (hr1 : Kd.C (Kd.int .i64) w A1 l1.length l1) (hc1 : l1.length ≤ c1) (h : spec_ChanceWithin.f k l0 l1 a2 = some (r1, r2, r3)) :
    Calls Try.prog 39 #[.slice A0 l0.length c0, .slice A1 l1.length c1, .int .i64 a2] w fun e w' => e = .returned (.tuple #[.int .i64 r1, .int .i64 r2, .bool r3]) ∧ Below w.heap.size w w' := by
  have HR0 := Aside0.mk hr0
  have HC0 := Aside0.mk hc0
  clear hr0 hc0
  have HR1 := Aside0.mk hr1
  have HC1 := Aside0.mk hc1
  clear hr1 hc1
  have HB := Aside0.mk (Below.refl w.heap.size w)
  have H : ((spec_dwBoth.f k l0 l1).bind fun t467 => (if t467 = true then ((spec_dwMinutes.f a2).bind fun t468 => (spec_ChanceWithin.j0 k l0 l1 a2 (!t468))) else (spec_ChanceWithin.j0 k l0 l1 a2 true))) = some (r1, r2, r3) := h
  clear h
  have HC4 := Aside0.mk H
  clear H
  go_enter Try.func39, Try.ntmps39
  go_upto_region 1 with (fail)
  go_cut [22] (fun v22 wc => ∃ (kq : Nat) (x22_3 : Bool), v22 = .bool x22_3 ∧ Aside0 (spec_ChanceWithin.j0 kq l0 l1 a2 x22_3 = some (r1, r2, r3)) ∧ Aside0 (kq ≤ k) ∧ Aside0 (Below w.heap.size w wc))
  case first =>
    have H := HC4.out
    clear HC4
    replace H := Option.bind_eq_some_iff.mp H
    obtain ⟨t467, A50, H⟩ := H
    replace H : (if t467 = true then ((spec_dwMinutes.f a2).bind fun t468 => (spec_ChanceWithin.j0 k l0 l1 a2 (!t468))) else (spec_ChanceWithin.j0 k l0 l1 a2 true)) = some (r1, r2, r3) := H
    have A5 := Aside0.mk A50
    clear A50
    by_cases c6 : t467 = true
    · subst c6
      have H1 : ((spec_dwMinutes.f a2).bind fun t468 => (spec_ChanceWithin.j0 k l0 l1 a2 (!t468))) = some (r1, r2, r3) := by rw [if_pos rfl] at H; exact H
      clear H
      have H := H1
      clear H1
      replace H := Option.bind_eq_some_iff.mp H
      obtain ⟨t468, A70, H⟩ := H
      replace H : (spec_ChanceWithin.j0 k l0 l1 a2 (!t468)) = some (r1, r2, r3) := H
      have A7 := Aside0.mk A70
      clear A70
      have H' := Aside0.mk H
      clear H
      go_wp2_with (first | ((with_reducible refine gate_callee (f := 58) rfl ?_); refine goesL_ (some 16) rfl rfl Try.func58 (by kernel_rfl) rfl #[.slice A0 l0.length c0, .slice A1 l1.length c1] rfl (by (try simp only [List.map_toArray, List.map_cons, List.map_nil]); first | done | rfl | (simp only [List.length_drop, List.length_take]; rfl)) ?_; (with_reducible refine (spec_dwBoth.calls k _ _ l0 _ _ l1 true _ ?side1 ?side2 ?side3 ?side4 A5.out).mono ?_); (case side1 => repeat (first | exact (Kd.C_below HR0.out HB.out) | (with_reducible refine Kd.C_alloc ?_ _) | (with_reducible refine Kd.C_drewN ?_ _) | (with_reducible refine Kd.C_drew ?_))); (case side2 => exact HC0.out); (case side3 => repeat (first | exact (Kd.C_below HR1.out HB.out) | (with_reducible refine Kd.C_alloc ?_ _) | (with_reducible refine Kd.C_drewN ?_ _) | (with_reducible refine Kd.C_drew ?_))); (case side4 => exact HC1.out); rintro e w8 ⟨rfl, hb⟩; refine ⟨_, rfl, ?_⟩; have n0_ := Aside0.mk (below_step (by repeat (first | (with_reducible first | exact HB.out | apply below_alloc | apply pw_below_drewN | apply below_drew1) | exact HB.out)) hb); clear HB; have HB := n0_; clear n0_; (try clear hb); (try clear hb2); (try clear hk); (try clear hi)) | (go_at_call 68; (with_reducible refine (spec_dwMinutes.calls a2 t468 _ A7.out).mono ?_); rintro e w' ⟨rfl, ⟨nd, rfl⟩⟩))
      go_meet
      case rel => exact ⟨_, (!t468), (by first | rfl | (simp; done) | (simp [*]; done)), H', ⟨by first | omega | exact Nat.le_refl _⟩, ⟨by repeat (first | (with_reducible first | exact HB.out | apply below_alloc | apply pw_below_drewN | apply below_drew1) | exact HB.out)⟩⟩
    · replace c6 := Bool.eq_false_iff.mpr c6
      subst c6
      have H1 : (spec_ChanceWithin.j0 k l0 l1 a2 true) = some (r1, r2, r3) := by rw [if_neg (show ¬ (false = true) by decide)] at H; exact H
      clear H
      have H := H1
      clear H1
      have H' := Aside0.mk H
      clear H
      go_wp2_with (first | ((with_reducible refine gate_callee (f := 58) rfl ?_); refine goesL_ (some 16) rfl rfl Try.func58 (by kernel_rfl) rfl #[.slice A0 l0.length c0, .slice A1 l1.length c1] rfl (by (try simp only [List.map_toArray, List.map_cons, List.map_nil]); first | done | rfl | (simp only [List.length_drop, List.length_take]; rfl)) ?_; (with_reducible refine (spec_dwBoth.calls k _ _ l0 _ _ l1 false _ ?side1 ?side2 ?side3 ?side4 A5.out).mono ?_); (case side1 => repeat (first | exact (Kd.C_below HR0.out HB.out) | (with_reducible refine Kd.C_alloc ?_ _) | (with_reducible refine Kd.C_drewN ?_ _) | (with_reducible refine Kd.C_drew ?_))); (case side2 => exact HC0.out); (case side3 => repeat (first | exact (Kd.C_below HR1.out HB.out) | (with_reducible refine Kd.C_alloc ?_ _) | (with_reducible refine Kd.C_drewN ?_ _) | (with_reducible refine Kd.C_drew ?_))); (case side4 => exact HC1.out); rintro e w9 ⟨rfl, hb⟩; refine ⟨_, rfl, ?_⟩; have n0_ := Aside0.mk (below_step (by repeat (first | (with_reducible first | exact HB.out | apply below_alloc | apply pw_below_drewN | apply below_drew1) | exact HB.out)) hb); clear HB; have HB := n0_; clear n0_; (try clear hb); (try clear hb2); (try clear hk); (try clear hi)))
      go_meet
      case rel => exact ⟨_, (true), (by first | rfl | (simp; done) | (simp [*]; done)), H', ⟨by first | omega | exact Nat.le_refl _⟩, ⟨by repeat (first | (with_reducible first | exact HB.out | apply below_alloc | apply pw_below_drewN | apply below_drew1) | exact HB.out)⟩⟩
  case rest =>
    clear HC4
    try clear c1
    try clear p2
    try clear c3
    try clear c5
    try clear c6
    obtain ⟨kq, x22_3, rfl, HA, HJ3, HB⟩ := hcut
    cases kq with
    | zero => exact absurd HA.out (by simp [spec_ChanceWithin.j0])
    | succ kj3 =>
      have H := HA.out
      clear HA
      simp only [spec_ChanceWithin.j0] at H
      by_cases c10 : x22_3 = true
      · subst c10
        have H1 : (some (0, 0, false)) = some (r1, r2, r3) := by rw [if_pos rfl] at H; exact H
        clear H
        have H := H1
        clear H1
        simp only [Option.some.injEq, Prod.mk.injEq] at H
        obtain ⟨rfl, rfl, rfl⟩ := H
        go_wp2
        go_ret3
        exact ⟨by first | rfl | (simp [errW_none, errW_some] <;> rfl) | (simp [*, errW_none, errW_some] <;> rfl), by repeat (first | (with_reducible first | exact HB.out | apply below_alloc | apply pw_below_drewN | apply below_drew1) | exact HB.out)⟩
      · replace c10 := Bool.eq_false_iff.mpr c10
        subst c10
        have H1 : ((spec_dwFound.f kj3 l0 l1).bind fun t469 => (spec_ChanceWithin.l0 kj3 l0 a2 0 t469 (t469.length : Int) 0)) = some (r1, r2, r3) := by rw [if_neg (show ¬ (false = true) by decide)] at H; exact H
        clear H
        have H := H1
        clear H1
        replace H := Option.bind_eq_some_iff.mp H
        obtain ⟨t469, A110, H⟩ := H
        replace H : (spec_ChanceWithin.l0 kj3 l0 a2 0 t469 (t469.length : Int) 0) = some (r1, r2, r3) := H
        have A11 := Aside0.mk A110
        clear A110
        have H' := Aside0.mk H
        clear H
        go_wp2_with (first | ((with_reducible refine gate_callee (f := 62) rfl ?_); refine goesL_ (some 25) rfl rfl Try.func62 (by kernel_rfl) rfl #[.slice A0 l0.length c0, .slice A1 l1.length c1] rfl (by (try simp only [List.map_toArray, List.map_cons, List.map_nil]); first | done | rfl | (simp only [List.length_drop, List.length_take]; rfl)) ?_; (with_reducible refine (spec_dwFound.calls kj3 _ _ l0 _ _ l1 t469 _ ?side1 ?side2 ?side3 ?side4 A11.out).mono ?_); (case side1 => repeat (first | exact (Kd.C_below HR0.out HB.out) | (with_reducible refine Kd.C_alloc ?_ _) | (with_reducible refine Kd.C_drewN ?_ _) | (with_reducible refine Kd.C_drew ?_))); (case side2 => exact HC0.out); (case side3 => repeat (first | exact (Kd.C_below HR1.out HB.out) | (with_reducible refine Kd.C_alloc ?_ _) | (with_reducible refine Kd.C_drewN ?_ _) | (with_reducible refine Kd.C_drew ?_))); (case side4 => exact HC1.out); rintro e w12 ⟨v470, rfl, ho0, hb⟩; refine ⟨_, rfl, ?_⟩; have n0_ := Aside0.mk (Kd.R_lower ho0 (below_size (by repeat (first | (with_reducible first | exact HB.out | apply below_alloc | apply pw_below_drewN | apply below_drew1) | exact HB.out)))); have n1_ := Aside0.mk (below_step (by repeat (first | (with_reducible first | exact HB.out | apply below_alloc | apply pw_below_drewN | apply below_drew1) | exact HB.out)) hb); clear HB; have HO471 := n0_; have HB := n1_; clear n0_ n1_; (try clear hb); (try clear hb2); (try clear hk); (try clear hi); (try clear ho0); obtain ⟨Ao13, co13, eo13⟩ := Kd.R_slice HO471.out; subst eo13))
        go_loopg [9, 27] kj3 (fun kq v9 v27 w' => ∃ (x9_2 : Int) (x27_2 : Int), v9 = .int .i64 x9_2 ∧ v27 = .int .i64 x27_2 ∧ Aside0 (spec_ChanceWithin.l0 kq l0 a2 x9_2 t469 (t469.length : Int) x27_2 = some (r1, r2, r3)) ∧ Aside0 (kq ≤ kj3) ∧ Aside0 (Kd.R (Kd.int .i64) 3 w' w.heap.size (fun _ => True) (.slice Ao13 t469.length co13) t469) ∧ Aside0 (Below w.heap.size w w'))
        case atStart => exact ⟨(0), (0), (by first | rfl | (simp; done) | (simp [*]; done)), (by first | rfl | (simp; done) | (simp [*]; done)), H', ⟨Nat.le_refl _⟩, ⟨by (with_reducible repeat (first | apply Kd.R_alloc | apply Kd.R_drewN | apply Kd.R_drew)); exact HO471.out⟩, ⟨by repeat (first | (with_reducible first | exact HB.out | apply below_alloc | apply pw_below_drewN | apply below_drew1) | exact HB.out)⟩⟩
        case round =>
          clear H'
          try clear c1
          try clear p2
          try clear c3
          try clear c5
          try clear c6
          try clear c10
          try clear p2
          obtain ⟨x9_2, x27_2, rfl, rfl, HA, HK2, HO_25, HB⟩ := hrel
          cases gk with
          | zero => exact absurd HA.out (by simp [spec_ChanceWithin.l0])
          | succ k2 =>
            have H := HA.out
            clear HA
            simp only [spec_ChanceWithin.l0] at H
            by_cases c14 : x27_2 < (t469.length : Int)
            · rw [if_pos c14] at H
              have c14b0 : decide (x27_2 < (t469.length : Int)) = true := decide_eq_true c14
              clear c14
              by_cases c15 : 0 ≤ x27_2
              · rw [if_pos c15] at H
                have c15b0 : decide (0 ≤ x27_2) = true := decide_eq_true c15
                clear c15
                by_cases c16 : x27_2 < (t469.length : Int)
                · rw [if_pos c16] at H
                  have c16b0 : decide (x27_2 < (t469.length : Int)) = true := decide_eq_true c16
                  clear c16
                  by_cases c17 : (rd t469 x27_2) ≤ a2
                  · rw [if_pos c17] at H
                    have c17b0 : decide ((rd t469 x27_2) ≤ a2) = true := decide_eq_true c17
                    clear c17
                    by_cases c18 : x27_2 < (l0.length : Int)
                    · rw [if_pos c18] at H
                      have c18b0 : decide (x27_2 < (l0.length : Int)) = true := decide_eq_true c18
                      clear c18
                      have H' := Aside0.mk H
                      clear H
                      have p472 : 0 ≤ (x27_2 : Int) := of_decide_eq_true (by first | (with_reducible assumption) | assumption)
                      have q472 : x27_2 < (t469.length : Int) := of_decide_eq_true (by first | (with_reducible assumption) | assumption)
                      obtain ⟨ad472, e472, hx472_0⟩ := Kd.at_int (Kd.R_reads' HO_25.out).2.2 x27_2 p472 q472
                      cases e472
                      replace p472 := eq_true p472
                      replace q472 := eq_true q472
                      have p473 : 0 ≤ (x27_2 : Int) := of_decide_eq_true (by first | (with_reducible assumption) | assumption)
                      have q473 : x27_2 < (l0.length : Int) := of_decide_eq_true (by first | (with_reducible assumption) | assumption)
                      obtain ⟨ad473, e473, hx473_0, hx473_1⟩ := at_T50 HR0.out x27_2 p473 q473
                      cases e473
                      replace hx473_0 := (HB.out.cell (World.block_lt_of_cell? w _ hx473_0)).trans hx473_0
                      replace hx473_1 := (HB.out.cell (World.block_lt_of_cell? w _ hx473_1)).trans hx473_1
                      replace p473 := eq_true p473
                      replace q473 := eq_true q473
                      go_wp2
                      go_roundg k2
                      case measure => have := HJ3.out; have := HK2.out; omega
                      case rel => exact ⟨(wrap64 (x9_2 + ((rd_T50 l0 x27_2).f0))), (wrap64 (x27_2 + 1)), (by first | rfl | (simp; done) | (simp [*]; done)), (by first | rfl | (simp; done) | (simp [*]; done)), H', ⟨by have := HJ3.out; have := HK2.out; omega⟩, ⟨by (with_reducible repeat (first | apply Kd.R_alloc | apply Kd.R_drewN | apply Kd.R_drew)); exact HO_25.out⟩, ⟨by repeat (first | (with_reducible first | exact HB.out | apply below_alloc | apply pw_below_drewN | apply below_drew1) | exact HB.out)⟩⟩
                    · rw [if_neg c18] at H
                      exact absurd H (by simp)
                  · rw [if_neg c17] at H
                    have c17b0 : decide ((rd t469 x27_2) ≤ a2) = false := decide_eq_false c17
                    clear c17
                    have H' := Aside0.mk H
                    clear H
                    have p472 : 0 ≤ (x27_2 : Int) := of_decide_eq_true (by first | (with_reducible assumption) | assumption)
                    have q472 : x27_2 < (t469.length : Int) := of_decide_eq_true (by first | (with_reducible assumption) | assumption)
                    obtain ⟨ad472, e472, hx472_0⟩ := Kd.at_int (Kd.R_reads' HO_25.out).2.2 x27_2 p472 q472
                    cases e472
                    replace p472 := eq_true p472
                    replace q472 := eq_true q472
                    go_wp2
                    go_roundg k2
                    case measure => have := HJ3.out; have := HK2.out; omega
                    case rel => exact ⟨(x9_2), (wrap64 (x27_2 + 1)), (by first | rfl | (simp; done) | (simp [*]; done)), (by first | rfl | (simp; done) | (simp [*]; done)), H', ⟨by have := HJ3.out; have := HK2.out; omega⟩, ⟨by (with_reducible repeat (first | apply Kd.R_alloc | apply Kd.R_drewN | apply Kd.R_drew)); exact HO_25.out⟩, ⟨by repeat (first | (with_reducible first | exact HB.out | apply below_alloc | apply pw_below_drewN | apply below_drew1) | exact HB.out)⟩⟩
                · rw [if_neg c16] at H
                  exact absurd H (by simp)
              · rw [if_neg c15] at H
                exact absurd H (by simp)
            · rw [if_neg c14] at H
              have c14b0 : decide (x27_2 < (t469.length : Int)) = false := decide_eq_false c14
              clear c14
              replace H := Option.bind_eq_some_iff.mp H
              obtain ⟨t474, A190, H⟩ := H
              replace H : ((spec_gvLow.f k2 x9_2 t474).bind fun bt475 => (some (bt475.1, bt475.2, true))) = some (r1, r2, r3) := H
              have A19 := Aside0.mk A190
              clear A190
              replace H := Option.bind_eq_some_iff.mp H
              obtain ⟨⟨t475, t476⟩, A200, H⟩ := H
              replace H : (some (t475, t476, true)) = some (r1, r2, r3) := H
              have A20 := Aside0.mk A200
              clear A200
              simp only [Option.some.injEq, Prod.mk.injEq] at H
              obtain ⟨rfl, rfl, rfl⟩ := H
              go_wp2_with (first | ((with_reducible refine gate_callee (f := 53) rfl ?_); refine goesL_ (some 46) rfl rfl Try.func53 (by kernel_rfl) rfl #[.slice A0 l0.length c0] rfl (by (try simp only [List.map_toArray, List.map_cons, List.map_nil]); first | done | rfl | (simp only [List.length_drop, List.length_take]; rfl)) ?_; (with_reducible refine (spec_dwAll.calls k2 _ _ l0 t474 _ ?side1 ?side2 A19.out).mono ?_); (case side1 => repeat (first | exact (Kd.C_below HR0.out HB.out) | (with_reducible refine Kd.C_alloc ?_ _) | (with_reducible refine Kd.C_drewN ?_ _) | (with_reducible refine Kd.C_drew ?_))); (case side2 => exact HC0.out); rintro e w21 ⟨rfl, hb⟩; refine ⟨_, rfl, ?_⟩; have n0_ := Aside0.mk (Kd.R_below (by (with_reducible repeat (first | apply Kd.R_alloc | apply Kd.R_drewN | apply Kd.R_drew)); exact HO_25.out) hb); have n1_ := Aside0.mk (below_step (by repeat (first | (with_reducible first | exact HB.out | apply below_alloc | apply pw_below_drewN | apply below_drew1) | exact HB.out)) hb); clear HO_25; clear HB; have HO_25 := n0_; have HB := n1_; clear n0_ n1_; (try clear hb); (try clear hb2); (try clear hk); (try clear hi)) | ((with_reducible refine gate_callee (f := 52) rfl ?_); refine goesL_ (some 47) rfl rfl Try.func52 (by kernel_rfl) rfl #[.int .i64 x9_2, .int .i64 t474] rfl (by (try simp only [List.map_toArray, List.map_cons, List.map_nil]); first | done | rfl | (simp only [List.length_drop, List.length_take]; rfl)) ?_; (with_reducible refine (spec_gvLow.calls k2 x9_2 t474 t475 t476 _ A20.out).mono ?_); rintro e w' ⟨rfl, ⟨nd, rfl⟩⟩; refine ⟨_, rfl, ?_⟩))
              go_ret3
              exact ⟨by first | rfl | (simp [errW_none, errW_some] <;> rfl) | (simp [*, errW_none, errW_some] <;> rfl), by repeat (first | (with_reducible first | exact HB.out | apply below_alloc | apply pw_below_drewN | apply below_drew1) | exact HB.out)⟩

end Go.Proofs.Ytafjiglocbogeaa.X

/- ==== PlLaws2 ==== -/
/- Plain laws, no program in sight: MeanSearch, MeanOpened, ChanceWithin of both. -/
namespace Go.Proofs.Ytafjiglocbogeaa.X
open Go.RowKit Go.Proofs.YtafjiglocbogeaaW.PrintWords Go.Proofs.YtafjiglocbogeaaW.PrintLast Go.Proofs.YtafjiglocbogeaaW.PrintMore

theorem cum_congr {t1 t2 : Int → Int → Int} {D : List S50} (h : ∀ p m, 0 ≤ p → p ≤ 8 → t1 p m = t2 p m) : ∀ (l : List Int) (p m s : Int), 0 ≤ p → p + l.length ≤ 8 → cum t1 D l p m s = cum t2 D l p m s := by
  intro l
  induction l with
  | nil => intros; rfl
  | cons i r ih =>
    intro p m s h0 h1
    simp only [List.length_cons] at h1
    simp only [cum]
    rw [h p _ h0 (by omega)]
    exact ih _ _ _ (by omega) (by omega)
theorem cum_nn {told : Int → Int → Int} {D : List S50} (hd : areDr D = true) (ht : ∀ p m, 0 ≤ p → p ≤ 8 → 0 ≤ m → m ≤ 480 → 0 ≤ told p m ∧ told p m ≤ 480) :
    ∀ (l : List Int) (p m s : Int) (q : Nat), (∀ x ∈ l, 0 ≤ x ∧ x < (D.length : Int)) → q + l.length ≤ 8 → p = (q : Int) → 0 ≤ m → m ≤ 60 * (q : Int) → 0 ≤ s → 0 ≤ cum told D l p m s := by
  intro l
  induction l with
  | nil => intro p m s q _ _ _ _ _ h; exact h
  | cons i r ih =>
    intro p m s q hin hq hp h0 h1 h2
    have hi := hin i List.mem_cons_self
    obtain ⟨b0, b1, b2, b3⟩ := rd_bd hd hi.1 hi.2
    simp only [List.length_cons] at hq
    have ht' := ht p (m + (rd_T50 D i).f1) (by omega) (by omega) (by omega) (by omega)
    have hm := mul_bd b0 b1 ht'.1 ht'.2
    simp only [cum]
    exact ih (p + 1) _ _ (q + 1) (fun x hx => hin x (List.mem_cons_of_mem _ hx)) (by omega) (by omega) (by omega) (by omega) (by omega)

theorem mean_both (told : Int → Int → Int) {D : List S50} {l : List Int} (hs : srch D l = true) (ht : ∀ p m, 0 ≤ p → p ≤ 8 → 0 ≤ m → m ≤ 480 → 0 ≤ told p m ∧ told p m ≤ 480) :
    ∃ a b : Int, Ev (fun k => spec_gvLow.f k (cum told D l 0 0 0) (sumW D)) (a, b) ∧ Ev (fun k => meanF told k D l) (a, b, true) := by
  have hd := srch_dr hs
  have hp := srch_perm hs
  have h8 := (areDr_len hd).2
  have hl := perm_len hp
  have hin := perm_in hp
  obtain ⟨a, b, e1, e2⟩ := frac_ev (cum told D l 0 0 0) (sumW D) (cum_nn hd ht l 0 0 0 0 hin (by omega) (by omega) (by omega) (by omega) (by omega)) (areDr_pos hd)
  refine ⟨a, b, e1, ?_⟩
  have hia : inAll D.length l = true := by
    unfold inAll
    rw [List.all_eq_true]
    intro x hx
    simpa using hin x hx
  have hm := meanSum_cum hd ht l 0 0 0 0 hin (by omega) (by omega) (by omega) (by omega) (by omega) (by omega)
  refine Ev.congr (f := fun k => (impl_weights.f k D).bind fun t => impl_fraction.f k (cum told D l 0 0 0) t) (fun k => ?_) (Ev.bind (weights_ev D (by omega) (okW_of (areDr_good hd))) e2)
  unfold meanF
  rw [if_pos hia, hm]

theorem MeanSearch_both (D : List S50) (l : List Int) (hn : l.length ≤ 1048576) : ∃ r, Ev (fun k => spec_MeanSearch.f k D l) r ∧ Ev (fun k => impl_MeanSearch.f k D l) r := by
  have h1 := dwBoth_ev D l
  have h2 := isSearch_ev D l hn
  cases hs : srch D l with
  | false =>
    rw [hs] at h1 h2
    exact ⟨(0, 0, false), Ev.bind h1 (Ev.congr (fun k => by rw [if_neg (by decide)]) (Ev.now _)), Ev.bind h2 (Ev.congr (fun k => by rw [if_neg (by decide)]) (Ev.now _))⟩
  | true =>
    rw [hs] at h1 h2
    obtain ⟨a, b, e1, e2⟩ := mean_both (fun _ m => m) hs (fun p m _ _ h3 h4 => ⟨h3, h4⟩)
    have hd := srch_dr hs
    refine ⟨(a, b, true), Ev.bind h1 (Ev.congr (fun k => by rw [if_pos rfl]) (Ev.bind (dwSum_ev hs) (Ev.bind (dwAll_ev D (by have := (areDr_len hd).2; omega) (okW_of (areDr_good hd))) (Ev.bind (f := fun _ c => some (c.1, c.2, true)) e1 (Ev.now _))))), Ev.bind h2 (Ev.congr (fun k => by rw [if_pos rfl]; rfl) (Ev.bind (f := fun _ b => some (b.1, b.2.1, b.2.2)) e2 (Ev.now _)))⟩

theorem opened_loop {D : List S50} (hd : areDr D = true) (l : List Int) (hin : ∀ x ∈ l, 0 ≤ x ∧ x < (D.length : Int)) (hl : l.length ≤ 8) (d : Nat) : ∀ (i : Nat) (m s : Int), i + d = l.length → 0 ≤ s → s ≤ 24000 * (i : Int) →
    Ev (fun k => spec_dwOpened.l0 k D s l (l.length : Int) (i : Int)) (cum (fun p _ => p + 1) D (l.drop i) (i : Int) m s) := by
  induction d with
  | zero =>
    intro i m s hi h0 h1
    rw [List.drop_of_length_le (by omega)]
    refine Ev.step (f := fun _ => some s) (fun k => ?_) (Ev.now _)
    simp only [spec_dwOpened.l0]
    rw [if_neg (by omega)]
  | succ d ih =>
    intro i m s hi h0 h1
    have hlt : i < l.length := by omega
    have hx := hin _ (show rd l (i : Int) ∈ l by rw [rd_get hlt]; exact List.getElem_mem _)
    obtain ⟨b0, b1, b2, b3⟩ := rd_bd hd hx.1 hx.2
    have hm := mul_bd (a := (rd_T50 D (rd l (i : Int))).f0) (b := ((i + 1 : Nat) : Int)) (A := 50) (B := 480) b0 b1 (by omega) (by omega)
    rw [drop_get hlt]
    simp only [cum]
    have e : ((i : Int) + 1) = ((i + 1 : Nat) : Int) := by omega
    rw [e]
    refine Ev.step (f := fun k => spec_dwOpened.l0 k D (s + (rd_T50 D (rd l (i : Int))).f0 * ((i + 1 : Nat) : Int)) l (l.length : Int) ((i + 1 : Nat) : Int)) (fun k => ?_) (ih (i + 1) _ _ (by omega) (by omega) (by omega))
    simp only [spec_dwOpened.l0]
    rw [if_pos (by omega), if_pos (by omega), if_pos (by omega), if_pos hx.1, if_pos hx.2, w64s hlt (by omega), w64 (x := (rd_T50 D (rd l (i : Int))).f0 * ((i + 1 : Nat) : Int)) (by omega) (by omega), w64 (by omega) (by omega)]
theorem MeanOpened_both (D : List S50) (l : List Int) (hn : l.length ≤ 1048576) : ∃ r, Ev (fun k => spec_MeanOpened.f k D l) r ∧ Ev (fun k => impl_MeanOpened.f k D l) r := by
  have h1 := dwBoth_ev D l
  have h2 := isSearch_ev D l hn
  cases hs : srch D l with
  | false =>
    rw [hs] at h1 h2
    exact ⟨(0, 0, false), Ev.bind h1 (Ev.congr (fun k => by rw [if_neg (by decide)]) (Ev.now _)), Ev.bind h2 (Ev.congr (fun k => by rw [if_neg (by decide)]) (Ev.now _))⟩
  | true =>
    rw [hs] at h1 h2
    have hd := srch_dr hs
    have hp := srch_perm hs
    have h8 := (areDr_len hd).2
    have hl := perm_len hp
    have hw : ∀ p : Int, 0 ≤ p → p ≤ 8 → wrap64 (p + 1) = p + 1 := fun p a b => w64 (by omega) (by omega)
    obtain ⟨a, b, e1, e2⟩ := mean_both (fun p _ => wrap64 (p + 1)) hs (fun p m h3 h4 _ _ => by rw [hw p h3 h4]; omega)
    rw [cum_congr (t2 := fun p _ => p + 1) (fun p m h3 h4 => hw p h3 h4) l 0 0 0 (by omega) (by omega)] at e1
    have ho : Ev (fun k => spec_dwOpened.f k D l) (cum (fun p _ => p + 1) D l 0 0 0) := by
      simpa [spec_dwOpened.f] using opened_loop hd l (perm_in hp) (by omega) l.length 0 0 0 (by omega) (by omega) (by omega)
    refine ⟨(a, b, true), Ev.bind h1 (Ev.congr (fun k => by rw [if_pos rfl]) (Ev.bind ho (Ev.bind (dwAll_ev D (by omega) (okW_of (areDr_good hd))) (Ev.bind (f := fun _ c => some (c.1, c.2, true)) e1 (Ev.now _))))), Ev.bind h2 (Ev.congr (fun k => by rw [if_pos rfl]; rfl) (Ev.bind (f := fun _ b => some (b.1, b.2.1, b.2.2)) e2 (Ev.now _)))⟩

theorem withinW_loop {D : List S50} (hd : areDr D = true) (t : Int) (F : List Int) (hF : F.length = D.length) {a b : Int} (he : Ev (fun k => spec_gvLow.f k (sumN D.length fun k => (rd_T50 D (k : Int)).f0 * toldW t 0 (rd F (k : Int))) (sumW D)) (a, b)) (d : Nat) : ∀ (i : Nat), i + d = D.length →
    Ev (fun k => spec_ChanceWithin.l0 k D t (sumN i fun k => (rd_T50 D (k : Int)).f0 * toldW t 0 (rd F (k : Int))) F (F.length : Int) (i : Int)) (a, b, true) := by
  have h8 := (areDr_len hd).2
  have hbd : ∀ k, k < D.length → 0 ≤ (rd_T50 D (k : Int)).f0 * toldW t 0 (rd F (k : Int)) ∧ (rd_T50 D (k : Int)).f0 * toldW t 0 (rd F (k : Int)) ≤ 50 := by
    intro k hk
    obtain ⟨b0, b1, _, _⟩ := rd_bd (i := (k : Int)) hd (by omega) (by omega)
    unfold toldW
    split <;> omega
  induction d with
  | zero =>
    intro i hi
    obtain rfl : i = D.length := by omega
    refine Ev.step (f := fun k => (spec_dwAll.f k D).bind fun q => (spec_gvLow.f k (sumN D.length fun k => (rd_T50 D (k : Int)).f0 * toldW t 0 (rd F (k : Int))) q).bind fun c => some (c.1, c.2, true)) (fun k => ?_) (Ev.bind (dwAll_ev D (by omega) (okW_of (areDr_good hd))) (Ev.bind he (Ev.now _)))
    simp only [spec_ChanceWithin.l0]
    rw [if_neg (by omega)]
  | succ d ih =>
    intro i hi
    have hlt : i < F.length := by omega
    have h1 := sumN_bd (n := i) (fun k hk => hbd k (by omega))
    have h2 := hbd i (by omega)
    refine Ev.step (fun k => ?_) (ih (i + 1) (by omega))
    simp only [spec_ChanceWithin.l0]
    rw [if_pos (by omega), if_pos (by omega), if_pos (by omega), w64s hlt (by omega)]
    simp only [sumN]
    by_cases hc : rd F (i : Int) ≤ t
    · have e : toldW t 0 (rd F (i : Int)) = 1 := if_pos hc
      rw [e] at h2
      rw [if_pos hc, if_pos (by omega), e, Int.mul_one, w64 (by omega) (by omega)]
    · have e : toldW t 0 (rd F (i : Int)) = 0 := if_neg hc
      rw [if_neg hc, e, Int.mul_zero, Int.add_zero]
theorem ChanceWithin_both (D : List S50) (l : List Int) (t : Int) (hn : l.length ≤ 1048576) : ∃ r, Ev (fun k => spec_ChanceWithin.f k D l t) r ∧ Ev (fun k => impl_ChanceWithin.f k D l t) r := by
  have h1 := dwBoth_ev D l
  have h2 := isSearch_ev D l hn
  have hno : Ev (fun k => spec_ChanceWithin.j0 k D l t true) (0, 0, false) := Ev.step (f := fun _ => some (0, 0, false)) (fun k => by simp [spec_ChanceWithin.j0]) (Ev.now _)
  cases hs : srch D l with
  | false =>
    rw [hs] at h1 h2
    exact ⟨(0, 0, false), Ev.bind h1 (Ev.congr (fun k => by rw [if_neg (by decide)]) hno), Ev.bind h2 (Ev.congr (fun k => by rw [if_neg (by decide)]) (Ev.now _))⟩
  | true =>
    rw [hs] at h1 h2
    cases hq : inB 0 1000 t with
    | false =>
      refine ⟨(0, 0, false), Ev.bind h1 (Ev.congr (fun k => ?_) hno), Ev.bind h2 (Ev.congr (fun k => by rw [if_pos rfl, hq, if_neg (by decide)]) (Ev.now _))⟩
      rw [if_pos rfl]
      simp only [spec_dwMinutes.f, l1In_inB, hq, Option.bind_some]
      rfl
    | true =>
      have hd := srch_dr hs
      have hp := srch_perm hs
      have h8 := (areDr_len hd).2
      have hl := perm_len hp
      have hF : (fnd D l 0 (List.replicate D.length 0)).length = D.length := by rw [fnd_len]; simp
      obtain ⟨a, b, e1, e2⟩ := mean_both (toldW t) hs (fun p m h3 h4 _ _ => by unfold toldW; split <;> omega)
      have e : (sumN D.length fun k => (rd_T50 D (k : Int)).f0 * toldW t 0 (rd (fnd D l 0 (List.replicate D.length 0)) (k : Int))) = cum (toldW t) D l 0 0 0 := by
        have := fnd_all (toldW t 0) h8 hp
        rw [show cum (toldW t) D l 0 0 0 = cum (fun _ y => toldW t 0 y) D l 0 0 0 from rfl, ← this]
        simp [part]
      rw [← e] at e1
      have hloop := withinW_loop hd t _ hF e1 D.length 0 (by omega)
      refine ⟨(a, b, true), Ev.bind h1 (Ev.congr (f := fun k => spec_ChanceWithin.j0 k D l t false) (fun k => ?_) (Ev.step (f := fun k => (spec_dwFound.f k D l).bind fun F => spec_ChanceWithin.l0 k D t 0 F (F.length : Int) 0) (fun k => ?_) (Ev.bind (found_ev hd l (perm_in hp) (by omega)) hloop))), Ev.bind h2 (Ev.congr (fun k => by rw [if_pos rfl, hq, if_pos rfl]) e2)⟩
      · rw [if_pos rfl]
        simp only [spec_dwMinutes.f, l1In_inB, hq, Option.bind_some]
        rfl
      · simp only [spec_ChanceWithin.j0]
        rw [if_neg (by decide)]

end Go.Proofs.Ytafjiglocbogeaa.X
