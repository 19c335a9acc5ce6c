/- Texts of this seat in one: contracts of the functions (those written by wip/tools/xprint.py and those proved by hand) and plain laws. -/
import Derived.Test.YtenbnempjgbibaaMA
import Derived.Deep.Slices
import Derived.ChangeSame
import Derived.ChangeArms
import Derived.SizedLaws
/- ==== XspecdwSort ==== -/
namespace Go.Proofs.Ytenbnempjgbibaa.X
open Go.RowKit Go.Proofs.YtenbnempjgbibaaW.PrintWords Go.Proofs.YtenbnempjgbibaaW.PrintLast Go.Proofs.YtenbnempjgbibaaW.PrintMore
attribute [local go_sem] max2_int min2_int max_two min_two max_three min_three max_four min_four   -- for this text's walks alone
set_option linter.unusedVariables false
set_option linter.unusedSimpArgs false

/-! ### spec_dwSort: function 39 -/
mutual
def spec_dwSort.l0 : Nat → List (S47) → Bool → List Int → List (S47) → Int → Int → Option (List Int)
  | 0, _, _, _, _, _, _ => none
  | k + 1, x0, x1, x5, x11, x12, x13 => if x13 < x12 then (if 0 ≤ x13 then (if x13 < (x11.length : Int) then (spec_dwSort.l1 k x0 x1 x5 x13 (x5.length : Int) x11 x12 x13 ((rd_T47 x11 x13).f0) ((rd_T47 x11 x13).f1)) else (none)) else (none)) else (some x5)
def spec_dwSort.l1 : Nat → List (S47) → Bool → List Int → Int → Int → List (S47) → Int → Int → Int → Int → Option (List Int)
  | 0, _, _, _, _, _, _, _, _, _, _ => none
  | k + 1, x0, x1, x5, x6, x8, x11, x12, x13, x263000, x263001 => if x8 > 0 then (if 0 ≤ (wrap64 (x8 - 1)) then (if (wrap64 (x8 - 1)) < (x5.length : Int) then (if 0 ≤ (rd x5 (wrap64 (x8 - 1))) then (if (rd x5 (wrap64 (x8 - 1))) < (x0.length : Int) then (if x1 = true then (if x263000 ≤ ((rd_T47 x0 (rd x5 (wrap64 (x8 - 1)))).f0) then (if 0 ≤ x8 then (if x8 ≤ (x5.length : Int) then ((spec_l1Own.f (x5.take (x8 : Int).toNat)).bind fun t270 => (if t270.length < 17592186044416 then ((some (t270 ++ [x6] : List Int)).bind fun y273 => ((some (x5.drop (x8 : Int).toNat : List Int)).bind fun y276 => (if y273.length + y276.length < 17592186044416 then (spec_dwSort.l0 k x0 x1 (y273 ++ y276) x11 x12 (wrap64 (x13 + 1))) else (none)))) else (none))) else (none)) else (none)) else (spec_dwSort.l1 k x0 x1 x5 x6 (wrap64 (x8 - 1)) x11 x12 x13 x263000 x263001)) else (if (wrap64 (x263000 * ((rd_T47 x0 (rd x5 (wrap64 (x8 - 1)))).f1))) ≤ (wrap64 (((rd_T47 x0 (rd x5 (wrap64 (x8 - 1)))).f0) * x263001)) then (if 0 ≤ x8 then (if x8 ≤ (x5.length : Int) then ((spec_l1Own.f (x5.take (x8 : Int).toNat)).bind fun t287 => (if t287.length < 17592186044416 then ((some (t287 ++ [x6] : List Int)).bind fun y290 => ((some (x5.drop (x8 : Int).toNat : List Int)).bind fun y293 => (if y290.length + y293.length < 17592186044416 then (spec_dwSort.l0 k x0 x1 (y290 ++ y293) x11 x12 (wrap64 (x13 + 1))) else (none)))) else (none))) else (none)) else (none)) else (spec_dwSort.l1 k x0 x1 x5 x6 (wrap64 (x8 - 1)) x11 x12 x13 x263000 x263001))) else (none)) else (none)) else (none)) else (none)) else (if 0 ≤ x8 then (if x8 ≤ (x5.length : Int) then ((spec_l1Own.f (x5.take (x8 : Int).toNat)).bind fun t304 => (if t304.length < 17592186044416 then ((some (t304 ++ [x6] : List Int)).bind fun y307 => ((some (x5.drop (x8 : Int).toNat : List Int)).bind fun y310 => (if y307.length + y310.length < 17592186044416 then (spec_dwSort.l0 k x0 x1 (y307 ++ y310) x11 x12 (wrap64 (x13 + 1))) else (none)))) else (none))) else (none)) else (none))
end
def spec_dwSort.f (k : Nat) (l0 : List (S47)) (a1 : Bool) : Option (List Int) := spec_dwSort.l0 k l0 a1 ([] : List Int) l0 (l0.length : Int) 0
theorem spec_dwSort.mono_l : ∀ k, (∀ y0 y1 y2 y3 y4 y5, LeO (spec_dwSort.l0 k y0 y1 y2 y3 y4 y5) (spec_dwSort.l0 (k + 1) y0 y1 y2 y3 y4 y5)) ∧ (∀ y0 y1 y2 y3 y4 y5 y6 y7 y8 y9, LeO (spec_dwSort.l1 k y0 y1 y2 y3 y4 y5 y6 y7 y8 y9) (spec_dwSort.l1 (k + 1) y0 y1 y2 y3 y4 y5 y6 y7 y8 y9))
  | 0 => ⟨fun _ _ _ _ _ _ r h => by simp [spec_dwSort.l0] at h, fun _ _ _ _ _ _ _ _ _ _ r h => by simp [spec_dwSort.l1] at h⟩
  | k + 1 => by
    obtain ⟨ih0, ih1⟩ := spec_dwSort.mono_l k
    refine ⟨?_, ?_⟩
    · intro y0 y1 y2 y3 y4 y5
      unfold spec_dwSort.l0
      repeat' first
      | (with_reducible exact ih0 _ _ _ _ _ _)
      | (with_reducible exact ih1 _ _ _ _ _ _ _ _ _ _)
      | (with_reducible exact LeO.refl _)
      | (with_reducible exact LeO.none _)
      | (with_reducible refine LeO.ite ?_ ?_)
      | (with_reducible refine LeO.bind ?_ (fun _ => ?_))
      | exact ih0 _ _ _ _ _ _
      | exact ih1 _ _ _ _ _ _ _ _ _ _
      | exact LeO.none _
      | refine LeO.ite ?_ ?_
      | refine LeO.bind ?_ (fun _ => ?_)
    · intro y0 y1 y2 y3 y4 y5 y6 y7 y8 y9
      unfold spec_dwSort.l1
      repeat' first
      | (with_reducible exact ih0 _ _ _ _ _ _)
      | (with_reducible exact ih1 _ _ _ _ _ _ _ _ _ _)
      | (with_reducible exact LeO.refl _)
      | (with_reducible exact LeO.none _)
      | (with_reducible refine LeO.ite ?_ ?_)
      | (with_reducible refine LeO.bind ?_ (fun _ => ?_))
      | exact ih0 _ _ _ _ _ _
      | exact ih1 _ _ _ _ _ _ _ _ _ _
      | exact LeO.none _
      | refine LeO.ite ?_ ?_
      | refine LeO.bind ?_ (fun _ => ?_)
theorem spec_dwSort.mono : ∀ a0 a1 k, LeO (spec_dwSort.f k a0 a1) (spec_dwSort.f (k + 1) a0 a1) := by
  intro a0 a1 k
  obtain ⟨ih0, ih1⟩ := spec_dwSort.mono_l k
  unfold spec_dwSort.f
  repeat' first
      | (with_reducible exact ih0 _ _ _ _ _ _)
      | (with_reducible exact ih1 _ _ _ _ _ _ _ _ _ _)
      | (with_reducible exact LeO.refl _)
      | (with_reducible exact LeO.none _)
      | (with_reducible refine LeO.ite ?_ ?_)
      | (with_reducible refine LeO.bind ?_ (fun _ => ?_))
      | exact ih0 _ _ _ _ _ _
      | exact ih1 _ _ _ _ _ _ _ _ _ _
      | exact LeO.none _
      | refine LeO.ite ?_ ?_
      | refine LeO.bind ?_ (fun _ => ?_)
set_option maxHeartbeats 8000000 in
set_option maxRecDepth 100000 in
theorem spec_dwSort.calls (k : Nat) (A0 : Option Addr) (c0 : Nat) (l0 : List (S47)) (a1 : Bool) (r : List Int) (w : World) (hr0 : Kd.C k47 w A0 l0.length l0) (hc0 : l0.length ≤ c0) (h : spec_dwSort.f k l0 a1 = some r) :
    Calls Try.prog 39 #[.slice A0 l0.length c0, .bool a1] w fun e w' => ∃ v0_ : Value, e = .returned (v0_) ∧ Kd.R (Kd.int .i64) 3 w' w.heap.size (fun _ => True) v0_ r ∧ Below w.heap.size w w' := by
  have hu47 := Try.underlying47
  have HR0 := Aside0.mk hr0
  have HC0 := Aside0.mk hc0
  clear hr0 hc0
  have HB := Aside0.mk (Below.refl w.heap.size w)
  have H : (spec_dwSort.l0 k l0 a1 ([] : List Int) l0 (l0.length : Int) 0) = some r := h
  clear h
  have H' := Aside0.mk H
  clear H
  go_enter Try.func39, Try.ntmps39
  go_wp2
  go_loopg [5, 13] k (fun kq v5 v13 w' => ∃ (x5_1 : List Int) (x13_1 : Int), v13 = .int .i64 x13_1 ∧ Aside0 (spec_dwSort.l0 kq l0 a1 x5_1 l0 (l0.length : Int) x13_1 = some r) ∧ Aside0 (kq ≤ k) ∧ Aside0 (Kd.R (Kd.int .i64) 3 w' w.heap.size (fun _ => True) v5 x5_1) ∧ Aside0 (Below w.heap.size w w'))
  case atStart => exact ⟨(([] : List Int)), (0), (by first | rfl | (simp; done) | (simp [*]; done)), H', ⟨Nat.le_refl _⟩, ⟨by first | exact Kd.R_nil _ _ _ _ _ | exact Kd.N_nil _ _ _ _ _ | exact Kd.V_nil _ _ _ _ _ | exact Kd.Q_nil _ _ _ _ _ | exact Kd.S_nil _ _ _ _ _⟩, ⟨by repeat (first | (with_reducible first | exact HB.out | apply below_alloc | apply pw_below_drewN | apply below_drew1) | exact HB.out)⟩⟩
  case round =>
    clear H'
    try clear p2
    obtain ⟨x5_1, x13_1, rfl, HA, HK1, HO_5, HB⟩ := hrel
    cases gk with
    | zero => exact absurd HA.out (by simp [spec_dwSort.l0])
    | succ k1 =>
      have H := HA.out
      clear HA
      simp only [spec_dwSort.l0] at H
      by_cases c3 : x13_1 < (l0.length : Int)
      · rw [if_pos c3] at H
        have c3b0 : decide (x13_1 < (l0.length : Int)) = true := decide_eq_true c3
        clear c3
        by_cases c4 : 0 ≤ x13_1
        · rw [if_pos c4] at H
          have c4b0 : decide (0 ≤ x13_1) = true := decide_eq_true c4
          clear c4
          by_cases c5 : x13_1 < (l0.length : Int)
          · rw [if_pos c5] at H
            have c5b0 : decide (x13_1 < (l0.length : Int)) = true := decide_eq_true c5
            clear c5
            have H' := Aside0.mk H
            clear H
            have p261 : 0 ≤ (x13_1 : Int) := of_decide_eq_true (by first | (with_reducible assumption) | assumption)
            have q261 : x13_1 < (l0.length : Int) := of_decide_eq_true (by first | (with_reducible assumption) | assumption)
            obtain ⟨ad261, e261, hx261_0, hx261_1⟩ := at_T47 HR0.out x13_1 p261 q261
            cases e261
            replace hx261_0 := (HB.out.cell (World.block_lt_of_cell? w _ hx261_0)).trans hx261_0
            replace hx261_1 := (HB.out.cell (World.block_lt_of_cell? w _ hx261_1)).trans hx261_1
            replace p261 := eq_true p261
            replace q261 := eq_true q261
            go_wp2_with (first | ((with_reducible refine gate_dst (N := 7) rfl ?_); refine box_event ?hg (N := 7) ?hd (cs := #[.int .i64 0, .int .i64 0]) (t := 47) ?hr ?_; (case hd => rfl); (case hg => rfl); (case hr => first | (go_simp; done) | (go_simp; rfl)); intro gb262 hg w6 hbox hb; have n0_ := Aside0.mk (Kd.R_below (by (with_reducible repeat (first | apply Kd.R_alloc | apply Kd.R_drewN | apply Kd.R_drew)); exact HO_5.out) hb); have n1_ := Aside0.mk (below_step (by repeat (first | (with_reducible first | exact HB.out | apply below_alloc | apply pw_below_drewN | apply below_drew1) | exact HB.out)) hb); have n2_ := Aside0.mk (hbox); have n3_ := Aside0.mk ((by rw [hg]; exact (below_size (by repeat (first | (with_reducible first | exact HB.out | apply below_alloc | apply pw_below_drewN | apply below_drew1) | exact HB.out))) : w.heap.size ≤ gb262)); have n4_ := Aside0.mk ((by rw [hg]; exact (below_size (by repeat (first | (with_reducible first | exact HB.out | apply below_alloc | apply pw_below_drewN | apply below_drew1) | exact HB.out))) : w.heap.size ≤ gb262)); clear HO_5; clear HB; have HO_5 := n0_; have HB := n1_; have BK262 := n2_; have GW262 := n3_; have GE262 := n4_; clear n0_ n1_ n2_ n3_ n4_; clear hb hbox hg; have hcz7_0 : w6.cell? ⟨gb262, 0, none⟩ = some (.int .i64 0) := (blk_cell BK262.out 0).trans rfl; have hcz7_1 : w6.cell? ⟨gb262, 1, none⟩ = some (.int .i64 0) := (blk_cell BK262.out 1).trans rfl; have hfz7_0 := blk_frozen BK262.out 0; have hfz7_1 := blk_frozen BK262.out 1; obtain ⟨Ao8, co8, eo8⟩ := Kd.R_slice HO_5.out; subst eo8))
            go_loopg [8] k1 (fun kq v8 w' => ∃ (x8_2 : Int), v8 = .int .i64 x8_2 ∧ Aside0 (spec_dwSort.l1 kq l0 a1 x5_1 x13_1 x8_2 l0 (l0.length : Int) x13_1 ((rd_T47 l0 x13_1).f0) ((rd_T47 l0 x13_1).f1) = some r) ∧ Aside0 (kq ≤ k1) ∧ Aside0 (Kd.R (Kd.int .i64) 3 w' w.heap.size (fun _ => True) (.slice Ao8 x5_1.length co8) x5_1) ∧ Aside0 (w'.heap[gb262]? = some (.cells #[.int .i64 ((rd_T47 l0 x13_1).f0), .int .i64 ((rd_T47 l0 x13_1).f1)] 47 (0, 0))) ∧ Aside0 (Below w.heap.size w w'))
            case atStart => exact ⟨((x5_1.length : Int)), (by first | rfl | (simp; done) | (simp [*]; done)), H', ⟨Nat.le_refl _⟩, ⟨by (with_reducible repeat (first | apply Kd.R_alloc | apply Kd.R_drewN | apply Kd.R_drew)); exact Kd.R_mono (Kd.R_far (p := ⟨gb262, 1, none⟩) (Kd.R_far (p := ⟨gb262, 0, none⟩) (Kd.R_types HO_5.out BK262.out (by decide)) (fun _ hk => hk.2) (.int .i64 ((rd_T47 l0 x13_1).f0))) (fun _ hk => hk.2) (.int .i64 ((rd_T47 l0 x13_1).f1))) (fun _ hk => trivial)⟩, ⟨by (with_reducible repeat (first | refine blk_drewN ?_ _ | refine blk_drew ?_ | refine blk_alloc ?_ _)); refine blk_put (cs := #[.int .i64 ((rd_T47 l0 x13_1).f0), .int .i64 0]) ?_ 1 _ rfl; (with_reducible repeat (first | refine blk_drewN ?_ _ | refine blk_drew ?_ | refine blk_alloc ?_ _)); refine blk_put (cs := #[.int .i64 0, .int .i64 0]) ?_ 0 _ rfl; (with_reducible repeat (first | refine blk_drewN ?_ _ | refine blk_drew ?_ | refine blk_alloc ?_ _)); exact BK262.out⟩, ⟨by repeat (first | (with_reducible first | exact HB.out | apply below_alloc | apply pw_below_drewN | apply below_drew1 | refine below_set ?_ GE262.out) | exact HB.out)⟩⟩
            case round =>
              clear H'
              try clear p2
              try clear q2
              try clear hx2
              try clear c3
              try clear c3b0
              try clear c4
              try clear c4b0
              try clear c5
              try clear c5b0
              try clear hcz7_0
              try clear hcz7_1
              try clear hfz7_0
              try clear hfz7_1
              try clear hx261_0
              try clear hx261_1
              try clear p2
              try clear p261
              try clear q261
              obtain ⟨x8_2, rfl, HA, HK2, HO_5, BK262, HB⟩ := hrel
              cases gk with
              | zero => exact absurd HA.out (by simp [spec_dwSort.l1])
              | succ k2 =>
                have H := HA.out
                clear HA
                simp only [spec_dwSort.l1] at H
                by_cases c9 : x8_2 > 0
                · rw [if_pos c9] at H
                  have c9b0 : decide (0 < x8_2) = true := decide_eq_true c9
                  clear c9
                  obtain ⟨ji10, hji10⟩ : ∃ j_ : Int, (wrap64 (x8_2 - 1)) = j_ := ⟨_, rfl⟩
                  replace H : (if 0 ≤ (ji10) then (if (ji10) < (x5_1.length : Int) then (if 0 ≤ (rd x5_1 (ji10)) then (if (rd x5_1 (ji10)) < (l0.length : Int) then (if a1 = true then (if ((rd_T47 l0 x13_1).f0) ≤ ((rd_T47 l0 (rd x5_1 (ji10))).f0) then (if 0 ≤ x8_2 then (if x8_2 ≤ (x5_1.length : Int) then ((spec_l1Own.f (x5_1.take (x8_2 : Int).toNat)).bind fun t270 => (if t270.length < 17592186044416 then ((some (t270 ++ [x13_1] : List Int)).bind fun y273 => ((some (x5_1.drop (x8_2 : Int).toNat : List Int)).bind fun y276 => (if y273.length + y276.length < 17592186044416 then (spec_dwSort.l0 k2 l0 a1 (y273 ++ y276) l0 (l0.length : Int) (wrap64 (x13_1 + 1))) else (none)))) else (none))) else (none)) else (none)) else (spec_dwSort.l1 k2 l0 a1 x5_1 x13_1 ji10 l0 (l0.length : Int) x13_1 ((rd_T47 l0 x13_1).f0) ((rd_T47 l0 x13_1).f1))) else (if (wrap64 (((rd_T47 l0 x13_1).f0) * ((rd_T47 l0 (rd x5_1 (ji10))).f1))) ≤ (wrap64 (((rd_T47 l0 (rd x5_1 (ji10))).f0) * ((rd_T47 l0 x13_1).f1))) then (if 0 ≤ x8_2 then (if x8_2 ≤ (x5_1.length : Int) then ((spec_l1Own.f (x5_1.take (x8_2 : Int).toNat)).bind fun t287 => (if t287.length < 17592186044416 then ((some (t287 ++ [x13_1] : List Int)).bind fun y290 => ((some (x5_1.drop (x8_2 : Int).toNat : List Int)).bind fun y293 => (if y290.length + y293.length < 17592186044416 then (spec_dwSort.l0 k2 l0 a1 (y290 ++ y293) l0 (l0.length : Int) (wrap64 (x13_1 + 1))) else (none)))) else (none))) else (none)) else (none)) else (spec_dwSort.l1 k2 l0 a1 x5_1 x13_1 ji10 l0 (l0.length : Int) x13_1 ((rd_T47 l0 x13_1).f0) ((rd_T47 l0 x13_1).f1)))) else (none)) else (none)) else (none)) else (none)) = some r := by first | (rw [hji10] at H; exact H) | (simp only [hji10] at H ⊢; exact H)
                  have hji10w : (IntKind.i64.wrap (x8_2 - 1)) = ji10 := (i64_w _).trans hji10
                  by_cases c11 : 0 ≤ (ji10)
                  · rw [if_pos c11] at H
                    have c11b0 : decide (0 ≤ (ji10)) = true := decide_eq_true c11
                    clear c11
                    by_cases c12 : (ji10) < (x5_1.length : Int)
                    · rw [if_pos c12] at H
                      have c12b0 : decide ((ji10) < (x5_1.length : Int)) = true := decide_eq_true c12
                      clear c12
                      by_cases c13 : 0 ≤ (rd x5_1 (ji10))
                      · rw [if_pos c13] at H
                        have c13b0 : decide (0 ≤ (rd x5_1 (ji10))) = true := decide_eq_true c13
                        clear c13
                        by_cases c14 : (rd x5_1 (ji10)) < (l0.length : Int)
                        · rw [if_pos c14] at H
                          have c14b0 : decide ((rd x5_1 (ji10)) < (l0.length : Int)) = true := decide_eq_true c14
                          clear c14
                          by_cases c15 : a1 = true
                          · subst c15
                            have H1 : (if ((rd_T47 l0 x13_1).f0) ≤ ((rd_T47 l0 (rd x5_1 (ji10))).f0) then (if 0 ≤ x8_2 then (if x8_2 ≤ (x5_1.length : Int) then ((spec_l1Own.f (x5_1.take (x8_2 : Int).toNat)).bind fun t270 => (if t270.length < 17592186044416 then ((some (t270 ++ [x13_1] : List Int)).bind fun y273 => ((some (x5_1.drop (x8_2 : Int).toNat : List Int)).bind fun y276 => (if y273.length + y276.length < 17592186044416 then (spec_dwSort.l0 k2 l0 true (y273 ++ y276) l0 (l0.length : Int) (wrap64 (x13_1 + 1))) else (none)))) else (none))) else (none)) else (none)) else (spec_dwSort.l1 k2 l0 true x5_1 x13_1 ji10 l0 (l0.length : Int) x13_1 ((rd_T47 l0 x13_1).f0) ((rd_T47 l0 x13_1).f1))) = some r := by rw [if_pos rfl] at H; exact H
                            clear H
                            have H := H1
                            clear H1
                            by_cases c16 : ((rd_T47 l0 x13_1).f0) ≤ ((rd_T47 l0 (rd x5_1 (ji10))).f0)
                            · rw [if_pos c16] at H
                              have c16b0 : decide (((rd_T47 l0 x13_1).f0) ≤ ((rd_T47 l0 (rd x5_1 (ji10))).f0)) = true := decide_eq_true c16
                              clear c16
                              by_cases c17 : 0 ≤ x8_2
                              · rw [if_pos c17] at H
                                have c17b0 := eq_true c17
                                have c17b1 : decide (0 ≤ x8_2) = true := decide_eq_true c17
                                clear c17
                                by_cases c18 : x8_2 ≤ (x5_1.length : Int)
                                · rw [if_pos c18] at H
                                  have c18b0 := eq_true c18
                                  have c18b1 : decide (x8_2 ≤ (x5_1.length : Int)) = true := decide_eq_true c18
                                  clear c18
                                  obtain ⟨y266, hy266⟩ : ∃ y_ : List Int, y_ = (x5_1.take (x8_2 : Int).toNat) := ⟨_, rfl⟩
                                  replace H : ((spec_l1Own.f y266).bind fun t270 => (if t270.length < 17592186044416 then ((some (t270 ++ [x13_1] : List Int)).bind fun y273 => ((some (x5_1.drop (x8_2 : Int).toNat : List Int)).bind fun y276 => (if y273.length + y276.length < 17592186044416 then (spec_dwSort.l0 k2 l0 true (y273 ++ y276) l0 (l0.length : Int) (wrap64 (x13_1 + 1))) else (none)))) else (none))) = some r := by first | (rw [hy266]; with_reducible exact H) | (have H2_ := (Option.bind_some _ _).symm.trans H; rw [hy266]; with_reducible exact H2_) | (have H2_ := (Option.bind_some _ _).symm.trans H; with_reducible exact H2_) | with_reducible exact H | (rw [hy266]; exact H) | exact H
                                  have Ny266 := Aside0.mk hy266
                                  clear hy266
                                  replace H := Option.bind_eq_some_iff.mp H
                                  obtain ⟨t270, A190, H⟩ := H
                                  replace H : (if t270.length < 17592186044416 then ((some (t270 ++ [x13_1] : List Int)).bind fun y273 => ((some (x5_1.drop (x8_2 : Int).toNat : List Int)).bind fun y276 => (if y273.length + y276.length < 17592186044416 then (spec_dwSort.l0 k2 l0 true (y273 ++ y276) l0 (l0.length : Int) (wrap64 (x13_1 + 1))) else (none)))) else (none)) = some r := H
                                  have A19 := Aside0.mk A190
                                  clear A190
                                  by_cases c20 : t270.length < 17592186044416
                                  · rw [if_pos c20] at H
                                    have LMc20 := Aside0.mk c20
                                    clear c20
                                    obtain ⟨y273, hy273⟩ : ∃ y_ : List Int, y_ = (t270 ++ [x13_1]) := ⟨_, rfl⟩
                                    replace H : ((some (x5_1.drop (x8_2 : Int).toNat : List Int)).bind fun y276 => (if y273.length + y276.length < 17592186044416 then (spec_dwSort.l0 k2 l0 true (y273 ++ y276) l0 (l0.length : Int) (wrap64 (x13_1 + 1))) else (none))) = some r := by first | (rw [hy273]; with_reducible exact H) | (have H2_ := (Option.bind_some _ _).symm.trans H; rw [hy273]; with_reducible exact H2_) | (have H2_ := (Option.bind_some _ _).symm.trans H; with_reducible exact H2_) | with_reducible exact H | (rw [hy273]; exact H) | exact H
                                    have Ny273 := Aside0.mk hy273
                                    clear hy273
                                    have c21b0 := eq_true (of_decide_eq_true (by first | (with_reducible assumption) | assumption) : 0 ≤ x8_2)
                                    have c22b0 := eq_true (of_decide_eq_true (by first | (with_reducible assumption) | assumption) : x8_2 ≤ (x5_1.length : Int))
                                    obtain ⟨y276, hy276⟩ : ∃ y_ : List Int, y_ = (x5_1.drop (x8_2 : Int).toNat) := ⟨_, rfl⟩
                                    replace H : (if y273.length + y276.length < 17592186044416 then (spec_dwSort.l0 k2 l0 true (y273 ++ y276) l0 (l0.length : Int) (wrap64 (x13_1 + 1))) else (none)) = some r := by first | (rw [hy276]; with_reducible exact H) | (have H2_ := (Option.bind_some _ _).symm.trans H; rw [hy276]; with_reducible exact H2_) | (have H2_ := (Option.bind_some _ _).symm.trans H; with_reducible exact H2_) | with_reducible exact H | (rw [hy276]; exact H) | exact H
                                    have Ny276 := Aside0.mk hy276
                                    clear hy276
                                    by_cases c23 : y273.length + y276.length < 17592186044416
                                    · rw [if_pos c23] at H
                                      have LMc23 := Aside0.mk c23
                                      clear c23
                                      obtain ⟨y280, hy280⟩ : ∃ y_ : List Int, y_ = (y273 ++ y276) := ⟨_, rfl⟩
                                      replace H : (spec_dwSort.l0 k2 l0 true y280 l0 (l0.length : Int) (wrap64 (x13_1 + 1))) = some r := by first | (rw [hy280]; with_reducible exact H) | (have H2_ := (Option.bind_some _ _).symm.trans H; rw [hy280]; with_reducible exact H2_) | (have H2_ := (Option.bind_some _ _).symm.trans H; with_reducible exact H2_) | with_reducible exact H | (rw [hy280]; exact H) | exact H
                                      have Ny280 := Aside0.mk hy280
                                      clear hy280
                                      have H' := Aside0.mk H
                                      clear H
                                      have p263 : 0 ≤ ((ji10) : Int) := of_decide_eq_true (by first | (with_reducible assumption) | assumption)
                                      have q263 : (ji10) < (x5_1.length : Int) := of_decide_eq_true (by first | (with_reducible assumption) | assumption)
                                      obtain ⟨ad263, e263, hx263_0⟩ := Kd.at_int (Kd.R_reads' HO_5.out).2.2 (ji10) p263 q263
                                      cases e263
                                      replace p263 := eq_true p263
                                      replace q263 := eq_true q263
                                      have p264 : 0 ≤ ((rd x5_1 (ji10)) : Int) := of_decide_eq_true (by first | (with_reducible assumption) | assumption)
                                      have q264 : (rd x5_1 (ji10)) < (l0.length : Int) := of_decide_eq_true (by first | (with_reducible assumption) | assumption)
                                      obtain ⟨ad264, e264, hx264_0, hx264_1⟩ := at_T47 HR0.out (rd x5_1 (ji10)) p264 q264
                                      obtain rfl : ad261 = ad264 := (by injection e264)
                                      replace hx264_0 := (HB.out.cell (World.block_lt_of_cell? w _ hx264_0)).trans hx264_0
                                      replace hx264_1 := (HB.out.cell (World.block_lt_of_cell? w _ hx264_1)).trans hx264_1
                                      replace p264 := eq_true p264
                                      replace q264 := eq_true q264
                                      go_wp2_with (first | ((with_reducible refine gate_dst (N := 9) rfl ?_); refine box_event ?hg (N := 9) ?hd (cs := #[.int .i64 0, .int .i64 0]) (t := 47) ?hr ?_; (case hd => rfl); (case hg => rfl); (case hr => first | (go_simp; done) | (go_simp; rfl)); intro gb265 hg w24 hbox hb; have n0_ := Aside0.mk (Kd.R_below (by (with_reducible repeat (first | apply Kd.R_alloc | apply Kd.R_drewN | apply Kd.R_drew)); exact HO_5.out) hb); have n1_ := Aside0.mk (blk_below (g := gb262) (o := .cells #[.int .i64 ((rd_T47 l0 x13_1).f0), .int .i64 ((rd_T47 l0 x13_1).f1)] 47 (0, 0)) (by (with_reducible repeat (first | refine blk_drewN ?_ _ | refine blk_drew ?_ | refine blk_alloc ?_ _)); exact BK262.out) hb); have n2_ := Aside0.mk (below_step (by repeat (first | (with_reducible first | exact HB.out | apply below_alloc | apply pw_below_drewN | apply below_drew1 | refine below_set ?_ GE262.out) | exact HB.out)) hb); have n3_ := Aside0.mk (hbox); have n4_ := Aside0.mk ((by rw [hg]; exact (below_size (by repeat (first | (with_reducible first | exact HB.out | apply below_alloc | apply pw_below_drewN | apply below_drew1 | refine below_set ?_ GE262.out) | exact HB.out))) : w.heap.size ≤ gb265)); have n5_ := Aside0.mk ((by rw [hg]; exact (below_size (by repeat (first | (with_reducible first | exact HB.out | apply below_alloc | apply pw_below_drewN | apply below_drew1 | refine below_set ?_ GE262.out) | exact HB.out))) : w.heap.size ≤ gb265)); have n6_ := Aside0.mk ((by rw [hg]; exact Nat.ne_of_lt (blk_lt (g := gb262) (o := .cells #[.int .i64 ((rd_T47 l0 x13_1).f0), .int .i64 ((rd_T47 l0 x13_1).f1)] 47 (0, 0)) (by (with_reducible repeat (first | refine blk_drewN ?_ _ | refine blk_drew ?_ | refine blk_alloc ?_ _)); exact BK262.out)) : gb262 ≠ gb265)); have n7_ := Aside0.mk ((by rw [hg]; exact Nat.ne_of_gt (blk_lt (g := gb262) (o := .cells #[.int .i64 ((rd_T47 l0 x13_1).f0), .int .i64 ((rd_T47 l0 x13_1).f1)] 47 (0, 0)) (by (with_reducible repeat (first | refine blk_drewN ?_ _ | refine blk_drew ?_ | refine blk_alloc ?_ _)); exact BK262.out)) : gb265 ≠ gb262)); clear HO_5; clear BK262; clear HB; have HO_5 := n0_; have BK262 := n1_; have HB := n2_; have BK265 := n3_; have GW265 := n4_; have GE265 := n5_; have NB262_265 := n6_; have NB265_262 := n7_; clear n0_ n1_ n2_ n3_ n4_ n5_ n6_ n7_; clear hb hbox hg; have hnb25 := NB265_262.out; have hnc25 := NB262_265.out; have hcz26_0 : w24.cell? ⟨gb265, 0, none⟩ = some (.int .i64 0) := (blk_cell BK265.out 0).trans rfl; have hcz26_1 : w24.cell? ⟨gb265, 1, none⟩ = some (.int .i64 0) := (blk_cell BK265.out 1).trans rfl; have hfz26_0 := blk_frozen BK265.out 0; have hfz26_1 := blk_frozen BK265.out 1) | ((with_reducible refine gate_store (t := 47) (p := 9) rfl ?_); refine store_event (t := 47) (p := 9) (v := ?vo_w27) (w1 := ((w24.setCell ⟨gb265, 0, none⟩ (.int .i64 ((rd_T47 l0 (rd x5_1 (ji10))).f0))).setCell ⟨gb265, 1, none⟩ (.int .i64 ((rd_T47 l0 (rd x5_1 (ji10))).f1)))) ?hg ?ho ?hn ?hr ?_; (case ho => rfl); (case hg => rfl); (case hn => rfl); (case hr => first | (go_simp; done) | (go_simp; rfl)); intro w27 hw; have n0_ : Aside0 (Kd.R (Kd.int .i64) 3 w27 w.heap.size (fun _ => True) (.slice (some ad263) x5_1.length co8) x5_1) := ⟨(by rw [hw]; exact (by (with_reducible repeat (first | apply Kd.R_alloc | apply Kd.R_drewN | apply Kd.R_drew)); exact Kd.R_mono (Kd.R_far (p := ⟨gb265, 1, none⟩) (Kd.R_far (p := ⟨gb265, 0, none⟩) (Kd.R_types HO_5.out BK265.out (by decide)) (fun _ hk => hk.2) (.int .i64 ((rd_T47 l0 (rd x5_1 (ji10))).f0))) (fun _ hk => hk.2) (.int .i64 ((rd_T47 l0 (rd x5_1 (ji10))).f1))) (fun _ hk => trivial)))⟩; have n1_ : Aside0 (w27.heap[gb262]? = some (.cells #[.int .i64 ((rd_T47 l0 x13_1).f0), .int .i64 ((rd_T47 l0 x13_1).f1)] 47 (0, 0))) := ⟨(by rw [hw]; exact (by (with_reducible repeat (first | refine blk_drewN ?_ _ | refine blk_drew ?_ | refine blk_alloc ?_ _)); refine blk_far ?_ NB262_265.out _; (with_reducible repeat (first | refine blk_drewN ?_ _ | refine blk_drew ?_ | refine blk_alloc ?_ _)); refine blk_far ?_ NB262_265.out _; (with_reducible repeat (first | refine blk_drewN ?_ _ | refine blk_drew ?_ | refine blk_alloc ?_ _)); exact BK262.out))⟩; have n2_ : Aside0 (w27.heap[gb265]? = some (.cells #[.int .i64 ((rd_T47 l0 (rd x5_1 (ji10))).f0), .int .i64 ((rd_T47 l0 (rd x5_1 (ji10))).f1)] 47 (0, 0))) := ⟨(by rw [hw]; exact (by (with_reducible repeat (first | refine blk_drewN ?_ _ | refine blk_drew ?_ | refine blk_alloc ?_ _)); refine blk_put (cs := #[.int .i64 ((rd_T47 l0 (rd x5_1 (ji10))).f0), .int .i64 0]) ?_ 1 _ rfl; (with_reducible repeat (first | refine blk_drewN ?_ _ | refine blk_drew ?_ | refine blk_alloc ?_ _)); refine blk_put (cs := #[.int .i64 0, .int .i64 0]) ?_ 0 _ rfl; (with_reducible repeat (first | refine blk_drewN ?_ _ | refine blk_drew ?_ | refine blk_alloc ?_ _)); exact BK265.out))⟩; have n3_ : Aside0 (Below w.heap.size w w27) := ⟨(by rw [hw]; exact (by repeat (first | (with_reducible first | exact HB.out | apply below_alloc | apply pw_below_drewN | apply below_drew1 | refine below_set ?_ GE262.out | refine below_set ?_ GE265.out) | exact HB.out)))⟩; clear hw; clear HO_5; clear BK262; clear BK265; clear HB; have HO_5 := n0_; have BK262 := n1_; have BK265 := n2_; have HB := n3_; clear n0_ n1_ n2_ n3_; have hcz28_0 : w27.cell? ⟨gb262, 0, none⟩ = some (.int .i64 ((rd_T47 l0 x13_1).f0)) := (blk_cell BK262.out 0).trans rfl; have hcz28_1 : w27.cell? ⟨gb262, 1, none⟩ = some (.int .i64 ((rd_T47 l0 x13_1).f1)) := (blk_cell BK262.out 1).trans rfl; have hfz28_0 := blk_frozen BK262.out 0; have hfz28_1 := blk_frozen BK262.out 1; have hcz29_0 : w27.cell? ⟨gb265, 0, none⟩ = some (.int .i64 ((rd_T47 l0 (rd x5_1 (ji10))).f0)) := (blk_cell BK265.out 0).trans rfl; have hcz29_1 : w27.cell? ⟨gb265, 1, none⟩ = some (.int .i64 ((rd_T47 l0 (rd x5_1 (ji10))).f1)) := (blk_cell BK265.out 1).trans rfl; have hfz29_0 := blk_frozen BK265.out 0; have hfz29_1 := blk_frozen BK265.out 1; have q30 : (x8_2 : Int) ≤ ((x5_1.length : Int) : Int) := of_decide_eq_true (by first | (with_reducible assumption) | assumption); obtain ⟨i030, hi030, _, hsz30, _⟩ := info_parts info3; have hroom30 : x5_1.length ≤ co8 := (Kd.R_reads' HO_5.out).2.1; have hC30 : Kd.C (Kd.int .i64) _ (some ad263) x5_1.length x5_1 := (Kd.R_reads' HO_5.out).2.2; have hcut30 := cut_to (P := Try.prog) 30 3 .i64 Try.underlying30 hi030 (some ad263) x5_1.length co8 x8_2 (of_decide_eq_true (by first | (with_reducible assumption) | assumption)) q30 hroom30; have hr30 := Kd.C_take (m := (x8_2 : Int).toNat) hC30 (by omega); have hy30 : y266.length = (x8_2 : Int).toNat := (by rw [Ny266.out, List.length_take]; omega); rw [← Ny266.out] at hr30; rw [← hy30] at hcut30; have HR269 := Aside0.mk hr30; have HC269 := Aside0.mk (show y266.length ≤ co8 from by omega); clear hr30 hC30 hroom30 hi030 hsz30; have KY30 := Aside0.mk hy30; clear hy30; have KL30 := Aside0.mk (show (x8_2 : Int).toNat ≤ x5_1.length from by omega); replace q30 := eq_true q30) | ((with_reducible refine gate_callee (f := 52) rfl ?_); refine goesL_ (some 60) rfl rfl Try.func52 (by kernel_rfl) rfl #[.slice (some ad263) y266.length co8] rfl (by (try simp only [List.map_toArray, List.map_cons, List.map_nil]); first | done | rfl | (simp only [List.length_drop, List.length_take]; rfl)) ?_; (with_reducible refine (spec_l1Own.calls _ _ y266 t270 _ ?side1 ?side2 A19.out).mono ?_); (case side1 => repeat (first | exact (by repeat (first | (with_reducible exact HR269.out) | (with_reducible refine Kd.C_alloc ?_ _) | (with_reducible refine Kd.C_drewN ?_ _) | (with_reducible refine Kd.C_drew ?_) | exact HR269.out)) | (with_reducible refine Kd.C_alloc ?_ _) | (with_reducible refine Kd.C_drewN ?_ _) | (with_reducible refine Kd.C_drew ?_))); (case side2 => exact HC269.out); rintro e w31 ⟨v271, rfl, ho0, hb⟩; refine ⟨_, rfl, ?_⟩; have n0_ := Aside0.mk (Kd.R_elder' (by (with_reducible repeat (first | apply Kd.R_alloc | apply Kd.R_drewN | apply Kd.R_drew)); exact HO_5.out) (Kd.R_base ho0) hb); have n1_ := Aside0.mk (Kd.R_lower (Kd.R_new' ho0 (Kd.R_lt (by (with_reducible repeat (first | apply Kd.R_alloc | apply Kd.R_drewN | apply Kd.R_drew)); exact HO_5.out))) (below_size (by repeat (first | (with_reducible first | exact HB.out | apply below_alloc | apply pw_below_drewN | apply below_drew1 | refine below_set ?_ GE262.out | refine below_set ?_ GE265.out) | exact HB.out)))); have n2_ := Aside0.mk (blk_below (g := gb262) (o := .cells #[.int .i64 ((rd_T47 l0 x13_1).f0), .int .i64 ((rd_T47 l0 x13_1).f1)] 47 (0, 0)) (by (with_reducible repeat (first | refine blk_drewN ?_ _ | refine blk_drew ?_ | refine blk_alloc ?_ _)); exact BK262.out) hb); have n3_ := Aside0.mk (blk_below (g := gb265) (o := .cells #[.int .i64 ((rd_T47 l0 (rd x5_1 (ji10))).f0), .int .i64 ((rd_T47 l0 (rd x5_1 (ji10))).f1)] 47 (0, 0)) (by (with_reducible repeat (first | refine blk_drewN ?_ _ | refine blk_drew ?_ | refine blk_alloc ?_ _)); exact BK265.out) hb); have n4_ := Aside0.mk (Kd.C_below (by repeat (first | (with_reducible exact HR269.out) | (with_reducible refine Kd.C_alloc ?_ _) | (with_reducible refine Kd.C_drewN ?_ _) | (with_reducible refine Kd.C_drew ?_) | exact HR269.out)) hb); have n5_ := Aside0.mk (below_step (by repeat (first | (with_reducible first | exact HB.out | apply below_alloc | apply pw_below_drewN | apply below_drew1 | refine below_set ?_ GE262.out | refine below_set ?_ GE265.out) | exact HB.out)) hb); clear HO_5; clear BK262; clear BK265; clear HR269; clear HB; have HO_5 := n0_; have HO272 := n1_; have BK262 := n2_; have BK265 := n3_; have HR269 := n4_; have HB := n5_; clear n0_ n1_ n2_ n3_ n4_ n5_; (try clear hb); (try clear hb2); (try clear hk); (try clear hi); (try clear ho0)) | ((with_reducible refine gate_builtin (b := .append) (xs := #[.tmp 60, .tmp 62]) rfl ?_); at_builtin; refine Kd.R_append (Kd.int .i64) (w0 := w) w.heap.size rfl (.tmp 60) (.tmp 62) 30 3 (.int .i64 0) 8 rfl Try.underlying30 info3 rfl (by decide) (by omega) v271 t270 x13_1 [.int .i64 x13_1] (fun k_ => some k_ ≠ (.slice (some ad263) x5_1.length co8 : Value).ownBlock) (fun _ => False) rfl rfl ?aP (fun _ hk => hk.elim) ?aF ?aO ?aB ?aS ?aL ?_; (case aP => exact rfl); (case aB => exact (by repeat (first | (with_reducible first | exact HB.out | apply below_alloc | apply pw_below_drewN | apply below_drew1 | refine below_set ?_ GE262.out | refine below_set ?_ GE265.out) | exact HB.out))); (case aF => exact (fun k_ hk => Kd.fresh' (Kd.R_lt (by (with_reducible repeat (first | apply Kd.R_alloc | apply Kd.R_drewN | apply Kd.R_drew)); exact HO_5.out)) k_ hk)); (case aO => exact (by (with_reducible repeat (first | apply Kd.R_alloc | apply Kd.R_drewN | apply Kd.R_drew)); exact Kd.R_mono HO272.out (fun _ hk => hk.2))); (case aS => exact (below_size (by repeat (first | (with_reducible first | exact HB.out | apply below_alloc | apply pw_below_drewN | apply below_drew1 | refine below_set ?_ GE262.out | refine below_set ?_ GE265.out) | exact HB.out)))); (case aL => have := LMc20.out; omega); intro v274 w32 ho hb hg hat; rw [← Ny273.out] at ho; have n0_ := Aside0.mk (Kd.R_after (ok := (fun _ => True)) (by (with_reducible repeat (first | apply Kd.R_alloc | apply Kd.R_drewN | apply Kd.R_drew)); exact HO_5.out) hg hat); have n1_ := Aside0.mk (blk_grown (g := gb262) (o := .cells #[.int .i64 ((rd_T47 l0 x13_1).f0), .int .i64 ((rd_T47 l0 x13_1).f1)] 47 (0, 0)) (by (with_reducible repeat (first | refine blk_drewN ?_ _ | refine blk_drew ?_ | refine blk_alloc ?_ _)); exact BK262.out) hg (Kd.R_ne HO272.out BK262.out (by decide))); have n2_ := Aside0.mk (blk_grown (g := gb265) (o := .cells #[.int .i64 ((rd_T47 l0 (rd x5_1 (ji10))).f0), .int .i64 ((rd_T47 l0 (rd x5_1 (ji10))).f1)] 47 (0, 0)) (by (with_reducible repeat (first | refine blk_drewN ?_ _ | refine blk_drew ?_ | refine blk_alloc ?_ _)); exact BK265.out) hg (Kd.R_ne HO272.out BK265.out (by decide))); have n3_ := Aside0.mk (hb); have n4_ := Aside0.mk ((show Kd.C (Kd.int .i64) w32 (some ad263) y266.length y266 from by rw [Ny266.out]; exact Kd.C_take (m := (x8_2 : Int).toNat) ((Kd.R_reads' (Kd.R_after (ok := (fun _ => True)) (by (with_reducible repeat (first | apply Kd.R_alloc | apply Kd.R_drewN | apply Kd.R_drew)); exact HO_5.out) hg hat)).2.2) KL30.out)); have n5_ := Aside0.mk (ho); clear HO_5; clear BK262; clear BK265; clear HB; clear HR269; clear HO272; have HO_5 := n0_; have BK262 := n1_; have BK265 := n2_; have HB := n3_; have HR269 := n4_; have HO275 := n5_; clear n0_ n1_ n2_ n3_ n4_ n5_; clear ho hb hg hat; have q33 : (x8_2 : Int) ≤ ((x5_1.length : Int) : Int) := of_decide_eq_true (by first | (with_reducible assumption) | assumption); obtain ⟨i033, hi033, _, hsz33, _⟩ := info_parts info3; have hroom33 : x5_1.length ≤ co8 := (Kd.R_reads' HO_5.out).2.1; have hC33 : Kd.C (Kd.int .i64) _ (some ad263) x5_1.length x5_1 := (Kd.R_reads' HO_5.out).2.2; have q033 : (0 : Int) ≤ (x8_2 : Int) := of_decide_eq_true (by first | (with_reducible assumption) | assumption); have hcut33 := cut_from (P := Try.prog) 30 3 .i64 Try.underlying30 hi033 1 hsz33 (some ad263) x5_1.length co8 x8_2 q033 q33; have hr33 := Kd.C_drop (m := (x8_2 : Int).toNat) (c := co8) hC33 (by omega) hroom33; obtain ⟨A33, hA33⟩ : ∃ A1, A1 = (if co8 = (x8_2 : Int).toNat then (some ad263) else ((some ad263) : Option Addr).map (·.add ((x8_2 : Int).toNat * 1))) := ⟨_, rfl⟩; obtain ⟨c33, hc33⟩ : ∃ c1, c1 = co8 - (x8_2 : Int).toNat := ⟨_, rfl⟩; have hy33 : y276.length = x5_1.length - (x8_2 : Int).toNat := (by rw [Ny276.out, List.length_drop] <;> omega); rw [show (x5_1).drop (x8_2 : Int).toNat = y276 from Ny276.out.symm] at hr33; replace hr33 : Kd.C (Kd.int .i64) _ A33 y276.length y276 := (by rw [hA33]; exact hr33); rw [← hy33, ← hA33, ← hc33] at hcut33; have HR279 := Aside0.mk hr33; have HC279 := Aside0.mk (show y276.length ≤ c33 from by rw [hy33, hc33]; exact Nat.sub_le_sub_right hroom33 _); clear hr33 hC33 hroom33 hi033 hsz33 hc33; have KY33 := Aside0.mk hy33; have KA33 := Aside0.mk hA33; clear hy33 hA33; have KL33 := Aside0.mk (show (x8_2 : Int).toNat ≤ x5_1.length from by omega); replace q33 := eq_true q33) | ((with_reducible refine gate_builtin (b := .append) (xs := #[.tmp 64, .tmp 67]) rfl ?_); at_builtin; refine Kd.R_append_rows (Kd.int .i64) (w0 := w) w.heap.size rfl (.tmp 64) (.tmp 67) 30 3 (.int .i64 0) 8 rfl Try.underlying30 info3 rfl (by decide) (by omega) v274 y273 y276 _ _ _ (fun k_ => some k_ ≠ (.slice (some ad263) x5_1.length co8 : Value).ownBlock) (fun _ => False) rfl rfl ?aO ?aR (fun _ _ h => h) (fun _ h => h.elim) ?aF ?aB ?aS ?aL ?_; (case aR => repeat (first | exact (by repeat (first | (with_reducible exact HR279.out) | (with_reducible refine Kd.C_alloc ?_ _) | (with_reducible refine Kd.C_drewN ?_ _) | (with_reducible refine Kd.C_drew ?_) | exact HR279.out)) | (with_reducible refine Kd.C_alloc ?_ _) | (with_reducible refine Kd.C_drewN ?_ _) | (with_reducible refine Kd.C_drew ?_))); (case aB => exact (by repeat (first | (with_reducible first | exact HB.out | apply below_alloc | apply pw_below_drewN | apply below_drew1 | refine below_set ?_ GE262.out | refine below_set ?_ GE265.out) | exact HB.out))); (case aF => exact (fun k_ hk => Kd.fresh' (Kd.R_lt (by (with_reducible repeat (first | apply Kd.R_alloc | apply Kd.R_drewN | apply Kd.R_drew)); exact HO_5.out)) k_ hk)); (case aO => exact (by (with_reducible repeat (first | apply Kd.R_alloc | apply Kd.R_drewN | apply Kd.R_drew)); exact HO275.out)); (case aS => exact (below_size (by repeat (first | (with_reducible first | exact HB.out | apply below_alloc | apply pw_below_drewN | apply below_drew1 | refine below_set ?_ GE262.out | refine below_set ?_ GE265.out) | exact HB.out)))); (case aL => have := LMc23.out; omega); intro v281 w34 ho hb hg hat; rw [← Ny280.out] at ho; have n0_ := Aside0.mk (Kd.R_after (ok := (fun _ => True)) (by (with_reducible repeat (first | apply Kd.R_alloc | apply Kd.R_drewN | apply Kd.R_drew)); exact HO_5.out) hg hat); have n1_ := Aside0.mk (blk_grown (g := gb262) (o := .cells #[.int .i64 ((rd_T47 l0 x13_1).f0), .int .i64 ((rd_T47 l0 x13_1).f1)] 47 (0, 0)) (by (with_reducible repeat (first | refine blk_drewN ?_ _ | refine blk_drew ?_ | refine blk_alloc ?_ _)); exact BK262.out) hg (Kd.R_ne HO275.out BK262.out (by decide))); have n2_ := Aside0.mk (blk_grown (g := gb265) (o := .cells #[.int .i64 ((rd_T47 l0 (rd x5_1 (ji10))).f0), .int .i64 ((rd_T47 l0 (rd x5_1 (ji10))).f1)] 47 (0, 0)) (by (with_reducible repeat (first | refine blk_drewN ?_ _ | refine blk_drew ?_ | refine blk_alloc ?_ _)); exact BK265.out) hg (Kd.R_ne HO275.out BK265.out (by decide))); have n3_ := Aside0.mk (hb); have n4_ := Aside0.mk ((show Kd.C (Kd.int .i64) w34 (some ad263) y266.length y266 from by rw [Ny266.out]; exact Kd.C_take (m := (x8_2 : Int).toNat) ((Kd.R_reads' (Kd.R_after (ok := (fun _ => True)) (by (with_reducible repeat (first | apply Kd.R_alloc | apply Kd.R_drewN | apply Kd.R_drew)); exact HO_5.out) hg hat)).2.2) KL30.out)); have n5_ := Aside0.mk ((show Kd.C (Kd.int .i64) w34 A33 y276.length y276 from by rw [Ny276.out, KA33.out]; exact Kd.C_drop (m := (x8_2 : Int).toNat) (c := co8) ((Kd.R_reads' (Kd.R_after (ok := (fun _ => True)) (by (with_reducible repeat (first | apply Kd.R_alloc | apply Kd.R_drewN | apply Kd.R_drew)); exact HO_5.out) hg hat)).2.2) KL33.out ((Kd.R_reads' (Kd.R_after (ok := (fun _ => True)) (by (with_reducible repeat (first | apply Kd.R_alloc | apply Kd.R_drewN | apply Kd.R_drew)); exact HO_5.out) hg hat)).2.1))); have n6_ := Aside0.mk (ho); clear HO_5; clear BK262; clear BK265; clear HB; clear HR269; clear HR279; clear HO275; have HO_5 := n0_; have BK262 := n1_; have BK265 := n2_; have HB := n3_; have HR269 := n4_; have HR279 := n5_; have HO282 := n6_; clear n0_ n1_ n2_ n3_ n4_ n5_ n6_; clear ho hb hg hat))
                                      go_roundg k2
                                      case measure => have := HK1.out; have := HK2.out; omega
                                      case rel => exact ⟨(y280), (wrap64 (x13_1 + 1)), (by first | rfl | (simp; done) | (simp [*]; done)), H', ⟨by have := HK1.out; have := HK2.out; omega⟩, ⟨by (with_reducible repeat (first | apply Kd.R_alloc | apply Kd.R_drewN | apply Kd.R_drew)); exact Kd.R_mono HO282.out (fun _ hk => trivial)⟩, ⟨by repeat (first | (with_reducible first | exact HB.out | apply below_alloc | apply pw_below_drewN | apply below_drew1 | refine below_set ?_ GE262.out | refine below_set ?_ GE265.out) | exact HB.out)⟩⟩
                                    · rw [if_neg c23] at H
                                      exact absurd H (by simp)
                                  · rw [if_neg c20] at H
                                    exact absurd H (by simp)
                                · rw [if_neg c18] at H
                                  exact absurd H (by simp)
                              · rw [if_neg c17] at H
                                exact absurd H (by simp)
                            · rw [if_neg c16] at H
                              have c16b0 : decide (((rd_T47 l0 x13_1).f0) ≤ ((rd_T47 l0 (rd x5_1 (ji10))).f0)) = false := decide_eq_false c16
                              clear c16
                              have H' := Aside0.mk H
                              clear H
                              have p263 : 0 ≤ ((ji10) : Int) := of_decide_eq_true (by first | (with_reducible assumption) | assumption)
                              have q263 : (ji10) < (x5_1.length : Int) := of_decide_eq_true (by first | (with_reducible assumption) | assumption)
                              obtain ⟨ad263, e263, hx263_0⟩ := Kd.at_int (Kd.R_reads' HO_5.out).2.2 (ji10) p263 q263
                              cases e263
                              replace p263 := eq_true p263
                              replace q263 := eq_true q263
                              have p264 : 0 ≤ ((rd x5_1 (ji10)) : Int) := of_decide_eq_true (by first | (with_reducible assumption) | assumption)
                              have q264 : (rd x5_1 (ji10)) < (l0.length : Int) := of_decide_eq_true (by first | (with_reducible assumption) | assumption)
                              obtain ⟨ad264, e264, hx264_0, hx264_1⟩ := at_T47 HR0.out (rd x5_1 (ji10)) p264 q264
                              obtain rfl : ad261 = ad264 := (by injection e264)
                              replace hx264_0 := (HB.out.cell (World.block_lt_of_cell? w _ hx264_0)).trans hx264_0
                              replace hx264_1 := (HB.out.cell (World.block_lt_of_cell? w _ hx264_1)).trans hx264_1
                              replace p264 := eq_true p264
                              replace q264 := eq_true q264
                              go_wp2_with (first | ((with_reducible refine gate_dst (N := 9) rfl ?_); refine box_event ?hg (N := 9) ?hd (cs := #[.int .i64 0, .int .i64 0]) (t := 47) ?hr ?_; (case hd => rfl); (case hg => rfl); (case hr => first | (go_simp; done) | (go_simp; rfl)); intro gb265 hg w35 hbox hb; have n0_ := Aside0.mk (Kd.R_below (by (with_reducible repeat (first | apply Kd.R_alloc | apply Kd.R_drewN | apply Kd.R_drew)); exact HO_5.out) hb); have n1_ := Aside0.mk (blk_below (g := gb262) (o := .cells #[.int .i64 ((rd_T47 l0 x13_1).f0), .int .i64 ((rd_T47 l0 x13_1).f1)] 47 (0, 0)) (by (with_reducible repeat (first | refine blk_drewN ?_ _ | refine blk_drew ?_ | refine blk_alloc ?_ _)); exact BK262.out) hb); have n2_ := Aside0.mk (below_step (by repeat (first | (with_reducible first | exact HB.out | apply below_alloc | apply pw_below_drewN | apply below_drew1 | refine below_set ?_ GE262.out) | exact HB.out)) hb); have n3_ := Aside0.mk (hbox); have n4_ := Aside0.mk ((by rw [hg]; exact (below_size (by repeat (first | (with_reducible first | exact HB.out | apply below_alloc | apply pw_below_drewN | apply below_drew1 | refine below_set ?_ GE262.out) | exact HB.out))) : w.heap.size ≤ gb265)); have n5_ := Aside0.mk ((by rw [hg]; exact (below_size (by repeat (first | (with_reducible first | exact HB.out | apply below_alloc | apply pw_below_drewN | apply below_drew1 | refine below_set ?_ GE262.out) | exact HB.out))) : w.heap.size ≤ gb265)); have n6_ := Aside0.mk ((by rw [hg]; exact Nat.ne_of_lt (blk_lt (g := gb262) (o := .cells #[.int .i64 ((rd_T47 l0 x13_1).f0), .int .i64 ((rd_T47 l0 x13_1).f1)] 47 (0, 0)) (by (with_reducible repeat (first | refine blk_drewN ?_ _ | refine blk_drew ?_ | refine blk_alloc ?_ _)); exact BK262.out)) : gb262 ≠ gb265)); have n7_ := Aside0.mk ((by rw [hg]; exact Nat.ne_of_gt (blk_lt (g := gb262) (o := .cells #[.int .i64 ((rd_T47 l0 x13_1).f0), .int .i64 ((rd_T47 l0 x13_1).f1)] 47 (0, 0)) (by (with_reducible repeat (first | refine blk_drewN ?_ _ | refine blk_drew ?_ | refine blk_alloc ?_ _)); exact BK262.out)) : gb265 ≠ gb262)); clear HO_5; clear BK262; clear HB; have HO_5 := n0_; have BK262 := n1_; have HB := n2_; have BK265 := n3_; have GW265 := n4_; have GE265 := n5_; have NB262_265 := n6_; have NB265_262 := n7_; clear n0_ n1_ n2_ n3_ n4_ n5_ n6_ n7_; clear hb hbox hg; have hnb36 := NB265_262.out; have hnc36 := NB262_265.out; have hcz37_0 : w35.cell? ⟨gb265, 0, none⟩ = some (.int .i64 0) := (blk_cell BK265.out 0).trans rfl; have hcz37_1 : w35.cell? ⟨gb265, 1, none⟩ = some (.int .i64 0) := (blk_cell BK265.out 1).trans rfl; have hfz37_0 := blk_frozen BK265.out 0; have hfz37_1 := blk_frozen BK265.out 1; have hcz38_0 : w35.cell? ⟨gb262, 0, none⟩ = some (.int .i64 ((rd_T47 l0 x13_1).f0)) := (blk_cell BK262.out 0).trans rfl; have hcz38_1 : w35.cell? ⟨gb262, 1, none⟩ = some (.int .i64 ((rd_T47 l0 x13_1).f1)) := (blk_cell BK262.out 1).trans rfl; have hfz38_0 := blk_frozen BK262.out 0; have hfz38_1 := blk_frozen BK262.out 1))
                              go_roundg k2
                              case measure => have := HK1.out; have := HK2.out; omega
                              case rel => exact ⟨(ji10), (by first | rfl | (simp; done) | (simp only [← hji10] <;> (first | rfl | simp)) | (simp [*]; done)), H', ⟨by have := HK1.out; have := HK2.out; omega⟩, ⟨by (with_reducible repeat (first | apply Kd.R_alloc | apply Kd.R_drewN | apply Kd.R_drew)); exact Kd.R_mono (Kd.R_far (p := ⟨gb265, 1, none⟩) (Kd.R_far (p := ⟨gb265, 0, none⟩) (Kd.R_types HO_5.out BK265.out (by decide)) (fun _ hk => hk.2) (.int .i64 ((rd_T47 l0 (rd x5_1 (ji10))).f0))) (fun _ hk => hk.2) (.int .i64 ((rd_T47 l0 (rd x5_1 (ji10))).f1))) (fun _ hk => trivial)⟩, ⟨by (with_reducible repeat (first | refine blk_drewN ?_ _ | refine blk_drew ?_ | refine blk_alloc ?_ _)); refine blk_far ?_ NB262_265.out _; (with_reducible repeat (first | refine blk_drewN ?_ _ | refine blk_drew ?_ | refine blk_alloc ?_ _)); refine blk_far ?_ NB262_265.out _; (with_reducible repeat (first | refine blk_drewN ?_ _ | refine blk_drew ?_ | refine blk_alloc ?_ _)); exact BK262.out⟩, ⟨by repeat (first | (with_reducible first | exact HB.out | apply below_alloc | apply pw_below_drewN | apply below_drew1 | refine below_set ?_ GE262.out | refine below_set ?_ GE265.out) | exact HB.out)⟩⟩
                          · replace c15 := Bool.eq_false_iff.mpr c15
                            subst c15
                            have H1 : (if (wrap64 (((rd_T47 l0 x13_1).f0) * ((rd_T47 l0 (rd x5_1 (ji10))).f1))) ≤ (wrap64 (((rd_T47 l0 (rd x5_1 (ji10))).f0) * ((rd_T47 l0 x13_1).f1))) then (if 0 ≤ x8_2 then (if x8_2 ≤ (x5_1.length : Int) then ((spec_l1Own.f (x5_1.take (x8_2 : Int).toNat)).bind fun t287 => (if t287.length < 17592186044416 then ((some (t287 ++ [x13_1] : List Int)).bind fun y290 => ((some (x5_1.drop (x8_2 : Int).toNat : List Int)).bind fun y293 => (if y290.length + y293.length < 17592186044416 then (spec_dwSort.l0 k2 l0 false (y290 ++ y293) l0 (l0.length : Int) (wrap64 (x13_1 + 1))) else (none)))) else (none))) else (none)) else (none)) else (spec_dwSort.l1 k2 l0 false x5_1 x13_1 ji10 l0 (l0.length : Int) x13_1 ((rd_T47 l0 x13_1).f0) ((rd_T47 l0 x13_1).f1))) = some r := by rw [if_neg (show ¬ (false = true) by decide)] at H; exact H
                            clear H
                            have H := H1
                            clear H1
                            by_cases c39 : (wrap64 (((rd_T47 l0 x13_1).f0) * ((rd_T47 l0 (rd x5_1 (ji10))).f1))) ≤ (wrap64 (((rd_T47 l0 (rd x5_1 (ji10))).f0) * ((rd_T47 l0 x13_1).f1)))
                            · rw [if_pos c39] at H
                              have c39b0 : decide ((wrap64 (((rd_T47 l0 x13_1).f0) * ((rd_T47 l0 (rd x5_1 (ji10))).f1))) ≤ (wrap64 (((rd_T47 l0 (rd x5_1 (ji10))).f0) * ((rd_T47 l0 x13_1).f1)))) = true := decide_eq_true c39
                              clear c39
                              by_cases c40 : 0 ≤ x8_2
                              · rw [if_pos c40] at H
                                have c40b0 := eq_true c40
                                have c40b1 : decide (0 ≤ x8_2) = true := decide_eq_true c40
                                clear c40
                                by_cases c41 : x8_2 ≤ (x5_1.length : Int)
                                · rw [if_pos c41] at H
                                  have c41b0 := eq_true c41
                                  have c41b1 : decide (x8_2 ≤ (x5_1.length : Int)) = true := decide_eq_true c41
                                  clear c41
                                  obtain ⟨y283, hy283⟩ : ∃ y_ : List Int, y_ = (x5_1.take (x8_2 : Int).toNat) := ⟨_, rfl⟩
                                  replace H : ((spec_l1Own.f y283).bind fun t287 => (if t287.length < 17592186044416 then ((some (t287 ++ [x13_1] : List Int)).bind fun y290 => ((some (x5_1.drop (x8_2 : Int).toNat : List Int)).bind fun y293 => (if y290.length + y293.length < 17592186044416 then (spec_dwSort.l0 k2 l0 false (y290 ++ y293) l0 (l0.length : Int) (wrap64 (x13_1 + 1))) else (none)))) else (none))) = some r := by first | (rw [hy283]; with_reducible exact H) | (have H2_ := (Option.bind_some _ _).symm.trans H; rw [hy283]; with_reducible exact H2_) | (have H2_ := (Option.bind_some _ _).symm.trans H; with_reducible exact H2_) | with_reducible exact H | (rw [hy283]; exact H) | exact H
                                  have Ny283 := Aside0.mk hy283
                                  clear hy283
                                  replace H := Option.bind_eq_some_iff.mp H
                                  obtain ⟨t287, A420, H⟩ := H
                                  replace H : (if t287.length < 17592186044416 then ((some (t287 ++ [x13_1] : List Int)).bind fun y290 => ((some (x5_1.drop (x8_2 : Int).toNat : List Int)).bind fun y293 => (if y290.length + y293.length < 17592186044416 then (spec_dwSort.l0 k2 l0 false (y290 ++ y293) l0 (l0.length : Int) (wrap64 (x13_1 + 1))) else (none)))) else (none)) = some r := H
                                  have A42 := Aside0.mk A420
                                  clear A420
                                  by_cases c43 : t287.length < 17592186044416
                                  · rw [if_pos c43] at H
                                    have LMc43 := Aside0.mk c43
                                    clear c43
                                    obtain ⟨y290, hy290⟩ : ∃ y_ : List Int, y_ = (t287 ++ [x13_1]) := ⟨_, rfl⟩
                                    replace H : ((some (x5_1.drop (x8_2 : Int).toNat : List Int)).bind fun y293 => (if y290.length + y293.length < 17592186044416 then (spec_dwSort.l0 k2 l0 false (y290 ++ y293) l0 (l0.length : Int) (wrap64 (x13_1 + 1))) else (none))) = some r := by first | (rw [hy290]; with_reducible exact H) | (have H2_ := (Option.bind_some _ _).symm.trans H; rw [hy290]; with_reducible exact H2_) | (have H2_ := (Option.bind_some _ _).symm.trans H; with_reducible exact H2_) | with_reducible exact H | (rw [hy290]; exact H) | exact H
                                    have Ny290 := Aside0.mk hy290
                                    clear hy290
                                    have c44b0 := eq_true (of_decide_eq_true (by first | (with_reducible assumption) | assumption) : 0 ≤ x8_2)
                                    have c45b0 := eq_true (of_decide_eq_true (by first | (with_reducible assumption) | assumption) : x8_2 ≤ (x5_1.length : Int))
                                    obtain ⟨y293, hy293⟩ : ∃ y_ : List Int, y_ = (x5_1.drop (x8_2 : Int).toNat) := ⟨_, rfl⟩
                                    replace H : (if y290.length + y293.length < 17592186044416 then (spec_dwSort.l0 k2 l0 false (y290 ++ y293) l0 (l0.length : Int) (wrap64 (x13_1 + 1))) else (none)) = some r := by first | (rw [hy293]; with_reducible exact H) | (have H2_ := (Option.bind_some _ _).symm.trans H; rw [hy293]; with_reducible exact H2_) | (have H2_ := (Option.bind_some _ _).symm.trans H; with_reducible exact H2_) | with_reducible exact H | (rw [hy293]; exact H) | exact H
                                    have Ny293 := Aside0.mk hy293
                                    clear hy293
                                    by_cases c46 : y290.length + y293.length < 17592186044416
                                    · rw [if_pos c46] at H
                                      have LMc46 := Aside0.mk c46
                                      clear c46
                                      obtain ⟨y297, hy297⟩ : ∃ y_ : List Int, y_ = (y290 ++ y293) := ⟨_, rfl⟩
                                      replace H : (spec_dwSort.l0 k2 l0 false y297 l0 (l0.length : Int) (wrap64 (x13_1 + 1))) = some r := by first | (rw [hy297]; with_reducible exact H) | (have H2_ := (Option.bind_some _ _).symm.trans H; rw [hy297]; with_reducible exact H2_) | (have H2_ := (Option.bind_some _ _).symm.trans H; with_reducible exact H2_) | with_reducible exact H | (rw [hy297]; exact H) | exact H
                                      have Ny297 := Aside0.mk hy297
                                      clear hy297
                                      have H' := Aside0.mk H
                                      clear H
                                      have p263 : 0 ≤ ((ji10) : Int) := of_decide_eq_true (by first | (with_reducible assumption) | assumption)
                                      have q263 : (ji10) < (x5_1.length : Int) := of_decide_eq_true (by first | (with_reducible assumption) | assumption)
                                      obtain ⟨ad263, e263, hx263_0⟩ := Kd.at_int (Kd.R_reads' HO_5.out).2.2 (ji10) p263 q263
                                      cases e263
                                      replace p263 := eq_true p263
                                      replace q263 := eq_true q263
                                      have p264 : 0 ≤ ((rd x5_1 (ji10)) : Int) := of_decide_eq_true (by first | (with_reducible assumption) | assumption)
                                      have q264 : (rd x5_1 (ji10)) < (l0.length : Int) := of_decide_eq_true (by first | (with_reducible assumption) | assumption)
                                      obtain ⟨ad264, e264, hx264_0, hx264_1⟩ := at_T47 HR0.out (rd x5_1 (ji10)) p264 q264
                                      obtain rfl : ad261 = ad264 := (by injection e264)
                                      replace hx264_0 := (HB.out.cell (World.block_lt_of_cell? w _ hx264_0)).trans hx264_0
                                      replace hx264_1 := (HB.out.cell (World.block_lt_of_cell? w _ hx264_1)).trans hx264_1
                                      replace p264 := eq_true p264
                                      replace q264 := eq_true q264
                                      go_wp2_with (first | ((with_reducible refine gate_dst (N := 9) rfl ?_); refine box_event ?hg (N := 9) ?hd (cs := #[.int .i64 0, .int .i64 0]) (t := 47) ?hr ?_; (case hd => rfl); (case hg => rfl); (case hr => first | (go_simp; done) | (go_simp; rfl)); intro gb265 hg w47 hbox hb; have n0_ := Aside0.mk (Kd.R_below (by (with_reducible repeat (first | apply Kd.R_alloc | apply Kd.R_drewN | apply Kd.R_drew)); exact HO_5.out) hb); have n1_ := Aside0.mk (blk_below (g := gb262) (o := .cells #[.int .i64 ((rd_T47 l0 x13_1).f0), .int .i64 ((rd_T47 l0 x13_1).f1)] 47 (0, 0)) (by (with_reducible repeat (first | refine blk_drewN ?_ _ | refine blk_drew ?_ | refine blk_alloc ?_ _)); exact BK262.out) hb); have n2_ := Aside0.mk (below_step (by repeat (first | (with_reducible first | exact HB.out | apply below_alloc | apply pw_below_drewN | apply below_drew1 | refine below_set ?_ GE262.out) | exact HB.out)) hb); have n3_ := Aside0.mk (hbox); have n4_ := Aside0.mk ((by rw [hg]; exact (below_size (by repeat (first | (with_reducible first | exact HB.out | apply below_alloc | apply pw_below_drewN | apply below_drew1 | refine below_set ?_ GE262.out) | exact HB.out))) : w.heap.size ≤ gb265)); have n5_ := Aside0.mk ((by rw [hg]; exact (below_size (by repeat (first | (with_reducible first | exact HB.out | apply below_alloc | apply pw_below_drewN | apply below_drew1 | refine below_set ?_ GE262.out) | exact HB.out))) : w.heap.size ≤ gb265)); have n6_ := Aside0.mk ((by rw [hg]; exact Nat.ne_of_lt (blk_lt (g := gb262) (o := .cells #[.int .i64 ((rd_T47 l0 x13_1).f0), .int .i64 ((rd_T47 l0 x13_1).f1)] 47 (0, 0)) (by (with_reducible repeat (first | refine blk_drewN ?_ _ | refine blk_drew ?_ | refine blk_alloc ?_ _)); exact BK262.out)) : gb262 ≠ gb265)); have n7_ := Aside0.mk ((by rw [hg]; exact Nat.ne_of_gt (blk_lt (g := gb262) (o := .cells #[.int .i64 ((rd_T47 l0 x13_1).f0), .int .i64 ((rd_T47 l0 x13_1).f1)] 47 (0, 0)) (by (with_reducible repeat (first | refine blk_drewN ?_ _ | refine blk_drew ?_ | refine blk_alloc ?_ _)); exact BK262.out)) : gb265 ≠ gb262)); clear HO_5; clear BK262; clear HB; have HO_5 := n0_; have BK262 := n1_; have HB := n2_; have BK265 := n3_; have GW265 := n4_; have GE265 := n5_; have NB262_265 := n6_; have NB265_262 := n7_; clear n0_ n1_ n2_ n3_ n4_ n5_ n6_ n7_; clear hb hbox hg; have hnb48 := NB265_262.out; have hnc48 := NB262_265.out; have hcz49_0 : w47.cell? ⟨gb265, 0, none⟩ = some (.int .i64 0) := (blk_cell BK265.out 0).trans rfl; have hcz49_1 : w47.cell? ⟨gb265, 1, none⟩ = some (.int .i64 0) := (blk_cell BK265.out 1).trans rfl; have hfz49_0 := blk_frozen BK265.out 0; have hfz49_1 := blk_frozen BK265.out 1) | ((with_reducible refine gate_store (t := 47) (p := 9) rfl ?_); refine store_event (t := 47) (p := 9) (v := ?vo_w50) (w1 := ((w47.setCell ⟨gb265, 0, none⟩ (.int .i64 ((rd_T47 l0 (rd x5_1 (ji10))).f0))).setCell ⟨gb265, 1, none⟩ (.int .i64 ((rd_T47 l0 (rd x5_1 (ji10))).f1)))) ?hg ?ho ?hn ?hr ?_; (case ho => rfl); (case hg => rfl); (case hn => rfl); (case hr => first | (go_simp; done) | (go_simp; rfl)); intro w50 hw; have n0_ : Aside0 (Kd.R (Kd.int .i64) 3 w50 w.heap.size (fun _ => True) (.slice (some ad263) x5_1.length co8) x5_1) := ⟨(by rw [hw]; exact (by (with_reducible repeat (first | apply Kd.R_alloc | apply Kd.R_drewN | apply Kd.R_drew)); exact Kd.R_mono (Kd.R_far (p := ⟨gb265, 1, none⟩) (Kd.R_far (p := ⟨gb265, 0, none⟩) (Kd.R_types HO_5.out BK265.out (by decide)) (fun _ hk => hk.2) (.int .i64 ((rd_T47 l0 (rd x5_1 (ji10))).f0))) (fun _ hk => hk.2) (.int .i64 ((rd_T47 l0 (rd x5_1 (ji10))).f1))) (fun _ hk => trivial)))⟩; have n1_ : Aside0 (w50.heap[gb262]? = some (.cells #[.int .i64 ((rd_T47 l0 x13_1).f0), .int .i64 ((rd_T47 l0 x13_1).f1)] 47 (0, 0))) := ⟨(by rw [hw]; exact (by (with_reducible repeat (first | refine blk_drewN ?_ _ | refine blk_drew ?_ | refine blk_alloc ?_ _)); refine blk_far ?_ NB262_265.out _; (with_reducible repeat (first | refine blk_drewN ?_ _ | refine blk_drew ?_ | refine blk_alloc ?_ _)); refine blk_far ?_ NB262_265.out _; (with_reducible repeat (first | refine blk_drewN ?_ _ | refine blk_drew ?_ | refine blk_alloc ?_ _)); exact BK262.out))⟩; have n2_ : Aside0 (w50.heap[gb265]? = some (.cells #[.int .i64 ((rd_T47 l0 (rd x5_1 (ji10))).f0), .int .i64 ((rd_T47 l0 (rd x5_1 (ji10))).f1)] 47 (0, 0))) := ⟨(by rw [hw]; exact (by (with_reducible repeat (first | refine blk_drewN ?_ _ | refine blk_drew ?_ | refine blk_alloc ?_ _)); refine blk_put (cs := #[.int .i64 ((rd_T47 l0 (rd x5_1 (ji10))).f0), .int .i64 0]) ?_ 1 _ rfl; (with_reducible repeat (first | refine blk_drewN ?_ _ | refine blk_drew ?_ | refine blk_alloc ?_ _)); refine blk_put (cs := #[.int .i64 0, .int .i64 0]) ?_ 0 _ rfl; (with_reducible repeat (first | refine blk_drewN ?_ _ | refine blk_drew ?_ | refine blk_alloc ?_ _)); exact BK265.out))⟩; have n3_ : Aside0 (Below w.heap.size w w50) := ⟨(by rw [hw]; exact (by repeat (first | (with_reducible first | exact HB.out | apply below_alloc | apply pw_below_drewN | apply below_drew1 | refine below_set ?_ GE262.out | refine below_set ?_ GE265.out) | exact HB.out)))⟩; clear hw; clear HO_5; clear BK262; clear BK265; clear HB; have HO_5 := n0_; have BK262 := n1_; have BK265 := n2_; have HB := n3_; clear n0_ n1_ n2_ n3_; have hcz51_0 : w50.cell? ⟨gb262, 0, none⟩ = some (.int .i64 ((rd_T47 l0 x13_1).f0)) := (blk_cell BK262.out 0).trans rfl; have hcz51_1 : w50.cell? ⟨gb262, 1, none⟩ = some (.int .i64 ((rd_T47 l0 x13_1).f1)) := (blk_cell BK262.out 1).trans rfl; have hfz51_0 := blk_frozen BK262.out 0; have hfz51_1 := blk_frozen BK262.out 1; have hcz52_0 : w50.cell? ⟨gb265, 0, none⟩ = some (.int .i64 ((rd_T47 l0 (rd x5_1 (ji10))).f0)) := (blk_cell BK265.out 0).trans rfl; have hcz52_1 : w50.cell? ⟨gb265, 1, none⟩ = some (.int .i64 ((rd_T47 l0 (rd x5_1 (ji10))).f1)) := (blk_cell BK265.out 1).trans rfl; have hfz52_0 := blk_frozen BK265.out 0; have hfz52_1 := blk_frozen BK265.out 1; have q53 : (x8_2 : Int) ≤ ((x5_1.length : Int) : Int) := of_decide_eq_true (by first | (with_reducible assumption) | assumption); obtain ⟨i053, hi053, _, hsz53, _⟩ := info_parts info3; have hroom53 : x5_1.length ≤ co8 := (Kd.R_reads' HO_5.out).2.1; have hC53 : Kd.C (Kd.int .i64) _ (some ad263) x5_1.length x5_1 := (Kd.R_reads' HO_5.out).2.2; have hcut53 := cut_to (P := Try.prog) 30 3 .i64 Try.underlying30 hi053 (some ad263) x5_1.length co8 x8_2 (of_decide_eq_true (by first | (with_reducible assumption) | assumption)) q53 hroom53; have hr53 := Kd.C_take (m := (x8_2 : Int).toNat) hC53 (by omega); have hy53 : y283.length = (x8_2 : Int).toNat := (by rw [Ny283.out, List.length_take]; omega); rw [← Ny283.out] at hr53; rw [← hy53] at hcut53; have HR286 := Aside0.mk hr53; have HC286 := Aside0.mk (show y283.length ≤ co8 from by omega); clear hr53 hC53 hroom53 hi053 hsz53; have KY53 := Aside0.mk hy53; clear hy53; have KL53 := Aside0.mk (show (x8_2 : Int).toNat ≤ x5_1.length from by omega); replace q53 := eq_true q53) | ((with_reducible refine gate_callee (f := 52) rfl ?_); refine goesL_ (some 60) rfl rfl Try.func52 (by kernel_rfl) rfl #[.slice (some ad263) y283.length co8] rfl (by (try simp only [List.map_toArray, List.map_cons, List.map_nil]); first | done | rfl | (simp only [List.length_drop, List.length_take]; rfl)) ?_; (with_reducible refine (spec_l1Own.calls _ _ y283 t287 _ ?side1 ?side2 A42.out).mono ?_); (case side1 => repeat (first | exact (by repeat (first | (with_reducible exact HR286.out) | (with_reducible refine Kd.C_alloc ?_ _) | (with_reducible refine Kd.C_drewN ?_ _) | (with_reducible refine Kd.C_drew ?_) | exact HR286.out)) | (with_reducible refine Kd.C_alloc ?_ _) | (with_reducible refine Kd.C_drewN ?_ _) | (with_reducible refine Kd.C_drew ?_))); (case side2 => exact HC286.out); rintro e w54 ⟨v288, rfl, ho0, hb⟩; refine ⟨_, rfl, ?_⟩; have n0_ := Aside0.mk (Kd.R_elder' (by (with_reducible repeat (first | apply Kd.R_alloc | apply Kd.R_drewN | apply Kd.R_drew)); exact HO_5.out) (Kd.R_base ho0) hb); have n1_ := Aside0.mk (Kd.R_lower (Kd.R_new' ho0 (Kd.R_lt (by (with_reducible repeat (first | apply Kd.R_alloc | apply Kd.R_drewN | apply Kd.R_drew)); exact HO_5.out))) (below_size (by repeat (first | (with_reducible first | exact HB.out | apply below_alloc | apply pw_below_drewN | apply below_drew1 | refine below_set ?_ GE262.out | refine below_set ?_ GE265.out) | exact HB.out)))); have n2_ := Aside0.mk (blk_below (g := gb262) (o := .cells #[.int .i64 ((rd_T47 l0 x13_1).f0), .int .i64 ((rd_T47 l0 x13_1).f1)] 47 (0, 0)) (by (with_reducible repeat (first | refine blk_drewN ?_ _ | refine blk_drew ?_ | refine blk_alloc ?_ _)); exact BK262.out) hb); have n3_ := Aside0.mk (blk_below (g := gb265) (o := .cells #[.int .i64 ((rd_T47 l0 (rd x5_1 (ji10))).f0), .int .i64 ((rd_T47 l0 (rd x5_1 (ji10))).f1)] 47 (0, 0)) (by (with_reducible repeat (first | refine blk_drewN ?_ _ | refine blk_drew ?_ | refine blk_alloc ?_ _)); exact BK265.out) hb); have n4_ := Aside0.mk (Kd.C_below (by repeat (first | (with_reducible exact HR286.out) | (with_reducible refine Kd.C_alloc ?_ _) | (with_reducible refine Kd.C_drewN ?_ _) | (with_reducible refine Kd.C_drew ?_) | exact HR286.out)) hb); have n5_ := Aside0.mk (below_step (by repeat (first | (with_reducible first | exact HB.out | apply below_alloc | apply pw_below_drewN | apply below_drew1 | refine below_set ?_ GE262.out | refine below_set ?_ GE265.out) | exact HB.out)) hb); clear HO_5; clear BK262; clear BK265; clear HR286; clear HB; have HO_5 := n0_; have HO289 := n1_; have BK262 := n2_; have BK265 := n3_; have HR286 := n4_; have HB := n5_; clear n0_ n1_ n2_ n3_ n4_ n5_; (try clear hb); (try clear hb2); (try clear hk); (try clear hi); (try clear ho0)) | ((with_reducible refine gate_builtin (b := .append) (xs := #[.tmp 60, .tmp 62]) rfl ?_); at_builtin; refine Kd.R_append (Kd.int .i64) (w0 := w) w.heap.size rfl (.tmp 60) (.tmp 62) 30 3 (.int .i64 0) 8 rfl Try.underlying30 info3 rfl (by decide) (by omega) v288 t287 x13_1 [.int .i64 x13_1] (fun k_ => some k_ ≠ (.slice (some ad263) x5_1.length co8 : Value).ownBlock) (fun _ => False) rfl rfl ?aP (fun _ hk => hk.elim) ?aF ?aO ?aB ?aS ?aL ?_; (case aP => exact rfl); (case aB => exact (by repeat (first | (with_reducible first | exact HB.out | apply below_alloc | apply pw_below_drewN | apply below_drew1 | refine below_set ?_ GE262.out | refine below_set ?_ GE265.out) | exact HB.out))); (case aF => exact (fun k_ hk => Kd.fresh' (Kd.R_lt (by (with_reducible repeat (first | apply Kd.R_alloc | apply Kd.R_drewN | apply Kd.R_drew)); exact HO_5.out)) k_ hk)); (case aO => exact (by (with_reducible repeat (first | apply Kd.R_alloc | apply Kd.R_drewN | apply Kd.R_drew)); exact Kd.R_mono HO289.out (fun _ hk => hk.2))); (case aS => exact (below_size (by repeat (first | (with_reducible first | exact HB.out | apply below_alloc | apply pw_below_drewN | apply below_drew1 | refine below_set ?_ GE262.out | refine below_set ?_ GE265.out) | exact HB.out)))); (case aL => have := LMc43.out; omega); intro v291 w55 ho hb hg hat; rw [← Ny290.out] at ho; have n0_ := Aside0.mk (Kd.R_after (ok := (fun _ => True)) (by (with_reducible repeat (first | apply Kd.R_alloc | apply Kd.R_drewN | apply Kd.R_drew)); exact HO_5.out) hg hat); have n1_ := Aside0.mk (blk_grown (g := gb262) (o := .cells #[.int .i64 ((rd_T47 l0 x13_1).f0), .int .i64 ((rd_T47 l0 x13_1).f1)] 47 (0, 0)) (by (with_reducible repeat (first | refine blk_drewN ?_ _ | refine blk_drew ?_ | refine blk_alloc ?_ _)); exact BK262.out) hg (Kd.R_ne HO289.out BK262.out (by decide))); have n2_ := Aside0.mk (blk_grown (g := gb265) (o := .cells #[.int .i64 ((rd_T47 l0 (rd x5_1 (ji10))).f0), .int .i64 ((rd_T47 l0 (rd x5_1 (ji10))).f1)] 47 (0, 0)) (by (with_reducible repeat (first | refine blk_drewN ?_ _ | refine blk_drew ?_ | refine blk_alloc ?_ _)); exact BK265.out) hg (Kd.R_ne HO289.out BK265.out (by decide))); have n3_ := Aside0.mk (hb); have n4_ := Aside0.mk ((show Kd.C (Kd.int .i64) w55 (some ad263) y283.length y283 from by rw [Ny283.out]; exact Kd.C_take (m := (x8_2 : Int).toNat) ((Kd.R_reads' (Kd.R_after (ok := (fun _ => True)) (by (with_reducible repeat (first | apply Kd.R_alloc | apply Kd.R_drewN | apply Kd.R_drew)); exact HO_5.out) hg hat)).2.2) KL53.out)); have n5_ := Aside0.mk (ho); clear HO_5; clear BK262; clear BK265; clear HB; clear HR286; clear HO289; have HO_5 := n0_; have BK262 := n1_; have BK265 := n2_; have HB := n3_; have HR286 := n4_; have HO292 := n5_; clear n0_ n1_ n2_ n3_ n4_ n5_; clear ho hb hg hat; have q56 : (x8_2 : Int) ≤ ((x5_1.length : Int) : Int) := of_decide_eq_true (by first | (with_reducible assumption) | assumption); obtain ⟨i056, hi056, _, hsz56, _⟩ := info_parts info3; have hroom56 : x5_1.length ≤ co8 := (Kd.R_reads' HO_5.out).2.1; have hC56 : Kd.C (Kd.int .i64) _ (some ad263) x5_1.length x5_1 := (Kd.R_reads' HO_5.out).2.2; have q056 : (0 : Int) ≤ (x8_2 : Int) := of_decide_eq_true (by first | (with_reducible assumption) | assumption); have hcut56 := cut_from (P := Try.prog) 30 3 .i64 Try.underlying30 hi056 1 hsz56 (some ad263) x5_1.length co8 x8_2 q056 q56; have hr56 := Kd.C_drop (m := (x8_2 : Int).toNat) (c := co8) hC56 (by omega) hroom56; obtain ⟨A56, hA56⟩ : ∃ A1, A1 = (if co8 = (x8_2 : Int).toNat then (some ad263) else ((some ad263) : Option Addr).map (·.add ((x8_2 : Int).toNat * 1))) := ⟨_, rfl⟩; obtain ⟨c56, hc56⟩ : ∃ c1, c1 = co8 - (x8_2 : Int).toNat := ⟨_, rfl⟩; have hy56 : y293.length = x5_1.length - (x8_2 : Int).toNat := (by rw [Ny293.out, List.length_drop] <;> omega); rw [show (x5_1).drop (x8_2 : Int).toNat = y293 from Ny293.out.symm] at hr56; replace hr56 : Kd.C (Kd.int .i64) _ A56 y293.length y293 := (by rw [hA56]; exact hr56); rw [← hy56, ← hA56, ← hc56] at hcut56; have HR296 := Aside0.mk hr56; have HC296 := Aside0.mk (show y293.length ≤ c56 from by rw [hy56, hc56]; exact Nat.sub_le_sub_right hroom56 _); clear hr56 hC56 hroom56 hi056 hsz56 hc56; have KY56 := Aside0.mk hy56; have KA56 := Aside0.mk hA56; clear hy56 hA56; have KL56 := Aside0.mk (show (x8_2 : Int).toNat ≤ x5_1.length from by omega); replace q56 := eq_true q56) | ((with_reducible refine gate_builtin (b := .append) (xs := #[.tmp 64, .tmp 67]) rfl ?_); at_builtin; refine Kd.R_append_rows (Kd.int .i64) (w0 := w) w.heap.size rfl (.tmp 64) (.tmp 67) 30 3 (.int .i64 0) 8 rfl Try.underlying30 info3 rfl (by decide) (by omega) v291 y290 y293 _ _ _ (fun k_ => some k_ ≠ (.slice (some ad263) x5_1.length co8 : Value).ownBlock) (fun _ => False) rfl rfl ?aO ?aR (fun _ _ h => h) (fun _ h => h.elim) ?aF ?aB ?aS ?aL ?_; (case aR => repeat (first | exact (by repeat (first | (with_reducible exact HR296.out) | (with_reducible refine Kd.C_alloc ?_ _) | (with_reducible refine Kd.C_drewN ?_ _) | (with_reducible refine Kd.C_drew ?_) | exact HR296.out)) | (with_reducible refine Kd.C_alloc ?_ _) | (with_reducible refine Kd.C_drewN ?_ _) | (with_reducible refine Kd.C_drew ?_))); (case aB => exact (by repeat (first | (with_reducible first | exact HB.out | apply below_alloc | apply pw_below_drewN | apply below_drew1 | refine below_set ?_ GE262.out | refine below_set ?_ GE265.out) | exact HB.out))); (case aF => exact (fun k_ hk => Kd.fresh' (Kd.R_lt (by (with_reducible repeat (first | apply Kd.R_alloc | apply Kd.R_drewN | apply Kd.R_drew)); exact HO_5.out)) k_ hk)); (case aO => exact (by (with_reducible repeat (first | apply Kd.R_alloc | apply Kd.R_drewN | apply Kd.R_drew)); exact HO292.out)); (case aS => exact (below_size (by repeat (first | (with_reducible first | exact HB.out | apply below_alloc | apply pw_below_drewN | apply below_drew1 | refine below_set ?_ GE262.out | refine below_set ?_ GE265.out) | exact HB.out)))); (case aL => have := LMc46.out; omega); intro v298 w57 ho hb hg hat; rw [← Ny297.out] at ho; have n0_ := Aside0.mk (Kd.R_after (ok := (fun _ => True)) (by (with_reducible repeat (first | apply Kd.R_alloc | apply Kd.R_drewN | apply Kd.R_drew)); exact HO_5.out) hg hat); have n1_ := Aside0.mk (blk_grown (g := gb262) (o := .cells #[.int .i64 ((rd_T47 l0 x13_1).f0), .int .i64 ((rd_T47 l0 x13_1).f1)] 47 (0, 0)) (by (with_reducible repeat (first | refine blk_drewN ?_ _ | refine blk_drew ?_ | refine blk_alloc ?_ _)); exact BK262.out) hg (Kd.R_ne HO292.out BK262.out (by decide))); have n2_ := Aside0.mk (blk_grown (g := gb265) (o := .cells #[.int .i64 ((rd_T47 l0 (rd x5_1 (ji10))).f0), .int .i64 ((rd_T47 l0 (rd x5_1 (ji10))).f1)] 47 (0, 0)) (by (with_reducible repeat (first | refine blk_drewN ?_ _ | refine blk_drew ?_ | refine blk_alloc ?_ _)); exact BK265.out) hg (Kd.R_ne HO292.out BK265.out (by decide))); have n3_ := Aside0.mk (hb); have n4_ := Aside0.mk ((show Kd.C (Kd.int .i64) w57 (some ad263) y283.length y283 from by rw [Ny283.out]; exact Kd.C_take (m := (x8_2 : Int).toNat) ((Kd.R_reads' (Kd.R_after (ok := (fun _ => True)) (by (with_reducible repeat (first | apply Kd.R_alloc | apply Kd.R_drewN | apply Kd.R_drew)); exact HO_5.out) hg hat)).2.2) KL53.out)); have n5_ := Aside0.mk ((show Kd.C (Kd.int .i64) w57 A56 y293.length y293 from by rw [Ny293.out, KA56.out]; exact Kd.C_drop (m := (x8_2 : Int).toNat) (c := co8) ((Kd.R_reads' (Kd.R_after (ok := (fun _ => True)) (by (with_reducible repeat (first | apply Kd.R_alloc | apply Kd.R_drewN | apply Kd.R_drew)); exact HO_5.out) hg hat)).2.2) KL56.out ((Kd.R_reads' (Kd.R_after (ok := (fun _ => True)) (by (with_reducible repeat (first | apply Kd.R_alloc | apply Kd.R_drewN | apply Kd.R_drew)); exact HO_5.out) hg hat)).2.1))); have n6_ := Aside0.mk (ho); clear HO_5; clear BK262; clear BK265; clear HB; clear HR286; clear HR296; clear HO292; have HO_5 := n0_; have BK262 := n1_; have BK265 := n2_; have HB := n3_; have HR286 := n4_; have HR296 := n5_; have HO299 := n6_; clear n0_ n1_ n2_ n3_ n4_ n5_ n6_; clear ho hb hg hat))
                                      go_roundg k2
                                      case measure => have := HK1.out; have := HK2.out; omega
                                      case rel => exact ⟨(y297), (wrap64 (x13_1 + 1)), (by first | rfl | (simp; done) | (simp [*]; done)), H', ⟨by have := HK1.out; have := HK2.out; omega⟩, ⟨by (with_reducible repeat (first | apply Kd.R_alloc | apply Kd.R_drewN | apply Kd.R_drew)); exact Kd.R_mono HO299.out (fun _ hk => trivial)⟩, ⟨by repeat (first | (with_reducible first | exact HB.out | apply below_alloc | apply pw_below_drewN | apply below_drew1 | refine below_set ?_ GE262.out | refine below_set ?_ GE265.out) | exact HB.out)⟩⟩
                                    · rw [if_neg c46] at H
                                      exact absurd H (by simp)
                                  · rw [if_neg c43] at H
                                    exact absurd H (by simp)
                                · rw [if_neg c41] at H
                                  exact absurd H (by simp)
                              · rw [if_neg c40] at H
                                exact absurd H (by simp)
                            · rw [if_neg c39] at H
                              have c39b0 : decide ((wrap64 (((rd_T47 l0 x13_1).f0) * ((rd_T47 l0 (rd x5_1 (ji10))).f1))) ≤ (wrap64 (((rd_T47 l0 (rd x5_1 (ji10))).f0) * ((rd_T47 l0 x13_1).f1)))) = false := decide_eq_false c39
                              clear c39
                              have H' := Aside0.mk H
                              clear H
                              have p263 : 0 ≤ ((ji10) : Int) := of_decide_eq_true (by first | (with_reducible assumption) | assumption)
                              have q263 : (ji10) < (x5_1.length : Int) := of_decide_eq_true (by first | (with_reducible assumption) | assumption)
                              obtain ⟨ad263, e263, hx263_0⟩ := Kd.at_int (Kd.R_reads' HO_5.out).2.2 (ji10) p263 q263
                              cases e263
                              replace p263 := eq_true p263
                              replace q263 := eq_true q263
                              have p264 : 0 ≤ ((rd x5_1 (ji10)) : Int) := of_decide_eq_true (by first | (with_reducible assumption) | assumption)
                              have q264 : (rd x5_1 (ji10)) < (l0.length : Int) := of_decide_eq_true (by first | (with_reducible assumption) | assumption)
                              obtain ⟨ad264, e264, hx264_0, hx264_1⟩ := at_T47 HR0.out (rd x5_1 (ji10)) p264 q264
                              obtain rfl : ad261 = ad264 := (by injection e264)
                              replace hx264_0 := (HB.out.cell (World.block_lt_of_cell? w _ hx264_0)).trans hx264_0
                              replace hx264_1 := (HB.out.cell (World.block_lt_of_cell? w _ hx264_1)).trans hx264_1
                              replace p264 := eq_true p264
                              replace q264 := eq_true q264
                              go_wp2_with (first | ((with_reducible refine gate_dst (N := 9) rfl ?_); refine box_event ?hg (N := 9) ?hd (cs := #[.int .i64 0, .int .i64 0]) (t := 47) ?hr ?_; (case hd => rfl); (case hg => rfl); (case hr => first | (go_simp; done) | (go_simp; rfl)); intro gb265 hg w58 hbox hb; have n0_ := Aside0.mk (Kd.R_below (by (with_reducible repeat (first | apply Kd.R_alloc | apply Kd.R_drewN | apply Kd.R_drew)); exact HO_5.out) hb); have n1_ := Aside0.mk (blk_below (g := gb262) (o := .cells #[.int .i64 ((rd_T47 l0 x13_1).f0), .int .i64 ((rd_T47 l0 x13_1).f1)] 47 (0, 0)) (by (with_reducible repeat (first | refine blk_drewN ?_ _ | refine blk_drew ?_ | refine blk_alloc ?_ _)); exact BK262.out) hb); have n2_ := Aside0.mk (below_step (by repeat (first | (with_reducible first | exact HB.out | apply below_alloc | apply pw_below_drewN | apply below_drew1 | refine below_set ?_ GE262.out) | exact HB.out)) hb); have n3_ := Aside0.mk (hbox); have n4_ := Aside0.mk ((by rw [hg]; exact (below_size (by repeat (first | (with_reducible first | exact HB.out | apply below_alloc | apply pw_below_drewN | apply below_drew1 | refine below_set ?_ GE262.out) | exact HB.out))) : w.heap.size ≤ gb265)); have n5_ := Aside0.mk ((by rw [hg]; exact (below_size (by repeat (first | (with_reducible first | exact HB.out | apply below_alloc | apply pw_below_drewN | apply below_drew1 | refine below_set ?_ GE262.out) | exact HB.out))) : w.heap.size ≤ gb265)); have n6_ := Aside0.mk ((by rw [hg]; exact Nat.ne_of_lt (blk_lt (g := gb262) (o := .cells #[.int .i64 ((rd_T47 l0 x13_1).f0), .int .i64 ((rd_T47 l0 x13_1).f1)] 47 (0, 0)) (by (with_reducible repeat (first | refine blk_drewN ?_ _ | refine blk_drew ?_ | refine blk_alloc ?_ _)); exact BK262.out)) : gb262 ≠ gb265)); have n7_ := Aside0.mk ((by rw [hg]; exact Nat.ne_of_gt (blk_lt (g := gb262) (o := .cells #[.int .i64 ((rd_T47 l0 x13_1).f0), .int .i64 ((rd_T47 l0 x13_1).f1)] 47 (0, 0)) (by (with_reducible repeat (first | refine blk_drewN ?_ _ | refine blk_drew ?_ | refine blk_alloc ?_ _)); exact BK262.out)) : gb265 ≠ gb262)); clear HO_5; clear BK262; clear HB; have HO_5 := n0_; have BK262 := n1_; have HB := n2_; have BK265 := n3_; have GW265 := n4_; have GE265 := n5_; have NB262_265 := n6_; have NB265_262 := n7_; clear n0_ n1_ n2_ n3_ n4_ n5_ n6_ n7_; clear hb hbox hg; have hnb59 := NB265_262.out; have hnc59 := NB262_265.out; have hcz60_0 : w58.cell? ⟨gb265, 0, none⟩ = some (.int .i64 0) := (blk_cell BK265.out 0).trans rfl; have hcz60_1 : w58.cell? ⟨gb265, 1, none⟩ = some (.int .i64 0) := (blk_cell BK265.out 1).trans rfl; have hfz60_0 := blk_frozen BK265.out 0; have hfz60_1 := blk_frozen BK265.out 1; have hcz61_0 : w58.cell? ⟨gb262, 0, none⟩ = some (.int .i64 ((rd_T47 l0 x13_1).f0)) := (blk_cell BK262.out 0).trans rfl; have hcz61_1 : w58.cell? ⟨gb262, 1, none⟩ = some (.int .i64 ((rd_T47 l0 x13_1).f1)) := (blk_cell BK262.out 1).trans rfl; have hfz61_0 := blk_frozen BK262.out 0; have hfz61_1 := blk_frozen BK262.out 1))
                              go_roundg k2
                              case measure => have := HK1.out; have := HK2.out; omega
                              case rel => exact ⟨(ji10), (by first | rfl | (simp; done) | (simp only [← hji10] <;> (first | rfl | simp)) | (simp [*]; done)), H', ⟨by have := HK1.out; have := HK2.out; omega⟩, ⟨by (with_reducible repeat (first | apply Kd.R_alloc | apply Kd.R_drewN | apply Kd.R_drew)); exact Kd.R_mono (Kd.R_far (p := ⟨gb265, 1, none⟩) (Kd.R_far (p := ⟨gb265, 0, none⟩) (Kd.R_types HO_5.out BK265.out (by decide)) (fun _ hk => hk.2) (.int .i64 ((rd_T47 l0 (rd x5_1 (ji10))).f0))) (fun _ hk => hk.2) (.int .i64 ((rd_T47 l0 (rd x5_1 (ji10))).f1))) (fun _ hk => trivial)⟩, ⟨by (with_reducible repeat (first | refine blk_drewN ?_ _ | refine blk_drew ?_ | refine blk_alloc ?_ _)); refine blk_far ?_ NB262_265.out _; (with_reducible repeat (first | refine blk_drewN ?_ _ | refine blk_drew ?_ | refine blk_alloc ?_ _)); refine blk_far ?_ NB262_265.out _; (with_reducible repeat (first | refine blk_drewN ?_ _ | refine blk_drew ?_ | refine blk_alloc ?_ _)); exact BK262.out⟩, ⟨by repeat (first | (with_reducible first | exact HB.out | apply below_alloc | apply pw_below_drewN | apply below_drew1 | refine below_set ?_ GE262.out | refine below_set ?_ GE265.out) | exact HB.out)⟩⟩
                        · rw [if_neg c14] at H
                          exact absurd H (by simp)
                      · rw [if_neg c13] at H
                        exact absurd H (by simp)
                    · rw [if_neg c12] at H
                      exact absurd H (by simp)
                  · rw [if_neg c11] at H
                    exact absurd H (by simp)
                · rw [if_neg c9] at H
                  have c9b0 : decide (0 < x8_2) = false := decide_eq_false c9
                  clear c9
                  by_cases c62 : 0 ≤ x8_2
                  · rw [if_pos c62] at H
                    have c62b0 := eq_true c62
                    have c62b1 : decide (0 ≤ x8_2) = true := decide_eq_true c62
                    clear c62
                    by_cases c63 : x8_2 ≤ (x5_1.length : Int)
                    · rw [if_pos c63] at H
                      have c63b0 := eq_true c63
                      have c63b1 : decide (x8_2 ≤ (x5_1.length : Int)) = true := decide_eq_true c63
                      clear c63
                      obtain ⟨y300, hy300⟩ : ∃ y_ : List Int, y_ = (x5_1.take (x8_2 : Int).toNat) := ⟨_, rfl⟩
                      replace H : ((spec_l1Own.f y300).bind fun t304 => (if t304.length < 17592186044416 then ((some (t304 ++ [x13_1] : List Int)).bind fun y307 => ((some (x5_1.drop (x8_2 : Int).toNat : List Int)).bind fun y310 => (if y307.length + y310.length < 17592186044416 then (spec_dwSort.l0 k2 l0 a1 (y307 ++ y310) l0 (l0.length : Int) (wrap64 (x13_1 + 1))) else (none)))) else (none))) = some r := by first | (rw [hy300]; with_reducible exact H) | (have H2_ := (Option.bind_some _ _).symm.trans H; rw [hy300]; with_reducible exact H2_) | (have H2_ := (Option.bind_some _ _).symm.trans H; with_reducible exact H2_) | with_reducible exact H | (rw [hy300]; exact H) | exact H
                      have Ny300 := Aside0.mk hy300
                      clear hy300
                      replace H := Option.bind_eq_some_iff.mp H
                      obtain ⟨t304, A640, H⟩ := H
                      replace H : (if t304.length < 17592186044416 then ((some (t304 ++ [x13_1] : List Int)).bind fun y307 => ((some (x5_1.drop (x8_2 : Int).toNat : List Int)).bind fun y310 => (if y307.length + y310.length < 17592186044416 then (spec_dwSort.l0 k2 l0 a1 (y307 ++ y310) l0 (l0.length : Int) (wrap64 (x13_1 + 1))) else (none)))) else (none)) = some r := H
                      have A64 := Aside0.mk A640
                      clear A640
                      by_cases c65 : t304.length < 17592186044416
                      · rw [if_pos c65] at H
                        have LMc65 := Aside0.mk c65
                        clear c65
                        obtain ⟨y307, hy307⟩ : ∃ y_ : List Int, y_ = (t304 ++ [x13_1]) := ⟨_, rfl⟩
                        replace H : ((some (x5_1.drop (x8_2 : Int).toNat : List Int)).bind fun y310 => (if y307.length + y310.length < 17592186044416 then (spec_dwSort.l0 k2 l0 a1 (y307 ++ y310) l0 (l0.length : Int) (wrap64 (x13_1 + 1))) else (none))) = some r := by first | (rw [hy307]; with_reducible exact H) | (have H2_ := (Option.bind_some _ _).symm.trans H; rw [hy307]; with_reducible exact H2_) | (have H2_ := (Option.bind_some _ _).symm.trans H; with_reducible exact H2_) | with_reducible exact H | (rw [hy307]; exact H) | exact H
                        have Ny307 := Aside0.mk hy307
                        clear hy307
                        have c66b0 := eq_true (of_decide_eq_true (by first | (with_reducible assumption) | assumption) : 0 ≤ x8_2)
                        have c67b0 := eq_true (of_decide_eq_true (by first | (with_reducible assumption) | assumption) : x8_2 ≤ (x5_1.length : Int))
                        obtain ⟨y310, hy310⟩ : ∃ y_ : List Int, y_ = (x5_1.drop (x8_2 : Int).toNat) := ⟨_, rfl⟩
                        replace H : (if y307.length + y310.length < 17592186044416 then (spec_dwSort.l0 k2 l0 a1 (y307 ++ y310) l0 (l0.length : Int) (wrap64 (x13_1 + 1))) else (none)) = some r := by first | (rw [hy310]; with_reducible exact H) | (have H2_ := (Option.bind_some _ _).symm.trans H; rw [hy310]; with_reducible exact H2_) | (have H2_ := (Option.bind_some _ _).symm.trans H; with_reducible exact H2_) | with_reducible exact H | (rw [hy310]; exact H) | exact H
                        have Ny310 := Aside0.mk hy310
                        clear hy310
                        by_cases c68 : y307.length + y310.length < 17592186044416
                        · rw [if_pos c68] at H
                          have LMc68 := Aside0.mk c68
                          clear c68
                          obtain ⟨y314, hy314⟩ : ∃ y_ : List Int, y_ = (y307 ++ y310) := ⟨_, rfl⟩
                          replace H : (spec_dwSort.l0 k2 l0 a1 y314 l0 (l0.length : Int) (wrap64 (x13_1 + 1))) = some r := by first | (rw [hy314]; with_reducible exact H) | (have H2_ := (Option.bind_some _ _).symm.trans H; rw [hy314]; with_reducible exact H2_) | (have H2_ := (Option.bind_some _ _).symm.trans H; with_reducible exact H2_) | with_reducible exact H | (rw [hy314]; exact H) | exact H
                          have Ny314 := Aside0.mk hy314
                          clear hy314
                          have H' := Aside0.mk H
                          clear H
                          have q69 : (x8_2 : Int) ≤ ((x5_1.length : Int) : Int) := of_decide_eq_true (by first | (with_reducible assumption) | assumption)
                          obtain ⟨i069, hi069, _, hsz69, _⟩ := info_parts info3
                          have hroom69 : x5_1.length ≤ co8 := (Kd.R_reads' HO_5.out).2.1
                          have hC69 : Kd.C (Kd.int .i64) _ Ao8 x5_1.length x5_1 := (Kd.R_reads' HO_5.out).2.2
                          have hcut69 := cut_to (P := Try.prog) 30 3 .i64 Try.underlying30 hi069 Ao8 x5_1.length co8 x8_2 (of_decide_eq_true (by first | (with_reducible assumption) | assumption)) q69 hroom69
                          have hr69 := Kd.C_take (m := (x8_2 : Int).toNat) hC69 (by omega)
                          have hy69 : y300.length = (x8_2 : Int).toNat := (by rw [Ny300.out, List.length_take]; omega)
                          rw [← Ny300.out] at hr69
                          rw [← hy69] at hcut69
                          have HR303 := Aside0.mk hr69
                          have HC303 := Aside0.mk (show y300.length ≤ co8 from by omega)
                          clear hr69 hC69 hroom69 hi069 hsz69
                          have KY69 := Aside0.mk hy69
                          clear hy69
                          have KL69 := Aside0.mk (show (x8_2 : Int).toNat ≤ x5_1.length from by omega)
                          replace q69 := eq_true q69
                          go_wp2_with (first | ((with_reducible refine gate_callee (f := 52) rfl ?_); refine goesL_ (some 60) rfl rfl Try.func52 (by kernel_rfl) rfl #[.slice Ao8 y300.length co8] rfl (by (try simp only [List.map_toArray, List.map_cons, List.map_nil]); first | done | rfl | (simp only [List.length_drop, List.length_take]; rfl)) ?_; (with_reducible refine (spec_l1Own.calls _ _ y300 t304 _ ?side1 ?side2 A64.out).mono ?_); (case side1 => repeat (first | exact (by repeat (first | (with_reducible exact HR303.out) | (with_reducible refine Kd.C_alloc ?_ _) | (with_reducible refine Kd.C_drewN ?_ _) | (with_reducible refine Kd.C_drew ?_) | exact HR303.out)) | (with_reducible refine Kd.C_alloc ?_ _) | (with_reducible refine Kd.C_drewN ?_ _) | (with_reducible refine Kd.C_drew ?_))); (case side2 => exact HC303.out); rintro e w70 ⟨v305, rfl, ho0, hb⟩; refine ⟨_, rfl, ?_⟩; have n0_ := Aside0.mk (Kd.R_elder' (by (with_reducible repeat (first | apply Kd.R_alloc | apply Kd.R_drewN | apply Kd.R_drew)); exact HO_5.out) (Kd.R_base ho0) hb); have n1_ := Aside0.mk (Kd.R_lower (Kd.R_new' ho0 (Kd.R_lt (by (with_reducible repeat (first | apply Kd.R_alloc | apply Kd.R_drewN | apply Kd.R_drew)); exact HO_5.out))) (below_size (by repeat (first | (with_reducible first | exact HB.out | apply below_alloc | apply pw_below_drewN | apply below_drew1 | refine below_set ?_ GE262.out) | exact HB.out)))); have n2_ := Aside0.mk (blk_below (g := gb262) (o := .cells #[.int .i64 ((rd_T47 l0 x13_1).f0), .int .i64 ((rd_T47 l0 x13_1).f1)] 47 (0, 0)) (by (with_reducible repeat (first | refine blk_drewN ?_ _ | refine blk_drew ?_ | refine blk_alloc ?_ _)); exact BK262.out) hb); have n3_ := Aside0.mk (Kd.C_below (by repeat (first | (with_reducible exact HR303.out) | (with_reducible refine Kd.C_alloc ?_ _) | (with_reducible refine Kd.C_drewN ?_ _) | (with_reducible refine Kd.C_drew ?_) | exact HR303.out)) hb); have n4_ := Aside0.mk (below_step (by repeat (first | (with_reducible first | exact HB.out | apply below_alloc | apply pw_below_drewN | apply below_drew1 | refine below_set ?_ GE262.out) | exact HB.out)) hb); clear HO_5; clear BK262; clear HR303; clear HB; have HO_5 := n0_; have HO306 := n1_; have BK262 := n2_; have HR303 := n3_; have HB := n4_; clear n0_ n1_ n2_ n3_ n4_; (try clear hb); (try clear hb2); (try clear hk); (try clear hi); (try clear ho0)) | ((with_reducible refine gate_builtin (b := .append) (xs := #[.tmp 60, .tmp 62]) rfl ?_); at_builtin; refine Kd.R_append (Kd.int .i64) (w0 := w) w.heap.size rfl (.tmp 60) (.tmp 62) 30 3 (.int .i64 0) 8 rfl Try.underlying30 info3 rfl (by decide) (by omega) v305 t304 x13_1 [.int .i64 x13_1] (fun k_ => some k_ ≠ (.slice Ao8 x5_1.length co8 : Value).ownBlock) (fun _ => False) rfl rfl ?aP (fun _ hk => hk.elim) ?aF ?aO ?aB ?aS ?aL ?_; (case aP => exact rfl); (case aB => exact (by repeat (first | (with_reducible first | exact HB.out | apply below_alloc | apply pw_below_drewN | apply below_drew1 | refine below_set ?_ GE262.out) | exact HB.out))); (case aF => exact (fun k_ hk => Kd.fresh' (Kd.R_lt (by (with_reducible repeat (first | apply Kd.R_alloc | apply Kd.R_drewN | apply Kd.R_drew)); exact HO_5.out)) k_ hk)); (case aO => exact (by (with_reducible repeat (first | apply Kd.R_alloc | apply Kd.R_drewN | apply Kd.R_drew)); exact Kd.R_mono HO306.out (fun _ hk => hk.2))); (case aS => exact (below_size (by repeat (first | (with_reducible first | exact HB.out | apply below_alloc | apply pw_below_drewN | apply below_drew1 | refine below_set ?_ GE262.out) | exact HB.out)))); (case aL => have := LMc65.out; omega); intro v308 w71 ho hb hg hat; rw [← Ny307.out] at ho; have n0_ := Aside0.mk (Kd.R_after (ok := (fun _ => True)) (by (with_reducible repeat (first | apply Kd.R_alloc | apply Kd.R_drewN | apply Kd.R_drew)); exact HO_5.out) hg hat); have n1_ := Aside0.mk (blk_grown (g := gb262) (o := .cells #[.int .i64 ((rd_T47 l0 x13_1).f0), .int .i64 ((rd_T47 l0 x13_1).f1)] 47 (0, 0)) (by (with_reducible repeat (first | refine blk_drewN ?_ _ | refine blk_drew ?_ | refine blk_alloc ?_ _)); exact BK262.out) hg (Kd.R_ne HO306.out BK262.out (by decide))); have n2_ := Aside0.mk (hb); have n3_ := Aside0.mk ((show Kd.C (Kd.int .i64) w71 Ao8 y300.length y300 from by rw [Ny300.out]; exact Kd.C_take (m := (x8_2 : Int).toNat) ((Kd.R_reads' (Kd.R_after (ok := (fun _ => True)) (by (with_reducible repeat (first | apply Kd.R_alloc | apply Kd.R_drewN | apply Kd.R_drew)); exact HO_5.out) hg hat)).2.2) KL69.out)); have n4_ := Aside0.mk (ho); clear HO_5; clear BK262; clear HB; clear HR303; clear HO306; have HO_5 := n0_; have BK262 := n1_; have HB := n2_; have HR303 := n3_; have HO309 := n4_; clear n0_ n1_ n2_ n3_ n4_; clear ho hb hg hat; have q72 : (x8_2 : Int) ≤ ((x5_1.length : Int) : Int) := of_decide_eq_true (by first | (with_reducible assumption) | assumption); obtain ⟨i072, hi072, _, hsz72, _⟩ := info_parts info3; have hroom72 : x5_1.length ≤ co8 := (Kd.R_reads' HO_5.out).2.1; have hC72 : Kd.C (Kd.int .i64) _ Ao8 x5_1.length x5_1 := (Kd.R_reads' HO_5.out).2.2; have q072 : (0 : Int) ≤ (x8_2 : Int) := of_decide_eq_true (by first | (with_reducible assumption) | assumption); have hcut72 := cut_from (P := Try.prog) 30 3 .i64 Try.underlying30 hi072 1 hsz72 Ao8 x5_1.length co8 x8_2 q072 q72; have hr72 := Kd.C_drop (m := (x8_2 : Int).toNat) (c := co8) hC72 (by omega) hroom72; obtain ⟨A72, hA72⟩ : ∃ A1, A1 = (if co8 = (x8_2 : Int).toNat then Ao8 else (Ao8 : Option Addr).map (·.add ((x8_2 : Int).toNat * 1))) := ⟨_, rfl⟩; obtain ⟨c72, hc72⟩ : ∃ c1, c1 = co8 - (x8_2 : Int).toNat := ⟨_, rfl⟩; have hy72 : y310.length = x5_1.length - (x8_2 : Int).toNat := (by rw [Ny310.out, List.length_drop] <;> omega); rw [show (x5_1).drop (x8_2 : Int).toNat = y310 from Ny310.out.symm] at hr72; replace hr72 : Kd.C (Kd.int .i64) _ A72 y310.length y310 := (by rw [hA72]; exact hr72); rw [← hy72, ← hA72, ← hc72] at hcut72; have HR313 := Aside0.mk hr72; have HC313 := Aside0.mk (show y310.length ≤ c72 from by rw [hy72, hc72]; exact Nat.sub_le_sub_right hroom72 _); clear hr72 hC72 hroom72 hi072 hsz72 hc72; have KY72 := Aside0.mk hy72; have KA72 := Aside0.mk hA72; clear hy72 hA72; have KL72 := Aside0.mk (show (x8_2 : Int).toNat ≤ x5_1.length from by omega); replace q72 := eq_true q72) | ((with_reducible refine gate_builtin (b := .append) (xs := #[.tmp 64, .tmp 67]) rfl ?_); at_builtin; refine Kd.R_append_rows (Kd.int .i64) (w0 := w) w.heap.size rfl (.tmp 64) (.tmp 67) 30 3 (.int .i64 0) 8 rfl Try.underlying30 info3 rfl (by decide) (by omega) v308 y307 y310 _ _ _ (fun k_ => some k_ ≠ (.slice Ao8 x5_1.length co8 : Value).ownBlock) (fun _ => False) rfl rfl ?aO ?aR (fun _ _ h => h) (fun _ h => h.elim) ?aF ?aB ?aS ?aL ?_; (case aR => repeat (first | exact (by repeat (first | (with_reducible exact HR313.out) | (with_reducible refine Kd.C_alloc ?_ _) | (with_reducible refine Kd.C_drewN ?_ _) | (with_reducible refine Kd.C_drew ?_) | exact HR313.out)) | (with_reducible refine Kd.C_alloc ?_ _) | (with_reducible refine Kd.C_drewN ?_ _) | (with_reducible refine Kd.C_drew ?_))); (case aB => exact (by repeat (first | (with_reducible first | exact HB.out | apply below_alloc | apply pw_below_drewN | apply below_drew1 | refine below_set ?_ GE262.out) | exact HB.out))); (case aF => exact (fun k_ hk => Kd.fresh' (Kd.R_lt (by (with_reducible repeat (first | apply Kd.R_alloc | apply Kd.R_drewN | apply Kd.R_drew)); exact HO_5.out)) k_ hk)); (case aO => exact (by (with_reducible repeat (first | apply Kd.R_alloc | apply Kd.R_drewN | apply Kd.R_drew)); exact HO309.out)); (case aS => exact (below_size (by repeat (first | (with_reducible first | exact HB.out | apply below_alloc | apply pw_below_drewN | apply below_drew1 | refine below_set ?_ GE262.out) | exact HB.out)))); (case aL => have := LMc68.out; omega); intro v315 w73 ho hb hg hat; rw [← Ny314.out] at ho; have n0_ := Aside0.mk (Kd.R_after (ok := (fun _ => True)) (by (with_reducible repeat (first | apply Kd.R_alloc | apply Kd.R_drewN | apply Kd.R_drew)); exact HO_5.out) hg hat); have n1_ := Aside0.mk (blk_grown (g := gb262) (o := .cells #[.int .i64 ((rd_T47 l0 x13_1).f0), .int .i64 ((rd_T47 l0 x13_1).f1)] 47 (0, 0)) (by (with_reducible repeat (first | refine blk_drewN ?_ _ | refine blk_drew ?_ | refine blk_alloc ?_ _)); exact BK262.out) hg (Kd.R_ne HO309.out BK262.out (by decide))); have n2_ := Aside0.mk (hb); have n3_ := Aside0.mk ((show Kd.C (Kd.int .i64) w73 Ao8 y300.length y300 from by rw [Ny300.out]; exact Kd.C_take (m := (x8_2 : Int).toNat) ((Kd.R_reads' (Kd.R_after (ok := (fun _ => True)) (by (with_reducible repeat (first | apply Kd.R_alloc | apply Kd.R_drewN | apply Kd.R_drew)); exact HO_5.out) hg hat)).2.2) KL69.out)); have n4_ := Aside0.mk ((show Kd.C (Kd.int .i64) w73 A72 y310.length y310 from by rw [Ny310.out, KA72.out]; exact Kd.C_drop (m := (x8_2 : Int).toNat) (c := co8) ((Kd.R_reads' (Kd.R_after (ok := (fun _ => True)) (by (with_reducible repeat (first | apply Kd.R_alloc | apply Kd.R_drewN | apply Kd.R_drew)); exact HO_5.out) hg hat)).2.2) KL72.out ((Kd.R_reads' (Kd.R_after (ok := (fun _ => True)) (by (with_reducible repeat (first | apply Kd.R_alloc | apply Kd.R_drewN | apply Kd.R_drew)); exact HO_5.out) hg hat)).2.1))); have n5_ := Aside0.mk (ho); clear HO_5; clear BK262; clear HB; clear HR303; clear HR313; clear HO309; have HO_5 := n0_; have BK262 := n1_; have HB := n2_; have HR303 := n3_; have HR313 := n4_; have HO316 := n5_; clear n0_ n1_ n2_ n3_ n4_ n5_; clear ho hb hg hat))
                          go_roundg k2
                          case measure => have := HK1.out; have := HK2.out; omega
                          case rel => exact ⟨(y314), (wrap64 (x13_1 + 1)), (by first | rfl | (simp; done) | (simp [*]; done)), H', ⟨by have := HK1.out; have := HK2.out; omega⟩, ⟨by (with_reducible repeat (first | apply Kd.R_alloc | apply Kd.R_drewN | apply Kd.R_drew)); exact Kd.R_mono HO316.out (fun _ hk => trivial)⟩, ⟨by repeat (first | (with_reducible first | exact HB.out | apply below_alloc | apply pw_below_drewN | apply below_drew1 | refine below_set ?_ GE262.out) | exact HB.out)⟩⟩
                        · rw [if_neg c68] at H
                          exact absurd H (by simp)
                      · rw [if_neg c65] at H
                        exact absurd H (by simp)
                    · rw [if_neg c63] at H
                      exact absurd H (by simp)
                  · rw [if_neg c62] at H
                    exact absurd H (by simp)
          · rw [if_neg c5] at H
            exact absurd H (by simp)
        · rw [if_neg c4] at H
          exact absurd H (by simp)
      · rw [if_neg c3] at H
        have c3b0 : decide (x13_1 < (l0.length : Int)) = false := decide_eq_false c3
        clear c3
        obtain rfl := Option.some.inj H
        go_wp2
        go_ret
        exact ⟨_, by first | rfl | (simp [errW_none, errW_some] <;> rfl) | (simp [*, errW_none, errW_some] <;> rfl), by (with_reducible repeat (first | apply Kd.R_alloc | apply Kd.R_drewN | apply Kd.R_drew)); exact HO_5.out, by repeat (first | (with_reducible first | exact HB.out | apply below_alloc | apply pw_below_drewN | apply below_drew1) | exact HB.out)⟩

end Go.Proofs.Ytenbnempjgbibaa.X

/- ==== XspecdwFound ==== -/
namespace Go.Proofs.Ytenbnempjgbibaa.X
open Go.RowKit Go.Proofs.YtenbnempjgbibaaW.PrintWords Go.Proofs.YtenbnempjgbibaaW.PrintLast Go.Proofs.YtenbnempjgbibaaW.PrintMore
attribute [local go_sem] max2_int min2_int max_two min_two max_three min_three max_four min_four   -- for this text's walks alone
set_option linter.unusedVariables false
set_option linter.unusedSimpArgs false

/-! ### spec_dwFound: function 59 -/
def spec_dwFound.l0 : Nat → List (S47) → List Int → Int → List Int → Int → Int → Option (List Int)
  | 0, _, _, _, _, _, _ => none
  | k + 1, x0, x5, x6, x12, x13, x14 => if x14 < x13 then (if 0 ≤ x14 then (if x14 < (x12.length : Int) then (if 0 ≤ (rd x12 x14) then (if (rd x12 x14) < (x0.length : Int) then (if (rd x12 x14) < (x5.length : Int) then (spec_dwFound.l0 k x0 (x5.set ((rd x12 x14) : Int).toNat (wrap64 (x6 + ((rd_T47 x0 (rd x12 x14)).f1)))) (wrap64 (x6 + ((rd_T47 x0 (rd x12 x14)).f1))) x12 x13 (wrap64 (x14 + 1))) else (none)) else (none)) else (none)) else (none)) else (none)) else (some x5)
def spec_dwFound.f (k : Nat) (l0 : List (S47)) (l1 : List Int) : Option (List Int) := if 0 ≤ (l0.length : Int) then (if ((l0.length : Int) : Int).toNat ≤ 35184372088832 then (spec_dwFound.l0 k l0 (List.replicate ((l0.length : Int) : Int).toNat 0) 0 l1 (l1.length : Int) 0) else (none)) else (none)
theorem spec_dwFound.mono_l : ∀ k, (∀ y0 y1 y2 y3 y4 y5, LeO (spec_dwFound.l0 k y0 y1 y2 y3 y4 y5) (spec_dwFound.l0 (k + 1) y0 y1 y2 y3 y4 y5))
  | 0 => fun _ _ _ _ _ _ r h => by simp [spec_dwFound.l0] at h
  | k + 1 => by
    have ih0 := spec_dwFound.mono_l k
    · intro y0 y1 y2 y3 y4 y5
      unfold spec_dwFound.l0
      repeat' first
      | (with_reducible exact ih0 _ _ _ _ _ _)
      | (with_reducible exact LeO.refl _)
      | (with_reducible exact LeO.none _)
      | (with_reducible refine LeO.ite ?_ ?_)
      | (with_reducible refine LeO.bind ?_ (fun _ => ?_))
      | exact ih0 _ _ _ _ _ _
      | exact LeO.none _
      | refine LeO.ite ?_ ?_
      | refine LeO.bind ?_ (fun _ => ?_)
theorem spec_dwFound.mono : ∀ a0 a1 k, LeO (spec_dwFound.f k a0 a1) (spec_dwFound.f (k + 1) a0 a1) := by
  intro a0 a1 k
  have ih0 := spec_dwFound.mono_l k
  unfold spec_dwFound.f
  repeat' first
      | (with_reducible exact ih0 _ _ _ _ _ _)
      | (with_reducible exact LeO.refl _)
      | (with_reducible exact LeO.none _)
      | (with_reducible refine LeO.ite ?_ ?_)
      | (with_reducible refine LeO.bind ?_ (fun _ => ?_))
      | exact ih0 _ _ _ _ _ _
      | exact LeO.none _
      | refine LeO.ite ?_ ?_
      | refine LeO.bind ?_ (fun _ => ?_)
set_option maxHeartbeats 8000000 in
set_option maxRecDepth 100000 in
theorem spec_dwFound.calls (k : Nat) (A0 : Option Addr) (c0 : Nat) (l0 : List (S47)) (A1 : Option Addr) (c1 : Nat) (l1 : List Int) (r : List Int) (w : World) (hr0 : Kd.C k47 w A0 l0.length l0) (hc0 : l0.length ≤ c0) (hr1 : Kd.C (Kd.int .i64) w A1 l1.length l1) (hc1 : l1.length ≤ c1) (h : spec_dwFound.f k l0 l1 = some r) :
    Calls Try.prog 59 #[.slice A0 l0.length c0, .slice A1 l1.length c1] w fun e w' => ∃ v0_ : Value, e = .returned (v0_) ∧ Kd.R (Kd.int .i64) 3 w' w.heap.size (fun _ => True) v0_ r ∧ Below w.heap.size w w' := by
  have HR0 := Aside0.mk hr0
  have HC0 := Aside0.mk hc0
  clear hr0 hc0
  have HR1 := Aside0.mk hr1
  have HC1 := Aside0.mk hc1
  clear hr1 hc1
  have HB := Aside0.mk (Below.refl w.heap.size w)
  have H : (if 0 ≤ (l0.length : Int) then (if ((l0.length : Int) : Int).toNat ≤ 35184372088832 then (spec_dwFound.l0 k l0 (List.replicate ((l0.length : Int) : Int).toNat 0) 0 l1 (l1.length : Int) 0) else (none)) else (none)) = some r := h
  clear h
  by_cases c3 : 0 ≤ (l0.length : Int)
  · rw [if_pos c3] at H
    have c3b0 := eq_true c3
    have c3b1 : decide (0 ≤ (l0.length : Int)) = true := decide_eq_true c3
    clear c3
    by_cases c4 : ((l0.length : Int) : Int).toNat ≤ 35184372088832
    · rw [if_pos c4] at H
      have c4b0 := eq_true c4
      have c4b1 : decide (((l0.length : Int) : Int).toNat ≤ 35184372088832) = true := decide_eq_true c4
      clear c4
      obtain ⟨y429, hy429⟩ : ∃ y_ : List Int, y_ = (List.replicate ((l0.length : Int) : Int).toNat 0) := ⟨_, rfl⟩
      replace H : (spec_dwFound.l0 k l0 y429 0 l1 (l1.length : Int) 0) = some r := by first | (rw [hy429]; with_reducible exact H) | (have H2_ := (Option.bind_some _ _).symm.trans H; rw [hy429]; with_reducible exact H2_) | (have H2_ := (Option.bind_some _ _).symm.trans H; with_reducible exact H2_) | with_reducible exact H | (rw [hy429]; exact H) | exact H
      have Ny429 := Aside0.mk hy429
      clear hy429
      have H' := Aside0.mk H
      clear H
      go_enter Try.func59, Try.ntmps59
      go_wp2_with (first | ((with_reducible refine gate_dst (N := 11) rfl ?_); refine Kd.R_make (Kd.int .i64) _ 3 rfl (N := 11) rfl 30 _ _ rfl (l0.length : Int) rfl rfl Try.underlying30 (.int .i64 0) 8 info3 rfl (by decide) (by omega) 0 (ok := fun _ => True) (okp := fun _ => True) rfl (fun _ hk => hk) trivial (of_decide_eq_true (by first | (with_reducible assumption) | assumption)) (Nat.le_trans (Nat.mul_le_mul_right _ (of_decide_eq_true (by first | (with_reducible assumption) | assumption) : (l0.length : Int).toNat ≤ 35184372088832)) (by omega)) (Below.refl _ _) (Nat.le_refl _) ?_; intro v430 w5 ho6 hb hg_ hnew_; clear hg_ hnew_; (first | rw [← Ny429.out] at ho6 | (simp only [Int.reduceToNat] at ho6; rw [← Ny429.out] at ho6)); have n0_ := Aside0.mk (Kd.R_lower ho6 (below_size (by repeat (first | (with_reducible first | exact HB.out | apply below_alloc | apply pw_below_drewN | apply below_drew1) | exact HB.out)))); have n1_ := Aside0.mk (below_step (by repeat (first | (with_reducible first | exact HB.out | apply below_alloc | apply pw_below_drewN | apply below_drew1) | exact HB.out)) hb); clear HB; have HO431 := n0_; have HB := n1_; clear n0_ n1_; clear hb ho6))
      go_loopg [6, 14] k (fun kq v6 v14 w' => ∃ (x5_1 : List Int) (x6_1 : Int) (x14_1 : Int), v6 = .int .i64 x6_1 ∧ v14 = .int .i64 x14_1 ∧ Aside0 (spec_dwFound.l0 kq l0 x5_1 x6_1 l1 (l1.length : Int) x14_1 = some r) ∧ Aside0 (kq ≤ k) ∧ Aside0 (Kd.R (Kd.int .i64) 3 w' w.heap.size (fun _ => True) v430 x5_1) ∧ Aside0 (Below w.heap.size w w'))
      case atStart => exact ⟨(y429), (0), (0), (by first | rfl | (simp; done) | (simp [*]; done)), (by first | rfl | (simp; done) | (simp [*]; done)), H', ⟨Nat.le_refl _⟩, ⟨by (with_reducible repeat (first | apply Kd.R_alloc | apply Kd.R_drewN | apply Kd.R_drew)); exact HO431.out⟩, ⟨by repeat (first | (with_reducible first | exact HB.out | apply below_alloc | apply pw_below_drewN | apply below_drew1) | exact HB.out)⟩⟩
      case round =>
        clear H'
        try clear c1
        try clear p2
        try clear c3
        try clear c3b0
        try clear c3b1
        try clear c4
        try clear c4b0
        try clear c4b1
        try clear c5
        obtain ⟨x5_1, x6_1, x14_1, rfl, rfl, HA, HK1, HO_5, HB⟩ := hrel
        cases gk with
        | zero => exact absurd HA.out (by simp [spec_dwFound.l0])
        | succ k1 =>
          have H := HA.out
          clear HA
          simp only [spec_dwFound.l0] at H
          by_cases c7 : x14_1 < (l1.length : Int)
          · rw [if_pos c7] at H
            have c7b0 : decide (x14_1 < (l1.length : Int)) = true := decide_eq_true c7
            clear c7
            by_cases c8 : 0 ≤ x14_1
            · rw [if_pos c8] at H
              have c8b0 : decide (0 ≤ x14_1) = true := decide_eq_true c8
              clear c8
              by_cases c9 : x14_1 < (l1.length : Int)
              · rw [if_pos c9] at H
                have c9b0 : decide (x14_1 < (l1.length : Int)) = true := decide_eq_true c9
                clear c9
                by_cases c10 : 0 ≤ (rd l1 x14_1)
                · rw [if_pos c10] at H
                  have c10b0 : decide (0 ≤ (rd l1 x14_1)) = true := decide_eq_true c10
                  clear c10
                  by_cases c11 : (rd l1 x14_1) < (l0.length : Int)
                  · rw [if_pos c11] at H
                    have c11b0 : decide ((rd l1 x14_1) < (l0.length : Int)) = true := decide_eq_true c11
                    clear c11
                    by_cases c12 : (rd l1 x14_1) < (x5_1.length : Int)
                    · rw [if_pos c12] at H
                      have c12b0 : decide ((rd l1 x14_1) < (x5_1.length : Int)) = true := decide_eq_true c12
                      clear c12
                      obtain ⟨y434, hy434⟩ : ∃ y_ : List Int, y_ = (x5_1.set ((rd l1 x14_1) : Int).toNat (wrap64 (x6_1 + ((rd_T47 l0 (rd l1 x14_1)).f1)))) := ⟨_, rfl⟩
                      replace H : (spec_dwFound.l0 k1 l0 y434 (wrap64 (x6_1 + ((rd_T47 l0 (rd l1 x14_1)).f1))) l1 (l1.length : Int) (wrap64 (x14_1 + 1))) = some r := by first | (rw [hy434]; with_reducible exact H) | (have H2_ := (Option.bind_some _ _).symm.trans H; rw [hy434]; with_reducible exact H2_) | (have H2_ := (Option.bind_some _ _).symm.trans H; with_reducible exact H2_) | with_reducible exact H | (rw [hy434]; exact H) | exact H
                      have Ny434 := Aside0.mk hy434
                      clear hy434
                      have H' := Aside0.mk H
                      clear H
                      have p432 : 0 ≤ (x14_1 : Int) := of_decide_eq_true (by first | (with_reducible assumption) | assumption)
                      have q432 : x14_1 < (l1.length : Int) := of_decide_eq_true (by first | (with_reducible assumption) | assumption)
                      obtain ⟨ad432, e432, hx432_0⟩ := Kd.at_int HR1.out x14_1 p432 q432
                      cases e432
                      replace hx432_0 := (HB.out.cell (World.block_lt_of_cell? w _ hx432_0)).trans hx432_0
                      replace p432 := eq_true p432
                      replace q432 := eq_true q432
                      have p433 : 0 ≤ ((rd l1 x14_1) : Int) := of_decide_eq_true (by first | (with_reducible assumption) | assumption)
                      have q433 : (rd l1 x14_1) < (l0.length : Int) := of_decide_eq_true (by first | (with_reducible assumption) | assumption)
                      obtain ⟨ad433, e433, hx433_0, hx433_1⟩ := at_T47 HR0.out (rd l1 x14_1) p433 q433
                      cases e433
                      replace hx433_0 := (HB.out.cell (World.block_lt_of_cell? w _ hx433_0)).trans hx433_0
                      replace hx433_1 := (HB.out.cell (World.block_lt_of_cell? w _ hx433_1)).trans hx433_1
                      replace p433 := eq_true p433
                      replace q433 := eq_true q433
                      have p13 : 0 ≤ ((rd l1 x14_1) : Int) := of_decide_eq_true (by first | (with_reducible assumption) | assumption)
                      have q13 : ((rd l1 x14_1) : Int) < ((x5_1.length : Int) : Int) := of_decide_eq_true (by first | (with_reducible assumption) | assumption)
                      obtain ⟨go13, co13, eo13, gb13, gl13, cl13, HG13⟩ := Kd.R_form HO_5.out (by omega)
                      (first | cases eo13 | (injection eo13 with ea_ en_ ec_; (first | subst ea_ | (injection ea_ with ea_; subst ea_)); subst ec_; clear en_))
                      have GB13 := Aside0.mk gb13
                      have GG13 := Aside0.mk HG13
                      clear gb13 gl13 HG13
                      obtain ⟨hx13_0, hf13_0⟩ := Kd.R_celln 0 HO_5.out ((rd l1 x14_1) : Int) p13 q13
                      replace p13 := eq_true p13
                      replace q13 := eq_true q13
                      have HP14 := Kd.R_putg HO_5.out ((rd l1 x14_1) : Int) (wrap64 (x6_1 + ((rd_T47 l0 (rd l1 x14_1)).f1)))
                      go_wp2_with (first | ((with_reducible refine gate_store (t := 3) (p := 28) rfl ?_); refine store_event (t := 3) (p := 28) (v := ?vo_w15) (w1 := (wr.setCell ⟨go13, ((rd l1 x14_1) : Int).toNat, none⟩ (.int .i64 (wrap64 (x6_1 + ((rd_T47 l0 (rd l1 x14_1)).f1)))))) ?hg ?ho ?hn ?hr ?_; (case ho => rfl); (case hg => rfl); (case hn => rfl); (case hr => first | (go_simp; done) | (go_simp; rfl)); intro w15 hw; have hg : wr.grownBy w15 (some go13) := (by rw [hw]; exact HP14.2); have hp_ : Kd.R (Kd.int .i64) 3 w15 w.heap.size (fun _ => True) (.slice (some ⟨go13, 0, none⟩) x5_1.length co13) y434 := (by rw [hw, Ny434.out]; exact HP14.1); clear HP14; have n0_ := Aside0.mk (hp_); have n1_ := Aside0.mk ((by rw [hw]; exact below_set (HB.out) GB13.out : Below w.heap.size w w15)); clear HO_5; clear HB; have HO_5 := n0_; have HB := n1_; clear n0_ n1_; clear hg hw hp_))
                      go_roundg k1
                      case measure => have := HK1.out; omega
                      case rel => exact ⟨(y434), (wrap64 (x6_1 + ((rd_T47 l0 (rd l1 x14_1)).f1))), (wrap64 (x14_1 + 1)), (by first | rfl | (simp; done) | (simp [*]; done)), (by first | rfl | (simp; done) | (simp [*]; done)), H', ⟨by have := HK1.out; omega⟩, ⟨by (with_reducible repeat (first | apply Kd.R_alloc | apply Kd.R_drewN | apply Kd.R_drew)); exact HO_5.out⟩, ⟨by repeat (first | (with_reducible first | exact HB.out | apply below_alloc | apply pw_below_drewN | apply below_drew1) | exact HB.out)⟩⟩
                    · rw [if_neg c12] at H
                      exact absurd H (by simp)
                  · rw [if_neg c11] at H
                    exact absurd H (by simp)
                · rw [if_neg c10] at H
                  exact absurd H (by simp)
              · rw [if_neg c9] at H
                exact absurd H (by simp)
            · rw [if_neg c8] at H
              exact absurd H (by simp)
          · rw [if_neg c7] at H
            have c7b0 : decide (x14_1 < (l1.length : Int)) = false := decide_eq_false c7
            clear c7
            obtain rfl := Option.some.inj H
            go_wp2
            go_ret
            exact ⟨_, by first | rfl | (simp [errW_none, errW_some] <;> rfl) | (simp [*, errW_none, errW_some] <;> rfl), by (with_reducible repeat (first | apply Kd.R_alloc | apply Kd.R_drewN | apply Kd.R_drew)); exact HO_5.out, by repeat (first | (with_reducible first | exact HB.out | apply below_alloc | apply pw_below_drewN | apply below_drew1) | exact HB.out)⟩
    · rw [if_neg c4] at H
      exact absurd H (by simp)
  · rw [if_neg c3] at H
    exact absurd H (by simp)

end Go.Proofs.Ytenbnempjgbibaa.X

/- ==== XspecdwSum ==== -/
namespace Go.Proofs.Ytenbnempjgbibaa.X
open Go.RowKit Go.Proofs.YtenbnempjgbibaaW.PrintWords Go.Proofs.YtenbnempjgbibaaW.PrintLast Go.Proofs.YtenbnempjgbibaaW.PrintMore
attribute [local go_sem] max2_int min2_int max_two min_two max_three min_three max_four min_four   -- for this text's walks alone
set_option linter.unusedVariables false
set_option linter.unusedSimpArgs false

/-! ### spec_dwSum: function 46 -/
def spec_dwSum.l0 : Nat → List (S47) → Int → List Int → Int → Int → Option (Int)
  | 0, _, _, _, _, _ => none
  | k + 1, x0, x5, x10, x11, x12 => if x12 < x11 then (if 0 ≤ x12 then (if x12 < (x10.length : Int) then (if x12 < (x0.length : Int) then (spec_dwSum.l0 k x0 (wrap64 (x5 + (wrap64 (((rd_T47 x0 x12).f0) * (rd x10 x12))))) x10 x11 (wrap64 (x12 + 1))) else (none)) else (none)) else (none)) else (some x5)
def spec_dwSum.f (k : Nat) (l0 : List (S47)) (l1 : List Int) : Option (Int) := (spec_dwFound.f k l0 l1).bind fun t435 => (spec_dwSum.l0 k l0 0 t435 (t435.length : Int) 0)
theorem spec_dwSum.mono_l : ∀ k, (∀ y0 y1 y2 y3 y4, LeO (spec_dwSum.l0 k y0 y1 y2 y3 y4) (spec_dwSum.l0 (k + 1) y0 y1 y2 y3 y4))
  | 0 => fun _ _ _ _ _ r h => by simp [spec_dwSum.l0] at h
  | k + 1 => by
    have ih0 := spec_dwSum.mono_l k
    · intro y0 y1 y2 y3 y4
      unfold spec_dwSum.l0
      repeat' first
      | (with_reducible exact ih0 _ _ _ _ _)
      | (with_reducible exact spec_dwFound.mono _ _ _)
      | (with_reducible exact LeO.refl _)
      | (with_reducible exact LeO.none _)
      | (with_reducible refine LeO.ite ?_ ?_)
      | (with_reducible refine LeO.bind ?_ (fun _ => ?_))
      | exact ih0 _ _ _ _ _
      | exact spec_dwFound.mono _ _ _
      | exact LeO.none _
      | refine LeO.ite ?_ ?_
      | refine LeO.bind ?_ (fun _ => ?_)
theorem spec_dwSum.mono : ∀ a0 a1 k, LeO (spec_dwSum.f k a0 a1) (spec_dwSum.f (k + 1) a0 a1) := by
  intro a0 a1 k
  have ih0 := spec_dwSum.mono_l k
  unfold spec_dwSum.f
  repeat' first
      | (with_reducible exact ih0 _ _ _ _ _)
      | (with_reducible exact spec_dwFound.mono _ _ _)
      | (with_reducible exact LeO.refl _)
      | (with_reducible exact LeO.none _)
      | (with_reducible refine LeO.ite ?_ ?_)
      | (with_reducible refine LeO.bind ?_ (fun _ => ?_))
      | exact ih0 _ _ _ _ _
      | exact spec_dwFound.mono _ _ _
      | exact LeO.none _
      | refine LeO.ite ?_ ?_
      | refine LeO.bind ?_ (fun _ => ?_)
set_option maxHeartbeats 8000000 in
set_option maxRecDepth 100000 in
theorem spec_dwSum.calls (k : Nat) (A0 : Option Addr) (c0 : Nat) (l0 : List (S47)) (A1 : Option Addr) (c1 : Nat) (l1 : List Int) (r : Int) (w : World) (hr0 : Kd.C k47 w A0 l0.length l0) (hc0 : l0.length ≤ c0) (hr1 : Kd.C (Kd.int .i64) w A1 l1.length l1) (hc1 : l1.length ≤ c1) (h : spec_dwSum.f k l0 l1 = some r) :
    Calls Try.prog 46 #[.slice A0 l0.length c0, .slice A1 l1.length c1] w fun e w' => e = .returned (.int .i64 r) ∧ Below w.heap.size w w' := by
  have HR0 := Aside0.mk hr0
  have HC0 := Aside0.mk hc0
  clear hr0 hc0
  have HR1 := Aside0.mk hr1
  have HC1 := Aside0.mk hc1
  clear hr1 hc1
  have HB := Aside0.mk (Below.refl w.heap.size w)
  have H : ((spec_dwFound.f k l0 l1).bind fun t435 => (spec_dwSum.l0 k l0 0 t435 (t435.length : Int) 0)) = some r := h
  clear h
  replace H := Option.bind_eq_some_iff.mp H
  obtain ⟨t435, A30, H⟩ := H
  replace H : (spec_dwSum.l0 k l0 0 t435 (t435.length : Int) 0) = some r := H
  have A3 := Aside0.mk A30
  clear A30
  have H' := Aside0.mk H
  clear H
  go_enter Try.func46, Try.ntmps46
  go_wp2_with (first | ((with_reducible refine gate_callee (f := 59) rfl ?_); refine goesL_ (some 10) rfl rfl Try.func59 (by kernel_rfl) rfl #[.slice A0 l0.length c0, .slice A1 l1.length c1] rfl (by (try simp only [List.map_toArray, List.map_cons, List.map_nil]); first | done | rfl | (simp only [List.length_drop, List.length_take]; rfl)) ?_; (with_reducible refine (spec_dwFound.calls k _ _ l0 _ _ l1 t435 _ ?side1 ?side2 ?side3 ?side4 A3.out).mono ?_); (case side1 => repeat (first | exact HR0.out | (with_reducible refine Kd.C_alloc ?_ _) | (with_reducible refine Kd.C_drewN ?_ _) | (with_reducible refine Kd.C_drew ?_))); (case side2 => exact HC0.out); (case side3 => repeat (first | exact HR1.out | (with_reducible refine Kd.C_alloc ?_ _) | (with_reducible refine Kd.C_drewN ?_ _) | (with_reducible refine Kd.C_drew ?_))); (case side4 => exact HC1.out); rintro e w4 ⟨v436, rfl, ho0, hb⟩; refine ⟨_, rfl, ?_⟩; have n0_ := Aside0.mk (Kd.R_lower ho0 (below_size (by repeat (first | (with_reducible first | exact HB.out | apply below_alloc | apply pw_below_drewN | apply below_drew1) | exact HB.out)))); have n1_ := Aside0.mk (below_step (by repeat (first | (with_reducible first | exact HB.out | apply below_alloc | apply pw_below_drewN | apply below_drew1) | exact HB.out)) hb); clear HB; have HO437 := n0_; have HB := n1_; clear n0_ n1_; (try clear hb); (try clear hb2); (try clear hk); (try clear hi); (try clear ho0); obtain ⟨Ao5, co5, eo5⟩ := Kd.R_slice HO437.out; subst eo5))
  go_loopg [5, 12] k (fun kq v5 v12 w' => ∃ (x5_1 : Int) (x12_1 : Int), v5 = .int .i64 x5_1 ∧ v12 = .int .i64 x12_1 ∧ Aside0 (spec_dwSum.l0 kq l0 x5_1 t435 (t435.length : Int) x12_1 = some r) ∧ Aside0 (kq ≤ k) ∧ Aside0 (Kd.R (Kd.int .i64) 3 w' w.heap.size (fun _ => True) (.slice Ao5 t435.length co5) t435) ∧ Aside0 (Below w.heap.size w w'))
  case atStart => exact ⟨(0), (0), (by first | rfl | (simp; done) | (simp [*]; done)), (by first | rfl | (simp; done) | (simp [*]; done)), H', ⟨Nat.le_refl _⟩, ⟨by (with_reducible repeat (first | apply Kd.R_alloc | apply Kd.R_drewN | apply Kd.R_drew)); exact HO437.out⟩, ⟨by repeat (first | (with_reducible first | exact HB.out | apply below_alloc | apply pw_below_drewN | apply below_drew1) | exact HB.out)⟩⟩
  case round =>
    clear H'
    try clear c1
    try clear p2
    try clear c4
    try clear c5
    obtain ⟨x5_1, x12_1, rfl, rfl, HA, HK1, HO_10, HB⟩ := hrel
    cases gk with
    | zero => exact absurd HA.out (by simp [spec_dwSum.l0])
    | succ k1 =>
      have H := HA.out
      clear HA
      simp only [spec_dwSum.l0] at H
      by_cases c6 : x12_1 < (t435.length : Int)
      · rw [if_pos c6] at H
        have c6b0 : decide (x12_1 < (t435.length : Int)) = true := decide_eq_true c6
        clear c6
        by_cases c7 : 0 ≤ x12_1
        · rw [if_pos c7] at H
          have c7b0 : decide (0 ≤ x12_1) = true := decide_eq_true c7
          clear c7
          by_cases c8 : x12_1 < (t435.length : Int)
          · rw [if_pos c8] at H
            have c8b0 : decide (x12_1 < (t435.length : Int)) = true := decide_eq_true c8
            clear c8
            by_cases c9 : x12_1 < (l0.length : Int)
            · rw [if_pos c9] at H
              have c9b0 : decide (x12_1 < (l0.length : Int)) = true := decide_eq_true c9
              clear c9
              have H' := Aside0.mk H
              clear H
              have p438 : 0 ≤ (x12_1 : Int) := of_decide_eq_true (by first | (with_reducible assumption) | assumption)
              have q438 : x12_1 < (t435.length : Int) := of_decide_eq_true (by first | (with_reducible assumption) | assumption)
              obtain ⟨ad438, e438, hx438_0⟩ := Kd.at_int (Kd.R_reads' HO_10.out).2.2 x12_1 p438 q438
              cases e438
              replace p438 := eq_true p438
              replace q438 := eq_true q438
              have p439 : 0 ≤ (x12_1 : Int) := of_decide_eq_true (by first | (with_reducible assumption) | assumption)
              have q439 : x12_1 < (l0.length : Int) := of_decide_eq_true (by first | (with_reducible assumption) | assumption)
              obtain ⟨ad439, e439, hx439_0, hx439_1⟩ := at_T47 HR0.out x12_1 p439 q439
              cases e439
              replace hx439_0 := (HB.out.cell (World.block_lt_of_cell? w _ hx439_0)).trans hx439_0
              replace hx439_1 := (HB.out.cell (World.block_lt_of_cell? w _ hx439_1)).trans hx439_1
              replace p439 := eq_true p439
              replace q439 := eq_true q439
              go_wp2
              go_roundg k1
              case measure => have := HK1.out; omega
              case rel => exact ⟨(wrap64 (x5_1 + (wrap64 (((rd_T47 l0 x12_1).f0) * (rd t435 x12_1))))), (wrap64 (x12_1 + 1)), (by first | rfl | (simp; done) | (simp [*]; done)), (by first | rfl | (simp; done) | (simp [*]; done)), H', ⟨by have := HK1.out; omega⟩, ⟨by (with_reducible repeat (first | apply Kd.R_alloc | apply Kd.R_drewN | apply Kd.R_drew)); exact HO_10.out⟩, ⟨by repeat (first | (with_reducible first | exact HB.out | apply below_alloc | apply pw_below_drewN | apply below_drew1) | exact HB.out)⟩⟩
            · rw [if_neg c9] at H
              exact absurd H (by simp)
          · rw [if_neg c8] at H
            exact absurd H (by simp)
        · rw [if_neg c7] at H
          exact absurd H (by simp)
      · rw [if_neg c6] at H
        have c6b0 : decide (x12_1 < (t435.length : Int)) = false := decide_eq_false c6
        clear c6
        obtain rfl := Option.some.inj H
        go_wp2
        go_ret
        exact ⟨by first | rfl | (simp [errW_none, errW_some] <;> rfl) | (simp [*, errW_none, errW_some] <;> rfl), by repeat (first | (with_reducible first | exact HB.out | apply below_alloc | apply pw_below_drewN | apply below_drew1) | exact HB.out)⟩

end Go.Proofs.Ytenbnempjgbibaa.X

/- ==== XspecgvLow ==== -/
namespace Go.Proofs.Ytenbnempjgbibaa.X
open Go.RowKit Go.Proofs.YtenbnempjgbibaaW.PrintWords Go.Proofs.YtenbnempjgbibaaW.PrintLast Go.Proofs.YtenbnempjgbibaaW.PrintMore
attribute [local go_sem] max2_int min2_int max_two min_two max_three min_three max_four min_four   -- for this text's walks alone
set_option linter.unusedVariables false
set_option linter.unusedSimpArgs false

/-! ### spec_gvLow: function 31 -/
def spec_gvLow.l0 : Nat → Int → Int → Int → Int → Option (Int × Int)
  | 0, _, _, _, _ => none
  | k + 1, x0, x1, x6, x7 => if x7 > 0 then (if x7 = 0 then (none) else (spec_gvLow.l0 k x0 x1 x7 (Int.tmod x6 x7))) else (if x6 = 0 then (none) else (some (wrap64 (Int.tdiv x0 x6), wrap64 (Int.tdiv x1 x6))))
def spec_gvLow.f (k : Nat) (a0 : Int) (a1 : Int) : Option (Int × Int) := spec_gvLow.l0 k a0 a1 a0 a1
theorem spec_gvLow.mono_l : ∀ k, (∀ y0 y1 y2 y3, LeO (spec_gvLow.l0 k y0 y1 y2 y3) (spec_gvLow.l0 (k + 1) y0 y1 y2 y3))
  | 0 => fun _ _ _ _ r h => by simp [spec_gvLow.l0] at h
  | k + 1 => by
    have ih0 := spec_gvLow.mono_l k
    · intro y0 y1 y2 y3
      unfold spec_gvLow.l0
      repeat' first
      | (with_reducible exact ih0 _ _ _ _)
      | (with_reducible exact LeO.refl _)
      | (with_reducible exact LeO.none _)
      | (with_reducible refine LeO.ite ?_ ?_)
      | (with_reducible refine LeO.bind ?_ (fun _ => ?_))
      | exact ih0 _ _ _ _
      | exact LeO.none _
      | refine LeO.ite ?_ ?_
      | refine LeO.bind ?_ (fun _ => ?_)
theorem spec_gvLow.mono : ∀ a0 a1 k, LeO (spec_gvLow.f k a0 a1) (spec_gvLow.f (k + 1) a0 a1) := by
  intro a0 a1 k
  have ih0 := spec_gvLow.mono_l k
  unfold spec_gvLow.f
  repeat' first
      | (with_reducible exact ih0 _ _ _ _)
      | (with_reducible exact LeO.refl _)
      | (with_reducible exact LeO.none _)
      | (with_reducible refine LeO.ite ?_ ?_)
      | (with_reducible refine LeO.bind ?_ (fun _ => ?_))
      | exact ih0 _ _ _ _
      | exact LeO.none _
      | refine LeO.ite ?_ ?_
      | refine LeO.bind ?_ (fun _ => ?_)
set_option maxHeartbeats 8000000 in
set_option maxRecDepth 100000 in
theorem spec_gvLow.calls (k : Nat) (a0 : Int) (a1 : Int) (r1 : Int) (r2 : Int) (w : World) (h : spec_gvLow.f k a0 a1 = some (r1, r2)) :
    Calls Try.prog 31 #[.int .i64 a0, .int .i64 a1] w fun e w' => e = .returned (.tuple #[.int .i64 r1, .int .i64 r2]) ∧ Drawn0 w w' := by
  have H : (spec_gvLow.l0 k a0 a1 a0 a1) = some (r1, r2) := h
  clear h
  have H' := Aside0.mk H
  clear H
  go_enter Try.func31, Try.ntmps31
  go_wp2
  repeat (go_quiet (fail); try go_wp2)
  go_loopg [6, 7] k (fun kq v6 v7 w' => ∃ (x6_1 : Int) (x7_1 : Int), v6 = .int .i64 x6_1 ∧ v7 = .int .i64 x7_1 ∧ Aside0 (spec_gvLow.l0 kq a0 a1 x6_1 x7_1 = some (r1, r2)) ∧ Aside0 (kq ≤ k) ∧ Drawn0 w w')
  case atStart => exact ⟨(a0), (a1), (by first | rfl | (simp; done) | (simp [*]; done)), (by first | rfl | (simp; done) | (simp [*]; done)), H', ⟨Nat.le_refl _⟩, by repeat (first | exact Drawn0.refl _ | apply Drawn0.step)⟩
  case round =>
    clear H'
    try clear p2
    obtain ⟨x6_1, x7_1, rfl, rfl, HA, HK1, ⟨m1, rfl⟩⟩ := hrel
    cases gk with
    | zero => exact absurd HA.out (by simp [spec_gvLow.l0])
    | succ k1 =>
      have H := HA.out
      clear HA
      simp only [spec_gvLow.l0] at H
      by_cases c3 : x7_1 > 0
      · rw [if_pos c3] at H
        have c3b0 : decide (0 < x7_1) = true := decide_eq_true c3
        clear c3
        by_cases c4 : x7_1 = 0
        · rw [if_pos c4] at H
          exact absurd H (by simp)
        · rw [if_neg c4] at H
          have c4b0 : (x7_1 == 0) = false := beq_eq_false_iff_ne.mpr c4
          have c4b1 : (x7_1 != 0) = true := bne_iff_ne.mpr c4
          have H' := Aside0.mk H
          clear H
          go_wp2
          repeat (go_quiet (fail); try go_wp2)
          go_roundg k1
          case measure => have := HK1.out; omega
          case rel => exact ⟨(x7_1), (Int.tmod x6_1 x7_1), (by first | rfl | (simp; done) | (simp [*]; done)), (by first | rfl | (simp; done) | (simp [*]; done)), H', ⟨by have := HK1.out; omega⟩, by repeat (first | exact Drawn0.refl _ | apply Drawn0.step)⟩
      · rw [if_neg c3] at H
        have c3b0 : decide (0 < x7_1) = false := decide_eq_false c3
        clear c3
        by_cases c5 : x6_1 = 0
        · rw [if_pos c5] at H
          exact absurd H (by simp)
        · rw [if_neg c5] at H
          have c5b0 : (x6_1 == 0) = false := beq_eq_false_iff_ne.mpr c5
          have c5b1 : (x6_1 != 0) = true := bne_iff_ne.mpr c5
          simp only [Option.some.injEq, Prod.mk.injEq] at H
          obtain ⟨rfl, rfl⟩ := H
          go_wp2
          repeat (go_quiet (fail); try go_wp2)
          go_ret2
          exact ⟨by first | rfl | (simp; done) | (simp [*]; done), by repeat (first | exact Drawn0.refl _ | apply Drawn0.step)⟩

end Go.Proofs.Ytenbnempjgbibaa.X

/- ==== XspecLeastSearch ==== -/
namespace Go.Proofs.Ytenbnempjgbibaa.X
open Go.RowKit Go.Proofs.YtenbnempjgbibaaW.PrintWords Go.Proofs.YtenbnempjgbibaaW.PrintLast Go.Proofs.YtenbnempjgbibaaW.PrintMore
attribute [local go_sem] max2_int min2_int max_two min_two max_three min_three max_four min_four   -- for this text's walks alone
set_option linter.unusedVariables false
set_option linter.unusedSimpArgs false

/-! ### spec_LeastSearch: function 26 -/
def spec_LeastSearch.f (k : Nat) (l0 : List (S47)) : Option (Int × Int × Bool) := (spec_dwGood.f k l0).bind fun t440 => (if t440 = true then ((spec_dwSort.f k l0 false).bind fun t441 => ((spec_dwSum.f k l0 t441).bind fun t444 => ((spec_dwAll.f k l0).bind fun t445 => ((spec_gvLow.f k t444 t445).bind fun bt446 => (some (bt446.1, bt446.2, true)))))) else (some (0, 0, false)))
theorem spec_LeastSearch.mono : ∀ a0 k, LeO (spec_LeastSearch.f k a0) (spec_LeastSearch.f (k + 1) a0) := by
  intro a0 k
  unfold spec_LeastSearch.f
  repeat' first
      | (with_reducible exact spec_dwAll.mono _ _)
      | (with_reducible exact spec_dwGood.mono _ _)
      | (with_reducible exact spec_dwSort.mono _ _ _)
      | (with_reducible exact spec_dwSum.mono _ _ _)
      | (with_reducible exact spec_gvLow.mono _ _ _)
      | (with_reducible exact LeO.refl _)
      | (with_reducible exact LeO.none _)
      | (with_reducible refine LeO.ite ?_ ?_)
      | (with_reducible refine LeO.bind ?_ (fun _ => ?_))
      | exact spec_dwAll.mono _ _
      | exact spec_dwGood.mono _ _
      | exact spec_dwSort.mono _ _ _
      | exact spec_dwSum.mono _ _ _
      | exact spec_gvLow.mono _ _ _
      | exact LeO.none _
      | refine LeO.ite ?_ ?_
      | refine LeO.bind ?_ (fun _ => ?_)
set_option maxHeartbeats 8000000 in
set_option maxRecDepth 100000 in
theorem spec_LeastSearch.calls (k : Nat) (A0 : Option Addr) (c0 : Nat) (l0 : List (S47)) (r1 : Int) (r2 : Int) (r3 : Bool) (w : World) (hr0 : Kd.C k47 w A0 l0.length l0) (hc0 : l0.length ≤ c0) (h : spec_LeastSearch.f k l0 = some (r1, r2, r3)) :
    Calls Try.prog 26 #[.slice A0 l0.length c0] w fun e w' => e = .returned (.tuple #[.int .i64 r1, .int .i64 r2, .bool r3]) ∧ Below w.heap.size w w' := by
  have HR0 := Aside0.mk hr0
  have HC0 := Aside0.mk hc0
  clear hr0 hc0
  have HB := Aside0.mk (Below.refl w.heap.size w)
  have H : ((spec_dwGood.f k l0).bind fun t440 => (if t440 = true then ((spec_dwSort.f k l0 false).bind fun t441 => ((spec_dwSum.f k l0 t441).bind fun t444 => ((spec_dwAll.f k l0).bind fun t445 => ((spec_gvLow.f k t444 t445).bind fun bt446 => (some (bt446.1, bt446.2, true)))))) else (some (0, 0, false)))) = some (r1, r2, r3) := h
  clear h
  replace H := Option.bind_eq_some_iff.mp H
  obtain ⟨t440, A20, H⟩ := H
  replace H : (if t440 = true then ((spec_dwSort.f k l0 false).bind fun t441 => ((spec_dwSum.f k l0 t441).bind fun t444 => ((spec_dwAll.f k l0).bind fun t445 => ((spec_gvLow.f k t444 t445).bind fun bt446 => (some (bt446.1, bt446.2, true)))))) else (some (0, 0, false))) = some (r1, r2, r3) := H
  have A2 := Aside0.mk A20
  clear A20
  by_cases c3 : t440 = true
  · subst c3
    have H1 : ((spec_dwSort.f k l0 false).bind fun t441 => ((spec_dwSum.f k l0 t441).bind fun t444 => ((spec_dwAll.f k l0).bind fun t445 => ((spec_gvLow.f k t444 t445).bind fun bt446 => (some (bt446.1, bt446.2, true)))))) = some (r1, r2, r3) := by rw [if_pos rfl] at H; exact H
    clear H
    have H := H1
    clear H1
    replace H := Option.bind_eq_some_iff.mp H
    obtain ⟨t441, A40, H⟩ := H
    replace H : ((spec_dwSum.f k l0 t441).bind fun t444 => ((spec_dwAll.f k l0).bind fun t445 => ((spec_gvLow.f k t444 t445).bind fun bt446 => (some (bt446.1, bt446.2, true))))) = some (r1, r2, r3) := H
    have A4 := Aside0.mk A40
    clear A40
    replace H := Option.bind_eq_some_iff.mp H
    obtain ⟨t444, A50, H⟩ := H
    replace H : ((spec_dwAll.f k l0).bind fun t445 => ((spec_gvLow.f k t444 t445).bind fun bt446 => (some (bt446.1, bt446.2, true)))) = some (r1, r2, r3) := H
    have A5 := Aside0.mk A50
    clear A50
    replace H := Option.bind_eq_some_iff.mp H
    obtain ⟨t445, A60, H⟩ := H
    replace H : ((spec_gvLow.f k t444 t445).bind fun bt446 => (some (bt446.1, bt446.2, true))) = some (r1, r2, r3) := H
    have A6 := Aside0.mk A60
    clear A60
    replace H := Option.bind_eq_some_iff.mp H
    obtain ⟨⟨t446, t447⟩, A70, H⟩ := H
    replace H : (some (t446, t447, true)) = some (r1, r2, r3) := H
    have A7 := Aside0.mk A70
    clear A70
    simp only [Option.some.injEq, Prod.mk.injEq] at H
    obtain ⟨rfl, rfl, rfl⟩ := H
    go_enter Try.func26, Try.ntmps26
    go_wp2_with (first | ((with_reducible refine gate_callee (f := 28) rfl ?_); refine goesL_ (some 8) rfl rfl Try.func28 (by kernel_rfl) rfl #[.slice A0 l0.length c0] rfl (by (try simp only [List.map_toArray, List.map_cons, List.map_nil]); first | done | rfl | (simp only [List.length_drop, List.length_take]; rfl)) ?_; (with_reducible refine (spec_dwGood.calls k _ _ l0 true _ ?side1 ?side2 A2.out).mono ?_); (case side1 => repeat (first | exact HR0.out | (with_reducible refine Kd.C_alloc ?_ _) | (with_reducible refine Kd.C_drewN ?_ _) | (with_reducible refine Kd.C_drew ?_))); (case side2 => exact HC0.out); rintro e w8 ⟨rfl, hb⟩; refine ⟨_, rfl, ?_⟩; have n0_ := Aside0.mk (below_step (by repeat (first | (with_reducible first | exact HB.out | apply below_alloc | apply pw_below_drewN | apply below_drew1) | exact HB.out)) hb); clear HB; have HB := n0_; clear n0_; (try clear hb); (try clear hb2); (try clear hk); (try clear hi)) | ((with_reducible refine gate_callee (f := 39) rfl ?_); refine goesL_ (some 13) rfl rfl Try.func39 (by kernel_rfl) rfl #[.slice A0 l0.length c0, .bool false] rfl (by (try simp only [List.map_toArray, List.map_cons, List.map_nil]); first | done | rfl | (simp only [List.length_drop, List.length_take]; rfl)) ?_; (with_reducible refine (spec_dwSort.calls k _ _ l0 false t441 _ ?side1 ?side2 A4.out).mono ?_); (case side1 => repeat (first | exact (Kd.C_below HR0.out HB.out) | (with_reducible refine Kd.C_alloc ?_ _) | (with_reducible refine Kd.C_drewN ?_ _) | (with_reducible refine Kd.C_drew ?_))); (case side2 => exact HC0.out); rintro e w9 ⟨v442, rfl, ho0, hb⟩; refine ⟨_, rfl, ?_⟩; have n0_ := Aside0.mk (Kd.R_lower ho0 (below_size (by repeat (first | (with_reducible first | exact HB.out | apply below_alloc | apply pw_below_drewN | apply below_drew1) | exact HB.out)))); have n1_ := Aside0.mk (below_step (by repeat (first | (with_reducible first | exact HB.out | apply below_alloc | apply pw_below_drewN | apply below_drew1) | exact HB.out)) hb); clear HB; have HO443 := n0_; have HB := n1_; clear n0_ n1_; (try clear hb); (try clear hb2); (try clear hk); (try clear hi); (try clear ho0); obtain ⟨Ao10, co10, eo10⟩ := Kd.R_slice HO443.out; subst eo10) | ((with_reducible refine gate_callee (f := 46) rfl ?_); refine goesL_ (some 14) rfl rfl Try.func46 (by kernel_rfl) rfl #[.slice A0 l0.length c0, .slice Ao10 t441.length co10] rfl (by (try simp only [List.map_toArray, List.map_cons, List.map_nil]); first | done | rfl | (simp only [List.length_drop, List.length_take]; rfl)) ?_; (with_reducible refine (spec_dwSum.calls k _ _ l0 _ _ t441 t444 _ ?side1 ?side2 ?side3 ?side4 A5.out).mono ?_); (case side1 => repeat (first | exact (Kd.C_below HR0.out HB.out) | (with_reducible refine Kd.C_alloc ?_ _) | (with_reducible refine Kd.C_drewN ?_ _) | (with_reducible refine Kd.C_drew ?_))); (case side2 => exact HC0.out); (case side3 => repeat (first | exact (Kd.R_reads' HO443.out).2.2 | (with_reducible refine Kd.C_alloc ?_ _) | (with_reducible refine Kd.C_drewN ?_ _) | (with_reducible refine Kd.C_drew ?_))); (case side4 => exact (Kd.R_reads' HO443.out).2.1); rintro e w11 ⟨rfl, hb⟩; refine ⟨_, rfl, ?_⟩; have n0_ := Aside0.mk (Kd.R_below (by (with_reducible repeat (first | apply Kd.R_alloc | apply Kd.R_drewN | apply Kd.R_drew)); exact HO443.out) hb); have n1_ := Aside0.mk (below_step (by repeat (first | (with_reducible first | exact HB.out | apply below_alloc | apply pw_below_drewN | apply below_drew1) | exact HB.out)) hb); clear HO443; clear HB; have HO443 := n0_; have HB := n1_; clear n0_ n1_; (try clear hb); (try clear hb2); (try clear hk); (try clear hi)) | ((with_reducible refine gate_callee (f := 32) rfl ?_); refine goesL_ (some 16) rfl rfl Try.func32 (by kernel_rfl) rfl #[.slice A0 l0.length c0] rfl (by (try simp only [List.map_toArray, List.map_cons, List.map_nil]); first | done | rfl | (simp only [List.length_drop, List.length_take]; rfl)) ?_; (with_reducible refine (spec_dwAll.calls k _ _ l0 t445 _ ?side1 ?side2 A6.out).mono ?_); (case side1 => repeat (first | exact (Kd.C_below HR0.out HB.out) | (with_reducible refine Kd.C_alloc ?_ _) | (with_reducible refine Kd.C_drewN ?_ _) | (with_reducible refine Kd.C_drew ?_))); (case side2 => exact HC0.out); rintro e w12 ⟨rfl, hb⟩; refine ⟨_, rfl, ?_⟩; have n0_ := Aside0.mk (Kd.R_below (by (with_reducible repeat (first | apply Kd.R_alloc | apply Kd.R_drewN | apply Kd.R_drew)); exact HO443.out) hb); have n1_ := Aside0.mk (below_step (by repeat (first | (with_reducible first | exact HB.out | apply below_alloc | apply pw_below_drewN | apply below_drew1) | exact HB.out)) hb); clear HO443; clear HB; have HO443 := n0_; have HB := n1_; clear n0_ n1_; (try clear hb); (try clear hb2); (try clear hk); (try clear hi)) | ((with_reducible refine gate_callee (f := 31) rfl ?_); refine goesL_ (some 17) rfl rfl Try.func31 (by kernel_rfl) rfl #[.int .i64 t444, .int .i64 t445] rfl (by (try simp only [List.map_toArray, List.map_cons, List.map_nil]); first | done | rfl | (simp only [List.length_drop, List.length_take]; rfl)) ?_; (with_reducible refine (spec_gvLow.calls k t444 t445 t446 t447 _ A7.out).mono ?_); rintro e w' ⟨rfl, ⟨nd, rfl⟩⟩; refine ⟨_, rfl, ?_⟩))
    go_ret3
    exact ⟨by first | rfl | (simp [errW_none, errW_some] <;> rfl) | (simp [*, errW_none, errW_some] <;> rfl), by repeat (first | (with_reducible first | exact HB.out | apply below_alloc | apply pw_below_drewN | apply below_drew1) | exact HB.out)⟩
  · replace c3 := Bool.eq_false_iff.mpr c3
    subst c3
    have H1 : (some (0, 0, false)) = some (r1, r2, r3) := by rw [if_neg (show ¬ (false = true) by decide)] at H; exact H
    clear H
    have H := H1
    clear H1
    simp only [Option.some.injEq, Prod.mk.injEq] at H
    obtain ⟨rfl, rfl, rfl⟩ := H
    go_enter Try.func26, Try.ntmps26
    go_wp2_with (first | ((with_reducible refine gate_callee (f := 28) rfl ?_); refine goesL_ (some 8) rfl rfl Try.func28 (by kernel_rfl) rfl #[.slice A0 l0.length c0] rfl (by (try simp only [List.map_toArray, List.map_cons, List.map_nil]); first | done | rfl | (simp only [List.length_drop, List.length_take]; rfl)) ?_; (with_reducible refine (spec_dwGood.calls k _ _ l0 false _ ?side1 ?side2 A2.out).mono ?_); (case side1 => repeat (first | exact HR0.out | (with_reducible refine Kd.C_alloc ?_ _) | (with_reducible refine Kd.C_drewN ?_ _) | (with_reducible refine Kd.C_drew ?_))); (case side2 => exact HC0.out); rintro e w13 ⟨rfl, hb⟩; refine ⟨_, rfl, ?_⟩; have n0_ := Aside0.mk (below_step (by repeat (first | (with_reducible first | exact HB.out | apply below_alloc | apply pw_below_drewN | apply below_drew1) | exact HB.out)) hb); clear HB; have HB := n0_; clear n0_; (try clear hb); (try clear hb2); (try clear hk); (try clear hi)))
    go_ret3
    exact ⟨by first | rfl | (simp [errW_none, errW_some] <;> rfl) | (simp [*, errW_none, errW_some] <;> rfl), by repeat (first | (with_reducible first | exact HB.out | apply below_alloc | apply pw_below_drewN | apply below_drew1) | exact HB.out)⟩

end Go.Proofs.Ytenbnempjgbibaa.X

/- ==== HLikeliestFirst ==== -/
/- The program's LikeliestFirst: its contract. -/
namespace Go.Proofs.Ytenbnempjgbibaa.X
open Go.Shelf Go.RowKit Go.Lib Go.Sort Go.Proofs.YtenbnempjgbibaaW.PrintWords Go.Proofs.YtenbnempjgbibaaW.PrintLast Go.Proofs.YtenbnempjgbibaaW.PrintMore

def impl_LikeliestFirst.f (l0 : List (S47)) : Option (List Int × Bool) := some (if areDr l0 = true then (ordF cL l0 (l0.length - 1), true) else ([], false))
set_option maxHeartbeats 8000000 in
set_option maxRecDepth 100000 in
theorem impl_LikeliestFirst.calls (A0 : Option Addr) (c0 : Nat) (l0 : List (S47)) (r1 : List Int) (r2 : Bool) (w : World) (hr0 : Kd.C k47 w A0 l0.length l0) (hc0 : l0.length ≤ c0) (h : impl_LikeliestFirst.f l0 = some (r1, r2)) :
    Calls Try.prog 23 #[.slice A0 l0.length c0] w fun e w' => ∃ v0_ : Value, e = .returned (.tuple #[v0_, .bool r2]) ∧ Kd.R (Kd.int .i64) 3 w' w.heap.size (fun _ => True) v0_ r1 ∧ Below w.heap.size w w' := by
  have h1 := Option.some.inj h
  clear h
  have e43 : ∀ args w, (callFunc 43 args).run Try.prog w = .ok (.enter 43 args) w := enters_of Try.func43 (by kernel_rfl) rfl
  have E := Aside0.mk e43
  have HR := Aside0.mk hr0
  have HC := Aside0.mk hc0
  cases hd : areDr l0 with
  | false =>
    rw [hd, if_neg (by decide)] at h1
    obtain ⟨rfl, rfl⟩ := Prod.mk.inj h1
    have HA := Aside0.mk (show impl_AreDrawers.f l0 = some false by rw [impl_AreDrawers.f, hd])
    clear hr0 hc0 hd h1 e43
    go_enter Try.func23, Try.ntmps23
    go_wp2_with (go_at_call 40; refine (impl_AreDrawers.calls _ _ l0 false _ HR.out HC.out HA.out).mono ?_; rintro e w1 ⟨rfl, hb⟩)
    go_ret2
    exact ⟨_, rfl, Kd.R_nil _ _ _ _ _, hb⟩
  | true =>
    rw [hd, if_pos rfl] at h1
    obtain ⟨rfl, rfl⟩ := Prod.mk.inj h1
    have hl := areDr_len hd
    have HA := Aside0.mk (show impl_AreDrawers.f l0 = some true by rw [impl_AreDrawers.f, hd])
    have HM := Aside0.mk (show l0.length = (l0.length - 1) + 1 by omega)
    have H8 := Aside0.mk (show l0.length - 1 < 8 by omega)
    clear hr0 hc0 hd hl e43
    generalize ho : ordF cL l0 (l0.length - 1) = o
    have HO := Aside0.mk ho
    clear ho
    go_enter Try.func23, Try.ntmps23
    go_wp2_with (first | (go_at_call 40; refine (impl_AreDrawers.calls _ _ l0 true _ HR.out HC.out HA.out).mono ?_; rintro e w1 ⟨rfl, hb⟩; have HB := Aside0.mk hb; clear hb) | (go_at_call 41; refine (ordered_calls 43 cL clo43 E.out A0 c0 l0 (l0.length - 1) _ (Kd.C_below HR.out HB.out) HM.out H8.out).mono ?_; rintro e w2 ⟨v, rfl, hr, hb2⟩; rw [HO.out] at hr; have HR2 := Aside0.mk (Kd.R_lower (base' := w.heap.size) hr HB.out.size); have HB2 := Aside0.mk (HB.out.trans (hb2.mono HB.out.size)); clear hr hb2))
    go_ret2
    exact ⟨_, rfl, HR2.out, HB2.out⟩
end Go.Proofs.Ytenbnempjgbibaa.X

/- ==== XlawseqIntS ==== -/
namespace Go.Proofs.Ytenbnempjgbibaa.X
open Go.RowKit Go.Proofs.YtenbnempjgbibaaW.PrintWords Go.Proofs.YtenbnempjgbibaaW.PrintLast Go.Proofs.YtenbnempjgbibaaW.PrintMore
attribute [local go_sem] max2_int min2_int max_two min_two max_three min_three max_four min_four   -- for this text's walks alone
set_option linter.unusedVariables false
set_option linter.unusedSimpArgs false

/-! ### laws_eqIntS: function 16 -/
def laws_eqIntS.l0 : Nat → List Int → List Int → Int → Option (Bool)
  | 0, _, _, _ => none
  | k + 1, x0, x1, x5 => if x5 < (x0.length : Int) then (if 0 ≤ x5 then (if x5 < (x1.length : Int) then (if (rd x0 x5) = (rd x1 x5) then (laws_eqIntS.l0 k x0 x1 (wrap64 (x5 + 1))) else (some false)) else (none)) else (none)) else (some true)
def laws_eqIntS.f (k : Nat) (l0 : List Int) (l1 : List Int) : Option (Bool) := if (l0.length : Int) = (l1.length : Int) then (laws_eqIntS.l0 k l0 l1 0) else (some false)
theorem laws_eqIntS.mono_l : ∀ k, (∀ y0 y1 y2, LeO (laws_eqIntS.l0 k y0 y1 y2) (laws_eqIntS.l0 (k + 1) y0 y1 y2))
  | 0 => fun _ _ _ r h => by simp [laws_eqIntS.l0] at h
  | k + 1 => by
    have ih0 := laws_eqIntS.mono_l k
    · intro y0 y1 y2
      unfold laws_eqIntS.l0
      repeat' first
      | (with_reducible exact ih0 _ _ _)
      | (with_reducible exact LeO.refl _)
      | (with_reducible exact LeO.none _)
      | (with_reducible refine LeO.ite ?_ ?_)
      | (with_reducible refine LeO.bind ?_ (fun _ => ?_))
      | exact ih0 _ _ _
      | exact LeO.none _
      | refine LeO.ite ?_ ?_
      | refine LeO.bind ?_ (fun _ => ?_)
theorem laws_eqIntS.mono : ∀ a0 a1 k, LeO (laws_eqIntS.f k a0 a1) (laws_eqIntS.f (k + 1) a0 a1) := by
  intro a0 a1 k
  have ih0 := laws_eqIntS.mono_l k
  unfold laws_eqIntS.f
  repeat' first
      | (with_reducible exact ih0 _ _ _)
      | (with_reducible exact LeO.refl _)
      | (with_reducible exact LeO.none _)
      | (with_reducible refine LeO.ite ?_ ?_)
      | (with_reducible refine LeO.bind ?_ (fun _ => ?_))
      | exact ih0 _ _ _
      | exact LeO.none _
      | refine LeO.ite ?_ ?_
      | refine LeO.bind ?_ (fun _ => ?_)
set_option maxHeartbeats 8000000 in
set_option maxRecDepth 100000 in
theorem laws_eqIntS.calls (k : Nat) (A0 : Option Addr) (c0 : Nat) (l0 : List Int) (A1 : Option Addr) (c1 : Nat) (l1 : List Int) (r : Bool) (w : World) (hr0 : Kd.C (Kd.int .i64) w A0 l0.length l0) (hc0 : l0.length ≤ c0) (hr1 : Kd.C (Kd.int .i64) w A1 l1.length l1) (hc1 : l1.length ≤ c1) (h : laws_eqIntS.f k l0 l1 = some r) :
    Calls Try.prog 16 #[.slice A0 l0.length c0, .slice A1 l1.length c1] w fun e w' => e = .returned (.bool r) ∧ Drawn0 w w' := by
  have HR0 := Aside0.mk hr0
  have HC0 := Aside0.mk hc0
  clear hr0 hc0
  have HR1 := Aside0.mk hr1
  have HC1 := Aside0.mk hc1
  clear hr1 hc1
  have H : (if (l0.length : Int) = (l1.length : Int) then (laws_eqIntS.l0 k l0 l1 0) else (some false)) = some r := h
  clear h
  by_cases c3 : (l0.length : Int) = (l1.length : Int)
  · rw [if_pos c3] at H
    have c3b0 : ((l0.length : Int) == (l1.length : Int)) = true := beq_iff_eq.mpr c3
    have c3b1 : ((l0.length : Int) != (l1.length : Int)) = false := bne_eq_false_iff_eq.mpr c3
    have c3b2 : (l0.length == l1.length) = true := by first | simpa using c3 | (simp at c3 ⊢; omega)
    clear c3
    have H' := Aside0.mk H
    clear H
    go_enter Try.func16, Try.ntmps16
    go_wp2
    repeat (go_quiet (fail); try go_wp2)
    go_loopg [5] k (fun kq v5 w' => ∃ (x5_1 : Int), v5 = .int .i64 x5_1 ∧ Aside0 (laws_eqIntS.l0 kq l0 l1 x5_1 = some r) ∧ Aside0 (kq ≤ k) ∧ Drawn0 w w')
    case atStart => exact ⟨(0), (by first | rfl | (simp; done) | (simp [*]; done)), H', ⟨Nat.le_refl _⟩, by repeat (first | exact Drawn0.refl _ | apply Drawn0.step)⟩
    case round =>
      clear H'
      try clear c1
      try clear p2
      try clear c3
      try clear c3b0
      try clear c3b1
      try clear c3b2
      obtain ⟨x5_1, rfl, HA, HK1, ⟨m1, rfl⟩⟩ := hrel
      cases gk with
      | zero => exact absurd HA.out (by simp [laws_eqIntS.l0])
      | succ k1 =>
        have H := HA.out
        clear HA
        simp only [laws_eqIntS.l0] at H
        by_cases c4 : x5_1 < (l0.length : Int)
        · rw [if_pos c4] at H
          have c4b0 : decide (x5_1 < (l0.length : Int)) = true := decide_eq_true c4
          clear c4
          by_cases c5 : 0 ≤ x5_1
          · rw [if_pos c5] at H
            have c5b0 : decide (0 ≤ x5_1) = true := decide_eq_true c5
            clear c5
            by_cases c6 : x5_1 < (l1.length : Int)
            · rw [if_pos c6] at H
              have c6b0 : decide (x5_1 < (l1.length : Int)) = true := decide_eq_true c6
              clear c6
              by_cases c7 : (rd l0 x5_1) = (rd l1 x5_1)
              · rw [if_pos c7] at H
                have c7b0 : ((rd l0 x5_1) == (rd l1 x5_1)) = true := beq_iff_eq.mpr c7
                have c7b1 : ((rd l0 x5_1) != (rd l1 x5_1)) = false := bne_eq_false_iff_eq.mpr c7
                clear c7
                have H' := Aside0.mk H
                clear H
                have p214 : 0 ≤ (x5_1 : Int) := of_decide_eq_true (by first | (with_reducible assumption) | assumption)
                have q214 : x5_1 < (l0.length : Int) := of_decide_eq_true (by first | (with_reducible assumption) | assumption)
                obtain ⟨ad214, e214, hx214_0⟩ := Kd.at_int HR0.out x5_1 p214 q214
                cases e214
                replace p214 := eq_true p214
                replace q214 := eq_true q214
                have p215 : 0 ≤ (x5_1 : Int) := of_decide_eq_true (by first | (with_reducible assumption) | assumption)
                have q215 : x5_1 < (l1.length : Int) := of_decide_eq_true (by first | (with_reducible assumption) | assumption)
                obtain ⟨ad215, e215, hx215_0⟩ := Kd.at_int HR1.out x5_1 p215 q215
                cases e215
                replace p215 := eq_true p215
                replace q215 := eq_true q215
                go_wp2
                repeat (go_quiet (fail); try go_wp2)
                go_roundg k1
                case measure => have := HK1.out; omega
                case rel => exact ⟨(wrap64 (x5_1 + 1)), (by first | rfl | (simp; done) | (simp [*]; done)), H', ⟨by have := HK1.out; omega⟩, by repeat (first | exact Drawn0.refl _ | apply Drawn0.step)⟩
              · rw [if_neg c7] at H
                have c7b0 : ((rd l0 x5_1) == (rd l1 x5_1)) = false := beq_eq_false_iff_ne.mpr c7
                have c7b1 : ((rd l0 x5_1) != (rd l1 x5_1)) = true := bne_iff_ne.mpr c7
                obtain rfl := Option.some.inj H
                have p214 : 0 ≤ (x5_1 : Int) := of_decide_eq_true (by first | (with_reducible assumption) | assumption)
                have q214 : x5_1 < (l0.length : Int) := of_decide_eq_true (by first | (with_reducible assumption) | assumption)
                obtain ⟨ad214, e214, hx214_0⟩ := Kd.at_int HR0.out x5_1 p214 q214
                cases e214
                replace p214 := eq_true p214
                replace q214 := eq_true q214
                have p215 : 0 ≤ (x5_1 : Int) := of_decide_eq_true (by first | (with_reducible assumption) | assumption)
                have q215 : x5_1 < (l1.length : Int) := of_decide_eq_true (by first | (with_reducible assumption) | assumption)
                obtain ⟨ad215, e215, hx215_0⟩ := Kd.at_int HR1.out x5_1 p215 q215
                cases e215
                replace p215 := eq_true p215
                replace q215 := eq_true q215
                go_wp2
                repeat (go_quiet (fail); try go_wp2)
                go_ret
                exact ⟨by first | rfl | (simp; done) | (simp [*]; done), by repeat (first | exact Drawn0.refl _ | apply Drawn0.step)⟩
            · rw [if_neg c6] at H
              exact absurd H (by simp)
          · rw [if_neg c5] at H
            exact absurd H (by simp)
        · rw [if_neg c4] at H
          have c4b0 : decide (x5_1 < (l0.length : Int)) = false := decide_eq_false c4
          clear c4
          obtain rfl := Option.some.inj H
          go_wp2
          repeat (go_quiet (fail); try go_wp2)
          go_ret
          exact ⟨by first | rfl | (simp; done) | (simp [*]; done), by repeat (first | exact Drawn0.refl _ | apply Drawn0.step)⟩
  · rw [if_neg c3] at H
    have c3b0 : ((l0.length : Int) == (l1.length : Int)) = false := beq_eq_false_iff_ne.mpr c3
    have c3b1 : ((l0.length : Int) != (l1.length : Int)) = true := bne_iff_ne.mpr c3
    have c3b2 : (l0.length == l1.length) = false := by first | simpa using c3 | (simp at c3 ⊢; omega)
    obtain rfl := Option.some.inj H
    go_enter Try.func16, Try.ntmps16
    go_wp2
    repeat (go_quiet (fail); try go_wp2)
    go_ret
    exact ⟨by first | rfl | (simp; done) | (simp [*]; done), by repeat (first | exact Drawn0.refl _ | apply Drawn0.step)⟩

end Go.Proofs.Ytenbnempjgbibaa.X

/- ==== PlTo ==== -/
/- Plain laws, no program in sight: the law's copy of a list, and its comparison of two. -/
namespace Go.Proofs.Ytenbnempjgbibaa.X
open Go.RowKit Go.Proofs.YtenbnempjgbibaaW.PrintWords Go.Proofs.YtenbnempjgbibaaW.PrintLast Go.Proofs.YtenbnempjgbibaaW.PrintMore

theorem w64 {x : Int} (h0 : -9223372036854775808 ≤ x) (h1 : x ≤ 9223372036854775807) : wrap64 x = x := by unfold wrap64; omega
theorem w64s {i n : Nat} (h : i < n) (hn : n ≤ 1073741824) : wrap64 ((i : Int) + 1) = ((i + 1 : Nat) : Int) := by unfold wrap64; omega
theorem rd_get {l : List Int} {i : Nat} (h : i < l.length) : rd l (i : Int) = l[i] := by simp [rd, List.getD_eq_getElem?_getD, h]
theorem i64_of {n : Int} (h : (Lit.int .i64 n).wf = true) : -9223372036854775808 ≤ n ∧ n ≤ 9223372036854775807 := by
  simp [Lit.wf, IntKind.min, IntKind.max, IntKind.signed, IntKind.bits] at h
  omega

theorem eqIntS_loop (l : List Int) (hn : l.length ≤ 1073741824) (d : Nat) : ∀ (i : Nat), i + d = l.length → Ev (fun k => laws_eqIntS.l0 k l l (i : Int)) true := by
  induction d with
  | zero =>
    intro i hi
    refine Ev.step (f := fun _ => some true) (fun k => ?_) (Ev.now _)
    simp only [laws_eqIntS.l0]
    rw [if_neg (by omega)]
  | succ d ih =>
    intro i hi
    refine Ev.step (f := fun k => laws_eqIntS.l0 k l l ((i + 1 : Nat) : Int)) (fun k => ?_) (ih (i + 1) (by omega))
    simp only [laws_eqIntS.l0]
    rw [if_pos (by omega), if_pos (by omega), if_pos (by omega), if_pos trivial, w64s (show i < l.length by omega) (by omega)]
theorem eqIntS_ev (l : List Int) (hn : l.length ≤ 1073741824) : Ev (fun k => laws_eqIntS.f k l l) true := by
  refine Ev.congr (f := fun k => laws_eqIntS.l0 k l l ((0 : Nat) : Int)) (fun k => ?_) (eqIntS_loop l hn l.length 0 (by omega))
  unfold laws_eqIntS.f
  rw [if_pos rfl]
  rfl

end Go.Proofs.Ytenbnempjgbibaa.X

/- ==== XspecBestSearch ==== -/
namespace Go.Proofs.Ytenbnempjgbibaa.X
open Go.RowKit Go.Proofs.YtenbnempjgbibaaW.PrintWords Go.Proofs.YtenbnempjgbibaaW.PrintLast Go.Proofs.YtenbnempjgbibaaW.PrintMore
attribute [local go_sem] max2_int min2_int max_two min_two max_three min_three max_four min_four   -- for this text's walks alone
set_option linter.unusedVariables false
set_option linter.unusedSimpArgs false

/-! ### spec_BestSearch: function 20 -/
def spec_BestSearch.f (k : Nat) (l0 : List (S47)) : Option (List Int × Bool) := (spec_dwGood.f k l0).bind fun t317 => (if t317 = true then ((spec_dwSort.f k l0 false).bind fun t318 => (some (t318, true))) else (some (([] : List Int), false)))
theorem spec_BestSearch.mono : ∀ a0 k, LeO (spec_BestSearch.f k a0) (spec_BestSearch.f (k + 1) a0) := by
  intro a0 k
  unfold spec_BestSearch.f
  repeat' first
      | (with_reducible exact spec_dwGood.mono _ _)
      | (with_reducible exact spec_dwSort.mono _ _ _)
      | (with_reducible exact LeO.refl _)
      | (with_reducible exact LeO.none _)
      | (with_reducible refine LeO.ite ?_ ?_)
      | (with_reducible refine LeO.bind ?_ (fun _ => ?_))
      | exact spec_dwGood.mono _ _
      | exact spec_dwSort.mono _ _ _
      | exact LeO.none _
      | refine LeO.ite ?_ ?_
      | refine LeO.bind ?_ (fun _ => ?_)
set_option maxHeartbeats 8000000 in
set_option maxRecDepth 100000 in
theorem spec_BestSearch.calls (k : Nat) (A0 : Option Addr) (c0 : Nat) (l0 : List (S47)) (r1 : List Int) (r2 : Bool) (w : World) (hr0 : Kd.C k47 w A0 l0.length l0) (hc0 : l0.length ≤ c0) (h : spec_BestSearch.f k l0 = some (r1, r2)) :
    Calls Try.prog 20 #[.slice A0 l0.length c0] w fun e w' => ∃ v0_ : Value, e = .returned (.tuple #[v0_, .bool r2]) ∧ Kd.R (Kd.int .i64) 3 w' w.heap.size (fun _ => True) v0_ r1 ∧ Below w.heap.size w w' := by
  have HR0 := Aside0.mk hr0
  have HC0 := Aside0.mk hc0
  clear hr0 hc0
  have HB := Aside0.mk (Below.refl w.heap.size w)
  have H : ((spec_dwGood.f k l0).bind fun t317 => (if t317 = true then ((spec_dwSort.f k l0 false).bind fun t318 => (some (t318, true))) else (some (([] : List Int), false)))) = some (r1, r2) := h
  clear h
  replace H := Option.bind_eq_some_iff.mp H
  obtain ⟨t317, A20, H⟩ := H
  replace H : (if t317 = true then ((spec_dwSort.f k l0 false).bind fun t318 => (some (t318, true))) else (some (([] : List Int), false))) = some (r1, r2) := H
  have A2 := Aside0.mk A20
  clear A20
  by_cases c3 : t317 = true
  · subst c3
    have H1 : ((spec_dwSort.f k l0 false).bind fun t318 => (some (t318, true))) = some (r1, r2) := by rw [if_pos rfl] at H; exact H
    clear H
    have H := H1
    clear H1
    replace H := Option.bind_eq_some_iff.mp H
    obtain ⟨t318, A40, H⟩ := H
    replace H : (some (t318, true)) = some (r1, r2) := H
    have A4 := Aside0.mk A40
    clear A40
    simp only [Option.some.injEq, Prod.mk.injEq] at H
    obtain ⟨rfl, rfl⟩ := H
    go_enter Try.func20, Try.ntmps20
    go_wp2_with (first | ((with_reducible refine gate_callee (f := 28) rfl ?_); refine goesL_ (some 5) rfl rfl Try.func28 (by kernel_rfl) rfl #[.slice A0 l0.length c0] rfl (by (try simp only [List.map_toArray, List.map_cons, List.map_nil]); first | done | rfl | (simp only [List.length_drop, List.length_take]; rfl)) ?_; (with_reducible refine (spec_dwGood.calls k _ _ l0 true _ ?side1 ?side2 A2.out).mono ?_); (case side1 => repeat (first | exact HR0.out | (with_reducible refine Kd.C_alloc ?_ _) | (with_reducible refine Kd.C_drewN ?_ _) | (with_reducible refine Kd.C_drew ?_))); (case side2 => exact HC0.out); rintro e w5 ⟨rfl, hb⟩; refine ⟨_, rfl, ?_⟩; have n0_ := Aside0.mk (below_step (by repeat (first | (with_reducible first | exact HB.out | apply below_alloc | apply pw_below_drewN | apply below_drew1) | exact HB.out)) hb); clear HB; have HB := n0_; clear n0_; (try clear hb); (try clear hb2); (try clear hk); (try clear hi)) | ((with_reducible refine gate_callee (f := 39) rfl ?_); refine goesL_ (some 8) rfl rfl Try.func39 (by kernel_rfl) rfl #[.slice A0 l0.length c0, .bool false] rfl (by (try simp only [List.map_toArray, List.map_cons, List.map_nil]); first | done | rfl | (simp only [List.length_drop, List.length_take]; rfl)) ?_; (with_reducible refine (spec_dwSort.calls k _ _ l0 false t318 _ ?side1 ?side2 A4.out).mono ?_); (case side1 => repeat (first | exact (Kd.C_below HR0.out HB.out) | (with_reducible refine Kd.C_alloc ?_ _) | (with_reducible refine Kd.C_drewN ?_ _) | (with_reducible refine Kd.C_drew ?_))); (case side2 => exact HC0.out); rintro e w6 ⟨v319, rfl, ho0, hb⟩; refine ⟨_, rfl, ?_⟩; have n0_ := Aside0.mk (Kd.R_lower ho0 (below_size (by repeat (first | (with_reducible first | exact HB.out | apply below_alloc | apply pw_below_drewN | apply below_drew1) | exact HB.out)))); have n1_ := Aside0.mk (below_step (by repeat (first | (with_reducible first | exact HB.out | apply below_alloc | apply pw_below_drewN | apply below_drew1) | exact HB.out)) hb); clear HB; have HO320 := n0_; have HB := n1_; clear n0_ n1_; (try clear hb); (try clear hb2); (try clear hk); (try clear hi); (try clear ho0)))
    go_ret2
    exact ⟨_, by first | rfl | (simp [errW_none, errW_some] <;> rfl) | (simp [*, errW_none, errW_some] <;> rfl), by (with_reducible repeat (first | apply Kd.R_alloc | apply Kd.R_drewN | apply Kd.R_drew)); exact HO320.out, by repeat (first | (with_reducible first | exact HB.out | apply below_alloc | apply pw_below_drewN | apply below_drew1) | exact HB.out)⟩
  · replace c3 := Bool.eq_false_iff.mpr c3
    subst c3
    have H1 : (some (([] : List Int), false)) = some (r1, r2) := by rw [if_neg (show ¬ (false = true) by decide)] at H; exact H
    clear H
    have H := H1
    clear H1
    simp only [Option.some.injEq, Prod.mk.injEq] at H
    obtain ⟨rfl, rfl⟩ := H
    go_enter Try.func20, Try.ntmps20
    go_wp2_with (first | ((with_reducible refine gate_callee (f := 28) rfl ?_); refine goesL_ (some 5) rfl rfl Try.func28 (by kernel_rfl) rfl #[.slice A0 l0.length c0] rfl (by (try simp only [List.map_toArray, List.map_cons, List.map_nil]); first | done | rfl | (simp only [List.length_drop, List.length_take]; rfl)) ?_; (with_reducible refine (spec_dwGood.calls k _ _ l0 false _ ?side1 ?side2 A2.out).mono ?_); (case side1 => repeat (first | exact HR0.out | (with_reducible refine Kd.C_alloc ?_ _) | (with_reducible refine Kd.C_drewN ?_ _) | (with_reducible refine Kd.C_drew ?_))); (case side2 => exact HC0.out); rintro e w7 ⟨rfl, hb⟩; refine ⟨_, rfl, ?_⟩; have n0_ := Aside0.mk (below_step (by repeat (first | (with_reducible first | exact HB.out | apply below_alloc | apply pw_below_drewN | apply below_drew1) | exact HB.out)) hb); clear HB; have HB := n0_; clear n0_; (try clear hb); (try clear hb2); (try clear hk); (try clear hi)))
    go_ret2
    exact ⟨_, by first | rfl | (simp [errW_none, errW_some] <;> rfl) | (simp [*, errW_none, errW_some] <;> rfl), by first | exact Kd.R_nil _ _ _ _ _ | exact Kd.N_nil _ _ _ _ _ | exact Kd.V_nil _ _ _ _ _ | exact Kd.Q_nil _ _ _ _ _ | exact Kd.S_nil _ _ _ _ _, by repeat (first | (with_reducible first | exact HB.out | apply below_alloc | apply pw_below_drewN | apply below_drew1) | exact HB.out)⟩

end Go.Proofs.Ytenbnempjgbibaa.X

/- ==== XspecLikeliestFirst ==== -/
namespace Go.Proofs.Ytenbnempjgbibaa.X
open Go.RowKit Go.Proofs.YtenbnempjgbibaaW.PrintWords Go.Proofs.YtenbnempjgbibaaW.PrintLast Go.Proofs.YtenbnempjgbibaaW.PrintMore
attribute [local go_sem] max2_int min2_int max_two min_two max_three min_three max_four min_four   -- for this text's walks alone
set_option linter.unusedVariables false
set_option linter.unusedSimpArgs false

/-! ### spec_LikeliestFirst: function 22 -/
def spec_LikeliestFirst.f (k : Nat) (l0 : List (S47)) : Option (List Int × Bool) := (spec_dwGood.f k l0).bind fun t356 => (if t356 = true then ((spec_dwSort.f k l0 true).bind fun t357 => (some (t357, true))) else (some (([] : List Int), false)))
theorem spec_LikeliestFirst.mono : ∀ a0 k, LeO (spec_LikeliestFirst.f k a0) (spec_LikeliestFirst.f (k + 1) a0) := by
  intro a0 k
  unfold spec_LikeliestFirst.f
  repeat' first
      | (with_reducible exact spec_dwGood.mono _ _)
      | (with_reducible exact spec_dwSort.mono _ _ _)
      | (with_reducible exact LeO.refl _)
      | (with_reducible exact LeO.none _)
      | (with_reducible refine LeO.ite ?_ ?_)
      | (with_reducible refine LeO.bind ?_ (fun _ => ?_))
      | exact spec_dwGood.mono _ _
      | exact spec_dwSort.mono _ _ _
      | exact LeO.none _
      | refine LeO.ite ?_ ?_
      | refine LeO.bind ?_ (fun _ => ?_)
set_option maxHeartbeats 8000000 in
set_option maxRecDepth 100000 in
theorem spec_LikeliestFirst.calls (k : Nat) (A0 : Option Addr) (c0 : Nat) (l0 : List (S47)) (r1 : List Int) (r2 : Bool) (w : World) (hr0 : Kd.C k47 w A0 l0.length l0) (hc0 : l0.length ≤ c0) (h : spec_LikeliestFirst.f k l0 = some (r1, r2)) :
    Calls Try.prog 22 #[.slice A0 l0.length c0] w fun e w' => ∃ v0_ : Value, e = .returned (.tuple #[v0_, .bool r2]) ∧ Kd.R (Kd.int .i64) 3 w' w.heap.size (fun _ => True) v0_ r1 ∧ Below w.heap.size w w' := by
  have HR0 := Aside0.mk hr0
  have HC0 := Aside0.mk hc0
  clear hr0 hc0
  have HB := Aside0.mk (Below.refl w.heap.size w)
  have H : ((spec_dwGood.f k l0).bind fun t356 => (if t356 = true then ((spec_dwSort.f k l0 true).bind fun t357 => (some (t357, true))) else (some (([] : List Int), false)))) = some (r1, r2) := h
  clear h
  replace H := Option.bind_eq_some_iff.mp H
  obtain ⟨t356, A20, H⟩ := H
  replace H : (if t356 = true then ((spec_dwSort.f k l0 true).bind fun t357 => (some (t357, true))) else (some (([] : List Int), false))) = some (r1, r2) := H
  have A2 := Aside0.mk A20
  clear A20
  by_cases c3 : t356 = true
  · subst c3
    have H1 : ((spec_dwSort.f k l0 true).bind fun t357 => (some (t357, true))) = some (r1, r2) := by rw [if_pos rfl] at H; exact H
    clear H
    have H := H1
    clear H1
    replace H := Option.bind_eq_some_iff.mp H
    obtain ⟨t357, A40, H⟩ := H
    replace H : (some (t357, true)) = some (r1, r2) := H
    have A4 := Aside0.mk A40
    clear A40
    simp only [Option.some.injEq, Prod.mk.injEq] at H
    obtain ⟨rfl, rfl⟩ := H
    go_enter Try.func22, Try.ntmps22
    go_wp2_with (first | ((with_reducible refine gate_callee (f := 28) rfl ?_); refine goesL_ (some 5) rfl rfl Try.func28 (by kernel_rfl) rfl #[.slice A0 l0.length c0] rfl (by (try simp only [List.map_toArray, List.map_cons, List.map_nil]); first | done | rfl | (simp only [List.length_drop, List.length_take]; rfl)) ?_; (with_reducible refine (spec_dwGood.calls k _ _ l0 true _ ?side1 ?side2 A2.out).mono ?_); (case side1 => repeat (first | exact HR0.out | (with_reducible refine Kd.C_alloc ?_ _) | (with_reducible refine Kd.C_drewN ?_ _) | (with_reducible refine Kd.C_drew ?_))); (case side2 => exact HC0.out); rintro e w5 ⟨rfl, hb⟩; refine ⟨_, rfl, ?_⟩; have n0_ := Aside0.mk (below_step (by repeat (first | (with_reducible first | exact HB.out | apply below_alloc | apply pw_below_drewN | apply below_drew1) | exact HB.out)) hb); clear HB; have HB := n0_; clear n0_; (try clear hb); (try clear hb2); (try clear hk); (try clear hi)) | ((with_reducible refine gate_callee (f := 39) rfl ?_); refine goesL_ (some 8) rfl rfl Try.func39 (by kernel_rfl) rfl #[.slice A0 l0.length c0, .bool true] rfl (by (try simp only [List.map_toArray, List.map_cons, List.map_nil]); first | done | rfl | (simp only [List.length_drop, List.length_take]; rfl)) ?_; (with_reducible refine (spec_dwSort.calls k _ _ l0 true t357 _ ?side1 ?side2 A4.out).mono ?_); (case side1 => repeat (first | exact (Kd.C_below HR0.out HB.out) | (with_reducible refine Kd.C_alloc ?_ _) | (with_reducible refine Kd.C_drewN ?_ _) | (with_reducible refine Kd.C_drew ?_))); (case side2 => exact HC0.out); rintro e w6 ⟨v358, rfl, ho0, hb⟩; refine ⟨_, rfl, ?_⟩; have n0_ := Aside0.mk (Kd.R_lower ho0 (below_size (by repeat (first | (with_reducible first | exact HB.out | apply below_alloc | apply pw_below_drewN | apply below_drew1) | exact HB.out)))); have n1_ := Aside0.mk (below_step (by repeat (first | (with_reducible first | exact HB.out | apply below_alloc | apply pw_below_drewN | apply below_drew1) | exact HB.out)) hb); clear HB; have HO359 := n0_; have HB := n1_; clear n0_ n1_; (try clear hb); (try clear hb2); (try clear hk); (try clear hi); (try clear ho0)))
    go_ret2
    exact ⟨_, by first | rfl | (simp [errW_none, errW_some] <;> rfl) | (simp [*, errW_none, errW_some] <;> rfl), by (with_reducible repeat (first | apply Kd.R_alloc | apply Kd.R_drewN | apply Kd.R_drew)); exact HO359.out, by repeat (first | (with_reducible first | exact HB.out | apply below_alloc | apply pw_below_drewN | apply below_drew1) | exact HB.out)⟩
  · replace c3 := Bool.eq_false_iff.mpr c3
    subst c3
    have H1 : (some (([] : List Int), false)) = some (r1, r2) := by rw [if_neg (show ¬ (false = true) by decide)] at H; exact H
    clear H
    have H := H1
    clear H1
    simp only [Option.some.injEq, Prod.mk.injEq] at H
    obtain ⟨rfl, rfl⟩ := H
    go_enter Try.func22, Try.ntmps22
    go_wp2_with (first | ((with_reducible refine gate_callee (f := 28) rfl ?_); refine goesL_ (some 5) rfl rfl Try.func28 (by kernel_rfl) rfl #[.slice A0 l0.length c0] rfl (by (try simp only [List.map_toArray, List.map_cons, List.map_nil]); first | done | rfl | (simp only [List.length_drop, List.length_take]; rfl)) ?_; (with_reducible refine (spec_dwGood.calls k _ _ l0 false _ ?side1 ?side2 A2.out).mono ?_); (case side1 => repeat (first | exact HR0.out | (with_reducible refine Kd.C_alloc ?_ _) | (with_reducible refine Kd.C_drewN ?_ _) | (with_reducible refine Kd.C_drew ?_))); (case side2 => exact HC0.out); rintro e w7 ⟨rfl, hb⟩; refine ⟨_, rfl, ?_⟩; have n0_ := Aside0.mk (below_step (by repeat (first | (with_reducible first | exact HB.out | apply below_alloc | apply pw_below_drewN | apply below_drew1) | exact HB.out)) hb); clear HB; have HB := n0_; clear n0_; (try clear hb); (try clear hb2); (try clear hk); (try clear hi)))
    go_ret2
    exact ⟨_, by first | rfl | (simp [errW_none, errW_some] <;> rfl) | (simp [*, errW_none, errW_some] <;> rfl), by first | exact Kd.R_nil _ _ _ _ _ | exact Kd.N_nil _ _ _ _ _ | exact Kd.V_nil _ _ _ _ _ | exact Kd.Q_nil _ _ _ _ _ | exact Kd.S_nil _ _ _ _ _, by repeat (first | (with_reducible first | exact HB.out | apply below_alloc | apply pw_below_drewN | apply below_drew1) | exact HB.out)⟩

end Go.Proofs.Ytenbnempjgbibaa.X

/- ==== PlSort ==== -/
/- Plain laws, no program in sight: the reference's insertion and the library's stable sort lay the same order; BestSearch, LikeliestFirst of both. -/
namespace Go.Proofs.Ytenbnempjgbibaa.X
open Go.RowKit Go.Sort Go.Proofs.YtenbnempjgbibaaW.PrintWords Go.Proofs.YtenbnempjgbibaaW.PrintLast Go.Proofs.YtenbnempjgbibaaW.PrintMore

/-- Where x comes to stand in L, from the place j on backwards. -/
def posI (lt : Int → Int → Bool) (x : Int) (L : List Int) : Nat → Nat
  | 0 => 0
  | j + 1 => if lt x (rd L (j : Int)) = true then posI lt x L j else j + 1
theorem posI_le (lt : Int → Int → Bool) (x : Int) (L : List Int) : ∀ j, posI lt x L j ≤ j
  | 0 => Nat.le_refl _
  | j + 1 => by
    simp only [posI]
    split
    · have := posI_le lt x L j; omega
    · exact Nat.le_refl _
def insI (lt : Int → Int → Bool) (L : List Int) (x : Int) : List Int := L.take (posI lt x L L.length) ++ x :: L.drop (posI lt x L L.length)
def srtI (lt : Int → Int → Bool) : Nat → List Int
  | 0 => []
  | i + 1 => insI lt (srtI lt i) (i : Int)
theorem insI_len (lt : Int → Int → Bool) (L : List Int) (x : Int) : (insI lt L x).length = L.length + 1 := by
  have := posI_le lt x L L.length
  simp only [insI, List.length_append, List.length_take, List.length_cons, List.length_drop]
  omega
theorem srtI_len (lt : Int → Int → Bool) : ∀ i, (srtI lt i).length = i
  | 0 => rfl
  | i + 1 => by rw [srtI, insI_len, srtI_len lt i]
theorem insI_perm (lt : Int → Int → Bool) (L : List Int) (x : Int) : (insI lt L x).Perm (x :: L) := by
  unfold insI
  have h := @List.perm_middle Int x (L.take (posI lt x L L.length)) (L.drop (posI lt x L L.length))
  rwa [List.take_append_drop] at h
theorem srtI_in (lt : Int → Int → Bool) : ∀ i, ∀ x ∈ srtI lt i, 0 ≤ x ∧ x < (i : Int)
  | 0, x, h => by simp [srtI] at h
  | i + 1, x, h => by
    have := (insI_perm lt (srtI lt i) (i : Int)).mem_iff.1 h
    rcases List.mem_cons.1 this with rfl | h
    · omega
    · have := srtI_in lt i x h; omega
theorem srtI_nd (lt : Int → Int → Bool) : ∀ i, (srtI lt i).Nodup
  | 0 => List.nodup_nil
  | i + 1 => by
    refine (insI_perm lt (srtI lt i) (i : Int)).nodup_iff.2 (List.nodup_cons.2 ⟨fun h => ?_, srtI_nd lt i⟩)
    have := srtI_in lt i _ h
    omega

/-! ### the array's side -/
variable {m : Nat}
def vals (d : Array (Fin (m + 1))) : List Int := d.toList.map fun x => ((x.val : Nat) : Int)
theorem vals_len (d : Array (Fin (m + 1))) : (vals d).length = d.size := by simp [vals]
theorem vals_at (d : Array (Fin (m + 1))) {j : Nat} (h : j < d.size) : (vals d)[j]? = some ((d[j]!.val : Nat) : Int) := by
  rw [getElem!_pos d j h]
  simp [vals, h]
theorem vals_swp (d : Array (Fin (m + 1))) {A B : List Int} {x y : Int} (h : vals d = A ++ y :: x :: B) : vals (swp d (A.length + 1) A.length) = A ++ x :: y :: B := by
  have hl : A.length + 1 < d.size := by rw [← vals_len, h]; simp
  have hx : ((d[A.length + 1]!.val : Nat) : Int) = x := by
    have := vals_at d hl
    rw [h, List.getElem?_append_right (by omega)] at this
    simpa using this.symm
  have hy : ((d[A.length]!.val : Nat) : Int) = y := by
    have := vals_at d (show A.length < d.size by omega)
    rw [h, List.getElem?_append_right (by omega)] at this
    simpa using this.symm
  have e : vals (swp d (A.length + 1) A.length) = ((vals d).set (A.length + 1) ((d[A.length]!.val : Nat) : Int)).set A.length ((d[A.length + 1]!.val : Nat) : Int) := by
    unfold swp vals
    rw [Array.toList_setIfInBounds, Array.toList_setIfInBounds, List.map_set, List.map_set]
  rw [e, hx, hy, h, List.set_append_right _ _ (by omega), List.set_append_right _ _ (by omega)]
  simp
def ltI (cf2 : S47 → S47 → Int) (l : List S47) (x y : Int) : Bool := decide (cf2 (rd_T47 l x) (rd_T47 l y) < 0)
theorem inner_vals (cf2 : S47 → S47 → Int) (l : List S47) (L R : List Int) (x : Int) : ∀ (j : Nat) (d : Array (Fin (m + 1))), j ≤ L.length → vals d = L.take j ++ x :: (L.drop j ++ R) →
    vals (insInner (Go.Proofs.ltOf (cfF cf2 l m)) 0 j d) = L.take (posI (ltI cf2 l) x L j) ++ x :: (L.drop (posI (ltI cf2 l) x L j) ++ R)
  | 0, d, _, h => by simpa [insInner, posI] using h
  | j + 1, d, hj, h => by
    have hLj : L[j]? = some (rd L (j : Int)) := by simp [rd, List.getD_eq_getElem?_getD, show j < L.length by omega]
    have ht : L.take (j + 1) = L.take j ++ [rd L (j : Int)] := by rw [List.take_add_one, hLj]; rfl
    have hd : L.drop j = rd L (j : Int) :: L.drop (j + 1) := by
      rw [List.drop_eq_getElem_cons (show j < L.length by omega)]
      simp [rd, List.getD_eq_getElem?_getD, show j < L.length by omega]
    have hlen : (L.take j).length = j := by rw [List.length_take]; omega
    rw [ht, List.append_assoc, List.singleton_append] at h
    have hsz : j + 1 < d.size := by rw [← vals_len, h]; simp [hlen]
    have hx : ((d[j + 1]!.val : Nat) : Int) = x := by
      have := vals_at d hsz
      rw [h, List.getElem?_append_right (by omega), hlen] at this
      simpa using this.symm
    have hy : ((d[j]!.val : Nat) : Int) = rd L (j : Int) := by
      have := vals_at d (show j < d.size by omega)
      rw [h, List.getElem?_append_right (by omega), hlen] at this
      simpa using this.symm
    have hlt : Go.Proofs.ltOf (cfF cf2 l m) d[j + 1]! d[j]! = ltI cf2 l x (rd L (j : Int)) := by
      unfold Go.Proofs.ltOf cfF ltI
      rw [hx, hy]
    simp only [insInner, posI]
    rw [hlt]
    cases hc : ltI cf2 l x (rd L (j : Int)) with
    | true =>
      have hs := vals_swp d h
      rw [hlen] at hs
      rw [if_pos (by simp), if_pos rfl]
      refine inner_vals cf2 l L R x j _ (by omega) ?_
      rw [hs, hd]
      rfl
    | false =>
      rw [if_neg (by simp), if_neg (by decide), ht, List.append_assoc, List.singleton_append]
      exact h
theorem outer_vals (cf2 : S47 → S47 → Int) (l : List S47) (n : Nat) : ∀ (e i : Nat) (d : Array (Fin (m + 1))), i + e = n → vals d = srtI (ltI cf2 l) i ++ (List.range' i e).map (fun q => ((q : Nat) : Int)) →
    vals (insOuter (Go.Proofs.ltOf (cfF cf2 l m)) 0 n i d) = srtI (ltI cf2 l) n
  | 0, i, d, hi, h => by
    obtain rfl : i = n := by omega
    rw [insOuter, if_neg (by omega)]
    simpa using h
  | e + 1, i, d, hi, h => by
    rw [insOuter, if_pos (by omega)]
    refine outer_vals cf2 l n e (i + 1) _ (by omega) ?_
    have hl := srtI_len (ltI cf2 l) i
    rw [inner_vals cf2 l (srtI (ltI cf2 l) i) ((List.range' (i + 1) e).map (fun q => ((q : Nat) : Int))) (i : Int) i d (by omega) (by
      rw [h, List.take_of_length_le (by omega), List.drop_of_length_le (by omega)]
      simp [List.range'_succ])]
    simp only [srtI, insI, hl, List.append_assoc, List.cons_append]
theorem ordF_srt (cf2 : S47 → S47 → Int) (l : List S47) (m : Nat) : ordF cf2 l m = srtI (ltI cf2 l) (m + 1) := by
  unfold ordF insertionSort
  rw [idF_size]
  refine outer_vals cf2 l (m + 1) m 1 (idF m) (by omega) ?_
  have hv : vals (idF m) = (List.range' 0 (m + 1)).map (fun q => ((q : Nat) : Int)) := by
    apply List.ext_getElem?
    intro j
    by_cases hj : j < m + 1
    · rw [vals_at _ (by rw [idF_size]; exact hj), getElem!_pos (idF m) j (by rw [idF_size]; exact hj)]
      simp [idF, hj]
    · rw [List.getElem?_eq_none (by rw [vals_len, idF_size]; omega), List.getElem?_eq_none (by simp; omega)]
  rw [hv, List.range'_succ]
  simp [srtI, insI, posI]

/-! ### the reference's side -/
theorem own_is (l : List Int) (h : l.length < 1000000) : spec_l1Own.f l = some l := by
  simp only [spec_l1Own.f, Option.bind_some]
  rw [if_pos (by simp; omega)]
  rfl
/-- Whether the new one goes on. -/
def aloneLt (alone : Bool) (a b : S47) : Bool := if alone = true then !decide (a.f0 ≤ b.f0) else !decide (a.f0 * b.f1 ≤ b.f0 * a.f1)
theorem mulB {a b : Int} (h0 : 0 ≤ a) (h1 : a ≤ 50) (h2 : 1 ≤ b) (h3 : b ≤ 60) : 0 ≤ a * b ∧ a * b ≤ 3000 :=
  ⟨Int.mul_nonneg h0 (by omega), Int.le_trans (Int.mul_le_mul h1 h3 (by omega) (by omega)) (by decide)⟩
theorem rdB {D : List S47} (hd : areDr D = true) {i : Int} (h0 : 0 ≤ i) (h1 : i < (D.length : Int)) : 0 ≤ (rd_T47 D i).f0 ∧ (rd_T47 D i).f0 ≤ 50 ∧ 1 ≤ (rd_T47 D i).f1 ∧ (rd_T47 D i).f1 ≤ 60 := by
  obtain ⟨n, rfl⟩ := Int.eq_ofNat_of_zero_le h0
  have := List.all_eq_true.1 (areDr_good hd) _ (rd_mem (l := D) (i := n) (by omega))
  simp [goodD, inB] at this
  omega
theorem cB_lt {D : List S47} (hd : areDr D = true) {i j : Int} (h0 : 0 ≤ i) (h1 : i < (D.length : Int)) (h2 : 0 ≤ j) (h3 : j < (D.length : Int)) : ltI cB D i j = !decide (wrap64 ((rd_T47 D i).f0 * (rd_T47 D j).f1) ≤ wrap64 ((rd_T47 D j).f0 * (rd_T47 D i).f1)) := by
  obtain ⟨a0, a1, a2, a3⟩ := rdB hd h0 h1
  obtain ⟨b0, b1, b2, b3⟩ := rdB hd h2 h3
  have p := mulB a0 a1 b2 b3
  have q := mulB b0 b1 a2 a3
  unfold ltI cB
  generalize (rd_T47 D i).f0 * (rd_T47 D j).f1 = u at *
  generalize (rd_T47 D j).f0 * (rd_T47 D i).f1 = v at *
  rw [w64 (x := u) (by omega) (by omega), w64 (x := v) (by omega) (by omega), w64 (by omega) (by omega), Bool.eq_iff_iff]
  simp
  omega
theorem cL_lt {D : List S47} (hd : areDr D = true) {i j : Int} (h0 : 0 ≤ i) (h1 : i < (D.length : Int)) (h2 : 0 ≤ j) (h3 : j < (D.length : Int)) : ltI cL D i j = !decide ((rd_T47 D i).f0 ≤ (rd_T47 D j).f0) := by
  obtain ⟨a0, a1, a2, a3⟩ := rdB hd h0 h1
  obtain ⟨b0, b1, b2, b3⟩ := rdB hd h2 h3
  unfold ltI cL
  rw [w64 (by omega) (by omega), Bool.eq_iff_iff]
  simp
  omega
def ltOfB (alone : Bool) (D : List S47) : Int → Int → Bool := if alone = true then ltI cL D else ltI cB D
theorem dwSort_l1 {D : List S47} (hd : areDr D = true) (alone : Bool) (L : List Int) (hL : L.length < 100) (hin : ∀ x ∈ L, 0 ≤ x ∧ x < (D.length : Int)) (i : Nat) (hi : i < D.length) (n : Int) (r : List Int) : ∀ (j : Nat), j ≤ L.length →
    Ev (fun k => spec_dwSort.l0 k D alone (L.take (posI (ltOfB alone D) (i : Int) L j) ++ (i : Int) :: L.drop (posI (ltOfB alone D) (i : Int) L j)) D n (wrap64 ((i : Int) + 1))) r →
    Ev (fun k => spec_dwSort.l1 k D alone L (i : Int) (j : Int) D n (i : Int) (rd_T47 D (i : Int)).f0 (rd_T47 D (i : Int)).f1) r
  | 0, _, h => by
    refine Ev.step (fun k => ?_) h
    simp only [spec_dwSort.l1, posI]
    rw [if_neg (by omega), if_pos (by omega), if_pos (by omega), own_is _ (by rw [List.length_take]; omega)]
    simp only [Option.bind_some]
    rw [if_pos (by rw [List.length_take]; omega)]
    rw [if_pos (by simp; omega)]
    simp
  | j + 1, hj, h => by
    have hlt : j < L.length := by omega
    have hmem : rd L (j : Int) ∈ L := by rw [rd_get hlt]; exact List.getElem_mem _
    obtain ⟨o0, o1⟩ := hin _ hmem
    have hw : wrap64 (((j + 1 : Nat) : Int) - 1) = (j : Int) := by unfold wrap64; omega
    have HW := Aside0.mk hw
    clear hw
    have back : posI (ltOfB alone D) (i : Int) L (j + 1) = j + 1 → ∀ k, ((spec_l1Own.f (L.take (((j + 1 : Nat) : Int) : Int).toNat)).bind fun t => (if t.length < 17592186044416 then ((some (t ++ [(i : Int)] : List Int)).bind fun y => ((some (L.drop (((j + 1 : Nat) : Int) : Int).toNat : List Int)).bind fun z => (if y.length + z.length < 17592186044416 then (spec_dwSort.l0 k D alone (y ++ z) D n (wrap64 ((i : Int) + 1))) else (none)))) else (none))) = spec_dwSort.l0 k D alone (L.take (posI (ltOfB alone D) (i : Int) L (j + 1)) ++ (i : Int) :: L.drop (posI (ltOfB alone D) (i : Int) L (j + 1))) D n (wrap64 ((i : Int) + 1)) := by
      intro hp k
      rw [hp, own_is _ (by rw [List.length_take]; omega)]
      simp only [Option.bind_some]
      rw [if_pos (by rw [List.length_take]; omega)]
      rw [if_pos (by simp; omega), Int.toNat_natCast, List.append_assoc, List.singleton_append]
    have key : ltOfB alone D (i : Int) (rd L (j : Int)) = (if alone = true then !decide ((rd_T47 D (i : Int)).f0 ≤ (rd_T47 D (rd L (j : Int))).f0) else !decide (wrap64 ((rd_T47 D (i : Int)).f0 * (rd_T47 D (rd L (j : Int))).f1) ≤ wrap64 ((rd_T47 D (rd L (j : Int))).f0 * (rd_T47 D (i : Int)).f1))) := by
      unfold ltOfB
      cases alone with
      | true => exact cL_lt hd (by omega) (by omega) o0 o1
      | false => exact cB_lt hd (by omega) (by omega) o0 o1
    cases hc : ltOfB alone D (i : Int) (rd L (j : Int)) with
    | true =>
      have hp : posI (ltOfB alone D) (i : Int) L (j + 1) = posI (ltOfB alone D) (i : Int) L j := by simp only [posI]; rw [if_pos hc]
      rw [hp] at h
      have ih := dwSort_l1 hd alone L hL hin i hi n r j (by omega) h
      rw [hc] at key
      refine Ev.step (fun k => ?_) ih
      simp only [spec_dwSort.l1]
      rw [if_pos (by omega), HW.out, if_pos (by omega), if_pos (by omega), if_pos o0, if_pos o1]
      cases alone with
      | true =>
        simp at key
        rw [if_pos rfl, if_neg (by omega)]
      | false =>
        simp at key
        rw [if_neg (by decide), if_neg (by omega)]
    | false =>
      have hp : posI (ltOfB alone D) (i : Int) L (j + 1) = j + 1 := by simp only [posI]; rw [if_neg (by rw [hc]; decide)]
      have B := back hp
      rw [hc] at key
      refine Ev.step (fun k => ?_) h
      simp only [spec_dwSort.l1]
      rw [if_pos (by omega), HW.out, if_pos (by omega), if_pos (by omega), if_pos o0, if_pos o1]
      cases alone with
      | true =>
        simp at key
        rw [if_pos rfl, if_pos (by omega), if_pos (by omega), if_pos (by omega)]
        exact B k
      | false =>
        simp at key
        rw [if_neg (by decide), if_pos (by omega), if_pos (by omega), if_pos (by omega)]
        exact B k
theorem dwSort_l0 {D : List S47} (hd : areDr D = true) (alone : Bool) (e : Nat) : ∀ (i : Nat), i + e = D.length →
    Ev (fun k => spec_dwSort.l0 k D alone (srtI (ltOfB alone D) i) D (D.length : Int) (i : Int)) (srtI (ltOfB alone D) D.length) := by
  have h8 := (areDr_len hd).2
  induction e with
  | zero =>
    intro i hi
    obtain rfl : i = D.length := by omega
    refine Ev.step (f := fun _ => some (srtI (ltOfB alone D) D.length)) (fun k => ?_) (Ev.now _)
    simp only [spec_dwSort.l0]
    rw [if_neg (by omega)]
  | succ e ih =>
    intro i hi
    have hl := srtI_len (ltOfB alone D) i
    have hs := ih (i + 1) (by omega)
    have hw : wrap64 ((i : Int) + 1) = ((i + 1 : Nat) : Int) := by unfold wrap64; omega
    have HW := Aside0.mk hw
    clear hw
    have h1 := dwSort_l1 hd alone (srtI (ltOfB alone D) i) (by omega) (fun x hx => by have := srtI_in _ i x hx; omega) i (by omega) (D.length : Int) (srtI (ltOfB alone D) D.length) (srtI (ltOfB alone D) i).length (Nat.le_refl _) (by rw [HW.out]; exact hs)
    refine Ev.step (fun k => ?_) h1
    simp only [spec_dwSort.l0]
    rw [if_pos (by omega), if_pos (by omega), if_pos (by omega)]
theorem dwSort_ev {D : List S47} (hd : areDr D = true) (alone : Bool) : Ev (fun k => spec_dwSort.f k D alone) (srtI (ltOfB alone D) D.length) :=
  Ev.congr (fun k => by rfl) (dwSort_l0 hd alone D.length 0 (by omega))
theorem ord_srt {D : List S47} (hd : areDr D = true) (cf2 : S47 → S47 → Int) : ordF cf2 D (D.length - 1) = srtI (ltI cf2 D) D.length := by
  rw [ordF_srt, Nat.sub_add_cancel (areDr_len hd).1]
theorem BestSearch_both (D : List S47) : ∃ r : List Int × Bool, r.1.length ≤ 1048576 ∧ Ev (fun k => spec_BestSearch.f k D) r ∧ Ev (fun _ => impl_BestSearch.f D) r := by
  have h := dwGood_ev D
  cases hd : areDr D with
  | false =>
    rw [hd] at h
    refine ⟨([], false), by simp, Ev.bind h (Ev.congr (fun k => by rw [if_neg (by decide)]) (Ev.now _)), Ev.congr (f := fun _ => some ([], false)) (fun k => ?_) (Ev.now _)⟩
    simp [impl_BestSearch.f, hd]
  | true =>
    rw [hd] at h
    have hl := areDr_len hd
    refine ⟨(srtI (ltI cB D) D.length, true), by rw [srtI_len]; omega, Ev.bind h (Ev.congr (f := fun k => (spec_dwSort.f k D false).bind fun t => some (t, true)) (fun k => by rw [if_pos rfl]) (Ev.bind (dwSort_ev hd false) (Ev.now _))), Ev.congr (f := fun _ => some (srtI (ltI cB D) D.length, true)) (fun k => ?_) (Ev.now _)⟩
    simp [impl_BestSearch.f, hd, ord_srt hd]
theorem LikeliestFirst_both (D : List S47) : ∃ r : List Int × Bool, r.1.length ≤ 1048576 ∧ Ev (fun k => spec_LikeliestFirst.f k D) r ∧ Ev (fun _ => impl_LikeliestFirst.f D) r := by
  have h := dwGood_ev D
  cases hd : areDr D with
  | false =>
    rw [hd] at h
    refine ⟨([], false), by simp, Ev.bind h (Ev.congr (fun k => by rw [if_neg (by decide)]) (Ev.now _)), Ev.congr (f := fun _ => some ([], false)) (fun k => ?_) (Ev.now _)⟩
    simp [impl_LikeliestFirst.f, hd]
  | true =>
    rw [hd] at h
    have hl := areDr_len hd
    refine ⟨(srtI (ltI cL D) D.length, true), by rw [srtI_len]; omega, Ev.bind h (Ev.congr (f := fun k => (spec_dwSort.f k D true).bind fun t => some (t, true)) (fun k => by rw [if_pos rfl]) (Ev.bind (dwSort_ev hd true) (Ev.now _))), Ev.congr (f := fun _ => some (srtI (ltI cL D) D.length, true)) (fun k => ?_) (Ev.now _)⟩
    simp [impl_LikeliestFirst.f, hd, ord_srt hd]
end Go.Proofs.Ytenbnempjgbibaa.X

/- ==== PlSearch ==== -/
/- Plain laws, no program in sight: orders of all drawers. -/
namespace Go.Proofs.Ytenbnempjgbibaa.X
open Go.RowKit Go.Proofs.YtenbnempjgbibaaW.PrintWords Go.Proofs.YtenbnempjgbibaaW.PrintLast Go.Proofs.YtenbnempjgbibaaW.PrintMore

theorem drop_get {l : List Int} {i : Nat} (h : i < l.length) : l.drop i = rd l (i : Int) :: l.drop (i + 1) := by
  rw [List.drop_eq_getElem_cons h, rd_get h]
def inAl (n : Nat) (l : List Int) : Bool := l.all fun x => inB 0 ((n : Int) - 1) x
/-- The numbers 0 to n - 1, each once. -/
def isPerm (n : Nat) (l : List Int) : Bool := decide (l.length = n) && (inAl n l && decide l.Nodup)

def pops (m : Nat) : Nat := (List.range 8).foldl (fun s j => s + if m.testBit j then 1 else 0) 0
set_option maxRecDepth 100000 in
theorem or_bits : ∀ m : Fin 256, ∀ k : Fin 8, Go.bits .or .i64 (m.val : Int) (shl .i64 1 (k.val : Int)) = ((m.val ||| (1 <<< k.val) : Nat) : Int) ∧ (m.val ||| (1 <<< k.val)) < 256 ∧
    pops (m.val ||| (1 <<< k.val)) = pops m.val + (if m.val.testBit k.val then 0 else 1) := by decide +kernel
set_option maxRecDepth 100000 in
theorem or_lt : ∀ n : Fin 9, ∀ m : Fin 256, ∀ k : Fin 8, m.val < 2 ^ n.val → k.val < n.val → (m.val ||| (1 <<< k.val)) < 2 ^ n.val := by decide +kernel
set_option maxRecDepth 100000 in
theorem full_of : ∀ n : Fin 9, ∀ m : Fin 256, m.val < 2 ^ n.val → (pops m.val = n.val ↔ m.val = 2 ^ n.val - 1) := by decide +kernel
set_option maxRecDepth 100000 in
theorem full_bits : ∀ n : Fin 9, ∀ k : Fin 8, k.val < n.val → (2 ^ n.val - 1 : Nat).testBit k.val = true := by decide +kernel
theorem full_int : ∀ n : Fin 9, wrap64 ((shl .i64 1 (n.val : Int)) - 1) = ((2 ^ n.val - 1 : Nat) : Int) := by decide +kernel

/-- What the number says of the places so far. -/
structure Mask (n : Nat) (l : List Int) (m : Nat) : Prop where
  lt : m < 256
  ltn : m < 2 ^ n
  le : pops m ≤ l.length
  nd : pops m = l.length ↔ l.Nodup
  bit : ∀ k, k < 8 → (m.testBit k = true ↔ (k : Int) ∈ l)
theorem Mask.nil (n : Nat) : Mask n [] 0 := ⟨by decide, Nat.two_pow_pos n, by decide, by simp [show pops 0 = 0 from by decide], fun k _ => by simp⟩
theorem nodup_snoc {l : List Int} {x : Int} : (l ++ [x]).Nodup ↔ l.Nodup ∧ x ∉ l := by
  rw [List.nodup_append]
  constructor
  · rintro ⟨h1, _, h2⟩
    exact ⟨h1, fun hx => h2 x hx x (by simp) rfl⟩
  · rintro ⟨h1, h2⟩
    exact ⟨h1, by simp, fun a ha b hb => by
      simp at hb
      subst hb
      rintro rfl
      exact h2 ha⟩
theorem Mask.snoc {n : Nat} {l : List Int} {m k : Nat} (hn : n ≤ 8) (hk : k < n) (h : Mask n l m) : Mask n (l ++ [(k : Int)]) (m ||| (1 <<< k)) := by
  obtain ⟨_, b1, b2⟩ := or_bits ⟨m, h.lt⟩ ⟨k, by omega⟩
  simp only at b1 b2
  have hb := h.bit k (by omega)
  have hle := h.le
  have hnd := h.nd
  refine ⟨b1, or_lt ⟨n, by omega⟩ ⟨m, h.lt⟩ ⟨k, by omega⟩ h.ltn hk, ?_, ?_, ?_⟩
  · rw [b2]
    simp only [List.length_append, List.length_cons, List.length_nil]
    split <;> omega
  · rw [b2, nodup_snoc, ← hnd, List.length_append]
    simp only [List.length_cons, List.length_nil]
    by_cases ht : m.testBit k = true
    · have hm : (k : Int) ∈ l := hb.1 ht
      rw [if_pos ht]
      constructor
      · intro h0
        omega
      · intro h0
        exact absurd hm h0.2
    · have hm : ¬ (k : Int) ∈ l := fun hm => ht (hb.2 hm)
      rw [if_neg ht]
      constructor
      · intro h0
        exact ⟨by omega, hm⟩
      · intro h0
        omega
  · intro j hj
    rw [Nat.testBit_or, Nat.testBit_shiftLeft, List.mem_append, Bool.or_eq_true, h.bit j hj]
    by_cases e : j = k
    · subst e
      simp
    · have hne : ¬ (j : Int) = (k : Int) := by omega
      have h1 : (decide (k ≤ j) && Nat.testBit 1 (j - k)) = false := by
        by_cases hkj : k ≤ j
        · have : j - k ≠ 0 := by omega
          obtain ⟨q, hq⟩ : ∃ q, j - k = q + 1 := ⟨j - k - 1, by omega⟩
          rw [hq, Nat.testBit_succ]
          simp
        · simp [hkj]
      simp only [ge_iff_le]
      rw [h1]
      simp [hne]

theorem Mask.on {n : Nat} (hn : n ≤ 8) : ∀ (r p : List Int) (m : Nat), inAl n r = true → Mask n p m → ∃ m', Mask n (p ++ r) m' := by
  intro r
  induction r with
  | nil => exact fun p m _ h => ⟨m, by simpa using h⟩
  | cons x r ih =>
    intro p m h hm
    simp only [inAl, List.all_cons, Bool.and_eq_true] at h
    have hx := h.1
    simp [inB] at hx
    obtain ⟨k, rfl⟩ := Int.eq_ofNat_of_zero_le hx.1
    have := ih (p ++ [(k : Int)]) _ h.2 (Mask.snoc hn (by omega) hm)
    simpa using this
theorem Mask.of {n : Nat} (hn : n ≤ 8) (l : List Int) (h : inAl n l = true) : ∃ m, Mask n l m := by
  have := Mask.on hn l [] 0 h (Mask.nil n)
  simpa using this
theorem perm_mem {n : Nat} (hn : n ≤ 8) {l : List Int} (h : isPerm n l = true) : ∀ k, k < n → (k : Int) ∈ l := by
  intro k hk
  simp only [isPerm, Bool.and_eq_true, decide_eq_true_eq] at h
  obtain ⟨hl, hi, hd⟩ := h
  obtain ⟨m, hm⟩ := Mask.of hn l hi
  have e := (full_of ⟨n, by omega⟩ ⟨m, hm.lt⟩ hm.ltn).1 ((hm.nd.2 hd).trans hl)
  simp only at e
  have := full_bits ⟨n, by omega⟩ ⟨k, by omega⟩ hk
  simp only at this
  rw [← e] at this
  exact (hm.bit k (by omega)).1 this

def srch (D : List S47) (l : List Int) : Bool := areDr D && isPerm D.length l
theorem srch_dr {D : List S47} {l : List Int} (h : srch D l = true) : areDr D = true := by
  unfold srch at h
  simp only [Bool.and_eq_true] at h
  exact h.1
theorem srch_perm {D : List S47} {l : List Int} (h : srch D l = true) : isPerm D.length l = true := by
  unfold srch at h
  simp only [Bool.and_eq_true] at h
  exact h.2
theorem perm_len {n : Nat} {l : List Int} (h : isPerm n l = true) : l.length = n := by
  simp only [isPerm, Bool.and_eq_true, decide_eq_true_eq] at h
  exact h.1
theorem perm_nd {n : Nat} {l : List Int} (h : isPerm n l = true) : l.Nodup := by
  simp only [isPerm, Bool.and_eq_true, decide_eq_true_eq] at h
  exact h.2.2
theorem perm_in {n : Nat} {l : List Int} (h : isPerm n l = true) : ∀ x ∈ l, 0 ≤ x ∧ x < (n : Int) := by
  simp only [isPerm, Bool.and_eq_true, decide_eq_true_eq] at h
  intro x hx
  have := List.all_eq_true.1 h.2.1 x hx
  simp [inB] at this
  omega

end Go.Proofs.Ytenbnempjgbibaa.X

/- ==== PlFrac ==== -/
/- Plain laws, no program in sight: the reference's lowest terms are the program's. -/
namespace Go.Proofs.Ytenbnempjgbibaa.X
open Go.RowKit Go.Proofs.YtenbnempjgbibaaW.PrintWords Go.Proofs.YtenbnempjgbibaaW.PrintLast Go.Proofs.YtenbnempjgbibaaW.PrintMore

theorem gcd_loop (d : Nat) : ∀ (x y : Int), 0 ≤ x → 0 ≤ y → y ≤ (d : Int) → (0 < x ∨ 0 < y) →
    ∃ g : Int, 0 < g ∧ Ev (fun k => impl_gcd.l0 k x y) g ∧ ∀ a b, Ev (fun k => spec_gvLow.l0 k a b x y) (wrap64 (Int.tdiv a g), wrap64 (Int.tdiv b g)) := by
  induction d with
  | zero =>
    intro x y hx hy hd hp
    have e : y = 0 := by omega
    subst e
    refine ⟨x, by omega, Ev.step (f := fun _ => some x) (fun k => ?_) (Ev.now _), fun a b => Ev.step (f := fun _ => some (wrap64 (Int.tdiv a x), wrap64 (Int.tdiv b x))) (fun k => ?_) (Ev.now _)⟩
    · simp only [impl_gcd.l0, if_true]
    · simp only [spec_gvLow.l0]
      rw [if_neg (by omega), if_neg (by omega)]
  | succ d ih =>
    intro x y hx hy hd hp
    by_cases h0 : y = 0
    · subst h0
      refine ⟨x, by omega, Ev.step (f := fun _ => some x) (fun k => ?_) (Ev.now _), fun a b => Ev.step (f := fun _ => some (wrap64 (Int.tdiv a x), wrap64 (Int.tdiv b x))) (fun k => ?_) (Ev.now _)⟩
      · simp only [impl_gcd.l0, if_true]
      · simp only [spec_gvLow.l0]
        rw [if_neg (by omega), if_neg (by omega)]
    · have hm : Int.tmod x y = x % y := Int.tmod_eq_emod_of_nonneg hx
      have h1 : 0 ≤ x % y := Int.emod_nonneg _ h0
      have h2 : x % y < y := Int.emod_lt_of_pos _ (by omega)
      obtain ⟨g, hg, e1, e2⟩ := ih y (x % y) hy h1 (by omega) (.inl (by omega))
      refine ⟨g, hg, Ev.step (fun k => ?_) e1, fun a b => Ev.step (fun k => ?_) (e2 a b)⟩
      · simp only [impl_gcd.l0]
        rw [if_neg h0, hm]
      · simp only [spec_gvLow.l0]
        rw [if_pos (by omega), if_neg h0, hm]
theorem frac_ev (num den : Int) (h0 : 0 ≤ num) (h1 : 0 < den) : ∃ a b : Int, Ev (fun k => spec_gvLow.f k num den) (a, b) ∧ Ev (fun k => impl_fraction.f k num den) (a, b, true) := by
  obtain ⟨g, hg, e1, e2⟩ := gcd_loop den.toNat num den h0 (by omega) (by omega) (.inr h1)
  refine ⟨_, _, e2 num den, ?_⟩
  refine Ev.congr (f := fun k => (impl_gcd.l0 k num den).bind fun t => if t = 0 then none else some (wrap64 (Int.tdiv num t), wrap64 (Int.tdiv den t), true)) (fun k => rfl) (Ev.bind e1 ?_)
  exact Ev.congr (fun k => by rw [if_neg (by omega)]) (Ev.now _)

end Go.Proofs.Ytenbnempjgbibaa.X

/- ==== PlMean ==== -/
/- Plain laws, no program in sight: what is told of drawers in the order of a search, by places and by drawers. -/
namespace Go.Proofs.Ytenbnempjgbibaa.X
open Go.RowKit Go.Proofs.YtenbnempjgbibaaW.PrintWords Go.Proofs.YtenbnempjgbibaaW.PrintLast Go.Proofs.YtenbnempjgbibaaW.PrintMore

theorem rd_bd {D : List S47} (hd : areDr D = true) {i : Int} (h0 : 0 ≤ i) (h1 : i < (D.length : Int)) : 0 ≤ (rd_T47 D i).f0 ∧ (rd_T47 D i).f0 ≤ 50 ∧ 1 ≤ (rd_T47 D i).f1 ∧ (rd_T47 D i).f1 ≤ 60 := by
  obtain ⟨n, rfl⟩ := Int.eq_ofNat_of_zero_le h0
  have := List.all_eq_true.1 (areDr_good hd) _ (rd_mem (l := D) (i := n) (by omega))
  simp [goodD, inB] at this
  omega

def sumN : Nat → (Nat → Int) → Int
  | 0, _ => 0
  | n + 1, f => sumN n f + f n
theorem sumN_same {n : Nat} {f g : Nat → Int} (h : ∀ k, k < n → f k = g k) : sumN n f = sumN n g := by
  induction n with
  | zero => rfl
  | succ n ih => simp only [sumN]; rw [ih (fun k hk => h k (by omega)), h n (by omega)]
theorem sumN_upd {n i : Nat} {f g : Nat → Int} (hi : i < n) (h : ∀ k, k < n → k ≠ i → g k = f k) : sumN n g = sumN n f + (g i - f i) := by
  induction n with
  | zero => omega
  | succ n ih =>
    simp only [sumN]
    by_cases e : i = n
    · subst e
      rw [sumN_same (n := i) (f := g) (g := f) (fun k hk => h k (by omega) (by omega))]
      omega
    · rw [ih (by omega) (fun k hk hne => h k (by omega) hne), h n (by omega) (fun e' => e e'.symm)]
      omega
theorem sumN_zero {n : Nat} {f : Nat → Int} (h : ∀ k, k < n → f k = 0) : sumN n f = 0 := by
  induction n with
  | zero => rfl
  | succ n ih => simp only [sumN]; rw [ih (fun k hk => h k (by omega)), h n (by omega)]; rfl
theorem sumN_bd {n : Nat} {f : Nat → Int} {B : Int} (h : ∀ k, k < n → 0 ≤ f k ∧ f k ≤ B) : 0 ≤ sumN n f ∧ sumN n f ≤ B * (n : Int) := by
  induction n with
  | zero => simp [sumN]
  | succ n ih =>
    have h1 := ih (fun k hk => h k (by omega))
    have h2 := h n (by omega)
    simp only [sumN]
    have e : B * ((n + 1 : Nat) : Int) = B * (n : Int) + B := by rw [Int.natCast_add, Int.mul_add]; simp
    rw [e]
    omega

/-- By places: the program's sum, with no wrap. -/
def cum (told : Int → Int → Int) (D : List S47) : List Int → Int → Int → Int → Int
  | [], _, _, s => s
  | i :: r, p, m, s => cum told D r (p + 1) (m + (rd_T47 D i).f1) (s + (rd_T47 D i).f0 * told p (m + (rd_T47 D i).f1))

theorem mul_bd {a b A B : Int} (h0 : 0 ≤ a) (h1 : a ≤ A) (h2 : 0 ≤ b) (h3 : b ≤ B) : 0 ≤ a * b ∧ a * b ≤ A * B :=
  ⟨Int.mul_nonneg h0 h2, Int.mul_le_mul h1 h3 h2 (Int.le_trans h0 h1)⟩
theorem meanSum_cum {told : Int → Int → Int} {D : List S47} (hd : areDr D = true) (ht : ∀ p m, 0 ≤ p → p ≤ 8 → 0 ≤ m → m ≤ 480 → 0 ≤ told p m ∧ told p m ≤ 480) :
    ∀ (l : List Int) (p m s : Int) (q : Nat), (∀ x ∈ l, 0 ≤ x ∧ x < (D.length : Int)) → q + l.length ≤ 8 → p = (q : Int) → 0 ≤ m → m ≤ 60 * (q : Int) → 0 ≤ s → s ≤ 24000 * (q : Int) →
      meanSum told D l p m s = cum told D l p m s := by
  intro l
  induction l with
  | nil => intros; rfl
  | cons i r ih =>
    intro p m s q hin hq hp h0 h1 h2 h3
    have hi := hin i List.mem_cons_self
    obtain ⟨b0, b1, b2, b3⟩ := rd_bd hd hi.1 hi.2
    simp only [List.length_cons] at hq
    have ht' := ht p (m + (rd_T47 D i).f1) (by omega) (by omega) (by omega) (by omega)
    have hm := mul_bd b0 b1 ht'.1 ht'.2
    simp only [meanSum, cum]
    rw [w64 (x := p + 1) (by omega) (by omega), w64 (x := m + (rd_T47 D i).f1) (by omega) (by omega), w64 (x := (rd_T47 D i).f0 * told p (m + (rd_T47 D i).f1)) (by omega) (by omega), w64 (by omega) (by omega)]
    exact ih (p + 1) _ _ (q + 1) (fun x hx => hin x (List.mem_cons_of_mem _ hx)) (by omega) (by omega) (by omega) (by omega) (by omega) (by omega)

/-- By drawers: those that are still to come count for nothing. -/
def part (g : Int → Int) (D : List S47) (F R : List Int) : Int := sumN D.length fun k => if (k : Int) ∈ R then 0 else (rd_T47 D (k : Int)).f0 * g (rd F (k : Int))

theorem rd_set_self {F : List Int} {i : Nat} {x : Int} (h : i < F.length) : rd (F.set i x) (i : Int) = x := by simp [rd, List.getD_eq_getElem?_getD, h]
theorem rd_set_ne {F : List Int} {i k : Nat} {x : Int} (h : k ≠ i) : rd (F.set i x) (k : Int) = rd F (k : Int) := by
  simp [rd, List.getD_eq_getElem?_getD, List.getElem?_set_ne (Ne.symm h)]
theorem part_step {g : Int → Int} {D : List S47} {F : List Int} {i : Nat} {R : List Int} {x : Int} (hF : F.length = D.length) (hi : i < D.length) (hR : ¬ (i : Int) ∈ R) :
    part g D (F.set i x) R = part g D F ((i : Int) :: R) + (rd_T47 D (i : Int)).f0 * g x := by
  unfold part
  rw [sumN_upd (i := i) (f := fun k => if (k : Int) ∈ (i : Int) :: R then 0 else (rd_T47 D (k : Int)).f0 * g (rd F (k : Int))) hi]
  · rw [if_neg hR, if_pos List.mem_cons_self, rd_set_self (by omega)]
    omega
  · intro k hk hne
    have : ¬ (k : Int) = (i : Int) := by omega
    simp only [List.mem_cons, this, false_or]
    rw [rd_set_ne hne]

/-- The reference's table of minutes. -/
def fnd (D : List S47) : List Int → Int → List Int → List Int
  | [], _, F => F
  | i :: r, m, F => fnd D r (m + (rd_T47 D i).f1) (F.set i.toNat (m + (rd_T47 D i).f1))
theorem fnd_len (D : List S47) : ∀ (l : List Int) (m : Int) (F : List Int), (fnd D l m F).length = F.length := by
  intro l
  induction l with
  | nil => intros; rfl
  | cons i r ih => intro m F; simp only [fnd]; rw [ih]; simp
theorem fnd_part (g : Int → Int) (D : List S47) : ∀ (l : List Int) (p m s : Int) (F : List Int), l.Nodup → (∀ x ∈ l, 0 ≤ x ∧ x < (D.length : Int)) → F.length = D.length →
    s + part g D (fnd D l m F) [] - part g D F l = cum (fun _ y => g y) D l p m s := by
  intro l
  induction l with
  | nil => intro p m s F _ _ _; simp only [fnd, cum]; omega
  | cons i r ih =>
    intro p m s F hn hin hF
    have hi := hin i List.mem_cons_self
    obtain ⟨q, rfl⟩ := Int.eq_ofNat_of_zero_le hi.1
    rw [List.nodup_cons] at hn
    have h := ih (p + 1) (m + (rd_T47 D (q : Int)).f1) (s + (rd_T47 D (q : Int)).f0 * g (m + (rd_T47 D (q : Int)).f1)) (F.set q (m + (rd_T47 D (q : Int)).f1)) hn.2 (fun x hx => hin x (List.mem_cons_of_mem _ hx)) (by simpa using hF)
    have h2 := part_step (g := g) (x := m + (rd_T47 D (q : Int)).f1) hF (show q < D.length by omega) hn.1
    simp only [fnd, cum, Int.toNat_natCast]
    rw [← h, h2]
    omega
theorem fnd_all (g : Int → Int) {D : List S47} {l : List Int} (h8 : D.length ≤ 8) (hp : isPerm D.length l = true) :
    part g D (fnd D l 0 (List.replicate D.length 0)) [] = cum (fun _ y => g y) D l 0 0 0 := by
  have h := fnd_part g D l 0 0 0 (List.replicate D.length 0) (perm_nd hp) (perm_in hp) (by simp)
  have h0 : part g D (List.replicate D.length 0) l = 0 := sumN_zero fun k hk => by rw [if_pos (perm_mem h8 hp k hk)]
  omega

/-- All minutes that the table holds are small. -/
theorem fnd_bd {D : List S47} (hd : areDr D = true) : ∀ (l : List Int) (m : Int) (F : List Int) (q : Nat), (∀ x ∈ l, 0 ≤ x ∧ x < (D.length : Int)) → q + l.length ≤ 8 → 0 ≤ m → m ≤ 60 * (q : Int) → (∀ x ∈ F, 0 ≤ x ∧ x ≤ 480) →
    ∀ x ∈ fnd D l m F, 0 ≤ x ∧ x ≤ 480 := by
  intro l
  induction l with
  | nil => intro m F q _ _ _ _ h; exact h
  | cons i r ih =>
    intro m F q hin hq h0 h1 hF
    have hi := hin i List.mem_cons_self
    obtain ⟨b0, b1, b2, b3⟩ := rd_bd hd hi.1 hi.2
    simp only [List.length_cons] at hq
    simp only [fnd]
    refine ih _ _ (q + 1) (fun x hx => hin x (List.mem_cons_of_mem _ hx)) (by omega) (by omega) (by omega) (fun x hx => ?_)
    rcases List.mem_or_eq_of_mem_set hx with hx | hx
    · exact hF x hx
    · omega

theorem found_loop {D : List S47} (hd : areDr D = true) (l : List Int) (hin : ∀ x ∈ l, 0 ≤ x ∧ x < (D.length : Int)) (hl : l.length ≤ 8) (d : Nat) : ∀ (i : Nat) (m : Int) (F : List Int), i + d = l.length → F.length = D.length → 0 ≤ m → m ≤ 60 * (i : Int) →
    Ev (fun k => spec_dwFound.l0 k D F m l (l.length : Int) (i : Int)) (fnd D (l.drop i) m F) := by
  induction d with
  | zero =>
    intro i m F hi hF h0 h1
    rw [List.drop_of_length_le (by omega)]
    refine Ev.step (f := fun _ => some F) (fun k => ?_) (Ev.now _)
    simp only [spec_dwFound.l0]
    rw [if_neg (by omega)]
  | succ d ih =>
    intro i m F hi hF h0 h1
    have hlt : i < l.length := by omega
    have hx := hin _ (show rd l (i : Int) ∈ l by rw [rd_get hlt]; exact List.getElem_mem _)
    obtain ⟨b0, b1, b2, b3⟩ := rd_bd hd hx.1 hx.2
    rw [drop_get hlt]
    refine Ev.step (f := fun k => spec_dwFound.l0 k D (F.set (rd l (i : Int)).toNat (m + (rd_T47 D (rd l (i : Int))).f1)) (m + (rd_T47 D (rd l (i : Int))).f1) l (l.length : Int) ((i + 1 : Nat) : Int)) (fun k => ?_) (ih (i + 1) _ _ (by omega) (by simpa using hF) (by omega) (by omega))
    simp only [spec_dwFound.l0]
    rw [if_pos (by omega), if_pos (by omega), if_pos (by omega), if_pos hx.1, if_pos hx.2, if_pos (by omega), w64s hlt (by omega), w64 (x := m + (rd_T47 D (rd l (i : Int))).f1) (by omega) (by omega)]
theorem found_ev {D : List S47} (hd : areDr D = true) (l : List Int) (hin : ∀ x ∈ l, 0 ≤ x ∧ x < (D.length : Int)) (hl : l.length ≤ 8) : Ev (fun k => spec_dwFound.f k D l) (fnd D l 0 (List.replicate D.length 0)) := by
  have h8 := (areDr_len hd).2
  refine Ev.congr (f := fun k => spec_dwFound.l0 k D (List.replicate D.length 0) 0 l (l.length : Int) ((0 : Nat) : Int)) (fun k => ?_) (by simpa using found_loop hd l hin hl l.length 0 0 _ (by omega) (by simp) (by omega) (by omega))
  unfold spec_dwFound.f
  rw [if_pos (by omega), if_pos (by simp; omega)]
  simp

theorem rd_all {F : List Int} (h : ∀ x ∈ F, 0 ≤ x ∧ x ≤ 480) {i : Nat} (hi : i < F.length) : 0 ≤ rd F (i : Int) ∧ rd F (i : Int) ≤ 480 := by
  rw [rd_get hi]
  exact h _ (List.getElem_mem hi)
theorem dwSum_loop {D : List S47} (hd : areDr D = true) (F : List Int) (hF : F.length = D.length) (hb : ∀ x ∈ F, 0 ≤ x ∧ x ≤ 480) (d : Nat) : ∀ (i : Nat), i + d = D.length →
    Ev (fun k => spec_dwSum.l0 k D (sumN i fun k => (rd_T47 D (k : Int)).f0 * rd F (k : Int)) F (F.length : Int) (i : Int)) (sumN D.length fun k => (rd_T47 D (k : Int)).f0 * rd F (k : Int)) := by
  have h8 := (areDr_len hd).2
  have hbd : ∀ k, k < D.length → 0 ≤ (rd_T47 D (k : Int)).f0 * rd F (k : Int) ∧ (rd_T47 D (k : Int)).f0 * rd F (k : Int) ≤ 24000 := by
    intro k hk
    obtain ⟨b0, b1, _, _⟩ := rd_bd (i := (k : Int)) hd (by omega) (by omega)
    have h2 := rd_all hb (i := k) (by omega)
    exact mul_bd b0 b1 h2.1 h2.2
  induction d with
  | zero =>
    intro i hi
    obtain rfl : i = D.length := by omega
    refine Ev.step (f := fun _ => some _) (fun k => ?_) (Ev.now _)
    simp only [spec_dwSum.l0]
    rw [if_neg (by omega)]
  | succ d ih =>
    intro i hi
    have hlt : i < F.length := by omega
    have h1 := sumN_bd (n := i) (fun k hk => hbd k (by omega))
    have h2 := hbd i (by omega)
    refine Ev.step (fun k => ?_) (ih (i + 1) (by omega))
    simp only [spec_dwSum.l0]
    rw [if_pos (by omega), if_pos (by omega), if_pos (by omega), if_pos (by omega), w64s hlt (by omega), w64 (x := (rd_T47 D (i : Int)).f0 * rd F (i : Int)) (by omega) (by omega), w64 (by omega) (by omega)]
    rfl
theorem dwSum_ev {D : List S47} {l : List Int} (hs : srch D l = true) : Ev (fun k => spec_dwSum.f k D l) (cum (fun _ y => y) D l 0 0 0) := by
  have hd := srch_dr hs
  have hp := srch_perm hs
  have h8 := (areDr_len hd).2
  have hl := perm_len hp
  have hF : (fnd D l 0 (List.replicate D.length 0)).length = D.length := by rw [fnd_len]; simp
  have hb := fnd_bd hd l 0 (List.replicate D.length 0) 0 (perm_in hp) (by omega) (by omega) (by omega) (fun x hx => by rw [List.mem_replicate] at hx; omega)
  have h := dwSum_loop hd _ hF hb D.length 0 (by omega)
  have e : (sumN D.length fun k => (rd_T47 D (k : Int)).f0 * rd (fnd D l 0 (List.replicate D.length 0)) (k : Int)) = cum (fun _ y => y) D l 0 0 0 := by
    rw [← fnd_all (fun y => y) h8 hp]
    simp [part]
  rw [e] at h
  exact Ev.bind (found_ev hd l (perm_in hp) (by omega)) h

end Go.Proofs.Ytenbnempjgbibaa.X

/- ==== HmeanOpened ==== -/
/- The program's meanOpened: its contract. -/
namespace Go.Proofs.Ytenbnempjgbibaa.X
open Go.RowKit Go.Proofs.YtenbnempjgbibaaW.PrintWords Go.Proofs.YtenbnempjgbibaaW.PrintLast Go.Proofs.YtenbnempjgbibaaW.PrintMore

set_option maxHeartbeats 1000000 in
theorem meanOpened_told (w : World) : Told 58 #[] (fun p _ => wrap64 (p + 1)) w := by
  intro W p m _
  show Calls Try.prog 58 #[.int .i64 p, .int .i64 m] W _
  go_enter Try.func58, Try.ntmps58
  go_wp2
  go_ret
  exact ⟨rfl, 0, rfl⟩

def impl_meanOpened.f (k : Nat) (l0 : List (S47)) (l1 : List Int) : Option (Int × Int × Bool) := meanF (fun p _ => wrap64 (p + 1)) k l0 l1
theorem impl_meanOpened.mono : ∀ a0 a1 k, LeO (impl_meanOpened.f k a0 a1) (impl_meanOpened.f (k + 1) a0 a1) := meanF.mono _
set_option maxHeartbeats 8000000 in
set_option maxRecDepth 100000 in
theorem impl_meanOpened.calls (k : Nat) (A0 : Option Addr) (c0 : Nat) (l0 : List (S47)) (A1 : Option Addr) (c1 : Nat) (l1 : List Int) (r1 : Int) (r2 : Int) (r3 : Bool) (w : World) (hr0 : Kd.C k47 w A0 l0.length l0) (hc0 : l0.length ≤ c0) (hr1 : Kd.C (Kd.int .i64) w A1 l1.length l1) (_hc1 : l1.length ≤ c1) (h : impl_meanOpened.f k l0 l1 = some (r1, r2, r3)) :
    Calls Try.prog 45 #[.slice A0 l0.length c0, .slice A1 l1.length c1] w fun e w' => e = .returned (.tuple #[.int .i64 r1, .int .i64 r2, .bool r3]) ∧ Below w.heap.size w w' := by
  have H := Lib.hid (meanF_calls (fun p _ => wrap64 (p + 1)) 58 #[] (enters_of Try.func58 (by kernel_rfl) rfl) k A0 c0 l0 A1 c1 l1 r1 r2 r3 w hr0 hc0 hr1 (meanOpened_told w) h)
  clear h hr0 hr1 hc0
  go_enter Try.func45, Try.ntmps45
  go_wp2_with (go_at_call 57; refine H.out.mono ?_; rintro e w' ⟨rfl, hb⟩)
  go_ret3
  exact ⟨rfl, hb⟩

end Go.Proofs.Ytenbnempjgbibaa.X

/- ==== XimplLeastOpened ==== -/
namespace Go.Proofs.Ytenbnempjgbibaa.X
open Go.RowKit Go.Proofs.YtenbnempjgbibaaW.PrintWords Go.Proofs.YtenbnempjgbibaaW.PrintLast Go.Proofs.YtenbnempjgbibaaW.PrintMore
attribute [local go_sem] max2_int min2_int max_two min_two max_three min_three max_four min_four   -- for this text's walks alone
set_option linter.unusedVariables false
set_option linter.unusedSimpArgs false

/-! ### impl_LeastOpened: function 25 -/
def impl_LeastOpened.f (k : Nat) (l0 : List (S47)) : Option (Int × Int × Bool) := (impl_LikeliestFirst.f l0).bind fun bt405 => (if bt405.2 = true then ((impl_meanOpened.f k l0 bt405.1).bind fun bt409 => (some (bt409.1, bt409.2.1, bt409.2.2))) else (some (0, 0, false)))
theorem impl_LeastOpened.mono : ∀ a0 k, LeO (impl_LeastOpened.f k a0) (impl_LeastOpened.f (k + 1) a0) := by
  intro a0 k
  unfold impl_LeastOpened.f
  repeat' first
      | (with_reducible exact impl_meanOpened.mono _ _ _)
      | (with_reducible exact LeO.refl _)
      | (with_reducible exact LeO.none _)
      | (with_reducible refine LeO.ite ?_ ?_)
      | (with_reducible refine LeO.bind ?_ (fun _ => ?_))
      | exact impl_meanOpened.mono _ _ _
      | exact LeO.none _
      | refine LeO.ite ?_ ?_
      | refine LeO.bind ?_ (fun _ => ?_)
set_option maxHeartbeats 8000000 in
set_option maxRecDepth 100000 in
theorem impl_LeastOpened.calls (k : Nat) (A0 : Option Addr) (c0 : Nat) (l0 : List (S47)) (r1 : Int) (r2 : Int) (r3 : Bool) (w : World) (hr0 : Kd.C k47 w A0 l0.length l0) (hc0 : l0.length ≤ c0) (h : impl_LeastOpened.f k l0 = some (r1, r2, r3)) :
    Calls Try.prog 25 #[.slice A0 l0.length c0] w fun e w' => e = .returned (.tuple #[.int .i64 r1, .int .i64 r2, .bool r3]) ∧ Below w.heap.size w w' := by
  have HR0 := Aside0.mk hr0
  have HC0 := Aside0.mk hc0
  clear hr0 hc0
  have HB := Aside0.mk (Below.refl w.heap.size w)
  have H : ((impl_LikeliestFirst.f l0).bind fun bt405 => (if bt405.2 = true then ((impl_meanOpened.f k l0 bt405.1).bind fun bt409 => (some (bt409.1, bt409.2.1, bt409.2.2))) else (some (0, 0, false)))) = some (r1, r2, r3) := h
  clear h
  replace H := Option.bind_eq_some_iff.mp H
  obtain ⟨⟨t405, t406⟩, A20, H⟩ := H
  replace H : (if t406 = true then ((impl_meanOpened.f k l0 t405).bind fun bt409 => (some (bt409.1, bt409.2.1, bt409.2.2))) else (some (0, 0, false))) = some (r1, r2, r3) := H
  have A2 := Aside0.mk A20
  clear A20
  by_cases c3 : t406 = true
  · subst c3
    have H1 : ((impl_meanOpened.f k l0 t405).bind fun bt409 => (some (bt409.1, bt409.2.1, bt409.2.2))) = some (r1, r2, r3) := by rw [if_pos rfl] at H; exact H
    clear H
    have H := H1
    clear H1
    replace H := Option.bind_eq_some_iff.mp H
    obtain ⟨⟨t409, t410, t411⟩, A40, H⟩ := H
    replace H : (some (t409, t410, t411)) = some (r1, r2, r3) := H
    have A4 := Aside0.mk A40
    clear A40
    simp only [Option.some.injEq, Prod.mk.injEq] at H
    obtain ⟨rfl, rfl, rfl⟩ := H
    go_enter Try.func25, Try.ntmps25
    go_wp2_with (first | ((with_reducible refine gate_callee (f := 23) rfl ?_); refine goesL_ (some 9) rfl rfl Try.func23 (by kernel_rfl) rfl #[.slice A0 l0.length c0] rfl (by (try simp only [List.map_toArray, List.map_cons, List.map_nil]); first | done | rfl | (simp only [List.length_drop, List.length_take]; rfl)) ?_; (with_reducible refine (impl_LikeliestFirst.calls _ _ l0 t405 true _ ?side1 ?side2 A2.out).mono ?_); (case side1 => repeat (first | exact HR0.out | (with_reducible refine Kd.C_alloc ?_ _) | (with_reducible refine Kd.C_drewN ?_ _) | (with_reducible refine Kd.C_drew ?_))); (case side2 => exact HC0.out); rintro e w5 ⟨v407, rfl, ho0, hb⟩; refine ⟨_, rfl, ?_⟩; have n0_ := Aside0.mk (Kd.R_lower ho0 (below_size (by repeat (first | (with_reducible first | exact HB.out | apply below_alloc | apply pw_below_drewN | apply below_drew1) | exact HB.out)))); have n1_ := Aside0.mk (below_step (by repeat (first | (with_reducible first | exact HB.out | apply below_alloc | apply pw_below_drewN | apply below_drew1) | exact HB.out)) hb); clear HB; have HO408 := n0_; have HB := n1_; clear n0_ n1_; (try clear hb); (try clear hb2); (try clear hk); (try clear hi); (try clear ho0); obtain ⟨Ao6, co6, eo6⟩ := Kd.R_slice HO408.out; subst eo6) | ((with_reducible refine gate_callee (f := 45) rfl ?_); refine goesL_ (some 16) rfl rfl Try.func45 (by kernel_rfl) rfl #[.slice A0 l0.length c0, .slice Ao6 t405.length co6] rfl (by (try simp only [List.map_toArray, List.map_cons, List.map_nil]); first | done | rfl | (simp only [List.length_drop, List.length_take]; rfl)) ?_; (with_reducible refine (impl_meanOpened.calls k _ _ l0 _ _ t405 t409 t410 t411 _ ?side1 ?side2 ?side3 ?side4 A4.out).mono ?_); (case side1 => repeat (first | exact (Kd.C_below HR0.out HB.out) | (with_reducible refine Kd.C_alloc ?_ _) | (with_reducible refine Kd.C_drewN ?_ _) | (with_reducible refine Kd.C_drew ?_))); (case side2 => exact HC0.out); (case side3 => repeat (first | exact (Kd.R_reads' HO408.out).2.2 | (with_reducible refine Kd.C_alloc ?_ _) | (with_reducible refine Kd.C_drewN ?_ _) | (with_reducible refine Kd.C_drew ?_))); (case side4 => exact (Kd.R_reads' HO408.out).2.1); rintro e w7 ⟨rfl, hb⟩; refine ⟨_, rfl, ?_⟩; have n0_ := Aside0.mk (Kd.R_below (by (with_reducible repeat (first | apply Kd.R_alloc | apply Kd.R_drewN | apply Kd.R_drew)); exact HO408.out) hb); have n1_ := Aside0.mk (below_step (by repeat (first | (with_reducible first | exact HB.out | apply below_alloc | apply pw_below_drewN | apply below_drew1) | exact HB.out)) hb); clear HO408; clear HB; have HO408 := n0_; have HB := n1_; clear n0_ n1_; (try clear hb); (try clear hb2); (try clear hk); (try clear hi)))
    go_ret3
    exact ⟨by first | rfl | (simp [errW_none, errW_some] <;> rfl) | (simp [*, errW_none, errW_some] <;> rfl), by repeat (first | (with_reducible first | exact HB.out | apply below_alloc | apply pw_below_drewN | apply below_drew1) | exact HB.out)⟩
  · replace c3 := Bool.eq_false_iff.mpr c3
    subst c3
    have H1 : (some (0, 0, false)) = some (r1, r2, r3) := by rw [if_neg (show ¬ (false = true) by decide)] at H; exact H
    clear H
    have H := H1
    clear H1
    simp only [Option.some.injEq, Prod.mk.injEq] at H
    obtain ⟨rfl, rfl, rfl⟩ := H
    go_enter Try.func25, Try.ntmps25
    go_wp2_with (first | ((with_reducible refine gate_callee (f := 23) rfl ?_); refine goesL_ (some 9) rfl rfl Try.func23 (by kernel_rfl) rfl #[.slice A0 l0.length c0] rfl (by (try simp only [List.map_toArray, List.map_cons, List.map_nil]); first | done | rfl | (simp only [List.length_drop, List.length_take]; rfl)) ?_; (with_reducible refine (impl_LikeliestFirst.calls _ _ l0 t405 false _ ?side1 ?side2 A2.out).mono ?_); (case side1 => repeat (first | exact HR0.out | (with_reducible refine Kd.C_alloc ?_ _) | (with_reducible refine Kd.C_drewN ?_ _) | (with_reducible refine Kd.C_drew ?_))); (case side2 => exact HC0.out); rintro e w8 ⟨v407, rfl, ho0, hb⟩; refine ⟨_, rfl, ?_⟩; have n0_ := Aside0.mk (Kd.R_lower ho0 (below_size (by repeat (first | (with_reducible first | exact HB.out | apply below_alloc | apply pw_below_drewN | apply below_drew1) | exact HB.out)))); have n1_ := Aside0.mk (below_step (by repeat (first | (with_reducible first | exact HB.out | apply below_alloc | apply pw_below_drewN | apply below_drew1) | exact HB.out)) hb); clear HB; have HO408 := n0_; have HB := n1_; clear n0_ n1_; (try clear hb); (try clear hb2); (try clear hk); (try clear hi); (try clear ho0)))
    go_ret3
    exact ⟨by first | rfl | (simp [errW_none, errW_some] <;> rfl) | (simp [*, errW_none, errW_some] <;> rfl), by repeat (first | (with_reducible first | exact HB.out | apply below_alloc | apply pw_below_drewN | apply below_drew1) | exact HB.out)⟩

end Go.Proofs.Ytenbnempjgbibaa.X

/- ==== XspecdwOpened ==== -/
namespace Go.Proofs.Ytenbnempjgbibaa.X
open Go.RowKit Go.Proofs.YtenbnempjgbibaaW.PrintWords Go.Proofs.YtenbnempjgbibaaW.PrintLast Go.Proofs.YtenbnempjgbibaaW.PrintMore
attribute [local go_sem] max2_int min2_int max_two min_two max_three min_three max_four min_four   -- for this text's walks alone
set_option linter.unusedVariables false
set_option linter.unusedSimpArgs false

/-! ### spec_dwOpened: function 44 -/
def spec_dwOpened.l0 : Nat → List (S47) → Int → List Int → Int → Int → Option (Int)
  | 0, _, _, _, _, _ => none
  | k + 1, x0, x5, x8, x9, x10 => if x10 < x9 then (if 0 ≤ x10 then (if x10 < (x8.length : Int) then (if 0 ≤ (rd x8 x10) then (if (rd x8 x10) < (x0.length : Int) then (spec_dwOpened.l0 k x0 (wrap64 (x5 + (wrap64 (((rd_T47 x0 (rd x8 x10)).f0) * (wrap64 (x10 + 1)))))) x8 x9 (wrap64 (x10 + 1))) else (none)) else (none)) else (none)) else (none)) else (some x5)
def spec_dwOpened.f (k : Nat) (l0 : List (S47)) (l1 : List Int) : Option (Int) := spec_dwOpened.l0 k l0 0 l1 (l1.length : Int) 0
theorem spec_dwOpened.mono_l : ∀ k, (∀ y0 y1 y2 y3 y4, LeO (spec_dwOpened.l0 k y0 y1 y2 y3 y4) (spec_dwOpened.l0 (k + 1) y0 y1 y2 y3 y4))
  | 0 => fun _ _ _ _ _ r h => by simp [spec_dwOpened.l0] at h
  | k + 1 => by
    have ih0 := spec_dwOpened.mono_l k
    · intro y0 y1 y2 y3 y4
      unfold spec_dwOpened.l0
      repeat' first
      | (with_reducible exact ih0 _ _ _ _ _)
      | (with_reducible exact LeO.refl _)
      | (with_reducible exact LeO.none _)
      | (with_reducible refine LeO.ite ?_ ?_)
      | (with_reducible refine LeO.bind ?_ (fun _ => ?_))
      | exact ih0 _ _ _ _ _
      | exact LeO.none _
      | refine LeO.ite ?_ ?_
      | refine LeO.bind ?_ (fun _ => ?_)
theorem spec_dwOpened.mono : ∀ a0 a1 k, LeO (spec_dwOpened.f k a0 a1) (spec_dwOpened.f (k + 1) a0 a1) := by
  intro a0 a1 k
  have ih0 := spec_dwOpened.mono_l k
  unfold spec_dwOpened.f
  repeat' first
      | (with_reducible exact ih0 _ _ _ _ _)
      | (with_reducible exact LeO.refl _)
      | (with_reducible exact LeO.none _)
      | (with_reducible refine LeO.ite ?_ ?_)
      | (with_reducible refine LeO.bind ?_ (fun _ => ?_))
      | exact ih0 _ _ _ _ _
      | exact LeO.none _
      | refine LeO.ite ?_ ?_
      | refine LeO.bind ?_ (fun _ => ?_)
set_option maxHeartbeats 8000000 in
set_option maxRecDepth 100000 in
theorem spec_dwOpened.calls (k : Nat) (A0 : Option Addr) (c0 : Nat) (l0 : List (S47)) (A1 : Option Addr) (c1 : Nat) (l1 : List Int) (r : Int) (w : World) (hr0 : Kd.C k47 w A0 l0.length l0) (hc0 : l0.length ≤ c0) (hr1 : Kd.C (Kd.int .i64) w A1 l1.length l1) (hc1 : l1.length ≤ c1) (h : spec_dwOpened.f k l0 l1 = some r) :
    Calls Try.prog 44 #[.slice A0 l0.length c0, .slice A1 l1.length c1] w fun e w' => e = .returned (.int .i64 r) ∧ Drawn0 w w' := by
  have HR0 := Aside0.mk hr0
  have HC0 := Aside0.mk hc0
  clear hr0 hc0
  have HR1 := Aside0.mk hr1
  have HC1 := Aside0.mk hc1
  clear hr1 hc1
  have H : (spec_dwOpened.l0 k l0 0 l1 (l1.length : Int) 0) = some r := h
  clear h
  have H' := Aside0.mk H
  clear H
  go_enter Try.func44, Try.ntmps44
  go_wp2
  go_loopg [5, 10] k (fun kq v5 v10 w' => ∃ (x5_1 : Int) (x10_1 : Int), v5 = .int .i64 x5_1 ∧ v10 = .int .i64 x10_1 ∧ Aside0 (spec_dwOpened.l0 kq l0 x5_1 l1 (l1.length : Int) x10_1 = some r) ∧ Aside0 (kq ≤ k) ∧ Drawn0 w w')
  case atStart => exact ⟨(0), (0), (by first | rfl | (simp; done) | (simp [*]; done)), (by first | rfl | (simp; done) | (simp [*]; done)), H', ⟨Nat.le_refl _⟩, by repeat (first | exact Drawn0.refl _ | apply Drawn0.step)⟩
  case round =>
    clear H'
    try clear c1
    try clear p2
    obtain ⟨x5_1, x10_1, rfl, rfl, HA, HK1, ⟨m1, rfl⟩⟩ := hrel
    cases gk with
    | zero => exact absurd HA.out (by simp [spec_dwOpened.l0])
    | succ k1 =>
      have H := HA.out
      clear HA
      simp only [spec_dwOpened.l0] at H
      by_cases c3 : x10_1 < (l1.length : Int)
      · rw [if_pos c3] at H
        have c3b0 : decide (x10_1 < (l1.length : Int)) = true := decide_eq_true c3
        clear c3
        by_cases c4 : 0 ≤ x10_1
        · rw [if_pos c4] at H
          have c4b0 : decide (0 ≤ x10_1) = true := decide_eq_true c4
          clear c4
          by_cases c5 : x10_1 < (l1.length : Int)
          · rw [if_pos c5] at H
            have c5b0 : decide (x10_1 < (l1.length : Int)) = true := decide_eq_true c5
            clear c5
            by_cases c6 : 0 ≤ (rd l1 x10_1)
            · rw [if_pos c6] at H
              have c6b0 : decide (0 ≤ (rd l1 x10_1)) = true := decide_eq_true c6
              clear c6
              by_cases c7 : (rd l1 x10_1) < (l0.length : Int)
              · rw [if_pos c7] at H
                have c7b0 : decide ((rd l1 x10_1) < (l0.length : Int)) = true := decide_eq_true c7
                clear c7
                have H' := Aside0.mk H
                clear H
                have p395 : 0 ≤ (x10_1 : Int) := of_decide_eq_true (by first | (with_reducible assumption) | assumption)
                have q395 : x10_1 < (l1.length : Int) := of_decide_eq_true (by first | (with_reducible assumption) | assumption)
                obtain ⟨ad395, e395, hx395_0⟩ := Kd.at_int HR1.out x10_1 p395 q395
                cases e395
                replace p395 := eq_true p395
                replace q395 := eq_true q395
                have p396 : 0 ≤ ((rd l1 x10_1) : Int) := of_decide_eq_true (by first | (with_reducible assumption) | assumption)
                have q396 : (rd l1 x10_1) < (l0.length : Int) := of_decide_eq_true (by first | (with_reducible assumption) | assumption)
                obtain ⟨ad396, e396, hx396_0, hx396_1⟩ := at_T47 HR0.out (rd l1 x10_1) p396 q396
                cases e396
                replace p396 := eq_true p396
                replace q396 := eq_true q396
                go_wp2
                go_roundg k1
                case measure => have := HK1.out; omega
                case rel => exact ⟨(wrap64 (x5_1 + (wrap64 (((rd_T47 l0 (rd l1 x10_1)).f0) * (wrap64 (x10_1 + 1)))))), (wrap64 (x10_1 + 1)), (by first | rfl | (simp; done) | (simp [*]; done)), (by first | rfl | (simp; done) | (simp [*]; done)), H', ⟨by have := HK1.out; omega⟩, by repeat (first | exact Drawn0.refl _ | apply Drawn0.step)⟩
              · rw [if_neg c7] at H
                exact absurd H (by simp)
            · rw [if_neg c6] at H
              exact absurd H (by simp)
          · rw [if_neg c5] at H
            exact absurd H (by simp)
        · rw [if_neg c4] at H
          exact absurd H (by simp)
      · rw [if_neg c3] at H
        have c3b0 : decide (x10_1 < (l1.length : Int)) = false := decide_eq_false c3
        clear c3
        obtain rfl := Option.some.inj H
        go_wp2
        go_ret
        exact ⟨by first | rfl | (simp; done) | (simp [*]; done), by repeat (first | exact Drawn0.refl _ | apply Drawn0.step)⟩

end Go.Proofs.Ytenbnempjgbibaa.X

/- ==== XspecLeastOpened ==== -/
namespace Go.Proofs.Ytenbnempjgbibaa.X
open Go.RowKit Go.Proofs.YtenbnempjgbibaaW.PrintWords Go.Proofs.YtenbnempjgbibaaW.PrintLast Go.Proofs.YtenbnempjgbibaaW.PrintMore
attribute [local go_sem] max2_int min2_int max_two min_two max_three min_three max_four min_four   -- for this text's walks alone
set_option linter.unusedVariables false
set_option linter.unusedSimpArgs false

/-! ### spec_LeastOpened: function 24 -/
def spec_LeastOpened.f (k : Nat) (l0 : List (S47)) : Option (Int × Int × Bool) := (spec_dwGood.f k l0).bind fun t397 => (if t397 = true then ((spec_dwSort.f k l0 true).bind fun t398 => ((spec_dwOpened.f k l0 t398).bind fun t401 => ((spec_dwAll.f k l0).bind fun t402 => ((spec_gvLow.f k t401 t402).bind fun bt403 => (some (bt403.1, bt403.2, true)))))) else (some (0, 0, false)))
theorem spec_LeastOpened.mono : ∀ a0 k, LeO (spec_LeastOpened.f k a0) (spec_LeastOpened.f (k + 1) a0) := by
  intro a0 k
  unfold spec_LeastOpened.f
  repeat' first
      | (with_reducible exact spec_dwAll.mono _ _)
      | (with_reducible exact spec_dwGood.mono _ _)
      | (with_reducible exact spec_dwOpened.mono _ _ _)
      | (with_reducible exact spec_dwSort.mono _ _ _)
      | (with_reducible exact spec_gvLow.mono _ _ _)
      | (with_reducible exact LeO.refl _)
      | (with_reducible exact LeO.none _)
      | (with_reducible refine LeO.ite ?_ ?_)
      | (with_reducible refine LeO.bind ?_ (fun _ => ?_))
      | exact spec_dwAll.mono _ _
      | exact spec_dwGood.mono _ _
      | exact spec_dwOpened.mono _ _ _
      | exact spec_dwSort.mono _ _ _
      | exact spec_gvLow.mono _ _ _
      | exact LeO.none _
      | refine LeO.ite ?_ ?_
      | refine LeO.bind ?_ (fun _ => ?_)
set_option maxHeartbeats 8000000 in
set_option maxRecDepth 100000 in
theorem spec_LeastOpened.calls (k : Nat) (A0 : Option Addr) (c0 : Nat) (l0 : List (S47)) (r1 : Int) (r2 : Int) (r3 : Bool) (w : World) (hr0 : Kd.C k47 w A0 l0.length l0) (hc0 : l0.length ≤ c0) (h : spec_LeastOpened.f k l0 = some (r1, r2, r3)) :
    Calls Try.prog 24 #[.slice A0 l0.length c0] w fun e w' => e = .returned (.tuple #[.int .i64 r1, .int .i64 r2, .bool r3]) ∧ Below w.heap.size w w' := by
  have HR0 := Aside0.mk hr0
  have HC0 := Aside0.mk hc0
  clear hr0 hc0
  have HB := Aside0.mk (Below.refl w.heap.size w)
  have H : ((spec_dwGood.f k l0).bind fun t397 => (if t397 = true then ((spec_dwSort.f k l0 true).bind fun t398 => ((spec_dwOpened.f k l0 t398).bind fun t401 => ((spec_dwAll.f k l0).bind fun t402 => ((spec_gvLow.f k t401 t402).bind fun bt403 => (some (bt403.1, bt403.2, true)))))) else (some (0, 0, false)))) = some (r1, r2, r3) := h
  clear h
  replace H := Option.bind_eq_some_iff.mp H
  obtain ⟨t397, A20, H⟩ := H
  replace H : (if t397 = true then ((spec_dwSort.f k l0 true).bind fun t398 => ((spec_dwOpened.f k l0 t398).bind fun t401 => ((spec_dwAll.f k l0).bind fun t402 => ((spec_gvLow.f k t401 t402).bind fun bt403 => (some (bt403.1, bt403.2, true)))))) else (some (0, 0, false))) = some (r1, r2, r3) := H
  have A2 := Aside0.mk A20
  clear A20
  by_cases c3 : t397 = true
  · subst c3
    have H1 : ((spec_dwSort.f k l0 true).bind fun t398 => ((spec_dwOpened.f k l0 t398).bind fun t401 => ((spec_dwAll.f k l0).bind fun t402 => ((spec_gvLow.f k t401 t402).bind fun bt403 => (some (bt403.1, bt403.2, true)))))) = some (r1, r2, r3) := by rw [if_pos rfl] at H; exact H
    clear H
    have H := H1
    clear H1
    replace H := Option.bind_eq_some_iff.mp H
    obtain ⟨t398, A40, H⟩ := H
    replace H : ((spec_dwOpened.f k l0 t398).bind fun t401 => ((spec_dwAll.f k l0).bind fun t402 => ((spec_gvLow.f k t401 t402).bind fun bt403 => (some (bt403.1, bt403.2, true))))) = some (r1, r2, r3) := H
    have A4 := Aside0.mk A40
    clear A40
    replace H := Option.bind_eq_some_iff.mp H
    obtain ⟨t401, A50, H⟩ := H
    replace H : ((spec_dwAll.f k l0).bind fun t402 => ((spec_gvLow.f k t401 t402).bind fun bt403 => (some (bt403.1, bt403.2, true)))) = some (r1, r2, r3) := H
    have A5 := Aside0.mk A50
    clear A50
    replace H := Option.bind_eq_some_iff.mp H
    obtain ⟨t402, A60, H⟩ := H
    replace H : ((spec_gvLow.f k t401 t402).bind fun bt403 => (some (bt403.1, bt403.2, true))) = some (r1, r2, r3) := H
    have A6 := Aside0.mk A60
    clear A60
    replace H := Option.bind_eq_some_iff.mp H
    obtain ⟨⟨t403, t404⟩, A70, H⟩ := H
    replace H : (some (t403, t404, true)) = some (r1, r2, r3) := H
    have A7 := Aside0.mk A70
    clear A70
    simp only [Option.some.injEq, Prod.mk.injEq] at H
    obtain ⟨rfl, rfl, rfl⟩ := H
    go_enter Try.func24, Try.ntmps24
    go_wp2_with (first | ((with_reducible refine gate_callee (f := 28) rfl ?_); refine goesL_ (some 8) rfl rfl Try.func28 (by kernel_rfl) rfl #[.slice A0 l0.length c0] rfl (by (try simp only [List.map_toArray, List.map_cons, List.map_nil]); first | done | rfl | (simp only [List.length_drop, List.length_take]; rfl)) ?_; (with_reducible refine (spec_dwGood.calls k _ _ l0 true _ ?side1 ?side2 A2.out).mono ?_); (case side1 => repeat (first | exact HR0.out | (with_reducible refine Kd.C_alloc ?_ _) | (with_reducible refine Kd.C_drewN ?_ _) | (with_reducible refine Kd.C_drew ?_))); (case side2 => exact HC0.out); rintro e w8 ⟨rfl, hb⟩; refine ⟨_, rfl, ?_⟩; have n0_ := Aside0.mk (below_step (by repeat (first | (with_reducible first | exact HB.out | apply below_alloc | apply pw_below_drewN | apply below_drew1) | exact HB.out)) hb); clear HB; have HB := n0_; clear n0_; (try clear hb); (try clear hb2); (try clear hk); (try clear hi)) | ((with_reducible refine gate_callee (f := 39) rfl ?_); refine goesL_ (some 13) rfl rfl Try.func39 (by kernel_rfl) rfl #[.slice A0 l0.length c0, .bool true] rfl (by (try simp only [List.map_toArray, List.map_cons, List.map_nil]); first | done | rfl | (simp only [List.length_drop, List.length_take]; rfl)) ?_; (with_reducible refine (spec_dwSort.calls k _ _ l0 true t398 _ ?side1 ?side2 A4.out).mono ?_); (case side1 => repeat (first | exact (Kd.C_below HR0.out HB.out) | (with_reducible refine Kd.C_alloc ?_ _) | (with_reducible refine Kd.C_drewN ?_ _) | (with_reducible refine Kd.C_drew ?_))); (case side2 => exact HC0.out); rintro e w9 ⟨v399, rfl, ho0, hb⟩; refine ⟨_, rfl, ?_⟩; have n0_ := Aside0.mk (Kd.R_lower ho0 (below_size (by repeat (first | (with_reducible first | exact HB.out | apply below_alloc | apply pw_below_drewN | apply below_drew1) | exact HB.out)))); have n1_ := Aside0.mk (below_step (by repeat (first | (with_reducible first | exact HB.out | apply below_alloc | apply pw_below_drewN | apply below_drew1) | exact HB.out)) hb); clear HB; have HO400 := n0_; have HB := n1_; clear n0_ n1_; (try clear hb); (try clear hb2); (try clear hk); (try clear hi); (try clear ho0); obtain ⟨Ao10, co10, eo10⟩ := Kd.R_slice HO400.out; subst eo10) | ((with_reducible refine gate_callee (f := 44) rfl ?_); refine goesL_ (some 14) rfl rfl Try.func44 (by kernel_rfl) rfl #[.slice A0 l0.length c0, .slice Ao10 t398.length co10] rfl (by (try simp only [List.map_toArray, List.map_cons, List.map_nil]); first | done | rfl | (simp only [List.length_drop, List.length_take]; rfl)) ?_; (with_reducible refine (spec_dwOpened.calls k _ _ l0 _ _ t398 t401 _ ?side1 ?side2 ?side3 ?side4 A5.out).mono ?_); (case side1 => repeat (first | exact (Kd.C_below HR0.out HB.out) | (with_reducible refine Kd.C_alloc ?_ _) | (with_reducible refine Kd.C_drewN ?_ _) | (with_reducible refine Kd.C_drew ?_))); (case side2 => exact HC0.out); (case side3 => repeat (first | exact (Kd.R_reads' HO400.out).2.2 | (with_reducible refine Kd.C_alloc ?_ _) | (with_reducible refine Kd.C_drewN ?_ _) | (with_reducible refine Kd.C_drew ?_))); (case side4 => exact (Kd.R_reads' HO400.out).2.1); rintro e w' ⟨rfl, ⟨nd, rfl⟩⟩; refine ⟨_, rfl, ?_⟩) | ((with_reducible refine gate_callee (f := 32) rfl ?_); refine goesL_ (some 16) rfl rfl Try.func32 (by kernel_rfl) rfl #[.slice A0 l0.length c0] rfl (by (try simp only [List.map_toArray, List.map_cons, List.map_nil]); first | done | rfl | (simp only [List.length_drop, List.length_take]; rfl)) ?_; (with_reducible refine (spec_dwAll.calls k _ _ l0 t402 _ ?side1 ?side2 A6.out).mono ?_); (case side1 => repeat (first | exact (Kd.C_below HR0.out (by repeat (first | (with_reducible first | exact HB.out | apply below_alloc | apply pw_below_drewN | apply below_drew1) | exact HB.out))) | (with_reducible refine Kd.C_alloc ?_ _) | (with_reducible refine Kd.C_drewN ?_ _) | (with_reducible refine Kd.C_drew ?_))); (case side2 => exact HC0.out); rintro e w11 ⟨rfl, hb⟩; refine ⟨_, rfl, ?_⟩; have n0_ := Aside0.mk (Kd.R_below (by (with_reducible repeat (first | apply Kd.R_alloc | apply Kd.R_drewN | apply Kd.R_drew)); exact HO400.out) hb); have n1_ := Aside0.mk (below_step (by repeat (first | (with_reducible first | exact HB.out | apply below_alloc | apply pw_below_drewN | apply below_drew1) | exact HB.out)) hb); clear HO400; clear HB; have HO400 := n0_; have HB := n1_; clear n0_ n1_; (try clear hb); (try clear hb2); (try clear hk); (try clear hi)) | ((with_reducible refine gate_callee (f := 31) rfl ?_); refine goesL_ (some 17) rfl rfl Try.func31 (by kernel_rfl) rfl #[.int .i64 t401, .int .i64 t402] rfl (by (try simp only [List.map_toArray, List.map_cons, List.map_nil]); first | done | rfl | (simp only [List.length_drop, List.length_take]; rfl)) ?_; (with_reducible refine (spec_gvLow.calls k t401 t402 t403 t404 _ A7.out).mono ?_); rintro e w' ⟨rfl, ⟨nd, rfl⟩⟩; refine ⟨_, rfl, ?_⟩))
    go_ret3
    exact ⟨by first | rfl | (simp [errW_none, errW_some] <;> rfl) | (simp [*, errW_none, errW_some] <;> rfl), by repeat (first | (with_reducible first | exact HB.out | apply below_alloc | apply pw_below_drewN | apply below_drew1) | exact HB.out)⟩
  · replace c3 := Bool.eq_false_iff.mpr c3
    subst c3
    have H1 : (some (0, 0, false)) = some (r1, r2, r3) := by rw [if_neg (show ¬ (false = true) by decide)] at H; exact H
    clear H
    have H := H1
    clear H1
    simp only [Option.some.injEq, Prod.mk.injEq] at H
    obtain ⟨rfl, rfl, rfl⟩ := H
    go_enter Try.func24, Try.ntmps24
    go_wp2_with (first | ((with_reducible refine gate_callee (f := 28) rfl ?_); refine goesL_ (some 8) rfl rfl Try.func28 (by kernel_rfl) rfl #[.slice A0 l0.length c0] rfl (by (try simp only [List.map_toArray, List.map_cons, List.map_nil]); first | done | rfl | (simp only [List.length_drop, List.length_take]; rfl)) ?_; (with_reducible refine (spec_dwGood.calls k _ _ l0 false _ ?side1 ?side2 A2.out).mono ?_); (case side1 => repeat (first | exact HR0.out | (with_reducible refine Kd.C_alloc ?_ _) | (with_reducible refine Kd.C_drewN ?_ _) | (with_reducible refine Kd.C_drew ?_))); (case side2 => exact HC0.out); rintro e w12 ⟨rfl, hb⟩; refine ⟨_, rfl, ?_⟩; have n0_ := Aside0.mk (below_step (by repeat (first | (with_reducible first | exact HB.out | apply below_alloc | apply pw_below_drewN | apply below_drew1) | exact HB.out)) hb); clear HB; have HB := n0_; clear n0_; (try clear hb); (try clear hb2); (try clear hk); (try clear hi)))
    go_ret3
    exact ⟨by first | rfl | (simp [errW_none, errW_some] <;> rfl) | (simp [*, errW_none, errW_some] <;> rfl), by repeat (first | (with_reducible first | exact HB.out | apply below_alloc | apply pw_below_drewN | apply below_drew1) | exact HB.out)⟩

end Go.Proofs.Ytenbnempjgbibaa.X

/- ==== PlLeast ==== -/
/- Plain laws, no program in sight: LeastSearch, LeastOpened of both. -/
namespace Go.Proofs.Ytenbnempjgbibaa.X
open Go.RowKit Go.Proofs.YtenbnempjgbibaaW.PrintWords Go.Proofs.YtenbnempjgbibaaW.PrintLast Go.Proofs.YtenbnempjgbibaaW.PrintMore

theorem cum_congr {t1 t2 : Int → Int → Int} {D : List S47} (h : ∀ p m, 0 ≤ p → p ≤ 8 → t1 p m = t2 p m) : ∀ (l : List Int) (p m s : Int), 0 ≤ p → p + l.length ≤ 8 → cum t1 D l p m s = cum t2 D l p m s := by
  intro l
  induction l with
  | nil => intros; rfl
  | cons i r ih =>
    intro p m s h0 h1
    simp only [List.length_cons] at h1
    simp only [cum]
    rw [h p _ h0 (by omega)]
    exact ih _ _ _ (by omega) (by omega)
theorem cum_nn {told : Int → Int → Int} {D : List S47} (hd : areDr D = true) (ht : ∀ p m, 0 ≤ p → p ≤ 8 → 0 ≤ m → m ≤ 480 → 0 ≤ told p m ∧ told p m ≤ 480) :
    ∀ (l : List Int) (p m s : Int) (q : Nat), (∀ x ∈ l, 0 ≤ x ∧ x < (D.length : Int)) → q + l.length ≤ 8 → p = (q : Int) → 0 ≤ m → m ≤ 60 * (q : Int) → 0 ≤ s → 0 ≤ cum told D l p m s := by
  intro l
  induction l with
  | nil => intro p m s q _ _ _ _ _ h; exact h
  | cons i r ih =>
    intro p m s q hin hq hp h0 h1 h2
    have hi := hin i List.mem_cons_self
    obtain ⟨b0, b1, b2, b3⟩ := rd_bd hd hi.1 hi.2
    simp only [List.length_cons] at hq
    have ht' := ht p (m + (rd_T47 D i).f1) (by omega) (by omega) (by omega) (by omega)
    have hm := mul_bd b0 b1 ht'.1 ht'.2
    simp only [cum]
    exact ih (p + 1) _ _ (q + 1) (fun x hx => hin x (List.mem_cons_of_mem _ hx)) (by omega) (by omega) (by omega) (by omega) (by omega)

theorem mean_both (told : Int → Int → Int) {D : List S47} {l : List Int} (hs : srch D l = true) (ht : ∀ p m, 0 ≤ p → p ≤ 8 → 0 ≤ m → m ≤ 480 → 0 ≤ told p m ∧ told p m ≤ 480) :
    ∃ a b : Int, Ev (fun k => spec_gvLow.f k (cum told D l 0 0 0) (sumW D)) (a, b) ∧ Ev (fun k => meanF told k D l) (a, b, true) := by
  have hd := srch_dr hs
  have hp := srch_perm hs
  have h8 := (areDr_len hd).2
  have hl := perm_len hp
  have hin := perm_in hp
  obtain ⟨a, b, e1, e2⟩ := frac_ev (cum told D l 0 0 0) (sumW D) (cum_nn hd ht l 0 0 0 0 hin (by omega) (by omega) (by omega) (by omega) (by omega)) (areDr_pos hd)
  refine ⟨a, b, e1, ?_⟩
  have hia : inAll D.length l = true := by
    unfold inAll
    rw [List.all_eq_true]
    intro x hx
    simpa using hin x hx
  have hm := meanSum_cum hd ht l 0 0 0 0 hin (by omega) (by omega) (by omega) (by omega) (by omega) (by omega)
  refine Ev.congr (f := fun k => (impl_weights.f k D).bind fun t => impl_fraction.f k (cum told D l 0 0 0) t) (fun k => ?_) (Ev.bind (weights_ev D (by omega) (okW_of (areDr_good hd))) e2)
  unfold meanF
  rw [if_pos hia, hm]

theorem opened_loop {D : List S47} (hd : areDr D = true) (l : List Int) (hin : ∀ x ∈ l, 0 ≤ x ∧ x < (D.length : Int)) (hl : l.length ≤ 8) (d : Nat) : ∀ (i : Nat) (m s : Int), i + d = l.length → 0 ≤ s → s ≤ 24000 * (i : Int) →
    Ev (fun k => spec_dwOpened.l0 k D s l (l.length : Int) (i : Int)) (cum (fun p _ => p + 1) D (l.drop i) (i : Int) m s) := by
  induction d with
  | zero =>
    intro i m s hi h0 h1
    rw [List.drop_of_length_le (by omega)]
    refine Ev.step (f := fun _ => some s) (fun k => ?_) (Ev.now _)
    simp only [spec_dwOpened.l0]
    rw [if_neg (by omega)]
  | succ d ih =>
    intro i m s hi h0 h1
    have hlt : i < l.length := by omega
    have hx := hin _ (show rd l (i : Int) ∈ l by rw [rd_get hlt]; exact List.getElem_mem _)
    obtain ⟨b0, b1, b2, b3⟩ := rd_bd hd hx.1 hx.2
    have hm := mul_bd (a := (rd_T47 D (rd l (i : Int))).f0) (b := ((i + 1 : Nat) : Int)) (A := 50) (B := 480) b0 b1 (by omega) (by omega)
    rw [drop_get hlt]
    simp only [cum]
    have e : ((i : Int) + 1) = ((i + 1 : Nat) : Int) := by omega
    rw [e]
    refine Ev.step (f := fun k => spec_dwOpened.l0 k D (s + (rd_T47 D (rd l (i : Int))).f0 * ((i + 1 : Nat) : Int)) l (l.length : Int) ((i + 1 : Nat) : Int)) (fun k => ?_) (ih (i + 1) _ _ (by omega) (by omega) (by omega))
    simp only [spec_dwOpened.l0]
    rw [if_pos (by omega), if_pos (by omega), if_pos (by omega), if_pos hx.1, if_pos hx.2, w64s hlt (by omega), w64 (x := (rd_T47 D (rd l (i : Int))).f0 * ((i + 1 : Nat) : Int)) (by omega) (by omega), w64 (by omega) (by omega)]
theorem srt_srch {D : List S47} (hd : areDr D = true) (lt : Int → Int → Bool) : srch D (srtI lt D.length) = true := by
  unfold srch isPerm
  rw [hd, srtI_len, decide_eq_true rfl, decide_eq_true (srtI_nd lt D.length)]
  have : inAl D.length (srtI lt D.length) = true := by
    unfold inAl
    rw [List.all_eq_true]
    intro x hx
    have := srtI_in lt D.length x hx
    simp [inB]
    omega
  rw [this]
  rfl
theorem LeastSearch_both (D : List S47) : ∃ r, Ev (fun k => spec_LeastSearch.f k D) r ∧ Ev (fun k => impl_LeastSearch.f k D) r := by
  have h := dwGood_ev D
  cases hd : areDr D with
  | false =>
    rw [hd] at h
    refine ⟨(0, 0, false), Ev.bind h (Ev.congr (fun k => by rw [if_neg (by decide)]) (Ev.now _)), Ev.congr (f := fun _ => some (0, 0, false)) (fun k => ?_) (Ev.now _)⟩
    simp [impl_LeastSearch.f, impl_BestSearch.f, hd]
  | true =>
    rw [hd] at h
    have hs := srt_srch hd (ltI cB D)
    obtain ⟨a, b, e1, e2⟩ := mean_both (fun _ m => m) hs (fun p m _ _ h3 h4 => ⟨h3, h4⟩)
    have e3 : Ev (fun k => impl_meanSearch.f k D (srtI (ltI cB D) D.length)) (a, b, true) := e2
    refine ⟨(a, b, true), Ev.bind h (Ev.congr (fun k => by rw [if_pos rfl]) (Ev.bind (dwSort_ev hd false) (Ev.bind (dwSum_ev hs) (Ev.bind (dwAll_ev D (by have := (areDr_len hd).2; omega) (okW_of (areDr_good hd))) (Ev.bind (f := fun _ c => some (c.1, c.2, true)) e1 (Ev.now _)))))), Ev.congr (f := fun k => (impl_meanSearch.f k D (srtI (ltI cB D) D.length)).bind fun b => some (b.1, b.2.1, b.2.2)) (fun k => ?_) (Ev.bind (f := fun _ b => some (b.1, b.2.1, b.2.2)) e3 (Ev.now _))⟩
    simp [impl_LeastSearch.f, impl_BestSearch.f, hd, ord_srt hd]
theorem LeastOpened_both (D : List S47) : ∃ r, Ev (fun k => spec_LeastOpened.f k D) r ∧ Ev (fun k => impl_LeastOpened.f k D) r := by
  have h := dwGood_ev D
  cases hd : areDr D with
  | false =>
    rw [hd] at h
    refine ⟨(0, 0, false), Ev.bind h (Ev.congr (fun k => by rw [if_neg (by decide)]) (Ev.now _)), Ev.congr (f := fun _ => some (0, 0, false)) (fun k => ?_) (Ev.now _)⟩
    simp [impl_LeastOpened.f, impl_LikeliestFirst.f, hd]
  | true =>
    rw [hd] at h
    have hs := srt_srch hd (ltI cL D)
    have hp := srch_perm hs
    have h8 := (areDr_len hd).2
    have hl := perm_len hp
    have hw : ∀ p : Int, 0 ≤ p → p ≤ 8 → wrap64 (p + 1) = p + 1 := fun p a b => w64 (by omega) (by omega)
    obtain ⟨a, b, e1, e2⟩ := mean_both (fun p _ => wrap64 (p + 1)) hs (fun p m h3 h4 _ _ => by rw [hw p h3 h4]; omega)
    rw [cum_congr (t2 := fun p _ => p + 1) (fun p m h3 h4 => hw p h3 h4) _ 0 0 0 (by omega) (by omega)] at e1
    have ho : Ev (fun k => spec_dwOpened.f k D (srtI (ltI cL D) D.length)) (cum (fun p _ => p + 1) D (srtI (ltI cL D) D.length) 0 0 0) := by
      simpa [spec_dwOpened.f] using opened_loop hd _ (perm_in hp) (by omega) (srtI (ltI cL D) D.length).length 0 0 0 (by omega) (by omega) (by omega)
    have e3 : Ev (fun k => impl_meanOpened.f k D (srtI (ltI cL D) D.length)) (a, b, true) := e2
    refine ⟨(a, b, true), Ev.bind h (Ev.congr (fun k => by rw [if_pos rfl]) (Ev.bind (dwSort_ev hd true) (Ev.bind ho (Ev.bind (dwAll_ev D (by omega) (okW_of (areDr_good hd))) (Ev.bind (f := fun _ c => some (c.1, c.2, true)) e1 (Ev.now _)))))), Ev.congr (f := fun k => (impl_meanOpened.f k D (srtI (ltI cL D) D.length)).bind fun b => some (b.1, b.2.1, b.2.2)) (fun k => ?_) (Ev.bind (f := fun _ b => some (b.1, b.2.1, b.2.2)) e3 (Ev.now _))⟩
    simp [impl_LeastOpened.f, impl_LikeliestFirst.f, hd, ord_srt hd]
end Go.Proofs.Ytenbnempjgbibaa.X

/- ==== Open ==== -/
/- How an argument that is a list of drawers lies in memory. -/
namespace Go.Proofs.Ytenbnempjgbibaa.X
open Go.RowKit Go.Proofs.YtenbnempjgbibaaW.PrintWords Go.Proofs.YtenbnempjgbibaaW.PrintLast Go.Proofs.YtenbnempjgbibaaW.PrintMore

section
variable {H : Type} {enc : TypeId × Value → H} {P : Program} {w : World} {base : Nat} {spare : Nat → Bool} {held : Bool}
/-- A slice of structs of two ints, read as data, lies as a row of such. -/
theorem open_twos {t e : TypeId} {f0 f1 : Field} {fuel : Nat} {cs : List Value} {x : DataW H × List MemPlace} (ht : P.underlying t = some (.slice e)) (he : P.underlying e = some (.struct #[f0, f1]))
    (u0 : P.underlying f0.type = some (.int .i64)) (u1 : P.underlying f1.type = some (.int .i64)) (o0 : f0.offset = 0) (o1 : f1.offset = 1) (c0 : P.cellsOf f0.type = 1) (c1 : P.cellsOf f1.type = 1) (hC : P.cellsOf e = 2)
    (h : DataW.trod enc P w base spare held fuel t cs = some x) :
    ∃ (A : Option Addr) (len cap : Nat) (zs : List S49), cs = [.slice A len cap] ∧ len ≤ cap ∧ len ≤ maxLen ∧ zs.length = len ∧ Kd.C k49 w A len zs ∧
      (x.1 = .nil ∧ len = 0 ∨ ∃ els rest, x.1 = .slice els rest ∧ els.length = len) := by
  rcases Go.Deep.open_slice ht h with ⟨rfl, rfl⟩ | ⟨a, len, cap, m, n, D, Pl, rfl, _, hl, hm, hmm, rfl, hi⟩
  · exact ⟨none, 0, 0, [], rfl, Nat.le_refl _, Nat.zero_le _, rfl, ⟨rfl, by omega, fun hp => absurd hp (by omega)⟩, .inl ⟨rfl, rfl⟩⟩
  · have hlm : len ≤ m := by rw [hmm]; split <;> omega
    have each : ∀ i, i < len → ∃ z : S49, w.cell? (a.add (i * 2)) = some (.int .i64 z.f0) ∧ w.cell? (a.add (i * 2 + 1)) = some (.int .i64 z.f1) := by
      intro i hlt
      obtain ⟨cs', hc, ht'⟩ := hi i (by omega)
      rw [hC] at hc
      obtain ⟨_, hcl, hat⟩ := World.cells?_some hc
      obtain ⟨y0, y1, n', _, _, t0, t1⟩ := Go.ChangeShapes.trod_struct2 he ht'
      rw [o0, c0] at t0
      rw [o1, c1] at t1
      match cs', hcl with
      | [v0, v1], _ =>
        obtain ⟨p, hp, _, _⟩ := DataW.trod_int u0 t0
        obtain ⟨q, hq, _, _⟩ := DataW.trod_int u1 t1
        simp at hp hq
        subst hp hq
        refine ⟨⟨p, q⟩, ?_, ?_⟩
        · have := hat 0 (by omega)
          rw [Go.Deep.add_add, Nat.add_zero] at this
          simpa using this
        · have := hat 1 (by omega)
          rw [Go.Deep.add_add] at this
          simpa using this
    have hz : ∃ f : Nat → S49, ∀ i, i < len → w.cell? (a.add (i * 2)) = some (.int .i64 (f i).f0) ∧ w.cell? (a.add (i * 2 + 1)) = some (.int .i64 (f i).f1) := by
      refine ⟨fun i => if hlt : i < len then Classical.choose (each i hlt) else z49, fun i hlt => ?_⟩
      simp only [dif_pos hlt]
      exact Classical.choose_spec (each i hlt)
    obtain ⟨f, hf⟩ := hz
    have hm' : cap ≤ 9223372036854775807 := by simpa [maxLen] using hm
    refine ⟨some a, len, cap, (List.range len).map f, rfl, hl, Nat.le_trans hl hm, by simp, ⟨by simp, by omega, fun _ => ⟨a, rfl, fun j p hp => ?_⟩⟩, .inr ⟨_, _, rfl, by simp⟩⟩
    have hj : j < len := by
      have := (List.getElem?_eq_some_iff.1 hp).1
      simpa using this
    have hpe : f j = p := by simpa [List.getElem?_map, List.getElem?_range, hj] using hp
    subst hpe
    refine ⟨_, rfl, k49_mk w _, fun i u hu => ?_⟩
    match i, hu with
    | 0, hu =>
      simp at hu
      subst hu
      exact (hf j hj).1
    | 1, hu =>
      simp at hu
      subst hu
      exact (hf j hj).2
end

end Go.Proofs.Ytenbnempjgbibaa.X
