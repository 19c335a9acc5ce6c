/- Texts of this seat in one: contracts of the functions (those written by wip/tools/xprint.py and those proved by hand) and plain laws. -/
import Derived.Test.YtnikblimnjpmpaaProg
import Derived.Below
import Derived.Deep.Draws
import Derived.Deep.AppendLies
import Derived.Maps.AppendAt
import Derived.OwnWalk
import Derived.Laws.BytesArg
import Derived.Laws.MakeOwn
import Derived.Laws.OwnMore
import Derived.Deep.OwnRows
import Derived.Tactics
import Derived.Lib.ConvBytes
import Derived.Laws.Slices
import Derived.WalkKit
import Derived.KernelRfl
import Derived.RowKit3
import Derived.Deep.LoopGhost
import Derived.Deep.QuietTactic
import Derived.BigQuiet
import Derived.WideLaws
import Derived.Deep.DeepCutAuto
import Derived.Deep.CutBlock
import Derived.Deep.RegionHeld3
import Derived.Laws.Rows
import Derived.Lib.AppendStr
import Derived.ArgAppend
import Derived.Laws.IdiomCopy
import Derived.OrdersHeld
import Derived.Laws.BitsLemmas
import Derived.RowKit
import Derived.Test.YtnikblimnjpmpaaWWords
import Derived.Test.YtnikblimnjpmpaaWLast
import Derived.Test.YtnikblimnjpmpaaWTab
import Derived.Test.YtnikblimnjpmpaaWFour
import Derived.Test.YtnikblimnjpmpaaWQPut
import Derived.Test.YtnikblimnjpmpaaWApart
import Derived.Test.YtnikblimnjpmpaaWArr
import Derived.Test.YtnikblimnjpmpaaWZeros
import Derived.Test.YtnikblimnjpmpaaWFoot
import Derived.Test.YtnikblimnjpmpaaWKept
import Derived.Test.YtnikblimnjpmpaaWShare
import Derived.Test.YtnikblimnjpmpaaWN
import Derived.Test.YtnikblimnjpmpaaWFootNe
import Derived.Test.YtnikblimnjpmpaaWAt
import Derived.Test.YtnikblimnjpmpaaWEqStruct
import Derived.Test.YtnikblimnjpmpaaWRepsOne
import Derived.Test.YtnikblimnjpmpaaWInv
import Derived.Test.YtnikblimnjpmpaaWInvWords
import Derived.Test.YtnikblimnjpmpaaWGuard
import Derived.Test.YtnikblimnjpmpaaWNEv
import Derived.Test.YtnikblimnjpmpaaWMore
import Derived.Lib.SlBy
import Derived.Lib.Hide
import Derived.Shelf.Abstract
import Derived.StillTailTactics
/- ==== X0 ==== -/
namespace Go.Proofs.Ytnikblimnjpmpaa.X
open Go.RowKit Go.Proofs.YtnikblimnjpmpaaW.PrintWords Go.Proofs.YtnikblimnjpmpaaW.PrintLast Go.Proofs.YtnikblimnjpmpaaW.PrintMore
attribute [local go_sem] max2_int min2_int max_two min_two max_three min_three max_four min_four   -- for this text's walks alone
set_option linter.unusedVariables false
set_option linter.unusedSimpArgs false



def errW : Option Int → Value
  | none => .nilIface
  | some c => .iface 0 (.int .i64 c)
theorem errW_none : errW none = .nilIface := rfl
theorem errW_some (c : Int) : errW (some c) = .iface 0 (.int .i64 c) := rfl

theorem info3 : (Try.prog.info? 3).map (fun i => (i.zero, i.size, i.bytes)) = some (some (.int .i64 0), 1, 8) := by kernel_rfl
theorem info22 : (Try.prog.info? 22).map (fun i => (i.zero, i.size, i.bytes)) = some (some (.slice none 0 0), 1, 24) := by kernel_rfl
theorem info44 : (Try.prog.info? 44).map (fun i => (i.zero, i.size, i.bytes)) = some (some (.slice none 0 0), 1, 24) := by kernel_rfl
-- the values' own types
def rd_L1 (xs : List (List Int)) (i : Int) : (List Int) := xs.getD i.toNat ([] : List Int)
theorem at_L1 {w : World} {A : Option Addr} {n : Nat} {xs : List (List Int)} (h : Kd.C (Kd.slice 3 (Kd.int .i64)) w A n xs) (i : Int) (h0 : 0 ≤ i) (h1 : i < n) : ∃ ad A0 c0, A = some ad ∧ w.cell? (ad.add i.toNat) = some (.slice A0 (rd_L1 xs i).length c0) ∧ (rd_L1 xs i).length ≤ c0 ∧ (Kd.int .i64).C w A0 (rd_L1 xs i).length (rd_L1 xs i) := by
  obtain ⟨ad, c, e, _, hK, hc0⟩ := Kd.C_get h ([] : List Int) i h0 h1
  have hc : ∀ j u, c[j]? = some u → w.cell? (ad.add (i.toNat * 1 + j)) = some u := hc0
  obtain ⟨A0, c0, rfl, l0, g0⟩ := hK
  exact ⟨ad, A0, c0, e, by have hq := hc 0 _ rfl; rwa [Nat.mul_one, Nat.add_zero] at hq, l0, g0⟩

def rd_L3 (xs : List (List (List Int))) (i : Int) : (List (List Int)) := xs.getD i.toNat ([] : List (List Int))
theorem at_L3 {w : World} {A : Option Addr} {n : Nat} {xs : List (List (List Int))} (h : Kd.C (Kd.slice 22 (Kd.slice 3 (Kd.int .i64))) w A n xs) (i : Int) (h0 : 0 ≤ i) (h1 : i < n) : ∃ ad A0 c0, A = some ad ∧ w.cell? (ad.add i.toNat) = some (.slice A0 (rd_L3 xs i).length c0) ∧ (rd_L3 xs i).length ≤ c0 ∧ (Kd.slice 3 (Kd.int .i64)).C w A0 (rd_L3 xs i).length (rd_L3 xs i) := by
  obtain ⟨ad, c, e, _, hK, hc0⟩ := Kd.C_get h ([] : List (List Int)) i h0 h1
  have hc : ∀ j u, c[j]? = some u → w.cell? (ad.add (i.toNat * 1 + j)) = some u := hc0
  obtain ⟨A0, c0, rfl, l0, g0⟩ := hK
  exact ⟨ad, A0, c0, e, by have hq := hc 0 _ rfl; rwa [Nat.mul_one, Nat.add_zero] at hq, l0, g0⟩

def rd_L4 (xs : List (List (List (List Int)))) (i : Int) : (List (List (List Int))) := xs.getD i.toNat ([] : List (List (List Int)))
theorem at_L4 {w : World} {A : Option Addr} {n : Nat} {xs : List (List (List (List Int)))} (h : Kd.C (Kd.slice 44 (Kd.slice 22 (Kd.slice 3 (Kd.int .i64)))) w A n xs) (i : Int) (h0 : 0 ≤ i) (h1 : i < n) : ∃ ad A0 c0, A = some ad ∧ w.cell? (ad.add i.toNat) = some (.slice A0 (rd_L4 xs i).length c0) ∧ (rd_L4 xs i).length ≤ c0 ∧ (Kd.slice 22 (Kd.slice 3 (Kd.int .i64))).C w A0 (rd_L4 xs i).length (rd_L4 xs i) := by
  obtain ⟨ad, c, e, _, hK, hc0⟩ := Kd.C_get h ([] : List (List (List Int))) i h0 h1
  have hc : ∀ j u, c[j]? = some u → w.cell? (ad.add (i.toNat * 1 + j)) = some u := hc0
  obtain ⟨A0, c0, rfl, l0, g0⟩ := hK
  exact ⟨ad, A0, c0, e, by have hq := hc 0 _ rfl; rwa [Nat.mul_one, Nat.add_zero] at hq, l0, g0⟩

end Go.Proofs.Ytnikblimnjpmpaa.X

/- ==== XlawstoIntS ==== -/
namespace Go.Proofs.Ytnikblimnjpmpaa.X
open Go.RowKit Go.Proofs.YtnikblimnjpmpaaW.PrintWords Go.Proofs.YtnikblimnjpmpaaW.PrintLast Go.Proofs.YtnikblimnjpmpaaW.PrintMore
attribute [local go_sem] max2_int min2_int max_two min_two max_three min_three max_four min_four   -- for this text's walks alone
set_option linter.unusedVariables false
set_option linter.unusedSimpArgs false

/-! ### laws_toIntS: function 12 -/
def laws_toIntS.l0 : Nat → List Int → List Int → Int → Option (List Int)
  | 0, _, _, _ => none
  | k + 1, x0, x3, x4 => if x4 < (x0.length : Int) then (if 0 ≤ x4 then (if x4 < (x3.length : Int) then (laws_toIntS.l0 k x0 (x3.set (x4 : Int).toNat (rd x0 x4)) (wrap64 (x4 + 1))) else (none)) else (none)) else (some x3)
def laws_toIntS.f (k : Nat) (l0 : List Int) : Option (List Int) := if 0 ≤ (l0.length : Int) then (if ((l0.length : Int) : Int).toNat ≤ 35184372088832 then (laws_toIntS.l0 k l0 (List.replicate ((l0.length : Int) : Int).toNat 0) 0) else (none)) else (none)
theorem laws_toIntS.mono_l : ∀ k, (∀ y0 y1 y2, LeO (laws_toIntS.l0 k y0 y1 y2) (laws_toIntS.l0 (k + 1) y0 y1 y2))
  | 0 => fun _ _ _ r h => by simp [laws_toIntS.l0] at h
  | k + 1 => by
    have ih0 := laws_toIntS.mono_l k
    · intro y0 y1 y2
      unfold laws_toIntS.l0
      repeat' first
      | (with_reducible exact ih0 _ _ _)
      | (with_reducible exact LeO.refl _)
      | (with_reducible exact LeO.none _)
      | (with_reducible refine LeO.ite ?_ ?_)
      | (with_reducible refine LeO.bind ?_ (fun _ => ?_))
      | exact ih0 _ _ _
      | exact LeO.none _
      | refine LeO.ite ?_ ?_
      | refine LeO.bind ?_ (fun _ => ?_)
theorem laws_toIntS.mono : ∀ a0 k, LeO (laws_toIntS.f k a0) (laws_toIntS.f (k + 1) a0) := by
  intro a0 k
  have ih0 := laws_toIntS.mono_l k
  unfold laws_toIntS.f
  repeat' first
      | (with_reducible exact ih0 _ _ _)
      | (with_reducible exact LeO.refl _)
      | (with_reducible exact LeO.none _)
      | (with_reducible refine LeO.ite ?_ ?_)
      | (with_reducible refine LeO.bind ?_ (fun _ => ?_))
      | exact ih0 _ _ _
      | exact LeO.none _
      | refine LeO.ite ?_ ?_
      | refine LeO.bind ?_ (fun _ => ?_)
set_option maxHeartbeats 8000000 in
set_option maxRecDepth 100000 in
theorem laws_toIntS.calls (k : Nat) (A0 : Option Addr) (c0 : Nat) (l0 : List Int) (r : List Int) (w : World) (hr0 : Kd.C (Kd.int .i64) w A0 l0.length l0) (hc0 : l0.length ≤ c0) (h : laws_toIntS.f k l0 = some r) :
    Calls Try.prog 12 #[.slice A0 l0.length c0] w fun e w' => ∃ v0_ : Value, e = .returned (v0_) ∧ Kd.R (Kd.int .i64) 3 w' w.heap.size (fun _ => True) v0_ r ∧ Below w.heap.size w w' := by
  have HR0 := Aside0.mk hr0
  have HC0 := Aside0.mk hc0
  clear hr0 hc0
  have HB := Aside0.mk (Below.refl w.heap.size w)
  have H : (if 0 ≤ (l0.length : Int) then (if ((l0.length : Int) : Int).toNat ≤ 35184372088832 then (laws_toIntS.l0 k l0 (List.replicate ((l0.length : Int) : Int).toNat 0) 0) else (none)) else (none)) = some r := h
  clear h
  by_cases c2 : 0 ≤ (l0.length : Int)
  · rw [if_pos c2] at H
    have c2b0 := eq_true c2
    have c2b1 : decide (0 ≤ (l0.length : Int)) = true := decide_eq_true c2
    clear c2
    by_cases c3 : ((l0.length : Int) : Int).toNat ≤ 35184372088832
    · rw [if_pos c3] at H
      have c3b0 := eq_true c3
      have c3b1 : decide (((l0.length : Int) : Int).toNat ≤ 35184372088832) = true := decide_eq_true c3
      clear c3
      obtain ⟨y141, hy141⟩ : ∃ y_ : List Int, y_ = (List.replicate ((l0.length : Int) : Int).toNat 0) := ⟨_, rfl⟩
      replace H : (laws_toIntS.l0 k l0 y141 0) = some r := by first | (rw [hy141]; with_reducible exact H) | (have H2_ := (Option.bind_some _ _).symm.trans H; rw [hy141]; with_reducible exact H2_) | (have H2_ := (Option.bind_some _ _).symm.trans H; with_reducible exact H2_) | with_reducible exact H | (rw [hy141]; exact H) | exact H
      have Ny141 := Aside0.mk hy141
      clear hy141
      have H' := Aside0.mk H
      clear H
      go_enter Try.func12, Try.ntmps12
      go_wp2_with (first | ((with_reducible refine gate_dst (N := 7) rfl ?_); refine Kd.R_make (Kd.int .i64) _ 3 rfl (N := 7) rfl 22 _ _ rfl (l0.length : Int) rfl rfl Try.underlying22 (.int .i64 0) 8 info3 rfl (by decide) (by omega) 0 (ok := fun _ => True) (okp := fun _ => True) rfl (fun _ hk => hk) trivial (of_decide_eq_true (by first | (with_reducible assumption) | assumption)) (Nat.le_trans (Nat.mul_le_mul_right _ (of_decide_eq_true (by first | (with_reducible assumption) | assumption) : (l0.length : Int).toNat ≤ 35184372088832)) (by omega)) (Below.refl _ _) (Nat.le_refl _) ?_; intro v142 w4 ho5 hb hg_ hnew_; clear hg_ hnew_; (first | rw [← Ny141.out] at ho5 | (simp only [Int.reduceToNat] at ho5; rw [← Ny141.out] at ho5)); have n0_ := Aside0.mk (Kd.R_lower ho5 (below_size (by repeat (first | (with_reducible first | exact HB.out | apply below_alloc | apply pw_below_drewN | apply below_drew1) | exact HB.out)))); have n1_ := Aside0.mk (below_step (by repeat (first | (with_reducible first | exact HB.out | apply below_alloc | apply pw_below_drewN | apply below_drew1) | exact HB.out)) hb); clear HB; have HO143 := n0_; have HB := n1_; clear n0_ n1_; clear hb ho5))
      go_loopg [4] k (fun kq v4 w' => ∃ (x3_1 : List Int) (x4_1 : Int), v4 = .int .i64 x4_1 ∧ Aside0 (laws_toIntS.l0 kq l0 x3_1 x4_1 = some r) ∧ Aside0 (kq ≤ k) ∧ Aside0 (Kd.R (Kd.int .i64) 3 w' w.heap.size (fun _ => True) v142 x3_1) ∧ Aside0 (Below w.heap.size w w'))
      case atStart => exact ⟨(y141), (0), (by first | rfl | (simp; done) | (simp [*]; done)), H', ⟨Nat.le_refl _⟩, ⟨by (with_reducible repeat (first | apply Kd.R_alloc | apply Kd.R_drewN | apply Kd.R_drew)); exact HO143.out⟩, ⟨by repeat (first | (with_reducible first | exact HB.out | apply below_alloc | apply pw_below_drewN | apply below_drew1) | exact HB.out)⟩⟩
      case round =>
        clear H'
        try clear c1
        try clear c2
        try clear c2b0
        try clear c2b1
        try clear p2
        try clear c3
        try clear c3b0
        try clear c3b1
        obtain ⟨x3_1, x4_1, rfl, HA, HK1, HO_3, HB⟩ := hrel
        cases gk with
        | zero => exact absurd HA.out (by simp [laws_toIntS.l0])
        | succ k1 =>
          have H := HA.out
          clear HA
          simp only [laws_toIntS.l0] at H
          by_cases c6 : x4_1 < (l0.length : Int)
          · rw [if_pos c6] at H
            have c6b0 : decide (x4_1 < (l0.length : Int)) = true := decide_eq_true c6
            clear c6
            by_cases c7 : 0 ≤ x4_1
            · rw [if_pos c7] at H
              have c7b0 : decide (0 ≤ x4_1) = true := decide_eq_true c7
              clear c7
              by_cases c8 : x4_1 < (x3_1.length : Int)
              · rw [if_pos c8] at H
                have c8b0 : decide (x4_1 < (x3_1.length : Int)) = true := decide_eq_true c8
                clear c8
                obtain ⟨y145, hy145⟩ : ∃ y_ : List Int, y_ = (x3_1.set (x4_1 : Int).toNat (rd l0 x4_1)) := ⟨_, rfl⟩
                replace H : (laws_toIntS.l0 k1 l0 y145 (wrap64 (x4_1 + 1))) = some r := by first | (rw [hy145]; with_reducible exact H) | (have H2_ := (Option.bind_some _ _).symm.trans H; rw [hy145]; with_reducible exact H2_) | (have H2_ := (Option.bind_some _ _).symm.trans H; with_reducible exact H2_) | with_reducible exact H | (rw [hy145]; exact H) | exact H
                have Ny145 := Aside0.mk hy145
                clear hy145
                have H' := Aside0.mk H
                clear H
                have p144 : 0 ≤ (x4_1 : Int) := of_decide_eq_true (by first | (with_reducible assumption) | assumption)
                have q144 : x4_1 < (l0.length : Int) := of_decide_eq_true (by first | (with_reducible assumption) | assumption)
                obtain ⟨ad144, e144, hx144_0⟩ := Kd.at_int HR0.out x4_1 p144 q144
                cases e144
                replace hx144_0 := (HB.out.cell (World.block_lt_of_cell? w _ hx144_0)).trans hx144_0
                replace p144 := eq_true p144
                replace q144 := eq_true q144
                have p9 : 0 ≤ (x4_1 : Int) := of_decide_eq_true (by first | (with_reducible assumption) | assumption)
                have q9 : (x4_1 : Int) < ((x3_1.length : Int) : Int) := of_decide_eq_true (by first | (with_reducible assumption) | assumption)
                obtain ⟨go9, co9, eo9, gb9, gl9, cl9, HG9⟩ := Kd.R_form HO_3.out (by omega)
                (first | cases eo9 | (injection eo9 with ea_ en_ ec_; (first | subst ea_ | (injection ea_ with ea_; subst ea_)); subst ec_; clear en_))
                have GB9 := Aside0.mk gb9
                have GG9 := Aside0.mk HG9
                clear gb9 gl9 HG9
                obtain ⟨hx9_0, hf9_0⟩ := Kd.R_celln 0 HO_3.out (x4_1 : Int) p9 q9
                replace p9 := eq_true p9
                replace q9 := eq_true q9
                have HP10 := Kd.R_putg HO_3.out (x4_1 : Int) (rd l0 x4_1)
                go_wp2_with (first | ((with_reducible refine gate_store (t := 3) (p := 20) rfl ?_); refine store_event (t := 3) (p := 20) (v := ?vo_w11) (w1 := (wr.setCell ⟨go9, (x4_1 : Int).toNat, none⟩ (.int .i64 (rd l0 x4_1)))) ?hg ?ho ?hn ?hr ?_; (case ho => rfl); (case hg => rfl); (case hn => rfl); (case hr => first | (go_simp; done) | (go_simp; rfl)); intro w11 hw; have hg : wr.grownBy w11 (some go9) := (by rw [hw]; exact HP10.2); have hp_ : Kd.R (Kd.int .i64) 3 w11 w.heap.size (fun _ => True) (.slice (some ⟨go9, 0, none⟩) x3_1.length co9) y145 := (by rw [hw, Ny145.out]; exact HP10.1); clear HP10; have n0_ := Aside0.mk (hp_); have n1_ := Aside0.mk ((by rw [hw]; exact below_set (HB.out) GB9.out : Below w.heap.size w w11)); clear HO_3; clear HB; have HO_3 := n0_; have HB := n1_; clear n0_ n1_; clear hg hw hp_))
                go_roundg k1
                case measure => have := HK1.out; omega
                case rel => exact ⟨(y145), (wrap64 (x4_1 + 1)), (by first | rfl | (simp; done) | (simp [*]; done)), H', ⟨by have := HK1.out; omega⟩, ⟨by (with_reducible repeat (first | apply Kd.R_alloc | apply Kd.R_drewN | apply Kd.R_drew)); exact HO_3.out⟩, ⟨by repeat (first | (with_reducible first | exact HB.out | apply below_alloc | apply pw_below_drewN | apply below_drew1) | exact HB.out)⟩⟩
              · rw [if_neg c8] at H
                exact absurd H (by simp)
            · rw [if_neg c7] at H
              exact absurd H (by simp)
          · rw [if_neg c6] at H
            have c6b0 : decide (x4_1 < (l0.length : Int)) = false := decide_eq_false c6
            clear c6
            obtain rfl := Option.some.inj H
            go_wp2
            go_ret
            exact ⟨_, by first | rfl | (simp [errW_none, errW_some] <;> rfl) | (simp [*, errW_none, errW_some] <;> rfl), by (with_reducible repeat (first | apply Kd.R_alloc | apply Kd.R_drewN | apply Kd.R_drew)); exact HO_3.out, by repeat (first | (with_reducible first | exact HB.out | apply below_alloc | apply pw_below_drewN | apply below_drew1) | exact HB.out)⟩
    · rw [if_neg c3] at H
      exact absurd H (by simp)
  · rw [if_neg c2] at H
    exact absurd H (by simp)

end Go.Proofs.Ytnikblimnjpmpaa.X

/- ==== XlawseqIntS ==== -/
namespace Go.Proofs.Ytnikblimnjpmpaa.X
open Go.RowKit Go.Proofs.YtnikblimnjpmpaaW.PrintWords Go.Proofs.YtnikblimnjpmpaaW.PrintLast Go.Proofs.YtnikblimnjpmpaaW.PrintMore
attribute [local go_sem] max2_int min2_int max_two min_two max_three min_three max_four min_four   -- for this text's walks alone
set_option linter.unusedVariables false
set_option linter.unusedSimpArgs false

/-! ### laws_eqIntS: function 14 -/
def laws_eqIntS.l0 : Nat → List Int → List Int → Int → Option (Bool)
  | 0, _, _, _ => none
  | k + 1, x0, x1, x5 => if x5 < (x0.length : Int) then (if 0 ≤ x5 then (if x5 < (x1.length : Int) then (if (rd x0 x5) = (rd x1 x5) then (laws_eqIntS.l0 k x0 x1 (wrap64 (x5 + 1))) else (some false)) else (none)) else (none)) else (some true)
def laws_eqIntS.f (k : Nat) (l0 : List Int) (l1 : List Int) : Option (Bool) := if (l0.length : Int) = (l1.length : Int) then (laws_eqIntS.l0 k l0 l1 0) else (some false)
theorem laws_eqIntS.mono_l : ∀ k, (∀ y0 y1 y2, LeO (laws_eqIntS.l0 k y0 y1 y2) (laws_eqIntS.l0 (k + 1) y0 y1 y2))
  | 0 => fun _ _ _ r h => by simp [laws_eqIntS.l0] at h
  | k + 1 => by
    have ih0 := laws_eqIntS.mono_l k
    · intro y0 y1 y2
      unfold laws_eqIntS.l0
      repeat' first
      | (with_reducible exact ih0 _ _ _)
      | (with_reducible exact LeO.refl _)
      | (with_reducible exact LeO.none _)
      | (with_reducible refine LeO.ite ?_ ?_)
      | (with_reducible refine LeO.bind ?_ (fun _ => ?_))
      | exact ih0 _ _ _
      | exact LeO.none _
      | refine LeO.ite ?_ ?_
      | refine LeO.bind ?_ (fun _ => ?_)
theorem laws_eqIntS.mono : ∀ a0 a1 k, LeO (laws_eqIntS.f k a0 a1) (laws_eqIntS.f (k + 1) a0 a1) := by
  intro a0 a1 k
  have ih0 := laws_eqIntS.mono_l k
  unfold laws_eqIntS.f
  repeat' first
      | (with_reducible exact ih0 _ _ _)
      | (with_reducible exact LeO.refl _)
      | (with_reducible exact LeO.none _)
      | (with_reducible refine LeO.ite ?_ ?_)
      | (with_reducible refine LeO.bind ?_ (fun _ => ?_))
      | exact ih0 _ _ _
      | exact LeO.none _
      | refine LeO.ite ?_ ?_
      | refine LeO.bind ?_ (fun _ => ?_)
set_option maxHeartbeats 8000000 in
set_option maxRecDepth 100000 in
theorem laws_eqIntS.calls (k : Nat) (A0 : Option Addr) (c0 : Nat) (l0 : List Int) (A1 : Option Addr) (c1 : Nat) (l1 : List Int) (r : Bool) (w : World) (hr0 : Kd.C (Kd.int .i64) w A0 l0.length l0) (hc0 : l0.length ≤ c0) (hr1 : Kd.C (Kd.int .i64) w A1 l1.length l1) (hc1 : l1.length ≤ c1) (h : laws_eqIntS.f k l0 l1 = some r) :
    Calls Try.prog 14 #[.slice A0 l0.length c0, .slice A1 l1.length c1] w fun e w' => e = .returned (.bool r) ∧ Drawn0 w w' := by
  have HR0 := Aside0.mk hr0
  have HC0 := Aside0.mk hc0
  clear hr0 hc0
  have HR1 := Aside0.mk hr1
  have HC1 := Aside0.mk hc1
  clear hr1 hc1
  have H : (if (l0.length : Int) = (l1.length : Int) then (laws_eqIntS.l0 k l0 l1 0) else (some false)) = some r := h
  clear h
  by_cases c3 : (l0.length : Int) = (l1.length : Int)
  · rw [if_pos c3] at H
    have c3b0 : ((l0.length : Int) == (l1.length : Int)) = true := beq_iff_eq.mpr c3
    have c3b1 : ((l0.length : Int) != (l1.length : Int)) = false := bne_eq_false_iff_eq.mpr c3
    have c3b2 : (l0.length == l1.length) = true := by first | simpa using c3 | (simp at c3 ⊢; omega)
    clear c3
    have H' := Aside0.mk H
    clear H
    go_enter Try.func14, Try.ntmps14
    go_wp2
    repeat (go_quiet (fail); try go_wp2)
    go_loopg [5] k (fun kq v5 w' => ∃ (x5_1 : Int), v5 = .int .i64 x5_1 ∧ Aside0 (laws_eqIntS.l0 kq l0 l1 x5_1 = some r) ∧ Aside0 (kq ≤ k) ∧ Drawn0 w w')
    case atStart => exact ⟨(0), (by first | rfl | (simp; done) | (simp [*]; done)), H', ⟨Nat.le_refl _⟩, by repeat (first | exact Drawn0.refl _ | apply Drawn0.step)⟩
    case round =>
      clear H'
      try clear c1
      try clear p2
      try clear c3
      try clear c3b0
      try clear c3b1
      try clear c3b2
      obtain ⟨x5_1, rfl, HA, HK1, ⟨m1, rfl⟩⟩ := hrel
      cases gk with
      | zero => exact absurd HA.out (by simp [laws_eqIntS.l0])
      | succ k1 =>
        have H := HA.out
        clear HA
        simp only [laws_eqIntS.l0] at H
        by_cases c4 : x5_1 < (l0.length : Int)
        · rw [if_pos c4] at H
          have c4b0 : decide (x5_1 < (l0.length : Int)) = true := decide_eq_true c4
          clear c4
          by_cases c5 : 0 ≤ x5_1
          · rw [if_pos c5] at H
            have c5b0 : decide (0 ≤ x5_1) = true := decide_eq_true c5
            clear c5
            by_cases c6 : x5_1 < (l1.length : Int)
            · rw [if_pos c6] at H
              have c6b0 : decide (x5_1 < (l1.length : Int)) = true := decide_eq_true c6
              clear c6
              by_cases c7 : (rd l0 x5_1) = (rd l1 x5_1)
              · rw [if_pos c7] at H
                have c7b0 : ((rd l0 x5_1) == (rd l1 x5_1)) = true := beq_iff_eq.mpr c7
                have c7b1 : ((rd l0 x5_1) != (rd l1 x5_1)) = false := bne_eq_false_iff_eq.mpr c7
                clear c7
                have H' := Aside0.mk H
                clear H
                have p186 : 0 ≤ (x5_1 : Int) := of_decide_eq_true (by first | (with_reducible assumption) | assumption)
                have q186 : x5_1 < (l0.length : Int) := of_decide_eq_true (by first | (with_reducible assumption) | assumption)
                obtain ⟨ad186, e186, hx186_0⟩ := Kd.at_int HR0.out x5_1 p186 q186
                cases e186
                replace p186 := eq_true p186
                replace q186 := eq_true q186
                have p187 : 0 ≤ (x5_1 : Int) := of_decide_eq_true (by first | (with_reducible assumption) | assumption)
                have q187 : x5_1 < (l1.length : Int) := of_decide_eq_true (by first | (with_reducible assumption) | assumption)
                obtain ⟨ad187, e187, hx187_0⟩ := Kd.at_int HR1.out x5_1 p187 q187
                cases e187
                replace p187 := eq_true p187
                replace q187 := eq_true q187
                go_wp2
                repeat (go_quiet (fail); try go_wp2)
                go_roundg k1
                case measure => have := HK1.out; omega
                case rel => exact ⟨(wrap64 (x5_1 + 1)), (by first | rfl | (simp; done) | (simp [*]; done)), H', ⟨by have := HK1.out; omega⟩, by repeat (first | exact Drawn0.refl _ | apply Drawn0.step)⟩
              · rw [if_neg c7] at H
                have c7b0 : ((rd l0 x5_1) == (rd l1 x5_1)) = false := beq_eq_false_iff_ne.mpr c7
                have c7b1 : ((rd l0 x5_1) != (rd l1 x5_1)) = true := bne_iff_ne.mpr c7
                obtain rfl := Option.some.inj H
                have p186 : 0 ≤ (x5_1 : Int) := of_decide_eq_true (by first | (with_reducible assumption) | assumption)
                have q186 : x5_1 < (l0.length : Int) := of_decide_eq_true (by first | (with_reducible assumption) | assumption)
                obtain ⟨ad186, e186, hx186_0⟩ := Kd.at_int HR0.out x5_1 p186 q186
                cases e186
                replace p186 := eq_true p186
                replace q186 := eq_true q186
                have p187 : 0 ≤ (x5_1 : Int) := of_decide_eq_true (by first | (with_reducible assumption) | assumption)
                have q187 : x5_1 < (l1.length : Int) := of_decide_eq_true (by first | (with_reducible assumption) | assumption)
                obtain ⟨ad187, e187, hx187_0⟩ := Kd.at_int HR1.out x5_1 p187 q187
                cases e187
                replace p187 := eq_true p187
                replace q187 := eq_true q187
                go_wp2
                repeat (go_quiet (fail); try go_wp2)
                go_ret
                exact ⟨by first | rfl | (simp; done) | (simp [*]; done), by repeat (first | exact Drawn0.refl _ | apply Drawn0.step)⟩
            · rw [if_neg c6] at H
              exact absurd H (by simp)
          · rw [if_neg c5] at H
            exact absurd H (by simp)
        · rw [if_neg c4] at H
          have c4b0 : decide (x5_1 < (l0.length : Int)) = false := decide_eq_false c4
          clear c4
          obtain rfl := Option.some.inj H
          go_wp2
          repeat (go_quiet (fail); try go_wp2)
          go_ret
          exact ⟨by first | rfl | (simp; done) | (simp [*]; done), by repeat (first | exact Drawn0.refl _ | apply Drawn0.step)⟩
  · rw [if_neg c3] at H
    have c3b0 : ((l0.length : Int) == (l1.length : Int)) = false := beq_eq_false_iff_ne.mpr c3
    have c3b1 : ((l0.length : Int) != (l1.length : Int)) = true := bne_iff_ne.mpr c3
    have c3b2 : (l0.length == l1.length) = false := by first | simpa using c3 | (simp at c3 ⊢; omega)
    obtain rfl := Option.some.inj H
    go_enter Try.func14, Try.ntmps14
    go_wp2
    repeat (go_quiet (fail); try go_wp2)
    go_ret
    exact ⟨by first | rfl | (simp; done) | (simp [*]; done), by repeat (first | exact Drawn0.refl _ | apply Drawn0.step)⟩

end Go.Proofs.Ytnikblimnjpmpaa.X

/- ==== Ximplwithin ==== -/
namespace Go.Proofs.Ytnikblimnjpmpaa.X
open Go.RowKit Go.Proofs.YtnikblimnjpmpaaW.PrintWords Go.Proofs.YtnikblimnjpmpaaW.PrintLast Go.Proofs.YtnikblimnjpmpaaW.PrintMore
attribute [local go_sem] max2_int min2_int max_two min_two max_three min_three max_four min_four   -- for this text's walks alone
set_option linter.unusedVariables false
set_option linter.unusedSimpArgs false

/-! ### impl_within: function 51 -/
def impl_within.f (a0 : Int) (a1 : Int) (a2 : Int) : Option (Bool) := if a1 ≤ a0 then (some (decide (a0 ≤ a2))) else (some false)
set_option maxHeartbeats 8000000 in
set_option maxRecDepth 100000 in
theorem impl_within.calls (a0 : Int) (a1 : Int) (a2 : Int) (r : Bool) (w : World) (h : impl_within.f a0 a1 a2 = some r) :
    Calls Try.prog 51 #[.int .i64 a0, .int .i64 a1, .int .i64 a2] w fun e w' => e = .returned (.bool r) ∧ Drawn0 w w' := by
  have H : (if a1 ≤ a0 then (some (decide (a0 ≤ a2))) else (some false)) = some r := h
  clear h
  by_cases c4 : a1 ≤ a0
  · rw [if_pos c4] at H
    have c4b0 : decide (a1 ≤ a0) = true := decide_eq_true c4
    clear c4
    obtain rfl := Option.some.inj H
    go_enter Try.func51, Try.ntmps51
    go_wp2
    go_ret
    exact ⟨by first | rfl | (simp; done) | (simp [*]; done), by repeat (first | exact Drawn0.refl _ | apply Drawn0.step)⟩
  · rw [if_neg c4] at H
    have c4b0 : decide (a1 ≤ a0) = false := decide_eq_false c4
    clear c4
    obtain rfl := Option.some.inj H
    go_enter Try.func51, Try.ntmps51
    go_wp2
    go_ret
    exact ⟨by first | rfl | (simp; done) | (simp [*]; done), by repeat (first | exact Drawn0.refl _ | apply Drawn0.step)⟩

end Go.Proofs.Ytnikblimnjpmpaa.X

/- ==== Ximplchoose ==== -/
namespace Go.Proofs.Ytnikblimnjpmpaa.X
open Go.RowKit Go.Proofs.YtnikblimnjpmpaaW.PrintWords Go.Proofs.YtnikblimnjpmpaaW.PrintLast Go.Proofs.YtnikblimnjpmpaaW.PrintMore
attribute [local go_sem] max2_int min2_int max_two min_two max_three min_three max_four min_four   -- for this text's walks alone
set_option linter.unusedVariables false
set_option linter.unusedSimpArgs false

/-! ### impl_choose: function 38 -/
def impl_choose.l0 : Nat → Int → Int → Int → Int → Option (Int)
  | 0, _, _, _, _ => none
  | k + 1, x0, x5, x15, x16 => if x16 < x15 then (if (wrap64 (x16 + 1)) = 0 then (none) else (impl_choose.l0 k x0 (wrap64 (Int.tdiv (wrap64 (x5 * (wrap64 (x0 - x16)))) (wrap64 (x16 + 1)))) x15 (wrap64 (x16 + 1)))) else (some x5)
def impl_choose.f (k : Nat) (a0 : Int) (a1 : Int) : Option (Int) := (impl_within.f a1 0 a0).bind fun t155 => (if t155 = true then (impl_choose.l0 k a0 1 (mn a1 (wrap64 (a0 - a1))) 0) else (some 0))
theorem impl_choose.mono_l : ∀ k, (∀ y0 y1 y2 y3, LeO (impl_choose.l0 k y0 y1 y2 y3) (impl_choose.l0 (k + 1) y0 y1 y2 y3))
  | 0 => fun _ _ _ _ r h => by simp [impl_choose.l0] at h
  | k + 1 => by
    have ih0 := impl_choose.mono_l k
    · intro y0 y1 y2 y3
      unfold impl_choose.l0
      repeat' first
      | (with_reducible exact ih0 _ _ _ _)
      | (with_reducible exact LeO.refl _)
      | (with_reducible exact LeO.none _)
      | (with_reducible refine LeO.ite ?_ ?_)
      | (with_reducible refine LeO.bind ?_ (fun _ => ?_))
      | exact ih0 _ _ _ _
      | exact LeO.none _
      | refine LeO.ite ?_ ?_
      | refine LeO.bind ?_ (fun _ => ?_)
theorem impl_choose.mono : ∀ a0 a1 k, LeO (impl_choose.f k a0 a1) (impl_choose.f (k + 1) a0 a1) := by
  intro a0 a1 k
  have ih0 := impl_choose.mono_l k
  unfold impl_choose.f
  repeat' first
      | (with_reducible exact ih0 _ _ _ _)
      | (with_reducible exact LeO.refl _)
      | (with_reducible exact LeO.none _)
      | (with_reducible refine LeO.ite ?_ ?_)
      | (with_reducible refine LeO.bind ?_ (fun _ => ?_))
      | exact ih0 _ _ _ _
      | exact LeO.none _
      | refine LeO.ite ?_ ?_
      | refine LeO.bind ?_ (fun _ => ?_)
set_option maxHeartbeats 8000000 in
set_option maxRecDepth 100000 in
theorem impl_choose.calls (k : Nat) (a0 : Int) (a1 : Int) (r : Int) (w : World) (h : impl_choose.f k a0 a1 = some r) :
    Calls Try.prog 38 #[.int .i64 a0, .int .i64 a1] w fun e w' => e = .returned (.int .i64 r) ∧ Below w.heap.size w w' := by
  have HB := Aside0.mk (Below.refl w.heap.size w)
  have H : ((impl_within.f a1 0 a0).bind fun t155 => (if t155 = true then (impl_choose.l0 k a0 1 (mn a1 (wrap64 (a0 - a1))) 0) else (some 0))) = some r := h
  clear h
  replace H := Option.bind_eq_some_iff.mp H
  obtain ⟨t155, A30, H⟩ := H
  replace H : (if t155 = true then (impl_choose.l0 k a0 1 (mn a1 (wrap64 (a0 - a1))) 0) else (some 0)) = some r := H
  have A3 := Aside0.mk A30
  clear A30
  by_cases c4 : t155 = true
  · subst c4
    have H1 : (impl_choose.l0 k a0 1 (mn a1 (wrap64 (a0 - a1))) 0) = some r := by rw [if_pos rfl] at H; exact H
    clear H
    have H := H1
    clear H1
    obtain ⟨ji5, hji5⟩ : ∃ j_ : Int, (mn a1 (wrap64 (a0 - a1))) = j_ := ⟨_, rfl⟩
    replace H : (impl_choose.l0 k a0 1 ji5 0) = some r := by first | (rw [hji5] at H; exact H) | (simp only [hji5] at H ⊢; exact H)
    (try rw [hji5] at A3)
    have hji5_ : (if (wrap64 (a0 - a1)) < a1 then (wrap64 (a0 - a1)) else a1) = ji5 := hji5
    have H' := Aside0.mk H
    clear H
    go_enter Try.func38, Try.ntmps38
    go_wp2_with (first | ((with_reducible refine gate_callee (f := 51) rfl ?_); refine goesL_ (some 9) rfl rfl Try.func51 (by kernel_rfl) rfl #[.int .i64 a1, .int .i64 0, .int .i64 a0] rfl (by (try simp only [List.map_toArray, List.map_cons, List.map_nil]); first | done | rfl | (simp only [List.length_drop, List.length_take]; rfl)) ?_; (with_reducible refine (impl_within.calls a1 0 a0 true _ A3.out).mono ?_); rintro e w' ⟨rfl, ⟨nd, rfl⟩⟩; refine ⟨_, rfl, ?_⟩))
    go_loopg [5, 16] k (fun kq v5 v16 w' => ∃ (x5_1 : Int) (x16_1 : Int), v5 = .int .i64 x5_1 ∧ v16 = .int .i64 x16_1 ∧ Aside0 (impl_choose.l0 kq a0 x5_1 ji5 x16_1 = some r) ∧ Aside0 (kq ≤ k) ∧ Aside0 (Below w.heap.size w w'))
    case atStart => exact ⟨(1), (0), (by first | rfl | (simp; done) | (simp [*]; done)), (by first | rfl | (simp; done) | (simp [*]; done)), H', ⟨Nat.le_refl _⟩, ⟨by repeat (first | (with_reducible first | exact HB.out | apply below_alloc | apply pw_below_drewN | apply below_drew1) | exact HB.out)⟩⟩
    case round =>
      clear H'
      try clear p2
      try clear c3
      try clear c4
      try clear c5
      obtain ⟨x5_1, x16_1, rfl, rfl, HA, HK1, HB⟩ := hrel
      cases gk with
      | zero => exact absurd HA.out (by simp [impl_choose.l0])
      | succ k1 =>
        have H := HA.out
        clear HA
        simp only [impl_choose.l0] at H
        by_cases c6 : x16_1 < ji5
        · rw [if_pos c6] at H
          have c6b0 : decide (x16_1 < ji5) = true := decide_eq_true c6
          clear c6
          by_cases c7 : (wrap64 (x16_1 + 1)) = 0
          · rw [if_pos c7] at H
            exact absurd H (by simp)
          · rw [if_neg c7] at H
            have c7b0 : ((wrap64 (x16_1 + 1)) == 0) = false := beq_eq_false_iff_ne.mpr c7
            have c7b1 : ((wrap64 (x16_1 + 1)) != 0) = true := bne_iff_ne.mpr c7
            have H' := Aside0.mk H
            clear H
            go_wp2
            go_roundg k1
            case measure => have := HK1.out; omega
            case rel => exact ⟨(wrap64 (Int.tdiv (wrap64 (x5_1 * (wrap64 (a0 - x16_1)))) (wrap64 (x16_1 + 1)))), (wrap64 (x16_1 + 1)), (by first | rfl | (simp; done) | (simp [*]; done)), (by first | rfl | (simp; done) | (simp [*]; done)), H', ⟨by have := HK1.out; omega⟩, ⟨by repeat (first | (with_reducible first | exact HB.out | apply below_alloc | apply pw_below_drewN | apply below_drew1) | exact HB.out)⟩⟩
        · rw [if_neg c6] at H
          have c6b0 : decide (x16_1 < ji5) = false := decide_eq_false c6
          clear c6
          obtain rfl := Option.some.inj H
          go_wp2
          go_ret
          exact ⟨by first | rfl | (simp [errW_none, errW_some] <;> rfl) | (simp only [← hji5]; first | rfl | (simp [errW_none, errW_some] <;> rfl)) | (simp [*, errW_none, errW_some] <;> rfl), by repeat (first | (with_reducible first | exact HB.out | apply below_alloc | apply pw_below_drewN | apply below_drew1) | exact HB.out)⟩
  · replace c4 := Bool.eq_false_iff.mpr c4
    subst c4
    have H1 : (some 0) = some r := by rw [if_neg (show ¬ (false = true) by decide)] at H; exact H
    clear H
    have H := H1
    clear H1
    obtain rfl := Option.some.inj H
    go_enter Try.func38, Try.ntmps38
    go_wp2_with (first | ((with_reducible refine gate_callee (f := 51) rfl ?_); refine goesL_ (some 9) rfl rfl Try.func51 (by kernel_rfl) rfl #[.int .i64 a1, .int .i64 0, .int .i64 a0] rfl (by (try simp only [List.map_toArray, List.map_cons, List.map_nil]); first | done | rfl | (simp only [List.length_drop, List.length_take]; rfl)) ?_; (with_reducible refine (impl_within.calls a1 0 a0 false _ A3.out).mono ?_); rintro e w' ⟨rfl, ⟨nd, rfl⟩⟩; refine ⟨_, rfl, ?_⟩))
    go_ret
    exact ⟨by first | rfl | (simp [errW_none, errW_some] <;> rfl) | (simp [*, errW_none, errW_some] <;> rfl), by repeat (first | (with_reducible first | exact HB.out | apply below_alloc | apply pw_below_drewN | apply below_drew1) | exact HB.out)⟩

end Go.Proofs.Ytnikblimnjpmpaa.X

/- ==== XspecchChoose ==== -/
namespace Go.Proofs.Ytnikblimnjpmpaa.X
open Go.RowKit Go.Proofs.YtnikblimnjpmpaaW.PrintWords Go.Proofs.YtnikblimnjpmpaaW.PrintLast Go.Proofs.YtnikblimnjpmpaaW.PrintMore
attribute [local go_sem] max2_int min2_int max_two min_two max_three min_three max_four min_four   -- for this text's walks alone
set_option linter.unusedVariables false
set_option linter.unusedSimpArgs false

/-! ### spec_chChoose: function 35 -/
mutual
def spec_chChoose.j0 : Nat → Int → Int → Bool → Option (Int)
  | 0, _, _, _ => none
  | k + 1, x0, x1, x13 => if x13 = true then (some 0) else (spec_chChoose.l0 k x0 x1 1 1)
def spec_chChoose.l0 : Nat → Int → Int → Int → Int → Option (Int)
  | 0, _, _, _, _ => none
  | k + 1, x0, x1, x5, x6 => if x6 ≤ x1 then (if x6 = 0 then (none) else (spec_chChoose.l0 k x0 x1 (wrap64 (Int.tdiv (wrap64 (x5 * (wrap64 ((wrap64 (x0 - x1)) + x6)))) x6)) (wrap64 (x6 + 1)))) else (some x5)
end
def spec_chChoose.f (k : Nat) (a0 : Int) (a1 : Int) : Option (Int) := if a1 < 0 then (spec_chChoose.j0 k a0 a1 true) else (spec_chChoose.j0 k a0 a1 (decide (a1 > a0)))
theorem spec_chChoose.mono_l : ∀ k, (∀ y0 y1 y2, LeO (spec_chChoose.j0 k y0 y1 y2) (spec_chChoose.j0 (k + 1) y0 y1 y2)) ∧ (∀ y0 y1 y2 y3, LeO (spec_chChoose.l0 k y0 y1 y2 y3) (spec_chChoose.l0 (k + 1) y0 y1 y2 y3))
  | 0 => ⟨fun _ _ _ r h => by simp [spec_chChoose.j0] at h, fun _ _ _ _ r h => by simp [spec_chChoose.l0] at h⟩
  | k + 1 => by
    obtain ⟨ih0, ih1⟩ := spec_chChoose.mono_l k
    refine ⟨?_, ?_⟩
    · intro y0 y1 y2
      unfold spec_chChoose.j0
      repeat' first
      | (with_reducible exact ih0 _ _ _)
      | (with_reducible exact ih1 _ _ _ _)
      | (with_reducible exact LeO.refl _)
      | (with_reducible exact LeO.none _)
      | (with_reducible refine LeO.ite ?_ ?_)
      | (with_reducible refine LeO.bind ?_ (fun _ => ?_))
      | exact ih0 _ _ _
      | exact ih1 _ _ _ _
      | exact LeO.none _
      | refine LeO.ite ?_ ?_
      | refine LeO.bind ?_ (fun _ => ?_)
    · intro y0 y1 y2 y3
      unfold spec_chChoose.l0
      repeat' first
      | (with_reducible exact ih0 _ _ _)
      | (with_reducible exact ih1 _ _ _ _)
      | (with_reducible exact LeO.refl _)
      | (with_reducible exact LeO.none _)
      | (with_reducible refine LeO.ite ?_ ?_)
      | (with_reducible refine LeO.bind ?_ (fun _ => ?_))
      | exact ih0 _ _ _
      | exact ih1 _ _ _ _
      | exact LeO.none _
      | refine LeO.ite ?_ ?_
      | refine LeO.bind ?_ (fun _ => ?_)
theorem spec_chChoose.mono : ∀ a0 a1 k, LeO (spec_chChoose.f k a0 a1) (spec_chChoose.f (k + 1) a0 a1) := by
  intro a0 a1 k
  obtain ⟨ih0, ih1⟩ := spec_chChoose.mono_l k
  unfold spec_chChoose.f
  repeat' first
      | (with_reducible exact ih0 _ _ _)
      | (with_reducible exact ih1 _ _ _ _)
      | (with_reducible exact LeO.refl _)
      | (with_reducible exact LeO.none _)
      | (with_reducible refine LeO.ite ?_ ?_)
      | (with_reducible refine LeO.bind ?_ (fun _ => ?_))
      | exact ih0 _ _ _
      | exact ih1 _ _ _ _
      | exact LeO.none _
      | refine LeO.ite ?_ ?_
      | refine LeO.bind ?_ (fun _ => ?_)
set_option maxHeartbeats 8000000 in
set_option maxRecDepth 100000 in
theorem spec_chChoose.calls (k : Nat) (a0 : Int) (a1 : Int) (r : Int) (w : World) (h : spec_chChoose.f k a0 a1 = some r) :
    Calls Try.prog 35 #[.int .i64 a0, .int .i64 a1] w fun e w' => e = .returned (.int .i64 r) ∧ Drawn0 w w' := by
  have H : (if a1 < 0 then (spec_chChoose.j0 k a0 a1 true) else (spec_chChoose.j0 k a0 a1 (decide (a1 > a0)))) = some r := h
  clear h
  have HC3 := Aside0.mk H
  clear H
  go_enter Try.func35, Try.ntmps35
  go_upto_region 1 with (fail)
  go_cut [13] (fun v13 wc => ∃ (kq : Nat) (x13_2 : Bool), v13 = .bool x13_2 ∧ Aside0 (spec_chChoose.j0 kq a0 a1 x13_2 = some r) ∧ Aside0 (kq ≤ k) ∧ Drawn0 w wc)
  case first =>
    have H := HC3.out
    clear HC3
    by_cases c4 : a1 < 0
    · rw [if_pos c4] at H
      have c4b0 : decide (a1 < 0) = true := decide_eq_true c4
      clear c4
      (first | rw [c4b0] | (simp only [i64_w, i32_w]; rw [c4b0]) | skip)
      have H' := Aside0.mk H
      clear H
      go_wp2
      go_meet
      case rel => exact ⟨_, (true), (by first | rfl | (simp; done) | (simp [*]; done)), H', ⟨by first | omega | exact Nat.le_refl _⟩, by repeat (first | exact Drawn0.refl _ | apply Drawn0.step)⟩
    · rw [if_neg c4] at H
      have c4b0 : decide (a1 < 0) = false := decide_eq_false c4
      clear c4
      (first | rw [c4b0] | (simp only [i64_w, i32_w]; rw [c4b0]) | skip)
      have H' := Aside0.mk H
      clear H
      go_wp2
      go_meet
      case rel => exact ⟨_, (decide (a1 > a0)), (by first | rfl | (simp; done) | (simp [*]; done)), H', ⟨by first | omega | exact Nat.le_refl _⟩, by repeat (first | exact Drawn0.refl _ | apply Drawn0.step)⟩
  case rest =>
    clear HC3
    try clear p2
    try clear c3
    try clear c4
    try clear c4b0
    obtain ⟨kq, x13_2, rfl, HA, HJ2, ⟨mc2, rfl⟩⟩ := hcut
    cases kq with
    | zero => exact absurd HA.out (by simp [spec_chChoose.j0])
    | succ kj2 =>
      have H := HA.out
      clear HA
      simp only [spec_chChoose.j0] at H
      by_cases c5 : x13_2 = true
      · subst c5
        have H1 : (some 0) = some r := by rw [if_pos rfl] at H; exact H
        clear H
        have H := H1
        clear H1
        obtain rfl := Option.some.inj H
        go_wp2
        go_ret
        exact ⟨by first | rfl | (simp; done) | (simp [*]; done), by repeat (first | exact Drawn0.refl _ | apply Drawn0.step)⟩
      · replace c5 := Bool.eq_false_iff.mpr c5
        subst c5
        have H1 : (spec_chChoose.l0 kj2 a0 a1 1 1) = some r := by rw [if_neg (show ¬ (false = true) by decide)] at H; exact H
        clear H
        have H := H1
        clear H1
        have H' := Aside0.mk H
        clear H
        go_wp2
        go_loopg [5, 6] kj2 (fun kq v5 v6 w' => ∃ (x5_2 : Int) (x6_2 : Int), v5 = .int .i64 x5_2 ∧ v6 = .int .i64 x6_2 ∧ Aside0 (spec_chChoose.l0 kq a0 a1 x5_2 x6_2 = some r) ∧ Aside0 (kq ≤ kj2) ∧ Drawn0 w w')
        case atStart => exact ⟨(1), (1), (by first | rfl | (simp; done) | (simp [*]; done)), (by first | rfl | (simp; done) | (simp [*]; done)), H', ⟨Nat.le_refl _⟩, by repeat (first | exact Drawn0.refl _ | apply Drawn0.step)⟩
        case round =>
          clear H'
          try clear c2
          try clear p2
          try clear c3
          try clear c4
          try clear c4b0
          try clear c5
          try clear p2
          obtain ⟨x5_2, x6_2, rfl, rfl, HA, HK2, ⟨m2, rfl⟩⟩ := hrel
          cases gk with
          | zero => exact absurd HA.out (by simp [spec_chChoose.l0])
          | succ k2 =>
            have H := HA.out
            clear HA
            simp only [spec_chChoose.l0] at H
            by_cases c6 : x6_2 ≤ a1
            · rw [if_pos c6] at H
              have c6b0 : decide (x6_2 ≤ a1) = true := decide_eq_true c6
              clear c6
              by_cases c7 : x6_2 = 0
              · rw [if_pos c7] at H
                exact absurd H (by simp)
              · rw [if_neg c7] at H
                have c7b0 : (x6_2 == 0) = false := beq_eq_false_iff_ne.mpr c7
                have c7b1 : (x6_2 != 0) = true := bne_iff_ne.mpr c7
                have H' := Aside0.mk H
                clear H
                go_wp2
                go_roundg k2
                case measure => have := HJ2.out; have := HK2.out; omega
                case rel => exact ⟨(wrap64 (Int.tdiv (wrap64 (x5_2 * (wrap64 ((wrap64 (a0 - a1)) + x6_2)))) x6_2)), (wrap64 (x6_2 + 1)), (by first | rfl | (simp; done) | (simp [*]; done)), (by first | rfl | (simp; done) | (simp [*]; done)), H', ⟨by have := HJ2.out; have := HK2.out; omega⟩, by repeat (first | exact Drawn0.refl _ | apply Drawn0.step)⟩
            · rw [if_neg c6] at H
              have c6b0 : decide (x6_2 ≤ a1) = false := decide_eq_false c6
              clear c6
              obtain rfl := Option.some.inj H
              go_wp2
              go_ret
              exact ⟨by first | rfl | (simp; done) | (simp [*]; done), by repeat (first | exact Drawn0.refl _ | apply Drawn0.step)⟩

end Go.Proofs.Ytnikblimnjpmpaa.X

/- ==== PlBin ==== -/
/- Plain laws, no program in sight: sums, numbers of choices, in how many ways socks can be drawn; sums up to multiples of 2^64. -/
/- ==== PlSum ==== -/
namespace Go.Proofs.Ytnikblimnjpmpaa.X

def sumN : Nat → (Nat → Int) → Int
  | 0, _ => 0
  | n + 1, f => sumN n f + f n
theorem sumN_congr {n : Nat} {f g : Nat → Int} (h : ∀ d, d < n → f d = g d) : sumN n f = sumN n g := by
  induction n with
  | zero => rfl
  | succ n ih => rw [sumN, sumN, ih fun d hd => h d (by omega), h n (by omega)]
theorem sumN_zero {n : Nat} {f : Nat → Int} (h : ∀ d, d < n → f d = 0) : sumN n f = 0 := by
  induction n with
  | zero => rfl
  | succ n ih => rw [sumN, ih fun d hd => h d (by omega), h n (by omega)]; rfl
theorem sumN_add (n : Nat) (f g : Nat → Int) : sumN n (fun d => f d + g d) = sumN n f + sumN n g := by
  induction n with
  | zero => rfl
  | succ n ih => simp only [sumN, ih]; omega
theorem sumN_mul (n : Nat) (c : Int) (f : Nat → Int) : sumN n (fun d => c * f d) = c * sumN n f := by
  induction n with
  | zero => simp [sumN]
  | succ n ih => simp only [sumN, ih, Int.mul_add]
theorem sumN_swap (n m : Nat) (f : Nat → Nat → Int) : sumN n (fun d => sumN m (f d)) = sumN m (fun e => sumN n fun d => f d e) := by
  induction n with
  | zero => exact (sumN_zero fun _ _ => rfl).symm
  | succ n ih => simp only [sumN, ih]; rw [← sumN_add]
theorem sumN_nonneg {n : Nat} {f : Nat → Int} (h : ∀ d, d < n → 0 ≤ f d) : 0 ≤ sumN n f := by
  induction n with
  | zero => exact Int.le_refl _
  | succ n ih => have := ih fun d hd => h d (by omega); have := h n (by omega); simp only [sumN]; omega
theorem sumN_le {n : Nat} {f g : Nat → Int} (h : ∀ d, d < n → f d ≤ g d) : sumN n f ≤ sumN n g := by
  induction n with
  | zero => exact Int.le_refl _
  | succ n ih => have := ih fun d hd => h d (by omega); have := h n (by omega); simp only [sumN]; omega
theorem sumN_split (n m : Nat) (f : Nat → Int) : sumN (n + m) f = sumN n f + sumN m (fun d => f (n + d)) := by
  induction m with
  | zero => simp [sumN]
  | succ m ih => rw [← Nat.add_assoc]; simp only [sumN, ih]; omega
/-- Only the place j counts. -/
theorem sumN_at {n : Nat} {f : Nat → Int} (j : Nat) (hj : j < n) (h : ∀ d, d < n → d ≠ j → f d = 0) : sumN n f = f j := by
  induction n with
  | zero => omega
  | succ n ih =>
    simp only [sumN]
    by_cases e : j = n
    · subst e
      rw [sumN_zero fun d hd => h d (by omega) (by omega)]
      omega
    · rw [ih (by omega) fun d hd hne => h d (by omega) hne, h n (by omega) (by omega)]
      omega
theorem sumN_longer {n m : Nat} {f : Nat → Int} (hnm : n ≤ m) (h : ∀ d, n ≤ d → d < m → f d = 0) : sumN m f = sumN n f := by
  obtain ⟨e, rfl⟩ := Nat.exists_eq_add_of_le hnm
  rw [sumN_split, sumN_zero (fun d hd => h (n + d) (by omega) (by omega))]
  omega

/-- In how many ways d of n can be chosen. -/
def bin : Nat → Nat → Nat
  | _, 0 => 1
  | 0, _ + 1 => 0
  | n + 1, k + 1 => bin n k + bin n (k + 1)
theorem bin_big : ∀ {n k : Nat}, n < k → bin n k = 0
  | 0, k + 1, _ => rfl
  | n + 1, k + 1, h => by rw [bin, bin_big (show n < k by omega), bin_big (show n < k + 1 by omega)]

/-- In how many ways k socks with p of something (m of each number of a colour) can be drawn: each number of a colour weighed. -/
def T (w : Nat → Nat → Int) (m : Nat → Nat) : List Nat → Int → Int → Int
  | [], k, p => if k = 0 ∧ p = 0 then 1 else 0
  | n :: r, k, p => sumN (n + 1) fun d => w n d * T w m r (k - d) (p - m d)
variable {w : Nat → Nat → Int} {m : Nat → Nat}
theorem T_neg : ∀ {l : List Nat} {k p : Int}, k < 0 ∨ p < 0 → T w m l k p = 0
  | [], k, p, h => by simp only [T]; rw [if_neg (by omega)]
  | n :: r, k, p, h => by
    simp only [T]
    exact sumN_zero fun d _ => by rw [T_neg (l := r) (by omega)]; simp
theorem T_snoc (n : Nat) : ∀ (l : List Nat) (k p : Int), T w m (l ++ [n]) k p = sumN (n + 1) fun d => w n d * T w m l (k - d) (p - m d)
  | [], k, p => rfl
  | a :: l, k, p => by
    simp only [List.cons_append, T]
    have h1 : ∀ d : Nat, T w m (l ++ [n]) (k - d) (p - m d) = sumN (n + 1) fun e => w n e * T w m l (k - d - e) (p - m d - m e) := fun d => T_snoc n l _ _
    simp only [h1, ← sumN_mul]
    rw [sumN_swap]
    refine sumN_congr fun e _ => sumN_congr fun d _ => ?_
    rw [show k - (d : Int) - (e : Int) = k - (e : Int) - (d : Int) by omega, show p - (m d : Int) - (m e : Int) = p - (m e : Int) - (m d : Int) by omega]
    rw [← Int.mul_assoc, ← Int.mul_assoc, Int.mul_comm (w a d)]

/-- More than there can be: none. c: how many of something so many socks have at most. -/
theorem T_above : ∀ {l : List Nat} {k p : Int}, (l.foldr (fun n s => n + s) 0 : Nat) < k → T w m l k p = 0
  | [], k, p, h => by simp only [T]; rw [if_neg (by simp at h; omega)]
  | n :: r, k, p, h => by
    simp only [T]
    exact sumN_zero fun d hd => by rw [T_above (l := r) (by simp at h; omega)]; simp
theorem T_high (M : Nat → Nat) (hM : ∀ n d, d ≤ n → m d ≤ M n) : ∀ {l : List Nat} {k p : Int}, (l.foldr (fun n s => M n + s) 0 : Nat) < p → T w m l k p = 0
  | [], k, p, h => by simp only [T]; rw [if_neg (by simp at h; omega)]
  | n :: r, k, p, h => by
    simp only [T]
    exact sumN_zero fun d hd => by have := hM n d (by omega); rw [T_high M hM (l := r) (by simp at h; omega)]; simp
/-- Of k socks at most a share has it: 'a * m d ≤ d'. -/
theorem T_share (a : Nat) (ha : ∀ d, a * m d ≤ d) : ∀ {l : List Nat} {k p : Int}, k < (a : Int) * p → T w m l k p = 0
  | [], k, p, h => by
    simp only [T]; rw [if_neg (by rintro ⟨rfl, rfl⟩; simp at h)]
  | n :: r, k, p, h => by
    simp only [T]
    refine sumN_zero fun d hd => ?_
    have h1 := ha d
    rw [T_share a ha (l := r) (by rw [Int.mul_sub]; have : ((a * m d : Nat) : Int) = (a : Int) * (m d : Int) := by push_cast; rfl
                                  omega)]
    simp
theorem T_nonneg (hw : ∀ n d, 0 ≤ w n d) : ∀ {l : List Nat} {k p : Int}, 0 ≤ T w m l k p
  | [], k, p => by simp only [T]; split <;> decide
  | n :: r, k, p => by
    simp only [T]
    exact sumN_nonneg fun d _ => Int.mul_nonneg (hw n d) (T_nonneg hw)
/-- A bound: B of each colour, multiplied. -/
def prodB (B : Nat → Int) : List Nat → Int
  | [] => 1
  | n :: r => B n * prodB B r
theorem T_le (hw : ∀ n d, 0 ≤ w n d) (B : Nat → Int) : ∀ {l : List Nat} {k p : Int}, (∀ n ∈ l, sumN (n + 1) (w n) ≤ B n) → (∀ n ∈ l, 0 ≤ B n) → T w m l k p ≤ prodB B l
  | [], k, p, _, _ => by simp only [T, prodB]; split <;> decide
  | n :: r, k, p, h, h0 => by
    simp only [T, prodB]
    have hr : ∀ k p, T w m r k p ≤ prodB B r := fun k p => T_le hw B (fun x hx => h x (List.mem_cons_of_mem _ hx)) (fun x hx => h0 x (List.mem_cons_of_mem _ hx))
    have h1 : sumN (n + 1) (fun d => w n d * T w m r (k - d) (p - m d)) ≤ sumN (n + 1) (fun d => prodB B r * w n d) := sumN_le fun d _ => by
      rw [Int.mul_comm (prodB B r)]
      exact Int.mul_le_mul_of_nonneg_left (hr _ _) (hw n d)
    rw [sumN_mul] at h1
    have hp : 0 ≤ prodB B r := Int.le_trans (T_nonneg hw (w := w) (m := m) (l := r) (k := 0) (p := 0)) (hr 0 0)
    refine Int.le_trans h1 ?_
    rw [Int.mul_comm]
    exact Int.mul_le_mul_of_nonneg_right (h n (List.mem_cons_self ..)) hp
end Go.Proofs.Ytnikblimnjpmpaa.X

/- ==== PlBin ==== -/
namespace Go.Proofs.Ytnikblimnjpmpaa.X
open Go.RowKit Go.Proofs.YtnikblimnjpmpaaW.PrintWords Go.Proofs.YtnikblimnjpmpaaW.PrintLast Go.Proofs.YtnikblimnjpmpaaW.PrintMore

/-- In how many ways d of n can be chosen, n ≤ 40. -/
def wB (n d : Nat) : Int := if n ≤ 40 ∧ d ≤ n then (impl_choose.f 100 (n : Int) (d : Int)).getD 0 else 0
def chkB (n d : Nat) : Bool := decide (impl_choose.f 100 (n : Int) (d : Int) = some (wB n d)) && (decide (spec_chChoose.f 100 (n : Int) (d : Int) = some (wB n d)) && (decide (1 ≤ wB n d) && decide (wB n d ≤ 1099511627776)))
set_option maxRecDepth 100000 in
theorem chkB_all : (List.range 41).all (fun n => (List.range (n + 1)).all fun d => chkB n d) = true := by decide +kernel
theorem chkB_at {n d : Nat} (hn : n ≤ 40) (hd : d ≤ n) : impl_choose.f 100 (n : Int) (d : Int) = some (wB n d) ∧ spec_chChoose.f 100 (n : Int) (d : Int) = some (wB n d) ∧ 1 ≤ wB n d ∧ wB n d ≤ 1099511627776 := by
  have h1 := List.all_eq_true.1 chkB_all n (by simp; omega)
  have h2 := List.all_eq_true.1 h1 d (by simp; omega)
  simpa [chkB] using h2
theorem choose_ev {n d : Nat} (hn : n ≤ 40) (hd : d ≤ n) : Ev (fun k => impl_choose.f k (n : Int) (d : Int)) (wB n d) := Ev.of (impl_choose.mono _ _) (chkB_at hn hd).1
theorem chChoose_ev {n d : Nat} (hn : n ≤ 40) (hd : d ≤ n) : Ev (fun k => spec_chChoose.f k (n : Int) (d : Int)) (wB n d) := Ev.of (spec_chChoose.mono _ _) (chkB_at hn hd).2.1
theorem wB_nonneg (n d : Nat) : 0 ≤ wB n d := by
  by_cases h : n ≤ 40 ∧ d ≤ n
  · have := (chkB_at h.1 h.2).2.2.1; omega
  · unfold wB; rw [if_neg h]; exact Int.le_refl _
theorem wB_pos {n d : Nat} (hn : n ≤ 40) (hd : d ≤ n) : 1 ≤ wB n d := (chkB_at hn hd).2.2.1
theorem wB_le (n d : Nat) : wB n d ≤ 1099511627776 := by
  by_cases h : n ≤ 40 ∧ d ≤ n
  · exact (chkB_at h.1 h.2).2.2.2
  · unfold wB; rw [if_neg h]; decide
set_option maxRecDepth 100000 in
theorem sumB_all : (List.range 21).all (fun n => decide (sumN (n + 1) (wB n) ≤ 2 ^ n)) = true := by decide +kernel
theorem sumB_le {n : Nat} (h : n ≤ 20) : sumN (n + 1) (wB n) ≤ 2 ^ n := by
  have := List.all_eq_true.1 sumB_all n (by simp; omega)
  simpa using this
def sumL (l : List Nat) : Nat := l.foldr (fun n s => n + s) 0
theorem sumL_cons (n : Nat) (l : List Nat) : sumL (n :: l) = n + sumL l := rfl
theorem prod_pow : ∀ l : List Nat, prodB (fun n => 2 ^ n) l = 2 ^ sumL l
  | [] => rfl
  | n :: l => by simp only [prodB, prod_pow l, sumL_cons, Int.pow_add]
/-- Few socks: no more than 2^40 ways. -/
theorem T_bound {m : Nat → Nat} {l : List Nat} (h20 : ∀ n ∈ l, n ≤ 20) (h40 : sumL l ≤ 40) (k p : Int) : 0 ≤ T wB m l k p ∧ T wB m l k p ≤ 1099511627776 := by
  refine ⟨T_nonneg wB_nonneg, Int.le_trans (T_le wB_nonneg (fun n => 2 ^ n) (fun n hn => sumB_le (h20 n hn)) (fun n _ => Int.le_of_lt (Int.pow_pos (by decide)))) ?_⟩
  rw [prod_pow]
  have h1 : (2 : Nat) ^ sumL l ≤ 2 ^ 40 := Nat.pow_le_pow_right (by decide) h40
  have h2 : ((2 ^ sumL l : Nat) : Int) ≤ ((2 ^ 40 : Nat) : Int) := Int.ofNat_le.2 h1
  rw [Int.natCast_pow] at h2
  exact h2

/-! ### up to multiples of 2^64 -/
def Cg (a b : Int) : Prop := ∃ q : Int, a = b + 18446744073709551616 * q
theorem Cg.refl (a : Int) : Cg a a := ⟨0, by omega⟩
theorem Cg.of {a b : Int} (h : a = b) : Cg a b := ⟨0, by omega⟩
theorem Cg.symm {a b : Int} : Cg a b → Cg b a := fun ⟨q, h⟩ => ⟨-q, by omega⟩
theorem Cg.trans {a b c : Int} : Cg a b → Cg b c → Cg a c := fun ⟨q, h⟩ ⟨r, k⟩ => ⟨q + r, by omega⟩
theorem Cg.add {a b c d : Int} : Cg a b → Cg c d → Cg (a + c) (b + d) := fun ⟨q, h⟩ ⟨r, k⟩ => ⟨q + r, by omega⟩
theorem Cg.sub {a b c d : Int} : Cg a b → Cg c d → Cg (a - c) (b - d) := fun ⟨q, h⟩ ⟨r, k⟩ => ⟨q - r, by omega⟩
theorem Cg.mulr {a b : Int} (c : Int) : Cg a b → Cg (a * c) (b * c) := fun ⟨q, h⟩ => ⟨q * c, by rw [h, Int.add_mul, Int.mul_assoc]⟩
theorem Cg.mull {a b : Int} (c : Int) (h : Cg a b) : Cg (c * a) (c * b) := by rw [Int.mul_comm c a, Int.mul_comm c b]; exact h.mulr c
theorem Cg.mul {a b c d : Int} (h : Cg a b) (k : Cg c d) : Cg (a * c) (b * d) := (h.mulr c).trans (k.mull b)
theorem Cg.wrap (a : Int) : Cg (wrap64 a) a := ⟨-((a + 9223372036854775808) / 18446744073709551616), by unfold wrap64; omega⟩
theorem Cg.sum {n : Nat} {f g : Nat → Int} (h : ∀ d, d < n → Cg (f d) (g d)) : Cg (sumN n f) (sumN n g) := by
  induction n with
  | zero => exact Cg.refl _
  | succ n ih => exact (ih fun d hd => h d (by omega)).add (h n (by omega))
def InR (a : Int) : Prop := -9223372036854775808 ≤ a ∧ a ≤ 9223372036854775807
theorem InR.wrap (a : Int) : InR (wrap64 a) := by unfold InR wrap64; omega
theorem Cg.eq {a b : Int} (h : Cg a b) (ha : InR a) (hb : InR b) : a = b := by
  obtain ⟨q, h⟩ := h
  unfold InR at ha hb
  omega
theorem Cg.eqw {a b : Int} (h : Cg a b) : wrap64 a = wrap64 b := ((Cg.wrap a).trans (h.trans (Cg.wrap b).symm)).eq (InR.wrap a) (InR.wrap b)

/-- A list's numbers, each with its weight, together. -/
def dot (t : List Int) (g : Nat → Int) : Int := sumN t.length fun i => rd t (i : Int) * g i
theorem sumN_upd {n i : Nat} {f g : Nat → Int} (hi : i < n) (h : ∀ k, k < n → k ≠ i → g k = f k) : sumN n g = sumN n f + (g i - f i) := by
  induction n with
  | zero => omega
  | succ n ih =>
    simp only [sumN]
    by_cases e : i = n
    · subst e
      rw [sumN_congr (n := i) (f := g) (g := f) (fun k hk => h k (by omega) (by omega))]
      omega
    · rw [ih (by omega) (fun k hk hne => h k (by omega) hne), h n (by omega) (by omega)]
      omega
theorem rd_set_same {t : List Int} {i : Nat} (h : i < t.length) (v : Int) : rd (t.set i v) (i : Int) = v := by simp [rd, List.getD_eq_getElem?_getD, h]
theorem rd_set_other {t : List Int} {i k : Nat} (h : k ≠ i) (v : Int) : rd (t.set i v) (k : Int) = rd t (k : Int) := by
  simp [rd, List.getD_eq_getElem?_getD, List.getElem?_set_ne (Ne.symm h)]
theorem dot_set {t : List Int} {i : Nat} (h : i < t.length) (v : Int) (g : Nat → Int) : dot (t.set i v) g = dot t g + (v - rd t (i : Int)) * g i := by
  unfold dot
  rw [List.length_set, sumN_upd (i := i) (f := fun i => rd t (i : Int) * g i) h (fun k _ hk => by rw [rd_set_other hk])]
  rw [rd_set_same h, Int.sub_mul]
theorem rd_rep (n i : Nat) : rd (List.replicate n 0) (i : Int) = 0 := by
  simp only [rd, Int.toNat_natCast, List.getD_eq_getElem?_getD, List.getElem?_replicate]
  split <;> rfl
theorem dot_rep (n : Nat) (g : Nat → Int) : dot (List.replicate n 0) g = 0 := by
  unfold dot
  exact sumN_zero fun d _ => by rw [rd_rep]; simp
end Go.Proofs.Ytnikblimnjpmpaa.X

/- ==== HareWithin ==== -/
/- The program's areWithin says whether all numbers of a list lie within bounds: its contract, over walks of slices.ContainsFunc and slices.IndexFunc. No conditions. -/
namespace Go.Proofs.Ytnikblimnjpmpaa.X
open Go.RowKit Go.Proofs.YtnikblimnjpmpaaW.PrintWords Go.Proofs.YtnikblimnjpmpaaW.PrintLast Go.Proofs.YtnikblimnjpmpaaW.PrintMore

def inB (lo hi x : Int) : Bool := decide (lo ≤ x) && decide (x ≤ hi)
theorem within_inB (x lo hi : Int) : impl_within.f x lo hi = some (inB lo hi x) := by
  unfold impl_within.f inB
  by_cases h : lo ≤ x <;> simp [h]
def impl_areWithin.f (l0 : List Int) (a1 : Int) (a2 : Int) : Option (Bool) := some (l0.all (inB a1 a2))

set_option maxHeartbeats 1000000 in
theorem areWithin_clo (x : Int) (B C : Nat) (lo hi : Int) (w : World) (hB : w.cell? ⟨B, 0, none⟩ = some (.int .i64 lo)) (hC : w.cell? ⟨C, 0, none⟩ = some (.int .i64 hi)) :
    Calls Try.prog 75 #[.int .i64 x, .pointer (some ⟨B, 0, none⟩), .pointer (some ⟨C, 0, none⟩)] w fun e w' => e = .returned (.bool (!(inB lo hi x))) ∧ Drawn0 w w' := by
  have hcall := fun W => impl_within.calls x lo hi (inB lo hi x) W (within_inB x lo hi)
  have H := Lib.hid hcall
  clear hcall
  go_enter Try.func75, Try.ntmps75
  go_wp2_with (go_at_call 51; refine (H.out _).mono ?_; rintro e w' ⟨rfl, ⟨n, rfl⟩⟩)
  go_ret
  exact ⟨rfl, by repeat (first | exact Drawn0.refl _ | apply Drawn0.step)⟩

def FirstBad (lo hi : Int) (l : List Int) (w : World) (e : Ending) (w' : World) : Prop := ∃ i : Int, e = .returned (.int .i64 i) ∧ decide (0 ≤ i) = !(l.all (inB lo hi)) ∧ Below w.heap.size w w'

theorem all_pre (lo hi : Int) (l : List Int) (h : ∀ j, j < l.length → inB lo hi (rd l (j : Nat)) = true) : l.all (inB lo hi) = true := by
  rw [List.all_eq_true]
  intro x hx
  obtain ⟨j, hj, rfl⟩ := List.getElem_of_mem hx
  have := h j hj
  simpa [rd, List.getD_eq_getElem?_getD, hj] using this
theorem all_bad (lo hi : Int) (l : List Int) (j : Nat) (hj : j < l.length) (h : inB lo hi (rd l (j : Nat)) = false) : l.all (inB lo hi) = false := by
  rw [List.all_eq_false]
  refine ⟨l[j], List.getElem_mem hj, ?_⟩
  simpa [rd, List.getD_eq_getElem?_getD, hj] using h

set_option maxHeartbeats 4000000 in
set_option maxRecDepth 100000 in
theorem areWithin_idx (A : Option Addr) (c : Nat) (l : List Int) (B C : Nat) (lo hi : Int) (w : World) (hr : Kd.C (Kd.int .i64) w A l.length l) (hB : w.cell? ⟨B, 0, none⟩ = some (.int .i64 lo)) (hC : w.cell? ⟨C, 0, none⟩ = some (.int .i64 hi)) :
    Calls Try.prog 76 #[.slice A l.length c, .func (.func 75) #[] #[.pointer (some ⟨B, 0, none⟩), .pointer (some ⟨C, 0, none⟩)]] w (FirstBad lo hi l w) := by
  have hm : l.length ≤ 9223372036854775807 := hr.2.1
  have HR := Aside0.mk hr
  have HBc := Aside0.mk hB
  have HCc := Aside0.mk hC
  clear hr hB hC
  go_enter Try.func76, Try.ntmps76
  go_wp2
  go_loopg [5, 8] l.length (fun gg _ s8 wr => ∃ kk : Nat, kk ≤ l.length ∧ l.length - kk ≤ gg ∧ s8 = .int .i64 kk ∧ Aside0 (Below w.heap.size w wr) ∧ Aside0 (∀ j, j < kk → inB lo hi (rd l (j : Nat)) = true))
  case atStart => exact ⟨0, Nat.zero_le _, by omega, rfl, ⟨Below.refl _ w⟩, ⟨fun j hj => absurd hj (Nat.not_lt_zero _)⟩⟩
  case round =>
    obtain ⟨kk, hkk, hg, rfl, BW, A1⟩ := hrel
    by_cases hlt : kk < l.length
    · have hltz : (kk : Int) < (l.length : Int) := by omega
      obtain ⟨ad, e1, hx⟩ := Kd.at_int HR.out (kk : Int) (by omega) hltz
      cases e1
      replace hx := (BW.out.cell (World.block_lt_of_cell? w _ hx)).trans hx
      rw [Int.toNat_natCast] at hx
      have hcall := areWithin_clo (rd l (kk : Nat)) B C lo hi wr ((BW.out.cell (World.block_lt_of_cell? w _ HBc.out)).trans HBc.out) ((BW.out.cell (World.block_lt_of_cell? w _ HCc.out)).trans HCc.out)
      cases hq : inB lo hi (rd l (kk : Nat)) with
      | true =>
        rw [hq] at hcall
        have H := Lib.hid hcall
        have Hq := Lib.hid hq
        clear hcall hq
        go_wp2_with (go_at_call 75; refine H.out.mono ?_; rintro e w' ⟨rfl, hd⟩)
        go_roundg (l.length - (kk + 1))
        case measure => omega
        case rel =>
          refine ⟨kk + 1, by omega, by omega, by go_num, ⟨BW.out.trans (hd.below.mono BW.out.size)⟩, ⟨fun j hj => ?_⟩⟩
          by_cases e : j = kk
          · subst e
            exact Hq.out
          · exact A1.out j (by omega)
      | false =>
        rw [hq] at hcall
        have H := Lib.hid hcall
        have Hq := Lib.hid hq
        clear hcall hq
        go_wp2_with (go_at_call 75; refine H.out.mono ?_; rintro e w' ⟨rfl, hd⟩)
        go_ret
        refine ⟨(kk : Int), rfl, ?_, BW.out.trans (hd.below.mono BW.out.size)⟩
        rw [all_bad lo hi l kk hlt Hq.out]
        simp
    · have hltz : ¬ (kk : Int) < (l.length : Int) := by omega
      have e0 : kk = l.length := by omega
      go_wp2
      go_ret
      refine ⟨-1, rfl, ?_, BW.out⟩
      rw [all_pre lo hi l (fun j hj => A1.out j (by omega))]
      rfl

set_option maxHeartbeats 1000000 in
theorem areWithin_contains (A : Option Addr) (c : Nat) (l : List Int) (B C : Nat) (lo hi : Int) (w : World) (hr : Kd.C (Kd.int .i64) w A l.length l) (hB : w.cell? ⟨B, 0, none⟩ = some (.int .i64 lo)) (hC : w.cell? ⟨C, 0, none⟩ = some (.int .i64 hi)) :
    Calls Try.prog 74 #[.slice A l.length c, .func (.func 75) #[] #[.pointer (some ⟨B, 0, none⟩), .pointer (some ⟨C, 0, none⟩)]] w fun e w' => e = .returned (.bool (!(l.all (inB lo hi)))) ∧ Below w.heap.size w w' := by
  have hcall := areWithin_idx A c l B C lo hi w hr hB hC
  have H := Lib.hid hcall
  clear hcall hr hB hC
  go_enter Try.func74, Try.ntmps74
  go_wp2_with (go_at_call 76; refine H.out.mono ?_; rintro e w' ⟨i, rfl, hi, hb⟩; have Hi := Lib.hid hi; clear hi)
  go_ret
  exact ⟨by rw [Hi.out]; rfl, hb⟩

set_option maxHeartbeats 8000000 in
set_option maxRecDepth 100000 in
theorem impl_areWithin.calls (A0 : Option Addr) (c0 : Nat) (l0 : List Int) (a1 : Int) (a2 : Int) (r : Bool) (w : World) (hr0 : Kd.C (Kd.int .i64) w A0 l0.length l0) (_hc0 : l0.length ≤ c0) (h : impl_areWithin.f l0 a1 a2 = some r) :
    Calls Try.prog 71 #[.slice A0 l0.length c0, .int .i64 a1, .int .i64 a2] w fun e w' => e = .returned (.bool r) ∧ Below w.heap.size w w' := by
  obtain rfl : l0.all (inB a1 a2) = r := by simpa [impl_areWithin.f] using h
  have HR := Aside0.mk hr0
  clear h hr0
  go_enter Try.func71, Try.ntmps71
  go_wp2_with (go_at_call 74; refine (areWithin_contains A0 c0 l0 _ _ a1 a2 _ (Kd.C_below HR.out (by exact ((Below.refl _ _).alloc (Nat.le_refl _) _).alloc (by simp) _)) (by simp) (by simp)).mono ?_; rintro e w' ⟨rfl, hb⟩)
  go_ret
  exact ⟨by simp, (((Below.refl _ _).alloc (Nat.le_refl _) _).alloc (by simp) _).trans (hb.mono (by simp; omega))⟩

end Go.Proofs.Ytnikblimnjpmpaa.X

/- ==== Ximpltotal ==== -/
namespace Go.Proofs.Ytnikblimnjpmpaa.X
open Go.RowKit Go.Proofs.YtnikblimnjpmpaaW.PrintWords Go.Proofs.YtnikblimnjpmpaaW.PrintLast Go.Proofs.YtnikblimnjpmpaaW.PrintMore
attribute [local go_sem] max2_int min2_int max_two min_two max_three min_three max_four min_four   -- for this text's walks alone
set_option linter.unusedVariables false
set_option linter.unusedSimpArgs false

/-! ### impl_total: function 40 -/
def impl_total.l0 : Nat → Int → List Int → Int → Int → Option (Int)
  | 0, _, _, _, _ => none
  | k + 1, x3, x6, x7, x8 => if x8 < x7 then (if 0 ≤ x8 then (if x8 < (x6.length : Int) then (impl_total.l0 k (wrap64 (x3 + (rd x6 x8))) x6 x7 (wrap64 (x8 + 1))) else (none)) else (none)) else (some x3)
def impl_total.f (k : Nat) (l0 : List Int) : Option (Int) := impl_total.l0 k 0 l0 (l0.length : Int) 0
theorem impl_total.mono_l : ∀ k, (∀ y0 y1 y2 y3, LeO (impl_total.l0 k y0 y1 y2 y3) (impl_total.l0 (k + 1) y0 y1 y2 y3))
  | 0 => fun _ _ _ _ r h => by simp [impl_total.l0] at h
  | k + 1 => by
    have ih0 := impl_total.mono_l k
    · intro y0 y1 y2 y3
      unfold impl_total.l0
      repeat' first
      | (with_reducible exact ih0 _ _ _ _)
      | (with_reducible exact LeO.refl _)
      | (with_reducible exact LeO.none _)
      | (with_reducible refine LeO.ite ?_ ?_)
      | (with_reducible refine LeO.bind ?_ (fun _ => ?_))
      | exact ih0 _ _ _ _
      | exact LeO.none _
      | refine LeO.ite ?_ ?_
      | refine LeO.bind ?_ (fun _ => ?_)
theorem impl_total.mono : ∀ a0 k, LeO (impl_total.f k a0) (impl_total.f (k + 1) a0) := by
  intro a0 k
  have ih0 := impl_total.mono_l k
  unfold impl_total.f
  repeat' first
      | (with_reducible exact ih0 _ _ _ _)
      | (with_reducible exact LeO.refl _)
      | (with_reducible exact LeO.none _)
      | (with_reducible refine LeO.ite ?_ ?_)
      | (with_reducible refine LeO.bind ?_ (fun _ => ?_))
      | exact ih0 _ _ _ _
      | exact LeO.none _
      | refine LeO.ite ?_ ?_
      | refine LeO.bind ?_ (fun _ => ?_)
set_option maxHeartbeats 8000000 in
set_option maxRecDepth 100000 in
theorem impl_total.calls (k : Nat) (A0 : Option Addr) (c0 : Nat) (l0 : List Int) (r : Int) (w : World) (hr0 : Kd.C (Kd.int .i64) w A0 l0.length l0) (hc0 : l0.length ≤ c0) (h : impl_total.f k l0 = some r) :
    Calls Try.prog 40 #[.slice A0 l0.length c0] w fun e w' => e = .returned (.int .i64 r) ∧ Drawn0 w w' := by
  have HR0 := Aside0.mk hr0
  have HC0 := Aside0.mk hc0
  clear hr0 hc0
  have H : (impl_total.l0 k 0 l0 (l0.length : Int) 0) = some r := h
  clear h
  have H' := Aside0.mk H
  clear H
  go_enter Try.func40, Try.ntmps40
  go_wp2
  go_loopg [3, 8] k (fun kq v3 v8 w' => ∃ (x3_1 : Int) (x8_1 : Int), v3 = .int .i64 x3_1 ∧ v8 = .int .i64 x8_1 ∧ Aside0 (impl_total.l0 kq x3_1 l0 (l0.length : Int) x8_1 = some r) ∧ Aside0 (kq ≤ k) ∧ Drawn0 w w')
  case atStart => exact ⟨(0), (0), (by first | rfl | (simp; done) | (simp [*]; done)), (by first | rfl | (simp; done) | (simp [*]; done)), H', ⟨Nat.le_refl _⟩, by repeat (first | exact Drawn0.refl _ | apply Drawn0.step)⟩
  case round =>
    clear H'
    obtain ⟨x3_1, x8_1, rfl, rfl, HA, HK1, ⟨m1, rfl⟩⟩ := hrel
    cases gk with
    | zero => exact absurd HA.out (by simp [impl_total.l0])
    | succ k1 =>
      have H := HA.out
      clear HA
      simp only [impl_total.l0] at H
      by_cases c2 : x8_1 < (l0.length : Int)
      · rw [if_pos c2] at H
        have c2b0 : decide (x8_1 < (l0.length : Int)) = true := decide_eq_true c2
        clear c2
        by_cases c3 : 0 ≤ x8_1
        · rw [if_pos c3] at H
          have c3b0 : decide (0 ≤ x8_1) = true := decide_eq_true c3
          clear c3
          by_cases c4 : x8_1 < (l0.length : Int)
          · rw [if_pos c4] at H
            have c4b0 : decide (x8_1 < (l0.length : Int)) = true := decide_eq_true c4
            clear c4
            have H' := Aside0.mk H
            clear H
            have p146 : 0 ≤ (x8_1 : Int) := of_decide_eq_true (by first | (with_reducible assumption) | assumption)
            have q146 : x8_1 < (l0.length : Int) := of_decide_eq_true (by first | (with_reducible assumption) | assumption)
            obtain ⟨ad146, e146, hx146_0⟩ := Kd.at_int HR0.out x8_1 p146 q146
            cases e146
            replace p146 := eq_true p146
            replace q146 := eq_true q146
            go_wp2
            go_roundg k1
            case measure => have := HK1.out; omega
            case rel => exact ⟨(wrap64 (x3_1 + (rd l0 x8_1))), (wrap64 (x8_1 + 1)), (by first | rfl | (simp; done) | (simp [*]; done)), (by first | rfl | (simp; done) | (simp [*]; done)), H', ⟨by have := HK1.out; omega⟩, by repeat (first | exact Drawn0.refl _ | apply Drawn0.step)⟩
          · rw [if_neg c4] at H
            exact absurd H (by simp)
        · rw [if_neg c3] at H
          exact absurd H (by simp)
      · rw [if_neg c2] at H
        have c2b0 : decide (x8_1 < (l0.length : Int)) = false := decide_eq_false c2
        clear c2
        obtain rfl := Option.some.inj H
        go_wp2
        go_ret
        exact ⟨by first | rfl | (simp; done) | (simp [*]; done), by repeat (first | exact Drawn0.refl _ | apply Drawn0.step)⟩

end Go.Proofs.Ytnikblimnjpmpaa.X

/- ==== XimplAreSocks ==== -/
namespace Go.Proofs.Ytnikblimnjpmpaa.X
open Go.RowKit Go.Proofs.YtnikblimnjpmpaaW.PrintWords Go.Proofs.YtnikblimnjpmpaaW.PrintLast Go.Proofs.YtnikblimnjpmpaaW.PrintMore
attribute [local go_sem] max2_int min2_int max_two min_two max_three min_three max_four min_four   -- for this text's walks alone
set_option linter.unusedVariables false
set_option linter.unusedSimpArgs false

/-! ### impl_AreSocks: function 63 -/
def impl_AreSocks.f (k : Nat) (l0 : List Int) : Option (Bool) := (impl_within.f (l0.length : Int) 1 8).bind fun t147 => (if t147 = true then ((impl_areWithin.f l0 0 20).bind fun t148 => (if t148 = true then ((impl_total.f k l0).bind fun t149 => (some (decide (t149 > 0)))) else (some false))) else (some false))
theorem impl_AreSocks.mono : ∀ a0 k, LeO (impl_AreSocks.f k a0) (impl_AreSocks.f (k + 1) a0) := by
  intro a0 k
  unfold impl_AreSocks.f
  repeat' first
      | (with_reducible exact impl_total.mono _ _)
      | (with_reducible exact LeO.refl _)
      | (with_reducible exact LeO.none _)
      | (with_reducible refine LeO.ite ?_ ?_)
      | (with_reducible refine LeO.bind ?_ (fun _ => ?_))
      | exact impl_total.mono _ _
      | exact LeO.none _
      | refine LeO.ite ?_ ?_
      | refine LeO.bind ?_ (fun _ => ?_)
set_option maxHeartbeats 8000000 in
set_option maxRecDepth 100000 in
theorem impl_AreSocks.calls (k : Nat) (A0 : Option Addr) (c0 : Nat) (l0 : List Int) (r : Bool) (w : World) (hr0 : Kd.C (Kd.int .i64) w A0 l0.length l0) (hc0 : l0.length ≤ c0) (h : impl_AreSocks.f k l0 = some r) :
    Calls Try.prog 63 #[.slice A0 l0.length c0] w fun e w' => e = .returned (.bool r) ∧ Below w.heap.size w w' := by
  have HR0 := Aside0.mk hr0
  have HC0 := Aside0.mk hc0
  clear hr0 hc0
  have HB := Aside0.mk (Below.refl w.heap.size w)
  have H : ((impl_within.f (l0.length : Int) 1 8).bind fun t147 => (if t147 = true then ((impl_areWithin.f l0 0 20).bind fun t148 => (if t148 = true then ((impl_total.f k l0).bind fun t149 => (some (decide (t149 > 0)))) else (some false))) else (some false))) = some r := h
  clear h
  replace H := Option.bind_eq_some_iff.mp H
  obtain ⟨t147, A20, H⟩ := H
  replace H : (if t147 = true then ((impl_areWithin.f l0 0 20).bind fun t148 => (if t148 = true then ((impl_total.f k l0).bind fun t149 => (some (decide (t149 > 0)))) else (some false))) else (some false)) = some r := H
  have A2 := Aside0.mk A20
  clear A20
  by_cases c3 : t147 = true
  · subst c3
    have H1 : ((impl_areWithin.f l0 0 20).bind fun t148 => (if t148 = true then ((impl_total.f k l0).bind fun t149 => (some (decide (t149 > 0)))) else (some false))) = some r := by rw [if_pos rfl] at H; exact H
    clear H
    have H := H1
    clear H1
    replace H := Option.bind_eq_some_iff.mp H
    obtain ⟨t148, A40, H⟩ := H
    replace H : (if t148 = true then ((impl_total.f k l0).bind fun t149 => (some (decide (t149 > 0)))) else (some false)) = some r := H
    have A4 := Aside0.mk A40
    clear A40
    by_cases c5 : t148 = true
    · subst c5
      have H1 : ((impl_total.f k l0).bind fun t149 => (some (decide (t149 > 0)))) = some r := by rw [if_pos rfl] at H; exact H
      clear H
      have H := H1
      clear H1
      replace H := Option.bind_eq_some_iff.mp H
      obtain ⟨t149, A60, H⟩ := H
      replace H : (some (decide (t149 > 0))) = some r := H
      have A6 := Aside0.mk A60
      clear A60
      obtain rfl := Option.some.inj H
      go_enter Try.func63, Try.ntmps63
      go_wp2_with (first | ((with_reducible refine gate_callee (f := 51) rfl ?_); refine goesL_ (some 5) rfl rfl Try.func51 (by kernel_rfl) rfl #[.int .i64 (l0.length : Int), .int .i64 1, .int .i64 8] rfl (by (try simp only [List.map_toArray, List.map_cons, List.map_nil]); first | done | rfl | (simp only [List.length_drop, List.length_take]; rfl)) ?_; (with_reducible refine (impl_within.calls (l0.length : Int) 1 8 true _ A2.out).mono ?_); rintro e w' ⟨rfl, ⟨nd, rfl⟩⟩; refine ⟨_, rfl, ?_⟩) | (go_at_call 71; (with_reducible refine (impl_areWithin.calls _ _ l0 0 20 true _ ?side1 ?side2 A4.out).mono ?_); (case side1 => repeat (first | exact HR0.out | (with_reducible refine Kd.C_alloc ?_ _) | (with_reducible refine Kd.C_drewN ?_ _) | (with_reducible refine Kd.C_drew ?_))); (case side2 => exact HC0.out); rintro e w7 ⟨rfl, hb⟩; have n0_ := Aside0.mk (below_step (by repeat (first | (with_reducible first | exact HB.out | apply below_alloc | apply pw_below_drewN | apply below_drew1) | exact HB.out)) hb); clear HB; have HB := n0_; clear n0_; (try clear hb); (try clear hb2); (try clear hk); (try clear hi)) | (go_at_call 40; (with_reducible refine (impl_total.calls k _ _ l0 t149 _ ?side1 ?side2 A6.out).mono ?_); (case side1 => repeat (first | exact (Kd.C_below HR0.out HB.out) | (with_reducible refine Kd.C_alloc ?_ _) | (with_reducible refine Kd.C_drewN ?_ _) | (with_reducible refine Kd.C_drew ?_))); (case side2 => exact HC0.out); rintro e w' ⟨rfl, ⟨nd, rfl⟩⟩))
      go_ret
      exact ⟨by first | rfl | (simp [errW_none, errW_some] <;> rfl) | (simp [*, errW_none, errW_some] <;> rfl), by repeat (first | (with_reducible first | exact HB.out | apply below_alloc | apply pw_below_drewN | apply below_drew1) | exact HB.out)⟩
    · replace c5 := Bool.eq_false_iff.mpr c5
      subst c5
      have H1 : (some false) = some r := by rw [if_neg (show ¬ (false = true) by decide)] at H; exact H
      clear H
      have H := H1
      clear H1
      obtain rfl := Option.some.inj H
      go_enter Try.func63, Try.ntmps63
      go_wp2_with (first | ((with_reducible refine gate_callee (f := 51) rfl ?_); refine goesL_ (some 5) rfl rfl Try.func51 (by kernel_rfl) rfl #[.int .i64 (l0.length : Int), .int .i64 1, .int .i64 8] rfl (by (try simp only [List.map_toArray, List.map_cons, List.map_nil]); first | done | rfl | (simp only [List.length_drop, List.length_take]; rfl)) ?_; (with_reducible refine (impl_within.calls (l0.length : Int) 1 8 true _ A2.out).mono ?_); rintro e w' ⟨rfl, ⟨nd, rfl⟩⟩; refine ⟨_, rfl, ?_⟩) | (go_at_call 71; (with_reducible refine (impl_areWithin.calls _ _ l0 0 20 false _ ?side1 ?side2 A4.out).mono ?_); (case side1 => repeat (first | exact HR0.out | (with_reducible refine Kd.C_alloc ?_ _) | (with_reducible refine Kd.C_drewN ?_ _) | (with_reducible refine Kd.C_drew ?_))); (case side2 => exact HC0.out); rintro e w8 ⟨rfl, hb⟩; have n0_ := Aside0.mk (below_step (by repeat (first | (with_reducible first | exact HB.out | apply below_alloc | apply pw_below_drewN | apply below_drew1) | exact HB.out)) hb); clear HB; have HB := n0_; clear n0_; (try clear hb); (try clear hb2); (try clear hk); (try clear hi)))
      go_ret
      exact ⟨by first | rfl | (simp [errW_none, errW_some] <;> rfl) | (simp [*, errW_none, errW_some] <;> rfl), by repeat (first | (with_reducible first | exact HB.out | apply below_alloc | apply pw_below_drewN | apply below_drew1) | exact HB.out)⟩
  · replace c3 := Bool.eq_false_iff.mpr c3
    subst c3
    have H1 : (some false) = some r := by rw [if_neg (show ¬ (false = true) by decide)] at H; exact H
    clear H
    have H := H1
    clear H1
    obtain rfl := Option.some.inj H
    go_enter Try.func63, Try.ntmps63
    go_wp2_with (first | ((with_reducible refine gate_callee (f := 51) rfl ?_); refine goesL_ (some 5) rfl rfl Try.func51 (by kernel_rfl) rfl #[.int .i64 (l0.length : Int), .int .i64 1, .int .i64 8] rfl (by (try simp only [List.map_toArray, List.map_cons, List.map_nil]); first | done | rfl | (simp only [List.length_drop, List.length_take]; rfl)) ?_; (with_reducible refine (impl_within.calls (l0.length : Int) 1 8 false _ A2.out).mono ?_); rintro e w' ⟨rfl, ⟨nd, rfl⟩⟩; refine ⟨_, rfl, ?_⟩))
    go_ret
    exact ⟨by first | rfl | (simp [errW_none, errW_some] <;> rfl) | (simp [*, errW_none, errW_some] <;> rfl), by repeat (first | (with_reducible first | exact HB.out | apply below_alloc | apply pw_below_drewN | apply below_drew1) | exact HB.out)⟩

end Go.Proofs.Ytnikblimnjpmpaa.X

/- ==== XimplareFew ==== -/
namespace Go.Proofs.Ytnikblimnjpmpaa.X
open Go.RowKit Go.Proofs.YtnikblimnjpmpaaW.PrintWords Go.Proofs.YtnikblimnjpmpaaW.PrintLast Go.Proofs.YtnikblimnjpmpaaW.PrintMore
attribute [local go_sem] max2_int min2_int max_two min_two max_three min_three max_four min_four   -- for this text's walks alone
set_option linter.unusedVariables false
set_option linter.unusedSimpArgs false

/-! ### impl_areFew: function 50 -/
def impl_areFew.f (k : Nat) (l0 : List Int) : Option (Bool) := (impl_AreSocks.f k l0).bind fun t150 => (if t150 = true then ((impl_total.f k l0).bind fun t151 => (some (decide (t151 ≤ 40)))) else (some false))
theorem impl_areFew.mono : ∀ a0 k, LeO (impl_areFew.f k a0) (impl_areFew.f (k + 1) a0) := by
  intro a0 k
  unfold impl_areFew.f
  repeat' first
      | (with_reducible exact impl_AreSocks.mono _ _)
      | (with_reducible exact impl_total.mono _ _)
      | (with_reducible exact LeO.refl _)
      | (with_reducible exact LeO.none _)
      | (with_reducible refine LeO.ite ?_ ?_)
      | (with_reducible refine LeO.bind ?_ (fun _ => ?_))
      | exact impl_AreSocks.mono _ _
      | exact impl_total.mono _ _
      | exact LeO.none _
      | refine LeO.ite ?_ ?_
      | refine LeO.bind ?_ (fun _ => ?_)
set_option maxHeartbeats 8000000 in
set_option maxRecDepth 100000 in
theorem impl_areFew.calls (k : Nat) (A0 : Option Addr) (c0 : Nat) (l0 : List Int) (r : Bool) (w : World) (hr0 : Kd.C (Kd.int .i64) w A0 l0.length l0) (hc0 : l0.length ≤ c0) (h : impl_areFew.f k l0 = some r) :
    Calls Try.prog 50 #[.slice A0 l0.length c0] w fun e w' => e = .returned (.bool r) ∧ Below w.heap.size w w' := by
  have HR0 := Aside0.mk hr0
  have HC0 := Aside0.mk hc0
  clear hr0 hc0
  have HB := Aside0.mk (Below.refl w.heap.size w)
  have H : ((impl_AreSocks.f k l0).bind fun t150 => (if t150 = true then ((impl_total.f k l0).bind fun t151 => (some (decide (t151 ≤ 40)))) else (some false))) = some r := h
  clear h
  replace H := Option.bind_eq_some_iff.mp H
  obtain ⟨t150, A20, H⟩ := H
  replace H : (if t150 = true then ((impl_total.f k l0).bind fun t151 => (some (decide (t151 ≤ 40)))) else (some false)) = some r := H
  have A2 := Aside0.mk A20
  clear A20
  by_cases c3 : t150 = true
  · subst c3
    have H1 : ((impl_total.f k l0).bind fun t151 => (some (decide (t151 ≤ 40)))) = some r := by rw [if_pos rfl] at H; exact H
    clear H
    have H := H1
    clear H1
    replace H := Option.bind_eq_some_iff.mp H
    obtain ⟨t151, A40, H⟩ := H
    replace H : (some (decide (t151 ≤ 40))) = some r := H
    have A4 := Aside0.mk A40
    clear A40
    obtain rfl := Option.some.inj H
    go_enter Try.func50, Try.ntmps50
    go_wp2_with (first | ((with_reducible refine gate_callee (f := 63) rfl ?_); refine goesL_ (some 4) rfl rfl Try.func63 (by kernel_rfl) rfl #[.slice A0 l0.length c0] rfl (by (try simp only [List.map_toArray, List.map_cons, List.map_nil]); first | done | rfl | (simp only [List.length_drop, List.length_take]; rfl)) ?_; (with_reducible refine (impl_AreSocks.calls k _ _ l0 true _ ?side1 ?side2 A2.out).mono ?_); (case side1 => repeat (first | exact HR0.out | (with_reducible refine Kd.C_alloc ?_ _) | (with_reducible refine Kd.C_drewN ?_ _) | (with_reducible refine Kd.C_drew ?_))); (case side2 => exact HC0.out); rintro e w5 ⟨rfl, hb⟩; refine ⟨_, rfl, ?_⟩; have n0_ := Aside0.mk (below_step (by repeat (first | (with_reducible first | exact HB.out | apply below_alloc | apply pw_below_drewN | apply below_drew1) | exact HB.out)) hb); clear HB; have HB := n0_; clear n0_; (try clear hb); (try clear hb2); (try clear hk); (try clear hi)) | (go_at_call 40; (with_reducible refine (impl_total.calls k _ _ l0 t151 _ ?side1 ?side2 A4.out).mono ?_); (case side1 => repeat (first | exact (Kd.C_below HR0.out HB.out) | (with_reducible refine Kd.C_alloc ?_ _) | (with_reducible refine Kd.C_drewN ?_ _) | (with_reducible refine Kd.C_drew ?_))); (case side2 => exact HC0.out); rintro e w' ⟨rfl, ⟨nd, rfl⟩⟩))
    go_ret
    exact ⟨by first | rfl | (simp [errW_none, errW_some] <;> rfl) | (simp [*, errW_none, errW_some] <;> rfl), by repeat (first | (with_reducible first | exact HB.out | apply below_alloc | apply pw_below_drewN | apply below_drew1) | exact HB.out)⟩
  · replace c3 := Bool.eq_false_iff.mpr c3
    subst c3
    have H1 : (some false) = some r := by rw [if_neg (show ¬ (false = true) by decide)] at H; exact H
    clear H
    have H := H1
    clear H1
    obtain rfl := Option.some.inj H
    go_enter Try.func50, Try.ntmps50
    go_wp2_with (first | ((with_reducible refine gate_callee (f := 63) rfl ?_); refine goesL_ (some 4) rfl rfl Try.func63 (by kernel_rfl) rfl #[.slice A0 l0.length c0] rfl (by (try simp only [List.map_toArray, List.map_cons, List.map_nil]); first | done | rfl | (simp only [List.length_drop, List.length_take]; rfl)) ?_; (with_reducible refine (impl_AreSocks.calls k _ _ l0 false _ ?side1 ?side2 A2.out).mono ?_); (case side1 => repeat (first | exact HR0.out | (with_reducible refine Kd.C_alloc ?_ _) | (with_reducible refine Kd.C_drewN ?_ _) | (with_reducible refine Kd.C_drew ?_))); (case side2 => exact HC0.out); rintro e w6 ⟨rfl, hb⟩; refine ⟨_, rfl, ?_⟩; have n0_ := Aside0.mk (below_step (by repeat (first | (with_reducible first | exact HB.out | apply below_alloc | apply pw_below_drewN | apply below_drew1) | exact HB.out)) hb); clear HB; have HB := n0_; clear n0_; (try clear hb); (try clear hb2); (try clear hk); (try clear hi)))
    go_ret
    exact ⟨by first | rfl | (simp [errW_none, errW_some] <;> rfl) | (simp [*, errW_none, errW_some] <;> rfl), by repeat (first | (with_reducible first | exact HB.out | apply below_alloc | apply pw_below_drewN | apply below_drew1) | exact HB.out)⟩

end Go.Proofs.Ytnikblimnjpmpaa.X

/- ==== XimplisNumber ==== -/
namespace Go.Proofs.Ytnikblimnjpmpaa.X
open Go.RowKit Go.Proofs.YtnikblimnjpmpaaW.PrintWords Go.Proofs.YtnikblimnjpmpaaW.PrintLast Go.Proofs.YtnikblimnjpmpaaW.PrintMore
attribute [local go_sem] max2_int min2_int max_two min_two max_three min_three max_four min_four   -- for this text's walks alone
set_option linter.unusedVariables false
set_option linter.unusedSimpArgs false

/-! ### impl_isNumber: function 37 -/
def impl_isNumber.f (k : Nat) (l0 : List Int) (a1 : Int) : Option (Bool) := (impl_areFew.f k l0).bind fun t152 => (if t152 = true then ((impl_total.f k l0).bind fun t153 => ((impl_within.f a1 0 t153).bind fun t154 => (some t154))) else (some false))
theorem impl_isNumber.mono : ∀ a0 a1 k, LeO (impl_isNumber.f k a0 a1) (impl_isNumber.f (k + 1) a0 a1) := by
  intro a0 a1 k
  unfold impl_isNumber.f
  repeat' first
      | (with_reducible exact impl_areFew.mono _ _)
      | (with_reducible exact impl_total.mono _ _)
      | (with_reducible exact LeO.refl _)
      | (with_reducible exact LeO.none _)
      | (with_reducible refine LeO.ite ?_ ?_)
      | (with_reducible refine LeO.bind ?_ (fun _ => ?_))
      | exact impl_areFew.mono _ _
      | exact impl_total.mono _ _
      | exact LeO.none _
      | refine LeO.ite ?_ ?_
      | refine LeO.bind ?_ (fun _ => ?_)
set_option maxHeartbeats 8000000 in
set_option maxRecDepth 100000 in
theorem impl_isNumber.calls (k : Nat) (A0 : Option Addr) (c0 : Nat) (l0 : List Int) (a1 : Int) (r : Bool) (w : World) (hr0 : Kd.C (Kd.int .i64) w A0 l0.length l0) (hc0 : l0.length ≤ c0) (h : impl_isNumber.f k l0 a1 = some r) :
    Calls Try.prog 37 #[.slice A0 l0.length c0, .int .i64 a1] w fun e w' => e = .returned (.bool r) ∧ Below w.heap.size w w' := by
  have HR0 := Aside0.mk hr0
  have HC0 := Aside0.mk hc0
  clear hr0 hc0
  have HB := Aside0.mk (Below.refl w.heap.size w)
  have H : ((impl_areFew.f k l0).bind fun t152 => (if t152 = true then ((impl_total.f k l0).bind fun t153 => ((impl_within.f a1 0 t153).bind fun t154 => (some t154))) else (some false))) = some r := h
  clear h
  replace H := Option.bind_eq_some_iff.mp H
  obtain ⟨t152, A30, H⟩ := H
  replace H : (if t152 = true then ((impl_total.f k l0).bind fun t153 => ((impl_within.f a1 0 t153).bind fun t154 => (some t154))) else (some false)) = some r := H
  have A3 := Aside0.mk A30
  clear A30
  by_cases c4 : t152 = true
  · subst c4
    have H1 : ((impl_total.f k l0).bind fun t153 => ((impl_within.f a1 0 t153).bind fun t154 => (some t154))) = some r := by rw [if_pos rfl] at H; exact H
    clear H
    have H := H1
    clear H1
    replace H := Option.bind_eq_some_iff.mp H
    obtain ⟨t153, A50, H⟩ := H
    replace H : ((impl_within.f a1 0 t153).bind fun t154 => (some t154)) = some r := H
    have A5 := Aside0.mk A50
    clear A50
    replace H := Option.bind_eq_some_iff.mp H
    obtain ⟨t154, A60, H⟩ := H
    replace H : (some t154) = some r := H
    have A6 := Aside0.mk A60
    clear A60
    obtain rfl := Option.some.inj H
    go_enter Try.func37, Try.ntmps37
    go_wp2_with (first | ((with_reducible refine gate_callee (f := 50) rfl ?_); refine goesL_ (some 6) rfl rfl Try.func50 (by kernel_rfl) rfl #[.slice A0 l0.length c0] rfl (by (try simp only [List.map_toArray, List.map_cons, List.map_nil]); first | done | rfl | (simp only [List.length_drop, List.length_take]; rfl)) ?_; (with_reducible refine (impl_areFew.calls k _ _ l0 true _ ?side1 ?side2 A3.out).mono ?_); (case side1 => repeat (first | exact HR0.out | (with_reducible refine Kd.C_alloc ?_ _) | (with_reducible refine Kd.C_drewN ?_ _) | (with_reducible refine Kd.C_drew ?_))); (case side2 => exact HC0.out); rintro e w7 ⟨rfl, hb⟩; refine ⟨_, rfl, ?_⟩; have n0_ := Aside0.mk (below_step (by repeat (first | (with_reducible first | exact HB.out | apply below_alloc | apply pw_below_drewN | apply below_drew1) | exact HB.out)) hb); clear HB; have HB := n0_; clear n0_; (try clear hb); (try clear hb2); (try clear hk); (try clear hi)) | (go_at_call 40; (with_reducible refine (impl_total.calls k _ _ l0 t153 _ ?side1 ?side2 A5.out).mono ?_); (case side1 => repeat (first | exact (Kd.C_below HR0.out HB.out) | (with_reducible refine Kd.C_alloc ?_ _) | (with_reducible refine Kd.C_drewN ?_ _) | (with_reducible refine Kd.C_drew ?_))); (case side2 => exact HC0.out); rintro e w' ⟨rfl, ⟨nd, rfl⟩⟩) | (go_at_call 51; (with_reducible refine (impl_within.calls a1 0 t153 t154 _ A6.out).mono ?_); rintro e w' ⟨rfl, ⟨nd, rfl⟩⟩))
    go_ret
    exact ⟨by first | rfl | (simp [errW_none, errW_some] <;> rfl) | (simp [*, errW_none, errW_some] <;> rfl), by repeat (first | (with_reducible first | exact HB.out | apply below_alloc | apply pw_below_drewN | apply below_drew1) | exact HB.out)⟩
  · replace c4 := Bool.eq_false_iff.mpr c4
    subst c4
    have H1 : (some false) = some r := by rw [if_neg (show ¬ (false = true) by decide)] at H; exact H
    clear H
    have H := H1
    clear H1
    obtain rfl := Option.some.inj H
    go_enter Try.func37, Try.ntmps37
    go_wp2_with (first | ((with_reducible refine gate_callee (f := 50) rfl ?_); refine goesL_ (some 6) rfl rfl Try.func50 (by kernel_rfl) rfl #[.slice A0 l0.length c0] rfl (by (try simp only [List.map_toArray, List.map_cons, List.map_nil]); first | done | rfl | (simp only [List.length_drop, List.length_take]; rfl)) ?_; (with_reducible refine (impl_areFew.calls k _ _ l0 false _ ?side1 ?side2 A3.out).mono ?_); (case side1 => repeat (first | exact HR0.out | (with_reducible refine Kd.C_alloc ?_ _) | (with_reducible refine Kd.C_drewN ?_ _) | (with_reducible refine Kd.C_drew ?_))); (case side2 => exact HC0.out); rintro e w8 ⟨rfl, hb⟩; refine ⟨_, rfl, ?_⟩; have n0_ := Aside0.mk (below_step (by repeat (first | (with_reducible first | exact HB.out | apply below_alloc | apply pw_below_drewN | apply below_drew1) | exact HB.out)) hb); clear HB; have HB := n0_; clear n0_; (try clear hb); (try clear hb2); (try clear hk); (try clear hi)))
    go_ret
    exact ⟨by first | rfl | (simp [errW_none, errW_some] <;> rfl) | (simp [*, errW_none, errW_some] <;> rfl), by repeat (first | (with_reducible first | exact HB.out | apply below_alloc | apply pw_below_drewN | apply below_drew1) | exact HB.out)⟩

end Go.Proofs.Ytnikblimnjpmpaa.X

/- ==== Xspecl1In ==== -/
namespace Go.Proofs.Ytnikblimnjpmpaa.X
open Go.RowKit Go.Proofs.YtnikblimnjpmpaaW.PrintWords Go.Proofs.YtnikblimnjpmpaaW.PrintLast Go.Proofs.YtnikblimnjpmpaaW.PrintMore
attribute [local go_sem] max2_int min2_int max_two min_two max_three min_three max_four min_four   -- for this text's walks alone
set_option linter.unusedVariables false
set_option linter.unusedSimpArgs false

/-! ### spec_l1In: function 49 -/
def spec_l1In.f (a0 : Int) (a1 : Int) (a2 : Int) : Option (Bool) := if a0 ≥ a1 then (some (decide (a0 ≤ a2))) else (some false)
set_option maxHeartbeats 8000000 in
set_option maxRecDepth 100000 in
theorem spec_l1In.calls (a0 : Int) (a1 : Int) (a2 : Int) (r : Bool) (w : World) (h : spec_l1In.f a0 a1 a2 = some r) :
    Calls Try.prog 49 #[.int .i64 a0, .int .i64 a1, .int .i64 a2] w fun e w' => e = .returned (.bool r) ∧ Drawn0 w w' := by
  have H : (if a0 ≥ a1 then (some (decide (a0 ≤ a2))) else (some false)) = some r := h
  clear h
  by_cases c4 : a0 ≥ a1
  · rw [if_pos c4] at H
    have c4b0 : decide (a1 ≤ a0) = true := decide_eq_true c4
    clear c4
    obtain rfl := Option.some.inj H
    go_enter Try.func49, Try.ntmps49
    go_wp2
    go_ret
    exact ⟨by first | rfl | (simp; done) | (simp [*]; done), by repeat (first | exact Drawn0.refl _ | apply Drawn0.step)⟩
  · rw [if_neg c4] at H
    have c4b0 : decide (a1 ≤ a0) = false := decide_eq_false c4
    clear c4
    obtain rfl := Option.some.inj H
    go_enter Try.func49, Try.ntmps49
    go_wp2
    go_ret
    exact ⟨by first | rfl | (simp; done) | (simp [*]; done), by repeat (first | exact Drawn0.refl _ | apply Drawn0.step)⟩

end Go.Proofs.Ytnikblimnjpmpaa.X

/- ==== Xspecl1All ==== -/
namespace Go.Proofs.Ytnikblimnjpmpaa.X
open Go.RowKit Go.Proofs.YtnikblimnjpmpaaW.PrintWords Go.Proofs.YtnikblimnjpmpaaW.PrintLast Go.Proofs.YtnikblimnjpmpaaW.PrintMore
attribute [local go_sem] max2_int min2_int max_two min_two max_three min_three max_four min_four   -- for this text's walks alone
set_option linter.unusedVariables false
set_option linter.unusedSimpArgs false

/-! ### spec_l1All: function 70 -/
def spec_l1All.l0 : Nat → Int → Int → List Int → Int → Int → Option (Bool)
  | 0, _, _, _, _, _ => none
  | k + 1, x1, x2, x9, x10, x11 => if x11 < x10 then (if 0 ≤ x11 then (if x11 < (x9.length : Int) then ((spec_l1In.f (rd x9 x11) x1 x2).bind fun t103 => (if t103 = true then (spec_l1All.l0 k x1 x2 x9 x10 (wrap64 (x11 + 1))) else (some false))) else (none)) else (none)) else (some true)
def spec_l1All.f (k : Nat) (l0 : List Int) (a1 : Int) (a2 : Int) : Option (Bool) := spec_l1All.l0 k a1 a2 l0 (l0.length : Int) 0
theorem spec_l1All.mono_l : ∀ k, (∀ y0 y1 y2 y3 y4, LeO (spec_l1All.l0 k y0 y1 y2 y3 y4) (spec_l1All.l0 (k + 1) y0 y1 y2 y3 y4))
  | 0 => fun _ _ _ _ _ r h => by simp [spec_l1All.l0] at h
  | k + 1 => by
    have ih0 := spec_l1All.mono_l k
    · intro y0 y1 y2 y3 y4
      unfold spec_l1All.l0
      repeat' first
      | (with_reducible exact ih0 _ _ _ _ _)
      | (with_reducible exact LeO.refl _)
      | (with_reducible exact LeO.none _)
      | (with_reducible refine LeO.ite ?_ ?_)
      | (with_reducible refine LeO.bind ?_ (fun _ => ?_))
      | exact ih0 _ _ _ _ _
      | exact LeO.none _
      | refine LeO.ite ?_ ?_
      | refine LeO.bind ?_ (fun _ => ?_)
theorem spec_l1All.mono : ∀ a0 a1 a2 k, LeO (spec_l1All.f k a0 a1 a2) (spec_l1All.f (k + 1) a0 a1 a2) := by
  intro a0 a1 a2 k
  have ih0 := spec_l1All.mono_l k
  unfold spec_l1All.f
  repeat' first
      | (with_reducible exact ih0 _ _ _ _ _)
      | (with_reducible exact LeO.refl _)
      | (with_reducible exact LeO.none _)
      | (with_reducible refine LeO.ite ?_ ?_)
      | (with_reducible refine LeO.bind ?_ (fun _ => ?_))
      | exact ih0 _ _ _ _ _
      | exact LeO.none _
      | refine LeO.ite ?_ ?_
      | refine LeO.bind ?_ (fun _ => ?_)
set_option maxHeartbeats 8000000 in
set_option maxRecDepth 100000 in
theorem spec_l1All.calls (k : Nat) (A0 : Option Addr) (c0 : Nat) (l0 : List Int) (a1 : Int) (a2 : Int) (r : Bool) (w : World) (hr0 : Kd.C (Kd.int .i64) w A0 l0.length l0) (hc0 : l0.length ≤ c0) (h : spec_l1All.f k l0 a1 a2 = some r) :
    Calls Try.prog 70 #[.slice A0 l0.length c0, .int .i64 a1, .int .i64 a2] w fun e w' => e = .returned (.bool r) ∧ Drawn0 w w' := by
  have HR0 := Aside0.mk hr0
  have HC0 := Aside0.mk hc0
  clear hr0 hc0
  have H : (spec_l1All.l0 k a1 a2 l0 (l0.length : Int) 0) = some r := h
  clear h
  have H' := Aside0.mk H
  clear H
  go_enter Try.func70, Try.ntmps70
  go_wp2
  go_loopg [11] k (fun kq v11 w' => ∃ (x11_1 : Int), v11 = .int .i64 x11_1 ∧ Aside0 (spec_l1All.l0 kq a1 a2 l0 (l0.length : Int) x11_1 = some r) ∧ Aside0 (kq ≤ k) ∧ Drawn0 w w')
  case atStart => exact ⟨(0), (by first | rfl | (simp; done) | (simp [*]; done)), H', ⟨Nat.le_refl _⟩, by repeat (first | exact Drawn0.refl _ | apply Drawn0.step)⟩
  case round =>
    clear H'
    try clear p2
    obtain ⟨x11_1, rfl, HA, HK1, ⟨m1, rfl⟩⟩ := hrel
    cases gk with
    | zero => exact absurd HA.out (by simp [spec_l1All.l0])
    | succ k1 =>
      have H := HA.out
      clear HA
      simp only [spec_l1All.l0] at H
      by_cases c4 : x11_1 < (l0.length : Int)
      · rw [if_pos c4] at H
        have c4b0 : decide (x11_1 < (l0.length : Int)) = true := decide_eq_true c4
        clear c4
        by_cases c5 : 0 ≤ x11_1
        · rw [if_pos c5] at H
          have c5b0 : decide (0 ≤ x11_1) = true := decide_eq_true c5
          clear c5
          by_cases c6 : x11_1 < (l0.length : Int)
          · rw [if_pos c6] at H
            have c6b0 : decide (x11_1 < (l0.length : Int)) = true := decide_eq_true c6
            clear c6
            replace H := Option.bind_eq_some_iff.mp H
            obtain ⟨t103, A70, H⟩ := H
            replace H : (if t103 = true then (spec_l1All.l0 k1 a1 a2 l0 (l0.length : Int) (wrap64 (x11_1 + 1))) else (some false)) = some r := H
            have A7 := Aside0.mk A70
            clear A70
            by_cases c8 : t103 = true
            · subst c8
              have H1 : (spec_l1All.l0 k1 a1 a2 l0 (l0.length : Int) (wrap64 (x11_1 + 1))) = some r := by rw [if_pos rfl] at H; exact H
              clear H
              have H := H1
              clear H1
              have H' := Aside0.mk H
              clear H
              have p102 : 0 ≤ (x11_1 : Int) := of_decide_eq_true (by first | (with_reducible assumption) | assumption)
              have q102 : x11_1 < (l0.length : Int) := of_decide_eq_true (by first | (with_reducible assumption) | assumption)
              obtain ⟨ad102, e102, hx102_0⟩ := Kd.at_int HR0.out x11_1 p102 q102
              cases e102
              replace p102 := eq_true p102
              replace q102 := eq_true q102
              go_wp2_with (first | ((with_reducible refine gate_callee (f := 49) rfl ?_); refine goesL_ (some 18) rfl rfl Try.func49 (by kernel_rfl) rfl #[.int .i64 (rd l0 x11_1), .int .i64 a1, .int .i64 a2] rfl (by (try simp only [List.map_toArray, List.map_cons, List.map_nil]); first | done | rfl | (simp only [List.length_drop, List.length_take]; rfl)) ?_; (with_reducible refine (spec_l1In.calls (rd l0 x11_1) a1 a2 true _ A7.out).mono ?_); rintro e w' ⟨rfl, ⟨nd, rfl⟩⟩; refine ⟨_, rfl, ?_⟩))
              go_roundg k1
              case measure => have := HK1.out; omega
              case rel => exact ⟨(wrap64 (x11_1 + 1)), (by first | rfl | (simp; done) | (simp [*]; done)), H', ⟨by have := HK1.out; omega⟩, by repeat (first | exact Drawn0.refl _ | apply Drawn0.step)⟩
            · replace c8 := Bool.eq_false_iff.mpr c8
              subst c8
              have H1 : (some false) = some r := by rw [if_neg (show ¬ (false = true) by decide)] at H; exact H
              clear H
              have H := H1
              clear H1
              obtain rfl := Option.some.inj H
              have p102 : 0 ≤ (x11_1 : Int) := of_decide_eq_true (by first | (with_reducible assumption) | assumption)
              have q102 : x11_1 < (l0.length : Int) := of_decide_eq_true (by first | (with_reducible assumption) | assumption)
              obtain ⟨ad102, e102, hx102_0⟩ := Kd.at_int HR0.out x11_1 p102 q102
              cases e102
              replace p102 := eq_true p102
              replace q102 := eq_true q102
              go_wp2_with (first | ((with_reducible refine gate_callee (f := 49) rfl ?_); refine goesL_ (some 18) rfl rfl Try.func49 (by kernel_rfl) rfl #[.int .i64 (rd l0 x11_1), .int .i64 a1, .int .i64 a2] rfl (by (try simp only [List.map_toArray, List.map_cons, List.map_nil]); first | done | rfl | (simp only [List.length_drop, List.length_take]; rfl)) ?_; (with_reducible refine (spec_l1In.calls (rd l0 x11_1) a1 a2 false _ A7.out).mono ?_); rintro e w' ⟨rfl, ⟨nd, rfl⟩⟩; refine ⟨_, rfl, ?_⟩))
              go_ret
              exact ⟨by first | rfl | (simp; done) | (simp [*]; done), by repeat (first | exact Drawn0.refl _ | apply Drawn0.step)⟩
          · rw [if_neg c6] at H
            exact absurd H (by simp)
        · rw [if_neg c5] at H
          exact absurd H (by simp)
      · rw [if_neg c4] at H
        have c4b0 : decide (x11_1 < (l0.length : Int)) = false := decide_eq_false c4
        clear c4
        obtain rfl := Option.some.inj H
        go_wp2
        go_ret
        exact ⟨by first | rfl | (simp; done) | (simp [*]; done), by repeat (first | exact Drawn0.refl _ | apply Drawn0.step)⟩

end Go.Proofs.Ytnikblimnjpmpaa.X

/- ==== XspecsoSum ==== -/
namespace Go.Proofs.Ytnikblimnjpmpaa.X
open Go.RowKit Go.Proofs.YtnikblimnjpmpaaW.PrintWords Go.Proofs.YtnikblimnjpmpaaW.PrintLast Go.Proofs.YtnikblimnjpmpaaW.PrintMore
attribute [local go_sem] max2_int min2_int max_two min_two max_three min_three max_four min_four   -- for this text's walks alone
set_option linter.unusedVariables false
set_option linter.unusedSimpArgs false

/-! ### spec_soSum: function 36 -/
def spec_soSum.l0 : Nat → Int → List Int → Int → Int → Option (Int)
  | 0, _, _, _, _ => none
  | k + 1, x3, x6, x7, x8 => if x8 < x7 then (if 0 ≤ x8 then (if x8 < (x6.length : Int) then (spec_soSum.l0 k (wrap64 (x3 + (rd x6 x8))) x6 x7 (wrap64 (x8 + 1))) else (none)) else (none)) else (some x3)
def spec_soSum.f (k : Nat) (l0 : List Int) : Option (Int) := spec_soSum.l0 k 0 l0 (l0.length : Int) 0
theorem spec_soSum.mono_l : ∀ k, (∀ y0 y1 y2 y3, LeO (spec_soSum.l0 k y0 y1 y2 y3) (spec_soSum.l0 (k + 1) y0 y1 y2 y3))
  | 0 => fun _ _ _ _ r h => by simp [spec_soSum.l0] at h
  | k + 1 => by
    have ih0 := spec_soSum.mono_l k
    · intro y0 y1 y2 y3
      unfold spec_soSum.l0
      repeat' first
      | (with_reducible exact ih0 _ _ _ _)
      | (with_reducible exact LeO.refl _)
      | (with_reducible exact LeO.none _)
      | (with_reducible refine LeO.ite ?_ ?_)
      | (with_reducible refine LeO.bind ?_ (fun _ => ?_))
      | exact ih0 _ _ _ _
      | exact LeO.none _
      | refine LeO.ite ?_ ?_
      | refine LeO.bind ?_ (fun _ => ?_)
theorem spec_soSum.mono : ∀ a0 k, LeO (spec_soSum.f k a0) (spec_soSum.f (k + 1) a0) := by
  intro a0 k
  have ih0 := spec_soSum.mono_l k
  unfold spec_soSum.f
  repeat' first
      | (with_reducible exact ih0 _ _ _ _)
      | (with_reducible exact LeO.refl _)
      | (with_reducible exact LeO.none _)
      | (with_reducible refine LeO.ite ?_ ?_)
      | (with_reducible refine LeO.bind ?_ (fun _ => ?_))
      | exact ih0 _ _ _ _
      | exact LeO.none _
      | refine LeO.ite ?_ ?_
      | refine LeO.bind ?_ (fun _ => ?_)
set_option maxHeartbeats 8000000 in
set_option maxRecDepth 100000 in
theorem spec_soSum.calls (k : Nat) (A0 : Option Addr) (c0 : Nat) (l0 : List Int) (r : Int) (w : World) (hr0 : Kd.C (Kd.int .i64) w A0 l0.length l0) (hc0 : l0.length ≤ c0) (h : spec_soSum.f k l0 = some r) :
    Calls Try.prog 36 #[.slice A0 l0.length c0] w fun e w' => e = .returned (.int .i64 r) ∧ Drawn0 w w' := by
  have HR0 := Aside0.mk hr0
  have HC0 := Aside0.mk hc0
  clear hr0 hc0
  have H : (spec_soSum.l0 k 0 l0 (l0.length : Int) 0) = some r := h
  clear h
  have H' := Aside0.mk H
  clear H
  go_enter Try.func36, Try.ntmps36
  go_wp2
  go_loopg [3, 8] k (fun kq v3 v8 w' => ∃ (x3_1 : Int) (x8_1 : Int), v3 = .int .i64 x3_1 ∧ v8 = .int .i64 x8_1 ∧ Aside0 (spec_soSum.l0 kq x3_1 l0 (l0.length : Int) x8_1 = some r) ∧ Aside0 (kq ≤ k) ∧ Drawn0 w w')
  case atStart => exact ⟨(0), (0), (by first | rfl | (simp; done) | (simp [*]; done)), (by first | rfl | (simp; done) | (simp [*]; done)), H', ⟨Nat.le_refl _⟩, by repeat (first | exact Drawn0.refl _ | apply Drawn0.step)⟩
  case round =>
    clear H'
    obtain ⟨x3_1, x8_1, rfl, rfl, HA, HK1, ⟨m1, rfl⟩⟩ := hrel
    cases gk with
    | zero => exact absurd HA.out (by simp [spec_soSum.l0])
    | succ k1 =>
      have H := HA.out
      clear HA
      simp only [spec_soSum.l0] at H
      by_cases c2 : x8_1 < (l0.length : Int)
      · rw [if_pos c2] at H
        have c2b0 : decide (x8_1 < (l0.length : Int)) = true := decide_eq_true c2
        clear c2
        by_cases c3 : 0 ≤ x8_1
        · rw [if_pos c3] at H
          have c3b0 : decide (0 ≤ x8_1) = true := decide_eq_true c3
          clear c3
          by_cases c4 : x8_1 < (l0.length : Int)
          · rw [if_pos c4] at H
            have c4b0 : decide (x8_1 < (l0.length : Int)) = true := decide_eq_true c4
            clear c4
            have H' := Aside0.mk H
            clear H
            have p101 : 0 ≤ (x8_1 : Int) := of_decide_eq_true (by first | (with_reducible assumption) | assumption)
            have q101 : x8_1 < (l0.length : Int) := of_decide_eq_true (by first | (with_reducible assumption) | assumption)
            obtain ⟨ad101, e101, hx101_0⟩ := Kd.at_int HR0.out x8_1 p101 q101
            cases e101
            replace p101 := eq_true p101
            replace q101 := eq_true q101
            go_wp2
            go_roundg k1
            case measure => have := HK1.out; omega
            case rel => exact ⟨(wrap64 (x3_1 + (rd l0 x8_1))), (wrap64 (x8_1 + 1)), (by first | rfl | (simp; done) | (simp [*]; done)), (by first | rfl | (simp; done) | (simp [*]; done)), H', ⟨by have := HK1.out; omega⟩, by repeat (first | exact Drawn0.refl _ | apply Drawn0.step)⟩
          · rw [if_neg c4] at H
            exact absurd H (by simp)
        · rw [if_neg c3] at H
          exact absurd H (by simp)
      · rw [if_neg c2] at H
        have c2b0 : decide (x8_1 < (l0.length : Int)) = false := decide_eq_false c2
        clear c2
        obtain rfl := Option.some.inj H
        go_wp2
        go_ret
        exact ⟨by first | rfl | (simp; done) | (simp [*]; done), by repeat (first | exact Drawn0.refl _ | apply Drawn0.step)⟩

end Go.Proofs.Ytnikblimnjpmpaa.X

/- ==== XspecsoGood ==== -/
namespace Go.Proofs.Ytnikblimnjpmpaa.X
open Go.RowKit Go.Proofs.YtnikblimnjpmpaaW.PrintWords Go.Proofs.YtnikblimnjpmpaaW.PrintLast Go.Proofs.YtnikblimnjpmpaaW.PrintMore
attribute [local go_sem] max2_int min2_int max_two min_two max_three min_three max_four min_four   -- for this text's walks alone
set_option linter.unusedVariables false
set_option linter.unusedSimpArgs false

/-! ### spec_soGood: function 62 -/
def spec_soGood.f (k : Nat) (l0 : List Int) : Option (Bool) := (spec_l1In.f (l0.length : Int) 1 8).bind fun t104 => (if t104 = true then ((spec_l1All.f k l0 0 20).bind fun t105 => (if t105 = true then ((spec_soSum.f k l0).bind fun t106 => (some (decide (t106 > 0)))) else (some false))) else (some false))
theorem spec_soGood.mono : ∀ a0 k, LeO (spec_soGood.f k a0) (spec_soGood.f (k + 1) a0) := by
  intro a0 k
  unfold spec_soGood.f
  repeat' first
      | (with_reducible exact spec_l1All.mono _ _ _ _)
      | (with_reducible exact spec_soSum.mono _ _)
      | (with_reducible exact LeO.refl _)
      | (with_reducible exact LeO.none _)
      | (with_reducible refine LeO.ite ?_ ?_)
      | (with_reducible refine LeO.bind ?_ (fun _ => ?_))
      | exact spec_l1All.mono _ _ _ _
      | exact spec_soSum.mono _ _
      | exact LeO.none _
      | refine LeO.ite ?_ ?_
      | refine LeO.bind ?_ (fun _ => ?_)
set_option maxHeartbeats 8000000 in
set_option maxRecDepth 100000 in
theorem spec_soGood.calls (k : Nat) (A0 : Option Addr) (c0 : Nat) (l0 : List Int) (r : Bool) (w : World) (hr0 : Kd.C (Kd.int .i64) w A0 l0.length l0) (hc0 : l0.length ≤ c0) (h : spec_soGood.f k l0 = some r) :
    Calls Try.prog 62 #[.slice A0 l0.length c0] w fun e w' => e = .returned (.bool r) ∧ Drawn0 w w' := by
  have HR0 := Aside0.mk hr0
  have HC0 := Aside0.mk hc0
  clear hr0 hc0
  have H : ((spec_l1In.f (l0.length : Int) 1 8).bind fun t104 => (if t104 = true then ((spec_l1All.f k l0 0 20).bind fun t105 => (if t105 = true then ((spec_soSum.f k l0).bind fun t106 => (some (decide (t106 > 0)))) else (some false))) else (some false))) = some r := h
  clear h
  replace H := Option.bind_eq_some_iff.mp H
  obtain ⟨t104, A20, H⟩ := H
  replace H : (if t104 = true then ((spec_l1All.f k l0 0 20).bind fun t105 => (if t105 = true then ((spec_soSum.f k l0).bind fun t106 => (some (decide (t106 > 0)))) else (some false))) else (some false)) = some r := H
  have A2 := Aside0.mk A20
  clear A20
  by_cases c3 : t104 = true
  · subst c3
    have H1 : ((spec_l1All.f k l0 0 20).bind fun t105 => (if t105 = true then ((spec_soSum.f k l0).bind fun t106 => (some (decide (t106 > 0)))) else (some false))) = some r := by rw [if_pos rfl] at H; exact H
    clear H
    have H := H1
    clear H1
    replace H := Option.bind_eq_some_iff.mp H
    obtain ⟨t105, A40, H⟩ := H
    replace H : (if t105 = true then ((spec_soSum.f k l0).bind fun t106 => (some (decide (t106 > 0)))) else (some false)) = some r := H
    have A4 := Aside0.mk A40
    clear A40
    by_cases c5 : t105 = true
    · subst c5
      have H1 : ((spec_soSum.f k l0).bind fun t106 => (some (decide (t106 > 0)))) = some r := by rw [if_pos rfl] at H; exact H
      clear H
      have H := H1
      clear H1
      replace H := Option.bind_eq_some_iff.mp H
      obtain ⟨t106, A60, H⟩ := H
      replace H : (some (decide (t106 > 0))) = some r := H
      have A6 := Aside0.mk A60
      clear A60
      obtain rfl := Option.some.inj H
      go_enter Try.func62, Try.ntmps62
      go_wp2_with (first | ((with_reducible refine gate_callee (f := 49) rfl ?_); refine goesL_ (some 5) rfl rfl Try.func49 (by kernel_rfl) rfl #[.int .i64 (l0.length : Int), .int .i64 1, .int .i64 8] rfl (by (try simp only [List.map_toArray, List.map_cons, List.map_nil]); first | done | rfl | (simp only [List.length_drop, List.length_take]; rfl)) ?_; (with_reducible refine (spec_l1In.calls (l0.length : Int) 1 8 true _ A2.out).mono ?_); rintro e w' ⟨rfl, ⟨nd, rfl⟩⟩; refine ⟨_, rfl, ?_⟩) | (go_at_call 70; (with_reducible refine (spec_l1All.calls k _ _ l0 0 20 true _ ?side1 ?side2 A4.out).mono ?_); (case side1 => repeat (first | exact HR0.out | (with_reducible refine Kd.C_alloc ?_ _) | (with_reducible refine Kd.C_drewN ?_ _) | (with_reducible refine Kd.C_drew ?_))); (case side2 => exact HC0.out); rintro e w' ⟨rfl, ⟨nd, rfl⟩⟩) | (go_at_call 36; (with_reducible refine (spec_soSum.calls k _ _ l0 t106 _ ?side1 ?side2 A6.out).mono ?_); (case side1 => repeat (first | exact HR0.out | (with_reducible refine Kd.C_alloc ?_ _) | (with_reducible refine Kd.C_drewN ?_ _) | (with_reducible refine Kd.C_drew ?_))); (case side2 => exact HC0.out); rintro e w' ⟨rfl, ⟨nd, rfl⟩⟩))
      go_ret
      exact ⟨by first | rfl | (simp; done) | (simp [*]; done), by repeat (first | exact Drawn0.refl _ | apply Drawn0.step)⟩
    · replace c5 := Bool.eq_false_iff.mpr c5
      subst c5
      have H1 : (some false) = some r := by rw [if_neg (show ¬ (false = true) by decide)] at H; exact H
      clear H
      have H := H1
      clear H1
      obtain rfl := Option.some.inj H
      go_enter Try.func62, Try.ntmps62
      go_wp2_with (first | ((with_reducible refine gate_callee (f := 49) rfl ?_); refine goesL_ (some 5) rfl rfl Try.func49 (by kernel_rfl) rfl #[.int .i64 (l0.length : Int), .int .i64 1, .int .i64 8] rfl (by (try simp only [List.map_toArray, List.map_cons, List.map_nil]); first | done | rfl | (simp only [List.length_drop, List.length_take]; rfl)) ?_; (with_reducible refine (spec_l1In.calls (l0.length : Int) 1 8 true _ A2.out).mono ?_); rintro e w' ⟨rfl, ⟨nd, rfl⟩⟩; refine ⟨_, rfl, ?_⟩) | (go_at_call 70; (with_reducible refine (spec_l1All.calls k _ _ l0 0 20 false _ ?side1 ?side2 A4.out).mono ?_); (case side1 => repeat (first | exact HR0.out | (with_reducible refine Kd.C_alloc ?_ _) | (with_reducible refine Kd.C_drewN ?_ _) | (with_reducible refine Kd.C_drew ?_))); (case side2 => exact HC0.out); rintro e w' ⟨rfl, ⟨nd, rfl⟩⟩))
      go_ret
      exact ⟨by first | rfl | (simp; done) | (simp [*]; done), by repeat (first | exact Drawn0.refl _ | apply Drawn0.step)⟩
  · replace c3 := Bool.eq_false_iff.mpr c3
    subst c3
    have H1 : (some false) = some r := by rw [if_neg (show ¬ (false = true) by decide)] at H; exact H
    clear H
    have H := H1
    clear H1
    obtain rfl := Option.some.inj H
    go_enter Try.func62, Try.ntmps62
    go_wp2_with (first | ((with_reducible refine gate_callee (f := 49) rfl ?_); refine goesL_ (some 5) rfl rfl Try.func49 (by kernel_rfl) rfl #[.int .i64 (l0.length : Int), .int .i64 1, .int .i64 8] rfl (by (try simp only [List.map_toArray, List.map_cons, List.map_nil]); first | done | rfl | (simp only [List.length_drop, List.length_take]; rfl)) ?_; (with_reducible refine (spec_l1In.calls (l0.length : Int) 1 8 false _ A2.out).mono ?_); rintro e w' ⟨rfl, ⟨nd, rfl⟩⟩; refine ⟨_, rfl, ?_⟩))
    go_ret
    exact ⟨by first | rfl | (simp; done) | (simp [*]; done), by repeat (first | exact Drawn0.refl _ | apply Drawn0.step)⟩

end Go.Proofs.Ytnikblimnjpmpaa.X

/- ==== XspecchGood ==== -/
namespace Go.Proofs.Ytnikblimnjpmpaa.X
open Go.RowKit Go.Proofs.YtnikblimnjpmpaaW.PrintWords Go.Proofs.YtnikblimnjpmpaaW.PrintLast Go.Proofs.YtnikblimnjpmpaaW.PrintMore
attribute [local go_sem] max2_int min2_int max_two min_two max_three min_three max_four min_four   -- for this text's walks alone
set_option linter.unusedVariables false
set_option linter.unusedSimpArgs false

/-! ### spec_chGood: function 48 -/
def spec_chGood.f (k : Nat) (l0 : List Int) : Option (Bool) := (spec_soGood.f k l0).bind fun t107 => (if t107 = true then ((spec_soSum.f k l0).bind fun t108 => (some (decide (t108 ≤ 40)))) else (some false))
theorem spec_chGood.mono : ∀ a0 k, LeO (spec_chGood.f k a0) (spec_chGood.f (k + 1) a0) := by
  intro a0 k
  unfold spec_chGood.f
  repeat' first
      | (with_reducible exact spec_soGood.mono _ _)
      | (with_reducible exact spec_soSum.mono _ _)
      | (with_reducible exact LeO.refl _)
      | (with_reducible exact LeO.none _)
      | (with_reducible refine LeO.ite ?_ ?_)
      | (with_reducible refine LeO.bind ?_ (fun _ => ?_))
      | exact spec_soGood.mono _ _
      | exact spec_soSum.mono _ _
      | exact LeO.none _
      | refine LeO.ite ?_ ?_
      | refine LeO.bind ?_ (fun _ => ?_)
set_option maxHeartbeats 8000000 in
set_option maxRecDepth 100000 in
theorem spec_chGood.calls (k : Nat) (A0 : Option Addr) (c0 : Nat) (l0 : List Int) (r : Bool) (w : World) (hr0 : Kd.C (Kd.int .i64) w A0 l0.length l0) (hc0 : l0.length ≤ c0) (h : spec_chGood.f k l0 = some r) :
    Calls Try.prog 48 #[.slice A0 l0.length c0] w fun e w' => e = .returned (.bool r) ∧ Drawn0 w w' := by
  have HR0 := Aside0.mk hr0
  have HC0 := Aside0.mk hc0
  clear hr0 hc0
  have H : ((spec_soGood.f k l0).bind fun t107 => (if t107 = true then ((spec_soSum.f k l0).bind fun t108 => (some (decide (t108 ≤ 40)))) else (some false))) = some r := h
  clear h
  replace H := Option.bind_eq_some_iff.mp H
  obtain ⟨t107, A20, H⟩ := H
  replace H : (if t107 = true then ((spec_soSum.f k l0).bind fun t108 => (some (decide (t108 ≤ 40)))) else (some false)) = some r := H
  have A2 := Aside0.mk A20
  clear A20
  by_cases c3 : t107 = true
  · subst c3
    have H1 : ((spec_soSum.f k l0).bind fun t108 => (some (decide (t108 ≤ 40)))) = some r := by rw [if_pos rfl] at H; exact H
    clear H
    have H := H1
    clear H1
    replace H := Option.bind_eq_some_iff.mp H
    obtain ⟨t108, A40, H⟩ := H
    replace H : (some (decide (t108 ≤ 40))) = some r := H
    have A4 := Aside0.mk A40
    clear A40
    obtain rfl := Option.some.inj H
    go_enter Try.func48, Try.ntmps48
    go_wp2_with (first | ((with_reducible refine gate_callee (f := 62) rfl ?_); refine goesL_ (some 4) rfl rfl Try.func62 (by kernel_rfl) rfl #[.slice A0 l0.length c0] rfl (by (try simp only [List.map_toArray, List.map_cons, List.map_nil]); first | done | rfl | (simp only [List.length_drop, List.length_take]; rfl)) ?_; (with_reducible refine (spec_soGood.calls k _ _ l0 true _ ?side1 ?side2 A2.out).mono ?_); (case side1 => repeat (first | exact HR0.out | (with_reducible refine Kd.C_alloc ?_ _) | (with_reducible refine Kd.C_drewN ?_ _) | (with_reducible refine Kd.C_drew ?_))); (case side2 => exact HC0.out); rintro e w' ⟨rfl, ⟨nd, rfl⟩⟩; refine ⟨_, rfl, ?_⟩) | (go_at_call 36; (with_reducible refine (spec_soSum.calls k _ _ l0 t108 _ ?side1 ?side2 A4.out).mono ?_); (case side1 => repeat (first | exact HR0.out | (with_reducible refine Kd.C_alloc ?_ _) | (with_reducible refine Kd.C_drewN ?_ _) | (with_reducible refine Kd.C_drew ?_))); (case side2 => exact HC0.out); rintro e w' ⟨rfl, ⟨nd, rfl⟩⟩))
    go_ret
    exact ⟨by first | rfl | (simp; done) | (simp [*]; done), by repeat (first | exact Drawn0.refl _ | apply Drawn0.step)⟩
  · replace c3 := Bool.eq_false_iff.mpr c3
    subst c3
    have H1 : (some false) = some r := by rw [if_neg (show ¬ (false = true) by decide)] at H; exact H
    clear H
    have H := H1
    clear H1
    obtain rfl := Option.some.inj H
    go_enter Try.func48, Try.ntmps48
    go_wp2_with (first | ((with_reducible refine gate_callee (f := 62) rfl ?_); refine goesL_ (some 4) rfl rfl Try.func62 (by kernel_rfl) rfl #[.slice A0 l0.length c0] rfl (by (try simp only [List.map_toArray, List.map_cons, List.map_nil]); first | done | rfl | (simp only [List.length_drop, List.length_take]; rfl)) ?_; (with_reducible refine (spec_soGood.calls k _ _ l0 false _ ?side1 ?side2 A2.out).mono ?_); (case side1 => repeat (first | exact HR0.out | (with_reducible refine Kd.C_alloc ?_ _) | (with_reducible refine Kd.C_drewN ?_ _) | (with_reducible refine Kd.C_drew ?_))); (case side2 => exact HC0.out); rintro e w' ⟨rfl, ⟨nd, rfl⟩⟩; refine ⟨_, rfl, ?_⟩))
    go_ret
    exact ⟨by first | rfl | (simp; done) | (simp [*]; done), by repeat (first | exact Drawn0.refl _ | apply Drawn0.step)⟩

end Go.Proofs.Ytnikblimnjpmpaa.X

/- ==== XspecchAsked ==== -/
namespace Go.Proofs.Ytnikblimnjpmpaa.X
open Go.RowKit Go.Proofs.YtnikblimnjpmpaaW.PrintWords Go.Proofs.YtnikblimnjpmpaaW.PrintLast Go.Proofs.YtnikblimnjpmpaaW.PrintMore
attribute [local go_sem] max2_int min2_int max_two min_two max_three min_three max_four min_four   -- for this text's walks alone
set_option linter.unusedVariables false
set_option linter.unusedSimpArgs false

/-! ### spec_chAsked: function 31 -/
def spec_chAsked.f (k : Nat) (l0 : List Int) (a1 : Int) : Option (Bool) := (spec_chGood.f k l0).bind fun t109 => (if t109 = true then ((spec_soSum.f k l0).bind fun t110 => ((spec_l1In.f a1 0 t110).bind fun t111 => (some t111))) else (some false))
theorem spec_chAsked.mono : ∀ a0 a1 k, LeO (spec_chAsked.f k a0 a1) (spec_chAsked.f (k + 1) a0 a1) := by
  intro a0 a1 k
  unfold spec_chAsked.f
  repeat' first
      | (with_reducible exact spec_chGood.mono _ _)
      | (with_reducible exact spec_soSum.mono _ _)
      | (with_reducible exact LeO.refl _)
      | (with_reducible exact LeO.none _)
      | (with_reducible refine LeO.ite ?_ ?_)
      | (with_reducible refine LeO.bind ?_ (fun _ => ?_))
      | exact spec_chGood.mono _ _
      | exact spec_soSum.mono _ _
      | exact LeO.none _
      | refine LeO.ite ?_ ?_
      | refine LeO.bind ?_ (fun _ => ?_)
set_option maxHeartbeats 8000000 in
set_option maxRecDepth 100000 in
theorem spec_chAsked.calls (k : Nat) (A0 : Option Addr) (c0 : Nat) (l0 : List Int) (a1 : Int) (r : Bool) (w : World) (hr0 : Kd.C (Kd.int .i64) w A0 l0.length l0) (hc0 : l0.length ≤ c0) (h : spec_chAsked.f k l0 a1 = some r) :
    Calls Try.prog 31 #[.slice A0 l0.length c0, .int .i64 a1] w fun e w' => e = .returned (.bool r) ∧ Drawn0 w w' := by
  have HR0 := Aside0.mk hr0
  have HC0 := Aside0.mk hc0
  clear hr0 hc0
  have H : ((spec_chGood.f k l0).bind fun t109 => (if t109 = true then ((spec_soSum.f k l0).bind fun t110 => ((spec_l1In.f a1 0 t110).bind fun t111 => (some t111))) else (some false))) = some r := h
  clear h
  replace H := Option.bind_eq_some_iff.mp H
  obtain ⟨t109, A30, H⟩ := H
  replace H : (if t109 = true then ((spec_soSum.f k l0).bind fun t110 => ((spec_l1In.f a1 0 t110).bind fun t111 => (some t111))) else (some false)) = some r := H
  have A3 := Aside0.mk A30
  clear A30
  by_cases c4 : t109 = true
  · subst c4
    have H1 : ((spec_soSum.f k l0).bind fun t110 => ((spec_l1In.f a1 0 t110).bind fun t111 => (some t111))) = some r := by rw [if_pos rfl] at H; exact H
    clear H
    have H := H1
    clear H1
    replace H := Option.bind_eq_some_iff.mp H
    obtain ⟨t110, A50, H⟩ := H
    replace H : ((spec_l1In.f a1 0 t110).bind fun t111 => (some t111)) = some r := H
    have A5 := Aside0.mk A50
    clear A50
    replace H := Option.bind_eq_some_iff.mp H
    obtain ⟨t111, A60, H⟩ := H
    replace H : (some t111) = some r := H
    have A6 := Aside0.mk A60
    clear A60
    obtain rfl := Option.some.inj H
    go_enter Try.func31, Try.ntmps31
    go_wp2_with (first | ((with_reducible refine gate_callee (f := 48) rfl ?_); refine goesL_ (some 6) rfl rfl Try.func48 (by kernel_rfl) rfl #[.slice A0 l0.length c0] rfl (by (try simp only [List.map_toArray, List.map_cons, List.map_nil]); first | done | rfl | (simp only [List.length_drop, List.length_take]; rfl)) ?_; (with_reducible refine (spec_chGood.calls k _ _ l0 true _ ?side1 ?side2 A3.out).mono ?_); (case side1 => repeat (first | exact HR0.out | (with_reducible refine Kd.C_alloc ?_ _) | (with_reducible refine Kd.C_drewN ?_ _) | (with_reducible refine Kd.C_drew ?_))); (case side2 => exact HC0.out); rintro e w' ⟨rfl, ⟨nd, rfl⟩⟩; refine ⟨_, rfl, ?_⟩) | (go_at_call 36; (with_reducible refine (spec_soSum.calls k _ _ l0 t110 _ ?side1 ?side2 A5.out).mono ?_); (case side1 => repeat (first | exact HR0.out | (with_reducible refine Kd.C_alloc ?_ _) | (with_reducible refine Kd.C_drewN ?_ _) | (with_reducible refine Kd.C_drew ?_))); (case side2 => exact HC0.out); rintro e w' ⟨rfl, ⟨nd, rfl⟩⟩) | (go_at_call 49; (with_reducible refine (spec_l1In.calls a1 0 t110 t111 _ A6.out).mono ?_); rintro e w' ⟨rfl, ⟨nd, rfl⟩⟩))
    go_ret
    exact ⟨by first | rfl | (simp; done) | (simp [*]; done), by repeat (first | exact Drawn0.refl _ | apply Drawn0.step)⟩
  · replace c4 := Bool.eq_false_iff.mpr c4
    subst c4
    have H1 : (some false) = some r := by rw [if_neg (show ¬ (false = true) by decide)] at H; exact H
    clear H
    have H := H1
    clear H1
    obtain rfl := Option.some.inj H
    go_enter Try.func31, Try.ntmps31
    go_wp2_with (first | ((with_reducible refine gate_callee (f := 48) rfl ?_); refine goesL_ (some 6) rfl rfl Try.func48 (by kernel_rfl) rfl #[.slice A0 l0.length c0] rfl (by (try simp only [List.map_toArray, List.map_cons, List.map_nil]); first | done | rfl | (simp only [List.length_drop, List.length_take]; rfl)) ?_; (with_reducible refine (spec_chGood.calls k _ _ l0 false _ ?side1 ?side2 A3.out).mono ?_); (case side1 => repeat (first | exact HR0.out | (with_reducible refine Kd.C_alloc ?_ _) | (with_reducible refine Kd.C_drewN ?_ _) | (with_reducible refine Kd.C_drew ?_))); (case side2 => exact HC0.out); rintro e w' ⟨rfl, ⟨nd, rfl⟩⟩; refine ⟨_, rfl, ?_⟩))
    go_ret
    exact ⟨by first | rfl | (simp; done) | (simp [*]; done), by repeat (first | exact Drawn0.refl _ | apply Drawn0.step)⟩

end Go.Proofs.Ytnikblimnjpmpaa.X

/- ==== PlSocks ==== -/
/- Plain laws, no program in sight: the law's own helpers; what both say of socks and of a number of them. -/
/- ==== PlTo ==== -/
namespace Go.Proofs.Ytnikblimnjpmpaa.X
open Go.RowKit Go.Proofs.YtnikblimnjpmpaaW.PrintWords Go.Proofs.YtnikblimnjpmpaaW.PrintLast Go.Proofs.YtnikblimnjpmpaaW.PrintMore

theorem w64 {x : Int} (h0 : -9223372036854775808 ≤ x) (h1 : x ≤ 9223372036854775807) : wrap64 x = x := by unfold wrap64; omega
theorem w64s {i n : Nat} (h : i < n) (hn : n ≤ 1073741824) : wrap64 ((i : Int) + 1) = ((i + 1 : Nat) : Int) := by unfold wrap64; omega
theorem rd_get {l : List Int} {i : Nat} (h : i < l.length) : rd l (i : Int) = l[i] := by simp [rd, List.getD_eq_getElem?_getD, h]
theorem i64_of {n : Int} (h : (Lit.int .i64 n).wf = true) : -9223372036854775808 ≤ n ∧ n ≤ 9223372036854775807 := by
  simp [Lit.wf, IntKind.min, IntKind.max, IntKind.signed, IntKind.bits] at h
  omega

theorem toIntS_loop (l : List Int) (hn : l.length ≤ 1048576) (d : Nat) : ∀ (i : Nat) (acc : List Int), i + d = l.length → acc.length = l.length → (∀ j, j < i → acc[j]? = l[j]?) →
    Ev (fun k => laws_toIntS.l0 k l acc (i : Int)) l := by
  induction d with
  | zero =>
    intro i acc hi ha hp
    have e : acc = l := by
      apply List.ext_getElem?
      intro j
      by_cases hj : j < i
      · exact hp j hj
      · rw [List.getElem?_eq_none (by omega), List.getElem?_eq_none (by omega)]
    subst e
    refine Ev.step (f := fun _ => some acc) (fun k => ?_) (Ev.now _)
    simp only [laws_toIntS.l0]
    rw [if_neg (by omega)]
  | succ d ih =>
    intro i acc hi ha hp
    refine Ev.step (f := fun k => laws_toIntS.l0 k l (acc.set i (rd l (i : Int))) ((i + 1 : Nat) : Int)) (fun k => ?_) (ih (i + 1) _ (by omega) (by simpa using ha) (fun j hj => ?_))
    · simp only [laws_toIntS.l0]
      rw [if_pos (by omega), if_pos (by omega), if_pos (by omega), w64s (show i < l.length by omega) (by omega), Int.toNat_natCast]
    · by_cases e : j = i
      · subst e
        rw [List.getElem?_set_self (by omega), rd_get (by omega), List.getElem?_eq_getElem (by omega)]
      · rw [List.getElem?_set_ne (by omega)]
        exact hp j (by omega)
theorem toIntS_ev (l : List Int) (hn : l.length ≤ 1048576) : Ev (fun k => laws_toIntS.f k l) l := by
  refine Ev.congr (f := fun k => laws_toIntS.l0 k l (List.replicate l.length 0) ((0 : Nat) : Int)) (fun k => ?_) (toIntS_loop l hn l.length 0 _ (by omega) (by simp) (fun j hj => absurd hj (by omega)))
  unfold laws_toIntS.f
  rw [if_pos (by omega), if_pos (by simp; omega)]
  simp

theorem eqIntS_loop (l : List Int) (hn : l.length ≤ 1073741824) (d : Nat) : ∀ (i : Nat), i + d = l.length → Ev (fun k => laws_eqIntS.l0 k l l (i : Int)) true := by
  induction d with
  | zero =>
    intro i hi
    refine Ev.step (f := fun _ => some true) (fun k => ?_) (Ev.now _)
    simp only [laws_eqIntS.l0]
    rw [if_neg (by omega)]
  | succ d ih =>
    intro i hi
    refine Ev.step (f := fun k => laws_eqIntS.l0 k l l ((i + 1 : Nat) : Int)) (fun k => ?_) (ih (i + 1) (by omega))
    simp only [laws_eqIntS.l0]
    rw [if_pos (by omega), if_pos (by omega), if_pos (by omega), if_pos trivial, w64s (show i < l.length by omega) (by omega)]
theorem eqIntS_ev (l : List Int) (hn : l.length ≤ 1073741824) : Ev (fun k => laws_eqIntS.f k l l) true := by
  refine Ev.congr (f := fun k => laws_eqIntS.l0 k l l ((0 : Nat) : Int)) (fun k => ?_) (eqIntS_loop l hn l.length 0 (by omega))
  unfold laws_eqIntS.f
  rw [if_pos rfl]
  rfl

end Go.Proofs.Ytnikblimnjpmpaa.X

/- ==== PlSocks ==== -/
namespace Go.Proofs.Ytnikblimnjpmpaa.X
open Go.RowKit Go.Proofs.YtnikblimnjpmpaaW.PrintWords Go.Proofs.YtnikblimnjpmpaaW.PrintLast Go.Proofs.YtnikblimnjpmpaaW.PrintMore

theorem l1In_inB (x lo hi : Int) : spec_l1In.f x lo hi = some (inB lo hi x) := by
  unfold spec_l1In.f inB
  by_cases h : x ≥ lo <;> simp [h]
theorem drop_get {l : List Int} {i : Nat} (h : i < l.length) : l.drop i = rd l (i : Int) :: l.drop (i + 1) := by
  rw [List.drop_eq_getElem_cons h]
  simp [rd, List.getD_eq_getElem?_getD, h]
def totI (l : List Int) : Int := l.foldr (fun x s => x + s) 0
theorem totI_cons (x : Int) (l : List Int) : totI (x :: l) = x + totI l := rfl
theorem totI_bd : ∀ {l : List Int}, l.all (inB 0 20) = true → 0 ≤ totI l ∧ totI l ≤ 20 * (l.length : Int)
  | [], _ => by simp [totI]
  | x :: l, h => by
    simp only [List.all_cons, Bool.and_eq_true] at h
    have h1 := totI_bd h.2
    have h2 := h.1
    simp [inB] at h2
    rw [totI_cons, List.length_cons]
    omega
theorem all_drop {l : List Int} (h : l.all (inB 0 20) = true) (i : Nat) : (l.drop i).all (inB 0 20) = true := by
  rw [List.all_eq_true] at *
  exact fun x hx => h x (List.mem_of_mem_drop hx)
theorem total_loop (l : List Int) (hl : l.length ≤ 8) (ha : l.all (inB 0 20) = true) (d : Nat) : ∀ (i : Nat) (acc : Int), i + d = l.length → 0 ≤ acc → acc ≤ 20 * (i : Int) →
    Ev (fun k => impl_total.l0 k acc l (l.length : Int) (i : Int)) (acc + totI (l.drop i)) ∧ Ev (fun k => spec_soSum.l0 k acc l (l.length : Int) (i : Int)) (acc + totI (l.drop i)) := by
  induction d with
  | zero =>
    intro i acc hi h0 h1
    rw [List.drop_of_length_le (by omega), show totI [] = 0 from rfl, Int.add_zero]
    refine ⟨Ev.step (f := fun _ => some acc) (fun k => ?_) (Ev.now _), Ev.step (f := fun _ => some acc) (fun k => ?_) (Ev.now _)⟩
    · simp only [impl_total.l0]
      rw [if_neg (by omega)]
    · simp only [spec_soSum.l0]
      rw [if_neg (by omega)]
  | succ d ih =>
    intro i acc hi h0 h1
    have hlt : i < l.length := by omega
    have hx := List.all_eq_true.1 ha (rd l (i : Int)) (by rw [rd_get hlt]; exact List.getElem_mem _)
    simp [inB] at hx
    have hw : wrap64 (acc + rd l (i : Int)) = acc + rd l (i : Int) := by unfold wrap64; omega
    obtain ⟨e1, e2⟩ := ih (i + 1) (acc + rd l (i : Int)) (by omega) (by omega) (by omega)
    rw [drop_get hlt, totI_cons, ← Int.add_assoc]
    refine ⟨Ev.step (fun k => ?_) e1, Ev.step (fun k => ?_) e2⟩
    · simp only [impl_total.l0]
      rw [if_pos (by omega), if_pos (by omega), if_pos (by omega), hw, w64s hlt (by omega)]
    · simp only [spec_soSum.l0]
      rw [if_pos (by omega), if_pos (by omega), if_pos (by omega), hw, w64s hlt (by omega)]
theorem total_ev {l : List Int} (hl : l.length ≤ 8) (ha : l.all (inB 0 20) = true) : Ev (fun k => impl_total.f k l) (totI l) := by
  have := (total_loop l hl ha l.length 0 0 (by omega) (by omega) (by omega)).1
  simpa [impl_total.f] using this
theorem soSum_ev {l : List Int} (hl : l.length ≤ 8) (ha : l.all (inB 0 20) = true) : Ev (fun k => spec_soSum.f k l) (totI l) := by
  have := (total_loop l hl ha l.length 0 0 (by omega) (by omega) (by omega)).2
  simpa [spec_soSum.f] using this
theorem l1All_loop (l : List Int) (hl : l.length ≤ 1048576) (d : Nat) : ∀ (i : Nat), i + d = l.length → Ev (fun k => spec_l1All.l0 k 0 20 l (l.length : Int) (i : Int)) ((l.drop i).all (inB 0 20)) := by
  induction d with
  | zero =>
    intro i hi
    rw [List.drop_of_length_le (by omega)]
    refine Ev.step (f := fun _ => some true) (fun k => ?_) (Ev.now _)
    simp only [spec_l1All.l0]
    rw [if_neg (by omega)]
  | succ d ih =>
    intro i hi
    have hlt : i < l.length := by omega
    rw [drop_get hlt, List.all_cons]
    cases hx : inB 0 20 (rd l (i : Int)) with
    | false =>
      refine Ev.step (f := fun _ => some false) (fun k => ?_) (by simpa using Ev.now false)
      simp only [spec_l1All.l0]
      rw [if_pos (by omega), if_pos (by omega), if_pos (by omega), l1In_inB, hx]
      rfl
    | true =>
      rw [Bool.true_and]
      refine Ev.step (fun k => ?_) (ih (i + 1) (by omega))
      simp only [spec_l1All.l0]
      rw [if_pos (by omega), if_pos (by omega), if_pos (by omega), l1In_inB, hx, w64s hlt (by omega)]
      rfl
def good (l : List Int) : Bool := inB 1 8 (l.length : Int) && (l.all (inB 0 20) && decide (totI l > 0))
def few (l : List Int) : Bool := good l && decide (totI l ≤ 40)
def asked (l : List Int) (a : Int) : Bool := few l && inB 0 (totI l) a
theorem good_ev (l : List Int) (hn : l.length ≤ 1048576) : Ev (fun k => impl_AreSocks.f k l) (good l) ∧ Ev (fun k => spec_soGood.f k l) (good l) := by
  unfold good
  cases h1 : inB 1 8 (l.length : Int) with
  | false =>
    refine ⟨Ev.congr (f := fun _ => some false) (fun k => ?_) (by simpa using Ev.now false), Ev.congr (f := fun _ => some false) (fun k => ?_) (by simpa using Ev.now false)⟩
    · simp [impl_AreSocks.f, within_inB, h1]
    · simp [spec_soGood.f, l1In_inB, h1]
  | true =>
    have hl : l.length ≤ 8 := by simp [inB] at h1; omega
    have e0 := l1All_loop l (by omega) l.length 0 (by omega)
    rw [List.drop_zero] at e0
    cases h2 : l.all (inB 0 20) with
    | false =>
      rw [h2] at e0
      refine ⟨Ev.congr (f := fun _ => some false) (fun k => ?_) (by simpa using Ev.now false), Ev.congr (f := fun k => (spec_l1All.f k l 0 20).bind fun t => if t = true then ((spec_soSum.f k l).bind fun t106 => (some (decide (t106 > 0)))) else (some false)) (fun k => ?_) (Ev.bind e0 (Ev.congr (f := fun _ => some false) (fun k => by rw [if_neg (by decide)]) (by simpa using Ev.now false)))⟩
      · simp [impl_AreSocks.f, within_inB, h1, impl_areWithin.f, h2]
      · simp [spec_soGood.f, l1In_inB, h1]
    | true =>
      rw [h2] at e0
      refine ⟨Ev.congr (f := fun k => (impl_total.f k l).bind fun t => some (decide (t > 0))) (fun k => ?_) (Ev.bind (total_ev hl h2) (by simpa using Ev.now _)), Ev.congr (f := fun k => (spec_l1All.f k l 0 20).bind fun t => if t = true then ((spec_soSum.f k l).bind fun t106 => (some (decide (t106 > 0)))) else (some false)) (fun k => ?_) (Ev.bind e0 (Ev.congr (f := fun k => (spec_soSum.f k l).bind fun t => some (decide (t > 0))) (fun k => by rw [if_pos rfl]) (Ev.bind (soSum_ev hl h2) (by simpa using Ev.now _))))⟩
      · simp [impl_AreSocks.f, within_inB, h1, impl_areWithin.f, h2]
      · simp [spec_soGood.f, l1In_inB, h1]
theorem good_of {l : List Int} (h : good l = true) : 1 ≤ l.length ∧ l.length ≤ 8 ∧ l.all (inB 0 20) = true ∧ 0 < totI l := by
  unfold good at h
  simp only [Bool.and_eq_true, decide_eq_true_eq] at h
  have h1 := h.1
  simp [inB] at h1
  exact ⟨by omega, by omega, h.2.1, h.2.2⟩
theorem few_ev (l : List Int) (hn : l.length ≤ 1048576) : Ev (fun k => impl_areFew.f k l) (few l) ∧ Ev (fun k => spec_chGood.f k l) (few l) := by
  obtain ⟨e1, e2⟩ := good_ev l hn
  unfold few
  cases h : good l with
  | false =>
    rw [h] at e1 e2
    exact ⟨Ev.bind e1 (Ev.congr (f := fun _ => some false) (fun k => by rw [if_neg (by decide)]) (by simpa using Ev.now false)), Ev.bind e2 (Ev.congr (f := fun _ => some false) (fun k => by rw [if_neg (by decide)]) (by simpa using Ev.now false))⟩
  | true =>
    rw [h] at e1 e2
    obtain ⟨_, g2, g3, _⟩ := good_of h
    exact ⟨Ev.bind e1 (Ev.congr (f := fun k => (impl_total.f k l).bind fun t => some (decide (t ≤ 40))) (fun k => by rw [if_pos rfl]) (Ev.bind (total_ev g2 g3) (by simpa using Ev.now _))), Ev.bind e2 (Ev.congr (f := fun k => (spec_soSum.f k l).bind fun t => some (decide (t ≤ 40))) (fun k => by rw [if_pos rfl]) (Ev.bind (soSum_ev g2 g3) (by simpa using Ev.now _)))⟩
theorem few_of {l : List Int} (h : few l = true) : 1 ≤ l.length ∧ l.length ≤ 8 ∧ l.all (inB 0 20) = true ∧ 0 < totI l ∧ totI l ≤ 40 := by
  unfold few at h
  simp only [Bool.and_eq_true, decide_eq_true_eq] at h
  obtain ⟨g1, g2, g3, g4⟩ := good_of h.1
  exact ⟨g1, g2, g3, g4, h.2⟩
theorem asked_ev (l : List Int) (a : Int) (hn : l.length ≤ 1048576) : Ev (fun k => impl_isNumber.f k l a) (asked l a) ∧ Ev (fun k => spec_chAsked.f k l a) (asked l a) := by
  obtain ⟨e1, e2⟩ := few_ev l hn
  unfold asked
  cases h : few l with
  | false =>
    rw [h] at e1 e2
    exact ⟨Ev.bind e1 (Ev.congr (f := fun _ => some false) (fun k => by rw [if_neg (by decide)]) (by simpa using Ev.now false)), Ev.bind e2 (Ev.congr (f := fun _ => some false) (fun k => by rw [if_neg (by decide)]) (by simpa using Ev.now false))⟩
  | true =>
    rw [h] at e1 e2
    obtain ⟨_, g2, g3, _, _⟩ := few_of h
    refine ⟨Ev.bind e1 (Ev.congr (f := fun k => (impl_total.f k l).bind fun t => some (inB 0 t a)) (fun k => ?_) (Ev.bind (total_ev g2 g3) (by simpa using Ev.now _))), Ev.bind e2 (Ev.congr (f := fun k => (spec_soSum.f k l).bind fun t => some (inB 0 t a)) (fun k => ?_) (Ev.bind (soSum_ev g2 g3) (by simpa using Ev.now _)))⟩
    · rw [if_pos rfl]
      simp only [within_inB, Option.bind_some]
    · rw [if_pos rfl]
      simp only [l1In_inB, Option.bind_some]
theorem asked_of {l : List Int} {a : Int} (h : asked l a = true) : few l = true ∧ 0 ≤ a ∧ a ≤ totI l := by
  unfold asked at h
  simp only [Bool.and_eq_true] at h
  have h2 := h.2
  simp [inB] at h2
  exact ⟨h.1, h2.1, h2.2⟩
def toI (ns : List Nat) : List Int := ns.map fun n => ((n : Nat) : Int)
theorem totI_toI : ∀ ns : List Nat, totI (toI ns) = ((sumL ns : Nat) : Int)
  | [] => rfl
  | n :: ns => by
    have := totI_toI ns
    simp only [toI, List.map_cons, totI_cons, sumL_cons] at *
    omega
/-- Few socks, as a list of natural numbers. -/
theorem few_ns {l : List Int} (h : few l = true) : ∃ ns : List Nat, l = toI ns ∧ (∀ n ∈ ns, n ≤ 20) ∧ 1 ≤ ns.length ∧ ns.length ≤ 8 ∧ 1 ≤ sumL ns ∧ sumL ns ≤ 40 ∧ totI l = ((sumL ns : Nat) : Int) := by
  obtain ⟨g1, g2, g3, g4, g5⟩ := few_of h
  have hl : l = toI (l.map Int.toNat) := by
    unfold toI
    rw [List.map_map]
    have : l.map ((fun n : Nat => (n : Int)) ∘ Int.toNat) = l.map id := List.map_congr_left fun x hx => by
      have := List.all_eq_true.1 g3 x hx
      simp [inB] at this
      simp only [Function.comp, id]
      omega
    rw [this, List.map_id]
  have ht : totI l = ((sumL (l.map Int.toNat) : Nat) : Int) := by
    rw [← totI_toI, ← hl]
  refine ⟨l.map Int.toNat, hl, fun n hn => ?_, by simpa using g1, by simpa using g2, by omega, by omega, ht⟩
  obtain ⟨x, hx, rfl⟩ := List.mem_map.1 hn
  have := List.all_eq_true.1 g3 x hx
  simp [inB] at this
  omega
end Go.Proofs.Ytnikblimnjpmpaa.X

/- ==== XimplpairsOf ==== -/
namespace Go.Proofs.Ytnikblimnjpmpaa.X
open Go.RowKit Go.Proofs.YtnikblimnjpmpaaW.PrintWords Go.Proofs.YtnikblimnjpmpaaW.PrintLast Go.Proofs.YtnikblimnjpmpaaW.PrintMore
attribute [local go_sem] max2_int min2_int max_two min_two max_three min_three max_four min_four   -- for this text's walks alone
set_option linter.unusedVariables false
set_option linter.unusedSimpArgs false

/-! ### impl_pairsOf: function 68 -/
def impl_pairsOf.l0 : Nat → Int → List Int → Int → Int → Option (Int)
  | 0, _, _, _, _ => none
  | k + 1, x3, x6, x7, x8 => if x8 < x7 then (if 0 ≤ x8 then (if x8 < (x6.length : Int) then (impl_pairsOf.l0 k (wrap64 (x3 + (wrap64 (Int.tdiv (rd x6 x8) 2)))) x6 x7 (wrap64 (x8 + 1))) else (none)) else (none)) else (some x3)
def impl_pairsOf.f (k : Nat) (l0 : List Int) : Option (Int) := impl_pairsOf.l0 k 0 l0 (l0.length : Int) 0
theorem impl_pairsOf.mono_l : ∀ k, (∀ y0 y1 y2 y3, LeO (impl_pairsOf.l0 k y0 y1 y2 y3) (impl_pairsOf.l0 (k + 1) y0 y1 y2 y3))
  | 0 => fun _ _ _ _ r h => by simp [impl_pairsOf.l0] at h
  | k + 1 => by
    have ih0 := impl_pairsOf.mono_l k
    · intro y0 y1 y2 y3
      unfold impl_pairsOf.l0
      repeat' first
      | (with_reducible exact ih0 _ _ _ _)
      | (with_reducible exact LeO.refl _)
      | (with_reducible exact LeO.none _)
      | (with_reducible refine LeO.ite ?_ ?_)
      | (with_reducible refine LeO.bind ?_ (fun _ => ?_))
      | exact ih0 _ _ _ _
      | exact LeO.none _
      | refine LeO.ite ?_ ?_
      | refine LeO.bind ?_ (fun _ => ?_)
theorem impl_pairsOf.mono : ∀ a0 k, LeO (impl_pairsOf.f k a0) (impl_pairsOf.f (k + 1) a0) := by
  intro a0 k
  have ih0 := impl_pairsOf.mono_l k
  unfold impl_pairsOf.f
  repeat' first
      | (with_reducible exact ih0 _ _ _ _)
      | (with_reducible exact LeO.refl _)
      | (with_reducible exact LeO.none _)
      | (with_reducible refine LeO.ite ?_ ?_)
      | (with_reducible refine LeO.bind ?_ (fun _ => ?_))
      | exact ih0 _ _ _ _
      | exact LeO.none _
      | refine LeO.ite ?_ ?_
      | refine LeO.bind ?_ (fun _ => ?_)
set_option maxHeartbeats 8000000 in
set_option maxRecDepth 100000 in
theorem impl_pairsOf.calls (k : Nat) (A0 : Option Addr) (c0 : Nat) (l0 : List Int) (r : Int) (w : World) (hr0 : Kd.C (Kd.int .i64) w A0 l0.length l0) (hc0 : l0.length ≤ c0) (h : impl_pairsOf.f k l0 = some r) :
    Calls Try.prog 68 #[.slice A0 l0.length c0] w fun e w' => e = .returned (.int .i64 r) ∧ Drawn0 w w' := by
  have HR0 := Aside0.mk hr0
  have HC0 := Aside0.mk hc0
  clear hr0 hc0
  have H : (impl_pairsOf.l0 k 0 l0 (l0.length : Int) 0) = some r := h
  clear h
  have H' := Aside0.mk H
  clear H
  go_enter Try.func68, Try.ntmps68
  go_wp2
  go_loopg [3, 8] k (fun kq v3 v8 w' => ∃ (x3_1 : Int) (x8_1 : Int), v3 = .int .i64 x3_1 ∧ v8 = .int .i64 x8_1 ∧ Aside0 (impl_pairsOf.l0 kq x3_1 l0 (l0.length : Int) x8_1 = some r) ∧ Aside0 (kq ≤ k) ∧ Drawn0 w w')
  case atStart => exact ⟨(0), (0), (by first | rfl | (simp; done) | (simp [*]; done)), (by first | rfl | (simp; done) | (simp [*]; done)), H', ⟨Nat.le_refl _⟩, by repeat (first | exact Drawn0.refl _ | apply Drawn0.step)⟩
  case round =>
    clear H'
    obtain ⟨x3_1, x8_1, rfl, rfl, HA, HK1, ⟨m1, rfl⟩⟩ := hrel
    cases gk with
    | zero => exact absurd HA.out (by simp [impl_pairsOf.l0])
    | succ k1 =>
      have H := HA.out
      clear HA
      simp only [impl_pairsOf.l0] at H
      by_cases c2 : x8_1 < (l0.length : Int)
      · rw [if_pos c2] at H
        have c2b0 : decide (x8_1 < (l0.length : Int)) = true := decide_eq_true c2
        clear c2
        by_cases c3 : 0 ≤ x8_1
        · rw [if_pos c3] at H
          have c3b0 : decide (0 ≤ x8_1) = true := decide_eq_true c3
          clear c3
          by_cases c4 : x8_1 < (l0.length : Int)
          · rw [if_pos c4] at H
            have c4b0 : decide (x8_1 < (l0.length : Int)) = true := decide_eq_true c4
            clear c4
            have H' := Aside0.mk H
            clear H
            have p209 : 0 ≤ (x8_1 : Int) := of_decide_eq_true (by first | (with_reducible assumption) | assumption)
            have q209 : x8_1 < (l0.length : Int) := of_decide_eq_true (by first | (with_reducible assumption) | assumption)
            obtain ⟨ad209, e209, hx209_0⟩ := Kd.at_int HR0.out x8_1 p209 q209
            cases e209
            replace p209 := eq_true p209
            replace q209 := eq_true q209
            go_wp2
            go_roundg k1
            case measure => have := HK1.out; omega
            case rel => exact ⟨(wrap64 (x3_1 + (wrap64 (Int.tdiv (rd l0 x8_1) 2)))), (wrap64 (x8_1 + 1)), (by first | rfl | (simp; done) | (simp [*]; done)), (by first | rfl | (simp; done) | (simp [*]; done)), H', ⟨by have := HK1.out; omega⟩, by repeat (first | exact Drawn0.refl _ | apply Drawn0.step)⟩
          · rw [if_neg c4] at H
            exact absurd H (by simp)
        · rw [if_neg c3] at H
          exact absurd H (by simp)
      · rw [if_neg c2] at H
        have c2b0 : decide (x8_1 < (l0.length : Int)) = false := decide_eq_false c2
        clear c2
        obtain rfl := Option.some.inj H
        go_wp2
        go_ret
        exact ⟨by first | rfl | (simp; done) | (simp [*]; done), by repeat (first | exact Drawn0.refl _ | apply Drawn0.step)⟩

end Go.Proofs.Ytnikblimnjpmpaa.X

/- ==== HWays ==== -/
/- Tables of numbers in memory, and the program's waysOf, for whatever each number of a colour weighs: its contract. -/
/- ==== HMat ==== -/
namespace Go.Proofs.Ytnikblimnjpmpaa.X
open Go.RowKit Go.Proofs.YtnikblimnjpmpaaW.PrintWords Go.Proofs.YtnikblimnjpmpaaW.PrintLast Go.Proofs.YtnikblimnjpmpaaW.PrintMore

def rowV (P : Nat) (rb cp : Nat → Nat) (k : Nat) : Value := .slice (some ⟨rb k, 0, none⟩) (P + 1) (cp k)
def tabL (A P : Nat) (rb cp : Nat → Nat) (n : Nat) : List Value := (List.range (A + 1)).map fun k => if k < n then rowV P rb cp k else .slice none 0 0
def numL (P : Nat) (f : Nat → Int) : List Int := (List.range (P + 1)).map f
/-- n rows of P + 1 numbers V have been made, of A + 1. -/
structure Mat (W : World) (base tb ct : Nat) (rb cp : Nat → Nat) (A P n : Nat) (V : Nat → Nat → Int) : Prop where
  tab : W.ownsRow base 22 1 (.slice (some ⟨tb, 0, none⟩) (A + 1) ct) (A + 1) (tabL A P rb cp n)
  row : ∀ k, k < n → W.ownsRow base 3 1 (rowV P rb cp k) (P + 1) (nums .i64 (numL P (V k)))
  inj : ∀ k l, k < n → l < n → rb k = rb l → k = l
section
variable {W W1 : World} {base tb ct : Nat} {rb cp : Nat → Nat} {A P n : Nat} {V : Nat → Nat → Int}
theorem Mat.below (h : Mat W base tb ct rb cp A P n V) (hb : Below W.heap.size W W1) : Mat W1 base tb ct rb cp A P n V := ⟨pw_own_below h.tab hb, fun k hk => pw_own_below (h.row k hk) hb, h.inj⟩
theorem Mat.lower {b : Nat} (h : Mat W base tb ct rb cp A P n V) (hb : b ≤ base) : Mat W b tb ct rb cp A P n V := ⟨own_weaken h.tab hb, fun k hk => own_weaken (h.row k hk) hb, h.inj⟩
theorem Mat.tbase (h : Mat W base tb ct rb cp A P n V) : base ≤ tb ∧ tb < W.heap.size := h.tab.lt tb rfl
theorem Mat.rbase (h : Mat W base tb ct rb cp A P n V) {k : Nat} (hk : k < n) : base ≤ rb k ∧ rb k < W.heap.size := (h.row k hk).lt (rb k) rfl
theorem tabL_get {k : Nat} (hk : k ≤ A) : (tabL A P rb cp n)[k]? = some (if k < n then rowV P rb cp k else .slice none 0 0) := by simp [tabL, show k < A + 1 by omega]
theorem Mat.cellT (h : Mat W base tb ct rb cp A P n V) {k : Nat} (hk : k ≤ A) (hn : k < n) : W.cell? ⟨tb, k, none⟩ = some (.slice (some ⟨rb k, 0, none⟩) (P + 1) (cp k)) := by
  rw [h.tab.cellAt k (by omega), tabL_get hk, if_pos hn]
  rfl
theorem Mat.cellN (h : Mat W base tb ct rb cp A P n V) {k : Nat} (hk : k ≤ A) (hn : ¬ k < n) : W.cell? ⟨tb, k, none⟩ = some (.slice none 0 0) ∧ W.frozen? ⟨tb, k, none⟩ = false := by
  rw [h.tab.cellAt k (by omega), tabL_get hk, if_neg hn]
  exact ⟨rfl, h.tab.frozenAt k⟩
theorem numL_get (f : Nat → Int) {p : Nat} (hp : p ≤ P) : (nums .i64 (numL P f))[p]? = some (.int .i64 (f p)) := by simp [nums, numL, show p < P + 1 by omega]
theorem Mat.cellR (h : Mat W base tb ct rb cp A P n V) {k p : Nat} (hk : k < n) (hp : p ≤ P) : W.cell? ⟨rb k, p, none⟩ = some (.int .i64 (V k p)) ∧ W.frozen? ⟨rb k, p, none⟩ = false := by
  have hr := h.row k hk
  unfold rowV at hr
  rw [hr.cellAt p (by omega), numL_get _ hp]
  exact ⟨rfl, hr.frozenAt p⟩
theorem Mat.tb_ne (h : Mat W base tb ct rb cp A P n V) {k : Nat} (hk : k < n) : rb k ≠ tb := by
  rcases own_type_ne (h.row k hk) h.tab (by decide) with h1 | h1
  · simp [rowV, Value.ownBlock] at h1
  · simpa [rowV, Value.ownBlock] using h1
/-- A store elsewhere. -/
theorem Mat.other (h : Mat W base tb ct rb cp A P n V) {p : Addr} (h1 : p.block ≠ tb) (h2 : ∀ k, k < n → p.block ≠ rb k) (u : Value) : Mat (W.setCell p u) base tb ct rb cp A P n V :=
  ⟨own_setCell h.tab (by simpa [Value.ownBlock] using h1) u, fun k hk => own_setCell (h.row k hk) (by simpa [rowV, Value.ownBlock] using h2 k hk) u, h.inj⟩
def updV (V : Nat → Nat → Int) (k p : Nat) (x : Int) : Nat → Nat → Int := fun j q => if j = k ∧ q = p then x else V j q
theorem numL_set (f : Nat → Int) (p : Nat) (x : Int) : (numL P f).set p x = numL P (fun q => if q = p then x else f q) := by
  apply List.ext_getElem?
  intro j
  by_cases hj : j < P + 1
  · by_cases e : j = p
    · subst e
      rw [List.getElem?_set_self (by simpa [numL] using hj)]
      simp [numL, hj]
    · rw [List.getElem?_set_ne (Ne.symm e)]
      simp [numL, hj, e]
  · rw [List.getElem?_eq_none (by simp [numL]; omega), List.getElem?_eq_none (by simp [numL]; omega)]
theorem Mat.set (h : Mat W base tb ct rb cp A P n V) {k p : Nat} (hk : k < n) (x : Int) : Mat (W.setCell ⟨rb k, p, none⟩ (.int .i64 x)) base tb ct rb cp A P n (updV V k p x) := by
  refine ⟨own_setCell h.tab (by simpa [Value.ownBlock] using h.tb_ne hk) _, fun j hj => ?_, h.inj⟩
  by_cases e : j = k
  · subst e
    have hr := h.row j hj
    unfold rowV at hr ⊢
    have := (hr.stored p (.int .i64 x)).1
    have e2 : (nums .i64 (numL P (V j))).set p (.int .i64 x) = nums .i64 (numL P (updV V j p x j)) := by
      have e3 : (nums .i64 (numL P (V j))).set p (.int .i64 x) = nums .i64 ((numL P (V j)).set p x) := by simp [nums, List.map_set]
      rw [e3, numL_set]
      congr 2
      funext q
      simp [updV]
    rw [e2] at this
    exact this
  · have e2 : updV V k p x j = V j := by funext q; simp [updV, e]
    rw [e2]
    exact own_setCell (h.row j hj) (by simpa [rowV, Value.ownBlock] using fun e3 => e (h.inj j k hj hk e3.symm)) _
/-- A row more. -/
theorem Mat.add (h : Mat W base tb ct rb cp A P n V) (hn : n ≤ A) {W2 : World} (hb : Below W.heap.size W W2) {g cap : Nat} (hg : W.heap.size ≤ g) (hr : W2.ownsRow base 3 1 (.slice (some ⟨g, 0, none⟩) (P + 1) cap) (P + 1) (nums .i64 (numL P (V n)))) :
    Mat (W2.setCell ⟨tb, n, none⟩ (.slice (some ⟨g, 0, none⟩) (P + 1) cap)) base tb ct (fun k => if k = n then g else rb k) (fun k => if k = n then cap else cp k) A P (n + 1) V := by
  have h2 := h.below hb
  have hgt : g ≠ tb := by have := h.tbase; omega
  refine ⟨?_, fun k hk => ?_, fun k l hk hl e => ?_⟩
  · have := (h2.tab.stored n (.slice (some ⟨g, 0, none⟩) (P + 1) cap)).1
    have e2 : (tabL A P rb cp n).set n (.slice (some ⟨g, 0, none⟩) (P + 1) cap) = tabL A P (fun k => if k = n then g else rb k) (fun k => if k = n then cap else cp k) (n + 1) := by
      apply List.ext_getElem?
      intro j
      by_cases hj : j < A + 1
      · by_cases e : j = n
        · subst e
          rw [List.getElem?_set_self (by simpa [tabL] using hj), tabL_get (by omega), if_pos (by omega)]
          simp [rowV]
        · rw [List.getElem?_set_ne (Ne.symm e), tabL_get (by omega), tabL_get (by omega)]
          by_cases e3 : j < n
          · rw [if_pos e3, if_pos (by omega)]
            simp [rowV, e]
          · rw [if_neg e3, if_neg (by omega)]
      · rw [List.getElem?_eq_none (by simp [tabL]; omega), List.getElem?_eq_none (by simp [tabL]; omega)]
    rw [e2] at this
    exact this
  · by_cases e : k = n
    · subst e
      have : rowV P (fun j => if j = k then g else rb j) (fun j => if j = k then cap else cp j) k = .slice (some ⟨g, 0, none⟩) (P + 1) cap := by simp [rowV]
      rw [this]
      exact own_setCell hr (by simpa [Value.ownBlock] using Ne.symm hgt) _
    · have : rowV P (fun j => if j = n then g else rb j) (fun j => if j = n then cap else cp j) k = rowV P rb cp k := by simp [rowV, e]
      rw [this]
      exact own_setCell (h2.row k (by omega)) (by simpa [rowV, Value.ownBlock] using Ne.symm (h2.tb_ne (show k < n by omega))) _
  · have hk2 : ∀ j, j < n → rb j ≠ g := fun j hj => by have := (h.rbase hj).2; omega
    by_cases e1 : k = n <;> by_cases e2 : l = n
    · omega
    · simp [e1, e2] at e; exact absurd e.symm (hk2 l (by omega))
    · simp [e1, e2] at e; exact absurd e (hk2 k (by omega))
    · simp [e1, e2] at e; exact h.inj k l (by omega) (by omega) e
end
theorem own_form {W : World} {base e n : Nat} {v : Value} {xs : List Value} (h : W.ownsRow base e 1 v n xs) (hn : 0 < n) : ∃ g cap, v = .slice (some ⟨g, 0, none⟩) n cap := by
  rcases h.2 with ⟨_, h0⟩ | ⟨g, cap, _, rfl, _⟩
  · omega
  · exact ⟨g, cap, rfl⟩

theorem mk_len {α : Type} (A : Nat) (x : α) : (List.replicate ((A : Int) + 1).toNat x).length = A + 1 := by simp
theorem start_tab (A P : Nat) (rb cp : Nat → Nat) : encs (fun _ : Unit => Value.slice none 0 0) (List.replicate ((A : Int) + 1).toNat ()) = tabL A P rb cp 0 := by
  rw [show ((A : Int) + 1).toNat = A + 1 by omega]
  simp [encs, tabL, List.map_const']
theorem start_row (P : Nat) : encs (Value.int .i64) (List.replicate ((P : Int) + 1).toNat (0 : Int)) = nums .i64 (numL P fun _ => 0) := by
  rw [show ((P : Int) + 1).toNat = P + 1 by omega]
  simp [encs, nums, numL, List.map_const']

def TableMade (w : World) (A P : Nat) (e : Ending) (w' : World) : Prop := ∃ (tb ct : Nat) (rb cp : Nat → Nat), e = .returned (.slice (some ⟨tb, 0, none⟩) (A + 1) ct) ∧ Mat w' w.heap.size tb ct rb cp A P (A + 1) (fun _ _ => 0) ∧ Below w.heap.size w w'
set_option maxHeartbeats 4000000 in
set_option maxRecDepth 100000 in
theorem table_calls (p5 p6 A P : Nat) (w : World) (h5 : w.cell? ⟨p5, 0, none⟩ = some (.int .i64 (A : Int))) (h6 : w.cell? ⟨p6, 0, none⟩ = some (.int .i64 (P : Int))) (hA : A ≤ 200) (hP : P ≤ 200) :
    Calls Try.prog 69 #[.pointer (some ⟨p5, 0, none⟩), .pointer (some ⟨p6, 0, none⟩)] w (TableMade w A P) := by
  have H6 := Aside0.mk h6
  go_enter Try.func69, Try.ntmps69
  go_wp2_with (((with_reducible refine gate_dst (N := 7) rfl ?_); refine Kd.R_make (Kd.scalar (fun _ : Unit => Value.slice none 0 0) (fun _ => rfl)) w.heap.size 22 rfl (N := 7) rfl 44 _ _ rfl ((A : Int) + 1) rfl rfl Try.underlying44 (.slice none 0 0) 24 info22 rfl (by decide) (by omega) () (ok := fun _ => True) (okp := fun _ => True) rfl (fun _ hk => hk) trivial (by omega) (by omega) (Below.refl _ _) (Nat.le_refl _) ?_; intro v7 w3 ho hb hg_ hnew_; clear hg_ hnew_; have own := Kd.own_of_R ho; rw [mk_len, start_tab A P (fun _ => 0) (fun _ => 0)] at own; obtain ⟨tb, ct, rfl⟩ := own_form own (by omega); have OWN := Aside0.mk own; have HB := Aside0.mk hb; clear ho hb own))
  clear h6
  go_loopg [4, 10] (A + 1) (fun gg _ s10 wr => ∃ (kk : Nat) (rb cp : Nat → Nat), kk ≤ A + 1 ∧ A + 1 - kk ≤ gg ∧ s10 = .int .i64 kk ∧ Aside0 (Mat wr w.heap.size tb ct rb cp A P kk (fun _ _ => 0)) ∧ Aside0 (Below w.heap.size w wr))
  case atStart => exact ⟨0, fun _ => 0, fun _ => 0, Nat.zero_le _, by omega, rfl, ⟨⟨OWN.out, fun k hk => by omega, fun k l hk => by omega⟩⟩, HB⟩
  case round =>
    clear OWN HB
    obtain ⟨kk, rb, cp, hkk, hgg, rfl, HM, HB⟩ := hrel
    by_cases hlt : kk < A + 1
    · have hltz : (kk : Int) < (A : Int) + 1 := by omega
      have h6r := (HB.out.cell (World.block_lt_of_cell? w _ H6.out)).trans H6.out
      obtain ⟨hc, hf⟩ := HM.out.cellN (k := kk) (by omega) (by omega)
      have HC := Aside0.mk hc
      have HF := Aside0.mk hf
      clear hc hf
      go_wp2_with (((with_reducible refine gate_dst (N := 17) rfl ?_); refine Kd.R_make (Kd.int .i64) wr.heap.size 3 rfl (N := 17) rfl 22 _ _ rfl ((P : Int) + 1) rfl rfl Try.underlying22 (.int .i64 0) 8 info3 rfl (by decide) (by omega) 0 (ok := fun _ => True) (okp := fun _ => True) rfl (fun _ hk => hk) trivial (by omega) (by omega) (Below.refl _ _) (Nat.le_refl _) ?_; intro v17 w13 ho hb hg_ hnew_; clear hg_ hnew_; have own := Kd.own_of_R ho; rw [mk_len, start_row] at own; obtain ⟨g, cap, rfl⟩ := own_form own (by omega); have OWN := Aside0.mk own; have HB2 := Aside0.mk hb; have hcz := (hb.cell (World.block_lt_of_cell? wr _ HC.out)).trans HC.out; have hfz := (hb.frozen (World.block_lt_of_cell? wr _ HC.out)).trans HF.out; clear ho hb own))
      go_roundg (A + 1 - (kk + 1))
      case measure => omega
      case rel => exact ⟨kk + 1, _, _, by omega, by omega, by go_num, ⟨HM.out.add (by omega) HB2.out (OWN.out.lt g rfl).1 (own_weaken OWN.out HB.out.size)⟩, ⟨below_set (HB.out.trans (HB2.out.mono HB.out.size)) HM.out.tbase.1⟩⟩
    · have hltz : ¬ (kk : Int) < (A : Int) + 1 := by omega
      obtain rfl : kk = A + 1 := by omega
      go_wp2
      go_ret
      exact ⟨tb, ct, rb, cp, rfl, HM.out, HB.out⟩
end Go.Proofs.Ytnikblimnjpmpaa.X

/- ==== HWays ==== -/
namespace Go.Proofs.Ytnikblimnjpmpaa.X
open Go.RowKit Go.Proofs.YtnikblimnjpmpaaW.PrintWords Go.Proofs.YtnikblimnjpmpaaW.PrintLast Go.Proofs.YtnikblimnjpmpaaW.PrintMore

def half (d : Nat) : Nat := d / 2
/-- What each number of a colour weighs, told by a function value. -/
def Weighs (g : Nat) (lb : Array Value) (ns : List Nat) (wt : Nat → Nat → Int) (B : Nat) (w : World) : Prop := ∀ (W : World) (i n : Nat), i < ns.length → n ≤ ns.getD i 0 → Below B w W →
  Calls Try.prog g (#[.int .i64 (i : Int), .int .i64 (n : Int)] ++ lb) W fun e w' => e = .returned (.int .i64 (wt (ns.getD i 0) n)) ∧ Below W.heap.size W w'
/-- The table of the first colour, with a row of tables. -/
def WaysMade (w : World) (L A P : Nat) (V : Nat → Nat → Int) (e : Ending) (w' : World) : Prop := ∃ (ob co tb ct : Nat) (rb cp : Nat → Nat) (xs : List Value), e = .returned (.slice (some ⟨ob, 0, none⟩) (L + 1) co) ∧
  w'.ownsRow w.heap.size 44 1 (.slice (some ⟨ob, 0, none⟩) (L + 1) co) (L + 1) xs ∧ xs[0]? = some (.slice (some ⟨tb, 0, none⟩) (A + 1) ct) ∧ Mat w' w.heap.size tb ct rb cp A P (A + 1) V ∧ Below w.heap.size w w'
theorem mk_len1 {α : Type} (n : Nat) (x : α) : (List.replicate ((n : Int) + 1).toNat x).length = n + 1 := by simp

/-- The ways of a colour, its first n numbers alone. -/
def S (wt : Nat → Nat → Int) (own : Nat) (r : List Nat) (n k p : Nat) : Int := sumN n fun d => wt own d * T wt half r ((k : Int) - d) ((p : Int) - half d)
theorem S_low {wt : Nat → Nat → Int} {own : Nat} {r : List Nat} {n k p : Nat} (h : k < n ∨ p < half n) : S wt own r (n + 1) k p = S wt own r n k p := by
  unfold S
  simp only [sumN]
  rw [T_neg (by omega)]
  simp
structure WSt (w3 W : World) (B0 L A P ob co j tb ct : Nat) (rb cp : Nat → Nat) (V : Nat → Nat → Int) : Prop where
  out : ∃ xs, W.ownsRow B0 44 1 (.slice (some ⟨ob, 0, none⟩) (L + 1) co) (L + 1) xs ∧ xs[j]? = some (.slice (some ⟨tb, 0, none⟩) (A + 1) ct)
  mat : Mat W B0 tb ct rb cp A P (A + 1) V
  bel : Below B0 w3 W
structure WIn (w3 W : World) (B0 L A P ob co i s tn cn : Nat) (rn pn : Nat → Nat) (Vn : Nat → Nat → Int) (tb ct : Nat) (rb cp : Nat → Nat) (V : Nat → Nat → Int) : Prop where
  out : ∃ xs, W.ownsRow B0 44 1 (.slice (some ⟨ob, 0, none⟩) (L + 1) co) (L + 1) xs ∧ xs[i]? = some (.slice (some ⟨tn, 0, none⟩) (A + 1) cn) ∧ xs[i + 1]? = some (.slice (some ⟨tb, 0, none⟩) (A + 1) ct)
  cur : Mat W s tn cn rn pn A P (A + 1) Vn
  old : Mat W B0 tb ct rb cp A P (A + 1) V
  sep : ob < s ∧ tb < s ∧ (∀ k, k < A + 1 → rb k < s) ∧ B0 ≤ s
  bel : Below B0 w3 W
section
variable {w3 W W1 : World} {B0 L A P ob co i s tn cn tb ct : Nat} {rn pn rb cp : Nat → Nat} {Vn V : Nat → Nat → Int}
theorem WIn.below (h : WIn w3 W B0 L A P ob co i s tn cn rn pn Vn tb ct rb cp V) (hB : B0 ≤ W.heap.size) (hb : Below W.heap.size W W1) : WIn w3 W1 B0 L A P ob co i s tn cn rn pn Vn tb ct rb cp V := by
  obtain ⟨xs, h1, h2, h3⟩ := h.out
  exact ⟨⟨xs, pw_own_below h1 hb, h2, h3⟩, h.cur.below hb, h.old.below hb, h.sep, h.bel.trans (hb.mono hB)⟩
theorem WIn.set (h : WIn w3 W B0 L A P ob co i s tn cn rn pn Vn tb ct rb cp V) {k : Nat} (hk : k ≤ A) (p : Nat) (x : Int) : WIn w3 (W.setCell ⟨rn k, p, none⟩ (.int .i64 x)) B0 L A P ob co i s tn cn rn pn (updV Vn k p x) tb ct rb cp V := by
  obtain ⟨xs, h1, h2, h3⟩ := h.out
  have hs := (h.cur.rbase (k := k) (by omega)).1
  obtain ⟨s1, s2, s3, s4⟩ := h.sep
  refine ⟨⟨xs, own_setCell h1 (by simpa [Value.ownBlock] using (by omega : rn k ≠ ob)) _, h2, h3⟩, h.cur.set (by omega) x, h.old.other (by show rn k ≠ tb; omega) (fun j hj => by have := s3 j hj; show rn k ≠ rb j; omega) _, h.sep, h.bel.setCell (by show B0 ≤ rn k; omega) _⟩
/-- What the walk reads. -/
theorem WIn.cells (h : WIn w3 W B0 L A P ob co i s tn cn rn pn Vn tb ct rb cp V) (hi : i < L) {k p kd pd : Nat} (hk : k ≤ A) (hp : p ≤ P) (hkd : kd ≤ A) (hpd : pd ≤ P) :
    W.cell? ⟨ob, i, none⟩ = some (.slice (some ⟨tn, 0, none⟩) (A + 1) cn) ∧ W.cell? ⟨ob, i + 1, none⟩ = some (.slice (some ⟨tb, 0, none⟩) (A + 1) ct) ∧ W.cell? ⟨tn, k, none⟩ = some (.slice (some ⟨rn k, 0, none⟩) (P + 1) (pn k)) ∧
      W.cell? ⟨tb, kd, none⟩ = some (.slice (some ⟨rb kd, 0, none⟩) (P + 1) (cp kd)) ∧ W.cell? ⟨rn k, p, none⟩ = some (.int .i64 (Vn k p)) ∧ W.frozen? ⟨rn k, p, none⟩ = false ∧ W.cell? ⟨rb kd, pd, none⟩ = some (.int .i64 (V kd pd)) := by
  obtain ⟨xs, h1, h2, h3⟩ := h.out
  obtain ⟨c1, c2⟩ := h.cur.cellR (k := k) (p := p) (by omega) hp
  exact ⟨by rw [h1.cellAt i (by omega)]; exact h2, by rw [h1.cellAt (i + 1) (by omega)]; exact h3, h.cur.cellT hk (by omega), h.old.cellT hkd (by omega), c1, c2, (h.old.cellR (by omega) hpd).1⟩
end
theorem nil_at {W : World} {base ob co L : Nat} (h : W.ownsRow base 44 1 (.slice (some ⟨ob, 0, none⟩) (L + 1) co) (L + 1) (encs (fun _ : Unit => Value.slice none 0 0) (List.replicate ((L : Int) + 1).toNat ()))) : W.cell? ⟨ob, L, none⟩ = some (.slice none 0 0) := by
  rw [h.cellAt L (by omega), show ((L : Int) + 1).toNat = L + 1 by omega]
  simp [encs]
set_option maxHeartbeats 8000000 in
set_option maxRecDepth 100000 in
theorem waysOf_calls (g : Nat) (lb : Array Value) (eg : ∀ args w, (callFunc g args).run Try.prog w = .ok (.enter g args) w) (ns : List Nat) (wt : Nat → Nat → Int) (A P k1 k2 : Nat) (A0 : Option Addr) (c0 : Nat) (w : World)
    (hr : Kd.C (Kd.int .i64) w A0 ns.length (toI ns)) (hc0 : ns.length ≤ c0) (hw : Weighs g lb ns wt w.heap.size w) (hL : ns.length ≤ 8) (hA : A ≤ 200) (hP : P ≤ 200) (hown : ∀ i : Nat, i < ns.length → ns.getD i 0 ≤ A ∧ half (ns.getD i 0) ≤ P)
    (hstep : ∀ i n k p : Nat, i < ns.length → n ≤ ns.getD i 0 → wrap64 (S wt (ns.getD i 0) (ns.drop (i + 1)) n k p + wrap64 (wt (ns.getD i 0) n * T wt half (ns.drop (i + 1)) ((k : Int) - n) ((p : Int) - half n))) = S wt (ns.getD i 0) (ns.drop (i + 1)) (n + 1) k p)
    (ht : impl_total.f k1 (toI ns) = some (A : Int)) (hp : impl_pairsOf.f k2 (toI ns) = some (P : Int)) :
    Calls Try.prog 60 #[.slice A0 ns.length c0, .func (.func g) #[] lb] w (WaysMade w ns.length A P (fun k p => T wt half ns (k : Int) (p : Int))) := by
  have hlen : (toI ns).length = ns.length := by simp [toI]
  have HR := Aside0.mk (show Kd.C (Kd.int .i64) w A0 (toI ns).length (toI ns) by rw [hlen]; exact hr)
  have HC := Aside0.mk (show (toI ns).length ≤ c0 by omega)
  have HW := Aside0.mk hw
  have HT := Aside0.mk ht
  have HP := Aside0.mk hp
  have HLEN := Aside0.mk hlen
  have HOWN := Aside0.mk hown
  have HSTEP := Aside0.mk hstep
  clear hr hc0 hw ht hp hlen hown hstep
  generalize hL0 : ns.length = L at *
  have HL0 := Aside0.mk hL0
  clear hL0
  have e69 : ∀ args w, (callFunc 69 args).run Try.prog w = .ok (.enter 69 args) w := enters_of Try.func69 (by kernel_rfl) rfl
  go_enter Try.func60, Try.ntmps60
  go_wp2_with (first | (go_at_call 40; have hcon := impl_total.calls k1 A0 c0 (toI ns) (A : Int) w HR.out HC.out HT.out; rw [HLEN.out] at hcon; refine hcon.mono ?_; rintro e w1 ⟨rfl, hb⟩; have HB1 := Aside0.mk hb.below; clear hb hcon) | (go_at_call 68; have hcon := impl_pairsOf.calls k2 A0 c0 (toI ns) (P : Int) w1 (Kd.C_below HR.out HB1.out) HC.out HP.out; rw [HLEN.out] at hcon; refine hcon.mono ?_; rintro e w2 ⟨rfl, hb⟩; have HB2 := Aside0.mk (HB1.out.trans (hb.below.mono HB1.out.size)); clear hb hcon) | ((with_reducible refine gate_dst (N := 22) rfl ?_); refine Kd.R_make (Kd.scalar (fun _ : Unit => Value.slice none 0 0) (fun _ => rfl)) _ 44 rfl (N := 22) rfl 54 _ _ rfl ((L : Int) + 1) rfl rfl Try.underlying54 (.slice none 0 0) 24 info44 rfl (by decide) (by omega) () (ok := fun _ => True) (okp := fun _ => True) rfl (fun _ hk => hk) trivial (by omega) (by omega) (Below.refl _ _) (Nat.le_refl _) ?_; intro v22 w3 ho hb hg_ hnew_; clear hg_ hnew_; have own := Kd.own_of_R ho; rw [mk_len] at own; obtain ⟨ob, co, rfl⟩ := own_form own (by omega); have OWN := Aside0.mk (own_weaken (base' := w2.heap.size + 2) own (by simp)); have HB3 := Aside0.mk (show Below w.heap.size w w3 from (HB2.out.trans ((((Below.refl _ _).alloc (Nat.le_refl _) _).alloc (by simp) _).trans (hb.mono (by simp; omega)) |>.mono HB2.out.size))); have h5 : w3.cell? ⟨w2.heap.size, 0, none⟩ = some (.int .i64 (A : Int)) := (hb.cell (p := ⟨w2.heap.size, 0, none⟩) (by simp; omega)).trans (by simp); have h6 : w3.cell? ⟨w2.heap.size + 1, 0, none⟩ = some (.int .i64 (P : Int)) := (hb.cell (p := ⟨w2.heap.size + 1, 0, none⟩) (by simp)).trans (by simp); have hz3 : w2.heap.size + 2 ≤ w3.heap.size := (by have := hb.size; simp at this; omega); clear ho hb own) | (go_at_call 69; refine (table_calls w2.heap.size (w2.heap.size + 1) A P w3 h5 h6 hA hP).mono ?_; rintro e w4 ⟨tb, ct, rb, cp, rfl, hm, hb⟩; have hob := OWN.out.lt ob rfl; have htb := hm.tbase; have hrb := hm.rbase (k := 0) (by omega); have hco := (hb.cell (p := ⟨ob, L, none⟩) hob.2).trans (nil_at OWN.out); have hfo := (hb.frozen (p := ⟨ob, L, none⟩) hob.2).trans (OWN.out.frozenAt L); have hct := hm.cellT (k := 0) (by omega) (by omega); obtain ⟨hcr, hfr⟩ := hm.cellR (k := 0) (p := 0) (by omega) (by omega); have hn1 : tb ≠ ob := (by omega); have hn2 : ob ≠ tb := (by omega); have hn3 : rb 0 ≠ ob := (by omega); have hn4 : ob ≠ rb 0 := (by omega); have hn5 : rb 0 ≠ tb := hm.tb_ne (by omega); have hn6 : tb ≠ rb 0 := Ne.symm hn5; have HM := Aside0.mk hm; have HB4 := Aside0.mk hb; have HOB := Aside0.mk hob; have HTB := Aside0.mk htb; have HRB := Aside0.mk hrb; clear hm hb hob htb hrb))
  generalize hp5 : w2.heap.size = p5 at *
  have HP5 := Aside0.mk hp5
  have H5 := Aside0.mk h5
  have H6 := Aside0.mk h6
  have hz3' := hz3
  have HST : Aside0 (WSt w3 ((w4.setCell ⟨ob, L, none⟩ (.slice (some ⟨tb, 0, none⟩) (A + 1) ct)).setCell ⟨rb 0, 0, none⟩ (.int .i64 1)) (p5 + 2) L A P ob co L tb ct rb cp (updV (fun _ _ => 0) 0 0 1)) := by
    have ho1 := (pw_own_below OWN.out HB4.out).stored L (.slice (some ⟨tb, 0, none⟩) (A + 1) ct)
    have hm1 := (HM.out.lower (b := p5 + 2) hz3).other (p := ⟨ob, L, none⟩) hn2 (fun k hk => by have := (HM.out.rbase hk).1; have := HOB.out; show ob ≠ rb k; omega) (.slice (some ⟨tb, 0, none⟩) (A + 1) ct)
    refine ⟨⟨⟨_, own_setCell ho1.1 (by simpa [Value.ownBlock] using hn3) _, ?_⟩, hm1.set (by omega) 1, ((HB4.out.mono hz3).setCell (by exact HOB.out.1) _).setCell (by have := HRB.out; show p5 + 2 ≤ rb 0; omega) _⟩⟩
    rw [List.getElem?_set_self (by simp [encs])]
  clear hp5 h5 h6 hco hfo hct hcr hfr hn1 hn2 hn3 hn4 hn5 hn6
  go_loopg [9, 10, 11, 12, 13] L (fun gg s9 _ _ _ _ wr => ∃ (j tb ct : Nat) (rb cp : Nat → Nat) (V : Nat → Nat → Int), j ≤ L ∧ j ≤ gg ∧ s9 = .int .i64 ((j : Int) - 1) ∧ Aside0 (WSt w3 wr (p5 + 2) L A P ob co j tb ct rb cp V) ∧ Aside0 (∀ k p, k ≤ A → p ≤ P → V k p = T wt half (ns.drop j) (k : Int) (p : Int)))
  case atStart =>
    refine ⟨L, tb, ct, rb, cp, _, Nat.le_refl _, Nat.le_refl _, rfl, HST, ⟨fun k p hk hp => ?_⟩⟩
    rw [List.drop_of_length_le (by have := HL0.out; omega)]
    simp only [T, updV]
    by_cases q : k = 0 ∧ p = 0
    · rw [if_pos q, if_pos (by omega)]
    · rw [if_neg q, if_neg (by omega)]
  case round =>
    clear HST HM HB4 HOB HTB HRB
    obtain ⟨j, tb2, ct2, rb2, cp2, V, hj, hgg, rfl, HST, HV⟩ := hrel
    by_cases hlt : 0 < j
    · obtain ⟨i, rfl⟩ : ∃ i, j = i + 1 := ⟨j - 1, by omega⟩
      have e0 : ((i + 1 : Nat) : Int) - 1 = (i : Int) := by omega
      rw [e0]
      have hilt : i < L := by omega
      have hiz : (i : Int) < (L : Int) + 1 := by omega
      have hiz2 : (i : Int) < (L : Int) := by omega
      have hszr : p5 + 2 ≤ wr.heap.size := Nat.le_trans hz3 HST.out.bel.size
      have h5 := (HST.out.bel.cell (p := ⟨p5, 0, none⟩) (by show p5 < p5 + 2; omega)).trans H5.out
      have h6 := (HST.out.bel.cell (p := ⟨p5 + 1, 0, none⟩) (by show p5 + 1 < p5 + 2; omega)).trans H6.out
      have HIN : ∃ xs, Aside0 (wr.ownsRow (p5 + 2) 44 1 (.slice (some ⟨ob, 0, none⟩) (L + 1) co) (L + 1) xs ∧ xs[i + 1]? = some (.slice (some ⟨tb2, 0, none⟩) (A + 1) ct2)) := by
        obtain ⟨xs, q1, q2⟩ := HST.out.out
        exact ⟨xs, ⟨q1, q2⟩⟩
      obtain ⟨xs, HXS⟩ := HIN
      have hxl : xs.length = L + 1 := by have := HXS.out.1.1; omega
      obtain ⟨ad1, e1, hx1⟩ := Kd.at_int HR.out (i : Int) (by omega) (by have := HLEN.out; omega)
      cases e1
      have hbw : Below w.heap.size w wr := HB3.out.trans (HST.out.bel.mono (by have := HP5.out; have := HB2.out.size; omega))
      have hrdv : rd (toI ns) (i : Int) = ((ns.getD i 0 : Nat) : Int) := by
        have := HL0.out
        simp [toI, rd, List.getD_eq_getElem?_getD, show i < ns.length by omega]
      rw [hrdv] at hx1
      have hadlt : (ad1.add (i : Int).toNat).block < w.heap.size := World.block_lt_of_cell? w _ hx1
      have hx1r := (hbw.cell hadlt).trans hx1
      rw [Int.toNat_natCast] at hx1r hadlt
      obtain ⟨ho1, ho2⟩ := HOWN.out i hilt
      generalize hown0 : ns.getD i 0 = own at *
      have HOWN0 := Aside0.mk hown0
      have HBW := Aside0.mk hbw
      have hob1 := HXS.out.1.lt ob rfl
      have hadn : (ad1.add i).block ≠ ob := by have := HP5.out; have := HB2.out.size; omega
      have hadn2 : ob ≠ (ad1.add i).block := Ne.symm hadn
      have hown1 : own ≤ 200 := by omega
      clear hx1 hrdv hown0 hbw e0
      go_wp2_with (go_at_call 69; refine (table_calls p5 (p5 + 1) A P wr h5 h6 hA hP).mono ?_; rintro e w4 ⟨tn, cn, rn, pn, rfl, hm, hb⟩; have hob := HXS.out.1.lt ob rfl; have hco := (hb.cell (p := ⟨ob, i, none⟩) hob.2).trans (HXS.out.1.cellAt i (by omega)); rw [List.getElem?_eq_getElem (show i < xs.length by omega)] at hco; have hfo := (hb.frozen (p := ⟨ob, i, none⟩) hob.2).trans (HXS.out.1.frozenAt i); have hx4 := (hb.cell (Nat.lt_of_lt_of_le hadlt HBW.out.size)).trans hx1r; have hx5 : (w4.setCell ⟨ob, i, none⟩ (.slice (some ⟨tn, 0, none⟩) (A + 1) cn)).cell? (ad1.add i) = some (.int .i64 (own : Int)) := (World.cell?_setCell_other _ _ _ _ (by intro e; first | exact hadn (congrArg Addr.block e) | exact hadn2 (congrArg Addr.block e))).trans hx4; have HM := Aside0.mk hm; have HB4 := Aside0.mk hb; clear hm hb hob)
      have HX := Aside0.mk hx5
      have HIN2 : Aside0 (WIn w3 (w4.setCell ⟨ob, i, none⟩ (.slice (some ⟨tn, 0, none⟩) (A + 1) cn)) (p5 + 2) L A P ob co i wr.heap.size tn cn rn pn (fun _ _ => 0) tb2 ct2 rb2 cp2 V) := by
        have hs1 := (pw_own_below HXS.out.1 HB4.out).stored i (.slice (some ⟨tn, 0, none⟩) (A + 1) cn)
        have ho3 := HXS.out.1.lt ob rfl
        have hold := HST.out.mat
        refine ⟨⟨_, hs1.1, List.getElem?_set_self (by omega), ?_⟩, HM.out.other (by have := HM.out.tbase; show ob ≠ tn; omega) (fun k hk => by have := (HM.out.rbase hk).1; show ob ≠ rn k; omega) _, (hold.below HB4.out).other ?_ (fun k hk => ?_) _, ⟨ho3.2, hold.tbase.2, fun k hk => (hold.rbase hk).2, hszr⟩, (HST.out.bel.trans (HB4.out.mono hszr)).setCell ho3.1 _⟩
        · rw [List.getElem?_set_ne (by omega)]
          exact HXS.out.2
        · have := own_type_ne HXS.out.1 hold.tab (by decide)
          simpa [Value.ownBlock] using this
        · have := own_type_ne HXS.out.1 (hold.row k hk) (by decide)
          simpa [Value.ownBlock, rowV] using this
      obtain ⟨s0, hs0⟩ : ∃ s, s = wr.heap.size := ⟨_, rfl⟩
      rw [← hs0] at HIN2
      clear hco hfo hx4 hx5 h5 h6 hx1r hs0
      go_loopg [10, 11, 12, 13, 54] (own + 1) (fun gg _ _ _ _ s54 wr2 => ∃ (n : Nat) (Vn : Nat → Nat → Int), n ≤ own + 1 ∧ own + 1 - n ≤ gg ∧ s54 = .int .i64 n ∧ Aside0 (WIn w3 wr2 (p5 + 2) L A P ob co i s0 tn cn rn pn Vn tb2 ct2 rb2 cp2 V) ∧ Aside0 (∀ k p, k ≤ A → p ≤ P → Vn k p = S wt own (ns.drop (i + 1)) n k p))
      case atStart => exact ⟨0, _, by omega, by omega, rfl, HIN2, ⟨fun k p _ _ => rfl⟩⟩
      case round =>
        clear HIN2 HX HM HB4
        obtain ⟨n, Vn, hn, hgg2, rfl, HIN, HVN⟩ := hrel
        by_cases hnlt : n < own + 1
        · have hnz : (n : Int) < (own : Int) + 1 := by omega
          have hszr2 : p5 + 2 ≤ wr.heap.size := Nat.le_trans hz3 HIN.out.bel.size
          have hbw2 : Below w.heap.size w wr := HB3.out.trans (HIN.out.bel.mono (by have := HP5.out; have := HB2.out.size; omega))
          have hnown : n ≤ own := by omega
          have hcall := HW.out wr i n (by have := HL0.out; omega) (by rw [HOWN0.out]; exact hnown) hbw2
          rw [HOWN0.out] at hcall
          have HCALL := Aside0.mk hcall
          obtain ⟨wv, hwv⟩ : ∃ v, v = wt own n := ⟨_, rfl⟩
          rw [← hwv] at hcall
          have HWV := Aside0.mk hwv
          have HCALL := Aside0.mk hcall
          have hhn : (n : Int) / 2 = ((half n : Nat) : Int) := by unfold half; omega
          have hhn2 : half n ≤ P := Nat.le_trans (by unfold half; omega) ho2
          clear hcall hwv hbw2
          go_wp2_with (go_at_fn g; refine (HCALL.out).mono ?_; rintro e w6 ⟨rfl, hb⟩; have HIN6 := Aside0.mk (HIN.out.below hszr2 hb); clear hb)
          go_loopg [12, 13] (A + 1) (fun gg s12 _ wr3 => ∃ (k : Nat) (Vk : Nat → Nat → Int), n ≤ k ∧ k ≤ A + 1 ∧ A + 1 - k ≤ gg ∧ s12 = .int .i64 k ∧ Aside0 (WIn w3 wr3 (p5 + 2) L A P ob co i s0 tn cn rn pn Vk tb2 ct2 rb2 cp2 V) ∧ Aside0 (∀ j p, j ≤ A → p ≤ P → Vk j p = if j < k then S wt own (ns.drop (i + 1)) (n + 1) j p else S wt own (ns.drop (i + 1)) n j p))
          case atStart =>
            refine ⟨n, Vn, Nat.le_refl _, by omega, by omega, rfl, HIN6, ⟨fun j p hj hp => ?_⟩⟩
            rw [HVN.out j p hj hp]
            split
            · exact (S_low (.inl ‹_›)).symm
            · rfl
          case round =>
            clear HIN6 HIN HVN
            obtain ⟨k, Vk, hnk, hkA, hgg3, rfl, HIN, HVK⟩ := hrel
            have h5 := (HIN.out.bel.cell (p := ⟨p5, 0, none⟩) (by show p5 < p5 + 2; omega)).trans H5.out
            by_cases hklt : k ≤ A
            · have hkz : (k : Int) ≤ (A : Int) := by omega
              go_wp2
              go_loopg [13] (P + 1) (fun gg s13 wr4 => ∃ (q : Nat) (Vp : Nat → Nat → Int), half n ≤ q ∧ q ≤ P + 1 ∧ P + 1 - q ≤ gg ∧ s13 = .int .i64 q ∧ Aside0 (WIn w3 wr4 (p5 + 2) L A P ob co i s0 tn cn rn pn Vp tb2 ct2 rb2 cp2 V) ∧ Aside0 (∀ j p, j ≤ A → p ≤ P → Vp j p = if j < k ∨ (j = k ∧ p < q) then S wt own (ns.drop (i + 1)) (n + 1) j p else S wt own (ns.drop (i + 1)) n j p))
              case atStart =>
                refine ⟨half n, Vk, Nat.le_refl _, by omega, by omega, by first | rfl | (rw [hhn]), HIN, ⟨fun j p hj hp => ?_⟩⟩
                rw [HVK.out j p hj hp]
                by_cases c1 : j < k
                · rw [if_pos c1, if_pos (.inl c1)]
                · rw [if_neg c1]
                  by_cases c2 : j = k ∧ p < half n
                  · rw [if_pos (.inr c2)]
                    exact (S_low (.inr c2.2)).symm
                  · rw [if_neg (by omega)]
              case round =>
                clear HIN HVK h5
                obtain ⟨q, Vp, hnq, hqP, hgg4, rfl, HIN, HVP⟩ := hrel
                have h6 := (HIN.out.bel.cell (p := ⟨p5 + 1, 0, none⟩) (by show p5 + 1 < p5 + 2; omega)).trans H6.out
                by_cases hqlt : q ≤ P
                · have hqz : (q : Int) ≤ (P : Int) := by omega
                  obtain ⟨kd, hkd⟩ : ∃ kd, kd + n = k := ⟨k - n, by omega⟩
                  obtain ⟨pd, hpd⟩ : ∃ pd, pd + half n = q := ⟨q - half n, by omega⟩
                  obtain ⟨r1, r2, r3, r4, r5, r6, r7⟩ := HIN.out.cells hilt (k := k) (p := q) (kd := kd) (pd := pd) hklt hqlt (by omega) (by omega)
                  obtain ⟨x0, hx0⟩ : ∃ x, x = Vp k q := ⟨_, rfl⟩
                  obtain ⟨y0, hy0⟩ : ∃ y, y = V kd pd := ⟨_, rfl⟩
                  rw [← hx0] at r5
                  rw [← hy0] at r7
                  obtain ⟨hn2, hhn2⟩ : ∃ h, h = half n := ⟨_, rfl⟩
                  have m1 : IntKind.i64.wrap ((k : Int) - (n : Int)) = (kd : Int) := by rw [IntKind.wrap_i64]; omega
                  have m2 : IntKind.i64.wrap ((half n : Nat) : Int) = ((half n : Nat) : Int) := by rw [IntKind.wrap_i64]; omega
                  have m2' : Int.tdiv (n : Int) 2 = ((half n : Nat) : Int) := by rw [Int.tdiv_eq_ediv_of_nonneg (by omega)]; omega
                  have m3 : IntKind.i64.wrap ((q : Int) - ((half n : Nat) : Int)) = (pd : Int) := by rw [IntKind.wrap_i64]; omega
                  have m4 : IntKind.i64.wrap ((i : Int) + 1) = (i : Int) + 1 := by rw [IntKind.wrap_i64]; omega
                  have n1 : (0 : Int) ≤ (i : Int) + 1 := by omega
                  have n2 : (i : Int) + 1 < (L : Int) + 1 := by omega
                  have n3 : ((i : Int) + 1).toNat = i + 1 := by omega
                  have n4 : (kd : Int) < (A : Int) + 1 := by omega
                  have n5 : (pd : Int) < (P : Int) + 1 := by omega
                  have n6 : (k : Int) < (A : Int) + 1 := by omega
                  have n7 : (q : Int) < (P : Int) + 1 := by omega
                  have HKD := Aside0.mk hkd
                  have HPD := Aside0.mk hpd
                  have HX0 := Aside0.mk hx0
                  have HY0 := Aside0.mk hy0
                  clear hkd hpd hx0 hy0 hhn2 hn2
                  go_wp2_with fail
                  go_still_tail 30, (by kernel_rfl)
                  change wpList _ _ _ _ _ wr.drew
                  have r6' : wr.drew.frozen? ⟨rn k, q, none⟩ = false := r6
                  have r5' : wr.drew.cell? ⟨rn k, q, none⟩ = some (.int .i64 x0) := r5
                  go_wp2
                  go_roundg (P + 1 - (q + 1))
                  case measure => omega
                  case rel =>
                    have hset := HIN.out.set hklt q (wrap64 (x0 + wrap64 (wv * y0)))
                    have hsz5 : p5 + 2 ≤ wr.heap.size := Nat.le_trans hz3 HIN.out.bel.size
                    refine ⟨q + 1, updV Vp k q (wrap64 (x0 + wrap64 (wv * y0))), by omega, by omega, by omega, by go_num, ⟨hset.below (by simpa using hsz5) (below_drew (Below.refl _ _))⟩, ⟨fun j p hj hp => ?_⟩⟩
                    have hx := HX0.out
                    rw [HVP.out k q hklt hqlt, if_neg (by omega)] at hx
                    have hy := HY0.out
                    have hkd := HKD.out
                    have hpd := HPD.out
                    rw [HV.out kd pd (by omega) (by omega), show (kd : Int) = (k : Int) - (n : Int) by omega, show (pd : Int) = (q : Int) - ((half n : Nat) : Int) by omega] at hy
                    have hst := HSTEP.out i n k q hilt (by rw [HOWN0.out]; exact hnown)
                    rw [HOWN0.out, ← hx, ← hy, ← HWV.out] at hst
                    unfold updV
                    by_cases c1 : j = k ∧ p = q
                    · rw [if_pos c1, if_pos (by omega), c1.1, c1.2]
                      exact hst
                    · rw [if_neg c1, HVP.out j p hj hp]
                      by_cases c2 : j < k ∨ j = k ∧ p < q
                      · rw [if_pos c2, if_pos (by omega)]
                      · rw [if_neg c2, if_neg (by omega)]
                · have hqz : ¬ (q : Int) ≤ (P : Int) := by omega
                  obtain rfl : q = P + 1 := by omega
                  go_wp2
                  go_roundg (A + 1 - (k + 1))
                  case measure => omega
                  case rel =>
                    refine ⟨k + 1, Vp, by omega, by omega, by omega, by go_num, HIN, ⟨fun j p hj hp => ?_⟩⟩
                    rw [HVP.out j p hj hp]
                    by_cases c1 : j < k + 1
                    · rw [if_pos c1, if_pos (by omega)]
                    · rw [if_neg c1, if_neg (by omega)]
            · have hkz : ¬ (k : Int) ≤ (A : Int) := by omega
              obtain rfl : k = A + 1 := by omega
              go_wp2
              go_roundg (own + 1 - (n + 1))
              case measure => omega
              case rel =>
                refine ⟨n + 1, Vk, by omega, by omega, by go_num, HIN, ⟨fun j p hj hp => ?_⟩⟩
                rw [HVK.out j p hj hp, if_pos (by omega)]
        · have hnz : ¬ (n : Int) < (own : Int) + 1 := by omega
          obtain rfl : n = own + 1 := by omega
          go_wp2
          go_roundg i
          case measure => omega
          case rel =>
            refine ⟨i, tn, cn, rn, pn, Vn, by omega, by omega, by first | rfl | go_num, ⟨?_, HIN.out.cur.lower HIN.out.sep.2.2.2, HIN.out.bel⟩, ⟨fun k p hk hp => ?_⟩⟩
            · obtain ⟨xs', q1, q2, _⟩ := HIN.out.out
              exact ⟨xs', q1, q2⟩
            · rw [HVN.out k p hk hp]
              have hd : ns.drop i = own :: ns.drop (i + 1) := by
                have := HL0.out
                rw [List.drop_eq_getElem_cons (show i < ns.length by omega), ← HOWN0.out]
                simp [List.getD_eq_getElem?_getD, show i < ns.length by omega]
              rw [hd]
              rfl
    · obtain rfl : j = 0 := by omega
      go_wp2
      go_ret
      obtain ⟨xs, q1, q2⟩ := HST.out.out
      have hbs : w.heap.size ≤ p5 + 2 := by have := HP5.out; have := HB2.out.size; omega
      have hm := HST.out.mat.lower hbs
      have hv := HV.out
      refine ⟨ob, co, tb2, ct2, rb2, cp2, xs, rfl, own_weaken q1 hbs, q2, ?_, HB3.out.trans (HST.out.bel.mono hbs)⟩
      refine ⟨hm.tab, fun k hk => ?_, hm.inj⟩
      have e2 : numL P (V k) = numL P (fun p => T wt half ns (k : Int) (p : Int)) := by
        unfold numL
        refine List.map_congr_left fun p hp => ?_
        have := hv k p (by omega) (by simp at hp; omega)
        rw [List.drop_zero] at this
        exact this
      have := hm.row k hk
      rw [e2] at this
      exact this
end Go.Proofs.Ytnikblimnjpmpaa.X

/- ==== Hchoices ==== -/
/- Pairs, plain laws; the program's choices: its contract: the numbers of choices by socks and pairs. -/
/- ==== PlPairs ==== -/
namespace Go.Proofs.Ytnikblimnjpmpaa.X
open Go.RowKit Go.Proofs.YtnikblimnjpmpaaW.PrintWords Go.Proofs.YtnikblimnjpmpaaW.PrintLast Go.Proofs.YtnikblimnjpmpaaW.PrintMore

def pairL (l : List Nat) : Nat := l.foldr (fun n s => half n + s) 0
theorem pairL_cons (n : Nat) (l : List Nat) : pairL (n :: l) = half n + pairL l := rfl
theorem pairL_le : ∀ l : List Nat, pairL l ≤ sumL l
  | [] => Nat.le_refl _
  | n :: l => by have := pairL_le l; rw [pairL_cons, sumL_cons]; unfold half; omega
theorem get_le_sum : ∀ (l : List Nat) (i : Nat), i < l.length → l.getD i 0 ≤ sumL l ∧ half (l.getD i 0) ≤ pairL l
  | n :: l, 0, _ => by rw [sumL_cons, pairL_cons]; simp
  | n :: l, i + 1, h => by
    have := get_le_sum l i (by simpa using h)
    rw [sumL_cons, pairL_cons]
    simp only [List.getD_cons_succ]
    omega
theorem acc_w {acc n : Nat} (h : acc ≤ 1000) (hn : n ≤ 1000) : wrap64 ((acc : Int) + wrap64 (Int.tdiv ((n : Nat) : Int) 2)) = ((acc + half n : Nat) : Int) := by
  have h1 : Int.tdiv ((n : Nat) : Int) 2 = ((half n : Nat) : Int) := by
    rw [Int.tdiv_eq_ediv_of_nonneg (by omega)]
    unfold half
    omega
  have h2 : half n ≤ 1000 := by unfold half; omega
  rw [h1, w64 (x := ((half n : Nat) : Int)) (by omega) (by omega), w64 (by omega) (by omega)]
  omega
theorem pairs_loop (ns : List Nat) (h20 : ∀ n ∈ ns, n ≤ 20) (hl : ns.length ≤ 8) (d : Nat) : ∀ (i acc : Nat), i + d = ns.length → acc ≤ 10 * i →
    Ev (fun k => impl_pairsOf.l0 k (acc : Int) (toI ns) ((toI ns).length : Int) (i : Int)) ((acc + pairL (ns.drop i) : Nat) : Int) := by
  have hlen : (toI ns).length = ns.length := by simp [toI]
  induction d with
  | zero =>
    intro i acc hi _
    rw [List.drop_of_length_le (by omega)]
    refine Ev.step (f := fun _ => some (acc : Int)) (fun k => ?_) (Ev.now _)
    simp only [impl_pairsOf.l0]
    rw [if_neg (by omega)]
  | succ d ih =>
    intro i acc hi ha
    have hlt : i < ns.length := by omega
    have hx := h20 _ (List.getElem_mem hlt)
    have hrd : rd (toI ns) (i : Int) = ((ns[i] : Nat) : Int) := by simp [toI, rd, List.getD_eq_getElem?_getD, hlt]
    have hh : half ns[i] ≤ 10 := by unfold half; omega
    have hw := acc_w (acc := acc) (n := ns[i]) (by omega) (by omega)
    have hs := ih (i + 1) (acc + half ns[i]) (by omega) (by omega)
    rw [List.drop_eq_getElem_cons hlt, pairL_cons, ← Nat.add_assoc]
    refine Ev.step (fun k => ?_) hs
    simp only [impl_pairsOf.l0]
    rw [if_pos (by omega), if_pos (by omega), if_pos (by omega), hrd, w64s hlt (by omega)]
    rw [hw]
theorem pairsOf_ev {ns : List Nat} (h20 : ∀ n ∈ ns, n ≤ 20) (hl : ns.length ≤ 8) : Ev (fun k => impl_pairsOf.f k (toI ns)) ((pairL ns : Nat) : Int) := by
  have := pairs_loop ns h20 hl ns.length 0 0 (by omega) (by omega)
  simpa [impl_pairsOf.f] using this
theorem sumN_mono {n m : Nat} {f : Nat → Int} (h : n ≤ m) (h0 : ∀ d, 0 ≤ f d) : sumN n f ≤ sumN m f := by
  obtain ⟨e, rfl⟩ := Nat.exists_eq_add_of_le h
  rw [sumN_split]
  have : 0 ≤ sumN e (fun d => f (n + d)) := sumN_nonneg fun d _ => h0 _
  omega
/-- A colour's sums, where the ways are few. -/
theorem S_step {wt : Nat → Nat → Int} (h0 : ∀ n d, 0 ≤ wt n d) {own : Nat} {r : List Nat} (hb : ∀ k p : Int, T wt half (own :: r) k p ≤ 4611686018427387904) {n : Nat} (hn : n ≤ own) (k p : Nat) :
    wrap64 (S wt own r n k p + wrap64 (wt own n * T wt half r ((k : Int) - n) ((p : Int) - half n))) = S wt own r (n + 1) k p := by
  have hd : ∀ d : Nat, 0 ≤ wt own d * T wt half r ((k : Int) - d) ((p : Int) - half d) := fun d => Int.mul_nonneg (h0 _ _) (T_nonneg h0)
  have h1 : 0 ≤ S wt own r n k p := sumN_nonneg fun d _ => hd d
  have h2 := hd n
  have h3 : S wt own r (n + 1) k p = S wt own r n k p + wt own n * T wt half r ((k : Int) - n) ((p : Int) - half n) := rfl
  have h4 : S wt own r (n + 1) k p ≤ T wt half (own :: r) (k : Int) (p : Int) := sumN_mono (by omega) hd
  have h5 := hb (k : Int) (p : Int)
  generalize wt own n * T wt half r ((k : Int) - n) ((p : Int) - half n) = z at *
  rw [h3] at h4 ⊢
  generalize S wt own r n k p = y at *
  rw [w64 (x := z) (by omega) (by omega), w64 (by omega) (by omega)]
theorem drop_sum (ns : List Nat) (i : Nat) : sumL (ns.drop i) ≤ sumL ns := by
  induction i generalizing ns with
  | zero => exact Nat.le_refl _
  | succ i ih =>
    cases ns with
    | nil => exact Nat.le_refl _
    | cons n l => rw [List.drop_succ_cons, sumL_cons]; have := ih l; omega
theorem drop_cons (ns : List Nat) {i : Nat} (h : i < ns.length) : ns.drop i = ns.getD i 0 :: ns.drop (i + 1) := by
  rw [List.drop_eq_getElem_cons h]
  simp [List.getD_eq_getElem?_getD, h]
end Go.Proofs.Ytnikblimnjpmpaa.X

/- ==== Hchoices ==== -/
namespace Go.Proofs.Ytnikblimnjpmpaa.X
open Go.RowKit Go.Proofs.YtnikblimnjpmpaaW.PrintWords Go.Proofs.YtnikblimnjpmpaaW.PrintLast Go.Proofs.YtnikblimnjpmpaaW.PrintMore

def tabV (A P : Nat) (V : Nat → Nat → Int) : List (List Int) := (List.range (A + 1)).map fun k => numL P (V k)
theorem Mat.S {W : World} {base tb ct : Nat} {rb cp : Nat → Nat} {A P : Nat} {V : Nat → Nat → Int} (h : Mat W base tb ct rb cp A P (A + 1) V) : Kd.S (Kd.slice 3 (Kd.int .i64)) 22 W base (fun _ => True) (.slice (some ⟨tb, 0, none⟩) (A + 1) ct) (tabV A P V) := by
  have hl : (tabV A P V).length = A + 1 := by simp [tabV]
  obtain ⟨f, hr⟩ := Kd.reps_tag (d := Kd.slice 3 (Kd.int .i64)) (w := W) (base := base) (ok := fun k => True ∧ some k ≠ (Value.slice (some ⟨tb, 0, none⟩) (A + 1) ct).ownBlock) (xs := tabV A P V) (inner := tabL A P rb cp (A + 1)) (fun j k => j < A + 1 ∧ k = rb j)
    (fun i j k hi hj => h.inj i j hi.1 hj.1 (by rw [← hi.2, ← hj.2])) (fun j k hk => ⟨trivial, by have := h.tb_ne hk.1; simpa [Value.ownBlock, hk.2] using this⟩) (by simp [tabV, tabL, Kd.slice]) (fun j x hx => by
      have hj : j < A + 1 := by have := (List.getElem?_eq_some_iff.1 hx).1; omega
      have hxe : x = numL P (V j) := by
        simp only [tabV, List.getElem?_map, List.getElem?_range hj, Option.map_some, Option.some.injEq] at hx
        exact hx.symm
      subst hxe
      refine ⟨rowV P rb cp j, ?_, Kd.R_of_own (by
        have := h.row j hj
        simpa [nums, encs, numL] using this) (fun k hk => ⟨hj, ?_⟩)⟩
      · show ((tabL A P rb cp (A + 1)).drop (j * 1)).take 1 = _
        rw [Nat.mul_one, List.drop_eq_getElem_cons (by simp [tabL]; omega)]
        simp [tabL, hj]
      · have : rb j = k := by simpa [rowV, Value.ownBlock] using hk
        exact this.symm)
  exact ⟨f, fun _ _ => trivial, tabL A P rb cp (A + 1), by rw [List.length_zipIdx, hl]; exact h.tab, hr⟩

def nat (l : List Int) : List Nat := l.map Int.toNat
def choV (l : List Int) : List (List Int) := tabV (sumL (nat l)) (pairL (nat l)) fun k p => T wB half (nat l) (k : Int) (p : Int)
def impl_choices.f (l0 : List Int) : Option ((List (List Int))) := if few l0 = true then some (choV l0) else none
theorem weighs61 {A0 : Option Addr} {c0 : Nat} {ns : List Nat} (h20 : ∀ n ∈ ns, n ≤ 20) {w W : World} {b : Nat} (hr : Kd.C (Kd.int .i64) w A0 (toI ns).length (toI ns)) (hb : W.cell? ⟨b, 0, none⟩ = some (.slice A0 (toI ns).length c0)) (hB : Below w.heap.size w W) :
    Weighs 61 #[.pointer (some ⟨b, 0, none⟩)] ns wB W.heap.size W := by
  intro W1 i n hi hn hb1
  have hlen : (toI ns).length = ns.length := by simp [toI]
  show Calls Try.prog 61 #[.int .i64 (i : Int), .int .i64 (n : Int), .pointer (some ⟨b, 0, none⟩)] W1 _
  have hbox := (hb1.cell (World.block_lt_of_cell? W _ hb)).trans hb
  obtain ⟨ad, e1, hx⟩ := Kd.at_int hr (i : Int) (by omega) (by omega)
  subst e1
  have hx1 := (hb1.cell (Nat.lt_of_lt_of_le (World.block_lt_of_cell? w _ hx) hB.size)).trans ((hB.cell (World.block_lt_of_cell? w _ hx)).trans hx)
  have hrd : rd (toI ns) (i : Int) = ((ns.getD i 0 : Nat) : Int) := by simp [toI, rd, List.getD_eq_getElem?_getD, hi]
  have ho : ns.getD i 0 ≤ 20 := by
    have := h20 _ (List.getElem_mem hi)
    simpa [List.getD_eq_getElem?_getD, hi] using this
  rw [hrd, Int.toNat_natCast] at hx1
  generalize ns.getD i 0 = own at *
  have HC := Aside0.mk (fun W => impl_choose.calls 100 (own : Int) (n : Int) (wB own n) W (chkB_at (by omega) hn).1)
  have hiz : (i : Int) < ((toI ns).length : Int) := by omega
  clear hr hb hx hrd hB hb1
  generalize wB own n = v at *
  generalize (toI ns).length = m at *
  go_enter Try.func61, Try.ntmps61
  go_wp2_with (go_at_call 38; refine (HC.out _).mono ?_; rintro e w' ⟨rfl, hb⟩)
  go_ret
  exact ⟨rfl, hb⟩
set_option maxHeartbeats 8000000 in
set_option maxRecDepth 100000 in
theorem impl_choices.calls (A0 : Option Addr) (c0 : Nat) (l0 : List Int) (r : List (List Int)) (w : World) (hr0 : Kd.C (Kd.int .i64) w A0 l0.length l0) (hc0 : l0.length ≤ c0) (h : impl_choices.f l0 = some r) :
    Calls Try.prog 41 #[.slice A0 l0.length c0] w fun e w' => ∃ v0_ : Value, e = .returned (v0_) ∧ Kd.S (Kd.slice 3 (Kd.int .i64)) 22 w' w.heap.size (fun _ => True) v0_ r ∧ Below w.heap.size w w' := by
  unfold impl_choices.f at h
  by_cases hf : few l0 = true
  · rw [if_pos hf] at h
    have h1 := Option.some.inj h
    clear h
    obtain ⟨_, g2, g3, _, _⟩ := few_of hf
    have etot := total_ev g2 g3
    obtain ⟨ns, rfl, h20, hl1, hl8, hs1, hs40, ht⟩ := few_ns hf
    rw [ht] at etot
    obtain ⟨k1, ht1⟩ := etot.rounds
    obtain ⟨k2, hp1⟩ := (pairsOf_ev h20 hl8).rounds
    have hnat : nat (toI ns) = ns := by
      unfold nat toI
      rw [List.map_map]
      have : ns.map (Int.toNat ∘ fun n : Nat => (n : Int)) = ns.map id := List.map_congr_left fun x _ => by simp
      rw [this, List.map_id]
    have hlen : (toI ns).length = ns.length := by simp [toI]
    have hpl := pairL_le ns
    have HCON := Aside0.mk (fun (W : World) (hb : W.cell? ⟨w.heap.size, 0, none⟩ = some (.slice A0 (toI ns).length c0)) (hB : Below w.heap.size w W) =>
      waysOf_calls 61 #[.pointer (some ⟨w.heap.size, 0, none⟩)] (enters_of Try.func61 (by kernel_rfl) rfl) ns wB (sumL ns) (pairL ns) k1 k2 A0 c0 W (by have := Kd.C_below hr0 hB; rw [hlen] at this; exact this) (by omega) (weighs61 h20 hr0 hb hB) hl8 (by omega) (by omega)
        (fun i hi => get_le_sum ns i hi) (fun i n k p hi hn => by
          refine S_step wB_nonneg (fun k p => ?_) hn k p
          rw [← drop_cons ns hi]
          have := T_bound (m := half) (l := ns.drop i) (fun x hx => h20 x (List.mem_of_mem_drop hx)) (Nat.le_trans (drop_sum ns i) hs40) k p
          omega) ht1 hp1)
    rw [hlen] at HCON ⊢
    have hL0 : (0 : Int) < (ns.length : Int) + 1 := by omega
    have H1 := Aside0.mk h1
    have HNAT := Aside0.mk hnat
    clear hr0 hc0 hf g2 g3 ht ht1 hp1 etot h1 hnat hlen h20
    go_enter Try.func41, Try.ntmps41
    go_wp2_with (go_at_call 60; refine (HCON.out _ (by simp) ((Below.refl _ _).alloc (Nat.le_refl _) _)).mono ?_; rintro e w1 ⟨ob, co, tb, ct, rb, cp, xs, rfl, q1, q2, hm, hb⟩; have hcz := (q1.cellAt 0 (by omega)).trans q2; have HM := Aside0.mk (hm.lower (b := w.heap.size) (by simp)); have HB := Aside0.mk (((Below.refl w.heap.size w).alloc (Nat.le_refl _) (.cells #[.slice A0 ns.length c0] 22)).trans (hb.mono (by simp))); clear q1 q2 hm hb)
    go_ret
    refine ⟨_, rfl, ?_, HB.out⟩
    rw [← H1.out]
    unfold choV
    rw [HNAT.out]
    exact HM.out.S
  · rw [if_neg hf] at h
    cases h
end Go.Proofs.Ytnikblimnjpmpaa.X

/- ==== PlVis ==== -/
/- Plain laws, no program in sight: the draws of just so many socks in their order, the first of the likeliest among them, and how many draws there are. -/
namespace Go.Proofs.Ytnikblimnjpmpaa.X
open Go.RowKit Go.Proofs.YtnikblimnjpmpaaW.PrintWords Go.Proofs.YtnikblimnjpmpaaW.PrintLast Go.Proofs.YtnikblimnjpmpaaW.PrintMore

/-- All draws that go on from one, in order. -/
def vis : List Nat → List Nat → Nat → List (List Nat)
  | [], l, left => if left = 0 then [l] else []
  | n :: r, l, left => (List.range' 0 (min n left + 1)).flatMap fun d => if left - d ≤ sumL r then vis r (l ++ [d]) (left - d) else []
/-- A draw's ways: those of its colours multiplied. -/
def wy : List Nat → List Nat → Int
  | n :: ns, d :: l => wB n d * wy ns l
  | _, _ => 1
/-- A draw is better than the best one so far. -/
def stp (f : List Nat → Int) (s : List Nat × Int) (x : List Nat) : List Nat × Int := if s.2 < f x then (x, f x) else s
theorem stp_ge (f : List Nat → Int) : ∀ (L : List (List Nat)) (s : List Nat × Int), s.2 ≤ (L.foldl (stp f) s).2
  | [], s => Int.le_refl _
  | x :: L, s => by
    rw [List.foldl_cons]
    refine Int.le_trans ?_ (stp_ge f L _)
    unfold stp
    split <;> omega
theorem stp_from (f : List Nat → Int) : ∀ (L : List (List Nat)) (b b0 : List Nat) (m m0 : Int), m0 ≤ m →
    L.foldl (stp f) (b, m) = if m < (L.foldl (stp f) (b0, m0)).2 then L.foldl (stp f) (b0, m0) else (b, m)
  | [], b, b0, m, m0, h => by
    show (b, m) = if m < m0 then (b0, m0) else (b, m)
    rw [if_neg (by omega)]
  | x :: L, b, b0, m, m0, h => by
    show L.foldl (stp f) (stp f (b, m) x) = if m < (L.foldl (stp f) (stp f (b0, m0) x)).2 then L.foldl (stp f) (stp f (b0, m0) x) else (b, m)
    by_cases c : m < f x
    · have e1 : stp f (b, m) x = (x, f x) := by unfold stp; rw [if_pos c]
      have e2 : stp f (b0, m0) x = (x, f x) := by unfold stp; rw [if_pos (show m0 < f x by omega)]
      have := stp_ge f L (x, f x)
      rw [e1, e2, if_pos (Int.lt_of_lt_of_le c this)]
    · have e1 : stp f (b, m) x = (b, m) := by unfold stp; rw [if_neg c]
      rw [e1]
      by_cases c2 : m0 < f x
      · have e2 : stp f (b0, m0) x = (x, f x) := by unfold stp; rw [if_pos c2]
        rw [e2]
        exact stp_from f L b x m (f x) (by omega)
      · have e2 : stp f (b0, m0) x = (b0, m0) := by unfold stp; rw [if_neg c2]
        rw [e2]
        exact stp_from f L b b0 m m0 h
/-- Where all are ways, it is the same to begin with 0 or with -1. -/
theorem stp_zero (f : List Nat → Int) (L : List (List Nat)) (h : ∀ x ∈ L, 1 ≤ f x) (b : List Nat) : (L.foldl (stp f) (b, -1)).1 = (L.foldl (stp f) (b, 0)).1 := by
  cases L with
  | nil => rfl
  | cons x L =>
    have h1 := h x (List.mem_cons_self ..)
    show (L.foldl (stp f) (stp f (b, -1) x)).1 = (L.foldl (stp f) (stp f (b, 0) x)).1
    have e1 : stp f (b, -1) x = (x, f x) := by unfold stp; rw [if_pos (show (-1 : Int) < f x by omega)]
    have e2 : stp f (b, 0) x = (x, f x) := by unfold stp; rw [if_pos (show (0 : Int) < f x by omega)]
    rw [e1, e2]
/-- A draw's begin: no more of a colour than there are. -/
def Beg : List Nat → List Nat → Prop
  | _, [] => True
  | [], _ :: _ => False
  | n :: ns, d :: l => d ≤ n ∧ Beg ns l
theorem Beg.len : ∀ {ns l : List Nat}, Beg ns l → l.length ≤ ns.length
  | _, [], _ => Nat.zero_le _
  | [], _ :: _, h => h.elim
  | n :: ns, d :: l, h => by have := Beg.len h.2; simp; omega
theorem Beg.snoc : ∀ {ns l : List Nat}, Beg ns l → ∀ {d : Nat}, (h : l.length < ns.length) → d ≤ ns.getD l.length 0 → Beg ns (l ++ [d])
  | n :: ns, [], _, d, _, hd => ⟨by simpa using hd, by simp [Beg]⟩
  | n :: ns, a :: l, h, d, hl, hd => ⟨h.1, Beg.snoc h.2 (by simpa using hl) (by simpa using hd)⟩
  | [], [], _, _, h, _ => absurd h (by simp)
  | [], _ :: _, h, _, _, _ => h.elim
theorem Beg.at : ∀ {ns l : List Nat}, Beg ns l → ∀ {i : Nat}, i < l.length → l.getD i 0 ≤ ns.getD i 0
  | n :: ns, a :: l, h, 0, _ => by simpa using h.1
  | n :: ns, a :: l, h, i + 1, hi => by simpa using Beg.at h.2 (i := i) (by simpa using hi)
  | [], _ :: _, h, _, _ => h.elim
  | _, [], _, _, hi => absurd hi (by simp)
theorem wB_pow {n d : Nat} (hn : n ≤ 20) (hd : d ≤ n) : wB n d ≤ 2 ^ n := by
  refine Int.le_trans ?_ (sumB_le hn)
  have h1 : sumN (d + 1) (wB n) ≤ sumN (n + 1) (wB n) := sumN_mono (by omega) (wB_nonneg n)
  have h2 : 0 ≤ sumN d (wB n) := sumN_nonneg fun e _ => wB_nonneg n e
  simp only [sumN] at h1
  simp only [sumN]
  omega
theorem wy_pow : ∀ {ns l : List Nat}, (∀ n ∈ ns, n ≤ 20) → Beg ns l → 1 ≤ wy ns l ∧ wy ns l ≤ 2 ^ sumL ns
  | [], [], _, _ => ⟨by simp [wy], by simp [wy, sumL]⟩
  | n :: ns, [], _, _ => by
    refine ⟨by simp [wy], ?_⟩
    have := Int.pow_pos (n := 2) (m := sumL (n :: ns)) (by decide)
    simp only [wy]
    omega
  | [], _ :: _, _, h => h.elim
  | n :: ns, d :: l, h20, h => by
    obtain ⟨h1, h2⟩ := wy_pow (fun x hx => h20 x (List.mem_cons_of_mem _ hx)) h.2
    have hn := h20 n (List.mem_cons_self ..)
    have h3 := wB_pow hn h.1
    have h4 := wB_pos (show n ≤ 40 by omega) h.1
    simp only [wy, sumL_cons, Int.pow_add]
    refine ⟨?_, Int.mul_le_mul h3 h2 (by omega) (by omega)⟩
    have := Int.mul_le_mul h4 h1 (by omega) (by omega)
    omega
theorem wy_bound {ns l : List Nat} (h20 : ∀ n ∈ ns, n ≤ 20) (h40 : sumL ns ≤ 40) (h : Beg ns l) : 1 ≤ wy ns l ∧ wy ns l ≤ 1099511627776 := by
  obtain ⟨h1, h2⟩ := wy_pow h20 h
  refine ⟨h1, Int.le_trans h2 ?_⟩
  have h3 : (2 : Nat) ^ sumL ns ≤ 2 ^ 40 := Nat.pow_le_pow_right (by decide) h40
  have h4 : ((2 ^ sumL ns : Nat) : Int) ≤ ((2 ^ 40 : Nat) : Int) := Int.ofNat_le.2 h3
  rw [Int.natCast_pow] at h4
  exact h4
theorem Beg.take : ∀ {ns l : List Nat}, Beg ns l → ∀ i, Beg ns (l.take i)
  | _, [], _, _ => by simp [Beg]
  | _, _ :: _, _, 0 => by simp [Beg]
  | [], _ :: _, h, _ + 1 => h.elim
  | n :: ns, d :: l, h, i + 1 => ⟨h.1, Beg.take h.2 i⟩
theorem wy_snoc : ∀ {ns l : List Nat}, Beg ns l → l.length < ns.length → ∀ d, wy ns (l ++ [d]) = wy ns l * wB (ns.getD l.length 0) d
  | n :: ns, [], _, _, d => by cases ns <;> simp [wy]
  | n :: ns, a :: l, h, hl, d => by
    have := wy_snoc h.2 (by simpa using hl) d
    simp only [List.cons_append, wy, List.length_cons, List.getD_cons_succ, this, Int.mul_assoc]
  | [], [], _, h, _ => absurd h (by simp)
  | [], _ :: _, h, _, _ => h.elim
theorem vis_beg (ns : List Nat) : ∀ (r l : List Nat) (left : Nat), r = ns.drop l.length → l.length ≤ ns.length → Beg ns l → ∀ x ∈ vis r l left, Beg ns x
  | [], l, left, _, _, h, x, hx => by
    simp only [vis] at hx
    split at hx
    · simp at hx
      rw [hx]
      exact h
    · simp at hx
  | n :: r, l, left, hr, hl, h, x, hx => by
    simp only [vis, List.mem_flatMap] at hx
    obtain ⟨d, hd, hx⟩ := hx
    split at hx
    · have hlt : l.length < ns.length := by
        have h3 := congrArg List.length hr
        simp at h3
        omega
      have e := drop_cons ns hlt
      rw [← hr] at e
      have e1 : n = ns.getD l.length 0 := (List.cons.inj e).1
      have e2 : r = ns.drop (l.length + 1) := (List.cons.inj e).2
      rw [List.mem_range'_1] at hd
      exact vis_beg ns r (l ++ [d]) (left - d) (by rw [e2]; simp) (by simp; omega) (h.snoc hlt (by rw [← e1]; omega)) x hx
    · simp at hx

/-! ### how many draws there are -/
def w1 : Nat → Nat → Int := fun _ _ => 1
def z0 : Nat → Nat := fun _ => 0
def Nd (l : List Nat) (k : Int) : Int := T w1 z0 l k 0
theorem w1_nonneg (n d : Nat) : 0 ≤ w1 n d := by unfold w1; decide
theorem sum_w1 (n : Nat) : sumN n (w1 n) = n := by
  have : ∀ m : Nat, sumN m (fun _ => (1 : Int)) = m := fun m => by
    induction m with
    | zero => rfl
    | succ m ih => simp only [sumN, ih]; omega
  exact this n
theorem sum_w1' (n m : Nat) : sumN m (w1 n) = m := by
  induction m with
  | zero => rfl
  | succ m ih => simp only [sumN, ih]; unfold w1; omega
theorem prod21 : ∀ {l : List Nat}, (∀ n ∈ l, n ≤ 20) → 0 ≤ prodB (fun n => (n : Int) + 1) l ∧ prodB (fun n => (n : Int) + 1) l ≤ 21 ^ l.length
  | [], _ => ⟨by simp [prodB], by simp [prodB]⟩
  | n :: l, h => by
    obtain ⟨h1, h2⟩ := prod21 (l := l) fun x hx => h x (List.mem_cons_of_mem _ hx)
    have hn := h n (List.mem_cons_self ..)
    simp only [prodB, List.length_cons]
    refine ⟨Int.mul_nonneg (by omega) h1, ?_⟩
    rw [Int.pow_succ, Int.mul_comm]
    exact Int.mul_le_mul h2 (by omega) (by omega) (Int.le_of_lt (Int.pow_pos (by decide)))
theorem T1_bound {m : Nat → Nat} {l : List Nat} (h : ∀ n ∈ l, n ≤ 20) (h8 : l.length ≤ 8) (k p : Int) : 0 ≤ T w1 m l k p ∧ T w1 m l k p ≤ 37822859361 := by
  refine ⟨T_nonneg w1_nonneg, Int.le_trans (T_le w1_nonneg (fun n => (n : Int) + 1) (fun n _ => by rw [sum_w1']; simp) (fun n _ => by omega)) (Int.le_trans (prod21 h).2 ?_)⟩
  have h3 : (21 : Nat) ^ l.length ≤ 21 ^ 8 := Nat.pow_le_pow_right (by decide) h8
  have h4 : ((21 ^ l.length : Nat) : Int) ≤ ((21 ^ 8 : Nat) : Int) := Int.ofNat_le.2 h3
  rw [Int.natCast_pow] at h4
  exact h4
theorem sumN_shift (h : Nat) (f : Int → Int) (hneg : ∀ z : Int, z < 0 → f z = 0) (P : Nat) : h ≤ P → sumN (P + 1) (fun p => f ((p : Int) - h)) = sumN (P - h + 1) (fun p => f (p : Int)) := by
  intro hP
  obtain ⟨e, rfl⟩ := Nat.exists_eq_add_of_le hP
  rw [show h + e + 1 = h + (e + 1) by omega, sumN_split, sumN_zero (fun d hd => hneg _ (by omega)), show h + e - h + 1 = e + 1 by omega, Int.zero_add]
  exact sumN_congr fun d _ => by congr 1; omega
/-- By pairs, together. -/
theorem T_rows : ∀ (l : List Nat) (k : Int) (P : Nat), pairL l ≤ P → sumN (P + 1) (fun p => T w1 half l k (p : Int)) = Nd l k
  | [], k, P, _ => by
    rw [sumN_at 0 (by omega) (fun d _ hne => by simp only [T]; rw [if_neg (by omega)])]
    rfl
  | n :: r, k, P, h => by
    rw [pairL_cons] at h
    unfold Nd
    simp only [T]
    rw [sumN_swap]
    refine sumN_congr fun d hd => ?_
    rw [sumN_mul]
    have hh : half d ≤ half n := by unfold half; omega
    rw [sumN_shift (half d) (fun z => T w1 half r (k - d) z) (fun z hz => T_neg (.inr hz)) P (by omega)]
    rw [T_rows r (k - d) (P - half d) (by omega)]
    unfold Nd
    rw [show (0 : Int) - ((z0 d : Nat) : Int) = 0 by simp [z0]]
/-- Two ways to count the draws of one colour more. -/
theorem sum_turn (F : Int → Int) (hneg : ∀ z : Int, z < 0 → F z = 0) (K j : Nat) (hj : j ≤ K) : ∀ n : Nat, sumN (K + 1) (fun a => if a ≤ j ∧ j ≤ a + n then F (a : Int) else 0) = sumN (n + 1) (fun d => F ((j : Int) - d))
  | 0 => by
    rw [sumN_at j (by omega) (fun d _ hne => by rw [if_neg (by omega)]), if_pos (by omega)]
    simp [sumN]
  | n + 1 => by
    have ih := sum_turn F hneg K j hj n
    show _ = sumN (n + 1) (fun d => F ((j : Int) - d)) + F ((j : Int) - ((n + 1 : Nat) : Int))
    rw [← ih]
    by_cases c : n + 1 ≤ j
    · have e1 : sumN (K + 1) (fun a => if a = j - (n + 1) then F (a : Int) else 0) = F ((j : Int) - ((n + 1 : Nat) : Int)) := by
        rw [sumN_at (j - (n + 1)) (by omega) (fun d _ hne => if_neg hne), if_pos rfl]
        congr 1
        omega
      rw [← e1, ← sumN_add]
      refine sumN_congr fun a _ => ?_
      by_cases c1 : a ≤ j ∧ j ≤ a + n
      · rw [if_pos c1, if_pos (by omega), if_neg (by omega)]; omega
      · by_cases c2 : a = j - (n + 1)
        · rw [if_neg c1, if_pos c2, if_pos (by omega)]; omega
        · rw [if_neg c1, if_neg c2, if_neg (by omega)]; omega
    · rw [hneg _ (by omega), Int.add_zero]
      refine sumN_congr fun a _ => ?_
      by_cases c1 : a ≤ j ∧ j ≤ a + n
      · rw [if_pos c1, if_pos (by omega)]
      · rw [if_neg c1, if_neg (by omega)]
theorem Nd_snoc (l : List Nat) (n : Nat) (K j : Nat) (hj : j ≤ K) : sumN (K + 1) (fun a => if a ≤ j ∧ j ≤ a + n then Nd l (a : Int) else 0) = Nd (l ++ [n]) (j : Int) := by
  rw [sum_turn (Nd l) (fun z hz => T_neg (.inl hz)) K j hj n]
  unfold Nd
  rw [T_snoc]
  refine sumN_congr fun d _ => ?_
  simp [w1, z0]
end Go.Proofs.Ytnikblimnjpmpaa.X

/- ==== Xspecl1Least ==== -/
namespace Go.Proofs.Ytnikblimnjpmpaa.X
open Go.RowKit Go.Proofs.YtnikblimnjpmpaaW.PrintWords Go.Proofs.YtnikblimnjpmpaaW.PrintLast Go.Proofs.YtnikblimnjpmpaaW.PrintMore
attribute [local go_sem] max2_int min2_int max_two min_two max_three min_three max_four min_four   -- for this text's walks alone
set_option linter.unusedVariables false
set_option linter.unusedSimpArgs false

/-! ### spec_l1Least: function 58 -/
def spec_l1Least.f (a0 : Int) (a1 : Int) : Option (Int) := if a0 < a1 then (some a0) else (some a1)
set_option maxHeartbeats 8000000 in
set_option maxRecDepth 100000 in
theorem spec_l1Least.calls (a0 : Int) (a1 : Int) (r : Int) (w : World) (h : spec_l1Least.f a0 a1 = some r) :
    Calls Try.prog 58 #[.int .i64 a0, .int .i64 a1] w fun e w' => e = .returned (.int .i64 r) ∧ Drawn0 w w' := by
  have H : (if a0 < a1 then (some a0) else (some a1)) = some r := h
  clear h
  by_cases c3 : a0 < a1
  · rw [if_pos c3] at H
    have c3b0 : decide (a0 < a1) = true := decide_eq_true c3
    clear c3
    obtain rfl := Option.some.inj H
    go_enter Try.func58, Try.ntmps58
    go_wp2
    go_ret
    exact ⟨by first | rfl | (simp; done) | (simp [*]; done), by repeat (first | exact Drawn0.refl _ | apply Drawn0.step)⟩
  · rw [if_neg c3] at H
    have c3b0 : decide (a0 < a1) = false := decide_eq_false c3
    clear c3
    obtain rfl := Option.some.inj H
    go_enter Try.func58, Try.ntmps58
    go_wp2
    go_ret
    exact ⟨by first | rfl | (simp; done) | (simp [*]; done), by repeat (first | exact Drawn0.refl _ | apply Drawn0.step)⟩

end Go.Proofs.Ytnikblimnjpmpaa.X

/- ==== Xspecl1Most ==== -/
namespace Go.Proofs.Ytnikblimnjpmpaa.X
open Go.RowKit Go.Proofs.YtnikblimnjpmpaaW.PrintWords Go.Proofs.YtnikblimnjpmpaaW.PrintLast Go.Proofs.YtnikblimnjpmpaaW.PrintMore
attribute [local go_sem] max2_int min2_int max_two min_two max_three min_three max_four min_four   -- for this text's walks alone
set_option linter.unusedVariables false
set_option linter.unusedSimpArgs false

/-! ### spec_l1Most: function 72 -/
def spec_l1Most.f (a0 : Int) (a1 : Int) : Option (Int) := if a0 > a1 then (some a0) else (some a1)
set_option maxHeartbeats 8000000 in
set_option maxRecDepth 100000 in
theorem spec_l1Most.calls (a0 : Int) (a1 : Int) (r : Int) (w : World) (h : spec_l1Most.f a0 a1 = some r) :
    Calls Try.prog 72 #[.int .i64 a0, .int .i64 a1] w fun e w' => e = .returned (.int .i64 r) ∧ Drawn0 w w' := by
  have H : (if a0 > a1 then (some a0) else (some a1)) = some r := h
  clear h
  by_cases c3 : a0 > a1
  · rw [if_pos c3] at H
    have c3b0 : decide (a1 < a0) = true := decide_eq_true c3
    clear c3
    obtain rfl := Option.some.inj H
    go_enter Try.func72, Try.ntmps72
    go_wp2
    go_ret
    exact ⟨by first | rfl | (simp; done) | (simp [*]; done), by repeat (first | exact Drawn0.refl _ | apply Drawn0.step)⟩
  · rw [if_neg c3] at H
    have c3b0 : decide (a1 < a0) = false := decide_eq_false c3
    clear c3
    obtain rfl := Option.some.inj H
    go_enter Try.func72, Try.ntmps72
    go_wp2
    go_ret
    exact ⟨by first | rfl | (simp; done) | (simp [*]; done), by repeat (first | exact Drawn0.refl _ | apply Drawn0.step)⟩

end Go.Proofs.Ytnikblimnjpmpaa.X
