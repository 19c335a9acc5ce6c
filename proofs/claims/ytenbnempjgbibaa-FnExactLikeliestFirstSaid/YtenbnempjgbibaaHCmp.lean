/- The program's comparisons of drawers: their contracts. -/
import Derived.Test.YtenbnempjgbibaaHSort
import Derived.Shelf.Abstract
namespace Go.Proofs.Ytenbnempjgbibaa.X
open Go.Shelf Go.RowKit Go.Lib Go.Sort Go.Proofs.YtenbnempjgbibaaW.PrintWords Go.Proofs.YtenbnempjgbibaaW.PrintLast Go.Proofs.YtenbnempjgbibaaW.PrintMore

def cB (a b : S47) : Int := wrap64 (wrap64 (b.f0 * a.f1) - wrap64 (a.f0 * b.f1))
def cL (a b : S47) : Int := wrap64 (b.f0 - a.f0)
def CmpF (g : Nat) (cf2 : S47 → S47 → Int) : Prop := ∀ (a b : S47) (W : World), Calls Try.prog g #[.agg #[.int .i64 a.f0, .int .i64 a.f1], .agg #[.int .i64 b.f0, .int .i64 b.f1]] W fun e w' => e = .returned (.int .i64 (cf2 a b)) ∧ ∃ q os', w' = grow (W.drewN q) os'
theorem clo42 : CmpF 42 cB := by
  intro a b W
  go_enter Try.func42, Try.ntmps42
  go_wp2
  go_ret
  exact ⟨rfl, 0, _, by rw [alloc_eq_grow, alloc_eq_grow, grow_grow]; rfl⟩
theorem clo43 : CmpF 43 cL := by
  intro a b W
  go_enter Try.func43, Try.ntmps43
  go_wp2
  go_ret
  exact ⟨rfl, 0, _, by rw [alloc_eq_grow, alloc_eq_grow, grow_grow]; rfl⟩
theorem cell_g {w : World} {a : Addr} {v : Value} (h : w.cell? a = some v) (n : Nat) (os : Array Obj) : (grow (w.drewN n) os).cell? a = some v := cell_grown (World.block_lt_of_cell? w a h) h n os

set_option maxHeartbeats 4000000 in
set_option maxRecDepth 100000 in
theorem clo56 (g : Nat) (cf2 : S47 → S47 → Int) (hg : CmpF g cf2) (eg : ∀ args w, (callFunc g args).run Try.prog w = .ok (.enter g args) w) (W : World) (bc bl : Nat) (A : Option Addr) (c : Nat) (l : List S47) (i j : Int) (hr : Kd.C k47 W A l.length l)
    (hbc : W.cell? ⟨bc, 0, none⟩ = some (.func (.func g) #[] #[])) (hbl : W.cell? ⟨bl, 0, none⟩ = some (.slice A l.length c)) (hi0 : 0 ≤ i) (hi1 : i < (l.length : Int)) (hj0 : 0 ≤ j) (hj1 : j < (l.length : Int)) :
    Calls Try.prog 56 #[.int .i64 i, .int .i64 j, .pointer (some ⟨bc, 0, none⟩), .pointer (some ⟨bl, 0, none⟩)] W fun e w' => e = .returned (.int .i64 (cf2 (rd_T47 l i) (rd_T47 l j))) ∧ ∃ q os', w' = grow (W.drewN q) os' := by
  obtain ⟨ad, e1, hx1, hy1⟩ := at_T47 hr i hi0 hi1
  subst e1
  obtain ⟨ad2, e2, hx2, hy2⟩ := at_T47 hr j hj0 hj1
  cases e2
  have H := Aside0.mk (fun n os => hg (rd_T47 l i) (rd_T47 l j) (grow (W.drewN n) os))
  have gc := cell_g hbc
  have gl := cell_g hbl
  have g1 := cell_g hx1
  have g2 := cell_g hy1
  have g3 := cell_g hx2
  have g4 := cell_g hy2
  clear hr hg hbc hbl hx1 hy1 hx2 hy2
  generalize rd_T47 l i = a at *
  generalize rd_T47 l j = b at *
  have mixed : Try.prog.follows .mixedOrders = true := Try.laysSlF20_f65.mixed
  go_enter Try.func56, Try.ntmps56
  go_wp2_with fail
  go_quiet_grown (first | (go_at_fn g; refine Calls.grown_of (H.out _ _)))
  go_wp2
  go_ret
  exact ⟨rfl, nq, osq, rfl⟩
end Go.Proofs.Ytenbnempjgbibaa.X
