/- The program's BestSearch: its contract. -/
import Derived.Test.YtenbnempjgbibaaHOrd
import Derived.Test.YtenbnempjgbibaaHAreDrawers
import Derived.Test.YtenbnempjgbibaaPlGood
namespace Go.Proofs.Ytenbnempjgbibaa.X
open Go.Shelf Go.RowKit Go.Lib Go.Sort Go.Proofs.YtenbnempjgbibaaW.PrintWords Go.Proofs.YtenbnempjgbibaaW.PrintLast Go.Proofs.YtenbnempjgbibaaW.PrintMore

def impl_BestSearch.f (l0 : List (S47)) : Option (List Int × Bool) := some (if areDr l0 = true then (ordF cB l0 (l0.length - 1), true) else ([], false))
set_option maxHeartbeats 8000000 in
set_option maxRecDepth 100000 in
theorem impl_BestSearch.calls (A0 : Option Addr) (c0 : Nat) (l0 : List (S47)) (r1 : List Int) (r2 : Bool) (w : World) (hr0 : Kd.C k47 w A0 l0.length l0) (hc0 : l0.length ≤ c0) (h : impl_BestSearch.f l0 = some (r1, r2)) :
    Calls Try.prog 21 #[.slice A0 l0.length c0] w fun e w' => ∃ v0_ : Value, e = .returned (.tuple #[v0_, .bool r2]) ∧ Kd.R (Kd.int .i64) 3 w' w.heap.size (fun _ => True) v0_ r1 ∧ Below w.heap.size w w' := by
  have h1 := Option.some.inj h
  clear h
  have e42 : ∀ args w, (callFunc 42 args).run Try.prog w = .ok (.enter 42 args) w := enters_of Try.func42 (by kernel_rfl) rfl
  have E := Aside0.mk e42
  have HR := Aside0.mk hr0
  have HC := Aside0.mk hc0
  cases hd : areDr l0 with
  | false =>
    rw [hd, if_neg (by decide)] at h1
    obtain ⟨rfl, rfl⟩ := Prod.mk.inj h1
    have HA := Aside0.mk (show impl_AreDrawers.f l0 = some false by rw [impl_AreDrawers.f, hd])
    clear hr0 hc0 hd h1 e42
    go_enter Try.func21, Try.ntmps21
    go_wp2_with (go_at_call 40; refine (impl_AreDrawers.calls _ _ l0 false _ HR.out HC.out HA.out).mono ?_; rintro e w1 ⟨rfl, hb⟩)
    go_ret2
    exact ⟨_, rfl, Kd.R_nil _ _ _ _ _, hb⟩
  | true =>
    rw [hd, if_pos rfl] at h1
    obtain ⟨rfl, rfl⟩ := Prod.mk.inj h1
    have hl := areDr_len hd
    have HA := Aside0.mk (show impl_AreDrawers.f l0 = some true by rw [impl_AreDrawers.f, hd])
    have HM := Aside0.mk (show l0.length = (l0.length - 1) + 1 by omega)
    have H8 := Aside0.mk (show l0.length - 1 < 8 by omega)
    clear hr0 hc0 hd hl e42
    generalize ho : ordF cB l0 (l0.length - 1) = o
    have HO := Aside0.mk ho
    clear ho
    go_enter Try.func21, Try.ntmps21
    go_wp2_with (first | (go_at_call 40; refine (impl_AreDrawers.calls _ _ l0 true _ HR.out HC.out HA.out).mono ?_; rintro e w1 ⟨rfl, hb⟩; have HB := Aside0.mk hb; clear hb) | (go_at_call 41; refine (ordered_calls 42 cB clo42 E.out A0 c0 l0 (l0.length - 1) _ (Kd.C_below HR.out HB.out) HM.out H8.out).mono ?_; rintro e w2 ⟨v, rfl, hr, hb2⟩; rw [HO.out] at hr; have HR2 := Aside0.mk (Kd.R_lower (base' := w.heap.size) hr HB.out.size); have HB2 := Aside0.mk (HB.out.trans (hb2.mono HB.out.size)); clear hr hb2))
    go_ret2
    exact ⟨_, rfl, HR2.out, HB2.out⟩
#print axioms impl_BestSearch.calls
end Go.Proofs.Ytenbnempjgbibaa.X
