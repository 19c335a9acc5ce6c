/- The program's washings, for whatever is told of pairs and losses, and the two that call it: their contracts. -/
import Derived.Test.YtdbkbccobmndbaaX0
import Derived.Test.YtdbkbccobmndbaaXimplarePairs
import Derived.Test.YtdbkbccobmndbaaXimplwithin
import Derived.Test.YtdbkbccobmndbaaXimplLeastComplete
import Derived.Test.YtdbkbccobmndbaaXimplMostComplete
import Derived.Lib.Hide
import Derived.Shelf.Abstract
namespace Go.Proofs.Ytdbkbccobmndbaa.X
set_option linter.unusedVariables false
open Go.RowKit Go.Proofs.YtdbkbccobmndbaaW.PrintWords Go.Proofs.YtdbkbccobmndbaaW.PrintLast Go.Proofs.YtdbkbccobmndbaaW.PrintMore

def washL (g : Int → Int → Option (Int × Bool)) : Nat → Int → Int → Int → Int → Option (Int × Bool)
  | 0, _, _, _, _ => none
  | k + 1, a, b, c, t => (g a (wrap64 (wrap64 (t + 1) * c))).bind fun r => if r.2 = true then (if r.1 < b then some (t, true) else washL g k a b c (wrap64 (t + 1))) else some (t, true)
theorem washL.mono (g : Int → Int → Option (Int × Bool)) : ∀ k a b c t, LeO (washL g k a b c t) (washL g (k + 1) a b c t)
  | 0, _, _, _, _ => LeO.none _
  | k + 1, a, b, c, t => by
    unfold washL
    exact LeO.bind (LeO.refl _) (fun _ => LeO.ite (LeO.ite (LeO.refl _) (washL.mono g k _ _ _ _)) (LeO.refl _))
def washF (g : Int → Int → Option (Int × Bool)) (k : Nat) (a b c : Int) : Option (Int × Bool) :=
  (impl_arePairs.f a).bind fun t1 => if t1 = true then (impl_within.f b 0 a).bind fun t2 => (if t2 = true then (impl_within.f c 1 40).bind fun t3 => (if t3 = true then washL g k a b c 0 else some (0, false)) else some (0, false)) else some (0, false)
theorem washF.mono (g : Int → Int → Option (Int × Bool)) : ∀ a b c k, LeO (washF g k a b c) (washF g (k + 1) a b c) := by
  intro a b c k
  unfold washF
  exact LeO.bind (LeO.refl _) (fun _ => LeO.ite (LeO.bind (LeO.refl _) (fun _ => LeO.ite (LeO.bind (LeO.refl _) (fun _ => LeO.ite (washL.mono g k _ _ _ _) (LeO.refl _))) (LeO.refl _))) (LeO.refl _))
def Told2 (n : Nat) (g : Int → Int → Option (Int × Bool)) : Prop := ∀ (W : World) (p m r : Int) (ok : Bool), g p m = some (r, ok) →
  Calls Try.prog n #[.int .i64 p, .int .i64 m] W fun e w' => e = .returned (.tuple #[.int .i64 r, .bool ok]) ∧ Below W.heap.size W w'

set_option maxHeartbeats 1000000 in
set_option maxRecDepth 100000 in
theorem wash_calls (g : Int → Int → Option (Int × Bool)) (n : Nat) (eg : ∀ args w, (callFunc n args).run Try.prog w = .ok (.enter n args) w) (hg : Told2 n g) (k : Nat) (a b c : Int) (r1 : Int) (r2 : Bool) (w : World) (h : washF g k a b c = some (r1, r2)) :
    Calls Try.prog 39 #[.int .i64 a, .int .i64 b, .int .i64 c, .func (.func n) #[] #[]] w fun e w' => e = .returned (.tuple #[.int .i64 r1, .bool r2]) ∧ Below w.heap.size w w' := by
  unfold washF at h
  have HG := Aside0.mk hg
  clear hg
  obtain ⟨t1, h1, h⟩ := Option.bind_eq_some_iff.1 h
  have H1 := Aside0.mk h1
  clear h1
  cases t1 with
  | false =>
    simp only [Bool.false_eq_true, if_false, Option.some.injEq, Prod.mk.injEq] at h
    obtain ⟨rfl, rfl⟩ := h
    go_enter Try.func39, Try.ntmps39
    go_wp2_with (first | (go_at_call 47; refine (impl_arePairs.calls a false _ H1.out).mono ?_; rintro e w1 ⟨rfl, ⟨nd, rfl⟩⟩))
    go_ret2
    exact ⟨rfl, by repeat (first | (with_reducible first | exact Below.refl _ _ | apply below_alloc | apply pw_below_drewN | apply below_drew1) | exact Below.refl _ _)⟩
  | true =>
    simp only [if_true] at h
    obtain ⟨t2, h2, h⟩ := Option.bind_eq_some_iff.1 h
    have H2 := Aside0.mk h2
    clear h2
    cases t2 with
    | false =>
      simp only [Bool.false_eq_true, if_false, Option.some.injEq, Prod.mk.injEq] at h
      obtain ⟨rfl, rfl⟩ := h
      go_enter Try.func39, Try.ntmps39
      go_wp2_with (first | (go_at_call 47; refine (impl_arePairs.calls a true _ H1.out).mono ?_; rintro e w1 ⟨rfl, ⟨nd, rfl⟩⟩) | (go_at_call 48; refine (impl_within.calls b 0 a false _ H2.out).mono ?_; rintro e w2 ⟨rfl, ⟨nd2, rfl⟩⟩))
      go_ret2
      exact ⟨rfl, by repeat (first | (with_reducible first | exact Below.refl _ _ | apply below_alloc | apply pw_below_drewN | apply below_drew1) | exact Below.refl _ _)⟩
    | true =>
      simp only [if_true] at h
      obtain ⟨t3, h3, h⟩ := Option.bind_eq_some_iff.1 h
      have H3 := Aside0.mk h3
      clear h3
      cases t3 with
      | false =>
        simp only [Bool.false_eq_true, if_false, Option.some.injEq, Prod.mk.injEq] at h
        obtain ⟨rfl, rfl⟩ := h
        go_enter Try.func39, Try.ntmps39
        go_wp2_with (first | (go_at_call 47; refine (impl_arePairs.calls a true _ H1.out).mono ?_; rintro e w1 ⟨rfl, ⟨nd, rfl⟩⟩) | (go_at_call 48; (with_reducible refine (impl_within.calls b 0 a true _ H2.out).mono ?_); rintro e w2 ⟨rfl, ⟨nd2, rfl⟩⟩) | (go_at_call 48; (with_reducible refine (impl_within.calls c 1 40 false _ H3.out).mono ?_); rintro e w3 ⟨rfl, ⟨nd3, rfl⟩⟩))
        go_ret2
        exact ⟨rfl, by repeat (first | (with_reducible first | exact Below.refl _ _ | apply below_alloc | apply pw_below_drewN | apply below_drew1) | exact Below.refl _ _)⟩
      | true =>
        simp only [if_true] at h
        have H' := Aside0.mk h
        clear h
        go_enter Try.func39, Try.ntmps39
        go_wp2_with (first | (go_at_call 47; refine (impl_arePairs.calls a true _ H1.out).mono ?_; rintro e w1 ⟨rfl, ⟨nd, rfl⟩⟩) | (go_at_call 48; (with_reducible refine (impl_within.calls b 0 a true _ H2.out).mono ?_); rintro e w2 ⟨rfl, ⟨nd2, rfl⟩⟩) | (go_at_call 48; (with_reducible refine (impl_within.calls c 1 40 true _ H3.out).mono ?_); rintro e w3 ⟨rfl, ⟨nd3, rfl⟩⟩))
        go_loopg [10] k (fun kq v10 w' => ∃ (t : Int), v10 = .int .i64 t ∧ Aside0 (washL g kq a b c t = some (r1, r2)) ∧ Aside0 (kq ≤ k) ∧ Aside0 (Below w.heap.size w w'))
        case atStart => exact ⟨0, rfl, H', ⟨Nat.le_refl _⟩, ⟨by repeat (first | (with_reducible first | exact Below.refl _ _ | apply below_alloc | apply pw_below_drewN | apply below_drew1) | exact Below.refl _ _)⟩⟩
        case round =>
          clear H'
          obtain ⟨t, rfl, HA, HK1, HB⟩ := hrel
          cases gk with
          | zero => exact absurd HA.out (by simp [washL])
          | succ k1 =>
            have H := HA.out
            clear HA
            simp only [washL] at H
            obtain ⟨⟨x, ok⟩, hx, H⟩ := Option.bind_eq_some_iff.1 H
            have HX := Aside0.mk hx
            clear hx
            cases ok with
            | false =>
              simp only [Bool.false_eq_true, if_false, Option.some.injEq, Prod.mk.injEq] at H
              obtain ⟨rfl, rfl⟩ := H
              go_wp2_with (first | (go_at_fn n; refine (HG.out _ _ _ _ _ HX.out).mono ?_; rintro e w4 ⟨rfl, hb⟩))
              go_ret2
              exact ⟨rfl, HB.out.trans (hb.mono HB.out.size)⟩
            | true =>
              simp only [if_true] at H
              by_cases hlt : x < b
              · rw [if_pos hlt] at H
                simp only [Option.some.injEq, Prod.mk.injEq] at H
                obtain ⟨rfl, rfl⟩ := H
                have hltb : decide (x < b) = true := decide_eq_true hlt
                go_wp2_with (first | (go_at_fn n; refine (HG.out _ _ _ _ _ HX.out).mono ?_; rintro e w4 ⟨rfl, hb⟩))
                go_ret2
                exact ⟨rfl, HB.out.trans (hb.mono HB.out.size)⟩
              · rw [if_neg hlt] at H
                have hltb : decide (x < b) = false := decide_eq_false hlt
                have H' := Aside0.mk H
                clear H
                go_wp2_with (first | (go_at_fn n; refine (HG.out _ _ _ _ _ HX.out).mono ?_; rintro e w4 ⟨rfl, hb⟩))
                go_roundg k1
                case measure => have := HK1.out; omega
                case rel => exact ⟨_, rfl, H', ⟨by have := HK1.out; omega⟩, ⟨HB.out.trans (hb.mono HB.out.size)⟩⟩

theorem eg14 : ∀ args w, (callFunc 14 args).run Try.prog w = .ok (.enter 14 args) w := enters_of Try.func14 (by kernel_rfl) rfl
theorem eg18 : ∀ args w, (callFunc 18 args).run Try.prog w = .ok (.enter 18 args) w := enters_of Try.func18 (by kernel_rfl) rfl
theorem told14 : Told2 14 impl_MostComplete.f := fun W p m r ok h => (impl_MostComplete.calls p m r ok W h).mono fun e w' ⟨he, hd⟩ => ⟨he, hd.below⟩
theorem told18 : Told2 18 impl_LeastComplete.f := fun W p m r ok h => impl_LeastComplete.calls p m r ok W h
def impl_WashingsAtBest.f (k : Nat) (a0 : Int) (a1 : Int) (a2 : Int) : Option (Int × Bool) := washF impl_MostComplete.f k a0 a1 a2
def impl_WashingsAtWorst.f (k : Nat) (a0 : Int) (a1 : Int) (a2 : Int) : Option (Int × Bool) := washF impl_LeastComplete.f k a0 a1 a2
theorem impl_WashingsAtBest.mono : ∀ a0 a1 a2 k, LeO (impl_WashingsAtBest.f k a0 a1 a2) (impl_WashingsAtBest.f (k + 1) a0 a1 a2) := fun _ _ _ _ => washF.mono _ _ _ _ _
theorem impl_WashingsAtWorst.mono : ∀ a0 a1 a2 k, LeO (impl_WashingsAtWorst.f k a0 a1 a2) (impl_WashingsAtWorst.f (k + 1) a0 a1 a2) := fun _ _ _ _ => washF.mono _ _ _ _ _
set_option maxHeartbeats 4000000 in
theorem impl_WashingsAtBest.calls (k : Nat) (a0 : Int) (a1 : Int) (a2 : Int) (r1 : Int) (r2 : Bool) (w : World) (h : impl_WashingsAtBest.f k a0 a1 a2 = some (r1, r2)) :
    Calls Try.prog 22 #[.int .i64 a0, .int .i64 a1, .int .i64 a2] w fun e w' => e = .returned (.tuple #[.int .i64 r1, .bool r2]) ∧ Below w.heap.size w w' := by
  have H := Aside0.mk h
  clear h
  go_enter Try.func22, Try.ntmps22
  go_wp2_with (first | (go_at_call 39; refine (wash_calls impl_MostComplete.f 14 eg14 told14 k a0 a1 a2 r1 r2 _ H.out).mono ?_; rintro e w1 ⟨rfl, hb⟩))
  go_ret2
  exact ⟨rfl, hb⟩
set_option maxHeartbeats 4000000 in
theorem impl_WashingsAtWorst.calls (k : Nat) (a0 : Int) (a1 : Int) (a2 : Int) (r1 : Int) (r2 : Bool) (w : World) (h : impl_WashingsAtWorst.f k a0 a1 a2 = some (r1, r2)) :
    Calls Try.prog 24 #[.int .i64 a0, .int .i64 a1, .int .i64 a2] w fun e w' => e = .returned (.tuple #[.int .i64 r1, .bool r2]) ∧ Below w.heap.size w w' := by
  have H := Aside0.mk h
  clear h
  go_enter Try.func24, Try.ntmps24
  go_wp2_with (first | (go_at_call 39; refine (wash_calls impl_LeastComplete.f 18 eg18 told18 k a0 a1 a2 r1 r2 _ H.out).mono ?_; rintro e w1 ⟨rfl, hb⟩))
  go_ret2
  exact ⟨rfl, hb⟩
#print axioms impl_WashingsAtWorst.calls
end Go.Proofs.Ytdbkbccobmndbaa.X
