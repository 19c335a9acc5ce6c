/- The program's BasketAfter: its contract. -/
import Derived.Test.YtbfapmckkmmnjaaX0
import Derived.Test.YtbfapmckkmmnjaaXimplarePairs
import Derived.Test.YtbfapmckkmmnjaaXimpltimes
import Derived.Test.YtbfapmckkmmnjaaXimplbasketOf
namespace Go.Proofs.Ytbfapmckkmmnjaa.X
open Go.RowKit Go.Proofs.YtbfapmckkmmnjaaW.PrintWords Go.Proofs.YtbfapmckkmmnjaaW.PrintLast Go.Proofs.YtbfapmckkmmnjaaW.PrintMore
set_option linter.unusedVariables false
set_option linter.unusedSimpArgs false

def impl_BasketAfter.l0 : Nat → List Int → Int → Option (List Int × Bool)
  | 0, _, _ => none
  | k + 1, x, i => if i < (x.length : Int) then (if 0 ≤ i then impl_BasketAfter.l0 k (x.set i.toNat (wrap64 (2 - rd x i))) (wrap64 (i + 1)) else none) else (impl_basketOf.f k x).bind fun t => some (t, true)
def impl_BasketAfter.g (k : Nat) (b : List Int × Bool) : Option (List Int × Bool) := if b.2 = true then impl_BasketAfter.l0 k b.1 0 else some ([], false)
def impl_BasketAfter.f (k : Nat) (a0 : Int) (l1 : List Int) : Option (List Int × Bool) := (impl_arePairs.f a0).bind fun t => if t = true then (impl_times.f k a0 l1).bind (impl_BasketAfter.g k) else some ([], false)
theorem impl_BasketAfter.mono_l : ∀ k y0 y1, LeO (impl_BasketAfter.l0 k y0 y1) (impl_BasketAfter.l0 (k + 1) y0 y1)
  | 0, _, _ => LeO.none _
  | k + 1, y0, y1 => by
    unfold impl_BasketAfter.l0
    exact LeO.ite (LeO.ite (impl_BasketAfter.mono_l k _ _) (LeO.refl _)) (LeO.bind (impl_basketOf.mono _ _) (fun _ => LeO.refl _))
theorem impl_BasketAfter.mono : ∀ a0 a1 k, LeO (impl_BasketAfter.f k a0 a1) (impl_BasketAfter.f (k + 1) a0 a1) := by
  intro a0 a1 k
  unfold impl_BasketAfter.f impl_BasketAfter.g
  exact LeO.bind (LeO.refl _) (fun _ => LeO.ite (LeO.bind (impl_times.mono _ _ _) (fun _ => LeO.ite (impl_BasketAfter.mono_l k _ _) (LeO.refl _))) (LeO.refl _))

theorem basketOf_n (k n : Nat) (A0 : Option Addr) (c0 : Nat) (l0 : List Int) (r : List Int) (w : World) (hn : n = l0.length) (hr0 : Kd.C (Kd.int .i64) w A0 l0.length l0) (hc0 : l0.length ≤ c0) (h : impl_basketOf.f k l0 = some r) :
    Calls Try.prog 35 #[.slice A0 n c0] w fun e w' => ∃ v0_ : Value, e = .returned (v0_) ∧ Kd.R (Kd.int .i64) 3 w' w.heap.size (fun _ => True) v0_ r ∧ Below w.heap.size w w' := by
  subst hn
  exact impl_basketOf.calls k A0 c0 l0 r w hr0 hc0 h
set_option maxHeartbeats 8000000 in
set_option maxRecDepth 100000 in
theorem impl_BasketAfter.calls (k : Nat) (a0 : Int) (A1 : Option Addr) (c1 : Nat) (l1 : List Int) (r1 : List Int) (r2 : Bool) (w : World) (hr1 : Kd.C (Kd.int .i64) w A1 l1.length l1) (hc1 : l1.length ≤ c1) (h : impl_BasketAfter.f k a0 l1 = some (r1, r2)) :
    Calls Try.prog 19 #[.int .i64 a0, .slice A1 l1.length c1] w fun e w' => ∃ v0_ : Value, e = .returned (.tuple #[v0_, .bool r2]) ∧ Kd.R (Kd.int .i64) 3 w' w.heap.size (fun _ => True) v0_ r1 ∧ Below w.heap.size w w' := by
  have HR1 := Aside0.mk hr1
  have HC1 := Aside0.mk hc1
  clear hr1 hc1
  unfold impl_BasketAfter.f at h
  obtain ⟨t, ht, h⟩ := Option.bind_eq_some_iff.1 h
  have HT := Aside0.mk ht
  clear ht
  cases t with
  | false =>
    simp only [Bool.false_eq_true, if_false, Option.some.injEq, Prod.mk.injEq] at h
    obtain ⟨rfl, rfl⟩ := h
    go_enter Try.func19, Try.ntmps19
    go_wp2_with (first | (go_at_call 30; refine (impl_arePairs.calls a0 false _ HT.out).mono ?_; rintro e w1 ⟨rfl, ⟨nd, rfl⟩⟩))
    go_ret2
    exact ⟨_, rfl, Kd.R_nil _ _ _ _ _, by repeat (first | (with_reducible first | exact Below.refl _ _ | apply below_alloc | apply pw_below_drewN | apply below_drew1) | exact Below.refl _ _)⟩
  | true =>
    simp only [if_true] at h
    obtain ⟨⟨t1, t2⟩, hT, h⟩ := Option.bind_eq_some_iff.1 h
    unfold impl_BasketAfter.g at h
    have HTT := Aside0.mk hT
    clear hT
    cases t2 with
    | false =>
      simp only [Bool.false_eq_true, if_false, Option.some.injEq, Prod.mk.injEq] at h
      obtain ⟨rfl, rfl⟩ := h
      go_enter Try.func19, Try.ntmps19
      go_wp2_with (first | (go_at_call 30; refine (impl_arePairs.calls a0 true _ HT.out).mono ?_; rintro e w1 ⟨rfl, ⟨nd, rfl⟩⟩) | (go_at_call 31; refine (impl_times.calls k a0 _ _ l1 t1 false _ (Kd.C_below HR1.out (pw_below_drewN (Below.refl _ _) _)) HC1.out HTT.out).mono ?_; rintro e w2 ⟨v, rfl, ho, hb⟩; have HB := Aside0.mk ((pw_below_drewN (Below.refl w.heap.size w) nd).trans (hb.mono (Nat.le_refl _))); clear ho hb))
      go_ret2
      exact ⟨_, rfl, Kd.R_nil _ _ _ _ _, HB.out⟩
    | true =>
      simp only [if_true] at h
      have H' := Aside0.mk h
      clear h
      go_enter Try.func19, Try.ntmps19
      go_wp2_with (first | (go_at_call 30; refine (impl_arePairs.calls a0 true _ HT.out).mono ?_; rintro e w1 ⟨rfl, ⟨nd, rfl⟩⟩) | (go_at_call 31; refine (impl_times.calls k a0 _ _ l1 t1 true _ (Kd.C_below HR1.out (pw_below_drewN (Below.refl _ _) _)) HC1.out HTT.out).mono ?_; rintro e w2 ⟨v, rfl, ho, hb⟩; have HB := Aside0.mk ((pw_below_drewN (Below.refl w.heap.size w) nd).trans (hb.mono (Nat.le_refl _))); obtain ⟨A, c, rfl⟩ := Kd.R_slice ho; have HO := Aside0.mk (Kd.R_lower ho (Nat.le_refl w.heap.size)); clear ho hb))
      go_loopg [23] k (fun kq v23 w' => ∃ (x : List Int) (i : Int), v23 = .int .i64 i ∧ Aside0 (impl_BasketAfter.l0 kq x i = some (r1, r2)) ∧ Aside0 (kq ≤ k) ∧ Aside0 (x.length = t1.length) ∧ Aside0 (Kd.R (Kd.int .i64) 3 w' w.heap.size (fun _ => True) (.slice A t1.length c) x) ∧ Aside0 (Below w.heap.size w w'))
      case atStart => exact ⟨t1, 0, rfl, H', ⟨Nat.le_refl _⟩, ⟨rfl⟩, HO, HB⟩
      case round =>
        clear H' HO HB
        obtain ⟨x, i, rfl, HA, HK1, HL, HO, HB⟩ := hrel
        cases gk with
        | zero => exact absurd HA.out (by simp [impl_BasketAfter.l0])
        | succ k1 =>
          have H := HA.out
          clear HA
          simp only [impl_BasketAfter.l0] at H
          by_cases c4 : i < (x.length : Int)
          · rw [if_pos c4] at H
            by_cases c5 : 0 ≤ i
            · rw [if_pos c5] at H
              have H' := Aside0.mk H
              clear H
              rw [HL.out] at c4
              obtain ⟨go, co, eo, gb, gl, cl, HG⟩ := Kd.R_form HO.out (by have := HL.out; omega)
              injection eo with ea en ec
              subst ea
              subst ec
              have GB := Aside0.mk gb
              clear gb gl HG en
              obtain ⟨hx, hf⟩ := Kd.R_celln 0 HO.out i c5 c4
              have HP := Kd.R_putg HO.out i (wrap64 (2 - rd x i))
              have hx2 : wr.cell? ((⟨go, 0, none⟩ : Addr).add i.toNat) = some (.int .i64 (rd x i)) := by simp only [add_plain]; exact hx
              have c4b : decide (i < (t1.length : Int)) = true := decide_eq_true c4
              have c5b := eq_true c5
              have c4c := eq_true c4
              clear c4 c5
              go_wp2_with (first | ((with_reducible refine gate_store (t := 3) (p := 32) rfl ?_); refine store_event (t := 3) (p := 32) (v := .tmp 31) (w1 := (wr.setCell ⟨go, i.toNat, none⟩ (.int .i64 (wrap64 (2 - rd x i))))) ?hg ?ho ?hn ?hr ?_; (case ho => rfl); (case hg => rfl); (case hn => rfl); (case hr => first | (go_simp; done) | (go_simp; rfl)); intro w19 hw; have n0_ := Aside0.mk (show Kd.R (Kd.int .i64) 3 w19 w.heap.size (fun _ => True) (.slice (some ⟨go, 0, none⟩) t1.length c) (x.set i.toNat (wrap64 (2 - rd x i))) by rw [hw]; exact HP.1); have n1_ := Aside0.mk (show Below w.heap.size w w19 by rw [hw]; exact below_set HB.out GB.out); clear HP HO HB hw; have HO := n0_; have HB := n1_; clear n0_ n1_))
              go_roundg k1
              case measure => have := HK1.out; omega
              case rel => exact ⟨_, _, rfl, H', ⟨by have := HK1.out; omega⟩, ⟨by rw [List.length_set]; exact HL.out⟩, HO, HB⟩
            · rw [if_neg c5] at H
              cases H
          · rw [if_neg c4] at H
            rw [HL.out] at c4
            have c4b : decide (i < (t1.length : Int)) = false := decide_eq_false c4
            clear c4
            obtain ⟨t, ht, H⟩ := Option.bind_eq_some_iff.1 H
            simp only [Option.some.injEq, Prod.mk.injEq] at H
            obtain ⟨rfl, rfl⟩ := H
            have HT2 := Aside0.mk ht
            clear ht
            go_wp2_with (first | (go_at_call 35; refine (basketOf_n k1 t1.length A c x t _ HL.out.symm (Kd.R_reads' HO.out).2.2 (by have := (Kd.R_reads' HO.out).2.1; have := HL.out; omega) HT2.out).mono ?_; rintro e w2 ⟨v, rfl, ho, hb⟩; have HO2 := Aside0.mk (Kd.R_lower ho (below_size HB.out)); have HB2 := Aside0.mk (below_step HB.out hb); clear ho hb))
            go_ret2
            exact ⟨_, rfl, HO2.out, HB2.out⟩
#print axioms impl_BasketAfter.calls
end Go.Proofs.Ytbfapmckkmmnjaa.X
