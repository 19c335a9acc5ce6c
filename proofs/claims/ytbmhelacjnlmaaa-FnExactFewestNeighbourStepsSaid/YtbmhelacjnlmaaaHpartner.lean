/- The program's partner: its contract. -/
import Derived.Test.YtbmhelacjnlmaaaX0
import Derived.Test.YtbmhelacjnlmaaaXslicesIndexintint
import Derived.Lib.Hide
import Derived.Deep.Slices
namespace Go.Proofs.Ytbmhelacjnlmaaa.X
open Go.RowKit Go.Proofs.YtbmhelacjnlmaaaW.PrintWords Go.Proofs.YtbmhelacjnlmaaaW.PrintLast Go.Proofs.YtbmhelacjnlmaaaW.PrintMore

def impl_partner.f (k : Nat) (l0 : List Int) (a1 : Int) : Option (Int) :=
  if 0 ≤ a1 ∧ a1 + 1 < (l0.length : Int) then (slices_Index_int_int.f k (l0.drop (a1 + 1).toNat) (rd l0 a1)).bind fun t => some (wrap64 (a1 + 1 + t)) else none
theorem impl_partner.mono : ∀ a0 a1 k, LeO (impl_partner.f k a0 a1) (impl_partner.f (k + 1) a0 a1) := by
  intro a0 a1 k
  unfold impl_partner.f
  exact LeO.ite (LeO.bind (slices_Index_int_int.mono _ _ _) (fun _ => LeO.refl _)) (LeO.refl _)
set_option maxHeartbeats 8000000 in
set_option maxRecDepth 100000 in
theorem impl_partner.calls (k : Nat) (A0 : Option Addr) (c0 : Nat) (l0 : List Int) (a1 : Int) (r : Int) (w : World) (hr0 : Kd.C (Kd.int .i64) w A0 l0.length l0) (hc0 : l0.length ≤ c0) (h : impl_partner.f k l0 a1 = some r) :
    Calls Try.prog 31 #[.slice A0 l0.length c0, .int .i64 a1] w fun e w' => e = .returned (.int .i64 r) ∧ Drawn0 w w' := by
  unfold impl_partner.f at h
  have hm : l0.length ≤ 9223372036854775807 := hr0.2.1
  by_cases hq : 0 ≤ a1 ∧ a1 + 1 < (l0.length : Int)
  · rw [if_pos hq] at h
    obtain ⟨h0, h1⟩ := hq
    obtain ⟨q, rfl⟩ := Int.eq_ofNat_of_zero_le h0
    obtain ⟨t, ht, h⟩ := Option.bind_eq_some_iff.1 h
    obtain rfl : wrap64 ((q : Int) + 1 + t) = r := by simpa using h
    clear h
    rw [show ((q : Int) + 1).toNat = q + 1 from by omega] at ht
    obtain ⟨ad, e1, hx⟩ := Kd.at_int hr0 (q : Int) h0 (by omega)
    cases e1
    rw [Int.toNat_natCast] at hx
    have hlq : q + 1 < l0.length := by omega
    have hqc : q + 1 < c0 := by omega
    have hql : q < l0.length := by omega
    have hdl : (l0.drop (q + 1)).length = l0.length - (q + 1) := List.length_drop
    have hrd : Kd.C (Kd.int .i64) w (some (ad.add (q + 1))) (l0.drop (q + 1)).length (l0.drop (q + 1)) := by
      refine ⟨rfl, by omega, fun _ => ⟨ad.add (q + 1), rfl, fun j p hp => ?_⟩⟩
      obtain ⟨ad2, e2, hh⟩ := hr0.2.2 (by omega)
      cases e2
      obtain ⟨c, hc1, hc2, hc3⟩ := hh (q + 1 + j) p (by rw [← List.getElem?_drop]; exact hp)
      refine ⟨c, hc1, hc2, fun i u hu => ?_⟩
      have h3 := hc3 i u hu
      have e3 : (ad.add (q + 1)).add (j * (Kd.int .i64).sz + i) = ad.add ((q + 1 + j) * (Kd.int .i64).sz + i) := by
        have hz : (Kd.int .i64).sz = 1 := rfl
        rw [hz, Nat.mul_one, Nat.mul_one]
        rw [Go.Deep.add_add]
        congr 1
        omega
      rw [e3]
      exact h3
    have HRD := Aside0.mk hrd
    have HT := Aside0.mk ht
    have HDL := Lib.hid hdl
    clear hrd ht hdl hr0 h1
    have hcl : ∀ W n, W = w.drewN n → Calls Try.prog 39 #[.slice (some (ad.add (q + 1))) (l0.length - (q + 1)) (c0 - (q + 1)), .int .i64 (rd l0 (q : Int))] W fun e w' => e = .returned (.int .i64 t) ∧ ∃ m, w' = W.drewN m := by
      rintro W n rfl
      have := slices_Index_int_int.calls k (some (ad.add (q + 1))) (c0 - (q + 1)) (l0.drop (q + 1)) (rd l0 (q : Int)) t (w.drewN n) (Kd.C_below HRD.out (pw_below_drewN (Below.refl _ _) n)) (by rw [HDL.out]; omega) HT.out
      rw [HDL.out] at this
      exact this.mono fun e w' ⟨he, hd⟩ => ⟨he, hd.out⟩
    have HCL := Lib.hid hcl
    clear hcl
    go_enter Try.func31, Try.ntmps31
    go_wp2
    go_quiet ((go_at_call 39; exact Calls.quiet_of (HCL.out _ _ rfl)))
    go_wp2
    go_ret
    exact ⟨rfl, by repeat (first | exact Drawn0.refl _ | apply Drawn0.step)⟩
  · rw [if_neg hq] at h
    cases h

#print axioms impl_partner.calls
end Go.Proofs.Ytbmhelacjnlmaaa.X
