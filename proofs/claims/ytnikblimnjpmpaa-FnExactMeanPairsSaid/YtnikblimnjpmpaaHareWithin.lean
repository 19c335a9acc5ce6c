/- The program's areWithin says whether all numbers of a list lie within bounds: its contract, over walks of slices.ContainsFunc and slices.IndexFunc. No conditions. -/
import Derived.Test.YtnikblimnjpmpaaX0
import Derived.Test.YtnikblimnjpmpaaXimplwithin
import Derived.Lib.SlBy
import Derived.Lib.Hide
namespace Go.Proofs.Ytnikblimnjpmpaa.X
open Go.RowKit Go.Proofs.YtnikblimnjpmpaaW.PrintWords Go.Proofs.YtnikblimnjpmpaaW.PrintLast Go.Proofs.YtnikblimnjpmpaaW.PrintMore

def inB (lo hi x : Int) : Bool := decide (lo ≤ x) && decide (x ≤ hi)
theorem within_inB (x lo hi : Int) : impl_within.f x lo hi = some (inB lo hi x) := by
  unfold impl_within.f inB
  by_cases h : lo ≤ x <;> simp [h]
def impl_areWithin.f (l0 : List Int) (a1 : Int) (a2 : Int) : Option (Bool) := some (l0.all (inB a1 a2))

set_option maxHeartbeats 1000000 in
theorem areWithin_clo (x : Int) (B C : Nat) (lo hi : Int) (w : World) (hB : w.cell? ⟨B, 0, none⟩ = some (.int .i64 lo)) (hC : w.cell? ⟨C, 0, none⟩ = some (.int .i64 hi)) :
    Calls Try.prog 75 #[.int .i64 x, .pointer (some ⟨B, 0, none⟩), .pointer (some ⟨C, 0, none⟩)] w fun e w' => e = .returned (.bool (!(inB lo hi x))) ∧ Drawn0 w w' := by
  have hcall := fun W => impl_within.calls x lo hi (inB lo hi x) W (within_inB x lo hi)
  have H := Lib.hid hcall
  clear hcall
  go_enter Try.func75, Try.ntmps75
  go_wp2_with (go_at_call 51; refine (H.out _).mono ?_; rintro e w' ⟨rfl, ⟨n, rfl⟩⟩)
  go_ret
  exact ⟨rfl, by repeat (first | exact Drawn0.refl _ | apply Drawn0.step)⟩

def FirstBad (lo hi : Int) (l : List Int) (w : World) (e : Ending) (w' : World) : Prop := ∃ i : Int, e = .returned (.int .i64 i) ∧ decide (0 ≤ i) = !(l.all (inB lo hi)) ∧ Below w.heap.size w w'

theorem all_pre (lo hi : Int) (l : List Int) (h : ∀ j, j < l.length → inB lo hi (rd l (j : Nat)) = true) : l.all (inB lo hi) = true := by
  rw [List.all_eq_true]
  intro x hx
  obtain ⟨j, hj, rfl⟩ := List.getElem_of_mem hx
  have := h j hj
  simpa [rd, List.getD_eq_getElem?_getD, hj] using this
theorem all_bad (lo hi : Int) (l : List Int) (j : Nat) (hj : j < l.length) (h : inB lo hi (rd l (j : Nat)) = false) : l.all (inB lo hi) = false := by
  rw [List.all_eq_false]
  refine ⟨l[j], List.getElem_mem hj, ?_⟩
  simpa [rd, List.getD_eq_getElem?_getD, hj] using h

set_option maxHeartbeats 4000000 in
set_option maxRecDepth 100000 in
theorem areWithin_idx (A : Option Addr) (c : Nat) (l : List Int) (B C : Nat) (lo hi : Int) (w : World) (hr : Kd.C (Kd.int .i64) w A l.length l) (hB : w.cell? ⟨B, 0, none⟩ = some (.int .i64 lo)) (hC : w.cell? ⟨C, 0, none⟩ = some (.int .i64 hi)) :
    Calls Try.prog 76 #[.slice A l.length c, .func (.func 75) #[] #[.pointer (some ⟨B, 0, none⟩), .pointer (some ⟨C, 0, none⟩)]] w (FirstBad lo hi l w) := by
  have hm : l.length ≤ 9223372036854775807 := hr.2.1
  have HR := Aside0.mk hr
  have HBc := Aside0.mk hB
  have HCc := Aside0.mk hC
  clear hr hB hC
  go_enter Try.func76, Try.ntmps76
  go_wp2
  go_loopg [5, 8] l.length (fun gg _ s8 wr => ∃ kk : Nat, kk ≤ l.length ∧ l.length - kk ≤ gg ∧ s8 = .int .i64 kk ∧ Aside0 (Below w.heap.size w wr) ∧ Aside0 (∀ j, j < kk → inB lo hi (rd l (j : Nat)) = true))
  case atStart => exact ⟨0, Nat.zero_le _, by omega, rfl, ⟨Below.refl _ w⟩, ⟨fun j hj => absurd hj (Nat.not_lt_zero _)⟩⟩
  case round =>
    obtain ⟨kk, hkk, hg, rfl, BW, A1⟩ := hrel
    by_cases hlt : kk < l.length
    · have hltz : (kk : Int) < (l.length : Int) := by omega
      obtain ⟨ad, e1, hx⟩ := Kd.at_int HR.out (kk : Int) (by omega) hltz
      cases e1
      replace hx := (BW.out.cell (World.block_lt_of_cell? w _ hx)).trans hx
      rw [Int.toNat_natCast] at hx
      have hcall := areWithin_clo (rd l (kk : Nat)) B C lo hi wr ((BW.out.cell (World.block_lt_of_cell? w _ HBc.out)).trans HBc.out) ((BW.out.cell (World.block_lt_of_cell? w _ HCc.out)).trans HCc.out)
      cases hq : inB lo hi (rd l (kk : Nat)) with
      | true =>
        rw [hq] at hcall
        have H := Lib.hid hcall
        have Hq := Lib.hid hq
        clear hcall hq
        go_wp2_with (go_at_call 75; refine H.out.mono ?_; rintro e w' ⟨rfl, hd⟩)
        go_roundg (l.length - (kk + 1))
        case measure => omega
        case rel =>
          refine ⟨kk + 1, by omega, by omega, by go_num, ⟨BW.out.trans (hd.below.mono BW.out.size)⟩, ⟨fun j hj => ?_⟩⟩
          by_cases e : j = kk
          · subst e
            exact Hq.out
          · exact A1.out j (by omega)
      | false =>
        rw [hq] at hcall
        have H := Lib.hid hcall
        have Hq := Lib.hid hq
        clear hcall hq
        go_wp2_with (go_at_call 75; refine H.out.mono ?_; rintro e w' ⟨rfl, hd⟩)
        go_ret
        refine ⟨(kk : Int), rfl, ?_, BW.out.trans (hd.below.mono BW.out.size)⟩
        rw [all_bad lo hi l kk hlt Hq.out]
        simp
    · have hltz : ¬ (kk : Int) < (l.length : Int) := by omega
      have e0 : kk = l.length := by omega
      go_wp2
      go_ret
      refine ⟨-1, rfl, ?_, BW.out⟩
      rw [all_pre lo hi l (fun j hj => A1.out j (by omega))]
      rfl

set_option maxHeartbeats 1000000 in
theorem areWithin_contains (A : Option Addr) (c : Nat) (l : List Int) (B C : Nat) (lo hi : Int) (w : World) (hr : Kd.C (Kd.int .i64) w A l.length l) (hB : w.cell? ⟨B, 0, none⟩ = some (.int .i64 lo)) (hC : w.cell? ⟨C, 0, none⟩ = some (.int .i64 hi)) :
    Calls Try.prog 74 #[.slice A l.length c, .func (.func 75) #[] #[.pointer (some ⟨B, 0, none⟩), .pointer (some ⟨C, 0, none⟩)]] w fun e w' => e = .returned (.bool (!(l.all (inB lo hi)))) ∧ Below w.heap.size w w' := by
  have hcall := areWithin_idx A c l B C lo hi w hr hB hC
  have H := Lib.hid hcall
  clear hcall hr hB hC
  go_enter Try.func74, Try.ntmps74
  go_wp2_with (go_at_call 76; refine H.out.mono ?_; rintro e w' ⟨i, rfl, hi, hb⟩; have Hi := Lib.hid hi; clear hi)
  go_ret
  exact ⟨by rw [Hi.out]; rfl, hb⟩

set_option maxHeartbeats 8000000 in
set_option maxRecDepth 100000 in
theorem impl_areWithin.calls (A0 : Option Addr) (c0 : Nat) (l0 : List Int) (a1 : Int) (a2 : Int) (r : Bool) (w : World) (hr0 : Kd.C (Kd.int .i64) w A0 l0.length l0) (_hc0 : l0.length ≤ c0) (h : impl_areWithin.f l0 a1 a2 = some r) :
    Calls Try.prog 71 #[.slice A0 l0.length c0, .int .i64 a1, .int .i64 a2] w fun e w' => e = .returned (.bool r) ∧ Below w.heap.size w w' := by
  obtain rfl : l0.all (inB a1 a2) = r := by simpa [impl_areWithin.f] using h
  have HR := Aside0.mk hr0
  clear h hr0
  go_enter Try.func71, Try.ntmps71
  go_wp2_with (go_at_call 74; refine (areWithin_contains A0 c0 l0 _ _ a1 a2 _ (Kd.C_below HR.out (by exact ((Below.refl _ _).alloc (Nat.le_refl _) _).alloc (by simp) _)) (by simp) (by simp)).mono ?_; rintro e w' ⟨rfl, hb⟩)
  go_ret
  exact ⟨by simp, (((Below.refl _ _).alloc (Nat.le_refl _) _).alloc (by simp) _).trans (hb.mono (by simp; omega))⟩

#print axioms impl_areWithin.calls
end Go.Proofs.Ytnikblimnjpmpaa.X
