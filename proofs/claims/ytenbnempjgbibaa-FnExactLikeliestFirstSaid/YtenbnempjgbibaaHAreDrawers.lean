/- The program's AreDrawers says whether a list are drawers: its contract, over walks of slices.ContainsFunc and slices.IndexFunc. No conditions. -/
import Derived.Test.YtenbnempjgbibaaX0
import Derived.Test.YtenbnempjgbibaaXimplwithin
import Derived.Test.YtenbnempjgbibaaXimplweights
import Derived.Lib.Hide
namespace Go.Proofs.Ytenbnempjgbibaa.X
open Go.RowKit Go.Proofs.YtenbnempjgbibaaW.PrintWords Go.Proofs.YtenbnempjgbibaaW.PrintLast Go.Proofs.YtenbnempjgbibaaW.PrintMore

def inB (lo hi x : Int) : Bool := decide (lo ≤ x) && decide (x ≤ hi)
theorem within_inB (x lo hi : Int) : impl_within.f x lo hi = some (inB lo hi x) := by
  unfold impl_within.f inB
  by_cases h : lo ≤ x <;> simp [h]
def goodD (x : S47) : Bool := inB 0 50 x.f0 && inB 1 60 x.f1

def sumW (l : List S47) : Int := l.foldr (fun x s => x.f0 + s) 0
def okW (l : List S47) : Prop := ∀ x ∈ l, 0 ≤ x.f0 ∧ x.f0 ≤ 50

theorem drop_rd {l : List S47} {i : Nat} (h : i < l.length) : l.drop i = rd_T47 l (i : Int) :: l.drop (i + 1) := by
  rw [List.drop_eq_getElem_cons h]
  simp [rd_T47, List.getD_eq_getElem?_getD, h]
theorem rd_mem {l : List S47} {i : Nat} (h : i < l.length) : rd_T47 l (i : Int) ∈ l := by
  have : rd_T47 l (i : Int) = l[i] := by simp [rd_T47, List.getD_eq_getElem?_getD, h]
  rw [this]
  exact List.getElem_mem h
theorem weights_loop (l : List S47) (hn : l.length ≤ 1048576) (ho : okW l) (d : Nat) : ∀ (k i : Nat) (acc : Int), i + d = l.length → 0 ≤ acc → acc ≤ 50 * (i : Int) → d < k →
    impl_weights.l0 k acc l (l.length : Int) (i : Int) = some (acc + sumW (l.drop i)) := by
  induction d with
  | zero =>
    intro k i acc hi h0 h1 hk
    obtain ⟨k, rfl⟩ : ∃ m, k = m + 1 := ⟨k - 1, by omega⟩
    simp only [impl_weights.l0]
    rw [if_neg (by omega), List.drop_of_length_le (by omega)]
    simp [sumW]
  | succ d ih =>
    intro k i acc hi h0 h1 hk
    obtain ⟨k, rfl⟩ : ∃ m, k = m + 1 := ⟨k - 1, by omega⟩
    have hlt : i < l.length := by omega
    have hb := ho _ (rd_mem hlt)
    simp only [impl_weights.l0]
    rw [if_pos (by omega), if_pos (by omega), if_pos (by omega), drop_rd hlt]
    rw [show wrap64 (acc + (rd_T47 l (i : Int)).f0) = acc + (rd_T47 l (i : Int)).f0 from by unfold wrap64; omega, show wrap64 ((i : Int) + 1) = ((i + 1 : Nat) : Int) from by unfold wrap64; omega]
    rw [ih k (i + 1) _ (by omega) (by omega) (by omega) (by omega)]
    simp only [sumW, List.foldr_cons, Int.add_assoc]
theorem weights_is (l : List S47) (hn : l.length ≤ 1048576) (ho : okW l) : impl_weights.f (l.length + 1) l = some (sumW l) := by
  have := weights_loop l hn ho l.length (l.length + 1) 0 0 (by omega) (by omega) (by omega) (by omega)
  simpa [impl_weights.f] using this

def areDr (l : List S47) : Bool := inB 1 8 (l.length : Int) && (l.all goodD && decide (0 < sumW l))
def impl_AreDrawers.f (l0 : List (S47)) : Option (Bool) := some (areDr l0)

theorem okW_of {l : List S47} (h : l.all goodD = true) : okW l := by
  intro x hx
  have := List.all_eq_true.1 h x hx
  simp [goodD, inB] at this
  omega

set_option maxHeartbeats 1000000 in
theorem drawers_clo (a b : Int) (w : World) :
    Calls Try.prog 54 #[.agg #[.int .i64 a, .int .i64 b]] w fun e w' => e = .returned (.bool (!(inB 0 50 a && inB 1 60 b))) ∧ Below w.heap.size w w' := by
  have hcall := fun x lo hi W => impl_within.calls x lo hi (inB lo hi x) W (within_inB x lo hi)
  have H := Lib.hid hcall
  clear hcall
  cases hq : inB 0 50 a with
  | true =>
    go_enter Try.func54, Try.ntmps54
    go_wp2_with (go_at_call 49; refine (H.out _ _ _ _).mono ?_; rintro e w' ⟨rfl, ⟨n, rfl⟩⟩)
    go_ret
    exact ⟨by simp, by repeat (first | exact Below.refl _ _ | apply below_alloc | apply pw_below_drewN | apply below_drew1)⟩
  | false =>
    go_enter Try.func54, Try.ntmps54
    go_wp2_with (go_at_call 49; refine (H.out _ _ _ _).mono ?_; rintro e w' ⟨rfl, ⟨n, rfl⟩⟩)
    go_ret
    exact ⟨by simp, by repeat (first | exact Below.refl _ _ | apply below_alloc | apply pw_below_drewN | apply below_drew1)⟩

def FirstBad (l : List S47) (w : World) (e : Ending) (w' : World) : Prop := ∃ i : Int, e = .returned (.int .i64 i) ∧ decide (0 ≤ i) = !(l.all goodD) ∧ Below w.heap.size w w'

theorem all_pre (l : List S47) (h : ∀ j, j < l.length → goodD (rd_T47 l (j : Nat)) = true) : l.all goodD = true := by
  rw [List.all_eq_true]
  intro x hx
  obtain ⟨j, hj, rfl⟩ := List.getElem_of_mem hx
  have := h j hj
  simpa [rd_T47, List.getD_eq_getElem?_getD, hj] using this
theorem all_bad (l : List S47) (j : Nat) (hj : j < l.length) (h : goodD (rd_T47 l (j : Nat)) = false) : l.all goodD = false := by
  rw [List.all_eq_false]
  refine ⟨l[j], List.getElem_mem hj, ?_⟩
  simpa [rd_T47, List.getD_eq_getElem?_getD, hj] using h

set_option maxHeartbeats 4000000 in
set_option maxRecDepth 100000 in
theorem drawers_idx (A : Option Addr) (c : Nat) (l : List S47) (w : World) (hr : Kd.C k47 w A l.length l) :
    Calls Try.prog 62 #[.slice A l.length c, .func (.func 54) #[] #[]] w (FirstBad l w) := by
  have hm : l.length ≤ 9223372036854775807 := hr.2.1
  have HR := Aside0.mk hr
  clear hr
  go_enter Try.func62, Try.ntmps62
  go_wp2
  go_loopg [5, 8] l.length (fun gg _ s8 wr => ∃ kk : Nat, kk ≤ l.length ∧ l.length - kk ≤ gg ∧ s8 = .int .i64 kk ∧ Aside0 (Below w.heap.size w wr) ∧ Aside0 (∀ j, j < kk → goodD (rd_T47 l (j : Nat)) = true))
  case atStart => exact ⟨0, Nat.zero_le _, by omega, rfl, ⟨Below.refl _ w⟩, ⟨fun j hj => absurd hj (Nat.not_lt_zero _)⟩⟩
  case round =>
    obtain ⟨kk, hkk, hg, rfl, BW, A1⟩ := hrel
    by_cases hlt : kk < l.length
    · have hltz : (kk : Int) < (l.length : Int) := by omega
      obtain ⟨ad, e1, hx, hy⟩ := at_T47 HR.out (kk : Int) (by omega) hltz
      cases e1
      replace hx := (BW.out.cell (World.block_lt_of_cell? w _ hx)).trans hx
      replace hy := (BW.out.cell (World.block_lt_of_cell? w _ hy)).trans hy
      rw [Int.toNat_natCast] at hx hy
      have hcall := drawers_clo (rd_T47 l (kk : Nat)).f0 (rd_T47 l (kk : Nat)).f1 wr
      cases hq : goodD (rd_T47 l (kk : Nat)) with
      | true =>
        rw [show (inB 0 50 (rd_T47 l (kk : Nat)).f0 && inB 1 60 (rd_T47 l (kk : Nat)).f1) = true from hq] at hcall
        have H := Lib.hid hcall
        have Hq := Lib.hid hq
        clear hcall hq
        go_wp2_with (go_at_call 54; refine H.out.mono ?_; rintro e w' ⟨rfl, hd⟩)
        go_roundg (l.length - (kk + 1))
        case measure => omega
        case rel =>
          refine ⟨kk + 1, by omega, by omega, by go_num, ⟨BW.out.trans (hd.mono BW.out.size)⟩, ⟨fun j hj => ?_⟩⟩
          by_cases e : j = kk
          · subst e
            exact Hq.out
          · exact A1.out j (by omega)
      | false =>
        rw [show (inB 0 50 (rd_T47 l (kk : Nat)).f0 && inB 1 60 (rd_T47 l (kk : Nat)).f1) = false from hq] at hcall
        have H := Lib.hid hcall
        have Hq := Lib.hid hq
        clear hcall hq
        go_wp2_with (go_at_call 54; refine H.out.mono ?_; rintro e w' ⟨rfl, hd⟩)
        go_ret
        refine ⟨(kk : Int), rfl, ?_, BW.out.trans (hd.mono BW.out.size)⟩
        rw [all_bad l kk hlt Hq.out]
        simp
    · have hltz : ¬ (kk : Int) < (l.length : Int) := by omega
      have e0 : kk = l.length := by omega
      go_wp2
      go_ret
      refine ⟨-1, rfl, ?_, BW.out⟩
      rw [all_pre l (fun j hj => A1.out j (by omega))]
      rfl

set_option maxHeartbeats 1000000 in
theorem drawers_contains (A : Option Addr) (c : Nat) (l : List S47) (w : World) (hr : Kd.C k47 w A l.length l) :
    Calls Try.prog 53 #[.slice A l.length c, .func (.func 54) #[] #[]] w fun e w' => e = .returned (.bool (!(l.all goodD))) ∧ Below w.heap.size w w' := by
  have hcall := drawers_idx A c l w hr
  have H := Lib.hid hcall
  clear hcall hr
  go_enter Try.func53, Try.ntmps53
  go_wp2_with (go_at_call 62; refine H.out.mono ?_; rintro e w' ⟨i, rfl, hi, hb⟩; have Hi := Lib.hid hi; clear hi)
  go_ret
  exact ⟨by rw [Hi.out]; rfl, hb⟩

set_option maxHeartbeats 8000000 in
set_option maxRecDepth 100000 in
theorem impl_AreDrawers.calls (A0 : Option Addr) (c0 : Nat) (l0 : List (S47)) (r : Bool) (w : World) (hr0 : Kd.C k47 w A0 l0.length l0) (hc0 : l0.length ≤ c0) (h : impl_AreDrawers.f l0 = some r) :
    Calls Try.prog 40 #[.slice A0 l0.length c0] w fun e w' => e = .returned (.bool r) ∧ Below w.heap.size w w' := by
  obtain rfl : areDr l0 = r := by simpa [impl_AreDrawers.f] using h
  have HR := Aside0.mk hr0
  have HC := Aside0.mk hc0
  have hw := fun x lo hi W => impl_within.calls x lo hi (inB lo hi x) W (within_inB x lo hi)
  have H1 := Lib.hid hw
  clear h hr0 hw hc0
  cases hq : inB 1 8 (l0.length : Int) with
  | false =>
    have e : areDr l0 = false := by unfold areDr; rw [hq]; rfl
    have E := Lib.hid e
    clear e
    go_enter Try.func40, Try.ntmps40
    go_wp2_with (first | (go_at_call 49; refine (H1.out _ _ _ _).mono ?_; rintro e w' ⟨rfl, ⟨n, rfl⟩⟩))
    go_ret
    exact ⟨by rw [E.out]; rfl, by repeat (first | exact Below.refl _ _ | apply below_alloc | apply pw_below_drewN | apply below_drew1)⟩
  | true =>
    cases hg : l0.all goodD with
    | false =>
      have e : areDr l0 = false := by unfold areDr; rw [hq, hg]; rfl
      have E := Lib.hid e
      have G := Lib.hid hg
      clear e hg
      go_enter Try.func40, Try.ntmps40
      go_wp2_with (first | (go_at_call 49; refine (H1.out _ _ _ _).mono ?_; rintro e w' ⟨rfl, ⟨n, rfl⟩⟩) | (go_at_call 53; refine (drawers_contains A0 c0 l0 _ (Kd.C_below HR.out (pw_below_drewN (Below.refl _ _) _))).mono ?_; rintro e w1 ⟨rfl, hb0⟩; have hb := (pw_below_drewN (Below.refl w.heap.size w) n).trans hb0; rw [G.out]))
      go_ret
      exact ⟨by rw [E.out]; rfl, hb⟩
    | true =>
      have hl : l0.length ≤ 8 := by simp [inB] at hq; omega
      have hws := weights_is l0 (by omega) (okW_of hg)
      have e : areDr l0 = decide (0 < sumW l0) := by unfold areDr; rw [hq, hg]; rfl
      have E := Lib.hid e
      have G := Lib.hid hg
      have WS := Lib.hid hws
      clear e hg hws hl
      go_enter Try.func40, Try.ntmps40
      go_wp2_with (first | (go_at_call 49; refine (H1.out _ _ _ _).mono ?_; rintro e w' ⟨rfl, ⟨n, rfl⟩⟩) | (go_at_call 53; refine (drawers_contains A0 c0 l0 _ (Kd.C_below HR.out (pw_below_drewN (Below.refl _ _) _))).mono ?_; rintro e w1 ⟨rfl, hb0⟩; have hb := (pw_below_drewN (Below.refl w.heap.size w) n).trans hb0; rw [G.out]) | (go_at_call 37; refine (impl_weights.calls (l0.length + 1) A0 c0 l0 (sumW l0) _ (Kd.C_below HR.out hb) HC.out WS.out).mono ?_; rintro e w2 ⟨rfl, hb2⟩))
      go_ret
      exact ⟨by rw [E.out]; rfl, hb.trans (hb2.mono hb.size)⟩

#print axioms impl_AreDrawers.calls
end Go.Proofs.Ytenbnempjgbibaa.X
