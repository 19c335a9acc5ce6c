/- The program's FewestNeighbourSteps: its contract. -/
import Derived.Test.YtbmhelacjnlmaaaHDelete
import Derived.Test.YtbmhelacjnlmaaaHpartner
import Derived.Test.YtbmhelacjnlmaaaHClone
import Derived.Test.YtbmhelacjnlmaaaXimplIsRack
import Derived.Laws.IdiomCopy
import Derived.Lib.EndianMore
namespace Go.Proofs.Ytbmhelacjnlmaaa.X
open Go.RowKit Go.Proofs.YtbmhelacjnlmaaaW.PrintWords Go.Proofs.YtbmhelacjnlmaaaW.PrintLast Go.Proofs.YtbmhelacjnlmaaaW.PrintMore
set_option linter.unusedVariables false
set_option linter.unusedSimpArgs false

def impl_FewestNeighbourSteps.l0 : Nat → List Int → Int → Option (Int × Bool)
  | 0, _, _ => none
  | k + 1, x, s => if 0 < x.length then (impl_partner.f k x 0).bind fun p => (if 1 ≤ p ∧ p < (x.length : Int) then impl_FewestNeighbourSteps.l0 k ((x.take p.toNat ++ x.drop (p.toNat + 1)).drop 1) (wrap64 (s + wrap64 (p - 1))) else none) else some (s, true)
def impl_FewestNeighbourSteps.f (k : Nat) (l0 : List Int) : Option (Int × Bool) :=
  (impl_IsRack.f k l0).bind fun t => if t = true then (if 0 < l0.length then (slices_Clone_int_int.f l0).bind fun x => impl_FewestNeighbourSteps.l0 k x 0 else none) else some (0, false)
theorem impl_FewestNeighbourSteps.mono_l : ∀ k x s, LeO (impl_FewestNeighbourSteps.l0 k x s) (impl_FewestNeighbourSteps.l0 (k + 1) x s)
  | 0, _, _ => LeO.none _
  | k + 1, x, s => by
    unfold impl_FewestNeighbourSteps.l0
    exact LeO.ite (LeO.bind (impl_partner.mono _ _ _) (fun _ => LeO.ite (impl_FewestNeighbourSteps.mono_l k _ _) (LeO.refl _))) (LeO.refl _)
theorem impl_FewestNeighbourSteps.mono : ∀ a0 k, LeO (impl_FewestNeighbourSteps.f k a0) (impl_FewestNeighbourSteps.f (k + 1) a0) := by
  intro a0 k
  unfold impl_FewestNeighbourSteps.f
  exact LeO.bind (impl_IsRack.mono _ _) (fun _ => LeO.ite (LeO.ite (LeO.bind (LeO.refl _) (fun _ => impl_FewestNeighbourSteps.mono_l k _ _)) (LeO.refl _)) (LeO.refl _))

def OwnAt (W : World) (g off c : Nat) (x : List Int) : Prop := x.length ≤ c ∧ c ≤ 9223372036854775807 ∧ ∀ j, j < x.length → W.cell? ⟨g, off + j, none⟩ = some (.int .i64 (x.getD j 0)) ∧ W.frozen? ⟨g, off + j, none⟩ = false
theorem OwnAt.draw {W : World} {g off c : Nat} {x : List Int} (h : OwnAt W g off c x) (n : Nat) : OwnAt (W.drewN n) g off c x := h
theorem OwnAt.read {W : World} {g off c : Nat} {x : List Int} (h : OwnAt W g off c x) : Kd.C (Kd.int .i64) W (some ⟨g, off, none⟩) x.length x := by
  obtain ⟨h1, h2, h3⟩ := h
  refine ⟨rfl, by omega, fun _ => ⟨_, rfl, fun j p hp => ⟨[.int .i64 p], rfl, rfl, fun i u hu => ?_⟩⟩⟩
  have hj : j < x.length := (List.getElem?_eq_some_iff.1 hp).1
  have hi : i = 0 := by
    cases i with
    | zero => rfl
    | succ i => simp at hu
  subst hi
  simp at hu
  subst hu
  have := (h3 j hj).1
  rw [List.getD_eq_getElem?_getD, hp] at this
  have e : (⟨g, off, none⟩ : Addr).add (j * (Kd.int .i64).sz + 0) = ⟨g, off + j, none⟩ := by
    have hz : (Kd.int .i64).sz = 1 := rfl
    rw [hz, Nat.mul_one, Nat.add_zero]
    simp [Addr.add]
  rw [e]
  exact this
theorem OwnAt.tail {W : World} {g off c : Nat} {x : List Int} (h : OwnAt W g off c x) (hx : 0 < x.length) : OwnAt W g (off + 1) (c - 1) (x.drop 1) := by
  obtain ⟨h1, h2, h3⟩ := h
  refine ⟨by rw [List.length_drop]; omega, by omega, fun j hj => ?_⟩
  rw [List.length_drop] at hj
  have := h3 (1 + j) (by omega)
  rw [← Nat.add_assoc] at this
  rw [List.getD_eq_getElem?_getD, List.getElem?_drop, ← List.getD_eq_getElem?_getD]
  exact this
theorem OwnAt.of_R {W : World} {base : Nat} {v : Value} {x : List Int} (h : Kd.R (Kd.int .i64) 3 W base (fun _ => True) v x) (hx : 0 < x.length) : ∃ g c, v = .slice (some ⟨g, 0, none⟩) x.length c ∧ base ≤ g ∧ OwnAt W g 0 c x := by
  obtain ⟨g, c, e, hb, _⟩ := Kd.R_form h hx
  subst e
  obtain ⟨inner, ho⟩ := Kd.R_own h
  have hc : x.length ≤ c ∧ c ≤ 9223372036854775807 := by
    obtain ⟨_, h1 | ⟨g2, c2, cur, h1, _, _, h3, h4, _⟩⟩ := ho
    · cases h1.1
    · injection h1 with _ _ e3
      subst e3
      exact ⟨h3, h4⟩
  refine ⟨g, c, rfl, hb, hc.1, hc.2, fun j hj => ?_⟩
  have := Kd.R_celln 0 h (j : Int) (by omega) (by omega)
  rw [Int.toNat_natCast] at this
  rw [Nat.zero_add]
  exact this
theorem del_calls (g off c n1 q : Nat) (x : List Int) (j : Int) (W : World) (hn : x.length = n1 + 1) (hq : q < x.length) (hj : j = ((q + 1 : Nat) : Int)) (h : OwnAt W g off c x) :
    Calls Try.prog 32 #[.slice (some ⟨g, off, none⟩) x.length c, .int .i64 (q : Int), .int .i64 j] W fun e w' => e = .returned (.slice (some ⟨g, off, none⟩) n1 c) ∧ OwnAt w' g off c (x.take q ++ x.drop (q + 1)) ∧ ∀ B w0, B ≤ g → Below B w0 W → Below B w0 w' := by
  subst hj
  refine (Try.slices_Delete_int_cells g off x.length c q (q + 1) x W (Nat.le_refl _) h.1 h.2.1 (by omega) (by omega) (fun j hj => (h.2.2 j hj).1) (fun j hj => (h.2.2 j hj).2)).mono ?_
  rintro e w' ⟨rfl, m, rfl⟩
  rw [List.take_length]
  have hl : (x.take q ++ x.drop (q + 1)).length = n1 := by simp; omega
  refine ⟨by rw [show x.length - (q + 1 - q) = n1 by omega], ⟨by have := h.1; omega, h.2.1, fun j hj => ?_⟩, fun B w0 hB hb => ?_⟩
  · rw [hl] at hj
    have hcell := World.cell?_setCells_in g ((x.take q ++ x.drop (q + 1) ++ List.replicate (q + 1 - q) 0).map (Value.int .i64)) off (W.drewN m) (fun t ht => by
      have ht2 : t < x.length := by simp at ht; omega
      rw [show (W.drewN m).cell? ⟨g, off + t, none⟩ = W.cell? ⟨g, off + t, none⟩ from rfl, (h.2.2 t ht2).1]
      rfl) j (by simp; omega)
    refine ⟨?_, ?_⟩
    · rw [hcell]
      simp only [List.getElem_map]
      rw [List.getElem_append_left (by omega), List.getD_eq_getElem?_getD, List.getElem?_eq_getElem (by omega)]
      rfl
    · rw [World.frozen?_setCells]
      exact (h.2.2 j (by omega)).2
  · exact (pw_below_drewN hb m).trans (Go.Lib.below_setCells_w hB _ _ _)

set_option maxHeartbeats 2000000 in
set_option maxRecDepth 100000 in
theorem impl_FewestNeighbourSteps.calls (k : Nat) (A0 : Option Addr) (c0 : Nat) (l0 : List Int) (r1 : Int) (r2 : Bool) (w : World) (hr0 : Kd.C (Kd.int .i64) w A0 l0.length l0) (hc0 : l0.length ≤ c0) (h : impl_FewestNeighbourSteps.f k l0 = some (r1, r2)) :
    Calls Try.prog 19 #[.slice A0 l0.length c0] w fun e w' => e = .returned (.tuple #[.int .i64 r1, .bool r2]) ∧ Below w.heap.size w w' := by
  have HR0 := Aside0.mk hr0
  have HC0 := Aside0.mk hc0
  clear hr0 hc0
  unfold impl_FewestNeighbourSteps.f at h
  obtain ⟨t, ht, h⟩ := Option.bind_eq_some_iff.1 h
  have HT := Aside0.mk ht
  clear ht
  cases t with
  | false =>
    simp only [Bool.false_eq_true, if_false, Option.some.injEq, Prod.mk.injEq] at h
    obtain ⟨rfl, rfl⟩ := h
    go_enter Try.func19, Try.ntmps19
    go_wp2_with (first | (go_at_call 13; refine (impl_IsRack.calls k A0 c0 l0 false _ HR0.out HC0.out HT.out).mono ?_; rintro e w1 ⟨rfl, hb⟩))
    go_ret2
    exact ⟨rfl, hb⟩
  | true =>
    simp only [if_true] at h
    by_cases hl : 0 < l0.length
    · rw [if_pos hl] at h
      obtain ⟨x0, hx0, h⟩ := Option.bind_eq_some_iff.1 h
      obtain rfl : l0 = x0 := by
        unfold slices_Clone_int_int.f at hx0
        split at hx0
        · exact Option.some.inj hx0
        · cases hx0
      have HCL := Aside0.mk hx0
      have HLN := Aside0.mk hl
      clear hx0 hl
      have H' := Aside0.mk h
      clear h
      go_enter Try.func19, Try.ntmps19
      go_wp2_with (first | (go_at_call 13; refine (impl_IsRack.calls k A0 c0 l0 true _ HR0.out HC0.out HT.out).mono ?_; rintro e w1 ⟨rfl, hb⟩; have HB1 := Aside0.mk hb; clear hb) | (go_at_call 29; refine (slices_Clone_int_int.calls A0 c0 l0 l0 _ (Kd.C_below HR0.out HB1.out) HC0.out HCL.out).mono ?_; rintro e w2 ⟨v, rfl, ho, hb⟩; obtain ⟨g, c, rfl, hg, hown⟩ := OwnAt.of_R ho HLN.out; have HG := Aside0.mk (Nat.le_trans (below_size HB1.out) hg); have HO := Aside0.mk hown; have HB := Aside0.mk (HB1.out.trans (hb.mono HB1.out.size)); clear ho hb hown hg))
      go_loopg [4, 5] k (fun kq v4 v5 w' => ∃ (off c : Nat) (x : List Int) (s : Int), v4 = .slice (some ⟨g, off, none⟩) x.length c ∧ v5 = .int .i64 s ∧ Aside0 (impl_FewestNeighbourSteps.l0 kq x s = some (r1, r2)) ∧ Aside0 (kq ≤ k) ∧ Aside0 (OwnAt w' g off c x) ∧ Aside0 (Below w.heap.size w w'))
      case atStart => exact ⟨0, c, l0, 0, rfl, rfl, H', ⟨Nat.le_refl _⟩, HO, HB⟩
      case round =>
        clear H' HO HB HB1
        obtain ⟨off, c, x, s, rfl, rfl, HA, HK1, HO, HB⟩ := hrel
        cases gk with
        | zero => exact absurd HA.out (by simp [impl_FewestNeighbourSteps.l0])
        | succ k1 =>
          have H := HA.out
          clear HA
          simp only [impl_FewestNeighbourSteps.l0] at H
          by_cases hx : 0 < x.length
          · rw [if_pos hx] at H
            obtain ⟨p, hp, H⟩ := Option.bind_eq_some_iff.1 H
            by_cases hq : 1 ≤ p ∧ p < (x.length : Int)
            · rw [if_pos hq] at H
              obtain ⟨q, rfl⟩ := Int.eq_ofNat_of_zero_le (a := p) (by omega)
              rw [Int.toNat_natCast] at H
              have H' := Aside0.mk H
              have HP := Aside0.mk hp
              clear H hp
              obtain ⟨hq1, hq2⟩ := hq
              have hm : x.length ≤ 9223372036854775807 := Nat.le_trans HO.out.1 HO.out.2.1
              have hq3 : q < x.length := by omega
              have hxc : x.length ≤ c := HO.out.1
              obtain ⟨n1, hn1⟩ : ∃ n1, x.length = n1 + 1 := ⟨x.length - 1, by omega⟩
              have e1 : wrap64 ((q : Int) + 1) = ((q + 1 : Nat) : Int) := by unfold wrap64; omega
              have HE1 := Aside0.mk e1
              have HN1 := Aside0.mk hn1
              have HQ := Aside0.mk hq3
              have d1 : decide ((x.length : Int) > 0) = true := decide_eq_true (by omega)
              have d2 : decide (0 < (x.length : Int)) = true := decide_eq_true (by omega)
              have d3 : (0 < x.length) = True := eq_true hx
              have f1 : (1 ≤ n1) = True := eq_true (by omega)
              have f2 : ((1 : Int) ≤ (n1 : Int)) = True := eq_true (by omega)
              have f3 : (c = 1) = False := eq_false (by omega)
              have f4 : (n1 ≤ c) = True := eq_true (by omega)
              have f5 : (1 ≤ c) = True := eq_true (by omega)
              clear hm hxc hq1 hq2 hq3 hx hn1 e1
              go_wp2_with (first | (go_at_call 31; refine (impl_partner.calls k1 (some ⟨g, off, none⟩) c x 0 (q : Int) _ HO.out.read HO.out.1 HP.out).mono ?_; rintro e w3 ⟨rfl, ⟨nd, rfl⟩⟩) | (go_at_call 32; refine (del_calls g off c n1 q x _ _ HN1.out HQ.out HE1.out (HO.out.draw nd)).mono ?_; rintro e w4 ⟨rfl, ho, hb⟩; have HO4 := Aside0.mk ho; have HB4 := Aside0.mk hb; clear ho hb))
              have hlen : ((x.take q ++ x.drop (q + 1)).drop 1).length = n1 - 1 := by have := HN1.out; have := HQ.out; simp; omega
              have HLEN := Aside0.mk hlen
              clear hlen
              go_roundg k1
              case measure => have := HK1.out; omega
              case rel => exact ⟨off + 1, c - 1, _, _, by rw [HLEN.out], rfl, H', ⟨by have := HK1.out; omega⟩, ⟨HO4.out.tail (by have := HN1.out; have := HQ.out; have := of_eq_true f1; simp; omega)⟩, ⟨HB4.out w.heap.size w HG.out (pw_below_drewN HB.out nd)⟩⟩
            · rw [if_neg hq] at H
              cases H
          · rw [if_neg hx] at H
            simp only [Option.some.injEq, Prod.mk.injEq] at H
            obtain ⟨rfl, rfl⟩ := H
            have d1 : decide ((x.length : Int) > 0) = false := decide_eq_false (by omega)
            have d2 : decide (0 < (x.length : Int)) = false := decide_eq_false (by omega)
            have d3 : (0 < x.length) = False := eq_false hx
            go_wp2
            go_ret2
            exact ⟨rfl, HB.out⟩
    · rw [if_neg hl] at h
      cases h
#print axioms impl_FewestNeighbourSteps.calls
end Go.Proofs.Ytbmhelacjnlmaaa.X
