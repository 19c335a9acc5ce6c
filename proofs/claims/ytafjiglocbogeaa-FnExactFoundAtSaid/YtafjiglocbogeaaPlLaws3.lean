/- Plain laws, no program in sight: FoundAt of both. -/
import Derived.Test.YtafjiglocbogeaaMB
import Derived.Test.YtafjiglocbogeaaHFoundAt
import Derived.Test.YtafjiglocbogeaaXspecFoundAt
namespace Go.Proofs.Ytafjiglocbogeaa.X
open Go.RowKit Go.Proofs.YtafjiglocbogeaaW.PrintWords Go.Proofs.YtafjiglocbogeaaW.PrintLast Go.Proofs.YtafjiglocbogeaaW.PrintMore

theorem index_loop (l : List Int) (a : Int) (hn : l.length ≤ 1048576) (d : Nat) : ∀ (i : Nat), i + d = l.length → a ∈ l.drop i →
    ∃ p : Nat, p < l.length ∧ rd l (p : Int) = a ∧ Ev (fun k => slices_Index_int_int.l0 k l a (l.length : Int) (i : Int)) (p : Int) := by
  induction d with
  | zero =>
    intro i hi hm
    rw [List.drop_of_length_le (by omega)] at hm
    cases hm
  | succ d ih =>
    intro i hi hm
    have hlt : i < l.length := by omega
    by_cases e : a = rd l (i : Int)
    · refine ⟨i, hlt, e.symm, Ev.step (f := fun _ => some (i : Int)) (fun k => ?_) (Ev.now _)⟩
      simp only [slices_Index_int_int.l0]
      rw [if_pos (by omega), if_pos (by omega), if_pos (by omega), if_pos e]
    · rw [drop_get hlt, List.mem_cons] at hm
      obtain ⟨p, h1, h2, h3⟩ := ih (i + 1) (by omega) (hm.resolve_left e)
      refine ⟨p, h1, h2, Ev.step (fun k => ?_) h3⟩
      simp only [slices_Index_int_int.l0]
      rw [if_pos (by omega), if_pos (by omega), if_pos (by omega), if_neg e, w64s hlt (by omega)]
theorem fnd_other (D : List S50) : ∀ (l : List Int) (m : Int) (F : List Int) (a : Nat), (∀ x ∈ l, 0 ≤ x) → ¬ (a : Int) ∈ l → rd (fnd D l m F) (a : Int) = rd F (a : Int) := by
  intro l
  induction l with
  | nil => intros; rfl
  | cons i r ih =>
    intro m F a h0 hm
    rw [List.mem_cons, not_or] at hm
    obtain ⟨q, rfl⟩ := Int.eq_ofNat_of_zero_le (h0 i List.mem_cons_self)
    simp only [fnd]
    rw [ih _ _ a (fun x hx => h0 x (List.mem_cons_of_mem _ hx)) hm.2, Int.toNat_natCast, rd_set_ne (by omega)]
theorem fnd_at {D : List S50} (hd : areDr D = true) : ∀ (l : List Int) (p : Nat) (m : Int) (F : List Int) (a q : Nat), l.Nodup → (∀ x ∈ l, 0 ≤ x ∧ x < (D.length : Int)) → F.length = D.length → p < l.length → rd l (p : Int) = (a : Int) →
    q + l.length ≤ 8 → 0 ≤ m → m ≤ 60 * (q : Int) → rd (fnd D l m F) (a : Int) = minSum D (l.take (p + 1)) m := by
  intro l
  induction l with
  | nil => intro p _ _ _ _ _ _ _ h; simp at h
  | cons i r ih =>
    intro p m F a q hn hin hF hp ha hq h0 h1
    have hi := hin i List.mem_cons_self
    obtain ⟨b0, b1, b2, b3⟩ := rd_bd hd hi.1 hi.2
    simp only [List.length_cons] at hq hp
    have hw : wrap64 (m + (rd_T50 D i).f1) = m + (rd_T50 D i).f1 := w64 (by omega) (by omega)
    rw [List.nodup_cons] at hn
    cases p with
    | zero =>
      have e : i = (a : Int) := by simpa [rd] using ha
      subst e
      simp only [fnd, minSum, List.take_succ_cons, List.take_zero, Int.toNat_natCast]
      rw [fnd_other D r _ _ a (fun x hx => (hin x (List.mem_cons_of_mem _ hx)).1) hn.1, rd_set_self (by omega), hw]
    | succ p =>
      have ha' : rd r (p : Int) = (a : Int) := by
        rw [rd_get (by simp; omega)] at ha
        rw [rd_get (by omega)]
        simpa using ha
      simp only [fnd, minSum, List.take_succ_cons]
      rw [hw]
      exact ih p _ _ a (q + 1) hn.2 (fun x hx => hin x (List.mem_cons_of_mem _ hx)) (by simpa using hF) (by omega) ha' (by omega) (by omega) (by omega)

theorem FoundAt_both (D : List S50) (l : List Int) (a : Int) (hn : l.length ≤ 1048576) : ∃ r, Ev (fun k => spec_FoundAt.f k D l a) r ∧ Ev (fun k => impl_FoundAt.f k D l a) r := by
  have h1 := dwBoth_ev D l
  have h2 := isSearch_ev D l hn
  cases hs : srch D l with
  | false =>
    rw [hs] at h1 h2
    exact ⟨(0, false), Ev.bind h1 (Ev.congr (fun k => by rw [if_neg (by decide)]) (Ev.now _)), Ev.bind h2 (Ev.congr (fun k => by rw [if_neg (by decide)]) (Ev.now _))⟩
  | true =>
    rw [hs] at h1 h2
    have hd := srch_dr hs
    have hp := srch_perm hs
    have h8 := areDr_len hd
    have hl := perm_len hp
    have hw : wrap64 ((D.length : Int) - 1) = (D.length : Int) - 1 := w64 (by omega) (by omega)
    cases hq : inB 0 ((D.length : Int) - 1) a with
    | false =>
      refine ⟨(0, false), Ev.bind h1 (Ev.congr (f := fun _ => some (0, false)) (fun k => ?_) (Ev.now _)), Ev.bind h2 (Ev.congr (f := fun _ => some (0, false)) (fun k => ?_) (Ev.now _))⟩
      · rw [if_pos rfl, l1In_inB, hw, hq]
        rfl
      · rw [if_pos rfl]
        simp [impl_isDrawer.f, impl_AreDrawers.f, hd, within_inB, hw, hq]
    | true =>
      have hx := hq
      simp [inB] at hx
      obtain ⟨q, rfl⟩ := Int.eq_ofNat_of_zero_le hx.1
      obtain ⟨p, hpl, hpe, hpv⟩ := index_loop l (q : Int) hn l.length 0 (by omega) (by simpa using perm_mem h8.2 hp q (by omega))
      have hF : (fnd D l 0 (List.replicate D.length 0)).length = D.length := by rw [fnd_len]; simp
      have hat := fnd_at hd l p 0 (List.replicate D.length 0) q 0 (perm_nd hp) (perm_in hp) (by simp) hpl hpe (by omega) (by omega) (by omega)
      have hia : inAll D.length l = true := by
        unfold inAll
        rw [List.all_eq_true]
        intro x hx
        simpa using perm_in hp x hx
      refine ⟨(minSum D (l.take (p + 1)) 0, true), Ev.bind h1 (Ev.congr (f := fun k => (spec_dwFound.f k D l).bind fun F => if 0 ≤ (q : Int) then (if (q : Int) < (F.length : Int) then some (rd F (q : Int), true) else none) else none) (fun k => ?_) (Ev.bind (found_ev hd l (perm_in hp) (by omega)) (Ev.congr (f := fun _ => some (minSum D (l.take (p + 1)) 0, true)) (fun k => ?_) (Ev.now _)))), Ev.bind h2 (Ev.congr (f := fun k => (slices_Index_int_int.f k l (q : Int)).bind fun p => if 0 ≤ p ∧ p < (l.length : Int) ∧ inAll D.length l = true then some (minSum D (l.take (p.toNat + 1)) 0, true) else none) (fun k => ?_) (Ev.bind hpv (Ev.congr (f := fun _ => some (minSum D (l.take (p + 1)) 0, true)) (fun k => ?_) (Ev.now _))))⟩
      · rw [if_pos rfl, l1In_inB, hw, hq]
        rfl
      · rw [if_pos (by omega), if_pos (by omega), hat]
      · rw [if_pos rfl]
        simp [impl_isDrawer.f, impl_AreDrawers.f, hd, within_inB, hw, hq]
      · rw [if_pos ⟨by omega, by omega, hia⟩, Int.toNat_natCast]

end Go.Proofs.Ytafjiglocbogeaa.X
