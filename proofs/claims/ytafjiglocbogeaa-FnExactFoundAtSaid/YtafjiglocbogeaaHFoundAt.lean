/- The program's FoundAt: its contract. -/
import Derived.Test.YtafjiglocbogeaaMB
import Derived.Test.YtafjiglocbogeaaMA
import Derived.Test.YtafjiglocbogeaaXslicesIndexintint
namespace Go.Proofs.Ytafjiglocbogeaa.X
open Go.RowKit Go.Proofs.YtafjiglocbogeaaW.PrintWords Go.Proofs.YtafjiglocbogeaaW.PrintLast Go.Proofs.YtafjiglocbogeaaW.PrintMore

def minSum (l : List S50) : List Int → Int → Int
  | [], m => m
  | i :: r, m => minSum l r (wrap64 (m + (rd_T50 l i).f1))
def impl_FoundAt.f (k : Nat) (l0 : List (S50)) (l1 : List Int) (a2 : Int) : Option (Int × Bool) :=
  (impl_isSearch.f k l0 l1).bind fun t => if t = true then ((impl_isDrawer.f l0 a2).bind fun u => if u = true then ((slices_Index_int_int.f k l1 a2).bind fun p =>
    if 0 ≤ p ∧ p < (l1.length : Int) ∧ inAll l0.length l1 = true then some (minSum l0 (l1.take (p.toNat + 1)) 0, true) else none) else some (0, false)) else some (0, false)
theorem impl_FoundAt.mono : ∀ a0 a1 a2 k, LeO (impl_FoundAt.f k a0 a1 a2) (impl_FoundAt.f (k + 1) a0 a1 a2) := by
  intro a0 a1 a2 k
  unfold impl_FoundAt.f
  exact LeO.bind (impl_isSearch.mono _ _ _) (fun _ => LeO.ite (LeO.bind (LeO.refl _) (fun _ => LeO.ite (LeO.bind (slices_Index_int_int.mono _ _ _) (fun _ => LeO.refl _)) (LeO.refl _))) (LeO.refl _))

theorem cell_add {w W : World} (h : Below w.heap.size w W) {p : Addr} {v : Value} (hc : w.cell? p = some v) : W.cell? p = some v := (h.cell (World.block_lt_of_cell? w _ hc)).trans hc

set_option maxHeartbeats 8000000 in
set_option maxRecDepth 100000 in
theorem impl_FoundAt.calls (k : Nat) (A0 : Option Addr) (c0 : Nat) (l0 : List (S50)) (A1 : Option Addr) (c1 : Nat) (l1 : List Int) (a2 : Int) (r1 : Int) (r2 : Bool) (w : World) (hr0 : Kd.C k50 w A0 l0.length l0) (hc0 : l0.length ≤ c0) (hr1 : Kd.C (Kd.int .i64) w A1 l1.length l1) (hc1 : l1.length ≤ c1) (h : impl_FoundAt.f k l0 l1 a2 = some (r1, r2)) :
    Calls Try.prog 34 #[.slice A0 l0.length c0, .slice A1 l1.length c1, .int .i64 a2] w fun e w' => e = .returned (.tuple #[.int .i64 r1, .bool r2]) ∧ Below w.heap.size w w' := by
  unfold impl_FoundAt.f at h
  obtain ⟨t, hs, h⟩ := Option.bind_eq_some_iff.1 h
  have hm : l1.length ≤ 9223372036854775807 := hr1.2.1
  have HR0 := Aside0.mk hr0
  have HR1 := Aside0.mk hr1
  have HC0 := Aside0.mk hc0
  have HC1 := Aside0.mk hc1
  have HS := Aside0.mk hs
  clear hr0 hr1 hc0 hs
  cases t with
  | false =>
    obtain ⟨rfl, rfl⟩ : (0 : Int) = r1 ∧ false = r2 := by simpa using h
    clear h hc1
    go_enter Try.func34, Try.ntmps34
    go_wp2_with (first | (go_at_call 59; refine (impl_isSearch.calls k A0 c0 l0 A1 c1 l1 false _ HR0.out HC0.out HR1.out HC1.out HS.out).mono ?_; rintro e w1 ⟨rfl, hb⟩))
    go_ret2
    exact ⟨rfl, hb⟩
  | true =>
    rw [if_pos rfl] at h
    obtain ⟨u, hu, h⟩ := Option.bind_eq_some_iff.1 h
    have HU := Aside0.mk hu
    clear hu
    cases u with
    | false =>
      obtain ⟨rfl, rfl⟩ : (0 : Int) = r1 ∧ false = r2 := by simpa using h
      clear h hc1
      go_enter Try.func34, Try.ntmps34
      go_wp2_with (first | (go_at_call 59; refine (impl_isSearch.calls k A0 c0 l0 A1 c1 l1 true _ HR0.out HC0.out HR1.out HC1.out HS.out).mono ?_; rintro e w1 ⟨rfl, hb⟩) | (go_at_call 54; refine (impl_isDrawer.calls A0 c0 l0 a2 false _ (Kd.C_below HR0.out hb) HC0.out HU.out).mono ?_; rintro e w2 ⟨rfl, hb2⟩))
      go_ret2
      exact ⟨rfl, hb.trans (hb2.mono hb.size)⟩
    | true =>
      rw [if_pos rfl] at h
      obtain ⟨p, hp, h⟩ := Option.bind_eq_some_iff.1 h
      by_cases hq : 0 ≤ p ∧ p < (l1.length : Int) ∧ inAll l0.length l1 = true
      · rw [if_pos hq] at h
        obtain ⟨h0, h1, h2⟩ := hq
        obtain ⟨q, rfl⟩ := Int.eq_ofNat_of_zero_le h0
        rw [Int.toNat_natCast] at h
        simp only [Option.some.injEq, Prod.mk.injEq] at h
        obtain ⟨hsum, rfl⟩ := h
        have HP := Aside0.mk hp
        have HSUM := Aside0.mk hsum
        have HIN := Aside0.mk (inAll_of h2)
        obtain ⟨ad1, e1, _⟩ := Kd.at_int HR1.out (q : Int) h0 h1
        cases e1
        have hq1 : q < l1.length := by omega
        have hqc : q + 1 ≤ c1 := by omega
        clear hp hsum h2 h0 h1 hc1
        go_enter Try.func34, Try.ntmps34
        go_wp2_with (first | (go_at_call 59; refine (impl_isSearch.calls k A0 c0 l0 _ c1 l1 true _ HR0.out HC0.out HR1.out HC1.out HS.out).mono ?_; rintro e w1 ⟨rfl, hb⟩) | (go_at_call 54; refine (impl_isDrawer.calls A0 c0 l0 a2 true _ (Kd.C_below HR0.out hb) HC0.out HU.out).mono ?_; rintro e w2 ⟨rfl, hb2⟩; have hbb := hb.trans (hb2.mono hb.size)) | (go_at_call 63; refine (slices_Index_int_int.calls k _ c1 l1 a2 _ _ (Kd.C_below HR1.out hbb) HC1.out HP.out).mono ?_; rintro e w3 ⟨rfl, hd3⟩; have hb3 := hbb.trans (hd3.below.mono hbb.size)))
        go_loopg [8, 10, 28] (q + 1) (fun gg s8 _ s28 wr => ∃ (kk : Nat) (m : Int), kk ≤ q + 1 ∧ q + 1 - kk ≤ gg ∧ s28 = .int .i64 kk ∧ s8 = .int .i64 m ∧ Aside0 (minSum l0 ((l1.take (q + 1)).drop kk) m = r1) ∧ Aside0 (Below w.heap.size w wr))
        case atStart => exact ⟨0, 0, by omega, by omega, rfl, rfl, ⟨HSUM.out⟩, ⟨hb3⟩⟩
        case round =>
          obtain ⟨kk, m, hkk, hg, rfl, rfl, HM, HD⟩ := hrel
          clear hb hb2 hbb hd3 hb3
          by_cases hlt : kk < q + 1
          · have hltz : (kk : Int) < (q : Int) + 1 := by omega
            have hkl : kk < l1.length := by omega
            obtain ⟨ad1, e1, hx1⟩ := Kd.at_int HR1.out (kk : Int) (by omega) (by omega)
            cases e1
            have hin1 := HIN.out _ (rd_mem1 hkl)
            obtain ⟨hi0, hi1⟩ := hin1
            have hdr : (l1.take (q + 1)).drop kk = rd l1 (kk : Int) :: (l1.take (q + 1)).drop (kk + 1) := by
              rw [List.drop_eq_getElem_cons (by rw [List.length_take]; omega), List.getElem_take]
              simp [rd, List.getD_eq_getElem?_getD, hkl]
            have HDR := Lib.hid hdr
            clear hdr
            generalize hi : rd l1 (kk : Int) = i at *
            have Hi := Lib.hid hi
            clear hi
            obtain ⟨ad, e2, hx, hy⟩ := at_T50 HR0.out i hi0 hi1
            cases e2
            replace hx1 := cell_add HD.out hx1
            replace hx := cell_add HD.out hx
            replace hy := cell_add HD.out hy
            rw [Int.toNat_natCast] at hx1
            go_wp2
            go_roundg (q + 1 - (kk + 1))
            case measure => omega
            case rel =>
              refine ⟨kk + 1, wrap64 (m + (rd_T50 l0 i).f1), by omega, by omega, by go_num, rfl, ⟨?_⟩, HD⟩
              rw [← HM.out, HDR.out]
              rfl
          · have hltz : ¬ (kk : Int) < (q : Int) + 1 := by omega
            have e0 : kk = q + 1 := by omega
            have hs : m = r1 := by
              rw [← HM.out, List.drop_of_length_le (by rw [List.length_take]; omega)]
              rfl
            subst hs
            clear e0
            go_wp2
            go_ret2
            exact ⟨rfl, HD.out⟩
      · rw [if_neg hq] at h
        cases h

#print axioms impl_FoundAt.calls
end Go.Proofs.Ytafjiglocbogeaa.X
