/- Plain laws, no program in sight: the reference's insertion and the library's stable sort lay the same order; BestSearch, LikeliestFirst of both. -/
import Derived.Test.YtenbnempjgbibaaHBestSearch
import Derived.Test.YtenbnempjgbibaaHLikeliestFirst
import Derived.Test.YtenbnempjgbibaaPlTo
import Derived.Test.YtenbnempjgbibaaXspecdwSort
import Derived.Test.YtenbnempjgbibaaXspecBestSearch
import Derived.Test.YtenbnempjgbibaaXspecLikeliestFirst
namespace Go.Proofs.Ytenbnempjgbibaa.X
open Go.RowKit Go.Sort Go.Proofs.YtenbnempjgbibaaW.PrintWords Go.Proofs.YtenbnempjgbibaaW.PrintLast Go.Proofs.YtenbnempjgbibaaW.PrintMore

/-- Where x comes to stand in L, from the place j on backwards. -/
def posI (lt : Int → Int → Bool) (x : Int) (L : List Int) : Nat → Nat
  | 0 => 0
  | j + 1 => if lt x (rd L (j : Int)) = true then posI lt x L j else j + 1
theorem posI_le (lt : Int → Int → Bool) (x : Int) (L : List Int) : ∀ j, posI lt x L j ≤ j
  | 0 => Nat.le_refl _
  | j + 1 => by
    simp only [posI]
    split
    · have := posI_le lt x L j; omega
    · exact Nat.le_refl _
def insI (lt : Int → Int → Bool) (L : List Int) (x : Int) : List Int := L.take (posI lt x L L.length) ++ x :: L.drop (posI lt x L L.length)
def srtI (lt : Int → Int → Bool) : Nat → List Int
  | 0 => []
  | i + 1 => insI lt (srtI lt i) (i : Int)
theorem insI_len (lt : Int → Int → Bool) (L : List Int) (x : Int) : (insI lt L x).length = L.length + 1 := by
  have := posI_le lt x L L.length
  simp only [insI, List.length_append, List.length_take, List.length_cons, List.length_drop]
  omega
theorem srtI_len (lt : Int → Int → Bool) : ∀ i, (srtI lt i).length = i
  | 0 => rfl
  | i + 1 => by rw [srtI, insI_len, srtI_len lt i]
theorem insI_perm (lt : Int → Int → Bool) (L : List Int) (x : Int) : (insI lt L x).Perm (x :: L) := by
  unfold insI
  have h := @List.perm_middle Int x (L.take (posI lt x L L.length)) (L.drop (posI lt x L L.length))
  rwa [List.take_append_drop] at h
theorem srtI_in (lt : Int → Int → Bool) : ∀ i, ∀ x ∈ srtI lt i, 0 ≤ x ∧ x < (i : Int)
  | 0, x, h => by simp [srtI] at h
  | i + 1, x, h => by
    have := (insI_perm lt (srtI lt i) (i : Int)).mem_iff.1 h
    rcases List.mem_cons.1 this with rfl | h
    · omega
    · have := srtI_in lt i x h; omega
theorem srtI_nd (lt : Int → Int → Bool) : ∀ i, (srtI lt i).Nodup
  | 0 => List.nodup_nil
  | i + 1 => by
    refine (insI_perm lt (srtI lt i) (i : Int)).nodup_iff.2 (List.nodup_cons.2 ⟨fun h => ?_, srtI_nd lt i⟩)
    have := srtI_in lt i _ h
    omega

/-! ### the array's side -/
variable {m : Nat}
def vals (d : Array (Fin (m + 1))) : List Int := d.toList.map fun x => ((x.val : Nat) : Int)
theorem vals_len (d : Array (Fin (m + 1))) : (vals d).length = d.size := by simp [vals]
theorem vals_at (d : Array (Fin (m + 1))) {j : Nat} (h : j < d.size) : (vals d)[j]? = some ((d[j]!.val : Nat) : Int) := by
  rw [getElem!_pos d j h]
  simp [vals, h]
theorem vals_swp (d : Array (Fin (m + 1))) {A B : List Int} {x y : Int} (h : vals d = A ++ y :: x :: B) : vals (swp d (A.length + 1) A.length) = A ++ x :: y :: B := by
  have hl : A.length + 1 < d.size := by rw [← vals_len, h]; simp
  have hx : ((d[A.length + 1]!.val : Nat) : Int) = x := by
    have := vals_at d hl
    rw [h, List.getElem?_append_right (by omega)] at this
    simpa using this.symm
  have hy : ((d[A.length]!.val : Nat) : Int) = y := by
    have := vals_at d (show A.length < d.size by omega)
    rw [h, List.getElem?_append_right (by omega)] at this
    simpa using this.symm
  have e : vals (swp d (A.length + 1) A.length) = ((vals d).set (A.length + 1) ((d[A.length]!.val : Nat) : Int)).set A.length ((d[A.length + 1]!.val : Nat) : Int) := by
    unfold swp vals
    rw [Array.toList_setIfInBounds, Array.toList_setIfInBounds, List.map_set, List.map_set]
  rw [e, hx, hy, h, List.set_append_right _ _ (by omega), List.set_append_right _ _ (by omega)]
  simp
def ltI (cf2 : S47 → S47 → Int) (l : List S47) (x y : Int) : Bool := decide (cf2 (rd_T47 l x) (rd_T47 l y) < 0)
theorem inner_vals (cf2 : S47 → S47 → Int) (l : List S47) (L R : List Int) (x : Int) : ∀ (j : Nat) (d : Array (Fin (m + 1))), j ≤ L.length → vals d = L.take j ++ x :: (L.drop j ++ R) →
    vals (insInner (Go.Proofs.ltOf (cfF cf2 l m)) 0 j d) = L.take (posI (ltI cf2 l) x L j) ++ x :: (L.drop (posI (ltI cf2 l) x L j) ++ R)
  | 0, d, _, h => by simpa [insInner, posI] using h
  | j + 1, d, hj, h => by
    have hLj : L[j]? = some (rd L (j : Int)) := by simp [rd, List.getD_eq_getElem?_getD, show j < L.length by omega]
    have ht : L.take (j + 1) = L.take j ++ [rd L (j : Int)] := by rw [List.take_add_one, hLj]; rfl
    have hd : L.drop j = rd L (j : Int) :: L.drop (j + 1) := by
      rw [List.drop_eq_getElem_cons (show j < L.length by omega)]
      simp [rd, List.getD_eq_getElem?_getD, show j < L.length by omega]
    have hlen : (L.take j).length = j := by rw [List.length_take]; omega
    rw [ht, List.append_assoc, List.singleton_append] at h
    have hsz : j + 1 < d.size := by rw [← vals_len, h]; simp [hlen]
    have hx : ((d[j + 1]!.val : Nat) : Int) = x := by
      have := vals_at d hsz
      rw [h, List.getElem?_append_right (by omega), hlen] at this
      simpa using this.symm
    have hy : ((d[j]!.val : Nat) : Int) = rd L (j : Int) := by
      have := vals_at d (show j < d.size by omega)
      rw [h, List.getElem?_append_right (by omega), hlen] at this
      simpa using this.symm
    have hlt : Go.Proofs.ltOf (cfF cf2 l m) d[j + 1]! d[j]! = ltI cf2 l x (rd L (j : Int)) := by
      unfold Go.Proofs.ltOf cfF ltI
      rw [hx, hy]
    simp only [insInner, posI]
    rw [hlt]
    cases hc : ltI cf2 l x (rd L (j : Int)) with
    | true =>
      have hs := vals_swp d h
      rw [hlen] at hs
      rw [if_pos (by simp), if_pos rfl]
      refine inner_vals cf2 l L R x j _ (by omega) ?_
      rw [hs, hd]
      rfl
    | false =>
      rw [if_neg (by simp), if_neg (by decide), ht, List.append_assoc, List.singleton_append]
      exact h
theorem outer_vals (cf2 : S47 → S47 → Int) (l : List S47) (n : Nat) : ∀ (e i : Nat) (d : Array (Fin (m + 1))), i + e = n → vals d = srtI (ltI cf2 l) i ++ (List.range' i e).map (fun q => ((q : Nat) : Int)) →
    vals (insOuter (Go.Proofs.ltOf (cfF cf2 l m)) 0 n i d) = srtI (ltI cf2 l) n
  | 0, i, d, hi, h => by
    obtain rfl : i = n := by omega
    rw [insOuter, if_neg (by omega)]
    simpa using h
  | e + 1, i, d, hi, h => by
    rw [insOuter, if_pos (by omega)]
    refine outer_vals cf2 l n e (i + 1) _ (by omega) ?_
    have hl := srtI_len (ltI cf2 l) i
    rw [inner_vals cf2 l (srtI (ltI cf2 l) i) ((List.range' (i + 1) e).map (fun q => ((q : Nat) : Int))) (i : Int) i d (by omega) (by
      rw [h, List.take_of_length_le (by omega), List.drop_of_length_le (by omega)]
      simp [List.range'_succ])]
    simp only [srtI, insI, hl, List.append_assoc, List.cons_append]
theorem ordF_srt (cf2 : S47 → S47 → Int) (l : List S47) (m : Nat) : ordF cf2 l m = srtI (ltI cf2 l) (m + 1) := by
  unfold ordF insertionSort
  rw [idF_size]
  refine outer_vals cf2 l (m + 1) m 1 (idF m) (by omega) ?_
  have hv : vals (idF m) = (List.range' 0 (m + 1)).map (fun q => ((q : Nat) : Int)) := by
    apply List.ext_getElem?
    intro j
    by_cases hj : j < m + 1
    · rw [vals_at _ (by rw [idF_size]; exact hj), getElem!_pos (idF m) j (by rw [idF_size]; exact hj)]
      simp [idF, hj]
    · rw [List.getElem?_eq_none (by rw [vals_len, idF_size]; omega), List.getElem?_eq_none (by simp; omega)]
  rw [hv, List.range'_succ]
  simp [srtI, insI, posI]

/-! ### the reference's side -/
theorem own_is (l : List Int) (h : l.length < 1000000) : spec_l1Own.f l = some l := by
  simp only [spec_l1Own.f, Option.bind_some]
  rw [if_pos (by simp; omega)]
  rfl
/-- Whether the new one goes on. -/
def aloneLt (alone : Bool) (a b : S47) : Bool := if alone = true then !decide (a.f0 ≤ b.f0) else !decide (a.f0 * b.f1 ≤ b.f0 * a.f1)
theorem mulB {a b : Int} (h0 : 0 ≤ a) (h1 : a ≤ 50) (h2 : 1 ≤ b) (h3 : b ≤ 60) : 0 ≤ a * b ∧ a * b ≤ 3000 :=
  ⟨Int.mul_nonneg h0 (by omega), Int.le_trans (Int.mul_le_mul h1 h3 (by omega) (by omega)) (by decide)⟩
theorem rdB {D : List S47} (hd : areDr D = true) {i : Int} (h0 : 0 ≤ i) (h1 : i < (D.length : Int)) : 0 ≤ (rd_T47 D i).f0 ∧ (rd_T47 D i).f0 ≤ 50 ∧ 1 ≤ (rd_T47 D i).f1 ∧ (rd_T47 D i).f1 ≤ 60 := by
  obtain ⟨n, rfl⟩ := Int.eq_ofNat_of_zero_le h0
  have := List.all_eq_true.1 (areDr_good hd) _ (rd_mem (l := D) (i := n) (by omega))
  simp [goodD, inB] at this
  omega
theorem cB_lt {D : List S47} (hd : areDr D = true) {i j : Int} (h0 : 0 ≤ i) (h1 : i < (D.length : Int)) (h2 : 0 ≤ j) (h3 : j < (D.length : Int)) : ltI cB D i j = !decide (wrap64 ((rd_T47 D i).f0 * (rd_T47 D j).f1) ≤ wrap64 ((rd_T47 D j).f0 * (rd_T47 D i).f1)) := by
  obtain ⟨a0, a1, a2, a3⟩ := rdB hd h0 h1
  obtain ⟨b0, b1, b2, b3⟩ := rdB hd h2 h3
  have p := mulB a0 a1 b2 b3
  have q := mulB b0 b1 a2 a3
  unfold ltI cB
  generalize (rd_T47 D i).f0 * (rd_T47 D j).f1 = u at *
  generalize (rd_T47 D j).f0 * (rd_T47 D i).f1 = v at *
  rw [w64 (x := u) (by omega) (by omega), w64 (x := v) (by omega) (by omega), w64 (by omega) (by omega), Bool.eq_iff_iff]
  simp
  omega
theorem cL_lt {D : List S47} (hd : areDr D = true) {i j : Int} (h0 : 0 ≤ i) (h1 : i < (D.length : Int)) (h2 : 0 ≤ j) (h3 : j < (D.length : Int)) : ltI cL D i j = !decide ((rd_T47 D i).f0 ≤ (rd_T47 D j).f0) := by
  obtain ⟨a0, a1, a2, a3⟩ := rdB hd h0 h1
  obtain ⟨b0, b1, b2, b3⟩ := rdB hd h2 h3
  unfold ltI cL
  rw [w64 (by omega) (by omega), Bool.eq_iff_iff]
  simp
  omega
def ltOfB (alone : Bool) (D : List S47) : Int → Int → Bool := if alone = true then ltI cL D else ltI cB D
theorem dwSort_l1 {D : List S47} (hd : areDr D = true) (alone : Bool) (L : List Int) (hL : L.length < 100) (hin : ∀ x ∈ L, 0 ≤ x ∧ x < (D.length : Int)) (i : Nat) (hi : i < D.length) (n : Int) (r : List Int) : ∀ (j : Nat), j ≤ L.length →
    Ev (fun k => spec_dwSort.l0 k D alone (L.take (posI (ltOfB alone D) (i : Int) L j) ++ (i : Int) :: L.drop (posI (ltOfB alone D) (i : Int) L j)) D n (wrap64 ((i : Int) + 1))) r →
    Ev (fun k => spec_dwSort.l1 k D alone L (i : Int) (j : Int) D n (i : Int) (rd_T47 D (i : Int)).f0 (rd_T47 D (i : Int)).f1) r
  | 0, _, h => by
    refine Ev.step (fun k => ?_) h
    simp only [spec_dwSort.l1, posI]
    rw [if_neg (by omega), if_pos (by omega), if_pos (by omega), own_is _ (by rw [List.length_take]; omega)]
    simp only [Option.bind_some]
    rw [if_pos (by rw [List.length_take]; omega)]
    rw [if_pos (by simp; omega)]
    simp
  | j + 1, hj, h => by
    have hlt : j < L.length := by omega
    have hmem : rd L (j : Int) ∈ L := by rw [rd_get hlt]; exact List.getElem_mem _
    obtain ⟨o0, o1⟩ := hin _ hmem
    have hw : wrap64 (((j + 1 : Nat) : Int) - 1) = (j : Int) := by unfold wrap64; omega
    have HW := Aside0.mk hw
    clear hw
    have back : posI (ltOfB alone D) (i : Int) L (j + 1) = j + 1 → ∀ k, ((spec_l1Own.f (L.take (((j + 1 : Nat) : Int) : Int).toNat)).bind fun t => (if t.length < 17592186044416 then ((some (t ++ [(i : Int)] : List Int)).bind fun y => ((some (L.drop (((j + 1 : Nat) : Int) : Int).toNat : List Int)).bind fun z => (if y.length + z.length < 17592186044416 then (spec_dwSort.l0 k D alone (y ++ z) D n (wrap64 ((i : Int) + 1))) else (none)))) else (none))) = spec_dwSort.l0 k D alone (L.take (posI (ltOfB alone D) (i : Int) L (j + 1)) ++ (i : Int) :: L.drop (posI (ltOfB alone D) (i : Int) L (j + 1))) D n (wrap64 ((i : Int) + 1)) := by
      intro hp k
      rw [hp, own_is _ (by rw [List.length_take]; omega)]
      simp only [Option.bind_some]
      rw [if_pos (by rw [List.length_take]; omega)]
      rw [if_pos (by simp; omega), Int.toNat_natCast, List.append_assoc, List.singleton_append]
    have key : ltOfB alone D (i : Int) (rd L (j : Int)) = (if alone = true then !decide ((rd_T47 D (i : Int)).f0 ≤ (rd_T47 D (rd L (j : Int))).f0) else !decide (wrap64 ((rd_T47 D (i : Int)).f0 * (rd_T47 D (rd L (j : Int))).f1) ≤ wrap64 ((rd_T47 D (rd L (j : Int))).f0 * (rd_T47 D (i : Int)).f1))) := by
      unfold ltOfB
      cases alone with
      | true => exact cL_lt hd (by omega) (by omega) o0 o1
      | false => exact cB_lt hd (by omega) (by omega) o0 o1
    cases hc : ltOfB alone D (i : Int) (rd L (j : Int)) with
    | true =>
      have hp : posI (ltOfB alone D) (i : Int) L (j + 1) = posI (ltOfB alone D) (i : Int) L j := by simp only [posI]; rw [if_pos hc]
      rw [hp] at h
      have ih := dwSort_l1 hd alone L hL hin i hi n r j (by omega) h
      rw [hc] at key
      refine Ev.step (fun k => ?_) ih
      simp only [spec_dwSort.l1]
      rw [if_pos (by omega), HW.out, if_pos (by omega), if_pos (by omega), if_pos o0, if_pos o1]
      cases alone with
      | true =>
        simp at key
        rw [if_pos rfl, if_neg (by omega)]
      | false =>
        simp at key
        rw [if_neg (by decide), if_neg (by omega)]
    | false =>
      have hp : posI (ltOfB alone D) (i : Int) L (j + 1) = j + 1 := by simp only [posI]; rw [if_neg (by rw [hc]; decide)]
      have B := back hp
      rw [hc] at key
      refine Ev.step (fun k => ?_) h
      simp only [spec_dwSort.l1]
      rw [if_pos (by omega), HW.out, if_pos (by omega), if_pos (by omega), if_pos o0, if_pos o1]
      cases alone with
      | true =>
        simp at key
        rw [if_pos rfl, if_pos (by omega), if_pos (by omega), if_pos (by omega)]
        exact B k
      | false =>
        simp at key
        rw [if_neg (by decide), if_pos (by omega), if_pos (by omega), if_pos (by omega)]
        exact B k
theorem dwSort_l0 {D : List S47} (hd : areDr D = true) (alone : Bool) (e : Nat) : ∀ (i : Nat), i + e = D.length →
    Ev (fun k => spec_dwSort.l0 k D alone (srtI (ltOfB alone D) i) D (D.length : Int) (i : Int)) (srtI (ltOfB alone D) D.length) := by
  have h8 := (areDr_len hd).2
  induction e with
  | zero =>
    intro i hi
    obtain rfl : i = D.length := by omega
    refine Ev.step (f := fun _ => some (srtI (ltOfB alone D) D.length)) (fun k => ?_) (Ev.now _)
    simp only [spec_dwSort.l0]
    rw [if_neg (by omega)]
  | succ e ih =>
    intro i hi
    have hl := srtI_len (ltOfB alone D) i
    have hs := ih (i + 1) (by omega)
    have hw : wrap64 ((i : Int) + 1) = ((i + 1 : Nat) : Int) := by unfold wrap64; omega
    have HW := Aside0.mk hw
    clear hw
    have h1 := dwSort_l1 hd alone (srtI (ltOfB alone D) i) (by omega) (fun x hx => by have := srtI_in _ i x hx; omega) i (by omega) (D.length : Int) (srtI (ltOfB alone D) D.length) (srtI (ltOfB alone D) i).length (Nat.le_refl _) (by rw [HW.out]; exact hs)
    refine Ev.step (fun k => ?_) h1
    simp only [spec_dwSort.l0]
    rw [if_pos (by omega), if_pos (by omega), if_pos (by omega)]
theorem dwSort_ev {D : List S47} (hd : areDr D = true) (alone : Bool) : Ev (fun k => spec_dwSort.f k D alone) (srtI (ltOfB alone D) D.length) :=
  Ev.congr (fun k => by rfl) (dwSort_l0 hd alone D.length 0 (by omega))
theorem ord_srt {D : List S47} (hd : areDr D = true) (cf2 : S47 → S47 → Int) : ordF cf2 D (D.length - 1) = srtI (ltI cf2 D) D.length := by
  rw [ordF_srt, Nat.sub_add_cancel (areDr_len hd).1]
theorem BestSearch_both (D : List S47) : ∃ r : List Int × Bool, r.1.length ≤ 1048576 ∧ Ev (fun k => spec_BestSearch.f k D) r ∧ Ev (fun _ => impl_BestSearch.f D) r := by
  have h := dwGood_ev D
  cases hd : areDr D with
  | false =>
    rw [hd] at h
    refine ⟨([], false), by simp, Ev.bind h (Ev.congr (fun k => by rw [if_neg (by decide)]) (Ev.now _)), Ev.congr (f := fun _ => some ([], false)) (fun k => ?_) (Ev.now _)⟩
    simp [impl_BestSearch.f, hd]
  | true =>
    rw [hd] at h
    have hl := areDr_len hd
    refine ⟨(srtI (ltI cB D) D.length, true), by rw [srtI_len]; omega, Ev.bind h (Ev.congr (f := fun k => (spec_dwSort.f k D false).bind fun t => some (t, true)) (fun k => by rw [if_pos rfl]) (Ev.bind (dwSort_ev hd false) (Ev.now _))), Ev.congr (f := fun _ => some (srtI (ltI cB D) D.length, true)) (fun k => ?_) (Ev.now _)⟩
    simp [impl_BestSearch.f, hd, ord_srt hd]
theorem LikeliestFirst_both (D : List S47) : ∃ r : List Int × Bool, r.1.length ≤ 1048576 ∧ Ev (fun k => spec_LikeliestFirst.f k D) r ∧ Ev (fun _ => impl_LikeliestFirst.f D) r := by
  have h := dwGood_ev D
  cases hd : areDr D with
  | false =>
    rw [hd] at h
    refine ⟨([], false), by simp, Ev.bind h (Ev.congr (fun k => by rw [if_neg (by decide)]) (Ev.now _)), Ev.congr (f := fun _ => some ([], false)) (fun k => ?_) (Ev.now _)⟩
    simp [impl_LikeliestFirst.f, hd]
  | true =>
    rw [hd] at h
    have hl := areDr_len hd
    refine ⟨(srtI (ltI cL D) D.length, true), by rw [srtI_len]; omega, Ev.bind h (Ev.congr (f := fun k => (spec_dwSort.f k D true).bind fun t => some (t, true)) (fun k => by rw [if_pos rfl]) (Ev.bind (dwSort_ev hd true) (Ev.now _))), Ev.congr (f := fun _ => some (srtI (ltI cL D) D.length, true)) (fun k => ?_) (Ev.now _)⟩
    simp [impl_LikeliestFirst.f, hd, ord_srt hd]
end Go.Proofs.Ytenbnempjgbibaa.X
