/- Texts of this seat in one: PlTable, PlFrac, PlCho, PlMeanPairs. -/
import Derived.Test.YtnikblimnjpmpaaPlBin
import Derived.Test.YtnikblimnjpmpaaXspecchTable
import Derived.Test.YtnikblimnjpmpaaXspecchLow
import Derived.Test.YtnikblimnjpmpaaXimplfraction
import Derived.Test.YtnikblimnjpmpaaHchoices
import Derived.Test.YtnikblimnjpmpaaXimplMeanPairs
import Derived.Test.YtnikblimnjpmpaaXspecMeanPairs
/- ==== PlTable ==== -/
namespace Go.Proofs.Ytnikblimnjpmpaa.X
open Go.RowKit Go.Proofs.YtnikblimnjpmpaaW.PrintWords Go.Proofs.YtnikblimnjpmpaaW.PrintLast Go.Proofs.YtnikblimnjpmpaaW.PrintMore

/-- What a number of a colour adds: by the kind. -/
def moreOf (kind : Int) (d : Nat) : Nat := if kind = 99 then min d 1 else d / 2
theorem moreOf_le (kind : Int) (d : Nat) : moreOf kind d ≤ d := by unfold moreOf; split <;> omega
/-- A table: so many places; its numbers int64s; nothing where more has been made than is there. -/
structure Tab (W : Nat) (t : List Int) : Prop where
  len : t.length = W * W
  inr : ∀ i, i < t.length → InR (rd t (i : Int))
  sup : ∀ i, i < t.length → rd t (i : Int) ≠ 0 → i % W ≤ i / W
variable {kind : Int} {K W : Nat}
def gT (kind : Int) (K W : Nat) (l : List Nat) (P : Nat) (i : Nat) : Int := T wB (moreOf kind) l ((K : Int) - ((i / W : Nat) : Int)) ((P : Int) - ((i % W : Nat) : Int))
theorem idx_div {W h x : Nat} (hx : x < W) : (h * W + x) / W = h ∧ (h * W + x) % W = x := by
  have hW : 0 < W := by omega
  refine ⟨?_, ?_⟩
  · rw [Nat.add_comm, Nat.add_mul_div_right _ _ hW, Nat.div_eq_of_lt hx]; omega
  · rw [Nat.add_comm, Nat.add_mul_mod_self_right, Nat.mod_eq_of_lt hx]
theorem idx_lt {W h x : Nat} (hh : h < W) (hx : x < W) : h * W + x < W * W := by
  have : (h + 1) * W ≤ W * W := Nat.mul_le_mul_right _ hh
  rw [Nat.add_mul] at this
  omega
theorem more_c {kind : Int} (ck : kind = 99) (d : Nat) : (if (d : Int) < 1 then some (d : Int) else some 1) = some ((moreOf kind d : Nat) : Int) := by
  unfold moreOf
  rw [if_pos ck]
  split <;> (congr 1; omega)
theorem more_p {kind : Int} (ck : ¬ kind = 99) {d : Nat} (h : d ≤ 1000) : wrap64 (Int.tdiv (d : Int) 2) = ((moreOf kind d : Nat) : Int) := by
  unfold moreOf
  rw [if_neg ck, Int.tdiv_eq_ediv_of_nonneg (by omega)]
  unfold wrap64
  omega
theorem w64z {z : Int} (h0 : 0 ≤ z) (h1 : z ≤ 1000000) : wrap64 z = z := by unfold wrap64; omega
theorem idx_wrap {a b c : Nat} (h : a + b + c ≤ 100000) : wrap64 (wrap64 (wrap64 ((a : Nat) : Int) + (b : Int)) + ((c : Nat) : Int)) = ((a + (b + c) : Nat) : Int) := by
  rw [w64z (z := (a : Int)) (by omega) (by omega), w64z (z := (a : Int) + (b : Int)) (by omega) (by omega), w64z (by omega) (by omega)]
  omega
theorem j3_on (k : Nat) (kind : Int) (d : Nat) (K W n ways h x I sl si nl at_ : Int) (next S now : List Int) (hd : d ≤ 1000) (hidx : wrap64 (wrap64 (wrap64 (wrap64 (h + (d : Int)) * W) + x) + ((moreOf kind d : Nat) : Int)) = I) (h0 : 0 ≤ I) (h1 : I < (next.length : Int)) :
    spec_chTable.j3 (k + 1) K kind W n next ways h x (d : Int) S sl si now nl at_ true = (spec_chChoose.f k n (d : Int)).bind fun t => spec_chTable.l2 k K kind W n (next.set I.toNat (wrap64 (rd next I + wrap64 (ways * t)))) ways h x (wrap64 ((d : Int) + 1)) S sl si now nl at_ := by
  simp only [spec_chTable.j3]
  rw [if_pos trivial]
  by_cases ck : kind = 99
  · have hmd := more_c ck d
    rw [if_pos ck]
    unfold spec_l1Least.f
    rw [hmd]
    simp only [Option.bind_some]
    rw [hidx, if_pos h0, if_pos h1]
  · have hmd := more_p ck hd
    rw [if_neg ck, hmd, hidx, if_pos h0, if_pos h1]
/-- The walk over how many of a colour are drawn. -/
theorem l2_ev (hW : W = K + 1) (hK : K ≤ 40) (n : Nat) (hn : n ≤ 20) (l : List Nat) (ways : Int) (h x : Nat) (hx : x ≤ h) (hhK : h ≤ K) (S : List Int) (sl si : Int) (now : List Int) (nl at_ : Int) (e : Nat) :
    ∀ (d : Nat) (next : List Int), d + e = n + 1 → Tab W next →
    ∃ next' : List Int, Tab W next' ∧ (∀ P, Cg (dot next' (gT kind K W l P) + ways * sumN d (fun q => wB n q * T wB (moreOf kind) l ((K : Int) - h - q) ((P : Int) - x - moreOf kind q))) (dot next (gT kind K W l P) + ways * sumN (n + 1) (fun q => wB n q * T wB (moreOf kind) l ((K : Int) - h - q) ((P : Int) - x - moreOf kind q)))) ∧
      (∀ r : List Int, Ev (fun k => spec_chTable.l1 k (K : Int) kind (W : Int) (n : Int) next' S sl si now nl (wrap64 (at_ + 1))) r → Ev (fun k => spec_chTable.l2 k (K : Int) kind (W : Int) (n : Int) next ways (h : Int) (x : Int) (d : Int) S sl si now nl at_) r) := by
  induction e with
  | zero =>
    intro d next hd ht
    obtain rfl : d = n + 1 := by omega
    refine ⟨next, ht, fun P => Cg.refl _, fun r h1 => ?_⟩
    refine Ev.step (f := fun k => spec_chTable.j3 k (K : Int) kind (W : Int) (n : Int) next ways (h : Int) (x : Int) ((n + 1 : Nat) : Int) S sl si now nl at_ false) (fun k => ?_) (Ev.step (fun k => ?_) h1)
    · simp only [spec_chTable.l2]
      rw [if_neg (by omega)]
    · simp only [spec_chTable.j3]
      rw [if_neg (by decide)]
  | succ e ih =>
    intro d next hd ht
    have hwhd : wrap64 ((h : Int) + (d : Int)) = ((h + d : Nat) : Int) := by unfold wrap64; omega
    have HWHD := Aside0.mk hwhd
    clear hwhd
    have hdn : wrap64 ((d : Int) + 1) = ((d + 1 : Nat) : Int) := by unfold wrap64; omega
    have HDN := Aside0.mk hdn
    clear hdn
    by_cases c : h + d ≤ K
    · -- on
      have hm : moreOf kind d ≤ d := moreOf_le kind d
      have hxl : x + moreOf kind d < W := by omega
      have hhl : h + d < W := by omega
      obtain ⟨i1, i2⟩ := idx_div (h := h + d) hxl
      have hlt := idx_lt hhl hxl
      have hb : (h + d) * W ≤ 1681 := Nat.le_trans (Nat.mul_le_mul (show h + d ≤ 40 by omega) (show W ≤ 41 by omega)) (by decide)
      obtain ⟨I, hI⟩ : ∃ I, I = (h + d) * W + (x + moreOf kind d) := ⟨_, rfl⟩
      rw [← hI] at i1 i2 hlt
      have hIlen : I < next.length := by rw [ht.len]; exact hlt
      obtain ⟨v, hv⟩ : ∃ v, v = wrap64 (rd next (I : Int) + wrap64 (ways * wB n d)) := ⟨_, rfl⟩
      have hcg : Cg v (rd next (I : Int) + ways * wB n d) := by rw [hv]; exact (Cg.wrap _).trans ((Cg.refl _).add (Cg.wrap _))
      have ht2 : Tab W (next.set I v) := by
        refine ⟨by rw [List.length_set]; exact ht.len, fun i hi => ?_, fun i hi hne => ?_⟩
        · rw [List.length_set] at hi
          by_cases q : i = I
          · subst q
            rw [rd_set_same hi, hv]
            exact InR.wrap _
          · rw [rd_set_other q]
            exact ht.inr i hi
        · rw [List.length_set] at hi
          by_cases q : i = I
          · subst q
            rw [i1, i2]
            omega
          · rw [rd_set_other q] at hne
            exact ht.sup i hi hne
      obtain ⟨next', h1, h2, h3⟩ := ih (d + 1) (next.set I v) (by omega) ht2
      refine ⟨next', h1, fun P => ?_, fun r hr => ?_⟩
      · have a1 := h2 P
        rw [dot_set hIlen] at a1
        have hg : gT kind K W l P I = T wB (moreOf kind) l ((K : Int) - h - d) ((P : Int) - x - moreOf kind d) := by
          unfold gT
          rw [i1, i2]
          congr 1 <;> omega
        rw [hg] at a1
        simp only [sumN] at a1 ⊢
        generalize T wB (moreOf kind) l ((K : Int) - h - d) ((P : Int) - x - moreOf kind d) = t at *
        have a2 : Cg ((v - rd next (I : Int)) * t) (ways * (wB n d * t)) := by
          have := (hcg.sub (Cg.refl (rd next (I : Int)))).mulr t
          rw [show rd next (I : Int) + ways * wB n d - rd next (I : Int) = ways * wB n d by omega, Int.mul_assoc] at this
          exact this
        rw [Int.mul_add] at a1
        obtain ⟨q1, e1⟩ := a1
        obtain ⟨q2, e2⟩ := a2
        exact ⟨q1 + q2, by omega⟩
      · have h4 := h3 r hr
        have hidx : wrap64 (wrap64 (wrap64 ((((h + d : Nat) : Int)) * (W : Int)) + (x : Int)) + ((moreOf kind d : Nat) : Int)) = (I : Int) := by
          have e0 : (((h + d : Nat) : Int)) * (W : Int) = (((h + d) * W : Nat) : Int) := by rw [Int.natCast_mul]
          rw [e0, hI]
          exact idx_wrap (by omega)
        have hd1000 : d ≤ 1000 := Nat.le_trans (Nat.le_trans (Nat.le_add_left d h) c) (Nat.le_trans hK (by decide))
        have hI0 : (0 : Int) ≤ (I : Int) := Int.natCast_nonneg _
        have hI1 : (I : Int) < (next.length : Int) := Int.ofNat_lt.2 hIlen
        have HIDX := Aside0.mk hidx
        clear hidx
        have HV := Aside0.mk hv
        clear hv
        refine Ev.step (f := fun k => spec_chTable.j3 k (K : Int) kind (W : Int) (n : Int) next ways (h : Int) (x : Int) (d : Int) S sl si now nl at_ true) (fun k => ?_) (Ev.step (f := fun k => (spec_chChoose.f k (n : Int) (d : Int)).bind fun t => spec_chTable.l2 k (K : Int) kind (W : Int) (n : Int) (next.set I (wrap64 (rd next (I : Int) + wrap64 (ways * t)))) ways (h : Int) (x : Int) (wrap64 ((d : Int) + 1)) S sl si now nl at_) (fun k => ?_) (Ev.bind (chChoose_ev (by omega) (by omega)) ?_))
        · simp only [spec_chTable.l2]
          rw [if_pos (by omega), HWHD.out, decide_eq_true (by omega)]
        · rw [j3_on k kind d (K : Int) (W : Int) (n : Int) ways (h : Int) (x : Int) (I : Int) sl si nl at_ next S now hd1000 (by rw [HWHD.out]; exact HIDX.out) hI0 hI1, Int.toNat_natCast]
        · rw [← HV.out, HDN.out]
          exact h4
    · -- too many
      refine ⟨next, ht, fun P => ?_, fun r hr => ?_⟩
      · rw [sumN_longer (n := d) (m := n + 1) (by omega) (fun q hq _ => by rw [T_neg (by omega)]; simp)]
        exact Cg.refl _
      · refine Ev.step (f := fun k => spec_chTable.j3 k (K : Int) kind (W : Int) (n : Int) next ways (h : Int) (x : Int) (d : Int) S sl si now nl at_ false) (fun k => ?_) (Ev.step (fun k => ?_) hr)
        · simp only [spec_chTable.l2]
          rw [if_pos (by omega), HWHD.out, decide_eq_false (by omega)]
        · simp only [spec_chTable.j3]
          rw [if_neg (by decide)]
/-- The walk over the places of the table so far. -/
theorem l1_ev (hW : W = K + 1) (hK : K ≤ 40) (n : Nat) (hn : n ≤ 20) (l : List Nat) (S : List Int) (sl si : Int) (now : List Int) (hnow : Tab W now) (e : Nat) :
    ∀ (i : Nat) (next : List Int), i + e = now.length → Tab W next →
    ∃ next' : List Int, Tab W next' ∧ (∀ P, Cg (dot next' (gT kind K W l P) + sumN i (fun q => rd now (q : Int) * gT kind K W (n :: l) P q)) (dot next (gT kind K W l P) + dot now (gT kind K W (n :: l) P))) ∧
      (∀ r : List Int, Ev (fun k => spec_chTable.l0 k (K : Int) kind (W : Int) next' S sl (wrap64 (si + 1))) r → Ev (fun k => spec_chTable.l1 k (K : Int) kind (W : Int) (n : Int) next S sl si now (now.length : Int) (i : Int)) r) := by
  have hlen : now.length ≤ 1681 := by rw [hnow.len]; exact Nat.le_trans (Nat.mul_le_mul (show W ≤ 41 by omega) (show W ≤ 41 by omega)) (by decide)
  induction e with
  | zero =>
    intro i next hi ht
    obtain rfl : i = now.length := by omega
    refine ⟨next, ht, fun P => Cg.refl _, fun r h1 => Ev.step (fun k => ?_) h1⟩
    simp only [spec_chTable.l1]
    rw [if_neg (by omega)]
  | succ e ih =>
    intro i next hi ht
    have hin : wrap64 ((i : Int) + 1) = ((i + 1 : Nat) : Int) := by unfold wrap64; omega
    have HIN := Aside0.mk hin
    clear hin
    by_cases c : rd now (i : Int) = 0
    · obtain ⟨next', h1, h2, h3⟩ := ih (i + 1) next (by omega) ht
      refine ⟨next', h1, fun P => ?_, fun r hr => Ev.step (fun k => ?_) (h3 r hr)⟩
      · have := h2 P
        simp only [sumN, c, Int.zero_mul, Int.add_zero] at this
        exact this
      · simp only [spec_chTable.l1]
        rw [if_pos (by omega), if_pos (by omega), if_pos (by omega), if_pos c, HIN.out]
    · have hil : i < now.length := by omega
      have hs := hnow.sup i hil c
      have hdv : i / W ≤ K := by
        have h0 : i / W < W := Nat.div_lt_of_lt_mul (by rw [← hnow.len]; exact hil)
        omega
      obtain ⟨next1, g1, g2, g3⟩ := l2_ev (kind := kind) hW hK n hn l (rd now (i : Int)) (i / W) (i % W) hs hdv S sl si now (now.length : Int) (i : Int) (n + 1) 0 next (by omega) ht
      obtain ⟨next', h1, h2, h3⟩ := ih (i + 1) next1 (by omega) g1
      refine ⟨next', h1, fun P => ?_, fun r hr => ?_⟩
      · have a1 := h2 P
        have a2 := g2 P
        have hg : gT kind K W (n :: l) P i = sumN (n + 1) (fun q => wB n q * T wB (moreOf kind) l ((K : Int) - ((i / W : Nat) : Int) - q) ((P : Int) - ((i % W : Nat) : Int) - moreOf kind q)) := rfl
        rw [← hg] at a2
        simp only [sumN] at a1 a2 ⊢
        generalize rd now (i : Int) * gT kind K W (n :: l) P i = z at *
        simp only [Int.mul_zero, Int.add_zero] at a2
        obtain ⟨q1, e1⟩ := a1
        obtain ⟨q2, e2⟩ := a2
        exact ⟨q1 + q2, by omega⟩
      · have h4 := g3 r (by rw [HIN.out]; exact h3 r hr)
        have hd1 : wrap64 (Int.tdiv (i : Int) (W : Int)) = ((i / W : Nat) : Int) := by
          rw [Int.tdiv_eq_ediv_of_nonneg (by omega), ← Int.natCast_ediv]
          generalize i / W = z at *
          unfold wrap64
          omega
        have hd2 : Int.tmod (i : Int) (W : Int) = ((i % W : Nat) : Int) := by
          rw [Int.tmod_eq_emod_of_nonneg (by omega), ← Int.natCast_emod]
        refine Ev.step (fun k => ?_) h4
        simp only [spec_chTable.l1]
        rw [if_pos (by omega), if_pos (by omega), if_pos (by omega), if_neg c, if_neg (by omega), hd1, hd2]
        rfl
/-- The walk over the colours. -/
theorem l0_ev (hW : W = K + 1) (hK : K ≤ 40) (S : List Int) (ns : List Nat) (hS : S = ns.map (fun n => ((n : Nat) : Int))) (h20 : ∀ n ∈ ns, n ≤ 20) (hl8 : ns.length ≤ 8) (e : Nat) : ∀ (i : Nat) (now : List Int), i + e = ns.length → Tab W now →
    ∃ fin : List Int, Tab W fin ∧ (∀ P, Cg (dot fin (gT kind K W [] P)) (dot now (gT kind K W (ns.drop i) P))) ∧
      Ev (fun k => spec_chTable.l0 k (K : Int) kind (W : Int) now S (S.length : Int) (i : Int)) (fin.drop (K * W)) := by
  have hSl : S.length = ns.length := by rw [hS, List.length_map]
  have hKW : K * W ≤ 1640 := Nat.le_trans (Nat.mul_le_mul hK (show W ≤ 41 by omega)) (by decide)
  have hWW : W * W ≤ 1681 := Nat.le_trans (Nat.mul_le_mul (show W ≤ 41 by omega) (show W ≤ 41 by omega)) (by decide)
  have hKWW : K * W ≤ W * W := Nat.mul_le_mul_right _ (by omega)
  have hw1 : wrap64 ((K : Int) * (W : Int)) = ((K * W : Nat) : Int) := by
    rw [← Int.natCast_mul]
    generalize K * W = z at *
    unfold wrap64
    omega
  have hw2 : wrap64 ((W : Int) * (W : Int)) = ((W * W : Nat) : Int) := by
    rw [← Int.natCast_mul]
    generalize W * W = z at *
    unfold wrap64
    omega
  induction e with
  | zero =>
    intro i now hi ht
    obtain rfl : i = ns.length := by omega
    refine ⟨now, ht, fun P => ?_, Ev.step (f := fun _ => some (now.drop (K * W))) (fun k => ?_) (Ev.now _)⟩
    · rw [List.drop_length]
      exact Cg.refl _
    · have := ht.len
      simp only [spec_chTable.l0]
      rw [if_neg (by omega), hw1, if_pos (by omega), if_pos (by omega), Int.toNat_natCast]
  | succ e ih =>
    intro i now hi ht
    have hil : i < ns.length := by omega
    have hin : wrap64 ((i : Int) + 1) = ((i + 1 : Nat) : Int) := by unfold wrap64; omega
    have HIN := Aside0.mk hin
    clear hin
    have hrd : rd S (i : Int) = ((ns[i] : Nat) : Int) := by
      rw [hS]
      simp [rd, List.getD_eq_getElem?_getD, hil]
    have hz : Tab W (List.replicate (W * W) 0) := by
      refine ⟨by simp, fun j hj => ?_, fun j hj hne => absurd (rd_rep _ _) hne⟩
      rw [rd_rep]
      unfold InR
      omega
    have hdrop : ns.drop i = ns[i] :: ns.drop (i + 1) := List.drop_eq_getElem_cons hil
    obtain ⟨next', h1, h2, h3⟩ := l1_ev (kind := kind) hW hK ns[i] (h20 _ (List.getElem_mem hil)) (ns.drop (i + 1)) S (S.length : Int) (i : Int) now ht now.length 0 (List.replicate (W * W) 0) (by omega) hz
    obtain ⟨fin, f1, f2, f3⟩ := ih (i + 1) next' (by omega) h1
    refine ⟨fin, f1, fun P => (f2 P).trans ?_, ?_⟩
    · have := h2 P
      rw [dot_rep, ← hdrop] at this
      simpa [sumN] using this
    · have h4 := h3 _ (by rw [HIN.out]; exact f3)
      refine Ev.step (fun k => ?_) h4
      simp only [spec_chTable.l0]
      rw [if_pos (by omega), if_pos (by omega), if_pos (by omega), hw2, if_pos (by omega), if_pos (by omega), hrd, Int.toNat_natCast]
      rfl
theorem Tab.start (hW : W = K + 1) : Tab W ((List.replicate (W * W) 0).set 0 1) := by
  have h0 : 0 < W * W := Nat.mul_pos (by omega) (by omega)
  refine ⟨by simp, fun i hi => ?_, fun i hi hne => ?_⟩
  · by_cases q : i = 0
    · subst q
      rw [rd_set_same (by simpa using h0)]
      unfold InR
      omega
    · rw [rd_set_other q, rd_rep]
      unfold InR
      omega
  · by_cases q : i = 0
    · subst q
      simp
    · rw [rd_set_other q, rd_rep] at hne
      exact absurd rfl hne
/-- The reference's table: in how many ways. -/
theorem chTable_ev (K : Nat) (hK : K ≤ 40) (ns : List Nat) (h20 : ∀ n ∈ ns, n ≤ 20) (hl8 : ns.length ≤ 8) (h40 : sumL ns ≤ 40) (kind : Int) :
    ∃ tab : List Int, tab.length = K + 1 ∧ (∀ P : Nat, P ≤ K → rd tab (P : Int) = T wB (moreOf kind) ns (K : Int) (P : Int)) ∧ Ev (fun k => spec_chTable.f k (ns.map fun n => ((n : Nat) : Int)) (K : Int) kind) tab := by
  obtain ⟨W, hW⟩ : ∃ W, W = K + 1 := ⟨_, rfl⟩
  have hWW : W * W ≤ 1681 := Nat.le_trans (Nat.mul_le_mul (show W ≤ 41 by omega) (show W ≤ 41 by omega)) (by decide)
  have h0 : 0 < W * W := Nat.mul_pos (by omega) (by omega)
  obtain ⟨fin, f1, f2, f3⟩ := l0_ev (kind := kind) hW hK _ ns rfl h20 hl8 ns.length 0 _ (by omega) (Tab.start hW)
  have hsplit : W * W = K * W + W := by
    have : (K + 1) * W = K * W + W := by rw [Nat.add_mul, Nat.one_mul]
    rw [← this, ← hW]
  have hlen := f1.len
  refine ⟨fin.drop (K * W), by rw [List.length_drop]; omega, fun P hP => ?_, ?_⟩
  · have hPW : P < W := by omega
    have hat : K * W + P < fin.length := by omega
    have h1 := f2 P
    have e1 : dot fin (gT kind K W [] P) = rd fin ((K * W + P : Nat) : Int) := by
      unfold dot
      rw [sumN_at (K * W + P) hat (fun d hd hne => ?_)]
      · unfold gT T
        rw [(idx_div hPW).1, (idx_div hPW).2, if_pos ⟨by omega, by omega⟩, Int.mul_one]
      · unfold gT T
        rw [if_neg, Int.mul_zero]
        rintro ⟨c1, c2⟩
        have c3 : d / W = K := by omega
        have c4 : d % W = P := by omega
        have := Nat.div_add_mod d W
        rw [c3, c4, Nat.mul_comm] at this
        omega
    have e2 : dot ((List.replicate (W * W) 0).set 0 1) (gT kind K W (ns.drop 0) P) = T wB (moreOf kind) ns (K : Int) (P : Int) := by
      rw [dot_set (by simpa using h0), dot_rep, List.drop_zero]
      have : rd (List.replicate (W * W) 0) ((0 : Nat) : Int) = 0 := rd_rep _ _
      rw [this]
      unfold gT
      simp
    rw [e1, e2] at h1
    have hb := T_bound (m := moreOf kind) h20 h40 (K : Int) (P : Int)
    have h2 := h1.eq (f1.inr _ hat) (by unfold InR; omega)
    rw [← h2]
    unfold rd
    rw [Int.toNat_natCast, Int.toNat_natCast, List.getD_eq_getElem?_getD, List.getD_eq_getElem?_getD, List.getElem?_drop]
  · have hw1 : wrap64 ((K : Int) + 1) = (W : Int) := by rw [hW]; unfold wrap64; omega
    have hw2 : wrap64 ((W : Int) * (W : Int)) = ((W * W : Nat) : Int) := by
      rw [← Int.natCast_mul]
      generalize W * W = z at *
      unfold wrap64
      omega
    refine Ev.congr (fun k => ?_) f3
    simp only [spec_chTable.f]
    rw [hw1, hw2, if_pos (by omega), if_pos (by omega), Int.toNat_natCast]
    simp only [Option.bind_some, List.length_replicate]
    rw [if_pos (by omega)]
    rfl
end Go.Proofs.Ytnikblimnjpmpaa.X

/- ==== PlFrac ==== -/
namespace Go.Proofs.Ytnikblimnjpmpaa.X
open Go.RowKit Go.Proofs.YtnikblimnjpmpaaW.PrintWords Go.Proofs.YtnikblimnjpmpaaW.PrintLast Go.Proofs.YtnikblimnjpmpaaW.PrintMore

theorem gcd_loop (d : Nat) : ∀ (x y : Int), 0 ≤ x → 0 ≤ y → y ≤ (d : Int) → (0 < x ∨ 0 < y) →
    ∃ g : Int, 0 < g ∧ Ev (fun k => impl_gcd.l0 k x y) g ∧ ∀ a b, Ev (fun k => spec_chLow.l0 k a b x y) (wrap64 (Int.tdiv a g), wrap64 (Int.tdiv b g)) := by
  induction d with
  | zero =>
    intro x y hx hy hd hp
    have e : y = 0 := by omega
    subst e
    refine ⟨x, by omega, Ev.step (f := fun _ => some x) (fun k => ?_) (Ev.now _), fun a b => Ev.step (f := fun _ => some (wrap64 (Int.tdiv a x), wrap64 (Int.tdiv b x))) (fun k => ?_) (Ev.now _)⟩
    · simp only [impl_gcd.l0, if_true]
    · simp only [spec_chLow.l0]
      rw [if_neg (by omega), if_neg (by omega)]
  | succ d ih =>
    intro x y hx hy hd hp
    by_cases h0 : y = 0
    · subst h0
      refine ⟨x, by omega, Ev.step (f := fun _ => some x) (fun k => ?_) (Ev.now _), fun a b => Ev.step (f := fun _ => some (wrap64 (Int.tdiv a x), wrap64 (Int.tdiv b x))) (fun k => ?_) (Ev.now _)⟩
      · simp only [impl_gcd.l0, if_true]
      · simp only [spec_chLow.l0]
        rw [if_neg (by omega), if_neg (by omega)]
    · have hm : Int.tmod x y = x % y := Int.tmod_eq_emod_of_nonneg hx
      have h1 : 0 ≤ x % y := Int.emod_nonneg _ h0
      have h2 : x % y < y := Int.emod_lt_of_pos _ (by omega)
      obtain ⟨g, hg, e1, e2⟩ := ih y (x % y) hy h1 (by omega) (.inl (by omega))
      refine ⟨g, hg, Ev.step (fun k => ?_) e1, fun a b => Ev.step (fun k => ?_) (e2 a b)⟩
      · simp only [impl_gcd.l0]
        rw [if_neg h0, hm]
      · simp only [spec_chLow.l0]
        rw [if_pos (by omega), if_neg h0, hm]
theorem frac_ev (num den : Int) (h0 : 0 ≤ num) (h1 : 0 < den) : ∃ a b : Int, Ev (fun k => spec_chLow.f k num den) (a, b) ∧ Ev (fun k => impl_fraction.f k num den) (a, b, true) := by
  obtain ⟨g, hg, e1, e2⟩ := gcd_loop den.toNat num den h0 (by omega) (by omega) (.inr h1)
  refine ⟨_, _, e2 num den, ?_⟩
  refine Ev.congr (f := fun k => (impl_gcd.l0 k num den).bind fun t => if t = 0 then none else some (wrap64 (Int.tdiv num t), wrap64 (Int.tdiv den t), true)) (fun k => rfl) (Ev.bind e1 ?_)
  exact Ev.congr (fun k => by rw [if_neg (by omega)]) (Ev.now _)

end Go.Proofs.Ytnikblimnjpmpaa.X

/- ==== PlCho ==== -/
namespace Go.Proofs.Ytnikblimnjpmpaa.X
open Go.RowKit Go.Proofs.YtnikblimnjpmpaaW.PrintWords Go.Proofs.YtnikblimnjpmpaaW.PrintLast Go.Proofs.YtnikblimnjpmpaaW.PrintMore

/-- In how many ways K of the socks have just p pairs. -/
def wF (ns : List Nat) (K p : Nat) : Int := T wB half ns (K : Int) (p : Int)
structure Asked (l : List Int) (a : Int) (ns : List Nat) (K : Nat) : Prop where
  hl : l = toI ns
  ha : a = (K : Int)
  h20 : ∀ n ∈ ns, n ≤ 20
  l8 : ns.length ≤ 8
  s40 : sumL ns ≤ 40
  le : K ≤ sumL ns
  few : X.few l = true
  tot : Ev (fun k => impl_total.f k l) ((sumL ns : Nat) : Int)
  sum : Ev (fun k => spec_soSum.f k l) ((sumL ns : Nat) : Int)
theorem asked_is {l : List Int} {a : Int} (h : asked l a = true) : ∃ ns K, Asked l a ns K := by
  obtain ⟨hf, h0, h1⟩ := asked_of h
  obtain ⟨_, f2, f3, _, _⟩ := few_of hf
  have etot := total_ev f2 f3
  have esum := soSum_ev f2 f3
  obtain ⟨ns, hl, h20, hl1, hl8, hs1, hs40, ht⟩ := few_ns hf
  rw [ht] at h1 etot esum
  obtain ⟨K, rfl⟩ := Int.eq_ofNat_of_zero_le h0
  exact ⟨ns, K, ⟨hl, rfl, h20, hl8, hs40, by omega, hf, etot, esum⟩⟩
theorem more112 : moreOf 112 = half := by
  funext d
  unfold moreOf half
  rw [if_neg (by decide)]
section
variable {l : List Int} {a : Int} {ns : List Nat} {K : Nat}
theorem wF_bd (h : Asked l a ns K) (p : Nat) : 0 ≤ wF ns K p ∧ wF ns K p ≤ 1099511627776 := T_bound h.h20 h.s40 _ _
theorem pair_foldr (l : List Nat) : (l.foldr (fun n s => half n + s) 0 : Nat) = pairL l := rfl
theorem wF_high (p : Nat) (h : pairL ns < p ∨ K < p) : wF ns K p = 0 := by
  unfold wF
  rcases h with h | h
  · exact T_high half (fun n d hd => by unfold half; omega) (by rw [pair_foldr]; omega)
  · exact T_share 2 (fun d => by unfold half; omega) (by omega)
theorem nat_toI (ns : List Nat) : nat (toI ns) = ns := by
  unfold nat toI
  rw [List.map_map]
  have : ns.map (Int.toNat ∘ fun n : Nat => (n : Int)) = ns.map id := List.map_congr_left fun x _ => by simp
  rw [this, List.map_id]
theorem cho_is (h : Asked l a ns K) : impl_choices.f l = some (choV l) ∧ (choV l).length = sumL ns + 1 ∧ rd_L1 (choV l) (K : Int) = numL (pairL ns) (wF ns K) := by
  refine ⟨by unfold impl_choices.f; rw [if_pos h.few], ?_, ?_⟩
  · rw [h.hl]
    simp [choV, tabV, nat_toI]
  · rw [h.hl]
    have := h.le
    unfold choV rd_L1
    rw [nat_toI, List.getD_eq_getElem?_getD, Int.toNat_natCast]
    simp [tabV, show K < sumL ns + 1 by omega]
    rfl
theorem num_len (P : Nat) (f : Nat → Int) : (numL P f).length = P + 1 := by simp [numL]
theorem num_rd (P : Nat) (f : Nat → Int) {p : Nat} (h : p ≤ P) : rd (numL P f) (p : Int) = f p := by simp [numL, rd, List.getD_eq_getElem?_getD, show p < P + 1 by omega]
theorem tab_is (h : Asked l a ns K) : ∃ tab : List Int, tab.length = K + 1 ∧ (∀ p : Nat, p ≤ K → rd tab (p : Int) = wF ns K p) ∧ Ev (fun k => spec_chTable.f k l a 112) tab := by
  obtain ⟨tab, t1, t2, t3⟩ := chTable_ev K (by have := h.le; have := h.s40; omega) ns h.h20 h.l8 h.s40 112
  rw [more112] at t2
  rw [h.hl, h.ha]
  exact ⟨tab, t1, t2, t3⟩
theorem den_is (h : Asked l a ns K) : Ev (fun k => impl_choose.f k ((sumL ns : Nat) : Int) a) (wB (sumL ns) K) ∧ Ev (fun k => spec_chChoose.f k ((sumL ns : Nat) : Int) a) (wB (sumL ns) K) ∧ 0 < wB (sumL ns) K ∧ wB (sumL ns) K ≤ 1099511627776 := by
  rw [h.ha]
  exact ⟨choose_ev h.s40 h.le, chChoose_ev h.s40 h.le, wB_pos h.s40 h.le, wB_le _ _⟩
/-- Sums over all pairs, as far as either goes. -/
theorem sum_same (ns : List Nat) (K : Nat) (c : Nat → Int) : sumN (pairL ns + 1) (fun p => c p * wF ns K p) = sumN (K + 1) (fun p => c p * wF ns K p) := by
  have h1 : sumN (pairL ns + 1 + (K + 1)) (fun p => c p * wF ns K p) = sumN (pairL ns + 1) (fun p => c p * wF ns K p) := sumN_longer (by omega) (fun d h1 _ => by rw [wF_high d (.inl (by omega))]; simp)
  have h2 : sumN (pairL ns + 1 + (K + 1)) (fun p => c p * wF ns K p) = sumN (K + 1) (fun p => c p * wF ns K p) := sumN_longer (by omega) (fun d h1 _ => by rw [wF_high d (.inr (by omega))]; simp)
  rw [← h1, h2]
theorem sumN_small {n : Nat} {f : Nat → Int} {B : Int} (h : ∀ d, d < n → 0 ≤ f d ∧ f d ≤ B) : 0 ≤ sumN n f ∧ sumN n f ≤ B * (n : Int) := by
  induction n with
  | zero => simp [sumN]
  | succ n ih =>
    have h1 := ih fun d hd => h d (by omega)
    have h2 := h n (by omega)
    simp only [sumN]
    rw [show ((n + 1 : Nat) : Int) = (n : Int) + 1 by omega, Int.mul_add]
    omega
end
end Go.Proofs.Ytnikblimnjpmpaa.X

/- ==== PlMeanPairs ==== -/
namespace Go.Proofs.Ytnikblimnjpmpaa.X
open Go.RowKit Go.Proofs.YtnikblimnjpmpaaW.PrintWords Go.Proofs.YtnikblimnjpmpaaW.PrintLast Go.Proofs.YtnikblimnjpmpaaW.PrintMore

theorem mean_iloop (l : List Int) (a : Int) (t : List Int) (F : Nat → Int) (hl : t.length ≤ 1000) (hF : ∀ p, p < t.length → rd t (p : Int) = F p) (d : Nat) : ∀ (i : Nat) (acc : Int), i + d = t.length → InR acc → Cg acc (sumN i fun p => (p : Int) * F p) →
    ∃ acc', InR acc' ∧ Cg acc' (sumN t.length fun p => (p : Int) * F p) ∧ ∀ r, Ev (fun k => impl_MeanPairs.l0 k l a acc' t (t.length : Int) (t.length : Int)) r → Ev (fun k => impl_MeanPairs.l0 k l a acc t (t.length : Int) (i : Int)) r := by
  induction d with
  | zero =>
    intro i acc hi h1 h2
    obtain rfl : i = t.length := by omega
    exact ⟨acc, h1, h2, fun r h => h⟩
  | succ d ih =>
    intro i acc hi h1 h2
    have hlt : i < t.length := by omega
    obtain ⟨acc', g1, g2, g3⟩ := ih (i + 1) (wrap64 (acc + wrap64 ((i : Int) * rd t (i : Int)))) (by omega) (InR.wrap _) (by
      rw [hF i hlt]
      exact (Cg.wrap _).trans (h2.add (Cg.wrap _)))
    refine ⟨acc', g1, g2, fun r hr => Ev.step (fun k => ?_) (g3 r hr)⟩
    simp only [impl_MeanPairs.l0]
    rw [if_pos (by omega), if_pos (by omega), if_pos (by omega), w64s hlt (by omega)]
theorem mean_sloop (l : List Int) (a : Int) (t : List Int) (F : Nat → Int) (hl : t.length ≤ 1000) (hF : ∀ p, p < t.length → rd t (p : Int) = F p) (d : Nat) : ∀ (i : Nat) (acc : Int), i + d = t.length → InR acc → Cg acc (sumN i fun p => (p : Int) * F p) →
    ∃ acc', InR acc' ∧ Cg acc' (sumN t.length fun p => (p : Int) * F p) ∧ ∀ r, Ev (fun k => spec_MeanPairs.l0 k l a acc' t (t.length : Int) (t.length : Int)) r → Ev (fun k => spec_MeanPairs.l0 k l a acc t (t.length : Int) (i : Int)) r := by
  induction d with
  | zero =>
    intro i acc hi h1 h2
    obtain rfl : i = t.length := by omega
    exact ⟨acc, h1, h2, fun r h => h⟩
  | succ d ih =>
    intro i acc hi h1 h2
    have hlt : i < t.length := by omega
    obtain ⟨acc', g1, g2, g3⟩ := ih (i + 1) (wrap64 (acc + wrap64 ((i : Int) * rd t (i : Int)))) (by omega) (InR.wrap _) (by
      rw [hF i hlt]
      exact (Cg.wrap _).trans (h2.add (Cg.wrap _)))
    refine ⟨acc', g1, g2, fun r hr => Ev.step (fun k => ?_) (g3 r hr)⟩
    simp only [spec_MeanPairs.l0]
    rw [if_pos (by omega), if_pos (by omega), if_pos (by omega), w64s hlt (by omega)]
theorem MeanPairs_both (l : List Int) (a : Int) (hn : l.length ≤ 1048576) : ∃ r, Ev (fun k => spec_MeanPairs.f k l a) r ∧ Ev (fun k => impl_MeanPairs.f k l a) r := by
  obtain ⟨e1, e2⟩ := asked_ev l a hn
  cases h : asked l a with
  | false =>
    rw [h] at e1 e2
    exact ⟨(0, 0, false), Ev.bind e2 (Ev.congr (f := fun _ => some (0, 0, false)) (fun k => by rw [if_neg (by decide)]) (Ev.now _)), Ev.bind e1 (Ev.congr (f := fun _ => some (0, 0, false)) (fun k => by rw [if_neg (by decide)]) (Ev.now _))⟩
  | true =>
    rw [h] at e1 e2
    obtain ⟨ns, K, hA⟩ := asked_is h
    obtain ⟨c1, c2, c3⟩ := cho_is hA
    obtain ⟨tab, t1, t2, t3⟩ := tab_is hA
    obtain ⟨d1, d2, d3, d4⟩ := den_is hA
    have hK := hA.le
    have h40 := hA.s40
    have hP := pairL_le ns
    obtain ⟨F, hFd⟩ : ∃ F : Nat → Int, F = wF ns K := ⟨_, rfl⟩
    have hb : 0 ≤ sumN (K + 1) (fun p => (p : Int) * wF ns K p) ∧ sumN (K + 1) (fun p => (p : Int) * wF ns K p) ≤ 43980465111040 * ((K + 1 : Nat) : Int) := sumN_small fun p hp => by
      have := wF_bd hA p
      refine ⟨Int.mul_nonneg (by omega) this.1, ?_⟩
      exact Int.le_trans (Int.mul_le_mul (show (p : Int) ≤ 40 by omega) this.2 this.1 (by omega)) (by decide)
    obtain ⟨x, x1, x2, x3⟩ := mean_iloop l a (numL (pairL ns) (wF ns K)) (wF ns K) (by rw [num_len]; omega) (fun p hp => num_rd _ _ (by rw [num_len] at hp; omega)) (numL (pairL ns) (wF ns K)).length 0 0 (by omega) (by unfold InR; omega) (Cg.refl _)
    obtain ⟨y, y1, y2, y3⟩ := mean_sloop l a tab (wF ns K) (by omega) (fun p hp => t2 p (by omega)) tab.length 0 0 (by omega) (by unfold InR; omega) (Cg.refl _)
    rw [num_len, sum_same ns K] at x2
    rw [t1] at y2
    generalize sumN (K + 1) (fun p => (p : Int) * wF ns K p) = s at *
    have hs : InR s := by unfold InR; omega
    obtain rfl := x2.eq x1 hs
    obtain rfl := y2.eq y1 hs
    obtain ⟨p, q, p1, p2⟩ := frac_ev y (wB (sumL ns) K) hb.1 d3
    refine ⟨(p, q, true), Ev.bind e2 (Ev.congr (f := fun k => (spec_chTable.f k l a 112).bind fun t => spec_MeanPairs.l0 k l a 0 t (t.length : Int) 0) (fun k => by rw [if_pos rfl]) (Ev.bind t3 (y3 _ (Ev.step (f := fun k => (spec_soSum.f k l).bind fun t => (spec_chChoose.f k t a).bind fun u => (spec_chLow.f k y u).bind fun b => some (b.1, b.2, true)) (fun k => ?_) (Ev.bind hA.sum (Ev.bind d2 (Ev.bind p1 (Ev.now _)))))))), Ev.bind e1 (Ev.congr (f := fun k => impl_MeanPairs.l0 k l a 0 (numL (pairL ns) (wF ns K)) ((numL (pairL ns) (wF ns K)).length : Int) 0) (fun k => ?_) (x3 _ (Ev.step (f := fun k => (impl_total.f k l).bind fun t => (impl_choose.f k t a).bind fun u => (impl_fraction.f k y u).bind fun b => some (b.1, b.2.1, b.2.2)) (fun k => ?_) (Ev.bind hA.tot (Ev.bind d1 (Ev.bind p2 (Ev.now _)))))))⟩
    · simp only [spec_MeanPairs.l0]
      rw [if_neg (by omega)]
    · rw [if_pos rfl, c1]
      simp only [Option.bind_some]
      have ha := hA.ha
      rw [if_pos (by omega), if_pos (by omega), ha, c3]
    · simp only [impl_MeanPairs.l0]
      rw [if_neg (by omega)]
end Go.Proofs.Ytnikblimnjpmpaa.X
