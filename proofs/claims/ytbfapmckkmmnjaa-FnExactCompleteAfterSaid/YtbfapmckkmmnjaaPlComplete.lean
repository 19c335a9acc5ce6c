/- Plain laws, no program in sight: pairs complete behind each loss, both. -/
import Derived.Test.YtbfapmckkmmnjaaPlTimes
import Derived.Test.YtbfapmckkmmnjaaXspecCompleteAfter
import Derived.Test.YtbfapmckkmmnjaaHCompleteAfter
namespace Go.Proofs.Ytbfapmckkmmnjaa.X
open Go.RowKit Go.Proofs.YtbfapmckkmmnjaaW.PrintWords Go.Proofs.YtbfapmckkmmnjaaW.PrintLast Go.Proofs.YtbfapmckkmmnjaaW.PrintMore

def sumNat : Nat → (Nat → Nat) → Nat
  | 0, _ => 0
  | n + 1, f => sumNat n f + f n
theorem sumNat_add (n : Nat) (f g : Nat → Nat) : sumNat n (fun j => f j + g j) = sumNat n f + sumNat n g := by
  induction n with
  | zero => rfl
  | succ n ih => simp only [sumNat]; rw [ih]; omega
theorem sumNat_one (n q : Nat) (h : q < n) : sumNat n (fun j => if q = j then 1 else 0) = 1 := by
  have hz : ∀ m, m ≤ q → sumNat m (fun j => if q = j then 1 else 0) = 0 := by
    intro m
    induction m with
    | zero => intro _; rfl
    | succ m ih => intro hm; simp only [sumNat]; rw [ih (by omega), if_neg (by omega)]
  induction n with
  | zero => omega
  | succ n ih =>
    simp only [sumNat]
    by_cases e : q = n
    · subst e
      rw [hz q (Nat.le_refl _), if_pos rfl]
    · rw [ih (by omega), if_neg e]
theorem sumNat_zero (n : Nat) : sumNat n (fun _ => 0) = 0 := by
  induction n with
  | zero => rfl
  | succ n ih => simp only [sumNat]; rw [ih]
theorem sum_count (n : Nat) : ∀ (l : List Int), l.all (inB 0 ((n : Int) - 1)) = true → sumNat n (fun j => l.count (j : Int)) = l.length := by
  intro l
  induction l with
  | nil =>
    intro _
    simp only [List.count_nil, List.length_nil]
    exact sumNat_zero n
  | cons x r ih =>
    intro h
    rw [List.all_cons, Bool.and_eq_true] at h
    have hx := h.1
    simp [inB] at hx
    obtain ⟨q, rfl⟩ := Int.eq_ofNat_of_zero_le hx.1
    have e : (fun j : Nat => ((q : Int) :: r).count (j : Int)) = fun j : Nat => r.count (j : Int) + (if q = j then 1 else 0) := by
      funext j
      rw [List.count_cons]
      by_cases e : q = j
      · subst e
        simp
      · have hne : ¬ (q : Int) = (j : Int) := by omega
        simp [hne, e]
    rw [e, sumNat_add, ih h.2, sumNat_one n q (by omega)]
    rfl
theorem sum_le (n : Nat) (f : Nat → Nat) (h : ∀ j, j < n → f j ≤ 2) : sumNat n f ≤ 2 * n := by
  induction n with
  | zero => simp [sumNat]
  | succ n ih =>
    have h1 := ih (fun j hj => h j (by omega))
    have h2 := h n (by omega)
    simp only [sumNat]
    omega
theorem okT_len {n : Nat} {l : List Int} (h : okT n l = true) : l.length ≤ 2 * n := by
  unfold okT at h
  rw [Bool.and_eq_true] at h
  have h1 := sum_count n l h.1
  have h2 := sum_le n (fun j => l.count (j : Int)) (fun j hj => by
    have := List.all_eq_true.1 h.2 j (by simpa using hj)
    simpa using this)
  omega
theorem caL_len : ∀ (r seen out : List Int) (now : Int), (caL seen r out now).length = out.length + r.length
  | [], _, _, _ => by simp [caL]
  | x :: r, seen, out, now => by
    simp only [caL]
    split
    · rw [caL_len r]
      simp
      omega
    · rw [caL_len r]
      simp
      omega
theorem zeros_loop (a : Int) (l o : List Int) (n i : Int) (c : List Int) (hc : c.length ≤ 1000) (r : List Int × Bool) (ho : o.length < 17592186044416)
    (hr : Ev (fun k => spec_CompleteAfter.l0 k a l (o ++ [((c.count 0 : Nat) : Int)]) n (wrap64 (i + 1))) r) (d : Nat) : ∀ (q : Nat), q + d = c.length →
    Ev (fun k => spec_CompleteAfter.l1 k a l o ((((c.take q).count 0 : Nat) : Int)) n i c (c.length : Int) (q : Int)) r := by
  induction d with
  | zero =>
    intro q hq
    rw [List.take_of_length_le (by omega)]
    refine Ev.step (fun k => ?_) hr
    simp only [spec_CompleteAfter.l1]
    rw [if_neg (by omega), if_pos ho]
  | succ d ih =>
    intro q hq
    have hlt : q < c.length := by omega
    have hs := ih (q + 1) (by omega)
    have hcl : (c.take q).count 0 ≤ q := Nat.le_trans List.count_le_length (by rw [List.length_take]; omega)
    rw [take_rd hlt, List.count_append] at hs
    by_cases e : rd c (q : Int) = 0
    · rw [e] at hs
      refine Ev.step (fun k => ?_) hs
      simp only [spec_CompleteAfter.l1]
      rw [if_pos (by omega), if_pos (by omega), if_pos (by omega), if_pos e, w64s hlt (by omega), w64 (by omega) (by omega)]
      simp
    · have h0 : [rd c (q : Int)].count 0 = 0 := by simp [e]
      rw [h0] at hs
      refine Ev.step (fun k => ?_) hs
      simp only [spec_CompleteAfter.l1]
      rw [if_pos (by omega), if_pos (by omega), if_pos (by omega), if_neg e, w64s hlt (by omega)]
      rfl
theorem okT_take {n : Nat} {l : List Int} (h : okT n l = true) (i : Nat) : okT n (l.take i) = true := by
  unfold okT at h ⊢
  simp only [Bool.and_eq_true, List.all_eq_true, List.mem_range, decide_eq_true_eq] at h ⊢
  exact ⟨fun x hx => h.1 x (List.mem_of_mem_take hx), fun j hj => Nat.le_trans (count_take_le l i _) (h.2 j hj)⟩
theorem zeros_step {n q : Nat} {p : List Int} (hq : q < n) : (cntL n (p ++ [(q : Int)])).count 0 = if (q : Int) ∈ p then (cntL n p).count 0 else (cntL n p).count 0 - 1 := by
  have hl : q < (cntL n p).length := by rw [cntL_len]; exact hq
  have hg : (cntL n p)[q] = ((p.count (q : Int) : Nat) : Int) := by
    have := cntL_get (l := p) hq
    rw [List.getElem?_eq_getElem hl] at this
    exact Option.some.inj this
  rw [← cntL_snoc hq, List.count_set hl, hg]
  have hne : ((((p.count (q : Int) : Nat) : Int) + 1) == 0) = false := by simp; omega
  rw [hne]
  by_cases hm : (q : Int) ∈ p
  · have : 0 < p.count (q : Int) := List.count_pos_iff.2 hm
    have h2 : (((p.count (q : Int) : Nat) : Int) == 0) = false := by rw [beq_eq_false_iff_ne]; omega
    rw [h2, if_pos hm]
    simp
  · have : p.count (q : Int) = 0 := List.count_eq_zero_of_not_mem hm
    rw [this, if_neg hm]
    simp
theorem zeros_pos {n q : Nat} {p : List Int} (hq : q < n) (hm : ¬ (q : Int) ∈ p) : 0 < (cntL n p).count 0 := by
  rw [List.count_pos_iff]
  have h0 : p.count (q : Int) = 0 := List.count_eq_zero_of_not_mem hm
  have := cntL_get (l := p) hq
  rw [h0] at this
  exact List.mem_of_getElem? this
theorem after_both (n : Nat) (h20 : n ≤ 20) (l : List Int) (hn : l.length ≤ 1048576) (ho : okT n l = true) (d : Nat) : ∀ (i : Nat) (seen out : List Int), i + d = l.length → out.length ≤ i + 1 → (∀ v, v ∈ seen ↔ v ∈ l.take i) →
    Ev (fun k => spec_CompleteAfter.l0 k (n : Int) l out (l.length : Int) (i : Int)) (caL seen (l.drop i) out (((cntL n (l.take i)).count 0 : Nat) : Int), true) := by
  induction d with
  | zero =>
    intro i seen out hi hou hs
    rw [List.drop_of_length_le (by omega)]
    simp only [caL]
    refine Ev.step (f := fun _ => some (out, true)) (fun k => ?_) (Ev.now _)
    simp only [spec_CompleteAfter.l0]
    rw [if_neg (by omega)]
  | succ d ih =>
    intro i seen out hi hou hs
    have hlt : i < l.length := by omega
    have hx : inB 0 ((n : Int) - 1) (rd l (i : Int)) = true := by
      unfold okT at ho
      simp only [Bool.and_eq_true, List.all_eq_true] at ho
      rw [rd_get hlt]
      exact ho.1 _ (List.getElem_mem hlt)
    simp [inB] at hx
    obtain ⟨q, hq⟩ := Int.eq_ofNat_of_zero_le hx.1
    have hqn : q < n := by omega
    have hct : Ev (fun k => spec_laCounts.f k (n : Int) (l.take (i + 1))) (timesR n (l.take (i + 1))) := counts_ev n (by omega) (l.take (i + 1)) (by rw [List.length_take]; omega)
    have hR : timesR n (l.take (i + 1)) = (cntL n (l.take (i + 1)), true) := by unfold timesR; rw [if_pos (okT_take ho _)]
    rw [hR] at hct
    have hw : wrap64 ((i : Int) + 1) = ((i + 1 : Nat) : Int) := w64s hlt (by omega)
    have hz := zeros_step (p := l.take i) hqn
    rw [← hq, ← take_rd hlt] at hz
    have hcl : (cntL n (l.take i)).count 0 ≤ n := Nat.le_trans List.count_le_length (by rw [cntL_len]; omega)
    have key : ∀ r, Ev (fun k => spec_CompleteAfter.l0 k (n : Int) l (out ++ [(((cntL n (l.take (i + 1))).count 0 : Nat) : Int)]) (l.length : Int) ((i + 1 : Nat) : Int)) r → Ev (fun k => spec_CompleteAfter.l0 k (n : Int) l out (l.length : Int) (i : Int)) r := by
      intro r hr
      have h1 := zeros_loop (n : Int) l out (l.length : Int) (i : Int) (cntL n (l.take (i + 1))) (by rw [cntL_len]; omega) r (by omega) (by rw [hw]; exact hr) (cntL n (l.take (i + 1))).length 0 (by omega)
      refine Ev.step (f := fun k => (spec_laCounts.f k (n : Int) (l.take (i + 1))).bind fun b => spec_CompleteAfter.l1 k (n : Int) l out 0 (l.length : Int) (i : Int) b.1 (b.1.length : Int) 0) (fun k => ?_) (Ev.bind hct h1)
      simp only [spec_CompleteAfter.l0]
      rw [if_pos (by omega), hw, if_pos (by omega), if_pos (by omega), Int.toNat_natCast]
    have hd : l.drop i = rd l (i : Int) :: l.drop (i + 1) := ca_drop hlt
    rw [hd]
    simp only [caL]
    by_cases hm : rd l (i : Int) ∈ seen
    · rw [if_pos hm]
      rw [if_pos ((hs _).1 hm)] at hz
      rw [← hz]
      refine key _ (ih (i + 1) seen _ (by omega) (by simp; omega) (fun v => ?_))
      rw [take_rd hlt, List.mem_append, hs v, List.mem_singleton]
      constructor
      · exact Or.inl
      · rintro (h | h)
        · exact h
        · rw [h]
          exact (hs _).1 hm
    · rw [if_neg hm]
      have hm2 : ¬ rd l (i : Int) ∈ l.take i := fun h => hm ((hs _).2 h)
      rw [if_neg hm2] at hz
      have hp := zeros_pos (p := l.take i) hqn (by rw [← hq]; exact hm2)
      have hw2 : wrap64 ((((cntL n (l.take i)).count 0 : Nat) : Int) - 1) = (((cntL n (l.take (i + 1))).count 0 : Nat) : Int) := by rw [w64 (by omega) (by omega), hz]; omega
      rw [hw2]
      refine key _ (ih (i + 1) (rd l (i : Int) :: seen) _ (by omega) (by simp; omega) (fun v => ?_))
      rw [take_rd hlt, List.mem_append, List.mem_cons, hs v, List.mem_singleton]
      exact Or.comm
theorem caOk_of {n : Nat} {l : List Int} (h20 : n ≤ 20) (hn : l.length ≤ 1048576) (ho : okT n l = true) : caOk l = true := by
  unfold caOk
  rw [Bool.and_eq_true, decide_eq_true_eq, List.all_eq_true]
  refine ⟨by omega, fun x hx => ?_⟩
  unfold okT at ho
  simp only [Bool.and_eq_true, List.all_eq_true] at ho
  have := ho.1 x hx
  simp [inB] at this
  simp [Lit.wf, IntKind.min, IntKind.max, IntKind.signed, IntKind.bits]
  omega
theorem CompleteAfter_both (a : Int) (l : List Int) (hn : l.length ≤ 1048576) : ∃ r : List Int × Bool, r.1.length ≤ 41 ∧ Ev (fun k => spec_CompleteAfter.f k a l) r ∧ Ev (fun k => impl_CompleteAfter.f k a l) r := by
  cases hq : inB 1 20 a with
  | false =>
    refine ⟨([], false), by simp, Ev.congr (f := fun _ => some ([], false)) (fun k => ?_) (Ev.now _), Ev.congr (f := fun _ => some ([], false)) (fun k => ?_) (Ev.now _)⟩
    · simp [spec_CompleteAfter.f, l1In_inB, hq]
    · simp [impl_CompleteAfter.f, impl_arePairs.f, within_inB, hq]
  | true =>
    have hx := hq
    simp [inB] at hx
    obtain ⟨n, rfl⟩ := Int.eq_ofNat_of_zero_le (a := a) (by omega)
    have hc : Ev (fun k => spec_laCounts.f k (n : Int) l) (timesR n l) := counts_ev n (by omega) l (by omega)
    have ht := times_ev n (by omega) l (by omega)
    have e1 : ∀ k, spec_CompleteAfter.f k (n : Int) l = (spec_laCounts.f k (n : Int) l).bind fun b => if b.2 = true then spec_CompleteAfter.l0 k (n : Int) l [(n : Int)] (l.length : Int) 0 else some ([], false) := fun k => by simp [spec_CompleteAfter.f, l1In_inB, hq]
    have e2 : ∀ k, impl_CompleteAfter.f k (n : Int) l = (impl_times.f k (n : Int) l).bind (impl_CompleteAfter.g (n : Int) l) := fun k => by simp [impl_CompleteAfter.f, impl_arePairs.f, within_inB, hq]
    unfold timesR at hc ht
    cases ho : okT n l with
    | false =>
      rw [ho] at hc ht
      exact ⟨([], false), by simp, Ev.congr e1 (Ev.bind hc (Ev.congr (f := fun _ => some ([], false)) (fun k => rfl) (Ev.now _))), Ev.congr e2 (Ev.bind ht (Ev.congr (f := fun _ => some ([], false)) (fun k => rfl) (Ev.now _)))⟩
    | true =>
      rw [ho] at hc ht
      have h := after_both n (by omega) l hn ho l.length 0 [] [(n : Int)] (by omega) (by simp) (by simp)
      have hz : (((cntL n (l.take 0)).count 0 : Nat) : Int) = (n : Int) := by
        rw [List.take_zero, cntL_nil]
        simp
      rw [hz, List.drop_zero] at h
      refine ⟨(caL [] l [(n : Int)] (n : Int), true), by have := okT_len ho; rw [caL_len]; simp; omega, Ev.congr e1 (Ev.bind hc (Ev.congr (f := fun k => spec_CompleteAfter.l0 k (n : Int) l [(n : Int)] (l.length : Int) 0) (fun k => rfl) h)), Ev.congr e2 (Ev.bind ht (Ev.congr (f := fun _ => some (caL [] l [(n : Int)] (n : Int), true)) (fun k => ?_) (Ev.now _)))⟩
      unfold impl_CompleteAfter.g
      rw [if_pos (caOk_of (by omega) hn ho)]
      rfl
end Go.Proofs.Ytbfapmckkmmnjaa.X
