/- Pairs, plain laws; the program's choices: its contract: the numbers of choices by socks and pairs. -/
import Derived.Test.YtnikblimnjpmpaaHWays
/- ==== PlPairs ==== -/
namespace Go.Proofs.Ytnikblimnjpmpaa.X
open Go.RowKit Go.Proofs.YtnikblimnjpmpaaW.PrintWords Go.Proofs.YtnikblimnjpmpaaW.PrintLast Go.Proofs.YtnikblimnjpmpaaW.PrintMore

def pairL (l : List Nat) : Nat := l.foldr (fun n s => half n + s) 0
theorem pairL_cons (n : Nat) (l : List Nat) : pairL (n :: l) = half n + pairL l := rfl
theorem pairL_le : ∀ l : List Nat, pairL l ≤ sumL l
  | [] => Nat.le_refl _
  | n :: l => by have := pairL_le l; rw [pairL_cons, sumL_cons]; unfold half; omega
theorem get_le_sum : ∀ (l : List Nat) (i : Nat), i < l.length → l.getD i 0 ≤ sumL l ∧ half (l.getD i 0) ≤ pairL l
  | n :: l, 0, _ => by rw [sumL_cons, pairL_cons]; simp
  | n :: l, i + 1, h => by
    have := get_le_sum l i (by simpa using h)
    rw [sumL_cons, pairL_cons]
    simp only [List.getD_cons_succ]
    omega
theorem acc_w {acc n : Nat} (h : acc ≤ 1000) (hn : n ≤ 1000) : wrap64 ((acc : Int) + wrap64 (Int.tdiv ((n : Nat) : Int) 2)) = ((acc + half n : Nat) : Int) := by
  have h1 : Int.tdiv ((n : Nat) : Int) 2 = ((half n : Nat) : Int) := by
    rw [Int.tdiv_eq_ediv_of_nonneg (by omega)]
    unfold half
    omega
  have h2 : half n ≤ 1000 := by unfold half; omega
  rw [h1, w64 (x := ((half n : Nat) : Int)) (by omega) (by omega), w64 (by omega) (by omega)]
  omega
theorem pairs_loop (ns : List Nat) (h20 : ∀ n ∈ ns, n ≤ 20) (hl : ns.length ≤ 8) (d : Nat) : ∀ (i acc : Nat), i + d = ns.length → acc ≤ 10 * i →
    Ev (fun k => impl_pairsOf.l0 k (acc : Int) (toI ns) ((toI ns).length : Int) (i : Int)) ((acc + pairL (ns.drop i) : Nat) : Int) := by
  have hlen : (toI ns).length = ns.length := by simp [toI]
  induction d with
  | zero =>
    intro i acc hi _
    rw [List.drop_of_length_le (by omega)]
    refine Ev.step (f := fun _ => some (acc : Int)) (fun k => ?_) (Ev.now _)
    simp only [impl_pairsOf.l0]
    rw [if_neg (by omega)]
  | succ d ih =>
    intro i acc hi ha
    have hlt : i < ns.length := by omega
    have hx := h20 _ (List.getElem_mem hlt)
    have hrd : rd (toI ns) (i : Int) = ((ns[i] : Nat) : Int) := by simp [toI, rd, List.getD_eq_getElem?_getD, hlt]
    have hh : half ns[i] ≤ 10 := by unfold half; omega
    have hw := acc_w (acc := acc) (n := ns[i]) (by omega) (by omega)
    have hs := ih (i + 1) (acc + half ns[i]) (by omega) (by omega)
    rw [List.drop_eq_getElem_cons hlt, pairL_cons, ← Nat.add_assoc]
    refine Ev.step (fun k => ?_) hs
    simp only [impl_pairsOf.l0]
    rw [if_pos (by omega), if_pos (by omega), if_pos (by omega), hrd, w64s hlt (by omega)]
    rw [hw]
theorem pairsOf_ev {ns : List Nat} (h20 : ∀ n ∈ ns, n ≤ 20) (hl : ns.length ≤ 8) : Ev (fun k => impl_pairsOf.f k (toI ns)) ((pairL ns : Nat) : Int) := by
  have := pairs_loop ns h20 hl ns.length 0 0 (by omega) (by omega)
  simpa [impl_pairsOf.f] using this
theorem sumN_mono {n m : Nat} {f : Nat → Int} (h : n ≤ m) (h0 : ∀ d, 0 ≤ f d) : sumN n f ≤ sumN m f := by
  obtain ⟨e, rfl⟩ := Nat.exists_eq_add_of_le h
  rw [sumN_split]
  have : 0 ≤ sumN e (fun d => f (n + d)) := sumN_nonneg fun d _ => h0 _
  omega
/-- A colour's sums, where the ways are few. -/
theorem S_step {wt : Nat → Nat → Int} (h0 : ∀ n d, 0 ≤ wt n d) {own : Nat} {r : List Nat} (hb : ∀ k p : Int, T wt half (own :: r) k p ≤ 4611686018427387904) {n : Nat} (hn : n ≤ own) (k p : Nat) :
    wrap64 (S wt own r n k p + wrap64 (wt own n * T wt half r ((k : Int) - n) ((p : Int) - half n))) = S wt own r (n + 1) k p := by
  have hd : ∀ d : Nat, 0 ≤ wt own d * T wt half r ((k : Int) - d) ((p : Int) - half d) := fun d => Int.mul_nonneg (h0 _ _) (T_nonneg h0)
  have h1 : 0 ≤ S wt own r n k p := sumN_nonneg fun d _ => hd d
  have h2 := hd n
  have h3 : S wt own r (n + 1) k p = S wt own r n k p + wt own n * T wt half r ((k : Int) - n) ((p : Int) - half n) := rfl
  have h4 : S wt own r (n + 1) k p ≤ T wt half (own :: r) (k : Int) (p : Int) := sumN_mono (by omega) hd
  have h5 := hb (k : Int) (p : Int)
  generalize wt own n * T wt half r ((k : Int) - n) ((p : Int) - half n) = z at *
  rw [h3] at h4 ⊢
  generalize S wt own r n k p = y at *
  rw [w64 (x := z) (by omega) (by omega), w64 (by omega) (by omega)]
theorem drop_sum (ns : List Nat) (i : Nat) : sumL (ns.drop i) ≤ sumL ns := by
  induction i generalizing ns with
  | zero => exact Nat.le_refl _
  | succ i ih =>
    cases ns with
    | nil => exact Nat.le_refl _
    | cons n l => rw [List.drop_succ_cons, sumL_cons]; have := ih l; omega
theorem drop_cons (ns : List Nat) {i : Nat} (h : i < ns.length) : ns.drop i = ns.getD i 0 :: ns.drop (i + 1) := by
  rw [List.drop_eq_getElem_cons h]
  simp [List.getD_eq_getElem?_getD, h]
end Go.Proofs.Ytnikblimnjpmpaa.X

/- ==== Hchoices ==== -/
namespace Go.Proofs.Ytnikblimnjpmpaa.X
open Go.RowKit Go.Proofs.YtnikblimnjpmpaaW.PrintWords Go.Proofs.YtnikblimnjpmpaaW.PrintLast Go.Proofs.YtnikblimnjpmpaaW.PrintMore

def tabV (A P : Nat) (V : Nat → Nat → Int) : List (List Int) := (List.range (A + 1)).map fun k => numL P (V k)
theorem Mat.S {W : World} {base tb ct : Nat} {rb cp : Nat → Nat} {A P : Nat} {V : Nat → Nat → Int} (h : Mat W base tb ct rb cp A P (A + 1) V) : Kd.S (Kd.slice 3 (Kd.int .i64)) 22 W base (fun _ => True) (.slice (some ⟨tb, 0, none⟩) (A + 1) ct) (tabV A P V) := by
  have hl : (tabV A P V).length = A + 1 := by simp [tabV]
  obtain ⟨f, hr⟩ := Kd.reps_tag (d := Kd.slice 3 (Kd.int .i64)) (w := W) (base := base) (ok := fun k => True ∧ some k ≠ (Value.slice (some ⟨tb, 0, none⟩) (A + 1) ct).ownBlock) (xs := tabV A P V) (inner := tabL A P rb cp (A + 1)) (fun j k => j < A + 1 ∧ k = rb j)
    (fun i j k hi hj => h.inj i j hi.1 hj.1 (by rw [← hi.2, ← hj.2])) (fun j k hk => ⟨trivial, by have := h.tb_ne hk.1; simpa [Value.ownBlock, hk.2] using this⟩) (by simp [tabV, tabL, Kd.slice]) (fun j x hx => by
      have hj : j < A + 1 := by have := (List.getElem?_eq_some_iff.1 hx).1; omega
      have hxe : x = numL P (V j) := by
        simp only [tabV, List.getElem?_map, List.getElem?_range hj, Option.map_some, Option.some.injEq] at hx
        exact hx.symm
      subst hxe
      refine ⟨rowV P rb cp j, ?_, Kd.R_of_own (by
        have := h.row j hj
        simpa [nums, encs, numL] using this) (fun k hk => ⟨hj, ?_⟩)⟩
      · show ((tabL A P rb cp (A + 1)).drop (j * 1)).take 1 = _
        rw [Nat.mul_one, List.drop_eq_getElem_cons (by simp [tabL]; omega)]
        simp [tabL, hj]
      · have : rb j = k := by simpa [rowV, Value.ownBlock] using hk
        exact this.symm)
  exact ⟨f, fun _ _ => trivial, tabL A P rb cp (A + 1), by rw [List.length_zipIdx, hl]; exact h.tab, hr⟩

def nat (l : List Int) : List Nat := l.map Int.toNat
def choV (l : List Int) : List (List Int) := tabV (sumL (nat l)) (pairL (nat l)) fun k p => T wB half (nat l) (k : Int) (p : Int)
def impl_choices.f (l0 : List Int) : Option ((List (List Int))) := if few l0 = true then some (choV l0) else none
theorem weighs61 {A0 : Option Addr} {c0 : Nat} {ns : List Nat} (h20 : ∀ n ∈ ns, n ≤ 20) {w W : World} {b : Nat} (hr : Kd.C (Kd.int .i64) w A0 (toI ns).length (toI ns)) (hb : W.cell? ⟨b, 0, none⟩ = some (.slice A0 (toI ns).length c0)) (hB : Below w.heap.size w W) :
    Weighs 61 #[.pointer (some ⟨b, 0, none⟩)] ns wB W.heap.size W := by
  intro W1 i n hi hn hb1
  have hlen : (toI ns).length = ns.length := by simp [toI]
  show Calls Try.prog 61 #[.int .i64 (i : Int), .int .i64 (n : Int), .pointer (some ⟨b, 0, none⟩)] W1 _
  have hbox := (hb1.cell (World.block_lt_of_cell? W _ hb)).trans hb
  obtain ⟨ad, e1, hx⟩ := Kd.at_int hr (i : Int) (by omega) (by omega)
  subst e1
  have hx1 := (hb1.cell (Nat.lt_of_lt_of_le (World.block_lt_of_cell? w _ hx) hB.size)).trans ((hB.cell (World.block_lt_of_cell? w _ hx)).trans hx)
  have hrd : rd (toI ns) (i : Int) = ((ns.getD i 0 : Nat) : Int) := by simp [toI, rd, List.getD_eq_getElem?_getD, hi]
  have ho : ns.getD i 0 ≤ 20 := by
    have := h20 _ (List.getElem_mem hi)
    simpa [List.getD_eq_getElem?_getD, hi] using this
  rw [hrd, Int.toNat_natCast] at hx1
  generalize ns.getD i 0 = own at *
  have HC := Aside0.mk (fun W => impl_choose.calls 100 (own : Int) (n : Int) (wB own n) W (chkB_at (by omega) hn).1)
  have hiz : (i : Int) < ((toI ns).length : Int) := by omega
  clear hr hb hx hrd hB hb1
  generalize wB own n = v at *
  generalize (toI ns).length = m at *
  go_enter Try.func61, Try.ntmps61
  go_wp2_with (go_at_call 38; refine (HC.out _).mono ?_; rintro e w' ⟨rfl, hb⟩)
  go_ret
  exact ⟨rfl, hb⟩
set_option maxHeartbeats 8000000 in
set_option maxRecDepth 100000 in
theorem impl_choices.calls (A0 : Option Addr) (c0 : Nat) (l0 : List Int) (r : List (List Int)) (w : World) (hr0 : Kd.C (Kd.int .i64) w A0 l0.length l0) (hc0 : l0.length ≤ c0) (h : impl_choices.f l0 = some r) :
    Calls Try.prog 41 #[.slice A0 l0.length c0] w fun e w' => ∃ v0_ : Value, e = .returned (v0_) ∧ Kd.S (Kd.slice 3 (Kd.int .i64)) 22 w' w.heap.size (fun _ => True) v0_ r ∧ Below w.heap.size w w' := by
  unfold impl_choices.f at h
  by_cases hf : few l0 = true
  · rw [if_pos hf] at h
    have h1 := Option.some.inj h
    clear h
    obtain ⟨_, g2, g3, _, _⟩ := few_of hf
    have etot := total_ev g2 g3
    obtain ⟨ns, rfl, h20, hl1, hl8, hs1, hs40, ht⟩ := few_ns hf
    rw [ht] at etot
    obtain ⟨k1, ht1⟩ := etot.rounds
    obtain ⟨k2, hp1⟩ := (pairsOf_ev h20 hl8).rounds
    have hnat : nat (toI ns) = ns := by
      unfold nat toI
      rw [List.map_map]
      have : ns.map (Int.toNat ∘ fun n : Nat => (n : Int)) = ns.map id := List.map_congr_left fun x _ => by simp
      rw [this, List.map_id]
    have hlen : (toI ns).length = ns.length := by simp [toI]
    have hpl := pairL_le ns
    have HCON := Aside0.mk (fun (W : World) (hb : W.cell? ⟨w.heap.size, 0, none⟩ = some (.slice A0 (toI ns).length c0)) (hB : Below w.heap.size w W) =>
      waysOf_calls 61 #[.pointer (some ⟨w.heap.size, 0, none⟩)] (enters_of Try.func61 (by kernel_rfl) rfl) ns wB (sumL ns) (pairL ns) k1 k2 A0 c0 W (by have := Kd.C_below hr0 hB; rw [hlen] at this; exact this) (by omega) (weighs61 h20 hr0 hb hB) hl8 (by omega) (by omega)
        (fun i hi => get_le_sum ns i hi) (fun i n k p hi hn => by
          refine S_step wB_nonneg (fun k p => ?_) hn k p
          rw [← drop_cons ns hi]
          have := T_bound (m := half) (l := ns.drop i) (fun x hx => h20 x (List.mem_of_mem_drop hx)) (Nat.le_trans (drop_sum ns i) hs40) k p
          omega) ht1 hp1)
    rw [hlen] at HCON ⊢
    have hL0 : (0 : Int) < (ns.length : Int) + 1 := by omega
    have H1 := Aside0.mk h1
    have HNAT := Aside0.mk hnat
    clear hr0 hc0 hf g2 g3 ht ht1 hp1 etot h1 hnat hlen h20
    go_enter Try.func41, Try.ntmps41
    go_wp2_with (go_at_call 60; refine (HCON.out _ (by simp) ((Below.refl _ _).alloc (Nat.le_refl _) _)).mono ?_; rintro e w1 ⟨ob, co, tb, ct, rb, cp, xs, rfl, q1, q2, hm, hb⟩; have hcz := (q1.cellAt 0 (by omega)).trans q2; have HM := Aside0.mk (hm.lower (b := w.heap.size) (by simp)); have HB := Aside0.mk (((Below.refl w.heap.size w).alloc (Nat.le_refl _) (.cells #[.slice A0 ns.length c0] 22)).trans (hb.mono (by simp))); clear q1 q2 hm hb)
    go_ret
    refine ⟨_, rfl, ?_, HB.out⟩
    rw [← H1.out]
    unfold choV
    rw [HNAT.out]
    exact HM.out.S
  · rw [if_neg hf] at h
    cases h
end Go.Proofs.Ytnikblimnjpmpaa.X
