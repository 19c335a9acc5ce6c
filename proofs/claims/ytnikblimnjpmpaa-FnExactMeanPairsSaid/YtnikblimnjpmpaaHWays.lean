/- Tables of numbers in memory, and the program's waysOf, for whatever each number of a colour weighs: its contract. -/
import Derived.Test.YtnikblimnjpmpaaX0
import Derived.Lib.Hide
import Derived.Laws.OwnMore
import Derived.Test.YtnikblimnjpmpaaPlSocks
import Derived.Test.YtnikblimnjpmpaaXimplpairsOf
import Derived.Shelf.Abstract
import Derived.StillTailTactics
/- ==== HMat ==== -/
namespace Go.Proofs.Ytnikblimnjpmpaa.X
open Go.RowKit Go.Proofs.YtnikblimnjpmpaaW.PrintWords Go.Proofs.YtnikblimnjpmpaaW.PrintLast Go.Proofs.YtnikblimnjpmpaaW.PrintMore

def rowV (P : Nat) (rb cp : Nat → Nat) (k : Nat) : Value := .slice (some ⟨rb k, 0, none⟩) (P + 1) (cp k)
def tabL (A P : Nat) (rb cp : Nat → Nat) (n : Nat) : List Value := (List.range (A + 1)).map fun k => if k < n then rowV P rb cp k else .slice none 0 0
def numL (P : Nat) (f : Nat → Int) : List Int := (List.range (P + 1)).map f
/-- n rows of P + 1 numbers V have been made, of A + 1. -/
structure Mat (W : World) (base tb ct : Nat) (rb cp : Nat → Nat) (A P n : Nat) (V : Nat → Nat → Int) : Prop where
  tab : W.ownsRow base 22 1 (.slice (some ⟨tb, 0, none⟩) (A + 1) ct) (A + 1) (tabL A P rb cp n)
  row : ∀ k, k < n → W.ownsRow base 3 1 (rowV P rb cp k) (P + 1) (nums .i64 (numL P (V k)))
  inj : ∀ k l, k < n → l < n → rb k = rb l → k = l
section
variable {W W1 : World} {base tb ct : Nat} {rb cp : Nat → Nat} {A P n : Nat} {V : Nat → Nat → Int}
theorem Mat.below (h : Mat W base tb ct rb cp A P n V) (hb : Below W.heap.size W W1) : Mat W1 base tb ct rb cp A P n V := ⟨pw_own_below h.tab hb, fun k hk => pw_own_below (h.row k hk) hb, h.inj⟩
theorem Mat.lower {b : Nat} (h : Mat W base tb ct rb cp A P n V) (hb : b ≤ base) : Mat W b tb ct rb cp A P n V := ⟨own_weaken h.tab hb, fun k hk => own_weaken (h.row k hk) hb, h.inj⟩
theorem Mat.tbase (h : Mat W base tb ct rb cp A P n V) : base ≤ tb ∧ tb < W.heap.size := h.tab.lt tb rfl
theorem Mat.rbase (h : Mat W base tb ct rb cp A P n V) {k : Nat} (hk : k < n) : base ≤ rb k ∧ rb k < W.heap.size := (h.row k hk).lt (rb k) rfl
theorem tabL_get {k : Nat} (hk : k ≤ A) : (tabL A P rb cp n)[k]? = some (if k < n then rowV P rb cp k else .slice none 0 0) := by simp [tabL, show k < A + 1 by omega]
theorem Mat.cellT (h : Mat W base tb ct rb cp A P n V) {k : Nat} (hk : k ≤ A) (hn : k < n) : W.cell? ⟨tb, k, none⟩ = some (.slice (some ⟨rb k, 0, none⟩) (P + 1) (cp k)) := by
  rw [h.tab.cellAt k (by omega), tabL_get hk, if_pos hn]
  rfl
theorem Mat.cellN (h : Mat W base tb ct rb cp A P n V) {k : Nat} (hk : k ≤ A) (hn : ¬ k < n) : W.cell? ⟨tb, k, none⟩ = some (.slice none 0 0) ∧ W.frozen? ⟨tb, k, none⟩ = false := by
  rw [h.tab.cellAt k (by omega), tabL_get hk, if_neg hn]
  exact ⟨rfl, h.tab.frozenAt k⟩
theorem numL_get (f : Nat → Int) {p : Nat} (hp : p ≤ P) : (nums .i64 (numL P f))[p]? = some (.int .i64 (f p)) := by simp [nums, numL, show p < P + 1 by omega]
theorem Mat.cellR (h : Mat W base tb ct rb cp A P n V) {k p : Nat} (hk : k < n) (hp : p ≤ P) : W.cell? ⟨rb k, p, none⟩ = some (.int .i64 (V k p)) ∧ W.frozen? ⟨rb k, p, none⟩ = false := by
  have hr := h.row k hk
  unfold rowV at hr
  rw [hr.cellAt p (by omega), numL_get _ hp]
  exact ⟨rfl, hr.frozenAt p⟩
theorem Mat.tb_ne (h : Mat W base tb ct rb cp A P n V) {k : Nat} (hk : k < n) : rb k ≠ tb := by
  rcases own_type_ne (h.row k hk) h.tab (by decide) with h1 | h1
  · simp [rowV, Value.ownBlock] at h1
  · simpa [rowV, Value.ownBlock] using h1
/-- A store elsewhere. -/
theorem Mat.other (h : Mat W base tb ct rb cp A P n V) {p : Addr} (h1 : p.block ≠ tb) (h2 : ∀ k, k < n → p.block ≠ rb k) (u : Value) : Mat (W.setCell p u) base tb ct rb cp A P n V :=
  ⟨own_setCell h.tab (by simpa [Value.ownBlock] using h1) u, fun k hk => own_setCell (h.row k hk) (by simpa [rowV, Value.ownBlock] using h2 k hk) u, h.inj⟩
def updV (V : Nat → Nat → Int) (k p : Nat) (x : Int) : Nat → Nat → Int := fun j q => if j = k ∧ q = p then x else V j q
theorem numL_set (f : Nat → Int) (p : Nat) (x : Int) : (numL P f).set p x = numL P (fun q => if q = p then x else f q) := by
  apply List.ext_getElem?
  intro j
  by_cases hj : j < P + 1
  · by_cases e : j = p
    · subst e
      rw [List.getElem?_set_self (by simpa [numL] using hj)]
      simp [numL, hj]
    · rw [List.getElem?_set_ne (Ne.symm e)]
      simp [numL, hj, e]
  · rw [List.getElem?_eq_none (by simp [numL]; omega), List.getElem?_eq_none (by simp [numL]; omega)]
theorem Mat.set (h : Mat W base tb ct rb cp A P n V) {k p : Nat} (hk : k < n) (x : Int) : Mat (W.setCell ⟨rb k, p, none⟩ (.int .i64 x)) base tb ct rb cp A P n (updV V k p x) := by
  refine ⟨own_setCell h.tab (by simpa [Value.ownBlock] using h.tb_ne hk) _, fun j hj => ?_, h.inj⟩
  by_cases e : j = k
  · subst e
    have hr := h.row j hj
    unfold rowV at hr ⊢
    have := (hr.stored p (.int .i64 x)).1
    have e2 : (nums .i64 (numL P (V j))).set p (.int .i64 x) = nums .i64 (numL P (updV V j p x j)) := by
      have e3 : (nums .i64 (numL P (V j))).set p (.int .i64 x) = nums .i64 ((numL P (V j)).set p x) := by simp [nums, List.map_set]
      rw [e3, numL_set]
      congr 2
      funext q
      simp [updV]
    rw [e2] at this
    exact this
  · have e2 : updV V k p x j = V j := by funext q; simp [updV, e]
    rw [e2]
    exact own_setCell (h.row j hj) (by simpa [rowV, Value.ownBlock] using fun e3 => e (h.inj j k hj hk e3.symm)) _
/-- A row more. -/
theorem Mat.add (h : Mat W base tb ct rb cp A P n V) (hn : n ≤ A) {W2 : World} (hb : Below W.heap.size W W2) {g cap : Nat} (hg : W.heap.size ≤ g) (hr : W2.ownsRow base 3 1 (.slice (some ⟨g, 0, none⟩) (P + 1) cap) (P + 1) (nums .i64 (numL P (V n)))) :
    Mat (W2.setCell ⟨tb, n, none⟩ (.slice (some ⟨g, 0, none⟩) (P + 1) cap)) base tb ct (fun k => if k = n then g else rb k) (fun k => if k = n then cap else cp k) A P (n + 1) V := by
  have h2 := h.below hb
  have hgt : g ≠ tb := by have := h.tbase; omega
  refine ⟨?_, fun k hk => ?_, fun k l hk hl e => ?_⟩
  · have := (h2.tab.stored n (.slice (some ⟨g, 0, none⟩) (P + 1) cap)).1
    have e2 : (tabL A P rb cp n).set n (.slice (some ⟨g, 0, none⟩) (P + 1) cap) = tabL A P (fun k => if k = n then g else rb k) (fun k => if k = n then cap else cp k) (n + 1) := by
      apply List.ext_getElem?
      intro j
      by_cases hj : j < A + 1
      · by_cases e : j = n
        · subst e
          rw [List.getElem?_set_self (by simpa [tabL] using hj), tabL_get (by omega), if_pos (by omega)]
          simp [rowV]
        · rw [List.getElem?_set_ne (Ne.symm e), tabL_get (by omega), tabL_get (by omega)]
          by_cases e3 : j < n
          · rw [if_pos e3, if_pos (by omega)]
            simp [rowV, e]
          · rw [if_neg e3, if_neg (by omega)]
      · rw [List.getElem?_eq_none (by simp [tabL]; omega), List.getElem?_eq_none (by simp [tabL]; omega)]
    rw [e2] at this
    exact this
  · by_cases e : k = n
    · subst e
      have : rowV P (fun j => if j = k then g else rb j) (fun j => if j = k then cap else cp j) k = .slice (some ⟨g, 0, none⟩) (P + 1) cap := by simp [rowV]
      rw [this]
      exact own_setCell hr (by simpa [Value.ownBlock] using Ne.symm hgt) _
    · have : rowV P (fun j => if j = n then g else rb j) (fun j => if j = n then cap else cp j) k = rowV P rb cp k := by simp [rowV, e]
      rw [this]
      exact own_setCell (h2.row k (by omega)) (by simpa [rowV, Value.ownBlock] using Ne.symm (h2.tb_ne (show k < n by omega))) _
  · have hk2 : ∀ j, j < n → rb j ≠ g := fun j hj => by have := (h.rbase hj).2; omega
    by_cases e1 : k = n <;> by_cases e2 : l = n
    · omega
    · simp [e1, e2] at e; exact absurd e.symm (hk2 l (by omega))
    · simp [e1, e2] at e; exact absurd e (hk2 k (by omega))
    · simp [e1, e2] at e; exact h.inj k l (by omega) (by omega) e
end
theorem own_form {W : World} {base e n : Nat} {v : Value} {xs : List Value} (h : W.ownsRow base e 1 v n xs) (hn : 0 < n) : ∃ g cap, v = .slice (some ⟨g, 0, none⟩) n cap := by
  rcases h.2 with ⟨_, h0⟩ | ⟨g, cap, _, rfl, _⟩
  · omega
  · exact ⟨g, cap, rfl⟩

theorem mk_len {α : Type} (A : Nat) (x : α) : (List.replicate ((A : Int) + 1).toNat x).length = A + 1 := by simp
theorem start_tab (A P : Nat) (rb cp : Nat → Nat) : encs (fun _ : Unit => Value.slice none 0 0) (List.replicate ((A : Int) + 1).toNat ()) = tabL A P rb cp 0 := by
  rw [show ((A : Int) + 1).toNat = A + 1 by omega]
  simp [encs, tabL, List.map_const']
theorem start_row (P : Nat) : encs (Value.int .i64) (List.replicate ((P : Int) + 1).toNat (0 : Int)) = nums .i64 (numL P fun _ => 0) := by
  rw [show ((P : Int) + 1).toNat = P + 1 by omega]
  simp [encs, nums, numL, List.map_const']

def TableMade (w : World) (A P : Nat) (e : Ending) (w' : World) : Prop := ∃ (tb ct : Nat) (rb cp : Nat → Nat), e = .returned (.slice (some ⟨tb, 0, none⟩) (A + 1) ct) ∧ Mat w' w.heap.size tb ct rb cp A P (A + 1) (fun _ _ => 0) ∧ Below w.heap.size w w'
set_option maxHeartbeats 4000000 in
set_option maxRecDepth 100000 in
theorem table_calls (p5 p6 A P : Nat) (w : World) (h5 : w.cell? ⟨p5, 0, none⟩ = some (.int .i64 (A : Int))) (h6 : w.cell? ⟨p6, 0, none⟩ = some (.int .i64 (P : Int))) (hA : A ≤ 200) (hP : P ≤ 200) :
    Calls Try.prog 69 #[.pointer (some ⟨p5, 0, none⟩), .pointer (some ⟨p6, 0, none⟩)] w (TableMade w A P) := by
  have H6 := Aside0.mk h6
  go_enter Try.func69, Try.ntmps69
  go_wp2_with (((with_reducible refine gate_dst (N := 7) rfl ?_); refine Kd.R_make (Kd.scalar (fun _ : Unit => Value.slice none 0 0) (fun _ => rfl)) w.heap.size 22 rfl (N := 7) rfl 44 _ _ rfl ((A : Int) + 1) rfl rfl Try.underlying44 (.slice none 0 0) 24 info22 rfl (by decide) (by omega) () (ok := fun _ => True) (okp := fun _ => True) rfl (fun _ hk => hk) trivial (by omega) (by omega) (Below.refl _ _) (Nat.le_refl _) ?_; intro v7 w3 ho hb hg_ hnew_; clear hg_ hnew_; have own := Kd.own_of_R ho; rw [mk_len, start_tab A P (fun _ => 0) (fun _ => 0)] at own; obtain ⟨tb, ct, rfl⟩ := own_form own (by omega); have OWN := Aside0.mk own; have HB := Aside0.mk hb; clear ho hb own))
  clear h6
  go_loopg [4, 10] (A + 1) (fun gg _ s10 wr => ∃ (kk : Nat) (rb cp : Nat → Nat), kk ≤ A + 1 ∧ A + 1 - kk ≤ gg ∧ s10 = .int .i64 kk ∧ Aside0 (Mat wr w.heap.size tb ct rb cp A P kk (fun _ _ => 0)) ∧ Aside0 (Below w.heap.size w wr))
  case atStart => exact ⟨0, fun _ => 0, fun _ => 0, Nat.zero_le _, by omega, rfl, ⟨⟨OWN.out, fun k hk => by omega, fun k l hk => by omega⟩⟩, HB⟩
  case round =>
    clear OWN HB
    obtain ⟨kk, rb, cp, hkk, hgg, rfl, HM, HB⟩ := hrel
    by_cases hlt : kk < A + 1
    · have hltz : (kk : Int) < (A : Int) + 1 := by omega
      have h6r := (HB.out.cell (World.block_lt_of_cell? w _ H6.out)).trans H6.out
      obtain ⟨hc, hf⟩ := HM.out.cellN (k := kk) (by omega) (by omega)
      have HC := Aside0.mk hc
      have HF := Aside0.mk hf
      clear hc hf
      go_wp2_with (((with_reducible refine gate_dst (N := 17) rfl ?_); refine Kd.R_make (Kd.int .i64) wr.heap.size 3 rfl (N := 17) rfl 22 _ _ rfl ((P : Int) + 1) rfl rfl Try.underlying22 (.int .i64 0) 8 info3 rfl (by decide) (by omega) 0 (ok := fun _ => True) (okp := fun _ => True) rfl (fun _ hk => hk) trivial (by omega) (by omega) (Below.refl _ _) (Nat.le_refl _) ?_; intro v17 w13 ho hb hg_ hnew_; clear hg_ hnew_; have own := Kd.own_of_R ho; rw [mk_len, start_row] at own; obtain ⟨g, cap, rfl⟩ := own_form own (by omega); have OWN := Aside0.mk own; have HB2 := Aside0.mk hb; have hcz := (hb.cell (World.block_lt_of_cell? wr _ HC.out)).trans HC.out; have hfz := (hb.frozen (World.block_lt_of_cell? wr _ HC.out)).trans HF.out; clear ho hb own))
      go_roundg (A + 1 - (kk + 1))
      case measure => omega
      case rel => exact ⟨kk + 1, _, _, by omega, by omega, by go_num, ⟨HM.out.add (by omega) HB2.out (OWN.out.lt g rfl).1 (own_weaken OWN.out HB.out.size)⟩, ⟨below_set (HB.out.trans (HB2.out.mono HB.out.size)) HM.out.tbase.1⟩⟩
    · have hltz : ¬ (kk : Int) < (A : Int) + 1 := by omega
      obtain rfl : kk = A + 1 := by omega
      go_wp2
      go_ret
      exact ⟨tb, ct, rb, cp, rfl, HM.out, HB.out⟩
end Go.Proofs.Ytnikblimnjpmpaa.X

/- ==== HWays ==== -/
namespace Go.Proofs.Ytnikblimnjpmpaa.X
open Go.RowKit Go.Proofs.YtnikblimnjpmpaaW.PrintWords Go.Proofs.YtnikblimnjpmpaaW.PrintLast Go.Proofs.YtnikblimnjpmpaaW.PrintMore

def half (d : Nat) : Nat := d / 2
/-- What each number of a colour weighs, told by a function value. -/
def Weighs (g : Nat) (lb : Array Value) (ns : List Nat) (wt : Nat → Nat → Int) (B : Nat) (w : World) : Prop := ∀ (W : World) (i n : Nat), i < ns.length → n ≤ ns.getD i 0 → Below B w W →
  Calls Try.prog g (#[.int .i64 (i : Int), .int .i64 (n : Int)] ++ lb) W fun e w' => e = .returned (.int .i64 (wt (ns.getD i 0) n)) ∧ Below W.heap.size W w'
/-- The table of the first colour, with a row of tables. -/
def WaysMade (w : World) (L A P : Nat) (V : Nat → Nat → Int) (e : Ending) (w' : World) : Prop := ∃ (ob co tb ct : Nat) (rb cp : Nat → Nat) (xs : List Value), e = .returned (.slice (some ⟨ob, 0, none⟩) (L + 1) co) ∧
  w'.ownsRow w.heap.size 44 1 (.slice (some ⟨ob, 0, none⟩) (L + 1) co) (L + 1) xs ∧ xs[0]? = some (.slice (some ⟨tb, 0, none⟩) (A + 1) ct) ∧ Mat w' w.heap.size tb ct rb cp A P (A + 1) V ∧ Below w.heap.size w w'
theorem mk_len1 {α : Type} (n : Nat) (x : α) : (List.replicate ((n : Int) + 1).toNat x).length = n + 1 := by simp

/-- The ways of a colour, its first n numbers alone. -/
def S (wt : Nat → Nat → Int) (own : Nat) (r : List Nat) (n k p : Nat) : Int := sumN n fun d => wt own d * T wt half r ((k : Int) - d) ((p : Int) - half d)
theorem S_low {wt : Nat → Nat → Int} {own : Nat} {r : List Nat} {n k p : Nat} (h : k < n ∨ p < half n) : S wt own r (n + 1) k p = S wt own r n k p := by
  unfold S
  simp only [sumN]
  rw [T_neg (by omega)]
  simp
structure WSt (w3 W : World) (B0 L A P ob co j tb ct : Nat) (rb cp : Nat → Nat) (V : Nat → Nat → Int) : Prop where
  out : ∃ xs, W.ownsRow B0 44 1 (.slice (some ⟨ob, 0, none⟩) (L + 1) co) (L + 1) xs ∧ xs[j]? = some (.slice (some ⟨tb, 0, none⟩) (A + 1) ct)
  mat : Mat W B0 tb ct rb cp A P (A + 1) V
  bel : Below B0 w3 W
structure WIn (w3 W : World) (B0 L A P ob co i s tn cn : Nat) (rn pn : Nat → Nat) (Vn : Nat → Nat → Int) (tb ct : Nat) (rb cp : Nat → Nat) (V : Nat → Nat → Int) : Prop where
  out : ∃ xs, W.ownsRow B0 44 1 (.slice (some ⟨ob, 0, none⟩) (L + 1) co) (L + 1) xs ∧ xs[i]? = some (.slice (some ⟨tn, 0, none⟩) (A + 1) cn) ∧ xs[i + 1]? = some (.slice (some ⟨tb, 0, none⟩) (A + 1) ct)
  cur : Mat W s tn cn rn pn A P (A + 1) Vn
  old : Mat W B0 tb ct rb cp A P (A + 1) V
  sep : ob < s ∧ tb < s ∧ (∀ k, k < A + 1 → rb k < s) ∧ B0 ≤ s
  bel : Below B0 w3 W
section
variable {w3 W W1 : World} {B0 L A P ob co i s tn cn tb ct : Nat} {rn pn rb cp : Nat → Nat} {Vn V : Nat → Nat → Int}
theorem WIn.below (h : WIn w3 W B0 L A P ob co i s tn cn rn pn Vn tb ct rb cp V) (hB : B0 ≤ W.heap.size) (hb : Below W.heap.size W W1) : WIn w3 W1 B0 L A P ob co i s tn cn rn pn Vn tb ct rb cp V := by
  obtain ⟨xs, h1, h2, h3⟩ := h.out
  exact ⟨⟨xs, pw_own_below h1 hb, h2, h3⟩, h.cur.below hb, h.old.below hb, h.sep, h.bel.trans (hb.mono hB)⟩
theorem WIn.set (h : WIn w3 W B0 L A P ob co i s tn cn rn pn Vn tb ct rb cp V) {k : Nat} (hk : k ≤ A) (p : Nat) (x : Int) : WIn w3 (W.setCell ⟨rn k, p, none⟩ (.int .i64 x)) B0 L A P ob co i s tn cn rn pn (updV Vn k p x) tb ct rb cp V := by
  obtain ⟨xs, h1, h2, h3⟩ := h.out
  have hs := (h.cur.rbase (k := k) (by omega)).1
  obtain ⟨s1, s2, s3, s4⟩ := h.sep
  refine ⟨⟨xs, own_setCell h1 (by simpa [Value.ownBlock] using (by omega : rn k ≠ ob)) _, h2, h3⟩, h.cur.set (by omega) x, h.old.other (by show rn k ≠ tb; omega) (fun j hj => by have := s3 j hj; show rn k ≠ rb j; omega) _, h.sep, h.bel.setCell (by show B0 ≤ rn k; omega) _⟩
/-- What the walk reads. -/
theorem WIn.cells (h : WIn w3 W B0 L A P ob co i s tn cn rn pn Vn tb ct rb cp V) (hi : i < L) {k p kd pd : Nat} (hk : k ≤ A) (hp : p ≤ P) (hkd : kd ≤ A) (hpd : pd ≤ P) :
    W.cell? ⟨ob, i, none⟩ = some (.slice (some ⟨tn, 0, none⟩) (A + 1) cn) ∧ W.cell? ⟨ob, i + 1, none⟩ = some (.slice (some ⟨tb, 0, none⟩) (A + 1) ct) ∧ W.cell? ⟨tn, k, none⟩ = some (.slice (some ⟨rn k, 0, none⟩) (P + 1) (pn k)) ∧
      W.cell? ⟨tb, kd, none⟩ = some (.slice (some ⟨rb kd, 0, none⟩) (P + 1) (cp kd)) ∧ W.cell? ⟨rn k, p, none⟩ = some (.int .i64 (Vn k p)) ∧ W.frozen? ⟨rn k, p, none⟩ = false ∧ W.cell? ⟨rb kd, pd, none⟩ = some (.int .i64 (V kd pd)) := by
  obtain ⟨xs, h1, h2, h3⟩ := h.out
  obtain ⟨c1, c2⟩ := h.cur.cellR (k := k) (p := p) (by omega) hp
  exact ⟨by rw [h1.cellAt i (by omega)]; exact h2, by rw [h1.cellAt (i + 1) (by omega)]; exact h3, h.cur.cellT hk (by omega), h.old.cellT hkd (by omega), c1, c2, (h.old.cellR (by omega) hpd).1⟩
end
theorem nil_at {W : World} {base ob co L : Nat} (h : W.ownsRow base 44 1 (.slice (some ⟨ob, 0, none⟩) (L + 1) co) (L + 1) (encs (fun _ : Unit => Value.slice none 0 0) (List.replicate ((L : Int) + 1).toNat ()))) : W.cell? ⟨ob, L, none⟩ = some (.slice none 0 0) := by
  rw [h.cellAt L (by omega), show ((L : Int) + 1).toNat = L + 1 by omega]
  simp [encs]
set_option maxHeartbeats 8000000 in
set_option maxRecDepth 100000 in
theorem waysOf_calls (g : Nat) (lb : Array Value) (eg : ∀ args w, (callFunc g args).run Try.prog w = .ok (.enter g args) w) (ns : List Nat) (wt : Nat → Nat → Int) (A P k1 k2 : Nat) (A0 : Option Addr) (c0 : Nat) (w : World)
    (hr : Kd.C (Kd.int .i64) w A0 ns.length (toI ns)) (hc0 : ns.length ≤ c0) (hw : Weighs g lb ns wt w.heap.size w) (hL : ns.length ≤ 8) (hA : A ≤ 200) (hP : P ≤ 200) (hown : ∀ i : Nat, i < ns.length → ns.getD i 0 ≤ A ∧ half (ns.getD i 0) ≤ P)
    (hstep : ∀ i n k p : Nat, i < ns.length → n ≤ ns.getD i 0 → wrap64 (S wt (ns.getD i 0) (ns.drop (i + 1)) n k p + wrap64 (wt (ns.getD i 0) n * T wt half (ns.drop (i + 1)) ((k : Int) - n) ((p : Int) - half n))) = S wt (ns.getD i 0) (ns.drop (i + 1)) (n + 1) k p)
    (ht : impl_total.f k1 (toI ns) = some (A : Int)) (hp : impl_pairsOf.f k2 (toI ns) = some (P : Int)) :
    Calls Try.prog 60 #[.slice A0 ns.length c0, .func (.func g) #[] lb] w (WaysMade w ns.length A P (fun k p => T wt half ns (k : Int) (p : Int))) := by
  have hlen : (toI ns).length = ns.length := by simp [toI]
  have HR := Aside0.mk (show Kd.C (Kd.int .i64) w A0 (toI ns).length (toI ns) by rw [hlen]; exact hr)
  have HC := Aside0.mk (show (toI ns).length ≤ c0 by omega)
  have HW := Aside0.mk hw
  have HT := Aside0.mk ht
  have HP := Aside0.mk hp
  have HLEN := Aside0.mk hlen
  have HOWN := Aside0.mk hown
  have HSTEP := Aside0.mk hstep
  clear hr hc0 hw ht hp hlen hown hstep
  generalize hL0 : ns.length = L at *
  have HL0 := Aside0.mk hL0
  clear hL0
  have e69 : ∀ args w, (callFunc 69 args).run Try.prog w = .ok (.enter 69 args) w := enters_of Try.func69 (by kernel_rfl) rfl
  go_enter Try.func60, Try.ntmps60
  go_wp2_with (first | (go_at_call 40; have hcon := impl_total.calls k1 A0 c0 (toI ns) (A : Int) w HR.out HC.out HT.out; rw [HLEN.out] at hcon; refine hcon.mono ?_; rintro e w1 ⟨rfl, hb⟩; have HB1 := Aside0.mk hb.below; clear hb hcon) | (go_at_call 68; have hcon := impl_pairsOf.calls k2 A0 c0 (toI ns) (P : Int) w1 (Kd.C_below HR.out HB1.out) HC.out HP.out; rw [HLEN.out] at hcon; refine hcon.mono ?_; rintro e w2 ⟨rfl, hb⟩; have HB2 := Aside0.mk (HB1.out.trans (hb.below.mono HB1.out.size)); clear hb hcon) | ((with_reducible refine gate_dst (N := 22) rfl ?_); refine Kd.R_make (Kd.scalar (fun _ : Unit => Value.slice none 0 0) (fun _ => rfl)) _ 44 rfl (N := 22) rfl 54 _ _ rfl ((L : Int) + 1) rfl rfl Try.underlying54 (.slice none 0 0) 24 info44 rfl (by decide) (by omega) () (ok := fun _ => True) (okp := fun _ => True) rfl (fun _ hk => hk) trivial (by omega) (by omega) (Below.refl _ _) (Nat.le_refl _) ?_; intro v22 w3 ho hb hg_ hnew_; clear hg_ hnew_; have own := Kd.own_of_R ho; rw [mk_len] at own; obtain ⟨ob, co, rfl⟩ := own_form own (by omega); have OWN := Aside0.mk (own_weaken (base' := w2.heap.size + 2) own (by simp)); have HB3 := Aside0.mk (show Below w.heap.size w w3 from (HB2.out.trans ((((Below.refl _ _).alloc (Nat.le_refl _) _).alloc (by simp) _).trans (hb.mono (by simp; omega)) |>.mono HB2.out.size))); have h5 : w3.cell? ⟨w2.heap.size, 0, none⟩ = some (.int .i64 (A : Int)) := (hb.cell (p := ⟨w2.heap.size, 0, none⟩) (by simp; omega)).trans (by simp); have h6 : w3.cell? ⟨w2.heap.size + 1, 0, none⟩ = some (.int .i64 (P : Int)) := (hb.cell (p := ⟨w2.heap.size + 1, 0, none⟩) (by simp)).trans (by simp); have hz3 : w2.heap.size + 2 ≤ w3.heap.size := (by have := hb.size; simp at this; omega); clear ho hb own) | (go_at_call 69; refine (table_calls w2.heap.size (w2.heap.size + 1) A P w3 h5 h6 hA hP).mono ?_; rintro e w4 ⟨tb, ct, rb, cp, rfl, hm, hb⟩; have hob := OWN.out.lt ob rfl; have htb := hm.tbase; have hrb := hm.rbase (k := 0) (by omega); have hco := (hb.cell (p := ⟨ob, L, none⟩) hob.2).trans (nil_at OWN.out); have hfo := (hb.frozen (p := ⟨ob, L, none⟩) hob.2).trans (OWN.out.frozenAt L); have hct := hm.cellT (k := 0) (by omega) (by omega); obtain ⟨hcr, hfr⟩ := hm.cellR (k := 0) (p := 0) (by omega) (by omega); have hn1 : tb ≠ ob := (by omega); have hn2 : ob ≠ tb := (by omega); have hn3 : rb 0 ≠ ob := (by omega); have hn4 : ob ≠ rb 0 := (by omega); have hn5 : rb 0 ≠ tb := hm.tb_ne (by omega); have hn6 : tb ≠ rb 0 := Ne.symm hn5; have HM := Aside0.mk hm; have HB4 := Aside0.mk hb; have HOB := Aside0.mk hob; have HTB := Aside0.mk htb; have HRB := Aside0.mk hrb; clear hm hb hob htb hrb))
  generalize hp5 : w2.heap.size = p5 at *
  have HP5 := Aside0.mk hp5
  have H5 := Aside0.mk h5
  have H6 := Aside0.mk h6
  have hz3' := hz3
  have HST : Aside0 (WSt w3 ((w4.setCell ⟨ob, L, none⟩ (.slice (some ⟨tb, 0, none⟩) (A + 1) ct)).setCell ⟨rb 0, 0, none⟩ (.int .i64 1)) (p5 + 2) L A P ob co L tb ct rb cp (updV (fun _ _ => 0) 0 0 1)) := by
    have ho1 := (pw_own_below OWN.out HB4.out).stored L (.slice (some ⟨tb, 0, none⟩) (A + 1) ct)
    have hm1 := (HM.out.lower (b := p5 + 2) hz3).other (p := ⟨ob, L, none⟩) hn2 (fun k hk => by have := (HM.out.rbase hk).1; have := HOB.out; show ob ≠ rb k; omega) (.slice (some ⟨tb, 0, none⟩) (A + 1) ct)
    refine ⟨⟨⟨_, own_setCell ho1.1 (by simpa [Value.ownBlock] using hn3) _, ?_⟩, hm1.set (by omega) 1, ((HB4.out.mono hz3).setCell (by exact HOB.out.1) _).setCell (by have := HRB.out; show p5 + 2 ≤ rb 0; omega) _⟩⟩
    rw [List.getElem?_set_self (by simp [encs])]
  clear hp5 h5 h6 hco hfo hct hcr hfr hn1 hn2 hn3 hn4 hn5 hn6
  go_loopg [9, 10, 11, 12, 13] L (fun gg s9 _ _ _ _ wr => ∃ (j tb ct : Nat) (rb cp : Nat → Nat) (V : Nat → Nat → Int), j ≤ L ∧ j ≤ gg ∧ s9 = .int .i64 ((j : Int) - 1) ∧ Aside0 (WSt w3 wr (p5 + 2) L A P ob co j tb ct rb cp V) ∧ Aside0 (∀ k p, k ≤ A → p ≤ P → V k p = T wt half (ns.drop j) (k : Int) (p : Int)))
  case atStart =>
    refine ⟨L, tb, ct, rb, cp, _, Nat.le_refl _, Nat.le_refl _, rfl, HST, ⟨fun k p hk hp => ?_⟩⟩
    rw [List.drop_of_length_le (by have := HL0.out; omega)]
    simp only [T, updV]
    by_cases q : k = 0 ∧ p = 0
    · rw [if_pos q, if_pos (by omega)]
    · rw [if_neg q, if_neg (by omega)]
  case round =>
    clear HST HM HB4 HOB HTB HRB
    obtain ⟨j, tb2, ct2, rb2, cp2, V, hj, hgg, rfl, HST, HV⟩ := hrel
    by_cases hlt : 0 < j
    · obtain ⟨i, rfl⟩ : ∃ i, j = i + 1 := ⟨j - 1, by omega⟩
      have e0 : ((i + 1 : Nat) : Int) - 1 = (i : Int) := by omega
      rw [e0]
      have hilt : i < L := by omega
      have hiz : (i : Int) < (L : Int) + 1 := by omega
      have hiz2 : (i : Int) < (L : Int) := by omega
      have hszr : p5 + 2 ≤ wr.heap.size := Nat.le_trans hz3 HST.out.bel.size
      have h5 := (HST.out.bel.cell (p := ⟨p5, 0, none⟩) (by show p5 < p5 + 2; omega)).trans H5.out
      have h6 := (HST.out.bel.cell (p := ⟨p5 + 1, 0, none⟩) (by show p5 + 1 < p5 + 2; omega)).trans H6.out
      have HIN : ∃ xs, Aside0 (wr.ownsRow (p5 + 2) 44 1 (.slice (some ⟨ob, 0, none⟩) (L + 1) co) (L + 1) xs ∧ xs[i + 1]? = some (.slice (some ⟨tb2, 0, none⟩) (A + 1) ct2)) := by
        obtain ⟨xs, q1, q2⟩ := HST.out.out
        exact ⟨xs, ⟨q1, q2⟩⟩
      obtain ⟨xs, HXS⟩ := HIN
      have hxl : xs.length = L + 1 := by have := HXS.out.1.1; omega
      obtain ⟨ad1, e1, hx1⟩ := Kd.at_int HR.out (i : Int) (by omega) (by have := HLEN.out; omega)
      cases e1
      have hbw : Below w.heap.size w wr := HB3.out.trans (HST.out.bel.mono (by have := HP5.out; have := HB2.out.size; omega))
      have hrdv : rd (toI ns) (i : Int) = ((ns.getD i 0 : Nat) : Int) := by
        have := HL0.out
        simp [toI, rd, List.getD_eq_getElem?_getD, show i < ns.length by omega]
      rw [hrdv] at hx1
      have hadlt : (ad1.add (i : Int).toNat).block < w.heap.size := World.block_lt_of_cell? w _ hx1
      have hx1r := (hbw.cell hadlt).trans hx1
      rw [Int.toNat_natCast] at hx1r hadlt
      obtain ⟨ho1, ho2⟩ := HOWN.out i hilt
      generalize hown0 : ns.getD i 0 = own at *
      have HOWN0 := Aside0.mk hown0
      have HBW := Aside0.mk hbw
      have hob1 := HXS.out.1.lt ob rfl
      have hadn : (ad1.add i).block ≠ ob := by have := HP5.out; have := HB2.out.size; omega
      have hadn2 : ob ≠ (ad1.add i).block := Ne.symm hadn
      have hown1 : own ≤ 200 := by omega
      clear hx1 hrdv hown0 hbw e0
      go_wp2_with (go_at_call 69; refine (table_calls p5 (p5 + 1) A P wr h5 h6 hA hP).mono ?_; rintro e w4 ⟨tn, cn, rn, pn, rfl, hm, hb⟩; have hob := HXS.out.1.lt ob rfl; have hco := (hb.cell (p := ⟨ob, i, none⟩) hob.2).trans (HXS.out.1.cellAt i (by omega)); rw [List.getElem?_eq_getElem (show i < xs.length by omega)] at hco; have hfo := (hb.frozen (p := ⟨ob, i, none⟩) hob.2).trans (HXS.out.1.frozenAt i); have hx4 := (hb.cell (Nat.lt_of_lt_of_le hadlt HBW.out.size)).trans hx1r; have hx5 : (w4.setCell ⟨ob, i, none⟩ (.slice (some ⟨tn, 0, none⟩) (A + 1) cn)).cell? (ad1.add i) = some (.int .i64 (own : Int)) := (World.cell?_setCell_other _ _ _ _ (by intro e; first | exact hadn (congrArg Addr.block e) | exact hadn2 (congrArg Addr.block e))).trans hx4; have HM := Aside0.mk hm; have HB4 := Aside0.mk hb; clear hm hb hob)
      have HX := Aside0.mk hx5
      have HIN2 : Aside0 (WIn w3 (w4.setCell ⟨ob, i, none⟩ (.slice (some ⟨tn, 0, none⟩) (A + 1) cn)) (p5 + 2) L A P ob co i wr.heap.size tn cn rn pn (fun _ _ => 0) tb2 ct2 rb2 cp2 V) := by
        have hs1 := (pw_own_below HXS.out.1 HB4.out).stored i (.slice (some ⟨tn, 0, none⟩) (A + 1) cn)
        have ho3 := HXS.out.1.lt ob rfl
        have hold := HST.out.mat
        refine ⟨⟨_, hs1.1, List.getElem?_set_self (by omega), ?_⟩, HM.out.other (by have := HM.out.tbase; show ob ≠ tn; omega) (fun k hk => by have := (HM.out.rbase hk).1; show ob ≠ rn k; omega) _, (hold.below HB4.out).other ?_ (fun k hk => ?_) _, ⟨ho3.2, hold.tbase.2, fun k hk => (hold.rbase hk).2, hszr⟩, (HST.out.bel.trans (HB4.out.mono hszr)).setCell ho3.1 _⟩
        · rw [List.getElem?_set_ne (by omega)]
          exact HXS.out.2
        · have := own_type_ne HXS.out.1 hold.tab (by decide)
          simpa [Value.ownBlock] using this
        · have := own_type_ne HXS.out.1 (hold.row k hk) (by decide)
          simpa [Value.ownBlock, rowV] using this
      obtain ⟨s0, hs0⟩ : ∃ s, s = wr.heap.size := ⟨_, rfl⟩
      rw [← hs0] at HIN2
      clear hco hfo hx4 hx5 h5 h6 hx1r hs0
      go_loopg [10, 11, 12, 13, 54] (own + 1) (fun gg _ _ _ _ s54 wr2 => ∃ (n : Nat) (Vn : Nat → Nat → Int), n ≤ own + 1 ∧ own + 1 - n ≤ gg ∧ s54 = .int .i64 n ∧ Aside0 (WIn w3 wr2 (p5 + 2) L A P ob co i s0 tn cn rn pn Vn tb2 ct2 rb2 cp2 V) ∧ Aside0 (∀ k p, k ≤ A → p ≤ P → Vn k p = S wt own (ns.drop (i + 1)) n k p))
      case atStart => exact ⟨0, _, by omega, by omega, rfl, HIN2, ⟨fun k p _ _ => rfl⟩⟩
      case round =>
        clear HIN2 HX HM HB4
        obtain ⟨n, Vn, hn, hgg2, rfl, HIN, HVN⟩ := hrel
        by_cases hnlt : n < own + 1
        · have hnz : (n : Int) < (own : Int) + 1 := by omega
          have hszr2 : p5 + 2 ≤ wr.heap.size := Nat.le_trans hz3 HIN.out.bel.size
          have hbw2 : Below w.heap.size w wr := HB3.out.trans (HIN.out.bel.mono (by have := HP5.out; have := HB2.out.size; omega))
          have hnown : n ≤ own := by omega
          have hcall := HW.out wr i n (by have := HL0.out; omega) (by rw [HOWN0.out]; exact hnown) hbw2
          rw [HOWN0.out] at hcall
          have HCALL := Aside0.mk hcall
          obtain ⟨wv, hwv⟩ : ∃ v, v = wt own n := ⟨_, rfl⟩
          rw [← hwv] at hcall
          have HWV := Aside0.mk hwv
          have HCALL := Aside0.mk hcall
          have hhn : (n : Int) / 2 = ((half n : Nat) : Int) := by unfold half; omega
          have hhn2 : half n ≤ P := Nat.le_trans (by unfold half; omega) ho2
          clear hcall hwv hbw2
          go_wp2_with (go_at_fn g; refine (HCALL.out).mono ?_; rintro e w6 ⟨rfl, hb⟩; have HIN6 := Aside0.mk (HIN.out.below hszr2 hb); clear hb)
          go_loopg [12, 13] (A + 1) (fun gg s12 _ wr3 => ∃ (k : Nat) (Vk : Nat → Nat → Int), n ≤ k ∧ k ≤ A + 1 ∧ A + 1 - k ≤ gg ∧ s12 = .int .i64 k ∧ Aside0 (WIn w3 wr3 (p5 + 2) L A P ob co i s0 tn cn rn pn Vk tb2 ct2 rb2 cp2 V) ∧ Aside0 (∀ j p, j ≤ A → p ≤ P → Vk j p = if j < k then S wt own (ns.drop (i + 1)) (n + 1) j p else S wt own (ns.drop (i + 1)) n j p))
          case atStart =>
            refine ⟨n, Vn, Nat.le_refl _, by omega, by omega, rfl, HIN6, ⟨fun j p hj hp => ?_⟩⟩
            rw [HVN.out j p hj hp]
            split
            · exact (S_low (.inl ‹_›)).symm
            · rfl
          case round =>
            clear HIN6 HIN HVN
            obtain ⟨k, Vk, hnk, hkA, hgg3, rfl, HIN, HVK⟩ := hrel
            have h5 := (HIN.out.bel.cell (p := ⟨p5, 0, none⟩) (by show p5 < p5 + 2; omega)).trans H5.out
            by_cases hklt : k ≤ A
            · have hkz : (k : Int) ≤ (A : Int) := by omega
              go_wp2
              go_loopg [13] (P + 1) (fun gg s13 wr4 => ∃ (q : Nat) (Vp : Nat → Nat → Int), half n ≤ q ∧ q ≤ P + 1 ∧ P + 1 - q ≤ gg ∧ s13 = .int .i64 q ∧ Aside0 (WIn w3 wr4 (p5 + 2) L A P ob co i s0 tn cn rn pn Vp tb2 ct2 rb2 cp2 V) ∧ Aside0 (∀ j p, j ≤ A → p ≤ P → Vp j p = if j < k ∨ (j = k ∧ p < q) then S wt own (ns.drop (i + 1)) (n + 1) j p else S wt own (ns.drop (i + 1)) n j p))
              case atStart =>
                refine ⟨half n, Vk, Nat.le_refl _, by omega, by omega, by first | rfl | (rw [hhn]), HIN, ⟨fun j p hj hp => ?_⟩⟩
                rw [HVK.out j p hj hp]
                by_cases c1 : j < k
                · rw [if_pos c1, if_pos (.inl c1)]
                · rw [if_neg c1]
                  by_cases c2 : j = k ∧ p < half n
                  · rw [if_pos (.inr c2)]
                    exact (S_low (.inr c2.2)).symm
                  · rw [if_neg (by omega)]
              case round =>
                clear HIN HVK h5
                obtain ⟨q, Vp, hnq, hqP, hgg4, rfl, HIN, HVP⟩ := hrel
                have h6 := (HIN.out.bel.cell (p := ⟨p5 + 1, 0, none⟩) (by show p5 + 1 < p5 + 2; omega)).trans H6.out
                by_cases hqlt : q ≤ P
                · have hqz : (q : Int) ≤ (P : Int) := by omega
                  obtain ⟨kd, hkd⟩ : ∃ kd, kd + n = k := ⟨k - n, by omega⟩
                  obtain ⟨pd, hpd⟩ : ∃ pd, pd + half n = q := ⟨q - half n, by omega⟩
                  obtain ⟨r1, r2, r3, r4, r5, r6, r7⟩ := HIN.out.cells hilt (k := k) (p := q) (kd := kd) (pd := pd) hklt hqlt (by omega) (by omega)
                  obtain ⟨x0, hx0⟩ : ∃ x, x = Vp k q := ⟨_, rfl⟩
                  obtain ⟨y0, hy0⟩ : ∃ y, y = V kd pd := ⟨_, rfl⟩
                  rw [← hx0] at r5
                  rw [← hy0] at r7
                  obtain ⟨hn2, hhn2⟩ : ∃ h, h = half n := ⟨_, rfl⟩
                  have m1 : IntKind.i64.wrap ((k : Int) - (n : Int)) = (kd : Int) := by rw [IntKind.wrap_i64]; omega
                  have m2 : IntKind.i64.wrap ((half n : Nat) : Int) = ((half n : Nat) : Int) := by rw [IntKind.wrap_i64]; omega
                  have m2' : Int.tdiv (n : Int) 2 = ((half n : Nat) : Int) := by rw [Int.tdiv_eq_ediv_of_nonneg (by omega)]; omega
                  have m3 : IntKind.i64.wrap ((q : Int) - ((half n : Nat) : Int)) = (pd : Int) := by rw [IntKind.wrap_i64]; omega
                  have m4 : IntKind.i64.wrap ((i : Int) + 1) = (i : Int) + 1 := by rw [IntKind.wrap_i64]; omega
                  have n1 : (0 : Int) ≤ (i : Int) + 1 := by omega
                  have n2 : (i : Int) + 1 < (L : Int) + 1 := by omega
                  have n3 : ((i : Int) + 1).toNat = i + 1 := by omega
                  have n4 : (kd : Int) < (A : Int) + 1 := by omega
                  have n5 : (pd : Int) < (P : Int) + 1 := by omega
                  have n6 : (k : Int) < (A : Int) + 1 := by omega
                  have n7 : (q : Int) < (P : Int) + 1 := by omega
                  have HKD := Aside0.mk hkd
                  have HPD := Aside0.mk hpd
                  have HX0 := Aside0.mk hx0
                  have HY0 := Aside0.mk hy0
                  clear hkd hpd hx0 hy0 hhn2 hn2
                  go_wp2_with fail
                  go_still_tail 30, (by kernel_rfl)
                  change wpList _ _ _ _ _ wr.drew
                  have r6' : wr.drew.frozen? ⟨rn k, q, none⟩ = false := r6
                  have r5' : wr.drew.cell? ⟨rn k, q, none⟩ = some (.int .i64 x0) := r5
                  go_wp2
                  go_roundg (P + 1 - (q + 1))
                  case measure => omega
                  case rel =>
                    have hset := HIN.out.set hklt q (wrap64 (x0 + wrap64 (wv * y0)))
                    have hsz5 : p5 + 2 ≤ wr.heap.size := Nat.le_trans hz3 HIN.out.bel.size
                    refine ⟨q + 1, updV Vp k q (wrap64 (x0 + wrap64 (wv * y0))), by omega, by omega, by omega, by go_num, ⟨hset.below (by simpa using hsz5) (below_drew (Below.refl _ _))⟩, ⟨fun j p hj hp => ?_⟩⟩
                    have hx := HX0.out
                    rw [HVP.out k q hklt hqlt, if_neg (by omega)] at hx
                    have hy := HY0.out
                    have hkd := HKD.out
                    have hpd := HPD.out
                    rw [HV.out kd pd (by omega) (by omega), show (kd : Int) = (k : Int) - (n : Int) by omega, show (pd : Int) = (q : Int) - ((half n : Nat) : Int) by omega] at hy
                    have hst := HSTEP.out i n k q hilt (by rw [HOWN0.out]; exact hnown)
                    rw [HOWN0.out, ← hx, ← hy, ← HWV.out] at hst
                    unfold updV
                    by_cases c1 : j = k ∧ p = q
                    · rw [if_pos c1, if_pos (by omega), c1.1, c1.2]
                      exact hst
                    · rw [if_neg c1, HVP.out j p hj hp]
                      by_cases c2 : j < k ∨ j = k ∧ p < q
                      · rw [if_pos c2, if_pos (by omega)]
                      · rw [if_neg c2, if_neg (by omega)]
                · have hqz : ¬ (q : Int) ≤ (P : Int) := by omega
                  obtain rfl : q = P + 1 := by omega
                  go_wp2
                  go_roundg (A + 1 - (k + 1))
                  case measure => omega
                  case rel =>
                    refine ⟨k + 1, Vp, by omega, by omega, by omega, by go_num, HIN, ⟨fun j p hj hp => ?_⟩⟩
                    rw [HVP.out j p hj hp]
                    by_cases c1 : j < k + 1
                    · rw [if_pos c1, if_pos (by omega)]
                    · rw [if_neg c1, if_neg (by omega)]
            · have hkz : ¬ (k : Int) ≤ (A : Int) := by omega
              obtain rfl : k = A + 1 := by omega
              go_wp2
              go_roundg (own + 1 - (n + 1))
              case measure => omega
              case rel =>
                refine ⟨n + 1, Vk, by omega, by omega, by go_num, HIN, ⟨fun j p hj hp => ?_⟩⟩
                rw [HVK.out j p hj hp, if_pos (by omega)]
        · have hnz : ¬ (n : Int) < (own : Int) + 1 := by omega
          obtain rfl : n = own + 1 := by omega
          go_wp2
          go_roundg i
          case measure => omega
          case rel =>
            refine ⟨i, tn, cn, rn, pn, Vn, by omega, by omega, by first | rfl | go_num, ⟨?_, HIN.out.cur.lower HIN.out.sep.2.2.2, HIN.out.bel⟩, ⟨fun k p hk hp => ?_⟩⟩
            · obtain ⟨xs', q1, q2, _⟩ := HIN.out.out
              exact ⟨xs', q1, q2⟩
            · rw [HVN.out k p hk hp]
              have hd : ns.drop i = own :: ns.drop (i + 1) := by
                have := HL0.out
                rw [List.drop_eq_getElem_cons (show i < ns.length by omega), ← HOWN0.out]
                simp [List.getD_eq_getElem?_getD, show i < ns.length by omega]
              rw [hd]
              rfl
    · obtain rfl : j = 0 := by omega
      go_wp2
      go_ret
      obtain ⟨xs, q1, q2⟩ := HST.out.out
      have hbs : w.heap.size ≤ p5 + 2 := by have := HP5.out; have := HB2.out.size; omega
      have hm := HST.out.mat.lower hbs
      have hv := HV.out
      refine ⟨ob, co, tb2, ct2, rb2, cp2, xs, rfl, own_weaken q1 hbs, q2, ?_, HB3.out.trans (HST.out.bel.mono hbs)⟩
      refine ⟨hm.tab, fun k hk => ?_, hm.inj⟩
      have e2 : numL P (V k) = numL P (fun p => T wt half ns (k : Int) (p : Int)) := by
        unfold numL
        refine List.map_congr_left fun p hp => ?_
        have := hv k p (by omega) (by simp at hp; omega)
        rw [List.drop_zero] at this
        exact this
      have := hm.row k hk
      rw [e2] at this
      exact this
end Go.Proofs.Ytnikblimnjpmpaa.X
