/- Texts of this seat in one: contracts of the functions (those written by wip/tools/xprint.py and those proved by hand) and plain laws. -/
import Derived.Test.YtnikblimnjpmpaaMA
import Derived.Lib.Hide
import Derived.Laws.OwnMore
import Derived.Shelf.Abstract
import Derived.StillTailTactics
/- ==== HWays ==== -/
/- Tables of numbers in memory, and the program's waysOf, for whatever each number of a colour weighs: its contract. -/
/- ==== HMat ==== -/
namespace Go.Proofs.Ytnikblimnjpmpaa.X
open Go.RowKit Go.Proofs.YtnikblimnjpmpaaW.PrintWords Go.Proofs.YtnikblimnjpmpaaW.PrintLast Go.Proofs.YtnikblimnjpmpaaW.PrintMore

def rowV (P : Nat) (rb cp : Nat → Nat) (k : Nat) : Value := .slice (some ⟨rb k, 0, none⟩) (P + 1) (cp k)
def tabL (A P : Nat) (rb cp : Nat → Nat) (n : Nat) : List Value := (List.range (A + 1)).map fun k => if k < n then rowV P rb cp k else .slice none 0 0
def numL (P : Nat) (f : Nat → Int) : List Int := (List.range (P + 1)).map f
/-- n rows of P + 1 numbers V have been made, of A + 1. -/
structure Mat (W : World) (base tb ct : Nat) (rb cp : Nat → Nat) (A P n : Nat) (V : Nat → Nat → Int) : Prop where
  tab : W.ownsRow base 22 1 (.slice (some ⟨tb, 0, none⟩) (A + 1) ct) (A + 1) (tabL A P rb cp n)
  row : ∀ k, k < n → W.ownsRow base 3 1 (rowV P rb cp k) (P + 1) (nums .i64 (numL P (V k)))
  inj : ∀ k l, k < n → l < n → rb k = rb l → k = l
section
variable {W W1 : World} {base tb ct : Nat} {rb cp : Nat → Nat} {A P n : Nat} {V : Nat → Nat → Int}
theorem Mat.below (h : Mat W base tb ct rb cp A P n V) (hb : Below W.heap.size W W1) : Mat W1 base tb ct rb cp A P n V := ⟨pw_own_below h.tab hb, fun k hk => pw_own_below (h.row k hk) hb, h.inj⟩
theorem Mat.lower {b : Nat} (h : Mat W base tb ct rb cp A P n V) (hb : b ≤ base) : Mat W b tb ct rb cp A P n V := ⟨own_weaken h.tab hb, fun k hk => own_weaken (h.row k hk) hb, h.inj⟩
theorem Mat.tbase (h : Mat W base tb ct rb cp A P n V) : base ≤ tb ∧ tb < W.heap.size := h.tab.lt tb rfl
theorem Mat.rbase (h : Mat W base tb ct rb cp A P n V) {k : Nat} (hk : k < n) : base ≤ rb k ∧ rb k < W.heap.size := (h.row k hk).lt (rb k) rfl
theorem tabL_get {k : Nat} (hk : k ≤ A) : (tabL A P rb cp n)[k]? = some (if k < n then rowV P rb cp k else .slice none 0 0) := by simp [tabL, show k < A + 1 by omega]
theorem Mat.cellT (h : Mat W base tb ct rb cp A P n V) {k : Nat} (hk : k ≤ A) (hn : k < n) : W.cell? ⟨tb, k, none⟩ = some (.slice (some ⟨rb k, 0, none⟩) (P + 1) (cp k)) := by
  rw [h.tab.cellAt k (by omega), tabL_get hk, if_pos hn]
  rfl
theorem Mat.cellN (h : Mat W base tb ct rb cp A P n V) {k : Nat} (hk : k ≤ A) (hn : ¬ k < n) : W.cell? ⟨tb, k, none⟩ = some (.slice none 0 0) ∧ W.frozen? ⟨tb, k, none⟩ = false := by
  rw [h.tab.cellAt k (by omega), tabL_get hk, if_neg hn]
  exact ⟨rfl, h.tab.frozenAt k⟩
theorem numL_get (f : Nat → Int) {p : Nat} (hp : p ≤ P) : (nums .i64 (numL P f))[p]? = some (.int .i64 (f p)) := by simp [nums, numL, show p < P + 1 by omega]
theorem Mat.cellR (h : Mat W base tb ct rb cp A P n V) {k p : Nat} (hk : k < n) (hp : p ≤ P) : W.cell? ⟨rb k, p, none⟩ = some (.int .i64 (V k p)) ∧ W.frozen? ⟨rb k, p, none⟩ = false := by
  have hr := h.row k hk
  unfold rowV at hr
  rw [hr.cellAt p (by omega), numL_get _ hp]
  exact ⟨rfl, hr.frozenAt p⟩
theorem Mat.tb_ne (h : Mat W base tb ct rb cp A P n V) {k : Nat} (hk : k < n) : rb k ≠ tb := by
  rcases own_type_ne (h.row k hk) h.tab (by decide) with h1 | h1
  · simp [rowV, Value.ownBlock] at h1
  · simpa [rowV, Value.ownBlock] using h1
/-- A store elsewhere. -/
theorem Mat.other (h : Mat W base tb ct rb cp A P n V) {p : Addr} (h1 : p.block ≠ tb) (h2 : ∀ k, k < n → p.block ≠ rb k) (u : Value) : Mat (W.setCell p u) base tb ct rb cp A P n V :=
  ⟨own_setCell h.tab (by simpa [Value.ownBlock] using h1) u, fun k hk => own_setCell (h.row k hk) (by simpa [rowV, Value.ownBlock] using h2 k hk) u, h.inj⟩
def updV (V : Nat → Nat → Int) (k p : Nat) (x : Int) : Nat → Nat → Int := fun j q => if j = k ∧ q = p then x else V j q
theorem numL_set (f : Nat → Int) (p : Nat) (x : Int) : (numL P f).set p x = numL P (fun q => if q = p then x else f q) := by
  apply List.ext_getElem?
  intro j
  by_cases hj : j < P + 1
  · by_cases e : j = p
    · subst e
      rw [List.getElem?_set_self (by simpa [numL] using hj)]
      simp [numL, hj]
    · rw [List.getElem?_set_ne (Ne.symm e)]
      simp [numL, hj, e]
  · rw [List.getElem?_eq_none (by simp [numL]; omega), List.getElem?_eq_none (by simp [numL]; omega)]
theorem Mat.set (h : Mat W base tb ct rb cp A P n V) {k p : Nat} (hk : k < n) (x : Int) : Mat (W.setCell ⟨rb k, p, none⟩ (.int .i64 x)) base tb ct rb cp A P n (updV V k p x) := by
  refine ⟨own_setCell h.tab (by simpa [Value.ownBlock] using h.tb_ne hk) _, fun j hj => ?_, h.inj⟩
  by_cases e : j = k
  · subst e
    have hr := h.row j hj
    unfold rowV at hr ⊢
    have := (hr.stored p (.int .i64 x)).1
    have e2 : (nums .i64 (numL P (V j))).set p (.int .i64 x) = nums .i64 (numL P (updV V j p x j)) := by
      have e3 : (nums .i64 (numL P (V j))).set p (.int .i64 x) = nums .i64 ((numL P (V j)).set p x) := by simp [nums, List.map_set]
      rw [e3, numL_set]
      congr 2
      funext q
      simp [updV]
    rw [e2] at this
    exact this
  · have e2 : updV V k p x j = V j := by funext q; simp [updV, e]
    rw [e2]
    exact own_setCell (h.row j hj) (by simpa [rowV, Value.ownBlock] using fun e3 => e (h.inj j k hj hk e3.symm)) _
/-- A row more. -/
theorem Mat.add (h : Mat W base tb ct rb cp A P n V) (hn : n ≤ A) {W2 : World} (hb : Below W.heap.size W W2) {g cap : Nat} (hg : W.heap.size ≤ g) (hr : W2.ownsRow base 3 1 (.slice (some ⟨g, 0, none⟩) (P + 1) cap) (P + 1) (nums .i64 (numL P (V n)))) :
    Mat (W2.setCell ⟨tb, n, none⟩ (.slice (some ⟨g, 0, none⟩) (P + 1) cap)) base tb ct (fun k => if k = n then g else rb k) (fun k => if k = n then cap else cp k) A P (n + 1) V := by
  have h2 := h.below hb
  have hgt : g ≠ tb := by have := h.tbase; omega
  refine ⟨?_, fun k hk => ?_, fun k l hk hl e => ?_⟩
  · have := (h2.tab.stored n (.slice (some ⟨g, 0, none⟩) (P + 1) cap)).1
    have e2 : (tabL A P rb cp n).set n (.slice (some ⟨g, 0, none⟩) (P + 1) cap) = tabL A P (fun k => if k = n then g else rb k) (fun k => if k = n then cap else cp k) (n + 1) := by
      apply List.ext_getElem?
      intro j
      by_cases hj : j < A + 1
      · by_cases e : j = n
        · subst e
          rw [List.getElem?_set_self (by simpa [tabL] using hj), tabL_get (by omega), if_pos (by omega)]
          simp [rowV]
        · rw [List.getElem?_set_ne (Ne.symm e), tabL_get (by omega), tabL_get (by omega)]
          by_cases e3 : j < n
          · rw [if_pos e3, if_pos (by omega)]
            simp [rowV, e]
          · rw [if_neg e3, if_neg (by omega)]
      · rw [List.getElem?_eq_none (by simp [tabL]; omega), List.getElem?_eq_none (by simp [tabL]; omega)]
    rw [e2] at this
    exact this
  · by_cases e : k = n
    · subst e
      have : rowV P (fun j => if j = k then g else rb j) (fun j => if j = k then cap else cp j) k = .slice (some ⟨g, 0, none⟩) (P + 1) cap := by simp [rowV]
      rw [this]
      exact own_setCell hr (by simpa [Value.ownBlock] using Ne.symm hgt) _
    · have : rowV P (fun j => if j = n then g else rb j) (fun j => if j = n then cap else cp j) k = rowV P rb cp k := by simp [rowV, e]
      rw [this]
      exact own_setCell (h2.row k (by omega)) (by simpa [rowV, Value.ownBlock] using Ne.symm (h2.tb_ne (show k < n by omega))) _
  · have hk2 : ∀ j, j < n → rb j ≠ g := fun j hj => by have := (h.rbase hj).2; omega
    by_cases e1 : k = n <;> by_cases e2 : l = n
    · omega
    · simp [e1, e2] at e; exact absurd e.symm (hk2 l (by omega))
    · simp [e1, e2] at e; exact absurd e (hk2 k (by omega))
    · simp [e1, e2] at e; exact h.inj k l (by omega) (by omega) e
end
theorem own_form {W : World} {base e n : Nat} {v : Value} {xs : List Value} (h : W.ownsRow base e 1 v n xs) (hn : 0 < n) : ∃ g cap, v = .slice (some ⟨g, 0, none⟩) n cap := by
  rcases h.2 with ⟨_, h0⟩ | ⟨g, cap, _, rfl, _⟩
  · omega
  · exact ⟨g, cap, rfl⟩

theorem mk_len {α : Type} (A : Nat) (x : α) : (List.replicate ((A : Int) + 1).toNat x).length = A + 1 := by simp
theorem start_tab (A P : Nat) (rb cp : Nat → Nat) : encs (fun _ : Unit => Value.slice none 0 0) (List.replicate ((A : Int) + 1).toNat ()) = tabL A P rb cp 0 := by
  rw [show ((A : Int) + 1).toNat = A + 1 by omega]
  simp [encs, tabL, List.map_const']
theorem start_row (P : Nat) : encs (Value.int .i64) (List.replicate ((P : Int) + 1).toNat (0 : Int)) = nums .i64 (numL P fun _ => 0) := by
  rw [show ((P : Int) + 1).toNat = P + 1 by omega]
  simp [encs, nums, numL, List.map_const']

def TableMade (w : World) (A P : Nat) (e : Ending) (w' : World) : Prop := ∃ (tb ct : Nat) (rb cp : Nat → Nat), e = .returned (.slice (some ⟨tb, 0, none⟩) (A + 1) ct) ∧ Mat w' w.heap.size tb ct rb cp A P (A + 1) (fun _ _ => 0) ∧ Below w.heap.size w w'
set_option maxHeartbeats 4000000 in
set_option maxRecDepth 100000 in
theorem table_calls (p5 p6 A P : Nat) (w : World) (h5 : w.cell? ⟨p5, 0, none⟩ = some (.int .i64 (A : Int))) (h6 : w.cell? ⟨p6, 0, none⟩ = some (.int .i64 (P : Int))) (hA : A ≤ 200) (hP : P ≤ 200) :
    Calls Try.prog 69 #[.pointer (some ⟨p5, 0, none⟩), .pointer (some ⟨p6, 0, none⟩)] w (TableMade w A P) := by
  have H6 := Aside0.mk h6
  go_enter Try.func69, Try.ntmps69
  go_wp2_with (((with_reducible refine gate_dst (N := 7) rfl ?_); refine Kd.R_make (Kd.scalar (fun _ : Unit => Value.slice none 0 0) (fun _ => rfl)) w.heap.size 22 rfl (N := 7) rfl 44 _ _ rfl ((A : Int) + 1) rfl rfl Try.underlying44 (.slice none 0 0) 24 info22 rfl (by decide) (by omega) () (ok := fun _ => True) (okp := fun _ => True) rfl (fun _ hk => hk) trivial (by omega) (by omega) (Below.refl _ _) (Nat.le_refl _) ?_; intro v7 w3 ho hb hg_ hnew_; clear hg_ hnew_; have own := Kd.own_of_R ho; rw [mk_len, start_tab A P (fun _ => 0) (fun _ => 0)] at own; obtain ⟨tb, ct, rfl⟩ := own_form own (by omega); have OWN := Aside0.mk own; have HB := Aside0.mk hb; clear ho hb own))
  clear h6
  go_loopg [4, 10] (A + 1) (fun gg _ s10 wr => ∃ (kk : Nat) (rb cp : Nat → Nat), kk ≤ A + 1 ∧ A + 1 - kk ≤ gg ∧ s10 = .int .i64 kk ∧ Aside0 (Mat wr w.heap.size tb ct rb cp A P kk (fun _ _ => 0)) ∧ Aside0 (Below w.heap.size w wr))
  case atStart => exact ⟨0, fun _ => 0, fun _ => 0, Nat.zero_le _, by omega, rfl, ⟨⟨OWN.out, fun k hk => by omega, fun k l hk => by omega⟩⟩, HB⟩
  case round =>
    clear OWN HB
    obtain ⟨kk, rb, cp, hkk, hgg, rfl, HM, HB⟩ := hrel
    by_cases hlt : kk < A + 1
    · have hltz : (kk : Int) < (A : Int) + 1 := by omega
      have h6r := (HB.out.cell (World.block_lt_of_cell? w _ H6.out)).trans H6.out
      obtain ⟨hc, hf⟩ := HM.out.cellN (k := kk) (by omega) (by omega)
      have HC := Aside0.mk hc
      have HF := Aside0.mk hf
      clear hc hf
      go_wp2_with (((with_reducible refine gate_dst (N := 17) rfl ?_); refine Kd.R_make (Kd.int .i64) wr.heap.size 3 rfl (N := 17) rfl 22 _ _ rfl ((P : Int) + 1) rfl rfl Try.underlying22 (.int .i64 0) 8 info3 rfl (by decide) (by omega) 0 (ok := fun _ => True) (okp := fun _ => True) rfl (fun _ hk => hk) trivial (by omega) (by omega) (Below.refl _ _) (Nat.le_refl _) ?_; intro v17 w13 ho hb hg_ hnew_; clear hg_ hnew_; have own := Kd.own_of_R ho; rw [mk_len, start_row] at own; obtain ⟨g, cap, rfl⟩ := own_form own (by omega); have OWN := Aside0.mk own; have HB2 := Aside0.mk hb; have hcz := (hb.cell (World.block_lt_of_cell? wr _ HC.out)).trans HC.out; have hfz := (hb.frozen (World.block_lt_of_cell? wr _ HC.out)).trans HF.out; clear ho hb own))
      go_roundg (A + 1 - (kk + 1))
      case measure => omega
      case rel => exact ⟨kk + 1, _, _, by omega, by omega, by go_num, ⟨HM.out.add (by omega) HB2.out (OWN.out.lt g rfl).1 (own_weaken OWN.out HB.out.size)⟩, ⟨below_set (HB.out.trans (HB2.out.mono HB.out.size)) HM.out.tbase.1⟩⟩
    · have hltz : ¬ (kk : Int) < (A : Int) + 1 := by omega
      obtain rfl : kk = A + 1 := by omega
      go_wp2
      go_ret
      exact ⟨tb, ct, rb, cp, rfl, HM.out, HB.out⟩
end Go.Proofs.Ytnikblimnjpmpaa.X

/- ==== HWays ==== -/
namespace Go.Proofs.Ytnikblimnjpmpaa.X
open Go.RowKit Go.Proofs.YtnikblimnjpmpaaW.PrintWords Go.Proofs.YtnikblimnjpmpaaW.PrintLast Go.Proofs.YtnikblimnjpmpaaW.PrintMore

def half (d : Nat) : Nat := d / 2
/-- What each number of a colour weighs, told by a function value. -/
def Weighs (g : Nat) (lb : Array Value) (ns : List Nat) (wt : Nat → Nat → Int) (B : Nat) (w : World) : Prop := ∀ (W : World) (i n : Nat), i < ns.length → n ≤ ns.getD i 0 → Below B w W →
  Calls Try.prog g (#[.int .i64 (i : Int), .int .i64 (n : Int)] ++ lb) W fun e w' => e = .returned (.int .i64 (wt (ns.getD i 0) n)) ∧ Below W.heap.size W w'
/-- The table of the first colour, with a row of tables. -/
def WaysMade (w : World) (L A P : Nat) (V : Nat → Nat → Int) (e : Ending) (w' : World) : Prop := ∃ (ob co tb ct : Nat) (rb cp : Nat → Nat) (xs : List Value), e = .returned (.slice (some ⟨ob, 0, none⟩) (L + 1) co) ∧
  w'.ownsRow w.heap.size 44 1 (.slice (some ⟨ob, 0, none⟩) (L + 1) co) (L + 1) xs ∧ xs[0]? = some (.slice (some ⟨tb, 0, none⟩) (A + 1) ct) ∧ Mat w' w.heap.size tb ct rb cp A P (A + 1) V ∧ Below w.heap.size w w'
theorem mk_len1 {α : Type} (n : Nat) (x : α) : (List.replicate ((n : Int) + 1).toNat x).length = n + 1 := by simp

/-- The ways of a colour, its first n numbers alone. -/
def S (wt : Nat → Nat → Int) (own : Nat) (r : List Nat) (n k p : Nat) : Int := sumN n fun d => wt own d * T wt half r ((k : Int) - d) ((p : Int) - half d)
theorem S_low {wt : Nat → Nat → Int} {own : Nat} {r : List Nat} {n k p : Nat} (h : k < n ∨ p < half n) : S wt own r (n + 1) k p = S wt own r n k p := by
  unfold S
  simp only [sumN]
  rw [T_neg (by omega)]
  simp
structure WSt (w3 W : World) (B0 L A P ob co j tb ct : Nat) (rb cp : Nat → Nat) (V : Nat → Nat → Int) : Prop where
  out : ∃ xs, W.ownsRow B0 44 1 (.slice (some ⟨ob, 0, none⟩) (L + 1) co) (L + 1) xs ∧ xs[j]? = some (.slice (some ⟨tb, 0, none⟩) (A + 1) ct)
  mat : Mat W B0 tb ct rb cp A P (A + 1) V
  bel : Below B0 w3 W
structure WIn (w3 W : World) (B0 L A P ob co i s tn cn : Nat) (rn pn : Nat → Nat) (Vn : Nat → Nat → Int) (tb ct : Nat) (rb cp : Nat → Nat) (V : Nat → Nat → Int) : Prop where
  out : ∃ xs, W.ownsRow B0 44 1 (.slice (some ⟨ob, 0, none⟩) (L + 1) co) (L + 1) xs ∧ xs[i]? = some (.slice (some ⟨tn, 0, none⟩) (A + 1) cn) ∧ xs[i + 1]? = some (.slice (some ⟨tb, 0, none⟩) (A + 1) ct)
  cur : Mat W s tn cn rn pn A P (A + 1) Vn
  old : Mat W B0 tb ct rb cp A P (A + 1) V
  sep : ob < s ∧ tb < s ∧ (∀ k, k < A + 1 → rb k < s) ∧ B0 ≤ s
  bel : Below B0 w3 W
section
variable {w3 W W1 : World} {B0 L A P ob co i s tn cn tb ct : Nat} {rn pn rb cp : Nat → Nat} {Vn V : Nat → Nat → Int}
theorem WIn.below (h : WIn w3 W B0 L A P ob co i s tn cn rn pn Vn tb ct rb cp V) (hB : B0 ≤ W.heap.size) (hb : Below W.heap.size W W1) : WIn w3 W1 B0 L A P ob co i s tn cn rn pn Vn tb ct rb cp V := by
  obtain ⟨xs, h1, h2, h3⟩ := h.out
  exact ⟨⟨xs, pw_own_below h1 hb, h2, h3⟩, h.cur.below hb, h.old.below hb, h.sep, h.bel.trans (hb.mono hB)⟩
theorem WIn.set (h : WIn w3 W B0 L A P ob co i s tn cn rn pn Vn tb ct rb cp V) {k : Nat} (hk : k ≤ A) (p : Nat) (x : Int) : WIn w3 (W.setCell ⟨rn k, p, none⟩ (.int .i64 x)) B0 L A P ob co i s tn cn rn pn (updV Vn k p x) tb ct rb cp V := by
  obtain ⟨xs, h1, h2, h3⟩ := h.out
  have hs := (h.cur.rbase (k := k) (by omega)).1
  obtain ⟨s1, s2, s3, s4⟩ := h.sep
  refine ⟨⟨xs, own_setCell h1 (by simpa [Value.ownBlock] using (by omega : rn k ≠ ob)) _, h2, h3⟩, h.cur.set (by omega) x, h.old.other (by show rn k ≠ tb; omega) (fun j hj => by have := s3 j hj; show rn k ≠ rb j; omega) _, h.sep, h.bel.setCell (by show B0 ≤ rn k; omega) _⟩
/-- What the walk reads. -/
theorem WIn.cells (h : WIn w3 W B0 L A P ob co i s tn cn rn pn Vn tb ct rb cp V) (hi : i < L) {k p kd pd : Nat} (hk : k ≤ A) (hp : p ≤ P) (hkd : kd ≤ A) (hpd : pd ≤ P) :
    W.cell? ⟨ob, i, none⟩ = some (.slice (some ⟨tn, 0, none⟩) (A + 1) cn) ∧ W.cell? ⟨ob, i + 1, none⟩ = some (.slice (some ⟨tb, 0, none⟩) (A + 1) ct) ∧ W.cell? ⟨tn, k, none⟩ = some (.slice (some ⟨rn k, 0, none⟩) (P + 1) (pn k)) ∧
      W.cell? ⟨tb, kd, none⟩ = some (.slice (some ⟨rb kd, 0, none⟩) (P + 1) (cp kd)) ∧ W.cell? ⟨rn k, p, none⟩ = some (.int .i64 (Vn k p)) ∧ W.frozen? ⟨rn k, p, none⟩ = false ∧ W.cell? ⟨rb kd, pd, none⟩ = some (.int .i64 (V kd pd)) := by
  obtain ⟨xs, h1, h2, h3⟩ := h.out
  obtain ⟨c1, c2⟩ := h.cur.cellR (k := k) (p := p) (by omega) hp
  exact ⟨by rw [h1.cellAt i (by omega)]; exact h2, by rw [h1.cellAt (i + 1) (by omega)]; exact h3, h.cur.cellT hk (by omega), h.old.cellT hkd (by omega), c1, c2, (h.old.cellR (by omega) hpd).1⟩
end
theorem nil_at {W : World} {base ob co L : Nat} (h : W.ownsRow base 44 1 (.slice (some ⟨ob, 0, none⟩) (L + 1) co) (L + 1) (encs (fun _ : Unit => Value.slice none 0 0) (List.replicate ((L : Int) + 1).toNat ()))) : W.cell? ⟨ob, L, none⟩ = some (.slice none 0 0) := by
  rw [h.cellAt L (by omega), show ((L : Int) + 1).toNat = L + 1 by omega]
  simp [encs]
set_option maxHeartbeats 8000000 in
set_option maxRecDepth 100000 in
theorem waysOf_calls (g : Nat) (lb : Array Value) (eg : ∀ args w, (callFunc g args).run Try.prog w = .ok (.enter g args) w) (ns : List Nat) (wt : Nat → Nat → Int) (A P k1 k2 : Nat) (A0 : Option Addr) (c0 : Nat) (w : World)
    (hr : Kd.C (Kd.int .i64) w A0 ns.length (toI ns)) (hc0 : ns.length ≤ c0) (hw : Weighs g lb ns wt w.heap.size w) (hL : ns.length ≤ 8) (hA : A ≤ 200) (hP : P ≤ 200) (hown : ∀ i : Nat, i < ns.length → ns.getD i 0 ≤ A ∧ half (ns.getD i 0) ≤ P)
    (hstep : ∀ i n k p : Nat, i < ns.length → n ≤ ns.getD i 0 → wrap64 (S wt (ns.getD i 0) (ns.drop (i + 1)) n k p + wrap64 (wt (ns.getD i 0) n * T wt half (ns.drop (i + 1)) ((k : Int) - n) ((p : Int) - half n))) = S wt (ns.getD i 0) (ns.drop (i + 1)) (n + 1) k p)
    (ht : impl_total.f k1 (toI ns) = some (A : Int)) (hp : impl_pairsOf.f k2 (toI ns) = some (P : Int)) :
    Calls Try.prog 60 #[.slice A0 ns.length c0, .func (.func g) #[] lb] w (WaysMade w ns.length A P (fun k p => T wt half ns (k : Int) (p : Int))) := by
  have hlen : (toI ns).length = ns.length := by simp [toI]
  have HR := Aside0.mk (show Kd.C (Kd.int .i64) w A0 (toI ns).length (toI ns) by rw [hlen]; exact hr)
  have HC := Aside0.mk (show (toI ns).length ≤ c0 by omega)
  have HW := Aside0.mk hw
  have HT := Aside0.mk ht
  have HP := Aside0.mk hp
  have HLEN := Aside0.mk hlen
  have HOWN := Aside0.mk hown
  have HSTEP := Aside0.mk hstep
  clear hr hc0 hw ht hp hlen hown hstep
  generalize hL0 : ns.length = L at *
  have HL0 := Aside0.mk hL0
  clear hL0
  have e69 : ∀ args w, (callFunc 69 args).run Try.prog w = .ok (.enter 69 args) w := enters_of Try.func69 (by kernel_rfl) rfl
  go_enter Try.func60, Try.ntmps60
  go_wp2_with (first | (go_at_call 40; have hcon := impl_total.calls k1 A0 c0 (toI ns) (A : Int) w HR.out HC.out HT.out; rw [HLEN.out] at hcon; refine hcon.mono ?_; rintro e w1 ⟨rfl, hb⟩; have HB1 := Aside0.mk hb.below; clear hb hcon) | (go_at_call 68; have hcon := impl_pairsOf.calls k2 A0 c0 (toI ns) (P : Int) w1 (Kd.C_below HR.out HB1.out) HC.out HP.out; rw [HLEN.out] at hcon; refine hcon.mono ?_; rintro e w2 ⟨rfl, hb⟩; have HB2 := Aside0.mk (HB1.out.trans (hb.below.mono HB1.out.size)); clear hb hcon) | ((with_reducible refine gate_dst (N := 22) rfl ?_); refine Kd.R_make (Kd.scalar (fun _ : Unit => Value.slice none 0 0) (fun _ => rfl)) _ 44 rfl (N := 22) rfl 54 _ _ rfl ((L : Int) + 1) rfl rfl Try.underlying54 (.slice none 0 0) 24 info44 rfl (by decide) (by omega) () (ok := fun _ => True) (okp := fun _ => True) rfl (fun _ hk => hk) trivial (by omega) (by omega) (Below.refl _ _) (Nat.le_refl _) ?_; intro v22 w3 ho hb hg_ hnew_; clear hg_ hnew_; have own := Kd.own_of_R ho; rw [mk_len] at own; obtain ⟨ob, co, rfl⟩ := own_form own (by omega); have OWN := Aside0.mk (own_weaken (base' := w2.heap.size + 2) own (by simp)); have HB3 := Aside0.mk (show Below w.heap.size w w3 from (HB2.out.trans ((((Below.refl _ _).alloc (Nat.le_refl _) _).alloc (by simp) _).trans (hb.mono (by simp; omega)) |>.mono HB2.out.size))); have h5 : w3.cell? ⟨w2.heap.size, 0, none⟩ = some (.int .i64 (A : Int)) := (hb.cell (p := ⟨w2.heap.size, 0, none⟩) (by simp; omega)).trans (by simp); have h6 : w3.cell? ⟨w2.heap.size + 1, 0, none⟩ = some (.int .i64 (P : Int)) := (hb.cell (p := ⟨w2.heap.size + 1, 0, none⟩) (by simp)).trans (by simp); have hz3 : w2.heap.size + 2 ≤ w3.heap.size := (by have := hb.size; simp at this; omega); clear ho hb own) | (go_at_call 69; refine (table_calls w2.heap.size (w2.heap.size + 1) A P w3 h5 h6 hA hP).mono ?_; rintro e w4 ⟨tb, ct, rb, cp, rfl, hm, hb⟩; have hob := OWN.out.lt ob rfl; have htb := hm.tbase; have hrb := hm.rbase (k := 0) (by omega); have hco := (hb.cell (p := ⟨ob, L, none⟩) hob.2).trans (nil_at OWN.out); have hfo := (hb.frozen (p := ⟨ob, L, none⟩) hob.2).trans (OWN.out.frozenAt L); have hct := hm.cellT (k := 0) (by omega) (by omega); obtain ⟨hcr, hfr⟩ := hm.cellR (k := 0) (p := 0) (by omega) (by omega); have hn1 : tb ≠ ob := (by omega); have hn2 : ob ≠ tb := (by omega); have hn3 : rb 0 ≠ ob := (by omega); have hn4 : ob ≠ rb 0 := (by omega); have hn5 : rb 0 ≠ tb := hm.tb_ne (by omega); have hn6 : tb ≠ rb 0 := Ne.symm hn5; have HM := Aside0.mk hm; have HB4 := Aside0.mk hb; have HOB := Aside0.mk hob; have HTB := Aside0.mk htb; have HRB := Aside0.mk hrb; clear hm hb hob htb hrb))
  generalize hp5 : w2.heap.size = p5 at *
  have HP5 := Aside0.mk hp5
  have H5 := Aside0.mk h5
  have H6 := Aside0.mk h6
  have hz3' := hz3
  have HST : Aside0 (WSt w3 ((w4.setCell ⟨ob, L, none⟩ (.slice (some ⟨tb, 0, none⟩) (A + 1) ct)).setCell ⟨rb 0, 0, none⟩ (.int .i64 1)) (p5 + 2) L A P ob co L tb ct rb cp (updV (fun _ _ => 0) 0 0 1)) := by
    have ho1 := (pw_own_below OWN.out HB4.out).stored L (.slice (some ⟨tb, 0, none⟩) (A + 1) ct)
    have hm1 := (HM.out.lower (b := p5 + 2) hz3).other (p := ⟨ob, L, none⟩) hn2 (fun k hk => by have := (HM.out.rbase hk).1; have := HOB.out; show ob ≠ rb k; omega) (.slice (some ⟨tb, 0, none⟩) (A + 1) ct)
    refine ⟨⟨⟨_, own_setCell ho1.1 (by simpa [Value.ownBlock] using hn3) _, ?_⟩, hm1.set (by omega) 1, ((HB4.out.mono hz3).setCell (by exact HOB.out.1) _).setCell (by have := HRB.out; show p5 + 2 ≤ rb 0; omega) _⟩⟩
    rw [List.getElem?_set_self (by simp [encs])]
  clear hp5 h5 h6 hco hfo hct hcr hfr hn1 hn2 hn3 hn4 hn5 hn6
  go_loopg [9, 10, 11, 12, 13] L (fun gg s9 _ _ _ _ wr => ∃ (j tb ct : Nat) (rb cp : Nat → Nat) (V : Nat → Nat → Int), j ≤ L ∧ j ≤ gg ∧ s9 = .int .i64 ((j : Int) - 1) ∧ Aside0 (WSt w3 wr (p5 + 2) L A P ob co j tb ct rb cp V) ∧ Aside0 (∀ k p, k ≤ A → p ≤ P → V k p = T wt half (ns.drop j) (k : Int) (p : Int)))
  case atStart =>
    refine ⟨L, tb, ct, rb, cp, _, Nat.le_refl _, Nat.le_refl _, rfl, HST, ⟨fun k p hk hp => ?_⟩⟩
    rw [List.drop_of_length_le (by have := HL0.out; omega)]
    simp only [T, updV]
    by_cases q : k = 0 ∧ p = 0
    · rw [if_pos q, if_pos (by omega)]
    · rw [if_neg q, if_neg (by omega)]
  case round =>
    clear HST HM HB4 HOB HTB HRB
    obtain ⟨j, tb2, ct2, rb2, cp2, V, hj, hgg, rfl, HST, HV⟩ := hrel
    by_cases hlt : 0 < j
    · obtain ⟨i, rfl⟩ : ∃ i, j = i + 1 := ⟨j - 1, by omega⟩
      have e0 : ((i + 1 : Nat) : Int) - 1 = (i : Int) := by omega
      rw [e0]
      have hilt : i < L := by omega
      have hiz : (i : Int) < (L : Int) + 1 := by omega
      have hiz2 : (i : Int) < (L : Int) := by omega
      have hszr : p5 + 2 ≤ wr.heap.size := Nat.le_trans hz3 HST.out.bel.size
      have h5 := (HST.out.bel.cell (p := ⟨p5, 0, none⟩) (by show p5 < p5 + 2; omega)).trans H5.out
      have h6 := (HST.out.bel.cell (p := ⟨p5 + 1, 0, none⟩) (by show p5 + 1 < p5 + 2; omega)).trans H6.out
      have HIN : ∃ xs, Aside0 (wr.ownsRow (p5 + 2) 44 1 (.slice (some ⟨ob, 0, none⟩) (L + 1) co) (L + 1) xs ∧ xs[i + 1]? = some (.slice (some ⟨tb2, 0, none⟩) (A + 1) ct2)) := by
        obtain ⟨xs, q1, q2⟩ := HST.out.out
        exact ⟨xs, ⟨q1, q2⟩⟩
      obtain ⟨xs, HXS⟩ := HIN
      have hxl : xs.length = L + 1 := by have := HXS.out.1.1; omega
      obtain ⟨ad1, e1, hx1⟩ := Kd.at_int HR.out (i : Int) (by omega) (by have := HLEN.out; omega)
      cases e1
      have hbw : Below w.heap.size w wr := HB3.out.trans (HST.out.bel.mono (by have := HP5.out; have := HB2.out.size; omega))
      have hrdv : rd (toI ns) (i : Int) = ((ns.getD i 0 : Nat) : Int) := by
        have := HL0.out
        simp [toI, rd, List.getD_eq_getElem?_getD, show i < ns.length by omega]
      rw [hrdv] at hx1
      have hadlt : (ad1.add (i : Int).toNat).block < w.heap.size := World.block_lt_of_cell? w _ hx1
      have hx1r := (hbw.cell hadlt).trans hx1
      rw [Int.toNat_natCast] at hx1r hadlt
      obtain ⟨ho1, ho2⟩ := HOWN.out i hilt
      generalize hown0 : ns.getD i 0 = own at *
      have HOWN0 := Aside0.mk hown0
      have HBW := Aside0.mk hbw
      have hob1 := HXS.out.1.lt ob rfl
      have hadn : (ad1.add i).block ≠ ob := by have := HP5.out; have := HB2.out.size; omega
      have hadn2 : ob ≠ (ad1.add i).block := Ne.symm hadn
      have hown1 : own ≤ 200 := by omega
      clear hx1 hrdv hown0 hbw e0
      go_wp2_with (go_at_call 69; refine (table_calls p5 (p5 + 1) A P wr h5 h6 hA hP).mono ?_; rintro e w4 ⟨tn, cn, rn, pn, rfl, hm, hb⟩; have hob := HXS.out.1.lt ob rfl; have hco := (hb.cell (p := ⟨ob, i, none⟩) hob.2).trans (HXS.out.1.cellAt i (by omega)); rw [List.getElem?_eq_getElem (show i < xs.length by omega)] at hco; have hfo := (hb.frozen (p := ⟨ob, i, none⟩) hob.2).trans (HXS.out.1.frozenAt i); have hx4 := (hb.cell (Nat.lt_of_lt_of_le hadlt HBW.out.size)).trans hx1r; have hx5 : (w4.setCell ⟨ob, i, none⟩ (.slice (some ⟨tn, 0, none⟩) (A + 1) cn)).cell? (ad1.add i) = some (.int .i64 (own : Int)) := (World.cell?_setCell_other _ _ _ _ (by intro e; first | exact hadn (congrArg Addr.block e) | exact hadn2 (congrArg Addr.block e))).trans hx4; have HM := Aside0.mk hm; have HB4 := Aside0.mk hb; clear hm hb hob)
      have HX := Aside0.mk hx5
      have HIN2 : Aside0 (WIn w3 (w4.setCell ⟨ob, i, none⟩ (.slice (some ⟨tn, 0, none⟩) (A + 1) cn)) (p5 + 2) L A P ob co i wr.heap.size tn cn rn pn (fun _ _ => 0) tb2 ct2 rb2 cp2 V) := by
        have hs1 := (pw_own_below HXS.out.1 HB4.out).stored i (.slice (some ⟨tn, 0, none⟩) (A + 1) cn)
        have ho3 := HXS.out.1.lt ob rfl
        have hold := HST.out.mat
        refine ⟨⟨_, hs1.1, List.getElem?_set_self (by omega), ?_⟩, HM.out.other (by have := HM.out.tbase; show ob ≠ tn; omega) (fun k hk => by have := (HM.out.rbase hk).1; show ob ≠ rn k; omega) _, (hold.below HB4.out).other ?_ (fun k hk => ?_) _, ⟨ho3.2, hold.tbase.2, fun k hk => (hold.rbase hk).2, hszr⟩, (HST.out.bel.trans (HB4.out.mono hszr)).setCell ho3.1 _⟩
        · rw [List.getElem?_set_ne (by omega)]
          exact HXS.out.2
        · have := own_type_ne HXS.out.1 hold.tab (by decide)
          simpa [Value.ownBlock] using this
        · have := own_type_ne HXS.out.1 (hold.row k hk) (by decide)
          simpa [Value.ownBlock, rowV] using this
      obtain ⟨s0, hs0⟩ : ∃ s, s = wr.heap.size := ⟨_, rfl⟩
      rw [← hs0] at HIN2
      clear hco hfo hx4 hx5 h5 h6 hx1r hs0
      go_loopg [10, 11, 12, 13, 54] (own + 1) (fun gg _ _ _ _ s54 wr2 => ∃ (n : Nat) (Vn : Nat → Nat → Int), n ≤ own + 1 ∧ own + 1 - n ≤ gg ∧ s54 = .int .i64 n ∧ Aside0 (WIn w3 wr2 (p5 + 2) L A P ob co i s0 tn cn rn pn Vn tb2 ct2 rb2 cp2 V) ∧ Aside0 (∀ k p, k ≤ A → p ≤ P → Vn k p = S wt own (ns.drop (i + 1)) n k p))
      case atStart => exact ⟨0, _, by omega, by omega, rfl, HIN2, ⟨fun k p _ _ => rfl⟩⟩
      case round =>
        clear HIN2 HX HM HB4
        obtain ⟨n, Vn, hn, hgg2, rfl, HIN, HVN⟩ := hrel
        by_cases hnlt : n < own + 1
        · have hnz : (n : Int) < (own : Int) + 1 := by omega
          have hszr2 : p5 + 2 ≤ wr.heap.size := Nat.le_trans hz3 HIN.out.bel.size
          have hbw2 : Below w.heap.size w wr := HB3.out.trans (HIN.out.bel.mono (by have := HP5.out; have := HB2.out.size; omega))
          have hnown : n ≤ own := by omega
          have hcall := HW.out wr i n (by have := HL0.out; omega) (by rw [HOWN0.out]; exact hnown) hbw2
          rw [HOWN0.out] at hcall
          have HCALL := Aside0.mk hcall
          obtain ⟨wv, hwv⟩ : ∃ v, v = wt own n := ⟨_, rfl⟩
          rw [← hwv] at hcall
          have HWV := Aside0.mk hwv
          have HCALL := Aside0.mk hcall
          have hhn : (n : Int) / 2 = ((half n : Nat) : Int) := by unfold half; omega
          have hhn2 : half n ≤ P := Nat.le_trans (by unfold half; omega) ho2
          clear hcall hwv hbw2
          go_wp2_with (go_at_fn g; refine (HCALL.out).mono ?_; rintro e w6 ⟨rfl, hb⟩; have HIN6 := Aside0.mk (HIN.out.below hszr2 hb); clear hb)
          go_loopg [12, 13] (A + 1) (fun gg s12 _ wr3 => ∃ (k : Nat) (Vk : Nat → Nat → Int), n ≤ k ∧ k ≤ A + 1 ∧ A + 1 - k ≤ gg ∧ s12 = .int .i64 k ∧ Aside0 (WIn w3 wr3 (p5 + 2) L A P ob co i s0 tn cn rn pn Vk tb2 ct2 rb2 cp2 V) ∧ Aside0 (∀ j p, j ≤ A → p ≤ P → Vk j p = if j < k then S wt own (ns.drop (i + 1)) (n + 1) j p else S wt own (ns.drop (i + 1)) n j p))
          case atStart =>
            refine ⟨n, Vn, Nat.le_refl _, by omega, by omega, rfl, HIN6, ⟨fun j p hj hp => ?_⟩⟩
            rw [HVN.out j p hj hp]
            split
            · exact (S_low (.inl ‹_›)).symm
            · rfl
          case round =>
            clear HIN6 HIN HVN
            obtain ⟨k, Vk, hnk, hkA, hgg3, rfl, HIN, HVK⟩ := hrel
            have h5 := (HIN.out.bel.cell (p := ⟨p5, 0, none⟩) (by show p5 < p5 + 2; omega)).trans H5.out
            by_cases hklt : k ≤ A
            · have hkz : (k : Int) ≤ (A : Int) := by omega
              go_wp2
              go_loopg [13] (P + 1) (fun gg s13 wr4 => ∃ (q : Nat) (Vp : Nat → Nat → Int), half n ≤ q ∧ q ≤ P + 1 ∧ P + 1 - q ≤ gg ∧ s13 = .int .i64 q ∧ Aside0 (WIn w3 wr4 (p5 + 2) L A P ob co i s0 tn cn rn pn Vp tb2 ct2 rb2 cp2 V) ∧ Aside0 (∀ j p, j ≤ A → p ≤ P → Vp j p = if j < k ∨ (j = k ∧ p < q) then S wt own (ns.drop (i + 1)) (n + 1) j p else S wt own (ns.drop (i + 1)) n j p))
              case atStart =>
                refine ⟨half n, Vk, Nat.le_refl _, by omega, by omega, by first | rfl | (rw [hhn]), HIN, ⟨fun j p hj hp => ?_⟩⟩
                rw [HVK.out j p hj hp]
                by_cases c1 : j < k
                · rw [if_pos c1, if_pos (.inl c1)]
                · rw [if_neg c1]
                  by_cases c2 : j = k ∧ p < half n
                  · rw [if_pos (.inr c2)]
                    exact (S_low (.inr c2.2)).symm
                  · rw [if_neg (by omega)]
              case round =>
                clear HIN HVK h5
                obtain ⟨q, Vp, hnq, hqP, hgg4, rfl, HIN, HVP⟩ := hrel
                have h6 := (HIN.out.bel.cell (p := ⟨p5 + 1, 0, none⟩) (by show p5 + 1 < p5 + 2; omega)).trans H6.out
                by_cases hqlt : q ≤ P
                · have hqz : (q : Int) ≤ (P : Int) := by omega
                  obtain ⟨kd, hkd⟩ : ∃ kd, kd + n = k := ⟨k - n, by omega⟩
                  obtain ⟨pd, hpd⟩ : ∃ pd, pd + half n = q := ⟨q - half n, by omega⟩
                  obtain ⟨r1, r2, r3, r4, r5, r6, r7⟩ := HIN.out.cells hilt (k := k) (p := q) (kd := kd) (pd := pd) hklt hqlt (by omega) (by omega)
                  obtain ⟨x0, hx0⟩ : ∃ x, x = Vp k q := ⟨_, rfl⟩
                  obtain ⟨y0, hy0⟩ : ∃ y, y = V kd pd := ⟨_, rfl⟩
                  rw [← hx0] at r5
                  rw [← hy0] at r7
                  obtain ⟨hn2, hhn2⟩ : ∃ h, h = half n := ⟨_, rfl⟩
                  have m1 : IntKind.i64.wrap ((k : Int) - (n : Int)) = (kd : Int) := by rw [IntKind.wrap_i64]; omega
                  have m2 : IntKind.i64.wrap ((half n : Nat) : Int) = ((half n : Nat) : Int) := by rw [IntKind.wrap_i64]; omega
                  have m2' : Int.tdiv (n : Int) 2 = ((half n : Nat) : Int) := by rw [Int.tdiv_eq_ediv_of_nonneg (by omega)]; omega
                  have m3 : IntKind.i64.wrap ((q : Int) - ((half n : Nat) : Int)) = (pd : Int) := by rw [IntKind.wrap_i64]; omega
                  have m4 : IntKind.i64.wrap ((i : Int) + 1) = (i : Int) + 1 := by rw [IntKind.wrap_i64]; omega
                  have n1 : (0 : Int) ≤ (i : Int) + 1 := by omega
                  have n2 : (i : Int) + 1 < (L : Int) + 1 := by omega
                  have n3 : ((i : Int) + 1).toNat = i + 1 := by omega
                  have n4 : (kd : Int) < (A : Int) + 1 := by omega
                  have n5 : (pd : Int) < (P : Int) + 1 := by omega
                  have n6 : (k : Int) < (A : Int) + 1 := by omega
                  have n7 : (q : Int) < (P : Int) + 1 := by omega
                  have HKD := Aside0.mk hkd
                  have HPD := Aside0.mk hpd
                  have HX0 := Aside0.mk hx0
                  have HY0 := Aside0.mk hy0
                  clear hkd hpd hx0 hy0 hhn2 hn2
                  go_wp2_with fail
                  go_still_tail 30, (by kernel_rfl)
                  change wpList _ _ _ _ _ wr.drew
                  have r6' : wr.drew.frozen? ⟨rn k, q, none⟩ = false := r6
                  have r5' : wr.drew.cell? ⟨rn k, q, none⟩ = some (.int .i64 x0) := r5
                  go_wp2
                  go_roundg (P + 1 - (q + 1))
                  case measure => omega
                  case rel =>
                    have hset := HIN.out.set hklt q (wrap64 (x0 + wrap64 (wv * y0)))
                    have hsz5 : p5 + 2 ≤ wr.heap.size := Nat.le_trans hz3 HIN.out.bel.size
                    refine ⟨q + 1, updV Vp k q (wrap64 (x0 + wrap64 (wv * y0))), by omega, by omega, by omega, by go_num, ⟨hset.below (by simpa using hsz5) (below_drew (Below.refl _ _))⟩, ⟨fun j p hj hp => ?_⟩⟩
                    have hx := HX0.out
                    rw [HVP.out k q hklt hqlt, if_neg (by omega)] at hx
                    have hy := HY0.out
                    have hkd := HKD.out
                    have hpd := HPD.out
                    rw [HV.out kd pd (by omega) (by omega), show (kd : Int) = (k : Int) - (n : Int) by omega, show (pd : Int) = (q : Int) - ((half n : Nat) : Int) by omega] at hy
                    have hst := HSTEP.out i n k q hilt (by rw [HOWN0.out]; exact hnown)
                    rw [HOWN0.out, ← hx, ← hy, ← HWV.out] at hst
                    unfold updV
                    by_cases c1 : j = k ∧ p = q
                    · rw [if_pos c1, if_pos (by omega), c1.1, c1.2]
                      exact hst
                    · rw [if_neg c1, HVP.out j p hj hp]
                      by_cases c2 : j < k ∨ j = k ∧ p < q
                      · rw [if_pos c2, if_pos (by omega)]
                      · rw [if_neg c2, if_neg (by omega)]
                · have hqz : ¬ (q : Int) ≤ (P : Int) := by omega
                  obtain rfl : q = P + 1 := by omega
                  go_wp2
                  go_roundg (A + 1 - (k + 1))
                  case measure => omega
                  case rel =>
                    refine ⟨k + 1, Vp, by omega, by omega, by omega, by go_num, HIN, ⟨fun j p hj hp => ?_⟩⟩
                    rw [HVP.out j p hj hp]
                    by_cases c1 : j < k + 1
                    · rw [if_pos c1, if_pos (by omega)]
                    · rw [if_neg c1, if_neg (by omega)]
            · have hkz : ¬ (k : Int) ≤ (A : Int) := by omega
              obtain rfl : k = A + 1 := by omega
              go_wp2
              go_roundg (own + 1 - (n + 1))
              case measure => omega
              case rel =>
                refine ⟨n + 1, Vk, by omega, by omega, by go_num, HIN, ⟨fun j p hj hp => ?_⟩⟩
                rw [HVK.out j p hj hp, if_pos (by omega)]
        · have hnz : ¬ (n : Int) < (own : Int) + 1 := by omega
          obtain rfl : n = own + 1 := by omega
          go_wp2
          go_roundg i
          case measure => omega
          case rel =>
            refine ⟨i, tn, cn, rn, pn, Vn, by omega, by omega, by first | rfl | go_num, ⟨?_, HIN.out.cur.lower HIN.out.sep.2.2.2, HIN.out.bel⟩, ⟨fun k p hk hp => ?_⟩⟩
            · obtain ⟨xs', q1, q2, _⟩ := HIN.out.out
              exact ⟨xs', q1, q2⟩
            · rw [HVN.out k p hk hp]
              have hd : ns.drop i = own :: ns.drop (i + 1) := by
                have := HL0.out
                rw [List.drop_eq_getElem_cons (show i < ns.length by omega), ← HOWN0.out]
                simp [List.getD_eq_getElem?_getD, show i < ns.length by omega]
              rw [hd]
              rfl
    · obtain rfl : j = 0 := by omega
      go_wp2
      go_ret
      obtain ⟨xs, q1, q2⟩ := HST.out.out
      have hbs : w.heap.size ≤ p5 + 2 := by have := HP5.out; have := HB2.out.size; omega
      have hm := HST.out.mat.lower hbs
      have hv := HV.out
      refine ⟨ob, co, tb2, ct2, rb2, cp2, xs, rfl, own_weaken q1 hbs, q2, ?_, HB3.out.trans (HST.out.bel.mono hbs)⟩
      refine ⟨hm.tab, fun k hk => ?_, hm.inj⟩
      have e2 : numL P (V k) = numL P (fun p => T wt half ns (k : Int) (p : Int)) := by
        unfold numL
        refine List.map_congr_left fun p hp => ?_
        have := hv k p (by omega) (by simp at hp; omega)
        rw [List.drop_zero] at this
        exact this
      have := hm.row k hk
      rw [e2] at this
      exact this
end Go.Proofs.Ytnikblimnjpmpaa.X

/- ==== Hchoices ==== -/
/- Pairs, plain laws; the program's choices: its contract: the numbers of choices by socks and pairs. -/
/- ==== PlPairs ==== -/
namespace Go.Proofs.Ytnikblimnjpmpaa.X
open Go.RowKit Go.Proofs.YtnikblimnjpmpaaW.PrintWords Go.Proofs.YtnikblimnjpmpaaW.PrintLast Go.Proofs.YtnikblimnjpmpaaW.PrintMore

def pairL (l : List Nat) : Nat := l.foldr (fun n s => half n + s) 0
theorem pairL_cons (n : Nat) (l : List Nat) : pairL (n :: l) = half n + pairL l := rfl
theorem pairL_le : ∀ l : List Nat, pairL l ≤ sumL l
  | [] => Nat.le_refl _
  | n :: l => by have := pairL_le l; rw [pairL_cons, sumL_cons]; unfold half; omega
theorem get_le_sum : ∀ (l : List Nat) (i : Nat), i < l.length → l.getD i 0 ≤ sumL l ∧ half (l.getD i 0) ≤ pairL l
  | n :: l, 0, _ => by rw [sumL_cons, pairL_cons]; simp
  | n :: l, i + 1, h => by
    have := get_le_sum l i (by simpa using h)
    rw [sumL_cons, pairL_cons]
    simp only [List.getD_cons_succ]
    omega
theorem acc_w {acc n : Nat} (h : acc ≤ 1000) (hn : n ≤ 1000) : wrap64 ((acc : Int) + wrap64 (Int.tdiv ((n : Nat) : Int) 2)) = ((acc + half n : Nat) : Int) := by
  have h1 : Int.tdiv ((n : Nat) : Int) 2 = ((half n : Nat) : Int) := by
    rw [Int.tdiv_eq_ediv_of_nonneg (by omega)]
    unfold half
    omega
  have h2 : half n ≤ 1000 := by unfold half; omega
  rw [h1, w64 (x := ((half n : Nat) : Int)) (by omega) (by omega), w64 (by omega) (by omega)]
  omega
theorem pairs_loop (ns : List Nat) (h20 : ∀ n ∈ ns, n ≤ 20) (hl : ns.length ≤ 8) (d : Nat) : ∀ (i acc : Nat), i + d = ns.length → acc ≤ 10 * i →
    Ev (fun k => impl_pairsOf.l0 k (acc : Int) (toI ns) ((toI ns).length : Int) (i : Int)) ((acc + pairL (ns.drop i) : Nat) : Int) := by
  have hlen : (toI ns).length = ns.length := by simp [toI]
  induction d with
  | zero =>
    intro i acc hi _
    rw [List.drop_of_length_le (by omega)]
    refine Ev.step (f := fun _ => some (acc : Int)) (fun k => ?_) (Ev.now _)
    simp only [impl_pairsOf.l0]
    rw [if_neg (by omega)]
  | succ d ih =>
    intro i acc hi ha
    have hlt : i < ns.length := by omega
    have hx := h20 _ (List.getElem_mem hlt)
    have hrd : rd (toI ns) (i : Int) = ((ns[i] : Nat) : Int) := by simp [toI, rd, List.getD_eq_getElem?_getD, hlt]
    have hh : half ns[i] ≤ 10 := by unfold half; omega
    have hw := acc_w (acc := acc) (n := ns[i]) (by omega) (by omega)
    have hs := ih (i + 1) (acc + half ns[i]) (by omega) (by omega)
    rw [List.drop_eq_getElem_cons hlt, pairL_cons, ← Nat.add_assoc]
    refine Ev.step (fun k => ?_) hs
    simp only [impl_pairsOf.l0]
    rw [if_pos (by omega), if_pos (by omega), if_pos (by omega), hrd, w64s hlt (by omega)]
    rw [hw]
theorem pairsOf_ev {ns : List Nat} (h20 : ∀ n ∈ ns, n ≤ 20) (hl : ns.length ≤ 8) : Ev (fun k => impl_pairsOf.f k (toI ns)) ((pairL ns : Nat) : Int) := by
  have := pairs_loop ns h20 hl ns.length 0 0 (by omega) (by omega)
  simpa [impl_pairsOf.f] using this
theorem sumN_mono {n m : Nat} {f : Nat → Int} (h : n ≤ m) (h0 : ∀ d, 0 ≤ f d) : sumN n f ≤ sumN m f := by
  obtain ⟨e, rfl⟩ := Nat.exists_eq_add_of_le h
  rw [sumN_split]
  have : 0 ≤ sumN e (fun d => f (n + d)) := sumN_nonneg fun d _ => h0 _
  omega
/-- A colour's sums, where the ways are few. -/
theorem S_step {wt : Nat → Nat → Int} (h0 : ∀ n d, 0 ≤ wt n d) {own : Nat} {r : List Nat} (hb : ∀ k p : Int, T wt half (own :: r) k p ≤ 4611686018427387904) {n : Nat} (hn : n ≤ own) (k p : Nat) :
    wrap64 (S wt own r n k p + wrap64 (wt own n * T wt half r ((k : Int) - n) ((p : Int) - half n))) = S wt own r (n + 1) k p := by
  have hd : ∀ d : Nat, 0 ≤ wt own d * T wt half r ((k : Int) - d) ((p : Int) - half d) := fun d => Int.mul_nonneg (h0 _ _) (T_nonneg h0)
  have h1 : 0 ≤ S wt own r n k p := sumN_nonneg fun d _ => hd d
  have h2 := hd n
  have h3 : S wt own r (n + 1) k p = S wt own r n k p + wt own n * T wt half r ((k : Int) - n) ((p : Int) - half n) := rfl
  have h4 : S wt own r (n + 1) k p ≤ T wt half (own :: r) (k : Int) (p : Int) := sumN_mono (by omega) hd
  have h5 := hb (k : Int) (p : Int)
  generalize wt own n * T wt half r ((k : Int) - n) ((p : Int) - half n) = z at *
  rw [h3] at h4 ⊢
  generalize S wt own r n k p = y at *
  rw [w64 (x := z) (by omega) (by omega), w64 (by omega) (by omega)]
theorem drop_sum (ns : List Nat) (i : Nat) : sumL (ns.drop i) ≤ sumL ns := by
  induction i generalizing ns with
  | zero => exact Nat.le_refl _
  | succ i ih =>
    cases ns with
    | nil => exact Nat.le_refl _
    | cons n l => rw [List.drop_succ_cons, sumL_cons]; have := ih l; omega
theorem drop_cons (ns : List Nat) {i : Nat} (h : i < ns.length) : ns.drop i = ns.getD i 0 :: ns.drop (i + 1) := by
  rw [List.drop_eq_getElem_cons h]
  simp [List.getD_eq_getElem?_getD, h]
end Go.Proofs.Ytnikblimnjpmpaa.X

/- ==== Hchoices ==== -/
namespace Go.Proofs.Ytnikblimnjpmpaa.X
open Go.RowKit Go.Proofs.YtnikblimnjpmpaaW.PrintWords Go.Proofs.YtnikblimnjpmpaaW.PrintLast Go.Proofs.YtnikblimnjpmpaaW.PrintMore

def tabV (A P : Nat) (V : Nat → Nat → Int) : List (List Int) := (List.range (A + 1)).map fun k => numL P (V k)
theorem Mat.S {W : World} {base tb ct : Nat} {rb cp : Nat → Nat} {A P : Nat} {V : Nat → Nat → Int} (h : Mat W base tb ct rb cp A P (A + 1) V) : Kd.S (Kd.slice 3 (Kd.int .i64)) 22 W base (fun _ => True) (.slice (some ⟨tb, 0, none⟩) (A + 1) ct) (tabV A P V) := by
  have hl : (tabV A P V).length = A + 1 := by simp [tabV]
  obtain ⟨f, hr⟩ := Kd.reps_tag (d := Kd.slice 3 (Kd.int .i64)) (w := W) (base := base) (ok := fun k => True ∧ some k ≠ (Value.slice (some ⟨tb, 0, none⟩) (A + 1) ct).ownBlock) (xs := tabV A P V) (inner := tabL A P rb cp (A + 1)) (fun j k => j < A + 1 ∧ k = rb j)
    (fun i j k hi hj => h.inj i j hi.1 hj.1 (by rw [← hi.2, ← hj.2])) (fun j k hk => ⟨trivial, by have := h.tb_ne hk.1; simpa [Value.ownBlock, hk.2] using this⟩) (by simp [tabV, tabL, Kd.slice]) (fun j x hx => by
      have hj : j < A + 1 := by have := (List.getElem?_eq_some_iff.1 hx).1; omega
      have hxe : x = numL P (V j) := by
        simp only [tabV, List.getElem?_map, List.getElem?_range hj, Option.map_some, Option.some.injEq] at hx
        exact hx.symm
      subst hxe
      refine ⟨rowV P rb cp j, ?_, Kd.R_of_own (by
        have := h.row j hj
        simpa [nums, encs, numL] using this) (fun k hk => ⟨hj, ?_⟩)⟩
      · show ((tabL A P rb cp (A + 1)).drop (j * 1)).take 1 = _
        rw [Nat.mul_one, List.drop_eq_getElem_cons (by simp [tabL]; omega)]
        simp [tabL, hj]
      · have : rb j = k := by simpa [rowV, Value.ownBlock] using hk
        exact this.symm)
  exact ⟨f, fun _ _ => trivial, tabL A P rb cp (A + 1), by rw [List.length_zipIdx, hl]; exact h.tab, hr⟩

def nat (l : List Int) : List Nat := l.map Int.toNat
def choV (l : List Int) : List (List Int) := tabV (sumL (nat l)) (pairL (nat l)) fun k p => T wB half (nat l) (k : Int) (p : Int)
def impl_choices.f (l0 : List Int) : Option ((List (List Int))) := if few l0 = true then some (choV l0) else none
theorem weighs61 {A0 : Option Addr} {c0 : Nat} {ns : List Nat} (h20 : ∀ n ∈ ns, n ≤ 20) {w W : World} {b : Nat} (hr : Kd.C (Kd.int .i64) w A0 (toI ns).length (toI ns)) (hb : W.cell? ⟨b, 0, none⟩ = some (.slice A0 (toI ns).length c0)) (hB : Below w.heap.size w W) :
    Weighs 61 #[.pointer (some ⟨b, 0, none⟩)] ns wB W.heap.size W := by
  intro W1 i n hi hn hb1
  have hlen : (toI ns).length = ns.length := by simp [toI]
  show Calls Try.prog 61 #[.int .i64 (i : Int), .int .i64 (n : Int), .pointer (some ⟨b, 0, none⟩)] W1 _
  have hbox := (hb1.cell (World.block_lt_of_cell? W _ hb)).trans hb
  obtain ⟨ad, e1, hx⟩ := Kd.at_int hr (i : Int) (by omega) (by omega)
  subst e1
  have hx1 := (hb1.cell (Nat.lt_of_lt_of_le (World.block_lt_of_cell? w _ hx) hB.size)).trans ((hB.cell (World.block_lt_of_cell? w _ hx)).trans hx)
  have hrd : rd (toI ns) (i : Int) = ((ns.getD i 0 : Nat) : Int) := by simp [toI, rd, List.getD_eq_getElem?_getD, hi]
  have ho : ns.getD i 0 ≤ 20 := by
    have := h20 _ (List.getElem_mem hi)
    simpa [List.getD_eq_getElem?_getD, hi] using this
  rw [hrd, Int.toNat_natCast] at hx1
  generalize ns.getD i 0 = own at *
  have HC := Aside0.mk (fun W => impl_choose.calls 100 (own : Int) (n : Int) (wB own n) W (chkB_at (by omega) hn).1)
  have hiz : (i : Int) < ((toI ns).length : Int) := by omega
  clear hr hb hx hrd hB hb1
  generalize wB own n = v at *
  generalize (toI ns).length = m at *
  go_enter Try.func61, Try.ntmps61
  go_wp2_with (go_at_call 38; refine (HC.out _).mono ?_; rintro e w' ⟨rfl, hb⟩)
  go_ret
  exact ⟨rfl, hb⟩
set_option maxHeartbeats 8000000 in
set_option maxRecDepth 100000 in
theorem impl_choices.calls (A0 : Option Addr) (c0 : Nat) (l0 : List Int) (r : List (List Int)) (w : World) (hr0 : Kd.C (Kd.int .i64) w A0 l0.length l0) (hc0 : l0.length ≤ c0) (h : impl_choices.f l0 = some r) :
    Calls Try.prog 41 #[.slice A0 l0.length c0] w fun e w' => ∃ v0_ : Value, e = .returned (v0_) ∧ Kd.S (Kd.slice 3 (Kd.int .i64)) 22 w' w.heap.size (fun _ => True) v0_ r ∧ Below w.heap.size w w' := by
  unfold impl_choices.f at h
  by_cases hf : few l0 = true
  · rw [if_pos hf] at h
    have h1 := Option.some.inj h
    clear h
    obtain ⟨_, g2, g3, _, _⟩ := few_of hf
    have etot := total_ev g2 g3
    obtain ⟨ns, rfl, h20, hl1, hl8, hs1, hs40, ht⟩ := few_ns hf
    rw [ht] at etot
    obtain ⟨k1, ht1⟩ := etot.rounds
    obtain ⟨k2, hp1⟩ := (pairsOf_ev h20 hl8).rounds
    have hnat : nat (toI ns) = ns := by
      unfold nat toI
      rw [List.map_map]
      have : ns.map (Int.toNat ∘ fun n : Nat => (n : Int)) = ns.map id := List.map_congr_left fun x _ => by simp
      rw [this, List.map_id]
    have hlen : (toI ns).length = ns.length := by simp [toI]
    have hpl := pairL_le ns
    have HCON := Aside0.mk (fun (W : World) (hb : W.cell? ⟨w.heap.size, 0, none⟩ = some (.slice A0 (toI ns).length c0)) (hB : Below w.heap.size w W) =>
      waysOf_calls 61 #[.pointer (some ⟨w.heap.size, 0, none⟩)] (enters_of Try.func61 (by kernel_rfl) rfl) ns wB (sumL ns) (pairL ns) k1 k2 A0 c0 W (by have := Kd.C_below hr0 hB; rw [hlen] at this; exact this) (by omega) (weighs61 h20 hr0 hb hB) hl8 (by omega) (by omega)
        (fun i hi => get_le_sum ns i hi) (fun i n k p hi hn => by
          refine S_step wB_nonneg (fun k p => ?_) hn k p
          rw [← drop_cons ns hi]
          have := T_bound (m := half) (l := ns.drop i) (fun x hx => h20 x (List.mem_of_mem_drop hx)) (Nat.le_trans (drop_sum ns i) hs40) k p
          omega) ht1 hp1)
    rw [hlen] at HCON ⊢
    have hL0 : (0 : Int) < (ns.length : Int) + 1 := by omega
    have H1 := Aside0.mk h1
    have HNAT := Aside0.mk hnat
    clear hr0 hc0 hf g2 g3 ht ht1 hp1 etot h1 hnat hlen h20
    go_enter Try.func41, Try.ntmps41
    go_wp2_with (go_at_call 60; refine (HCON.out _ (by simp) ((Below.refl _ _).alloc (Nat.le_refl _) _)).mono ?_; rintro e w1 ⟨ob, co, tb, ct, rb, cp, xs, rfl, q1, q2, hm, hb⟩; have hcz := (q1.cellAt 0 (by omega)).trans q2; have HM := Aside0.mk (hm.lower (b := w.heap.size) (by simp)); have HB := Aside0.mk (((Below.refl w.heap.size w).alloc (Nat.le_refl _) (.cells #[.slice A0 ns.length c0] 22)).trans (hb.mono (by simp))); clear q1 q2 hm hb)
    go_ret
    refine ⟨_, rfl, ?_, HB.out⟩
    rw [← H1.out]
    unfold choV
    rw [HNAT.out]
    exact HM.out.S
  · rw [if_neg hf] at h
    cases h
end Go.Proofs.Ytnikblimnjpmpaa.X

/- ==== Ximplgcd ==== -/
namespace Go.Proofs.Ytnikblimnjpmpaa.X
open Go.RowKit Go.Proofs.YtnikblimnjpmpaaW.PrintWords Go.Proofs.YtnikblimnjpmpaaW.PrintLast Go.Proofs.YtnikblimnjpmpaaW.PrintMore
attribute [local go_sem] max2_int min2_int max_two min_two max_three min_three max_four min_four   -- for this text's walks alone
set_option linter.unusedVariables false
set_option linter.unusedSimpArgs false

/-! ### impl_gcd: function 59 -/
def impl_gcd.l0 : Nat → Int → Int → Option (Int)
  | 0, _, _ => none
  | k + 1, x0, x1 => if x1 = 0 then (some x0) else (impl_gcd.l0 k x1 (Int.tmod x0 x1))
def impl_gcd.f (k : Nat) (a0 : Int) (a1 : Int) : Option (Int) := impl_gcd.l0 k a0 a1
theorem impl_gcd.mono_l : ∀ k, (∀ y0 y1, LeO (impl_gcd.l0 k y0 y1) (impl_gcd.l0 (k + 1) y0 y1))
  | 0 => fun _ _ r h => by simp [impl_gcd.l0] at h
  | k + 1 => by
    have ih0 := impl_gcd.mono_l k
    · intro y0 y1
      unfold impl_gcd.l0
      repeat' first
      | (with_reducible exact ih0 _ _)
      | (with_reducible exact LeO.refl _)
      | (with_reducible exact LeO.none _)
      | (with_reducible refine LeO.ite ?_ ?_)
      | (with_reducible refine LeO.bind ?_ (fun _ => ?_))
      | exact ih0 _ _
      | exact LeO.none _
      | refine LeO.ite ?_ ?_
      | refine LeO.bind ?_ (fun _ => ?_)
theorem impl_gcd.mono : ∀ a0 a1 k, LeO (impl_gcd.f k a0 a1) (impl_gcd.f (k + 1) a0 a1) := by
  intro a0 a1 k
  have ih0 := impl_gcd.mono_l k
  unfold impl_gcd.f
  repeat' first
      | (with_reducible exact ih0 _ _)
      | (with_reducible exact LeO.refl _)
      | (with_reducible exact LeO.none _)
      | (with_reducible refine LeO.ite ?_ ?_)
      | (with_reducible refine LeO.bind ?_ (fun _ => ?_))
      | exact ih0 _ _
      | exact LeO.none _
      | refine LeO.ite ?_ ?_
      | refine LeO.bind ?_ (fun _ => ?_)
set_option maxHeartbeats 8000000 in
set_option maxRecDepth 100000 in
theorem impl_gcd.calls (k : Nat) (a0 : Int) (a1 : Int) (r : Int) (w : World) (h : impl_gcd.f k a0 a1 = some r) :
    Calls Try.prog 59 #[.int .i64 a0, .int .i64 a1] w fun e w' => e = .returned (.int .i64 r) ∧ Drawn0 w w' := by
  have H : (impl_gcd.l0 k a0 a1) = some r := h
  clear h
  have H' := Aside0.mk H
  clear H
  go_enter Try.func59, Try.ntmps59
  go_wp2
  repeat (go_quiet (fail); try go_wp2)
  go_loopg [0, 1] k (fun kq v0 v1 w' => ∃ (x0_1 : Int) (x1_1 : Int), v0 = .int .i64 x0_1 ∧ v1 = .int .i64 x1_1 ∧ Aside0 (impl_gcd.l0 kq x0_1 x1_1 = some r) ∧ Aside0 (kq ≤ k) ∧ Drawn0 w w')
  case atStart => exact ⟨(a0), (a1), (by first | rfl | (simp; done) | (simp [*]; done)), (by first | rfl | (simp; done) | (simp [*]; done)), H', ⟨Nat.le_refl _⟩, by repeat (first | exact Drawn0.refl _ | apply Drawn0.step)⟩
  case round =>
    clear H'
    try clear p2
    obtain ⟨x0_1, x1_1, rfl, rfl, HA, HK1, ⟨m1, rfl⟩⟩ := hrel
    cases gk with
    | zero => exact absurd HA.out (by simp [impl_gcd.l0])
    | succ k1 =>
      have H := HA.out
      clear HA
      simp only [impl_gcd.l0] at H
      by_cases c3 : x1_1 = 0
      · rw [if_pos c3] at H
        have c3b0 : (x1_1 == 0) = true := beq_iff_eq.mpr c3
        have c3b1 : (x1_1 != 0) = false := bne_eq_false_iff_eq.mpr c3
        clear c3
        obtain rfl := Option.some.inj H
        go_wp2
        repeat (go_quiet (fail); try go_wp2)
        go_ret
        exact ⟨by first | rfl | (simp; done) | (simp [*]; done), by repeat (first | exact Drawn0.refl _ | apply Drawn0.step)⟩
      · rw [if_neg c3] at H
        have c3b0 : (x1_1 == 0) = false := beq_eq_false_iff_ne.mpr c3
        have c3b1 : (x1_1 != 0) = true := bne_iff_ne.mpr c3
        have H' := Aside0.mk H
        clear H
        go_wp2
        repeat (go_quiet (fail); try go_wp2)
        go_roundg k1
        case measure => have := HK1.out; omega
        case rel => exact ⟨(x1_1), (Int.tmod x0_1 x1_1), (by first | rfl | (simp; done) | (simp [*]; done)), (by first | rfl | (simp; done) | (simp [*]; done)), H', ⟨by have := HK1.out; omega⟩, by repeat (first | exact Drawn0.refl _ | apply Drawn0.step)⟩

end Go.Proofs.Ytnikblimnjpmpaa.X

/- ==== Ximplfraction ==== -/
namespace Go.Proofs.Ytnikblimnjpmpaa.X
open Go.RowKit Go.Proofs.YtnikblimnjpmpaaW.PrintWords Go.Proofs.YtnikblimnjpmpaaW.PrintLast Go.Proofs.YtnikblimnjpmpaaW.PrintMore
attribute [local go_sem] max2_int min2_int max_two min_two max_three min_three max_four min_four   -- for this text's walks alone
set_option linter.unusedVariables false
set_option linter.unusedSimpArgs false

/-! ### impl_fraction: function 39 -/
def impl_fraction.f (k : Nat) (a0 : Int) (a1 : Int) : Option (Int × Int × Bool) := (impl_gcd.f k a0 a1).bind fun t156 => (if t156 = 0 then (none) else (some (wrap64 (Int.tdiv a0 t156), wrap64 (Int.tdiv a1 t156), true)))
theorem impl_fraction.mono : ∀ a0 a1 k, LeO (impl_fraction.f k a0 a1) (impl_fraction.f (k + 1) a0 a1) := by
  intro a0 a1 k
  unfold impl_fraction.f
  repeat' first
      | (with_reducible exact impl_gcd.mono _ _ _)
      | (with_reducible exact LeO.refl _)
      | (with_reducible exact LeO.none _)
      | (with_reducible refine LeO.ite ?_ ?_)
      | (with_reducible refine LeO.bind ?_ (fun _ => ?_))
      | exact impl_gcd.mono _ _ _
      | exact LeO.none _
      | refine LeO.ite ?_ ?_
      | refine LeO.bind ?_ (fun _ => ?_)
set_option maxHeartbeats 8000000 in
set_option maxRecDepth 100000 in
theorem impl_fraction.calls (k : Nat) (a0 : Int) (a1 : Int) (r1 : Int) (r2 : Int) (r3 : Bool) (w : World) (h : impl_fraction.f k a0 a1 = some (r1, r2, r3)) :
    Calls Try.prog 39 #[.int .i64 a0, .int .i64 a1] w fun e w' => e = .returned (.tuple #[.int .i64 r1, .int .i64 r2, .bool r3]) ∧ Drawn0 w w' := by
  have H : ((impl_gcd.f k a0 a1).bind fun t156 => (if t156 = 0 then (none) else (some (wrap64 (Int.tdiv a0 t156), wrap64 (Int.tdiv a1 t156), true)))) = some (r1, r2, r3) := h
  clear h
  replace H := Option.bind_eq_some_iff.mp H
  obtain ⟨t156, A30, H⟩ := H
  replace H : (if t156 = 0 then (none) else (some (wrap64 (Int.tdiv a0 t156), wrap64 (Int.tdiv a1 t156), true))) = some (r1, r2, r3) := H
  have A3 := Aside0.mk A30
  clear A30
  by_cases c4 : t156 = 0
  · rw [if_pos c4] at H
    exact absurd H (by simp)
  · rw [if_neg c4] at H
    have c4b0 : (t156 == 0) = false := beq_eq_false_iff_ne.mpr c4
    have c4b1 : (t156 != 0) = true := bne_iff_ne.mpr c4
    simp only [Option.some.injEq, Prod.mk.injEq] at H
    obtain ⟨rfl, rfl, rfl⟩ := H
    go_enter Try.func39, Try.ntmps39
    go_wp2_with (first | (go_at_call 59; (with_reducible refine (impl_gcd.calls k a0 a1 t156 _ A3.out).mono ?_); rintro e w' ⟨rfl, ⟨nd, rfl⟩⟩; (try first | exact ⟨rfl, _, World.drewN_drewN _ _ _⟩ | exact ⟨rfl, _, Eq.trans (World.drewN_drewN _ _ _) (congrArg (World.drewN _) (Nat.add_assoc _ _ _))⟩)))
    repeat (go_quiet (first | (go_at_call 59; (with_reducible refine (impl_gcd.calls k a0 a1 t156 _ A3.out).mono ?_); rintro e w' ⟨rfl, ⟨nd, rfl⟩⟩; (try first | exact ⟨rfl, _, World.drewN_drewN _ _ _⟩ | exact ⟨rfl, _, Eq.trans (World.drewN_drewN _ _ _) (congrArg (World.drewN _) (Nat.add_assoc _ _ _))⟩))); try go_wp2_with (first | (go_at_call 59; (with_reducible refine (impl_gcd.calls k a0 a1 t156 _ A3.out).mono ?_); rintro e w' ⟨rfl, ⟨nd, rfl⟩⟩; (try first | exact ⟨rfl, _, World.drewN_drewN _ _ _⟩ | exact ⟨rfl, _, Eq.trans (World.drewN_drewN _ _ _) (congrArg (World.drewN _) (Nat.add_assoc _ _ _))⟩))))
    go_ret3
    exact ⟨by first | rfl | (simp; done) | (simp [*]; done), by repeat (first | exact Drawn0.refl _ | apply Drawn0.step)⟩

end Go.Proofs.Ytnikblimnjpmpaa.X

/- ==== HChance ==== -/
/- The program's chanceOf, for whatever numbers of pairs fit: its contract. -/
namespace Go.Proofs.Ytnikblimnjpmpaa.X
open Go.RowKit Go.Proofs.YtnikblimnjpmpaaW.PrintWords Go.Proofs.YtnikblimnjpmpaaW.PrintLast Go.Proofs.YtnikblimnjpmpaaW.PrintMore

def fitS (fits : Int → Bool) : List Int → Int → Int → Int
  | [], _, s => s
  | n :: r, p, s => fitS fits r (wrap64 (p + 1)) (if fits p = true then wrap64 (s + n) else s)
def chanceF (fits : Int → Bool) (k : Nat) (l : List Int) (a1 a2 : Int) : Option (Int × Int × Bool) :=
  (impl_isNumber.f k l a1).bind fun t => if t = true then (if a2 < 0 then some (0, 0, false) else (impl_choices.f l).bind fun c => if 0 ≤ a1 then (if a1 < (c.length : Int) then (impl_total.f k l).bind fun u => (impl_choose.f k u a1).bind fun v => (impl_fraction.f k (fitS fits (rd_L1 c a1) 0 0) v).bind fun b => some (b.1, b.2.1, b.2.2) else none) else none) else some (0, 0, false)
theorem chanceF.mono (fits : Int → Bool) : ∀ a0 a1 a2 k, LeO (chanceF fits k a0 a1 a2) (chanceF fits (k + 1) a0 a1 a2) := by
  intro a0 a1 a2 k
  unfold chanceF
  refine LeO.bind (impl_isNumber.mono _ _ _) (fun t => LeO.ite (LeO.ite (LeO.refl _) (LeO.bind (LeO.refl _) (fun c => LeO.ite (LeO.ite (LeO.bind (impl_total.mono _ _) (fun u => LeO.bind (impl_choose.mono _ _ _) (fun v => LeO.bind (impl_fraction.mono _ _ _) (fun _ => LeO.refl _)))) (LeO.refl _)) (LeO.refl _)))) (LeO.refl _))
def Fits (g : Nat) (lb : Array Value) (fits : Int → Bool) (w : World) : Prop := ∀ (W : World) (p : Int), Below w.heap.size w W → Calls Try.prog g (#[.int .i64 p] ++ lb) W fun e w' => e = .returned (.bool (fits p)) ∧ Below W.heap.size W w'
set_option maxHeartbeats 8000000 in
set_option maxRecDepth 100000 in
theorem chance_calls (fits : Int → Bool) (g : Nat) (lb : Array Value) (eg : ∀ args w, (callFunc g args).run Try.prog w = .ok (.enter g args) w) (k : Nat) (A0 : Option Addr) (c0 : Nat) (l0 : List Int) (a1 a2 r1 r2 : Int) (r3 : Bool) (w : World)
    (hr0 : Kd.C (Kd.int .i64) w A0 l0.length l0) (hc0 : l0.length ≤ c0) (hf : Fits g lb fits w) (h : chanceF fits k l0 a1 a2 = some (r1, r2, r3)) :
    Calls Try.prog 44 #[.slice A0 l0.length c0, .int .i64 a1, .int .i64 a2, .func (.func g) #[] lb] w fun e w' => e = .returned (.tuple #[.int .i64 r1, .int .i64 r2, .bool r3]) ∧ Below w.heap.size w w' := by
  have HR := Aside0.mk hr0
  have HC := Aside0.mk hc0
  have HF := Aside0.mk hf
  unfold chanceF at h
  obtain ⟨t, ht, h⟩ := Option.bind_eq_some_iff.1 h
  have HT := Aside0.mk ht
  clear hr0 hc0 hf ht
  cases t with
  | false =>
    rw [if_neg (by decide)] at h
    simp only [Option.some.injEq, Prod.mk.injEq] at h
    obtain ⟨rfl, rfl, rfl⟩ := h
    go_enter Try.func44, Try.ntmps44
    go_wp2_with (go_at_call 37; refine (impl_isNumber.calls k A0 c0 l0 a1 false _ HR.out HC.out HT.out).mono ?_; rintro e w1 ⟨rfl, hb⟩)
    all_goals (go_ret3; exact ⟨rfl, hb⟩)
  | true =>
    rw [if_pos rfl] at h
    by_cases hneg : a2 < 0
    · rw [if_pos hneg] at h
      simp only [Option.some.injEq, Prod.mk.injEq] at h
      obtain ⟨rfl, rfl, rfl⟩ := h
      go_enter Try.func44, Try.ntmps44
      go_wp2_with (go_at_call 37; refine (impl_isNumber.calls k A0 c0 l0 a1 true _ HR.out HC.out HT.out).mono ?_; rintro e w1 ⟨rfl, hb⟩)
      go_ret3
      exact ⟨rfl, hb⟩
    · rw [if_neg hneg] at h
      obtain ⟨c, hc, h⟩ := Option.bind_eq_some_iff.1 h
      by_cases h0 : 0 ≤ a1
      · rw [if_pos h0] at h
        by_cases h1 : a1 < (c.length : Int)
        · rw [if_pos h1] at h
          obtain ⟨u, hu, h⟩ := Option.bind_eq_some_iff.1 h
          obtain ⟨v, hv, h⟩ := Option.bind_eq_some_iff.1 h
          obtain ⟨⟨b1, b2, b3⟩, hb', h⟩ := Option.bind_eq_some_iff.1 h
          simp only [Option.some.injEq, Prod.mk.injEq] at h
          obtain ⟨rfl, rfl, rfl⟩ := h
          have HCH := Aside0.mk hc
          have HU := Aside0.mk hu
          have HV := Aside0.mk hv
          have HFR := Aside0.mk hb'
          clear hc hu hv hb'
          generalize hrow : rd_L1 c a1 = row at *
          have HROW := Aside0.mk hrow
          clear hrow
          go_enter Try.func44, Try.ntmps44
          go_wp2_with (first | (go_at_call 37; refine (impl_isNumber.calls k A0 c0 l0 a1 true _ HR.out HC.out HT.out).mono ?_; rintro e w1 ⟨rfl, hb⟩; have HB := Aside0.mk hb; clear hb) | (go_at_call 41; refine (impl_choices.calls A0 c0 l0 c w1 (Kd.C_below HR.out HB.out) HC.out HCH.out).mono ?_; rintro e w2 ⟨vv, rfl, hs, hb⟩; obtain ⟨A1, c1, rfl⟩ := Kd.S_slice hs; obtain ⟨ad, A2, c2, rfl, hx, hl2, hrw⟩ := at_L1 (Kd.S_reads' hs).2.2 a1 h0 h1; rw [HROW.out] at hx hl2 hrw; have HRW := Aside0.mk hrw; have HB2 := Aside0.mk (HB.out.trans (hb.mono HB.out.size)); clear hs hb hl2 hrw))
          clear hx
          have hrl : row.length ≤ 9223372036854775807 := HRW.out.2.1
          go_loopg [11, 12, 13, 28] row.length (fun gg s11 _ _ s28 wr => ∃ (kk : Nat) (s : Int), kk ≤ row.length ∧ row.length - kk ≤ gg ∧ s28 = .int .i64 kk ∧ s11 = .int .i64 s ∧ Aside0 (fitS fits (row.drop kk) (kk : Int) s = fitS fits row 0 0) ∧ Aside0 (Below w2.heap.size w2 wr))
          case atStart => exact ⟨0, 0, Nat.zero_le _, by omega, rfl, rfl, ⟨rfl⟩, ⟨Below.refl _ _⟩⟩
          case round =>
            obtain ⟨kk, s, hkk, hgg, rfl, rfl, HS, HB3⟩ := hrel
            by_cases hlt : kk < row.length
            · have hltz : (kk : Int) < (row.length : Int) := by omega
              obtain ⟨ad1, e1, hx1⟩ := Kd.at_int HRW.out (kk : Int) (by omega) hltz
              cases e1
              replace hx1 := (HB3.out.cell (World.block_lt_of_cell? w2 _ hx1)).trans hx1
              rw [Int.toNat_natCast] at hx1
              have hcall := HF.out wr (kk : Int) (HB2.out.trans (HB3.out.mono HB2.out.size))
              have hdr := HS.out
              rw [drop_get hlt] at hdr
              simp only [fitS] at hdr
              rw [show wrap64 ((kk : Int) + 1) = ((kk + 1 : Nat) : Int) from by unfold wrap64; omega] at hdr
              generalize rd row (kk : Int) = x at *
              cases hfit : fits (kk : Int) with
              | true =>
                rw [hfit] at hcall hdr
                rw [if_pos rfl] at hdr
                have HCALL := Aside0.mk hcall
                have HDR := Aside0.mk hdr
                clear hcall hdr hfit
                go_wp2_with (go_at_fn g; refine (HCALL.out).mono ?_; rintro e w6 ⟨rfl, hb⟩; have HB6 := Aside0.mk (HB3.out.trans (hb.mono HB3.out.size)); clear hb)
                go_roundg (row.length - (kk + 1))
                case measure => omega
                case rel => exact ⟨kk + 1, wrap64 (s + x), by omega, by omega, by go_num, rfl, HDR, HB6⟩
              | false =>
                rw [hfit] at hcall hdr
                rw [if_neg (by decide)] at hdr
                have HCALL := Aside0.mk hcall
                have HDR := Aside0.mk hdr
                clear hcall hdr hfit
                go_wp2_with (go_at_fn g; refine (HCALL.out).mono ?_; rintro e w6 ⟨rfl, hb⟩; have HB6 := Aside0.mk (HB3.out.trans (hb.mono HB3.out.size)); clear hb)
                go_roundg (row.length - (kk + 1))
                case measure => omega
                case rel => exact ⟨kk + 1, s, by omega, by omega, by go_num, rfl, HDR, HB6⟩
            · have hltz : ¬ (kk : Int) < (row.length : Int) := by omega
              have e0 : kk = row.length := by omega
              have hs : s = fitS fits row 0 0 := by rw [← HS.out, e0, List.drop_length]; rfl
              subst hs
              clear e0
              have HBW := Aside0.mk (HB2.out.trans (HB3.out.mono HB2.out.size))
              go_wp2_with (first | (go_at_call 40; refine (impl_total.calls k A0 c0 l0 u _ (Kd.C_below HR.out HBW.out) HC.out HU.out).mono ?_; rintro e w7 ⟨rfl, hb⟩; have HB7 := Aside0.mk (HBW.out.trans (hb.below.mono HBW.out.size)); clear hb) | (go_at_call 38; refine (impl_choose.calls k u a1 v _ HV.out).mono ?_; rintro e w8 ⟨rfl, hb⟩; have HB8 := Aside0.mk (HB7.out.trans (hb.mono HB7.out.size)); clear hb) | (go_at_call 39; refine (impl_fraction.calls k _ _ b1 b2 b3 _ HFR.out).mono ?_; rintro e w9 ⟨rfl, hd⟩; have HB9 := Aside0.mk (HB8.out.trans (hd.below.mono HB8.out.size)); clear hd))
              go_ret3
              exact ⟨rfl, HB9.out⟩
        · rw [if_neg h1] at h
          cases h
      · rw [if_neg h0] at h
        cases h
end Go.Proofs.Ytnikblimnjpmpaa.X

/- ==== HChanceAtLeast ==== -/
/- The program's ChanceAtLeast: its contract. -/
namespace Go.Proofs.Ytnikblimnjpmpaa.X
open Go.RowKit Go.Proofs.YtnikblimnjpmpaaW.PrintWords Go.Proofs.YtnikblimnjpmpaaW.PrintLast Go.Proofs.YtnikblimnjpmpaaW.PrintMore

theorem fits_47 (a : Int) (b : Nat) (w : World) (hb : w.cell? ⟨b, 0, none⟩ = some (.int .i64 a)) : Fits 47 #[.pointer (some ⟨b, 0, none⟩)] (fun p => decide (p ≥ a)) w := by
  intro W p hB
  show Calls Try.prog 47 #[.int .i64 p, .pointer (some ⟨b, 0, none⟩)] W _
  have hb2 := (hB.cell (World.block_lt_of_cell? w _ hb)).trans hb
  clear hb
  go_enter Try.func47, Try.ntmps47
  go_wp2
  go_ret
  exact ⟨rfl, Below.refl _ _⟩
def impl_ChanceAtLeast.f (k : Nat) (l0 : List Int) (a1 : Int) (a2 : Int) : Option (Int × Int × Bool) := chanceF (fun p => decide (p ≥ a2)) k l0 a1 a2
theorem impl_ChanceAtLeast.mono : ∀ a0 a1 a2 k, LeO (impl_ChanceAtLeast.f k a0 a1 a2) (impl_ChanceAtLeast.f (k + 1) a0 a1 a2) := fun a0 a1 a2 k => chanceF.mono _ a0 a1 a2 k
set_option maxHeartbeats 8000000 in
set_option maxRecDepth 100000 in
theorem impl_ChanceAtLeast.calls (k : Nat) (A0 : Option Addr) (c0 : Nat) (l0 : List Int) (a1 : Int) (a2 : Int) (r1 : Int) (r2 : Int) (r3 : Bool) (w : World) (hr0 : Kd.C (Kd.int .i64) w A0 l0.length l0) (hc0 : l0.length ≤ c0) (h : impl_ChanceAtLeast.f k l0 a1 a2 = some (r1, r2, r3)) :
    Calls Try.prog 24 #[.slice A0 l0.length c0, .int .i64 a1, .int .i64 a2] w fun e w' => e = .returned (.tuple #[.int .i64 r1, .int .i64 r2, .bool r3]) ∧ Below w.heap.size w w' := by
  have HCON := Aside0.mk (fun (W : World) (hB : Below w.heap.size w W) (hb : W.cell? ⟨w.heap.size, 0, none⟩ = some (.int .i64 a2)) => chance_calls (fun p => decide (p ≥ a2)) 47 #[.pointer (some ⟨w.heap.size, 0, none⟩)] (enters_of Try.func47 (by kernel_rfl) rfl) k A0 c0 l0 a1 a2 r1 r2 r3 W (Kd.C_below hr0 hB) hc0 (fits_47 a2 w.heap.size W hb) h)
  clear hr0 hc0 h
  go_enter Try.func24, Try.ntmps24
  go_wp2_with (go_at_call 44; refine (HCON.out _ ((Below.refl _ _).alloc (Nat.le_refl _) _) (by simp)).mono ?_; rintro e w1 ⟨rfl, hb⟩; have HB := Aside0.mk (((Below.refl w.heap.size w).alloc (Nat.le_refl _) (.cells #[.int .i64 a2] 3)).trans (hb.mono (by simp))); clear hb)
  go_ret3
  exact ⟨rfl, HB.out⟩
end Go.Proofs.Ytnikblimnjpmpaa.X

/- ==== XimplChanceTwoAlike ==== -/
namespace Go.Proofs.Ytnikblimnjpmpaa.X
open Go.RowKit Go.Proofs.YtnikblimnjpmpaaW.PrintWords Go.Proofs.YtnikblimnjpmpaaW.PrintLast Go.Proofs.YtnikblimnjpmpaaW.PrintMore
attribute [local go_sem] max2_int min2_int max_two min_two max_three min_three max_four min_four   -- for this text's walks alone
set_option linter.unusedVariables false
set_option linter.unusedSimpArgs false

/-! ### impl_ChanceTwoAlike: function 22 -/
def impl_ChanceTwoAlike.f (k : Nat) (l0 : List Int) : Option (Int × Int × Bool) := (impl_isNumber.f k l0 2).bind fun t293 => (if t293 = true then ((impl_ChanceAtLeast.f k l0 2 1).bind fun bt294 => (some (bt294.1, bt294.2.1, bt294.2.2))) else (some (0, 0, false)))
theorem impl_ChanceTwoAlike.mono : ∀ a0 k, LeO (impl_ChanceTwoAlike.f k a0) (impl_ChanceTwoAlike.f (k + 1) a0) := by
  intro a0 k
  unfold impl_ChanceTwoAlike.f
  repeat' first
      | (with_reducible exact impl_ChanceAtLeast.mono _ _ _ _)
      | (with_reducible exact impl_isNumber.mono _ _ _)
      | (with_reducible exact LeO.refl _)
      | (with_reducible exact LeO.none _)
      | (with_reducible refine LeO.ite ?_ ?_)
      | (with_reducible refine LeO.bind ?_ (fun _ => ?_))
      | exact impl_ChanceAtLeast.mono _ _ _ _
      | exact impl_isNumber.mono _ _ _
      | exact LeO.none _
      | refine LeO.ite ?_ ?_
      | refine LeO.bind ?_ (fun _ => ?_)
set_option maxHeartbeats 8000000 in
set_option maxRecDepth 100000 in
theorem impl_ChanceTwoAlike.calls (k : Nat) (A0 : Option Addr) (c0 : Nat) (l0 : List Int) (r1 : Int) (r2 : Int) (r3 : Bool) (w : World) (hr0 : Kd.C (Kd.int .i64) w A0 l0.length l0) (hc0 : l0.length ≤ c0) (h : impl_ChanceTwoAlike.f k l0 = some (r1, r2, r3)) :
    Calls Try.prog 22 #[.slice A0 l0.length c0] w fun e w' => e = .returned (.tuple #[.int .i64 r1, .int .i64 r2, .bool r3]) ∧ Below w.heap.size w w' := by
  have HR0 := Aside0.mk hr0
  have HC0 := Aside0.mk hc0
  clear hr0 hc0
  have HB := Aside0.mk (Below.refl w.heap.size w)
  have H : ((impl_isNumber.f k l0 2).bind fun t293 => (if t293 = true then ((impl_ChanceAtLeast.f k l0 2 1).bind fun bt294 => (some (bt294.1, bt294.2.1, bt294.2.2))) else (some (0, 0, false)))) = some (r1, r2, r3) := h
  clear h
  replace H := Option.bind_eq_some_iff.mp H
  obtain ⟨t293, A20, H⟩ := H
  replace H : (if t293 = true then ((impl_ChanceAtLeast.f k l0 2 1).bind fun bt294 => (some (bt294.1, bt294.2.1, bt294.2.2))) else (some (0, 0, false))) = some (r1, r2, r3) := H
  have A2 := Aside0.mk A20
  clear A20
  by_cases c3 : t293 = true
  · subst c3
    have H1 : ((impl_ChanceAtLeast.f k l0 2 1).bind fun bt294 => (some (bt294.1, bt294.2.1, bt294.2.2))) = some (r1, r2, r3) := by rw [if_pos rfl] at H; exact H
    clear H
    have H := H1
    clear H1
    replace H := Option.bind_eq_some_iff.mp H
    obtain ⟨⟨t294, t295, t296⟩, A40, H⟩ := H
    replace H : (some (t294, t295, t296)) = some (r1, r2, r3) := H
    have A4 := Aside0.mk A40
    clear A40
    simp only [Option.some.injEq, Prod.mk.injEq] at H
    obtain ⟨rfl, rfl, rfl⟩ := H
    go_enter Try.func22, Try.ntmps22
    go_wp2_with (first | ((with_reducible refine gate_callee (f := 37) rfl ?_); refine goesL_ (some 6) rfl rfl Try.func37 (by kernel_rfl) rfl #[.slice A0 l0.length c0, .int .i64 2] rfl (by (try simp only [List.map_toArray, List.map_cons, List.map_nil]); first | done | rfl | (simp only [List.length_drop, List.length_take]; rfl)) ?_; (with_reducible refine (impl_isNumber.calls k _ _ l0 2 true _ ?side1 ?side2 A2.out).mono ?_); (case side1 => repeat (first | exact HR0.out | (with_reducible refine Kd.C_alloc ?_ _) | (with_reducible refine Kd.C_drewN ?_ _) | (with_reducible refine Kd.C_drew ?_))); (case side2 => exact HC0.out); rintro e w5 ⟨rfl, hb⟩; refine ⟨_, rfl, ?_⟩; have n0_ := Aside0.mk (below_step (by repeat (first | (with_reducible first | exact HB.out | apply below_alloc | apply pw_below_drewN | apply below_drew1) | exact HB.out)) hb); clear HB; have HB := n0_; clear n0_; (try clear hb); (try clear hb2); (try clear hk); (try clear hi)) | ((with_reducible refine gate_callee (f := 24) rfl ?_); refine goesL_ (some 9) rfl rfl Try.func24 (by kernel_rfl) rfl #[.slice A0 l0.length c0, .int .i64 2, .int .i64 1] rfl (by (try simp only [List.map_toArray, List.map_cons, List.map_nil]); first | done | rfl | (simp only [List.length_drop, List.length_take]; rfl)) ?_; (with_reducible refine (impl_ChanceAtLeast.calls k _ _ l0 2 1 t294 t295 t296 _ ?side1 ?side2 A4.out).mono ?_); (case side1 => repeat (first | exact (Kd.C_below HR0.out HB.out) | (with_reducible refine Kd.C_alloc ?_ _) | (with_reducible refine Kd.C_drewN ?_ _) | (with_reducible refine Kd.C_drew ?_))); (case side2 => exact HC0.out); rintro e w6 ⟨rfl, hb⟩; refine ⟨_, rfl, ?_⟩; have n0_ := Aside0.mk (below_step (by repeat (first | (with_reducible first | exact HB.out | apply below_alloc | apply pw_below_drewN | apply below_drew1) | exact HB.out)) hb); clear HB; have HB := n0_; clear n0_; (try clear hb); (try clear hb2); (try clear hk); (try clear hi)))
    go_ret3
    exact ⟨by first | rfl | (simp [errW_none, errW_some] <;> rfl) | (simp [*, errW_none, errW_some] <;> rfl), by repeat (first | (with_reducible first | exact HB.out | apply below_alloc | apply pw_below_drewN | apply below_drew1) | exact HB.out)⟩
  · replace c3 := Bool.eq_false_iff.mpr c3
    subst c3
    have H1 : (some (0, 0, false)) = some (r1, r2, r3) := by rw [if_neg (show ¬ (false = true) by decide)] at H; exact H
    clear H
    have H := H1
    clear H1
    simp only [Option.some.injEq, Prod.mk.injEq] at H
    obtain ⟨rfl, rfl, rfl⟩ := H
    go_enter Try.func22, Try.ntmps22
    go_wp2_with (first | ((with_reducible refine gate_callee (f := 37) rfl ?_); refine goesL_ (some 6) rfl rfl Try.func37 (by kernel_rfl) rfl #[.slice A0 l0.length c0, .int .i64 2] rfl (by (try simp only [List.map_toArray, List.map_cons, List.map_nil]); first | done | rfl | (simp only [List.length_drop, List.length_take]; rfl)) ?_; (with_reducible refine (impl_isNumber.calls k _ _ l0 2 false _ ?side1 ?side2 A2.out).mono ?_); (case side1 => repeat (first | exact HR0.out | (with_reducible refine Kd.C_alloc ?_ _) | (with_reducible refine Kd.C_drewN ?_ _) | (with_reducible refine Kd.C_drew ?_))); (case side2 => exact HC0.out); rintro e w7 ⟨rfl, hb⟩; refine ⟨_, rfl, ?_⟩; have n0_ := Aside0.mk (below_step (by repeat (first | (with_reducible first | exact HB.out | apply below_alloc | apply pw_below_drewN | apply below_drew1) | exact HB.out)) hb); clear HB; have HB := n0_; clear n0_; (try clear hb); (try clear hb2); (try clear hk); (try clear hi)))
    go_ret3
    exact ⟨by first | rfl | (simp [errW_none, errW_some] <;> rfl) | (simp [*, errW_none, errW_some] <;> rfl), by repeat (first | (with_reducible first | exact HB.out | apply below_alloc | apply pw_below_drewN | apply below_drew1) | exact HB.out)⟩

end Go.Proofs.Ytnikblimnjpmpaa.X

/- ==== PlTable ==== -/
/- Plain laws, no program in sight: the reference's table of draws counts the draws. -/
namespace Go.Proofs.Ytnikblimnjpmpaa.X
open Go.RowKit Go.Proofs.YtnikblimnjpmpaaW.PrintWords Go.Proofs.YtnikblimnjpmpaaW.PrintLast Go.Proofs.YtnikblimnjpmpaaW.PrintMore

/-- What a number of a colour adds: by the kind. -/
def moreOf (kind : Int) (d : Nat) : Nat := if kind = 99 then min d 1 else d / 2
theorem moreOf_le (kind : Int) (d : Nat) : moreOf kind d ≤ d := by unfold moreOf; split <;> omega
/-- A table: so many places; its numbers int64s; nothing where more has been made than is there. -/
structure Tab (W : Nat) (t : List Int) : Prop where
  len : t.length = W * W
  inr : ∀ i, i < t.length → InR (rd t (i : Int))
  sup : ∀ i, i < t.length → rd t (i : Int) ≠ 0 → i % W ≤ i / W
variable {kind : Int} {K W : Nat}
def gT (kind : Int) (K W : Nat) (l : List Nat) (P : Nat) (i : Nat) : Int := T wB (moreOf kind) l ((K : Int) - ((i / W : Nat) : Int)) ((P : Int) - ((i % W : Nat) : Int))
theorem idx_div {W h x : Nat} (hx : x < W) : (h * W + x) / W = h ∧ (h * W + x) % W = x := by
  have hW : 0 < W := by omega
  refine ⟨?_, ?_⟩
  · rw [Nat.add_comm, Nat.add_mul_div_right _ _ hW, Nat.div_eq_of_lt hx]; omega
  · rw [Nat.add_comm, Nat.add_mul_mod_self_right, Nat.mod_eq_of_lt hx]
theorem idx_lt {W h x : Nat} (hh : h < W) (hx : x < W) : h * W + x < W * W := by
  have : (h + 1) * W ≤ W * W := Nat.mul_le_mul_right _ hh
  rw [Nat.add_mul] at this
  omega
theorem more_c {kind : Int} (ck : kind = 99) (d : Nat) : (if (d : Int) < 1 then some (d : Int) else some 1) = some ((moreOf kind d : Nat) : Int) := by
  unfold moreOf
  rw [if_pos ck]
  split <;> (congr 1; omega)
theorem more_p {kind : Int} (ck : ¬ kind = 99) {d : Nat} (h : d ≤ 1000) : wrap64 (Int.tdiv (d : Int) 2) = ((moreOf kind d : Nat) : Int) := by
  unfold moreOf
  rw [if_neg ck, Int.tdiv_eq_ediv_of_nonneg (by omega)]
  unfold wrap64
  omega
theorem w64z {z : Int} (h0 : 0 ≤ z) (h1 : z ≤ 1000000) : wrap64 z = z := by unfold wrap64; omega
theorem idx_wrap {a b c : Nat} (h : a + b + c ≤ 100000) : wrap64 (wrap64 (wrap64 ((a : Nat) : Int) + (b : Int)) + ((c : Nat) : Int)) = ((a + (b + c) : Nat) : Int) := by
  rw [w64z (z := (a : Int)) (by omega) (by omega), w64z (z := (a : Int) + (b : Int)) (by omega) (by omega), w64z (by omega) (by omega)]
  omega
theorem j3_on (k : Nat) (kind : Int) (d : Nat) (K W n ways h x I sl si nl at_ : Int) (next S now : List Int) (hd : d ≤ 1000) (hidx : wrap64 (wrap64 (wrap64 (wrap64 (h + (d : Int)) * W) + x) + ((moreOf kind d : Nat) : Int)) = I) (h0 : 0 ≤ I) (h1 : I < (next.length : Int)) :
    spec_chTable.j3 (k + 1) K kind W n next ways h x (d : Int) S sl si now nl at_ true = (spec_chChoose.f k n (d : Int)).bind fun t => spec_chTable.l2 k K kind W n (next.set I.toNat (wrap64 (rd next I + wrap64 (ways * t)))) ways h x (wrap64 ((d : Int) + 1)) S sl si now nl at_ := by
  simp only [spec_chTable.j3]
  rw [if_pos trivial]
  by_cases ck : kind = 99
  · have hmd := more_c ck d
    rw [if_pos ck]
    unfold spec_l1Least.f
    rw [hmd]
    simp only [Option.bind_some]
    rw [hidx, if_pos h0, if_pos h1]
  · have hmd := more_p ck hd
    rw [if_neg ck, hmd, hidx, if_pos h0, if_pos h1]
/-- The walk over how many of a colour are drawn. -/
theorem l2_ev (hW : W = K + 1) (hK : K ≤ 40) (n : Nat) (hn : n ≤ 20) (l : List Nat) (ways : Int) (h x : Nat) (hx : x ≤ h) (hhK : h ≤ K) (S : List Int) (sl si : Int) (now : List Int) (nl at_ : Int) (e : Nat) :
    ∀ (d : Nat) (next : List Int), d + e = n + 1 → Tab W next →
    ∃ next' : List Int, Tab W next' ∧ (∀ P, Cg (dot next' (gT kind K W l P) + ways * sumN d (fun q => wB n q * T wB (moreOf kind) l ((K : Int) - h - q) ((P : Int) - x - moreOf kind q))) (dot next (gT kind K W l P) + ways * sumN (n + 1) (fun q => wB n q * T wB (moreOf kind) l ((K : Int) - h - q) ((P : Int) - x - moreOf kind q)))) ∧
      (∀ r : List Int, Ev (fun k => spec_chTable.l1 k (K : Int) kind (W : Int) (n : Int) next' S sl si now nl (wrap64 (at_ + 1))) r → Ev (fun k => spec_chTable.l2 k (K : Int) kind (W : Int) (n : Int) next ways (h : Int) (x : Int) (d : Int) S sl si now nl at_) r) := by
  induction e with
  | zero =>
    intro d next hd ht
    obtain rfl : d = n + 1 := by omega
    refine ⟨next, ht, fun P => Cg.refl _, fun r h1 => ?_⟩
    refine Ev.step (f := fun k => spec_chTable.j3 k (K : Int) kind (W : Int) (n : Int) next ways (h : Int) (x : Int) ((n + 1 : Nat) : Int) S sl si now nl at_ false) (fun k => ?_) (Ev.step (fun k => ?_) h1)
    · simp only [spec_chTable.l2]
      rw [if_neg (by omega)]
    · simp only [spec_chTable.j3]
      rw [if_neg (by decide)]
  | succ e ih =>
    intro d next hd ht
    have hwhd : wrap64 ((h : Int) + (d : Int)) = ((h + d : Nat) : Int) := by unfold wrap64; omega
    have HWHD := Aside0.mk hwhd
    clear hwhd
    have hdn : wrap64 ((d : Int) + 1) = ((d + 1 : Nat) : Int) := by unfold wrap64; omega
    have HDN := Aside0.mk hdn
    clear hdn
    by_cases c : h + d ≤ K
    · -- on
      have hm : moreOf kind d ≤ d := moreOf_le kind d
      have hxl : x + moreOf kind d < W := by omega
      have hhl : h + d < W := by omega
      obtain ⟨i1, i2⟩ := idx_div (h := h + d) hxl
      have hlt := idx_lt hhl hxl
      have hb : (h + d) * W ≤ 1681 := Nat.le_trans (Nat.mul_le_mul (show h + d ≤ 40 by omega) (show W ≤ 41 by omega)) (by decide)
      obtain ⟨I, hI⟩ : ∃ I, I = (h + d) * W + (x + moreOf kind d) := ⟨_, rfl⟩
      rw [← hI] at i1 i2 hlt
      have hIlen : I < next.length := by rw [ht.len]; exact hlt
      obtain ⟨v, hv⟩ : ∃ v, v = wrap64 (rd next (I : Int) + wrap64 (ways * wB n d)) := ⟨_, rfl⟩
      have hcg : Cg v (rd next (I : Int) + ways * wB n d) := by rw [hv]; exact (Cg.wrap _).trans ((Cg.refl _).add (Cg.wrap _))
      have ht2 : Tab W (next.set I v) := by
        refine ⟨by rw [List.length_set]; exact ht.len, fun i hi => ?_, fun i hi hne => ?_⟩
        · rw [List.length_set] at hi
          by_cases q : i = I
          · subst q
            rw [rd_set_same hi, hv]
            exact InR.wrap _
          · rw [rd_set_other q]
            exact ht.inr i hi
        · rw [List.length_set] at hi
          by_cases q : i = I
          · subst q
            rw [i1, i2]
            omega
          · rw [rd_set_other q] at hne
            exact ht.sup i hi hne
      obtain ⟨next', h1, h2, h3⟩ := ih (d + 1) (next.set I v) (by omega) ht2
      refine ⟨next', h1, fun P => ?_, fun r hr => ?_⟩
      · have a1 := h2 P
        rw [dot_set hIlen] at a1
        have hg : gT kind K W l P I = T wB (moreOf kind) l ((K : Int) - h - d) ((P : Int) - x - moreOf kind d) := by
          unfold gT
          rw [i1, i2]
          congr 1 <;> omega
        rw [hg] at a1
        simp only [sumN] at a1 ⊢
        generalize T wB (moreOf kind) l ((K : Int) - h - d) ((P : Int) - x - moreOf kind d) = t at *
        have a2 : Cg ((v - rd next (I : Int)) * t) (ways * (wB n d * t)) := by
          have := (hcg.sub (Cg.refl (rd next (I : Int)))).mulr t
          rw [show rd next (I : Int) + ways * wB n d - rd next (I : Int) = ways * wB n d by omega, Int.mul_assoc] at this
          exact this
        rw [Int.mul_add] at a1
        obtain ⟨q1, e1⟩ := a1
        obtain ⟨q2, e2⟩ := a2
        exact ⟨q1 + q2, by omega⟩
      · have h4 := h3 r hr
        have hidx : wrap64 (wrap64 (wrap64 ((((h + d : Nat) : Int)) * (W : Int)) + (x : Int)) + ((moreOf kind d : Nat) : Int)) = (I : Int) := by
          have e0 : (((h + d : Nat) : Int)) * (W : Int) = (((h + d) * W : Nat) : Int) := by rw [Int.natCast_mul]
          rw [e0, hI]
          exact idx_wrap (by omega)
        have hd1000 : d ≤ 1000 := Nat.le_trans (Nat.le_trans (Nat.le_add_left d h) c) (Nat.le_trans hK (by decide))
        have hI0 : (0 : Int) ≤ (I : Int) := Int.natCast_nonneg _
        have hI1 : (I : Int) < (next.length : Int) := Int.ofNat_lt.2 hIlen
        have HIDX := Aside0.mk hidx
        clear hidx
        have HV := Aside0.mk hv
        clear hv
        refine Ev.step (f := fun k => spec_chTable.j3 k (K : Int) kind (W : Int) (n : Int) next ways (h : Int) (x : Int) (d : Int) S sl si now nl at_ true) (fun k => ?_) (Ev.step (f := fun k => (spec_chChoose.f k (n : Int) (d : Int)).bind fun t => spec_chTable.l2 k (K : Int) kind (W : Int) (n : Int) (next.set I (wrap64 (rd next (I : Int) + wrap64 (ways * t)))) ways (h : Int) (x : Int) (wrap64 ((d : Int) + 1)) S sl si now nl at_) (fun k => ?_) (Ev.bind (chChoose_ev (by omega) (by omega)) ?_))
        · simp only [spec_chTable.l2]
          rw [if_pos (by omega), HWHD.out, decide_eq_true (by omega)]
        · rw [j3_on k kind d (K : Int) (W : Int) (n : Int) ways (h : Int) (x : Int) (I : Int) sl si nl at_ next S now hd1000 (by rw [HWHD.out]; exact HIDX.out) hI0 hI1, Int.toNat_natCast]
        · rw [← HV.out, HDN.out]
          exact h4
    · -- too many
      refine ⟨next, ht, fun P => ?_, fun r hr => ?_⟩
      · rw [sumN_longer (n := d) (m := n + 1) (by omega) (fun q hq _ => by rw [T_neg (by omega)]; simp)]
        exact Cg.refl _
      · refine Ev.step (f := fun k => spec_chTable.j3 k (K : Int) kind (W : Int) (n : Int) next ways (h : Int) (x : Int) (d : Int) S sl si now nl at_ false) (fun k => ?_) (Ev.step (fun k => ?_) hr)
        · simp only [spec_chTable.l2]
          rw [if_pos (by omega), HWHD.out, decide_eq_false (by omega)]
        · simp only [spec_chTable.j3]
          rw [if_neg (by decide)]
/-- The walk over the places of the table so far. -/
theorem l1_ev (hW : W = K + 1) (hK : K ≤ 40) (n : Nat) (hn : n ≤ 20) (l : List Nat) (S : List Int) (sl si : Int) (now : List Int) (hnow : Tab W now) (e : Nat) :
    ∀ (i : Nat) (next : List Int), i + e = now.length → Tab W next →
    ∃ next' : List Int, Tab W next' ∧ (∀ P, Cg (dot next' (gT kind K W l P) + sumN i (fun q => rd now (q : Int) * gT kind K W (n :: l) P q)) (dot next (gT kind K W l P) + dot now (gT kind K W (n :: l) P))) ∧
      (∀ r : List Int, Ev (fun k => spec_chTable.l0 k (K : Int) kind (W : Int) next' S sl (wrap64 (si + 1))) r → Ev (fun k => spec_chTable.l1 k (K : Int) kind (W : Int) (n : Int) next S sl si now (now.length : Int) (i : Int)) r) := by
  have hlen : now.length ≤ 1681 := by rw [hnow.len]; exact Nat.le_trans (Nat.mul_le_mul (show W ≤ 41 by omega) (show W ≤ 41 by omega)) (by decide)
  induction e with
  | zero =>
    intro i next hi ht
    obtain rfl : i = now.length := by omega
    refine ⟨next, ht, fun P => Cg.refl _, fun r h1 => Ev.step (fun k => ?_) h1⟩
    simp only [spec_chTable.l1]
    rw [if_neg (by omega)]
  | succ e ih =>
    intro i next hi ht
    have hin : wrap64 ((i : Int) + 1) = ((i + 1 : Nat) : Int) := by unfold wrap64; omega
    have HIN := Aside0.mk hin
    clear hin
    by_cases c : rd now (i : Int) = 0
    · obtain ⟨next', h1, h2, h3⟩ := ih (i + 1) next (by omega) ht
      refine ⟨next', h1, fun P => ?_, fun r hr => Ev.step (fun k => ?_) (h3 r hr)⟩
      · have := h2 P
        simp only [sumN, c, Int.zero_mul, Int.add_zero] at this
        exact this
      · simp only [spec_chTable.l1]
        rw [if_pos (by omega), if_pos (by omega), if_pos (by omega), if_pos c, HIN.out]
    · have hil : i < now.length := by omega
      have hs := hnow.sup i hil c
      have hdv : i / W ≤ K := by
        have h0 : i / W < W := Nat.div_lt_of_lt_mul (by rw [← hnow.len]; exact hil)
        omega
      obtain ⟨next1, g1, g2, g3⟩ := l2_ev (kind := kind) hW hK n hn l (rd now (i : Int)) (i / W) (i % W) hs hdv S sl si now (now.length : Int) (i : Int) (n + 1) 0 next (by omega) ht
      obtain ⟨next', h1, h2, h3⟩ := ih (i + 1) next1 (by omega) g1
      refine ⟨next', h1, fun P => ?_, fun r hr => ?_⟩
      · have a1 := h2 P
        have a2 := g2 P
        have hg : gT kind K W (n :: l) P i = sumN (n + 1) (fun q => wB n q * T wB (moreOf kind) l ((K : Int) - ((i / W : Nat) : Int) - q) ((P : Int) - ((i % W : Nat) : Int) - moreOf kind q)) := rfl
        rw [← hg] at a2
        simp only [sumN] at a1 a2 ⊢
        generalize rd now (i : Int) * gT kind K W (n :: l) P i = z at *
        simp only [Int.mul_zero, Int.add_zero] at a2
        obtain ⟨q1, e1⟩ := a1
        obtain ⟨q2, e2⟩ := a2
        exact ⟨q1 + q2, by omega⟩
      · have h4 := g3 r (by rw [HIN.out]; exact h3 r hr)
        have hd1 : wrap64 (Int.tdiv (i : Int) (W : Int)) = ((i / W : Nat) : Int) := by
          rw [Int.tdiv_eq_ediv_of_nonneg (by omega), ← Int.natCast_ediv]
          generalize i / W = z at *
          unfold wrap64
          omega
        have hd2 : Int.tmod (i : Int) (W : Int) = ((i % W : Nat) : Int) := by
          rw [Int.tmod_eq_emod_of_nonneg (by omega), ← Int.natCast_emod]
        refine Ev.step (fun k => ?_) h4
        simp only [spec_chTable.l1]
        rw [if_pos (by omega), if_pos (by omega), if_pos (by omega), if_neg c, if_neg (by omega), hd1, hd2]
        rfl
/-- The walk over the colours. -/
theorem l0_ev (hW : W = K + 1) (hK : K ≤ 40) (S : List Int) (ns : List Nat) (hS : S = ns.map (fun n => ((n : Nat) : Int))) (h20 : ∀ n ∈ ns, n ≤ 20) (hl8 : ns.length ≤ 8) (e : Nat) : ∀ (i : Nat) (now : List Int), i + e = ns.length → Tab W now →
    ∃ fin : List Int, Tab W fin ∧ (∀ P, Cg (dot fin (gT kind K W [] P)) (dot now (gT kind K W (ns.drop i) P))) ∧
      Ev (fun k => spec_chTable.l0 k (K : Int) kind (W : Int) now S (S.length : Int) (i : Int)) (fin.drop (K * W)) := by
  have hSl : S.length = ns.length := by rw [hS, List.length_map]
  have hKW : K * W ≤ 1640 := Nat.le_trans (Nat.mul_le_mul hK (show W ≤ 41 by omega)) (by decide)
  have hWW : W * W ≤ 1681 := Nat.le_trans (Nat.mul_le_mul (show W ≤ 41 by omega) (show W ≤ 41 by omega)) (by decide)
  have hKWW : K * W ≤ W * W := Nat.mul_le_mul_right _ (by omega)
  have hw1 : wrap64 ((K : Int) * (W : Int)) = ((K * W : Nat) : Int) := by
    rw [← Int.natCast_mul]
    generalize K * W = z at *
    unfold wrap64
    omega
  have hw2 : wrap64 ((W : Int) * (W : Int)) = ((W * W : Nat) : Int) := by
    rw [← Int.natCast_mul]
    generalize W * W = z at *
    unfold wrap64
    omega
  induction e with
  | zero =>
    intro i now hi ht
    obtain rfl : i = ns.length := by omega
    refine ⟨now, ht, fun P => ?_, Ev.step (f := fun _ => some (now.drop (K * W))) (fun k => ?_) (Ev.now _)⟩
    · rw [List.drop_length]
      exact Cg.refl _
    · have := ht.len
      simp only [spec_chTable.l0]
      rw [if_neg (by omega), hw1, if_pos (by omega), if_pos (by omega), Int.toNat_natCast]
  | succ e ih =>
    intro i now hi ht
    have hil : i < ns.length := by omega
    have hin : wrap64 ((i : Int) + 1) = ((i + 1 : Nat) : Int) := by unfold wrap64; omega
    have HIN := Aside0.mk hin
    clear hin
    have hrd : rd S (i : Int) = ((ns[i] : Nat) : Int) := by
      rw [hS]
      simp [rd, List.getD_eq_getElem?_getD, hil]
    have hz : Tab W (List.replicate (W * W) 0) := by
      refine ⟨by simp, fun j hj => ?_, fun j hj hne => absurd (rd_rep _ _) hne⟩
      rw [rd_rep]
      unfold InR
      omega
    have hdrop : ns.drop i = ns[i] :: ns.drop (i + 1) := List.drop_eq_getElem_cons hil
    obtain ⟨next', h1, h2, h3⟩ := l1_ev (kind := kind) hW hK ns[i] (h20 _ (List.getElem_mem hil)) (ns.drop (i + 1)) S (S.length : Int) (i : Int) now ht now.length 0 (List.replicate (W * W) 0) (by omega) hz
    obtain ⟨fin, f1, f2, f3⟩ := ih (i + 1) next' (by omega) h1
    refine ⟨fin, f1, fun P => (f2 P).trans ?_, ?_⟩
    · have := h2 P
      rw [dot_rep, ← hdrop] at this
      simpa [sumN] using this
    · have h4 := h3 _ (by rw [HIN.out]; exact f3)
      refine Ev.step (fun k => ?_) h4
      simp only [spec_chTable.l0]
      rw [if_pos (by omega), if_pos (by omega), if_pos (by omega), hw2, if_pos (by omega), if_pos (by omega), hrd, Int.toNat_natCast]
      rfl
theorem Tab.start (hW : W = K + 1) : Tab W ((List.replicate (W * W) 0).set 0 1) := by
  have h0 : 0 < W * W := Nat.mul_pos (by omega) (by omega)
  refine ⟨by simp, fun i hi => ?_, fun i hi hne => ?_⟩
  · by_cases q : i = 0
    · subst q
      rw [rd_set_same (by simpa using h0)]
      unfold InR
      omega
    · rw [rd_set_other q, rd_rep]
      unfold InR
      omega
  · by_cases q : i = 0
    · subst q
      simp
    · rw [rd_set_other q, rd_rep] at hne
      exact absurd rfl hne
/-- The reference's table: in how many ways. -/
theorem chTable_ev (K : Nat) (hK : K ≤ 40) (ns : List Nat) (h20 : ∀ n ∈ ns, n ≤ 20) (hl8 : ns.length ≤ 8) (h40 : sumL ns ≤ 40) (kind : Int) :
    ∃ tab : List Int, tab.length = K + 1 ∧ (∀ P : Nat, P ≤ K → rd tab (P : Int) = T wB (moreOf kind) ns (K : Int) (P : Int)) ∧ Ev (fun k => spec_chTable.f k (ns.map fun n => ((n : Nat) : Int)) (K : Int) kind) tab := by
  obtain ⟨W, hW⟩ : ∃ W, W = K + 1 := ⟨_, rfl⟩
  have hWW : W * W ≤ 1681 := Nat.le_trans (Nat.mul_le_mul (show W ≤ 41 by omega) (show W ≤ 41 by omega)) (by decide)
  have h0 : 0 < W * W := Nat.mul_pos (by omega) (by omega)
  obtain ⟨fin, f1, f2, f3⟩ := l0_ev (kind := kind) hW hK _ ns rfl h20 hl8 ns.length 0 _ (by omega) (Tab.start hW)
  have hsplit : W * W = K * W + W := by
    have : (K + 1) * W = K * W + W := by rw [Nat.add_mul, Nat.one_mul]
    rw [← this, ← hW]
  have hlen := f1.len
  refine ⟨fin.drop (K * W), by rw [List.length_drop]; omega, fun P hP => ?_, ?_⟩
  · have hPW : P < W := by omega
    have hat : K * W + P < fin.length := by omega
    have h1 := f2 P
    have e1 : dot fin (gT kind K W [] P) = rd fin ((K * W + P : Nat) : Int) := by
      unfold dot
      rw [sumN_at (K * W + P) hat (fun d hd hne => ?_)]
      · unfold gT T
        rw [(idx_div hPW).1, (idx_div hPW).2, if_pos ⟨by omega, by omega⟩, Int.mul_one]
      · unfold gT T
        rw [if_neg, Int.mul_zero]
        rintro ⟨c1, c2⟩
        have c3 : d / W = K := by omega
        have c4 : d % W = P := by omega
        have := Nat.div_add_mod d W
        rw [c3, c4, Nat.mul_comm] at this
        omega
    have e2 : dot ((List.replicate (W * W) 0).set 0 1) (gT kind K W (ns.drop 0) P) = T wB (moreOf kind) ns (K : Int) (P : Int) := by
      rw [dot_set (by simpa using h0), dot_rep, List.drop_zero]
      have : rd (List.replicate (W * W) 0) ((0 : Nat) : Int) = 0 := rd_rep _ _
      rw [this]
      unfold gT
      simp
    rw [e1, e2] at h1
    have hb := T_bound (m := moreOf kind) h20 h40 (K : Int) (P : Int)
    have h2 := h1.eq (f1.inr _ hat) (by unfold InR; omega)
    rw [← h2]
    unfold rd
    rw [Int.toNat_natCast, Int.toNat_natCast, List.getD_eq_getElem?_getD, List.getD_eq_getElem?_getD, List.getElem?_drop]
  · have hw1 : wrap64 ((K : Int) + 1) = (W : Int) := by rw [hW]; unfold wrap64; omega
    have hw2 : wrap64 ((W : Int) * (W : Int)) = ((W * W : Nat) : Int) := by
      rw [← Int.natCast_mul]
      generalize W * W = z at *
      unfold wrap64
      omega
    refine Ev.congr (fun k => ?_) f3
    simp only [spec_chTable.f]
    rw [hw1, hw2, if_pos (by omega), if_pos (by omega), Int.toNat_natCast]
    simp only [Option.bind_some, List.length_replicate]
    rw [if_pos (by omega)]
    rfl
end Go.Proofs.Ytnikblimnjpmpaa.X

/- ==== PlFrac ==== -/
/- Plain laws, no program in sight: the reference's lowest terms are the program's. -/
namespace Go.Proofs.Ytnikblimnjpmpaa.X
open Go.RowKit Go.Proofs.YtnikblimnjpmpaaW.PrintWords Go.Proofs.YtnikblimnjpmpaaW.PrintLast Go.Proofs.YtnikblimnjpmpaaW.PrintMore

theorem gcd_loop (d : Nat) : ∀ (x y : Int), 0 ≤ x → 0 ≤ y → y ≤ (d : Int) → (0 < x ∨ 0 < y) →
    ∃ g : Int, 0 < g ∧ Ev (fun k => impl_gcd.l0 k x y) g ∧ ∀ a b, Ev (fun k => spec_chLow.l0 k a b x y) (wrap64 (Int.tdiv a g), wrap64 (Int.tdiv b g)) := by
  induction d with
  | zero =>
    intro x y hx hy hd hp
    have e : y = 0 := by omega
    subst e
    refine ⟨x, by omega, Ev.step (f := fun _ => some x) (fun k => ?_) (Ev.now _), fun a b => Ev.step (f := fun _ => some (wrap64 (Int.tdiv a x), wrap64 (Int.tdiv b x))) (fun k => ?_) (Ev.now _)⟩
    · simp only [impl_gcd.l0, if_true]
    · simp only [spec_chLow.l0]
      rw [if_neg (by omega), if_neg (by omega)]
  | succ d ih =>
    intro x y hx hy hd hp
    by_cases h0 : y = 0
    · subst h0
      refine ⟨x, by omega, Ev.step (f := fun _ => some x) (fun k => ?_) (Ev.now _), fun a b => Ev.step (f := fun _ => some (wrap64 (Int.tdiv a x), wrap64 (Int.tdiv b x))) (fun k => ?_) (Ev.now _)⟩
      · simp only [impl_gcd.l0, if_true]
      · simp only [spec_chLow.l0]
        rw [if_neg (by omega), if_neg (by omega)]
    · have hm : Int.tmod x y = x % y := Int.tmod_eq_emod_of_nonneg hx
      have h1 : 0 ≤ x % y := Int.emod_nonneg _ h0
      have h2 : x % y < y := Int.emod_lt_of_pos _ (by omega)
      obtain ⟨g, hg, e1, e2⟩ := ih y (x % y) hy h1 (by omega) (.inl (by omega))
      refine ⟨g, hg, Ev.step (fun k => ?_) e1, fun a b => Ev.step (fun k => ?_) (e2 a b)⟩
      · simp only [impl_gcd.l0]
        rw [if_neg h0, hm]
      · simp only [spec_chLow.l0]
        rw [if_pos (by omega), if_neg h0, hm]
theorem frac_ev (num den : Int) (h0 : 0 ≤ num) (h1 : 0 < den) : ∃ a b : Int, Ev (fun k => spec_chLow.f k num den) (a, b) ∧ Ev (fun k => impl_fraction.f k num den) (a, b, true) := by
  obtain ⟨g, hg, e1, e2⟩ := gcd_loop den.toNat num den h0 (by omega) (by omega) (.inr h1)
  refine ⟨_, _, e2 num den, ?_⟩
  refine Ev.congr (f := fun k => (impl_gcd.l0 k num den).bind fun t => if t = 0 then none else some (wrap64 (Int.tdiv num t), wrap64 (Int.tdiv den t), true)) (fun k => rfl) (Ev.bind e1 ?_)
  exact Ev.congr (fun k => by rw [if_neg (by omega)]) (Ev.now _)

end Go.Proofs.Ytnikblimnjpmpaa.X

/- ==== PlCho ==== -/
/- Plain laws, no program in sight: what both tables tell of a number of socks. -/
namespace Go.Proofs.Ytnikblimnjpmpaa.X
open Go.RowKit Go.Proofs.YtnikblimnjpmpaaW.PrintWords Go.Proofs.YtnikblimnjpmpaaW.PrintLast Go.Proofs.YtnikblimnjpmpaaW.PrintMore

/-- In how many ways K of the socks have just p pairs. -/
def wF (ns : List Nat) (K p : Nat) : Int := T wB half ns (K : Int) (p : Int)
structure Asked (l : List Int) (a : Int) (ns : List Nat) (K : Nat) : Prop where
  hl : l = toI ns
  ha : a = (K : Int)
  h20 : ∀ n ∈ ns, n ≤ 20
  l8 : ns.length ≤ 8
  s40 : sumL ns ≤ 40
  le : K ≤ sumL ns
  few : X.few l = true
  tot : Ev (fun k => impl_total.f k l) ((sumL ns : Nat) : Int)
  sum : Ev (fun k => spec_soSum.f k l) ((sumL ns : Nat) : Int)
theorem asked_is {l : List Int} {a : Int} (h : asked l a = true) : ∃ ns K, Asked l a ns K := by
  obtain ⟨hf, h0, h1⟩ := asked_of h
  obtain ⟨_, f2, f3, _, _⟩ := few_of hf
  have etot := total_ev f2 f3
  have esum := soSum_ev f2 f3
  obtain ⟨ns, hl, h20, hl1, hl8, hs1, hs40, ht⟩ := few_ns hf
  rw [ht] at h1 etot esum
  obtain ⟨K, rfl⟩ := Int.eq_ofNat_of_zero_le h0
  exact ⟨ns, K, ⟨hl, rfl, h20, hl8, hs40, by omega, hf, etot, esum⟩⟩
theorem more112 : moreOf 112 = half := by
  funext d
  unfold moreOf half
  rw [if_neg (by decide)]
section
variable {l : List Int} {a : Int} {ns : List Nat} {K : Nat}
theorem wF_bd (h : Asked l a ns K) (p : Nat) : 0 ≤ wF ns K p ∧ wF ns K p ≤ 1099511627776 := T_bound h.h20 h.s40 _ _
theorem pair_foldr (l : List Nat) : (l.foldr (fun n s => half n + s) 0 : Nat) = pairL l := rfl
theorem wF_high (p : Nat) (h : pairL ns < p ∨ K < p) : wF ns K p = 0 := by
  unfold wF
  rcases h with h | h
  · exact T_high half (fun n d hd => by unfold half; omega) (by rw [pair_foldr]; omega)
  · exact T_share 2 (fun d => by unfold half; omega) (by omega)
theorem nat_toI (ns : List Nat) : nat (toI ns) = ns := by
  unfold nat toI
  rw [List.map_map]
  have : ns.map (Int.toNat ∘ fun n : Nat => (n : Int)) = ns.map id := List.map_congr_left fun x _ => by simp
  rw [this, List.map_id]
theorem cho_is (h : Asked l a ns K) : impl_choices.f l = some (choV l) ∧ (choV l).length = sumL ns + 1 ∧ rd_L1 (choV l) (K : Int) = numL (pairL ns) (wF ns K) := by
  refine ⟨by unfold impl_choices.f; rw [if_pos h.few], ?_, ?_⟩
  · rw [h.hl]
    simp [choV, tabV, nat_toI]
  · rw [h.hl]
    have := h.le
    unfold choV rd_L1
    rw [nat_toI, List.getD_eq_getElem?_getD, Int.toNat_natCast]
    simp [tabV, show K < sumL ns + 1 by omega]
    rfl
theorem num_len (P : Nat) (f : Nat → Int) : (numL P f).length = P + 1 := by simp [numL]
theorem num_rd (P : Nat) (f : Nat → Int) {p : Nat} (h : p ≤ P) : rd (numL P f) (p : Int) = f p := by simp [numL, rd, List.getD_eq_getElem?_getD, show p < P + 1 by omega]
theorem tab_is (h : Asked l a ns K) : ∃ tab : List Int, tab.length = K + 1 ∧ (∀ p : Nat, p ≤ K → rd tab (p : Int) = wF ns K p) ∧ Ev (fun k => spec_chTable.f k l a 112) tab := by
  obtain ⟨tab, t1, t2, t3⟩ := chTable_ev K (by have := h.le; have := h.s40; omega) ns h.h20 h.l8 h.s40 112
  rw [more112] at t2
  rw [h.hl, h.ha]
  exact ⟨tab, t1, t2, t3⟩
theorem den_is (h : Asked l a ns K) : Ev (fun k => impl_choose.f k ((sumL ns : Nat) : Int) a) (wB (sumL ns) K) ∧ Ev (fun k => spec_chChoose.f k ((sumL ns : Nat) : Int) a) (wB (sumL ns) K) ∧ 0 < wB (sumL ns) K ∧ wB (sumL ns) K ≤ 1099511627776 := by
  rw [h.ha]
  exact ⟨choose_ev h.s40 h.le, chChoose_ev h.s40 h.le, wB_pos h.s40 h.le, wB_le _ _⟩
/-- Sums over all pairs, as far as either goes. -/
theorem sum_same (ns : List Nat) (K : Nat) (c : Nat → Int) : sumN (pairL ns + 1) (fun p => c p * wF ns K p) = sumN (K + 1) (fun p => c p * wF ns K p) := by
  have h1 : sumN (pairL ns + 1 + (K + 1)) (fun p => c p * wF ns K p) = sumN (pairL ns + 1) (fun p => c p * wF ns K p) := sumN_longer (by omega) (fun d h1 _ => by rw [wF_high d (.inl (by omega))]; simp)
  have h2 : sumN (pairL ns + 1 + (K + 1)) (fun p => c p * wF ns K p) = sumN (K + 1) (fun p => c p * wF ns K p) := sumN_longer (by omega) (fun d h1 _ => by rw [wF_high d (.inr (by omega))]; simp)
  rw [← h1, h2]
theorem sumN_small {n : Nat} {f : Nat → Int} {B : Int} (h : ∀ d, d < n → 0 ≤ f d ∧ f d ≤ B) : 0 ≤ sumN n f ∧ sumN n f ≤ B * (n : Int) := by
  induction n with
  | zero => simp [sumN]
  | succ n ih =>
    have h1 := ih fun d hd => h d (by omega)
    have h2 := h n (by omega)
    simp only [sumN]
    rw [show ((n + 1 : Nat) : Int) = (n : Int) + 1 by omega, Int.mul_add]
    omega
end
end Go.Proofs.Ytnikblimnjpmpaa.X

/- ==== HChanceOfPairs ==== -/
/- The program's ChanceOfPairs: its contract. -/
namespace Go.Proofs.Ytnikblimnjpmpaa.X
open Go.RowKit Go.Proofs.YtnikblimnjpmpaaW.PrintWords Go.Proofs.YtnikblimnjpmpaaW.PrintLast Go.Proofs.YtnikblimnjpmpaaW.PrintMore

theorem fits_45 (a : Int) (b : Nat) (w : World) (hb : w.cell? ⟨b, 0, none⟩ = some (.int .i64 a)) : Fits 45 #[.pointer (some ⟨b, 0, none⟩)] (fun p => decide (p = a)) w := by
  intro W p hB
  show Calls Try.prog 45 #[.int .i64 p, .pointer (some ⟨b, 0, none⟩)] W _
  have hb2 := (hB.cell (World.block_lt_of_cell? w _ hb)).trans hb
  clear hb
  go_enter Try.func45, Try.ntmps45
  go_wp2
  go_ret
  exact ⟨rfl, Below.refl _ _⟩
def impl_ChanceOfPairs.f (k : Nat) (l0 : List Int) (a1 : Int) (a2 : Int) : Option (Int × Int × Bool) := chanceF (fun p => decide (p = a2)) k l0 a1 a2
theorem impl_ChanceOfPairs.mono : ∀ a0 a1 a2 k, LeO (impl_ChanceOfPairs.f k a0 a1 a2) (impl_ChanceOfPairs.f (k + 1) a0 a1 a2) := fun a0 a1 a2 k => chanceF.mono _ a0 a1 a2 k
set_option maxHeartbeats 8000000 in
set_option maxRecDepth 100000 in
theorem impl_ChanceOfPairs.calls (k : Nat) (A0 : Option Addr) (c0 : Nat) (l0 : List Int) (a1 : Int) (a2 : Int) (r1 : Int) (r2 : Int) (r3 : Bool) (w : World) (hr0 : Kd.C (Kd.int .i64) w A0 l0.length l0) (hc0 : l0.length ≤ c0) (h : impl_ChanceOfPairs.f k l0 a1 a2 = some (r1, r2, r3)) :
    Calls Try.prog 20 #[.slice A0 l0.length c0, .int .i64 a1, .int .i64 a2] w fun e w' => e = .returned (.tuple #[.int .i64 r1, .int .i64 r2, .bool r3]) ∧ Below w.heap.size w w' := by
  have HCON := Aside0.mk (fun (W : World) (hB : Below w.heap.size w W) (hb : W.cell? ⟨w.heap.size, 0, none⟩ = some (.int .i64 a2)) => chance_calls (fun p => decide (p = a2)) 45 #[.pointer (some ⟨w.heap.size, 0, none⟩)] (enters_of Try.func45 (by kernel_rfl) rfl) k A0 c0 l0 a1 a2 r1 r2 r3 W (Kd.C_below hr0 hB) hc0 (fits_45 a2 w.heap.size W hb) h)
  clear hr0 hc0 h
  go_enter Try.func20, Try.ntmps20
  go_wp2_with (go_at_call 44; refine (HCON.out _ ((Below.refl _ _).alloc (Nat.le_refl _) _) (by simp)).mono ?_; rintro e w1 ⟨rfl, hb⟩; have HB := Aside0.mk (((Below.refl w.heap.size w).alloc (Nat.le_refl _) (.cells #[.int .i64 a2] 3)).trans (hb.mono (by simp))); clear hb)
  go_ret3
  exact ⟨rfl, HB.out⟩
end Go.Proofs.Ytnikblimnjpmpaa.X

/- ==== XspecchOf ==== -/
namespace Go.Proofs.Ytnikblimnjpmpaa.X
open Go.RowKit Go.Proofs.YtnikblimnjpmpaaW.PrintWords Go.Proofs.YtnikblimnjpmpaaW.PrintLast Go.Proofs.YtnikblimnjpmpaaW.PrintMore
attribute [local go_sem] max2_int min2_int max_two min_two max_three min_three max_four min_four   -- for this text's walks alone
set_option linter.unusedVariables false
set_option linter.unusedSimpArgs false

/-! ### spec_chOf: function 33 -/
def spec_chOf.f (l0 : List Int) (a1 : Int) : Option (Int) := if a1 ≥ (l0.length : Int) then (some 0) else (if 0 ≤ a1 then (if a1 < (l0.length : Int) then (some (rd l0 a1)) else (none)) else (none))
set_option maxHeartbeats 8000000 in
set_option maxRecDepth 100000 in
theorem spec_chOf.calls (A0 : Option Addr) (c0 : Nat) (l0 : List Int) (a1 : Int) (r : Int) (w : World) (hr0 : Kd.C (Kd.int .i64) w A0 l0.length l0) (hc0 : l0.length ≤ c0) (h : spec_chOf.f l0 a1 = some r) :
    Calls Try.prog 33 #[.slice A0 l0.length c0, .int .i64 a1] w fun e w' => e = .returned (.int .i64 r) ∧ Drawn0 w w' := by
  have HR0 := Aside0.mk hr0
  have HC0 := Aside0.mk hc0
  clear hr0 hc0
  have H : (if a1 ≥ (l0.length : Int) then (some 0) else (if 0 ≤ a1 then (if a1 < (l0.length : Int) then (some (rd l0 a1)) else (none)) else (none))) = some r := h
  clear h
  by_cases c3 : a1 ≥ (l0.length : Int)
  · rw [if_pos c3] at H
    have c3b0 : decide ((l0.length : Int) ≤ a1) = true := decide_eq_true c3
    clear c3
    obtain rfl := Option.some.inj H
    go_enter Try.func33, Try.ntmps33
    go_wp2
    go_ret
    exact ⟨by first | rfl | (simp; done) | (simp [*]; done), by repeat (first | exact Drawn0.refl _ | apply Drawn0.step)⟩
  · rw [if_neg c3] at H
    have c3b0 : decide ((l0.length : Int) ≤ a1) = false := decide_eq_false c3
    clear c3
    by_cases c4 : 0 ≤ a1
    · rw [if_pos c4] at H
      have c4b0 : decide (0 ≤ a1) = true := decide_eq_true c4
      clear c4
      by_cases c5 : a1 < (l0.length : Int)
      · rw [if_pos c5] at H
        have c5b0 : decide (a1 < (l0.length : Int)) = true := decide_eq_true c5
        clear c5
        obtain rfl := Option.some.inj H
        have p112 : 0 ≤ (a1 : Int) := of_decide_eq_true (by first | (with_reducible assumption) | assumption)
        have q112 : a1 < (l0.length : Int) := of_decide_eq_true (by first | (with_reducible assumption) | assumption)
        obtain ⟨ad112, e112, hx112_0⟩ := Kd.at_int HR0.out a1 p112 q112
        cases e112
        replace p112 := eq_true p112
        replace q112 := eq_true q112
        go_enter Try.func33, Try.ntmps33
        go_wp2
        go_ret
        exact ⟨by first | rfl | (simp; done) | (simp [*]; done), by repeat (first | exact Drawn0.refl _ | apply Drawn0.step)⟩
      · rw [if_neg c5] at H
        exact absurd H (by simp)
    · rw [if_neg c4] at H
      exact absurd H (by simp)

end Go.Proofs.Ytnikblimnjpmpaa.X

/- ==== XspecChanceOfPairs ==== -/
namespace Go.Proofs.Ytnikblimnjpmpaa.X
open Go.RowKit Go.Proofs.YtnikblimnjpmpaaW.PrintWords Go.Proofs.YtnikblimnjpmpaaW.PrintLast Go.Proofs.YtnikblimnjpmpaaW.PrintMore
attribute [local go_sem] max2_int min2_int max_two min_two max_three min_three max_four min_four   -- for this text's walks alone
set_option linter.unusedVariables false
set_option linter.unusedSimpArgs false

/-! ### spec_ChanceOfPairs: function 19 -/
def spec_ChanceOfPairs.j0 : Nat → List Int → Int → Int → Bool → Option (Int × Int × Bool)
  | 0, _, _, _, _ => none
  | k + 1, x0, x1, x2, x18 => if x18 = true then (some (0, 0, false)) else ((spec_chTable.f k x0 x1 112).bind fun t269 => ((spec_chOf.f t269 x2).bind fun t272 => ((spec_soSum.f k x0).bind fun t273 => ((spec_chChoose.f k t273 x1).bind fun t274 => ((spec_chLow.f k t272 t274).bind fun bt275 => (some (bt275.1, bt275.2, true)))))))
def spec_ChanceOfPairs.f (k : Nat) (l0 : List Int) (a1 : Int) (a2 : Int) : Option (Int × Int × Bool) := (spec_chAsked.f k l0 a1).bind fun t268 => (if t268 = true then (spec_ChanceOfPairs.j0 k l0 a1 a2 (decide (a2 < 0))) else (spec_ChanceOfPairs.j0 k l0 a1 a2 true))
theorem spec_ChanceOfPairs.mono_l : ∀ k, (∀ y0 y1 y2 y3, LeO (spec_ChanceOfPairs.j0 k y0 y1 y2 y3) (spec_ChanceOfPairs.j0 (k + 1) y0 y1 y2 y3))
  | 0 => fun _ _ _ _ r h => by simp [spec_ChanceOfPairs.j0] at h
  | k + 1 => by
    have ih0 := spec_ChanceOfPairs.mono_l k
    · intro y0 y1 y2 y3
      unfold spec_ChanceOfPairs.j0
      repeat' first
      | (with_reducible exact ih0 _ _ _ _)
      | (with_reducible exact spec_chAsked.mono _ _ _)
      | (with_reducible exact spec_chChoose.mono _ _ _)
      | (with_reducible exact spec_chLow.mono _ _ _)
      | (with_reducible exact spec_chTable.mono _ _ _ _)
      | (with_reducible exact spec_soSum.mono _ _)
      | (with_reducible exact LeO.refl _)
      | (with_reducible exact LeO.none _)
      | (with_reducible refine LeO.ite ?_ ?_)
      | (with_reducible refine LeO.bind ?_ (fun _ => ?_))
      | exact ih0 _ _ _ _
      | exact spec_chAsked.mono _ _ _
      | exact spec_chChoose.mono _ _ _
      | exact spec_chLow.mono _ _ _
      | exact spec_chTable.mono _ _ _ _
      | exact spec_soSum.mono _ _
      | exact LeO.none _
      | refine LeO.ite ?_ ?_
      | refine LeO.bind ?_ (fun _ => ?_)
theorem spec_ChanceOfPairs.mono : ∀ a0 a1 a2 k, LeO (spec_ChanceOfPairs.f k a0 a1 a2) (spec_ChanceOfPairs.f (k + 1) a0 a1 a2) := by
  intro a0 a1 a2 k
  have ih0 := spec_ChanceOfPairs.mono_l k
  unfold spec_ChanceOfPairs.f
  repeat' first
      | (with_reducible exact ih0 _ _ _ _)
      | (with_reducible exact spec_chAsked.mono _ _ _)
      | (with_reducible exact spec_chChoose.mono _ _ _)
      | (with_reducible exact spec_chLow.mono _ _ _)
      | (with_reducible exact spec_chTable.mono _ _ _ _)
      | (with_reducible exact spec_soSum.mono _ _)
      | (with_reducible exact LeO.refl _)
      | (with_reducible exact LeO.none _)
      | (with_reducible refine LeO.ite ?_ ?_)
      | (with_reducible refine LeO.bind ?_ (fun _ => ?_))
      | exact ih0 _ _ _ _
      | exact spec_chAsked.mono _ _ _
      | exact spec_chChoose.mono _ _ _
      | exact spec_chLow.mono _ _ _
      | exact spec_chTable.mono _ _ _ _
      | exact spec_soSum.mono _ _
      | exact LeO.none _
      | refine LeO.ite ?_ ?_
      | refine LeO.bind ?_ (fun _ => ?_)
set_option maxHeartbeats 8000000 in
set_option maxRecDepth 100000 in
theorem spec_ChanceOfPairs.calls (k : Nat) (A0 : Option Addr) (c0 : Nat) (l0 : List Int) (a1 : Int) (a2 : Int) (r1 : Int) (r2 : Int) (r3 : Bool) (w : World) (hr0 : Kd.C (Kd.int .i64) w A0 l0.length l0) (hc0 : l0.length ≤ c0) (h : spec_ChanceOfPairs.f k l0 a1 a2 = some (r1, r2, r3)) :
    Calls Try.prog 19 #[.slice A0 l0.length c0, .int .i64 a1, .int .i64 a2] w fun e w' => e = .returned (.tuple #[.int .i64 r1, .int .i64 r2, .bool r3]) ∧ Below w.heap.size w w' := by
  have HR0 := Aside0.mk hr0
  have HC0 := Aside0.mk hc0
  clear hr0 hc0
  have HB := Aside0.mk (Below.refl w.heap.size w)
  have H : ((spec_chAsked.f k l0 a1).bind fun t268 => (if t268 = true then (spec_ChanceOfPairs.j0 k l0 a1 a2 (decide (a2 < 0))) else (spec_ChanceOfPairs.j0 k l0 a1 a2 true))) = some (r1, r2, r3) := h
  clear h
  have HC4 := Aside0.mk H
  clear H
  go_enter Try.func19, Try.ntmps19
  go_upto_region 1 with (fail)
  go_cut [18] (fun v18 wc => ∃ (kq : Nat) (x18_3 : Bool), v18 = .bool x18_3 ∧ Aside0 (spec_ChanceOfPairs.j0 kq l0 a1 a2 x18_3 = some (r1, r2, r3)) ∧ Aside0 (kq ≤ k) ∧ Aside0 (Below w.heap.size w wc))
  case first =>
    have H := HC4.out
    clear HC4
    replace H := Option.bind_eq_some_iff.mp H
    obtain ⟨t268, A50, H⟩ := H
    replace H : (if t268 = true then (spec_ChanceOfPairs.j0 k l0 a1 a2 (decide (a2 < 0))) else (spec_ChanceOfPairs.j0 k l0 a1 a2 true)) = some (r1, r2, r3) := H
    have A5 := Aside0.mk A50
    clear A50
    by_cases c6 : t268 = true
    · subst c6
      have H1 : (spec_ChanceOfPairs.j0 k l0 a1 a2 (decide (a2 < 0))) = some (r1, r2, r3) := by rw [if_pos rfl] at H; exact H
      clear H
      have H := H1
      clear H1
      have H' := Aside0.mk H
      clear H
      go_wp2_with (first | ((with_reducible refine gate_callee (f := 31) rfl ?_); refine goesL_ (some 13) rfl rfl Try.func31 (by kernel_rfl) rfl #[.slice A0 l0.length c0, .int .i64 a1] rfl (by (try simp only [List.map_toArray, List.map_cons, List.map_nil]); first | done | rfl | (simp only [List.length_drop, List.length_take]; rfl)) ?_; (with_reducible refine (spec_chAsked.calls k _ _ l0 a1 true _ ?side1 ?side2 A5.out).mono ?_); (case side1 => repeat (first | exact (Kd.C_below HR0.out HB.out) | (with_reducible refine Kd.C_alloc ?_ _) | (with_reducible refine Kd.C_drewN ?_ _) | (with_reducible refine Kd.C_drew ?_))); (case side2 => exact HC0.out); rintro e w' ⟨rfl, ⟨nd, rfl⟩⟩; refine ⟨_, rfl, ?_⟩))
      go_meet
      case rel => exact ⟨_, (decide (a2 < 0)), (by first | rfl | (simp; done) | (simp [*]; done)), H', ⟨by first | omega | exact Nat.le_refl _⟩, ⟨by repeat (first | (with_reducible first | exact HB.out | apply below_alloc | apply pw_below_drewN | apply below_drew1) | exact HB.out)⟩⟩
    · replace c6 := Bool.eq_false_iff.mpr c6
      subst c6
      have H1 : (spec_ChanceOfPairs.j0 k l0 a1 a2 true) = some (r1, r2, r3) := by rw [if_neg (show ¬ (false = true) by decide)] at H; exact H
      clear H
      have H := H1
      clear H1
      have H' := Aside0.mk H
      clear H
      go_wp2_with (first | ((with_reducible refine gate_callee (f := 31) rfl ?_); refine goesL_ (some 13) rfl rfl Try.func31 (by kernel_rfl) rfl #[.slice A0 l0.length c0, .int .i64 a1] rfl (by (try simp only [List.map_toArray, List.map_cons, List.map_nil]); first | done | rfl | (simp only [List.length_drop, List.length_take]; rfl)) ?_; (with_reducible refine (spec_chAsked.calls k _ _ l0 a1 false _ ?side1 ?side2 A5.out).mono ?_); (case side1 => repeat (first | exact (Kd.C_below HR0.out HB.out) | (with_reducible refine Kd.C_alloc ?_ _) | (with_reducible refine Kd.C_drewN ?_ _) | (with_reducible refine Kd.C_drew ?_))); (case side2 => exact HC0.out); rintro e w' ⟨rfl, ⟨nd, rfl⟩⟩; refine ⟨_, rfl, ?_⟩))
      go_meet
      case rel => exact ⟨_, (true), (by first | rfl | (simp; done) | (simp [*]; done)), H', ⟨by first | omega | exact Nat.le_refl _⟩, ⟨by repeat (first | (with_reducible first | exact HB.out | apply below_alloc | apply pw_below_drewN | apply below_drew1) | exact HB.out)⟩⟩
  case rest =>
    clear HC4
    try clear c1
    try clear p2
    try clear c3
    try clear c6
    obtain ⟨kq, x18_3, rfl, HA, HJ3, HB⟩ := hcut
    cases kq with
    | zero => exact absurd HA.out (by simp [spec_ChanceOfPairs.j0])
    | succ kj3 =>
      have H := HA.out
      clear HA
      simp only [spec_ChanceOfPairs.j0] at H
      by_cases c7 : x18_3 = true
      · subst c7
        have H1 : (some (0, 0, false)) = some (r1, r2, r3) := by rw [if_pos rfl] at H; exact H
        clear H
        have H := H1
        clear H1
        simp only [Option.some.injEq, Prod.mk.injEq] at H
        obtain ⟨rfl, rfl, rfl⟩ := H
        go_wp2
        go_ret3
        exact ⟨by first | rfl | (simp [errW_none, errW_some] <;> rfl) | (simp [*, errW_none, errW_some] <;> rfl), by repeat (first | (with_reducible first | exact HB.out | apply below_alloc | apply pw_below_drewN | apply below_drew1) | exact HB.out)⟩
      · replace c7 := Bool.eq_false_iff.mpr c7
        subst c7
        have H1 : ((spec_chTable.f kj3 l0 a1 112).bind fun t269 => ((spec_chOf.f t269 a2).bind fun t272 => ((spec_soSum.f kj3 l0).bind fun t273 => ((spec_chChoose.f kj3 t273 a1).bind fun t274 => ((spec_chLow.f kj3 t272 t274).bind fun bt275 => (some (bt275.1, bt275.2, true))))))) = some (r1, r2, r3) := by rw [if_neg (show ¬ (false = true) by decide)] at H; exact H
        clear H
        have H := H1
        clear H1
        replace H := Option.bind_eq_some_iff.mp H
        obtain ⟨t269, A80, H⟩ := H
        replace H : ((spec_chOf.f t269 a2).bind fun t272 => ((spec_soSum.f kj3 l0).bind fun t273 => ((spec_chChoose.f kj3 t273 a1).bind fun t274 => ((spec_chLow.f kj3 t272 t274).bind fun bt275 => (some (bt275.1, bt275.2, true)))))) = some (r1, r2, r3) := H
        have A8 := Aside0.mk A80
        clear A80
        replace H := Option.bind_eq_some_iff.mp H
        obtain ⟨t272, A90, H⟩ := H
        replace H : ((spec_soSum.f kj3 l0).bind fun t273 => ((spec_chChoose.f kj3 t273 a1).bind fun t274 => ((spec_chLow.f kj3 t272 t274).bind fun bt275 => (some (bt275.1, bt275.2, true))))) = some (r1, r2, r3) := H
        have A9 := Aside0.mk A90
        clear A90
        replace H := Option.bind_eq_some_iff.mp H
        obtain ⟨t273, A100, H⟩ := H
        replace H : ((spec_chChoose.f kj3 t273 a1).bind fun t274 => ((spec_chLow.f kj3 t272 t274).bind fun bt275 => (some (bt275.1, bt275.2, true)))) = some (r1, r2, r3) := H
        have A10 := Aside0.mk A100
        clear A100
        replace H := Option.bind_eq_some_iff.mp H
        obtain ⟨t274, A110, H⟩ := H
        replace H : ((spec_chLow.f kj3 t272 t274).bind fun bt275 => (some (bt275.1, bt275.2, true))) = some (r1, r2, r3) := H
        have A11 := Aside0.mk A110
        clear A110
        replace H := Option.bind_eq_some_iff.mp H
        obtain ⟨⟨t275, t276⟩, A120, H⟩ := H
        replace H : (some (t275, t276, true)) = some (r1, r2, r3) := H
        have A12 := Aside0.mk A120
        clear A120
        simp only [Option.some.injEq, Prod.mk.injEq] at H
        obtain ⟨rfl, rfl, rfl⟩ := H
        go_wp2_with (first | ((with_reducible refine gate_callee (f := 34) rfl ?_); refine goesL_ (some 22) rfl rfl Try.func34 (by kernel_rfl) rfl #[.slice A0 l0.length c0, .int .i64 a1, .int .u8 112] rfl (by (try simp only [List.map_toArray, List.map_cons, List.map_nil]); first | done | rfl | (simp only [List.length_drop, List.length_take]; rfl)) ?_; (with_reducible refine (spec_chTable.calls kj3 _ _ l0 a1 112 t269 _ ?side1 ?side2 A8.out).mono ?_); (case side1 => repeat (first | exact (Kd.C_below HR0.out HB.out) | (with_reducible refine Kd.C_alloc ?_ _) | (with_reducible refine Kd.C_drewN ?_ _) | (with_reducible refine Kd.C_drew ?_))); (case side2 => exact HC0.out); rintro e w13 ⟨v270, rfl, ho0, hb⟩; refine ⟨_, rfl, ?_⟩; have n0_ := Aside0.mk (Kd.Q_lower ho0 (below_size (by repeat (first | (with_reducible first | exact HB.out | apply below_alloc | apply pw_below_drewN | apply below_drew1) | exact HB.out)))); have n1_ := Aside0.mk (below_step (by repeat (first | (with_reducible first | exact HB.out | apply below_alloc | apply pw_below_drewN | apply below_drew1) | exact HB.out)) hb); clear HB; have HO271 := n0_; have HB := n1_; clear n0_ n1_; (try clear hb); (try clear hb2); (try clear hk); (try clear hi); (try clear ho0); obtain ⟨Ao14, co14, eo14, _⟩ := Kd.Q_slice HO271.out; subst eo14) | ((with_reducible refine gate_callee (f := 33) rfl ?_); refine goesL_ (some 24) rfl rfl Try.func33 (by kernel_rfl) rfl #[.slice Ao14 t269.length co14, .int .i64 a2] rfl (by (try simp only [List.map_toArray, List.map_cons, List.map_nil]); first | done | rfl | (simp only [List.length_drop, List.length_take]; rfl)) ?_; (with_reducible refine (spec_chOf.calls _ _ t269 a2 t272 _ ?side1 ?side2 A9.out).mono ?_); (case side1 => repeat (first | exact (Kd.Q_reads' HO271.out).2.2 | (with_reducible refine Kd.C_alloc ?_ _) | (with_reducible refine Kd.C_drewN ?_ _) | (with_reducible refine Kd.C_drew ?_))); (case side2 => exact (Kd.Q_reads' HO271.out).2.1); rintro e w' ⟨rfl, ⟨nd, rfl⟩⟩; refine ⟨_, rfl, ?_⟩) | ((with_reducible refine gate_callee (f := 36) rfl ?_); refine goesL_ (some 26) rfl rfl Try.func36 (by kernel_rfl) rfl #[.slice A0 l0.length c0] rfl (by (try simp only [List.map_toArray, List.map_cons, List.map_nil]); first | done | rfl | (simp only [List.length_drop, List.length_take]; rfl)) ?_; (with_reducible refine (spec_soSum.calls kj3 _ _ l0 t273 _ ?side1 ?side2 A10.out).mono ?_); (case side1 => repeat (first | exact (Kd.C_below HR0.out (by repeat (first | (with_reducible first | exact HB.out | apply below_alloc | apply pw_below_drewN | apply below_drew1) | exact HB.out))) | (with_reducible refine Kd.C_alloc ?_ _) | (with_reducible refine Kd.C_drewN ?_ _) | (with_reducible refine Kd.C_drew ?_))); (case side2 => exact HC0.out); rintro e w' ⟨rfl, ⟨nd, rfl⟩⟩; refine ⟨_, rfl, ?_⟩) | ((with_reducible refine gate_callee (f := 35) rfl ?_); refine goesL_ (some 28) rfl rfl Try.func35 (by kernel_rfl) rfl #[.int .i64 t273, .int .i64 a1] rfl (by (try simp only [List.map_toArray, List.map_cons, List.map_nil]); first | done | rfl | (simp only [List.length_drop, List.length_take]; rfl)) ?_; (with_reducible refine (spec_chChoose.calls kj3 t273 a1 t274 _ A11.out).mono ?_); rintro e w' ⟨rfl, ⟨nd, rfl⟩⟩; refine ⟨_, rfl, ?_⟩) | ((with_reducible refine gate_callee (f := 32) rfl ?_); refine goesL_ (some 29) rfl rfl Try.func32 (by kernel_rfl) rfl #[.int .i64 t272, .int .i64 t274] rfl (by (try simp only [List.map_toArray, List.map_cons, List.map_nil]); first | done | rfl | (simp only [List.length_drop, List.length_take]; rfl)) ?_; (with_reducible refine (spec_chLow.calls kj3 t272 t274 t275 t276 _ A12.out).mono ?_); rintro e w' ⟨rfl, ⟨nd, rfl⟩⟩; refine ⟨_, rfl, ?_⟩))
        go_ret3
        exact ⟨by first | rfl | (simp [errW_none, errW_some] <;> rfl) | (simp [*, errW_none, errW_some] <;> rfl), by repeat (first | (with_reducible first | exact HB.out | apply below_alloc | apply pw_below_drewN | apply below_drew1) | exact HB.out)⟩

end Go.Proofs.Ytnikblimnjpmpaa.X

/- ==== XspecchMore ==== -/
namespace Go.Proofs.Ytnikblimnjpmpaa.X
open Go.RowKit Go.Proofs.YtnikblimnjpmpaaW.PrintWords Go.Proofs.YtnikblimnjpmpaaW.PrintLast Go.Proofs.YtnikblimnjpmpaaW.PrintMore
attribute [local go_sem] max2_int min2_int max_two min_two max_three min_three max_four min_four   -- for this text's walks alone
set_option linter.unusedVariables false
set_option linter.unusedSimpArgs false

/-! ### spec_chMore: function 46 -/
def spec_chMore.l0 : Nat → List Int → Int → Int → Int → Option (Int)
  | 0, _, _, _, _ => none
  | k + 1, x0, x1, x5, x6 => if x6 ≥ 0 then (if x6 ≥ x1 then (if 0 ≤ x6 then (if x6 < (x0.length : Int) then (spec_chMore.l0 k x0 x1 (wrap64 (x5 + (rd x0 x6))) (wrap64 (x6 - 1))) else (none)) else (none)) else (some x5)) else (some x5)
def spec_chMore.f (k : Nat) (l0 : List Int) (a1 : Int) : Option (Int) := spec_chMore.l0 k l0 a1 0 (wrap64 ((l0.length : Int) - 1))
theorem spec_chMore.mono_l : ∀ k, (∀ y0 y1 y2 y3, LeO (spec_chMore.l0 k y0 y1 y2 y3) (spec_chMore.l0 (k + 1) y0 y1 y2 y3))
  | 0 => fun _ _ _ _ r h => by simp [spec_chMore.l0] at h
  | k + 1 => by
    have ih0 := spec_chMore.mono_l k
    · intro y0 y1 y2 y3
      unfold spec_chMore.l0
      repeat' first
      | (with_reducible exact ih0 _ _ _ _)
      | (with_reducible exact LeO.refl _)
      | (with_reducible exact LeO.none _)
      | (with_reducible refine LeO.ite ?_ ?_)
      | (with_reducible refine LeO.bind ?_ (fun _ => ?_))
      | exact ih0 _ _ _ _
      | exact LeO.none _
      | refine LeO.ite ?_ ?_
      | refine LeO.bind ?_ (fun _ => ?_)
theorem spec_chMore.mono : ∀ a0 a1 k, LeO (spec_chMore.f k a0 a1) (spec_chMore.f (k + 1) a0 a1) := by
  intro a0 a1 k
  have ih0 := spec_chMore.mono_l k
  unfold spec_chMore.f
  repeat' first
      | (with_reducible exact ih0 _ _ _ _)
      | (with_reducible exact LeO.refl _)
      | (with_reducible exact LeO.none _)
      | (with_reducible refine LeO.ite ?_ ?_)
      | (with_reducible refine LeO.bind ?_ (fun _ => ?_))
      | exact ih0 _ _ _ _
      | exact LeO.none _
      | refine LeO.ite ?_ ?_
      | refine LeO.bind ?_ (fun _ => ?_)
set_option maxHeartbeats 8000000 in
set_option maxRecDepth 100000 in
theorem spec_chMore.calls (k : Nat) (A0 : Option Addr) (c0 : Nat) (l0 : List Int) (a1 : Int) (r : Int) (w : World) (hr0 : Kd.C (Kd.int .i64) w A0 l0.length l0) (hc0 : l0.length ≤ c0) (h : spec_chMore.f k l0 a1 = some r) :
    Calls Try.prog 46 #[.slice A0 l0.length c0, .int .i64 a1] w fun e w' => e = .returned (.int .i64 r) ∧ Drawn0 w w' := by
  have HR0 := Aside0.mk hr0
  have HC0 := Aside0.mk hc0
  clear hr0 hc0
  have H : (spec_chMore.l0 k l0 a1 0 (wrap64 ((l0.length : Int) - 1))) = some r := h
  clear h
  have H' := Aside0.mk H
  clear H
  go_enter Try.func46, Try.ntmps46
  go_wp2
  go_loopg [5, 6] k (fun kq v5 v6 w' => ∃ (x5_1 : Int) (x6_1 : Int), v5 = .int .i64 x5_1 ∧ v6 = .int .i64 x6_1 ∧ Aside0 (spec_chMore.l0 kq l0 a1 x5_1 x6_1 = some r) ∧ Aside0 (kq ≤ k) ∧ Drawn0 w w')
  case atStart => exact ⟨(0), (wrap64 ((l0.length : Int) - 1)), (by first | rfl | (simp; done) | (simp [*]; done)), (by first | rfl | (simp; done) | (simp [*]; done)), H', ⟨Nat.le_refl _⟩, by repeat (first | exact Drawn0.refl _ | apply Drawn0.step)⟩
  case round =>
    clear H'
    try clear p2
    obtain ⟨x5_1, x6_1, rfl, rfl, HA, HK1, ⟨m1, rfl⟩⟩ := hrel
    cases gk with
    | zero => exact absurd HA.out (by simp [spec_chMore.l0])
    | succ k1 =>
      have H := HA.out
      clear HA
      simp only [spec_chMore.l0] at H
      by_cases c3 : x6_1 ≥ 0
      · rw [if_pos c3] at H
        have c3b0 : decide (0 ≤ x6_1) = true := decide_eq_true c3
        clear c3
        by_cases c4 : x6_1 ≥ a1
        · rw [if_pos c4] at H
          have c4b0 : decide (a1 ≤ x6_1) = true := decide_eq_true c4
          clear c4
          by_cases c5 : 0 ≤ x6_1
          · rw [if_pos c5] at H
            have c5b0 : decide (0 ≤ x6_1) = true := decide_eq_true c5
            clear c5
            by_cases c6 : x6_1 < (l0.length : Int)
            · rw [if_pos c6] at H
              have c6b0 : decide (x6_1 < (l0.length : Int)) = true := decide_eq_true c6
              clear c6
              have H' := Aside0.mk H
              clear H
              have p313 : 0 ≤ (x6_1 : Int) := of_decide_eq_true (by first | (with_reducible assumption) | assumption)
              have q313 : x6_1 < (l0.length : Int) := of_decide_eq_true (by first | (with_reducible assumption) | assumption)
              obtain ⟨ad313, e313, hx313_0⟩ := Kd.at_int HR0.out x6_1 p313 q313
              cases e313
              replace p313 := eq_true p313
              replace q313 := eq_true q313
              go_wp2
              go_roundg k1
              case measure => have := HK1.out; omega
              case rel => exact ⟨(wrap64 (x5_1 + (rd l0 x6_1))), (wrap64 (x6_1 - 1)), (by first | rfl | (simp; done) | (simp [*]; done)), (by first | rfl | (simp; done) | (simp [*]; done)), H', ⟨by have := HK1.out; omega⟩, by repeat (first | exact Drawn0.refl _ | apply Drawn0.step)⟩
            · rw [if_neg c6] at H
              exact absurd H (by simp)
          · rw [if_neg c5] at H
            exact absurd H (by simp)
        · rw [if_neg c4] at H
          have c4b0 : decide (a1 ≤ x6_1) = false := decide_eq_false c4
          clear c4
          obtain rfl := Option.some.inj H
          go_wp2
          go_ret
          exact ⟨by first | rfl | (simp; done) | (simp [*]; done), by repeat (first | exact Drawn0.refl _ | apply Drawn0.step)⟩
      · rw [if_neg c3] at H
        have c3b0 : decide (0 ≤ x6_1) = false := decide_eq_false c3
        clear c3
        obtain rfl := Option.some.inj H
        go_wp2
        go_ret
        exact ⟨by first | rfl | (simp; done) | (simp [*]; done), by repeat (first | exact Drawn0.refl _ | apply Drawn0.step)⟩

end Go.Proofs.Ytnikblimnjpmpaa.X

/- ==== XspecChanceAtLeast ==== -/
namespace Go.Proofs.Ytnikblimnjpmpaa.X
open Go.RowKit Go.Proofs.YtnikblimnjpmpaaW.PrintWords Go.Proofs.YtnikblimnjpmpaaW.PrintLast Go.Proofs.YtnikblimnjpmpaaW.PrintMore
attribute [local go_sem] max2_int min2_int max_two min_two max_three min_three max_four min_four   -- for this text's walks alone
set_option linter.unusedVariables false
set_option linter.unusedSimpArgs false

/-! ### spec_ChanceAtLeast: function 23 -/
def spec_ChanceAtLeast.j0 : Nat → List Int → Int → Int → Bool → Option (Int × Int × Bool)
  | 0, _, _, _, _ => none
  | k + 1, x0, x1, x2, x18 => if x18 = true then (some (0, 0, false)) else ((spec_chTable.f k x0 x1 112).bind fun t315 => ((spec_chMore.f k t315 x2).bind fun t318 => ((spec_soSum.f k x0).bind fun t319 => ((spec_chChoose.f k t319 x1).bind fun t320 => ((spec_chLow.f k t318 t320).bind fun bt321 => (some (bt321.1, bt321.2, true)))))))
def spec_ChanceAtLeast.f (k : Nat) (l0 : List Int) (a1 : Int) (a2 : Int) : Option (Int × Int × Bool) := (spec_chAsked.f k l0 a1).bind fun t314 => (if t314 = true then (spec_ChanceAtLeast.j0 k l0 a1 a2 (decide (a2 < 0))) else (spec_ChanceAtLeast.j0 k l0 a1 a2 true))
theorem spec_ChanceAtLeast.mono_l : ∀ k, (∀ y0 y1 y2 y3, LeO (spec_ChanceAtLeast.j0 k y0 y1 y2 y3) (spec_ChanceAtLeast.j0 (k + 1) y0 y1 y2 y3))
  | 0 => fun _ _ _ _ r h => by simp [spec_ChanceAtLeast.j0] at h
  | k + 1 => by
    have ih0 := spec_ChanceAtLeast.mono_l k
    · intro y0 y1 y2 y3
      unfold spec_ChanceAtLeast.j0
      repeat' first
      | (with_reducible exact ih0 _ _ _ _)
      | (with_reducible exact spec_chAsked.mono _ _ _)
      | (with_reducible exact spec_chChoose.mono _ _ _)
      | (with_reducible exact spec_chLow.mono _ _ _)
      | (with_reducible exact spec_chMore.mono _ _ _)
      | (with_reducible exact spec_chTable.mono _ _ _ _)
      | (with_reducible exact spec_soSum.mono _ _)
      | (with_reducible exact LeO.refl _)
      | (with_reducible exact LeO.none _)
      | (with_reducible refine LeO.ite ?_ ?_)
      | (with_reducible refine LeO.bind ?_ (fun _ => ?_))
      | exact ih0 _ _ _ _
      | exact spec_chAsked.mono _ _ _
      | exact spec_chChoose.mono _ _ _
      | exact spec_chLow.mono _ _ _
      | exact spec_chMore.mono _ _ _
      | exact spec_chTable.mono _ _ _ _
      | exact spec_soSum.mono _ _
      | exact LeO.none _
      | refine LeO.ite ?_ ?_
      | refine LeO.bind ?_ (fun _ => ?_)
theorem spec_ChanceAtLeast.mono : ∀ a0 a1 a2 k, LeO (spec_ChanceAtLeast.f k a0 a1 a2) (spec_ChanceAtLeast.f (k + 1) a0 a1 a2) := by
  intro a0 a1 a2 k
  have ih0 := spec_ChanceAtLeast.mono_l k
  unfold spec_ChanceAtLeast.f
  repeat' first
      | (with_reducible exact ih0 _ _ _ _)
      | (with_reducible exact spec_chAsked.mono _ _ _)
      | (with_reducible exact spec_chChoose.mono _ _ _)
      | (with_reducible exact spec_chLow.mono _ _ _)
      | (with_reducible exact spec_chMore.mono _ _ _)
      | (with_reducible exact spec_chTable.mono _ _ _ _)
      | (with_reducible exact spec_soSum.mono _ _)
      | (with_reducible exact LeO.refl _)
      | (with_reducible exact LeO.none _)
      | (with_reducible refine LeO.ite ?_ ?_)
      | (with_reducible refine LeO.bind ?_ (fun _ => ?_))
      | exact ih0 _ _ _ _
      | exact spec_chAsked.mono _ _ _
      | exact spec_chChoose.mono _ _ _
      | exact spec_chLow.mono _ _ _
      | exact spec_chMore.mono _ _ _
      | exact spec_chTable.mono _ _ _ _
      | exact spec_soSum.mono _ _
      | exact LeO.none _
      | refine LeO.ite ?_ ?_
      | refine LeO.bind ?_ (fun _ => ?_)
set_option maxHeartbeats 8000000 in
set_option maxRecDepth 100000 in
theorem spec_ChanceAtLeast.calls (k : Nat) (A0 : Option Addr) (c0 : Nat) (l0 : List Int) (a1 : Int) (a2 : Int) (r1 : Int) (r2 : Int) (r3 : Bool) (w : World) (hr0 : Kd.C (Kd.int .i64) w A0 l0.length l0) (hc0 : l0.length ≤ c0) (h : spec_ChanceAtLeast.f k l0 a1 a2 = some (r1, r2, r3)) :
    Calls Try.prog 23 #[.slice A0 l0.length c0, .int .i64 a1, .int .i64 a2] w fun e w' => e = .returned (.tuple #[.int .i64 r1, .int .i64 r2, .bool r3]) ∧ Below w.heap.size w w' := by
  have HR0 := Aside0.mk hr0
  have HC0 := Aside0.mk hc0
  clear hr0 hc0
  have HB := Aside0.mk (Below.refl w.heap.size w)
  have H : ((spec_chAsked.f k l0 a1).bind fun t314 => (if t314 = true then (spec_ChanceAtLeast.j0 k l0 a1 a2 (decide (a2 < 0))) else (spec_ChanceAtLeast.j0 k l0 a1 a2 true))) = some (r1, r2, r3) := h
  clear h
  have HC4 := Aside0.mk H
  clear H
  go_enter Try.func23, Try.ntmps23
  go_upto_region 1 with (fail)
  go_cut [18] (fun v18 wc => ∃ (kq : Nat) (x18_3 : Bool), v18 = .bool x18_3 ∧ Aside0 (spec_ChanceAtLeast.j0 kq l0 a1 a2 x18_3 = some (r1, r2, r3)) ∧ Aside0 (kq ≤ k) ∧ Aside0 (Below w.heap.size w wc))
  case first =>
    have H := HC4.out
    clear HC4
    replace H := Option.bind_eq_some_iff.mp H
    obtain ⟨t314, A50, H⟩ := H
    replace H : (if t314 = true then (spec_ChanceAtLeast.j0 k l0 a1 a2 (decide (a2 < 0))) else (spec_ChanceAtLeast.j0 k l0 a1 a2 true)) = some (r1, r2, r3) := H
    have A5 := Aside0.mk A50
    clear A50
    by_cases c6 : t314 = true
    · subst c6
      have H1 : (spec_ChanceAtLeast.j0 k l0 a1 a2 (decide (a2 < 0))) = some (r1, r2, r3) := by rw [if_pos rfl] at H; exact H
      clear H
      have H := H1
      clear H1
      have H' := Aside0.mk H
      clear H
      go_wp2_with (first | ((with_reducible refine gate_callee (f := 31) rfl ?_); refine goesL_ (some 13) rfl rfl Try.func31 (by kernel_rfl) rfl #[.slice A0 l0.length c0, .int .i64 a1] rfl (by (try simp only [List.map_toArray, List.map_cons, List.map_nil]); first | done | rfl | (simp only [List.length_drop, List.length_take]; rfl)) ?_; (with_reducible refine (spec_chAsked.calls k _ _ l0 a1 true _ ?side1 ?side2 A5.out).mono ?_); (case side1 => repeat (first | exact (Kd.C_below HR0.out HB.out) | (with_reducible refine Kd.C_alloc ?_ _) | (with_reducible refine Kd.C_drewN ?_ _) | (with_reducible refine Kd.C_drew ?_))); (case side2 => exact HC0.out); rintro e w' ⟨rfl, ⟨nd, rfl⟩⟩; refine ⟨_, rfl, ?_⟩))
      go_meet
      case rel => exact ⟨_, (decide (a2 < 0)), (by first | rfl | (simp; done) | (simp [*]; done)), H', ⟨by first | omega | exact Nat.le_refl _⟩, ⟨by repeat (first | (with_reducible first | exact HB.out | apply below_alloc | apply pw_below_drewN | apply below_drew1) | exact HB.out)⟩⟩
    · replace c6 := Bool.eq_false_iff.mpr c6
      subst c6
      have H1 : (spec_ChanceAtLeast.j0 k l0 a1 a2 true) = some (r1, r2, r3) := by rw [if_neg (show ¬ (false = true) by decide)] at H; exact H
      clear H
      have H := H1
      clear H1
      have H' := Aside0.mk H
      clear H
      go_wp2_with (first | ((with_reducible refine gate_callee (f := 31) rfl ?_); refine goesL_ (some 13) rfl rfl Try.func31 (by kernel_rfl) rfl #[.slice A0 l0.length c0, .int .i64 a1] rfl (by (try simp only [List.map_toArray, List.map_cons, List.map_nil]); first | done | rfl | (simp only [List.length_drop, List.length_take]; rfl)) ?_; (with_reducible refine (spec_chAsked.calls k _ _ l0 a1 false _ ?side1 ?side2 A5.out).mono ?_); (case side1 => repeat (first | exact (Kd.C_below HR0.out HB.out) | (with_reducible refine Kd.C_alloc ?_ _) | (with_reducible refine Kd.C_drewN ?_ _) | (with_reducible refine Kd.C_drew ?_))); (case side2 => exact HC0.out); rintro e w' ⟨rfl, ⟨nd, rfl⟩⟩; refine ⟨_, rfl, ?_⟩))
      go_meet
      case rel => exact ⟨_, (true), (by first | rfl | (simp; done) | (simp [*]; done)), H', ⟨by first | omega | exact Nat.le_refl _⟩, ⟨by repeat (first | (with_reducible first | exact HB.out | apply below_alloc | apply pw_below_drewN | apply below_drew1) | exact HB.out)⟩⟩
  case rest =>
    clear HC4
    try clear c2
    try clear p2
    try clear c3
    try clear c6
    obtain ⟨kq, x18_3, rfl, HA, HJ3, HB⟩ := hcut
    cases kq with
    | zero => exact absurd HA.out (by simp [spec_ChanceAtLeast.j0])
    | succ kj3 =>
      have H := HA.out
      clear HA
      simp only [spec_ChanceAtLeast.j0] at H
      by_cases c7 : x18_3 = true
      · subst c7
        have H1 : (some (0, 0, false)) = some (r1, r2, r3) := by rw [if_pos rfl] at H; exact H
        clear H
        have H := H1
        clear H1
        simp only [Option.some.injEq, Prod.mk.injEq] at H
        obtain ⟨rfl, rfl, rfl⟩ := H
        go_wp2
        go_ret3
        exact ⟨by first | rfl | (simp [errW_none, errW_some] <;> rfl) | (simp [*, errW_none, errW_some] <;> rfl), by repeat (first | (with_reducible first | exact HB.out | apply below_alloc | apply pw_below_drewN | apply below_drew1) | exact HB.out)⟩
      · replace c7 := Bool.eq_false_iff.mpr c7
        subst c7
        have H1 : ((spec_chTable.f kj3 l0 a1 112).bind fun t315 => ((spec_chMore.f kj3 t315 a2).bind fun t318 => ((spec_soSum.f kj3 l0).bind fun t319 => ((spec_chChoose.f kj3 t319 a1).bind fun t320 => ((spec_chLow.f kj3 t318 t320).bind fun bt321 => (some (bt321.1, bt321.2, true))))))) = some (r1, r2, r3) := by rw [if_neg (show ¬ (false = true) by decide)] at H; exact H
        clear H
        have H := H1
        clear H1
        replace H := Option.bind_eq_some_iff.mp H
        obtain ⟨t315, A80, H⟩ := H
        replace H : ((spec_chMore.f kj3 t315 a2).bind fun t318 => ((spec_soSum.f kj3 l0).bind fun t319 => ((spec_chChoose.f kj3 t319 a1).bind fun t320 => ((spec_chLow.f kj3 t318 t320).bind fun bt321 => (some (bt321.1, bt321.2, true)))))) = some (r1, r2, r3) := H
        have A8 := Aside0.mk A80
        clear A80
        replace H := Option.bind_eq_some_iff.mp H
        obtain ⟨t318, A90, H⟩ := H
        replace H : ((spec_soSum.f kj3 l0).bind fun t319 => ((spec_chChoose.f kj3 t319 a1).bind fun t320 => ((spec_chLow.f kj3 t318 t320).bind fun bt321 => (some (bt321.1, bt321.2, true))))) = some (r1, r2, r3) := H
        have A9 := Aside0.mk A90
        clear A90
        replace H := Option.bind_eq_some_iff.mp H
        obtain ⟨t319, A100, H⟩ := H
        replace H : ((spec_chChoose.f kj3 t319 a1).bind fun t320 => ((spec_chLow.f kj3 t318 t320).bind fun bt321 => (some (bt321.1, bt321.2, true)))) = some (r1, r2, r3) := H
        have A10 := Aside0.mk A100
        clear A100
        replace H := Option.bind_eq_some_iff.mp H
        obtain ⟨t320, A110, H⟩ := H
        replace H : ((spec_chLow.f kj3 t318 t320).bind fun bt321 => (some (bt321.1, bt321.2, true))) = some (r1, r2, r3) := H
        have A11 := Aside0.mk A110
        clear A110
        replace H := Option.bind_eq_some_iff.mp H
        obtain ⟨⟨t321, t322⟩, A120, H⟩ := H
        replace H : (some (t321, t322, true)) = some (r1, r2, r3) := H
        have A12 := Aside0.mk A120
        clear A120
        simp only [Option.some.injEq, Prod.mk.injEq] at H
        obtain ⟨rfl, rfl, rfl⟩ := H
        go_wp2_with (first | ((with_reducible refine gate_callee (f := 34) rfl ?_); refine goesL_ (some 22) rfl rfl Try.func34 (by kernel_rfl) rfl #[.slice A0 l0.length c0, .int .i64 a1, .int .u8 112] rfl (by (try simp only [List.map_toArray, List.map_cons, List.map_nil]); first | done | rfl | (simp only [List.length_drop, List.length_take]; rfl)) ?_; (with_reducible refine (spec_chTable.calls kj3 _ _ l0 a1 112 t315 _ ?side1 ?side2 A8.out).mono ?_); (case side1 => repeat (first | exact (Kd.C_below HR0.out HB.out) | (with_reducible refine Kd.C_alloc ?_ _) | (with_reducible refine Kd.C_drewN ?_ _) | (with_reducible refine Kd.C_drew ?_))); (case side2 => exact HC0.out); rintro e w13 ⟨v316, rfl, ho0, hb⟩; refine ⟨_, rfl, ?_⟩; have n0_ := Aside0.mk (Kd.Q_lower ho0 (below_size (by repeat (first | (with_reducible first | exact HB.out | apply below_alloc | apply pw_below_drewN | apply below_drew1) | exact HB.out)))); have n1_ := Aside0.mk (below_step (by repeat (first | (with_reducible first | exact HB.out | apply below_alloc | apply pw_below_drewN | apply below_drew1) | exact HB.out)) hb); clear HB; have HO317 := n0_; have HB := n1_; clear n0_ n1_; (try clear hb); (try clear hb2); (try clear hk); (try clear hi); (try clear ho0); obtain ⟨Ao14, co14, eo14, _⟩ := Kd.Q_slice HO317.out; subst eo14) | ((with_reducible refine gate_callee (f := 46) rfl ?_); refine goesL_ (some 24) rfl rfl Try.func46 (by kernel_rfl) rfl #[.slice Ao14 t315.length co14, .int .i64 a2] rfl (by (try simp only [List.map_toArray, List.map_cons, List.map_nil]); first | done | rfl | (simp only [List.length_drop, List.length_take]; rfl)) ?_; (with_reducible refine (spec_chMore.calls kj3 _ _ t315 a2 t318 _ ?side1 ?side2 A9.out).mono ?_); (case side1 => repeat (first | exact (Kd.Q_reads' HO317.out).2.2 | (with_reducible refine Kd.C_alloc ?_ _) | (with_reducible refine Kd.C_drewN ?_ _) | (with_reducible refine Kd.C_drew ?_))); (case side2 => exact (Kd.Q_reads' HO317.out).2.1); rintro e w' ⟨rfl, ⟨nd, rfl⟩⟩; refine ⟨_, rfl, ?_⟩) | ((with_reducible refine gate_callee (f := 36) rfl ?_); refine goesL_ (some 26) rfl rfl Try.func36 (by kernel_rfl) rfl #[.slice A0 l0.length c0] rfl (by (try simp only [List.map_toArray, List.map_cons, List.map_nil]); first | done | rfl | (simp only [List.length_drop, List.length_take]; rfl)) ?_; (with_reducible refine (spec_soSum.calls kj3 _ _ l0 t319 _ ?side1 ?side2 A10.out).mono ?_); (case side1 => repeat (first | exact (Kd.C_below HR0.out (by repeat (first | (with_reducible first | exact HB.out | apply below_alloc | apply pw_below_drewN | apply below_drew1) | exact HB.out))) | (with_reducible refine Kd.C_alloc ?_ _) | (with_reducible refine Kd.C_drewN ?_ _) | (with_reducible refine Kd.C_drew ?_))); (case side2 => exact HC0.out); rintro e w' ⟨rfl, ⟨nd, rfl⟩⟩; refine ⟨_, rfl, ?_⟩) | ((with_reducible refine gate_callee (f := 35) rfl ?_); refine goesL_ (some 28) rfl rfl Try.func35 (by kernel_rfl) rfl #[.int .i64 t319, .int .i64 a1] rfl (by (try simp only [List.map_toArray, List.map_cons, List.map_nil]); first | done | rfl | (simp only [List.length_drop, List.length_take]; rfl)) ?_; (with_reducible refine (spec_chChoose.calls kj3 t319 a1 t320 _ A11.out).mono ?_); rintro e w' ⟨rfl, ⟨nd, rfl⟩⟩; refine ⟨_, rfl, ?_⟩) | ((with_reducible refine gate_callee (f := 32) rfl ?_); refine goesL_ (some 29) rfl rfl Try.func32 (by kernel_rfl) rfl #[.int .i64 t318, .int .i64 t320] rfl (by (try simp only [List.map_toArray, List.map_cons, List.map_nil]); first | done | rfl | (simp only [List.length_drop, List.length_take]; rfl)) ?_; (with_reducible refine (spec_chLow.calls kj3 t318 t320 t321 t322 _ A12.out).mono ?_); rintro e w' ⟨rfl, ⟨nd, rfl⟩⟩; refine ⟨_, rfl, ?_⟩))
        go_ret3
        exact ⟨by first | rfl | (simp [errW_none, errW_some] <;> rfl) | (simp [*, errW_none, errW_some] <;> rfl), by repeat (first | (with_reducible first | exact HB.out | apply below_alloc | apply pw_below_drewN | apply below_drew1) | exact HB.out)⟩

end Go.Proofs.Ytnikblimnjpmpaa.X

/- ==== PlChance ==== -/
/- Plain laws, no program in sight: ChanceOfPairs, ChanceAtLeast of both. -/
namespace Go.Proofs.Ytnikblimnjpmpaa.X
open Go.RowKit Go.Proofs.YtnikblimnjpmpaaW.PrintWords Go.Proofs.YtnikblimnjpmpaaW.PrintLast Go.Proofs.YtnikblimnjpmpaaW.PrintMore

theorem fitS_cg (fits : Int → Bool) (F : Nat → Int) : ∀ (t : List Int) (i : Nat) (s : Int), i + t.length ≤ 1000 → (∀ j, j < t.length → rd t (j : Int) = F (i + j)) → InR s →
    InR (fitS fits t (i : Int) s) ∧ Cg (fitS fits t (i : Int) s) (s + sumN t.length fun j => (if fits ((i + j : Nat) : Int) = true then F (i + j) else 0))
  | [], i, s, _, _, hs => by simp only [fitS, List.length_nil, sumN, Int.add_zero]; exact ⟨hs, Cg.refl _⟩
  | x :: t, i, s, hl, hF, hs => by
    have hx : x = F i := by have := hF 0 (by simp); simpa [rd] using this
    simp only [List.length_cons] at hl
    have hw : wrap64 ((i : Int) + 1) = ((i + 1 : Nat) : Int) := by unfold wrap64; omega
    have hF2 : ∀ j, j < t.length → rd t (j : Int) = F (i + 1 + j) := fun j hj => by
      have := hF (j + 1) (by simp; omega)
      rw [show i + 1 + j = i + (j + 1) by omega, ← this]
      simp [rd]
    have hsum : sumN (t.length + 1) (fun j => (if fits ((i + j : Nat) : Int) = true then F (i + j) else 0)) = (if fits (i : Int) = true then F i else 0) + sumN t.length (fun j => (if fits ((i + 1 + j : Nat) : Int) = true then F (i + 1 + j) else 0)) := by
      rw [Nat.add_comm t.length 1, sumN_split]
      simp only [sumN, Nat.add_zero, Int.zero_add]
      congr 1
      exact sumN_congr fun j _ => by rw [show i + (1 + j) = i + 1 + j by omega]
    simp only [fitS, List.length_cons]
    rw [hw, hsum]
    by_cases hf : fits (i : Int) = true
    · rw [if_pos hf, if_pos hf]
      obtain ⟨g1, g2⟩ := fitS_cg fits F t (i + 1) (wrap64 (s + x)) (by omega) hF2 (InR.wrap _)
      refine ⟨g1, g2.trans ?_⟩
      rw [← hx, ← Int.add_assoc]
      exact (Cg.wrap _).add (Cg.refl _)
    · rw [if_neg hf, if_neg hf]
      obtain ⟨g1, g2⟩ := fitS_cg fits F t (i + 1) s (by omega) hF2 hs
      exact ⟨g1, by rw [Int.zero_add]; exact g2⟩
/-- What the program adds up. -/
def addF (fits : Int → Bool) (ns : List Nat) (K : Nat) : Int := sumN (K + 1) fun p => (if fits ((p : Nat) : Int) = true then 1 else 0) * wF ns K p
section
variable {l : List Int} {a : Int} {ns : List Nat} {K : Nat}
theorem addF_bd (h : Asked l a ns K) (fits : Int → Bool) : 0 ≤ addF fits ns K ∧ addF fits ns K ≤ 45079976738816 := by
  have hK := h.le
  have h40 := h.s40
  have := sumN_small (n := K + 1) (f := fun p => (if fits ((p : Nat) : Int) = true then 1 else 0) * wF ns K p) (B := 1099511627776) (fun p _ => by
    have := wF_bd h p
    split <;> omega)
  unfold addF
  omega
theorem fitS_is (h : Asked l a ns K) (fits : Int → Bool) : fitS fits (numL (pairL ns) (wF ns K)) 0 0 = addF fits ns K := by
  have hP := pairL_le ns
  have h40 := h.s40
  obtain ⟨g1, g2⟩ := fitS_cg fits (wF ns K) (numL (pairL ns) (wF ns K)) 0 0 (by rw [num_len]; omega) (fun j hj => by rw [num_rd _ _ (by rw [num_len] at hj; omega), Nat.zero_add]) (by unfold InR; omega)
  have hb := addF_bd h fits
  refine g2.trans (Cg.of ?_) |>.eq g1 (by unfold InR; omega)
  rw [num_len, Int.zero_add]
  unfold addF
  rw [← sum_same ns K fun p => (if fits ((p : Nat) : Int) = true then 1 else 0)]
  exact sumN_congr fun p _ => by rw [Nat.zero_add]; split <;> omega
theorem chanceF_ev (h : Asked l a ns K) (hq : Ev (fun k => impl_isNumber.f k l a) true) (fits : Int → Bool) {a2 : Int} (h2 : ¬ a2 < 0) {p q : Int} (hf : Ev (fun k => impl_fraction.f k (addF fits ns K) (wB (sumL ns) K)) (p, q, true)) : Ev (fun k => chanceF fits k l a a2) (p, q, true) := by
  obtain ⟨c1, c2, c3⟩ := cho_is h
  obtain ⟨d1, _, _, _⟩ := den_is h
  have hle := h.le
  have ha := h.ha
  refine Ev.bind hq (Ev.congr (f := fun k => (impl_total.f k l).bind fun u => (impl_choose.f k u a).bind fun v => (impl_fraction.f k (addF fits ns K) v).bind fun b => some (b.1, b.2.1, b.2.2)) (fun k => ?_) (Ev.bind h.tot (Ev.bind d1 (Ev.bind hf (Ev.now _)))))
  rw [if_pos rfl, if_neg h2, c1]
  simp only [Option.bind_some]
  rw [if_pos (by omega), if_pos (by omega), ha, c3, fitS_is h]
theorem chanceF_no {fits : Int → Bool} {a2 : Int} (hq : Ev (fun k => impl_isNumber.f k l a) false) : Ev (fun k => chanceF fits k l a a2) (0, 0, false) :=
  Ev.bind hq (Ev.congr (f := fun _ => some (0, 0, false)) (fun k => by rw [if_neg (by decide)]) (Ev.now _))
theorem chanceF_neg {fits : Int → Bool} {a2 : Int} (hq : Ev (fun k => impl_isNumber.f k l a) true) (h : a2 < 0) : Ev (fun k => chanceF fits k l a a2) (0, 0, false) :=
  Ev.bind hq (Ev.congr (f := fun _ => some (0, 0, false)) (fun k => by rw [if_pos rfl, if_pos h]) (Ev.now _))
/-- Just p. -/
theorem add_just (C : Nat) : addF (fun p => decide (p = (C : Int))) ns K = wF ns K C := by
  unfold addF
  by_cases hC : C ≤ K
  · rw [sumN_at C (by omega) (fun d _ hne => by rw [if_neg (by simp; omega)]; simp), if_pos (by simp), Int.one_mul]
  · rw [sumN_zero (fun d hd => by rw [if_neg (by simp; omega)]; simp), wF_high C (.inr (by omega))]
/-- The reference's sum from one on. -/
theorem chMore_ev (h : Asked l a ns K) {tab : List Int} (t1 : tab.length = K + 1) (t2 : ∀ p : Nat, p ≤ K → rd tab (p : Int) = wF ns K p) (C : Nat) : Ev (fun k => spec_chMore.f k tab (C : Int)) (addF (fun p => decide (p ≥ (C : Int))) ns K) := by
  have hK := h.le
  have h40 := h.s40
  have loop : ∀ (d : Nat) (acc : Int), d ≤ K + 1 → InR acc → Cg acc (addF (fun p => decide (p ≥ (C : Int))) ns K - sumN d fun p => (if decide (((p : Nat) : Int) ≥ (C : Int)) = true then 1 else 0) * wF ns K p) →
      Ev (fun k => spec_chMore.l0 k tab (C : Int) acc ((d : Int) - 1)) (addF (fun p => decide (p ≥ (C : Int))) ns K) := by
    have hb := addF_bd h (fun p => decide (p ≥ (C : Int)))
    intro d
    induction d with
    | zero =>
      intro acc _ h1 h2
      have : acc = addF (fun p => decide (p ≥ (C : Int))) ns K := h2.eq h1 (by simp only [sumN]; unfold InR; omega) |>.trans (by simp [sumN])
      subst this
      refine Ev.step (f := fun _ => some (addF (fun p => decide (p ≥ (C : Int))) ns K)) (fun k => ?_) (Ev.now _)
      simp only [spec_chMore.l0]
      rw [if_neg (by omega)]
    | succ d ih =>
      intro acc hd h1 h2
      have e : ((d + 1 : Nat) : Int) - 1 = (d : Int) := by omega
      rw [e]
      by_cases hC : (d : Int) ≥ (C : Int)
      · have hw : wrap64 ((d : Int) - 1) = (d : Int) - 1 := by unfold wrap64; omega
        refine Ev.step (fun k => ?_) (ih (wrap64 (acc + rd tab (d : Int))) (by omega) (InR.wrap _) ((Cg.wrap _).trans ?_))
        · simp only [spec_chMore.l0]
          rw [if_pos (by omega), if_pos hC, if_pos (by omega), if_pos (by omega), hw]
        · rw [t2 d (by omega)]
          simp only [sumN] at h2
          rw [if_pos (by simpa using hC), Int.one_mul] at h2
          have := h2.add (Cg.refl (wF ns K d))
          refine this.trans (Cg.of ?_)
          omega
      · have hz : sumN (d + 1) (fun p => (if decide (((p : Nat) : Int) ≥ (C : Int)) = true then 1 else 0) * wF ns K p) = 0 := sumN_zero fun p hp => by rw [if_neg (by simp; omega)]; simp
        rw [hz, Int.sub_zero] at h2
        have : acc = addF (fun p => decide (p ≥ (C : Int))) ns K := h2.eq h1 (by unfold InR; omega)
        subst this
        refine Ev.step (f := fun _ => some (addF (fun p => decide (p ≥ (C : Int))) ns K)) (fun k => ?_) (Ev.now _)
        simp only [spec_chMore.l0]
        rw [if_pos (by omega), if_neg hC]
  have hw : wrap64 ((tab.length : Int) - 1) = ((K + 1 : Nat) : Int) - 1 := by rw [t1]; unfold wrap64; omega
  refine Ev.congr (fun k => ?_) (loop (K + 1) 0 (Nat.le_refl _) (by unfold InR; omega) (Cg.of ?_))
  · simp only [spec_chMore.f]
    rw [hw]
  · have : addF (fun p => decide (p ≥ (C : Int))) ns K = sumN (K + 1) fun p => (if decide (((p : Nat) : Int) ≥ (C : Int)) = true then 1 else 0) * wF ns K p := rfl
    rw [this]
    omega
end
theorem ChanceOfPairs_both (l : List Int) (a a2 : Int) (hn : l.length ≤ 1048576) : ∃ r, Ev (fun k => spec_ChanceOfPairs.f k l a a2) r ∧ Ev (fun k => impl_ChanceOfPairs.f k l a a2) r := by
  obtain ⟨e1, e2⟩ := asked_ev l a hn
  cases h : asked l a with
  | false =>
    rw [h] at e1 e2
    exact ⟨(0, 0, false), Ev.bind e2 (Ev.congr (f := fun k => spec_ChanceOfPairs.j0 k l a a2 true) (fun k => by rw [if_neg (by decide)]) (Ev.step (f := fun _ => some (0, 0, false)) (fun k => by simp [spec_ChanceOfPairs.j0]) (Ev.now _))), chanceF_no e1⟩
  | true =>
    rw [h] at e1 e2
    by_cases hneg : a2 < 0
    · exact ⟨(0, 0, false), Ev.bind e2 (Ev.congr (f := fun k => spec_ChanceOfPairs.j0 k l a a2 true) (fun k => by rw [if_pos rfl, decide_eq_true hneg]) (Ev.step (f := fun _ => some (0, 0, false)) (fun k => by simp [spec_ChanceOfPairs.j0]) (Ev.now _))), chanceF_neg e1 hneg⟩
    · obtain ⟨ns, K, hA⟩ := asked_is h
      obtain ⟨tab, t1, t2, t3⟩ := tab_is hA
      obtain ⟨d1, d2, d3, d4⟩ := den_is hA
      obtain ⟨C, rfl⟩ := Int.eq_ofNat_of_zero_le (show 0 ≤ a2 by omega)
      have hb := wF_bd hA C
      obtain ⟨p, q, p1, p2⟩ := frac_ev (wF ns K C) (wB (sumL ns) K) hb.1 d3
      have hof : spec_chOf.f tab (C : Int) = some (wF ns K C) := by
        unfold spec_chOf.f
        by_cases c1 : (C : Int) ≥ (tab.length : Int)
        · rw [if_pos c1, wF_high C (.inr (by omega))]
        · rw [if_neg c1, if_pos (by omega), if_pos (by omega), t2 C (by omega)]
      refine ⟨(p, q, true), Ev.bind e2 (Ev.congr (f := fun k => spec_ChanceOfPairs.j0 k l a (C : Int) false) (fun k => by rw [if_pos rfl, decide_eq_false hneg]) (Ev.step (f := fun k => (spec_chTable.f k l a 112).bind fun t => (spec_chOf.f t (C : Int)).bind fun t136 => (spec_soSum.f k l).bind fun t137 => (spec_chChoose.f k t137 a).bind fun t138 => (spec_chLow.f k t136 t138).bind fun b => some (b.1, b.2, true)) (fun k => by simp only [spec_ChanceOfPairs.j0]; rw [if_neg (by decide)]) (Ev.bind t3 (Ev.congr (f := fun k => (spec_soSum.f k l).bind fun t137 => (spec_chChoose.f k t137 a).bind fun t138 => (spec_chLow.f k (wF ns K C) t138).bind fun b => some (b.1, b.2, true)) (fun k => by rw [hof]; rfl) (Ev.bind hA.sum (Ev.bind d2 (Ev.bind p1 (Ev.now _)))))))), chanceF_ev hA e1 _ hneg (by rw [add_just]; exact p2)⟩
theorem ChanceAtLeast_both (l : List Int) (a a2 : Int) (hn : l.length ≤ 1048576) : ∃ r, Ev (fun k => spec_ChanceAtLeast.f k l a a2) r ∧ Ev (fun k => impl_ChanceAtLeast.f k l a a2) r := by
  obtain ⟨e1, e2⟩ := asked_ev l a hn
  cases h : asked l a with
  | false =>
    rw [h] at e1 e2
    exact ⟨(0, 0, false), Ev.bind e2 (Ev.congr (f := fun k => spec_ChanceAtLeast.j0 k l a a2 true) (fun k => by rw [if_neg (by decide)]) (Ev.step (f := fun _ => some (0, 0, false)) (fun k => by simp [spec_ChanceAtLeast.j0]) (Ev.now _))), chanceF_no e1⟩
  | true =>
    rw [h] at e1 e2
    by_cases hneg : a2 < 0
    · exact ⟨(0, 0, false), Ev.bind e2 (Ev.congr (f := fun k => spec_ChanceAtLeast.j0 k l a a2 true) (fun k => by rw [if_pos rfl, decide_eq_true hneg]) (Ev.step (f := fun _ => some (0, 0, false)) (fun k => by simp [spec_ChanceAtLeast.j0]) (Ev.now _))), chanceF_neg e1 hneg⟩
    · obtain ⟨ns, K, hA⟩ := asked_is h
      obtain ⟨tab, t1, t2, t3⟩ := tab_is hA
      obtain ⟨d1, d2, d3, d4⟩ := den_is hA
      obtain ⟨C, rfl⟩ := Int.eq_ofNat_of_zero_le (show 0 ≤ a2 by omega)
      have hb := addF_bd hA (fun p => decide (p ≥ (C : Int)))
      obtain ⟨p, q, p1, p2⟩ := frac_ev (addF (fun p => decide (p ≥ (C : Int))) ns K) (wB (sumL ns) K) hb.1 d3
      exact ⟨(p, q, true), Ev.bind e2 (Ev.congr (f := fun k => spec_ChanceAtLeast.j0 k l a (C : Int) false) (fun k => by rw [if_pos rfl, decide_eq_false hneg]) (Ev.step (f := fun k => (spec_chTable.f k l a 112).bind fun t => (spec_chMore.f k t (C : Int)).bind fun t136 => (spec_soSum.f k l).bind fun t137 => (spec_chChoose.f k t137 a).bind fun t138 => (spec_chLow.f k t136 t138).bind fun b => some (b.1, b.2, true)) (fun k => by simp only [spec_ChanceAtLeast.j0]; rw [if_neg (by decide)]) (Ev.bind t3 (Ev.bind (chMore_ev hA t1 t2 C) (Ev.bind hA.sum (Ev.bind d2 (Ev.bind p1 (Ev.now _)))))))), chanceF_ev hA e1 _ hneg p2⟩
end Go.Proofs.Ytnikblimnjpmpaa.X

/- ==== PlTwoAlike ==== -/
/- Plain laws, no program in sight: ChanceTwoAlike of both. -/
namespace Go.Proofs.Ytnikblimnjpmpaa.X
open Go.RowKit Go.Proofs.YtnikblimnjpmpaaW.PrintWords Go.Proofs.YtnikblimnjpmpaaW.PrintLast Go.Proofs.YtnikblimnjpmpaaW.PrintMore

theorem ChanceTwoAlike_both (l : List Int) (hn : l.length ≤ 1048576) : ∃ r, Ev (fun k => spec_ChanceTwoAlike.f k l) r ∧ Ev (fun k => impl_ChanceTwoAlike.f k l) r := by
  obtain ⟨e1, e2⟩ := asked_ev l 2 hn
  cases h : asked l 2 with
  | false =>
    rw [h] at e1 e2
    exact ⟨(0, 0, false), Ev.bind e2 (Ev.congr (f := fun _ => some (0, 0, false)) (fun k => by rw [if_neg (by decide)]) (Ev.now _)), Ev.bind e1 (Ev.congr (f := fun _ => some (0, 0, false)) (fun k => by rw [if_neg (by decide)]) (Ev.now _))⟩
  | true =>
    rw [h] at e1 e2
    obtain ⟨ns, K, hA⟩ := asked_is h
    obtain ⟨tab, t1, t2, t3⟩ := tab_is hA
    obtain ⟨d1, d2, d3, d4⟩ := den_is hA
    have hK := hA.ha
    obtain rfl : K = 2 := by omega
    have hb := wF_bd hA 1
    have hadd : addF (fun p => decide (p ≥ (1 : Int))) ns 2 = wF ns 2 1 := by
      have hz : wF ns 2 2 = 0 := by
        unfold wF
        exact T_share 2 (fun d => by unfold half; omega) (by omega)
      simp [addF, sumN, hz]
    obtain ⟨p, q, p1, p2⟩ := frac_ev (wF ns 2 1) (wB (sumL ns) 2) hb.1 d3
    have hr1 : rd tab 1 = wF ns 2 1 := t2 1 (by omega)
    refine ⟨(p, q, true), Ev.bind e2 (Ev.congr (f := fun k => (spec_chTable.f k l 2 112).bind fun t => if 1 < (t.length : Int) then ((spec_soSum.f k l).bind fun t298 => ((spec_chChoose.f k t298 2).bind fun t299 => ((spec_chLow.f k (rd t 1) t299).bind fun b => some (b.1, b.2, true)))) else none) (fun k => by rw [if_pos rfl]) (Ev.bind t3 (Ev.congr (f := fun k => (spec_soSum.f k l).bind fun t298 => (spec_chChoose.f k t298 2).bind fun t299 => (spec_chLow.f k (wF ns 2 1) t299).bind fun b => some (b.1, b.2, true)) (fun k => ?_) (Ev.bind hA.sum (Ev.bind d2 (Ev.bind p1 (Ev.now _))))))), Ev.bind e1 (Ev.congr (f := fun k => (impl_ChanceAtLeast.f k l 2 1).bind fun b => some (b.1, b.2.1, b.2.2)) (fun k => by rw [if_pos rfl]) (Ev.bind (show Ev (fun k => impl_ChanceAtLeast.f k l 2 1) (p, q, true) from chanceF_ev hA e1 _ (by omega) (by rw [hadd]; exact p2)) (Ev.now _)))⟩
    rw [if_pos (by omega), hr1]
end Go.Proofs.Ytnikblimnjpmpaa.X
