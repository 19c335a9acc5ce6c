/- Texts of this seat in one: PlSum, PlBin, PlTable, PlTo, PlSocks, PlFrac, PlColours. -/
import Derived.Test.YtnikblimnjpmpaaX0
import Derived.Test.YtnikblimnjpmpaaXimplchoose
import Derived.Test.YtnikblimnjpmpaaXspecchChoose
import Derived.Test.YtnikblimnjpmpaaXspecchTable
import Derived.Test.YtnikblimnjpmpaaXlawstoIntS
import Derived.Test.YtnikblimnjpmpaaXlawseqIntS
import Derived.Test.YtnikblimnjpmpaaHareWithin
import Derived.Test.YtnikblimnjpmpaaXimplisNumber
import Derived.Test.YtnikblimnjpmpaaXspecchAsked
import Derived.Test.YtnikblimnjpmpaaXspecchLow
import Derived.Test.YtnikblimnjpmpaaXimplfraction
import Derived.Test.YtnikblimnjpmpaaXimplChanceOfColours
import Derived.Test.YtnikblimnjpmpaaXspecChanceOfColours
/- ==== PlSum ==== -/
namespace Go.Proofs.Ytnikblimnjpmpaa.X

def sumN : Nat → (Nat → Int) → Int
  | 0, _ => 0
  | n + 1, f => sumN n f + f n
theorem sumN_congr {n : Nat} {f g : Nat → Int} (h : ∀ d, d < n → f d = g d) : sumN n f = sumN n g := by
  induction n with
  | zero => rfl
  | succ n ih => rw [sumN, sumN, ih fun d hd => h d (by omega), h n (by omega)]
theorem sumN_zero {n : Nat} {f : Nat → Int} (h : ∀ d, d < n → f d = 0) : sumN n f = 0 := by
  induction n with
  | zero => rfl
  | succ n ih => rw [sumN, ih fun d hd => h d (by omega), h n (by omega)]; rfl
theorem sumN_add (n : Nat) (f g : Nat → Int) : sumN n (fun d => f d + g d) = sumN n f + sumN n g := by
  induction n with
  | zero => rfl
  | succ n ih => simp only [sumN, ih]; omega
theorem sumN_mul (n : Nat) (c : Int) (f : Nat → Int) : sumN n (fun d => c * f d) = c * sumN n f := by
  induction n with
  | zero => simp [sumN]
  | succ n ih => simp only [sumN, ih, Int.mul_add]
theorem sumN_swap (n m : Nat) (f : Nat → Nat → Int) : sumN n (fun d => sumN m (f d)) = sumN m (fun e => sumN n fun d => f d e) := by
  induction n with
  | zero => exact (sumN_zero fun _ _ => rfl).symm
  | succ n ih => simp only [sumN, ih]; rw [← sumN_add]
theorem sumN_nonneg {n : Nat} {f : Nat → Int} (h : ∀ d, d < n → 0 ≤ f d) : 0 ≤ sumN n f := by
  induction n with
  | zero => exact Int.le_refl _
  | succ n ih => have := ih fun d hd => h d (by omega); have := h n (by omega); simp only [sumN]; omega
theorem sumN_le {n : Nat} {f g : Nat → Int} (h : ∀ d, d < n → f d ≤ g d) : sumN n f ≤ sumN n g := by
  induction n with
  | zero => exact Int.le_refl _
  | succ n ih => have := ih fun d hd => h d (by omega); have := h n (by omega); simp only [sumN]; omega
theorem sumN_split (n m : Nat) (f : Nat → Int) : sumN (n + m) f = sumN n f + sumN m (fun d => f (n + d)) := by
  induction m with
  | zero => simp [sumN]
  | succ m ih => rw [← Nat.add_assoc]; simp only [sumN, ih]; omega
/-- Only the place j counts. -/
theorem sumN_at {n : Nat} {f : Nat → Int} (j : Nat) (hj : j < n) (h : ∀ d, d < n → d ≠ j → f d = 0) : sumN n f = f j := by
  induction n with
  | zero => omega
  | succ n ih =>
    simp only [sumN]
    by_cases e : j = n
    · subst e
      rw [sumN_zero fun d hd => h d (by omega) (by omega)]
      omega
    · rw [ih (by omega) fun d hd hne => h d (by omega) hne, h n (by omega) (by omega)]
      omega
theorem sumN_longer {n m : Nat} {f : Nat → Int} (hnm : n ≤ m) (h : ∀ d, n ≤ d → d < m → f d = 0) : sumN m f = sumN n f := by
  obtain ⟨e, rfl⟩ := Nat.exists_eq_add_of_le hnm
  rw [sumN_split, sumN_zero (fun d hd => h (n + d) (by omega) (by omega))]
  omega

/-- In how many ways d of n can be chosen. -/
def bin : Nat → Nat → Nat
  | _, 0 => 1
  | 0, _ + 1 => 0
  | n + 1, k + 1 => bin n k + bin n (k + 1)
theorem bin_big : ∀ {n k : Nat}, n < k → bin n k = 0
  | 0, k + 1, _ => rfl
  | n + 1, k + 1, h => by rw [bin, bin_big (show n < k by omega), bin_big (show n < k + 1 by omega)]

/-- In how many ways k socks with p of something (m of each number of a colour) can be drawn: each number of a colour weighed. -/
def T (w : Nat → Nat → Int) (m : Nat → Nat) : List Nat → Int → Int → Int
  | [], k, p => if k = 0 ∧ p = 0 then 1 else 0
  | n :: r, k, p => sumN (n + 1) fun d => w n d * T w m r (k - d) (p - m d)
variable {w : Nat → Nat → Int} {m : Nat → Nat}
theorem T_neg : ∀ {l : List Nat} {k p : Int}, k < 0 ∨ p < 0 → T w m l k p = 0
  | [], k, p, h => by simp only [T]; rw [if_neg (by omega)]
  | n :: r, k, p, h => by
    simp only [T]
    exact sumN_zero fun d _ => by rw [T_neg (l := r) (by omega)]; simp
theorem T_snoc (n : Nat) : ∀ (l : List Nat) (k p : Int), T w m (l ++ [n]) k p = sumN (n + 1) fun d => w n d * T w m l (k - d) (p - m d)
  | [], k, p => rfl
  | a :: l, k, p => by
    simp only [List.cons_append, T]
    have h1 : ∀ d : Nat, T w m (l ++ [n]) (k - d) (p - m d) = sumN (n + 1) fun e => w n e * T w m l (k - d - e) (p - m d - m e) := fun d => T_snoc n l _ _
    simp only [h1, ← sumN_mul]
    rw [sumN_swap]
    refine sumN_congr fun e _ => sumN_congr fun d _ => ?_
    rw [show k - (d : Int) - (e : Int) = k - (e : Int) - (d : Int) by omega, show p - (m d : Int) - (m e : Int) = p - (m e : Int) - (m d : Int) by omega]
    rw [← Int.mul_assoc, ← Int.mul_assoc, Int.mul_comm (w a d)]

/-- More than there can be: none. c: how many of something so many socks have at most. -/
theorem T_above : ∀ {l : List Nat} {k p : Int}, (l.foldr (fun n s => n + s) 0 : Nat) < k → T w m l k p = 0
  | [], k, p, h => by simp only [T]; rw [if_neg (by simp at h; omega)]
  | n :: r, k, p, h => by
    simp only [T]
    exact sumN_zero fun d hd => by rw [T_above (l := r) (by simp at h; omega)]; simp
theorem T_high (M : Nat → Nat) (hM : ∀ n d, d ≤ n → m d ≤ M n) : ∀ {l : List Nat} {k p : Int}, (l.foldr (fun n s => M n + s) 0 : Nat) < p → T w m l k p = 0
  | [], k, p, h => by simp only [T]; rw [if_neg (by simp at h; omega)]
  | n :: r, k, p, h => by
    simp only [T]
    exact sumN_zero fun d hd => by have := hM n d (by omega); rw [T_high M hM (l := r) (by simp at h; omega)]; simp
/-- Of k socks at most a share has it: 'a * m d ≤ d'. -/
theorem T_share (a : Nat) (ha : ∀ d, a * m d ≤ d) : ∀ {l : List Nat} {k p : Int}, k < (a : Int) * p → T w m l k p = 0
  | [], k, p, h => by
    simp only [T]; rw [if_neg (by rintro ⟨rfl, rfl⟩; simp at h)]
  | n :: r, k, p, h => by
    simp only [T]
    refine sumN_zero fun d hd => ?_
    have h1 := ha d
    rw [T_share a ha (l := r) (by rw [Int.mul_sub]; have : ((a * m d : Nat) : Int) = (a : Int) * (m d : Int) := by push_cast; rfl
                                  omega)]
    simp
theorem T_nonneg (hw : ∀ n d, 0 ≤ w n d) : ∀ {l : List Nat} {k p : Int}, 0 ≤ T w m l k p
  | [], k, p => by simp only [T]; split <;> decide
  | n :: r, k, p => by
    simp only [T]
    exact sumN_nonneg fun d _ => Int.mul_nonneg (hw n d) (T_nonneg hw)
/-- A bound: B of each colour, multiplied. -/
def prodB (B : Nat → Int) : List Nat → Int
  | [] => 1
  | n :: r => B n * prodB B r
theorem T_le (hw : ∀ n d, 0 ≤ w n d) (B : Nat → Int) : ∀ {l : List Nat} {k p : Int}, (∀ n ∈ l, sumN (n + 1) (w n) ≤ B n) → (∀ n ∈ l, 0 ≤ B n) → T w m l k p ≤ prodB B l
  | [], k, p, _, _ => by simp only [T, prodB]; split <;> decide
  | n :: r, k, p, h, h0 => by
    simp only [T, prodB]
    have hr : ∀ k p, T w m r k p ≤ prodB B r := fun k p => T_le hw B (fun x hx => h x (List.mem_cons_of_mem _ hx)) (fun x hx => h0 x (List.mem_cons_of_mem _ hx))
    have h1 : sumN (n + 1) (fun d => w n d * T w m r (k - d) (p - m d)) ≤ sumN (n + 1) (fun d => prodB B r * w n d) := sumN_le fun d _ => by
      rw [Int.mul_comm (prodB B r)]
      exact Int.mul_le_mul_of_nonneg_left (hr _ _) (hw n d)
    rw [sumN_mul] at h1
    have hp : 0 ≤ prodB B r := Int.le_trans (T_nonneg hw (w := w) (m := m) (l := r) (k := 0) (p := 0)) (hr 0 0)
    refine Int.le_trans h1 ?_
    rw [Int.mul_comm]
    exact Int.mul_le_mul_of_nonneg_right (h n (List.mem_cons_self ..)) hp
end Go.Proofs.Ytnikblimnjpmpaa.X

/- ==== PlBin ==== -/
namespace Go.Proofs.Ytnikblimnjpmpaa.X
open Go.RowKit Go.Proofs.YtnikblimnjpmpaaW.PrintWords Go.Proofs.YtnikblimnjpmpaaW.PrintLast Go.Proofs.YtnikblimnjpmpaaW.PrintMore

/-- In how many ways d of n can be chosen, n ≤ 40. -/
def wB (n d : Nat) : Int := if n ≤ 40 ∧ d ≤ n then (impl_choose.f 100 (n : Int) (d : Int)).getD 0 else 0
def chkB (n d : Nat) : Bool := decide (impl_choose.f 100 (n : Int) (d : Int) = some (wB n d)) && (decide (spec_chChoose.f 100 (n : Int) (d : Int) = some (wB n d)) && (decide (1 ≤ wB n d) && decide (wB n d ≤ 1099511627776)))
set_option maxRecDepth 100000 in
theorem chkB_all : (List.range 41).all (fun n => (List.range (n + 1)).all fun d => chkB n d) = true := by decide +kernel
theorem chkB_at {n d : Nat} (hn : n ≤ 40) (hd : d ≤ n) : impl_choose.f 100 (n : Int) (d : Int) = some (wB n d) ∧ spec_chChoose.f 100 (n : Int) (d : Int) = some (wB n d) ∧ 1 ≤ wB n d ∧ wB n d ≤ 1099511627776 := by
  have h1 := List.all_eq_true.1 chkB_all n (by simp; omega)
  have h2 := List.all_eq_true.1 h1 d (by simp; omega)
  simpa [chkB] using h2
theorem choose_ev {n d : Nat} (hn : n ≤ 40) (hd : d ≤ n) : Ev (fun k => impl_choose.f k (n : Int) (d : Int)) (wB n d) := Ev.of (impl_choose.mono _ _) (chkB_at hn hd).1
theorem chChoose_ev {n d : Nat} (hn : n ≤ 40) (hd : d ≤ n) : Ev (fun k => spec_chChoose.f k (n : Int) (d : Int)) (wB n d) := Ev.of (spec_chChoose.mono _ _) (chkB_at hn hd).2.1
theorem wB_nonneg (n d : Nat) : 0 ≤ wB n d := by
  by_cases h : n ≤ 40 ∧ d ≤ n
  · have := (chkB_at h.1 h.2).2.2.1; omega
  · unfold wB; rw [if_neg h]; exact Int.le_refl _
theorem wB_pos {n d : Nat} (hn : n ≤ 40) (hd : d ≤ n) : 1 ≤ wB n d := (chkB_at hn hd).2.2.1
theorem wB_le (n d : Nat) : wB n d ≤ 1099511627776 := by
  by_cases h : n ≤ 40 ∧ d ≤ n
  · exact (chkB_at h.1 h.2).2.2.2
  · unfold wB; rw [if_neg h]; decide
set_option maxRecDepth 100000 in
theorem sumB_all : (List.range 21).all (fun n => decide (sumN (n + 1) (wB n) ≤ 2 ^ n)) = true := by decide +kernel
theorem sumB_le {n : Nat} (h : n ≤ 20) : sumN (n + 1) (wB n) ≤ 2 ^ n := by
  have := List.all_eq_true.1 sumB_all n (by simp; omega)
  simpa using this
def sumL (l : List Nat) : Nat := l.foldr (fun n s => n + s) 0
theorem sumL_cons (n : Nat) (l : List Nat) : sumL (n :: l) = n + sumL l := rfl
theorem prod_pow : ∀ l : List Nat, prodB (fun n => 2 ^ n) l = 2 ^ sumL l
  | [] => rfl
  | n :: l => by simp only [prodB, prod_pow l, sumL_cons, Int.pow_add]
/-- Few socks: no more than 2^40 ways. -/
theorem T_bound {m : Nat → Nat} {l : List Nat} (h20 : ∀ n ∈ l, n ≤ 20) (h40 : sumL l ≤ 40) (k p : Int) : 0 ≤ T wB m l k p ∧ T wB m l k p ≤ 1099511627776 := by
  refine ⟨T_nonneg wB_nonneg, Int.le_trans (T_le wB_nonneg (fun n => 2 ^ n) (fun n hn => sumB_le (h20 n hn)) (fun n _ => Int.le_of_lt (Int.pow_pos (by decide)))) ?_⟩
  rw [prod_pow]
  have h1 : (2 : Nat) ^ sumL l ≤ 2 ^ 40 := Nat.pow_le_pow_right (by decide) h40
  have h2 : ((2 ^ sumL l : Nat) : Int) ≤ ((2 ^ 40 : Nat) : Int) := Int.ofNat_le.2 h1
  rw [Int.natCast_pow] at h2
  exact h2

/-! ### up to multiples of 2^64 -/
def Cg (a b : Int) : Prop := ∃ q : Int, a = b + 18446744073709551616 * q
theorem Cg.refl (a : Int) : Cg a a := ⟨0, by omega⟩
theorem Cg.of {a b : Int} (h : a = b) : Cg a b := ⟨0, by omega⟩
theorem Cg.symm {a b : Int} : Cg a b → Cg b a := fun ⟨q, h⟩ => ⟨-q, by omega⟩
theorem Cg.trans {a b c : Int} : Cg a b → Cg b c → Cg a c := fun ⟨q, h⟩ ⟨r, k⟩ => ⟨q + r, by omega⟩
theorem Cg.add {a b c d : Int} : Cg a b → Cg c d → Cg (a + c) (b + d) := fun ⟨q, h⟩ ⟨r, k⟩ => ⟨q + r, by omega⟩
theorem Cg.sub {a b c d : Int} : Cg a b → Cg c d → Cg (a - c) (b - d) := fun ⟨q, h⟩ ⟨r, k⟩ => ⟨q - r, by omega⟩
theorem Cg.mulr {a b : Int} (c : Int) : Cg a b → Cg (a * c) (b * c) := fun ⟨q, h⟩ => ⟨q * c, by rw [h, Int.add_mul, Int.mul_assoc]⟩
theorem Cg.mull {a b : Int} (c : Int) (h : Cg a b) : Cg (c * a) (c * b) := by rw [Int.mul_comm c a, Int.mul_comm c b]; exact h.mulr c
theorem Cg.mul {a b c d : Int} (h : Cg a b) (k : Cg c d) : Cg (a * c) (b * d) := (h.mulr c).trans (k.mull b)
theorem Cg.wrap (a : Int) : Cg (wrap64 a) a := ⟨-((a + 9223372036854775808) / 18446744073709551616), by unfold wrap64; omega⟩
theorem Cg.sum {n : Nat} {f g : Nat → Int} (h : ∀ d, d < n → Cg (f d) (g d)) : Cg (sumN n f) (sumN n g) := by
  induction n with
  | zero => exact Cg.refl _
  | succ n ih => exact (ih fun d hd => h d (by omega)).add (h n (by omega))
def InR (a : Int) : Prop := -9223372036854775808 ≤ a ∧ a ≤ 9223372036854775807
theorem InR.wrap (a : Int) : InR (wrap64 a) := by unfold InR wrap64; omega
theorem Cg.eq {a b : Int} (h : Cg a b) (ha : InR a) (hb : InR b) : a = b := by
  obtain ⟨q, h⟩ := h
  unfold InR at ha hb
  omega
theorem Cg.eqw {a b : Int} (h : Cg a b) : wrap64 a = wrap64 b := ((Cg.wrap a).trans (h.trans (Cg.wrap b).symm)).eq (InR.wrap a) (InR.wrap b)

/-- A list's numbers, each with its weight, together. -/
def dot (t : List Int) (g : Nat → Int) : Int := sumN t.length fun i => rd t (i : Int) * g i
theorem sumN_upd {n i : Nat} {f g : Nat → Int} (hi : i < n) (h : ∀ k, k < n → k ≠ i → g k = f k) : sumN n g = sumN n f + (g i - f i) := by
  induction n with
  | zero => omega
  | succ n ih =>
    simp only [sumN]
    by_cases e : i = n
    · subst e
      rw [sumN_congr (n := i) (f := g) (g := f) (fun k hk => h k (by omega) (by omega))]
      omega
    · rw [ih (by omega) (fun k hk hne => h k (by omega) hne), h n (by omega) (by omega)]
      omega
theorem rd_set_same {t : List Int} {i : Nat} (h : i < t.length) (v : Int) : rd (t.set i v) (i : Int) = v := by simp [rd, List.getD_eq_getElem?_getD, h]
theorem rd_set_other {t : List Int} {i k : Nat} (h : k ≠ i) (v : Int) : rd (t.set i v) (k : Int) = rd t (k : Int) := by
  simp [rd, List.getD_eq_getElem?_getD, List.getElem?_set_ne (Ne.symm h)]
theorem dot_set {t : List Int} {i : Nat} (h : i < t.length) (v : Int) (g : Nat → Int) : dot (t.set i v) g = dot t g + (v - rd t (i : Int)) * g i := by
  unfold dot
  rw [List.length_set, sumN_upd (i := i) (f := fun i => rd t (i : Int) * g i) h (fun k _ hk => by rw [rd_set_other hk])]
  rw [rd_set_same h, Int.sub_mul]
theorem rd_rep (n i : Nat) : rd (List.replicate n 0) (i : Int) = 0 := by
  simp only [rd, Int.toNat_natCast, List.getD_eq_getElem?_getD, List.getElem?_replicate]
  split <;> rfl
theorem dot_rep (n : Nat) (g : Nat → Int) : dot (List.replicate n 0) g = 0 := by
  unfold dot
  exact sumN_zero fun d _ => by rw [rd_rep]; simp
end Go.Proofs.Ytnikblimnjpmpaa.X

/- ==== PlTable ==== -/
namespace Go.Proofs.Ytnikblimnjpmpaa.X
open Go.RowKit Go.Proofs.YtnikblimnjpmpaaW.PrintWords Go.Proofs.YtnikblimnjpmpaaW.PrintLast Go.Proofs.YtnikblimnjpmpaaW.PrintMore

/-- What a number of a colour adds: by the kind. -/
def moreOf (kind : Int) (d : Nat) : Nat := if kind = 99 then min d 1 else d / 2
theorem moreOf_le (kind : Int) (d : Nat) : moreOf kind d ≤ d := by unfold moreOf; split <;> omega
/-- A table: so many places; its numbers int64s; nothing where more has been made than is there. -/
structure Tab (W : Nat) (t : List Int) : Prop where
  len : t.length = W * W
  inr : ∀ i, i < t.length → InR (rd t (i : Int))
  sup : ∀ i, i < t.length → rd t (i : Int) ≠ 0 → i % W ≤ i / W
variable {kind : Int} {K W : Nat}
def gT (kind : Int) (K W : Nat) (l : List Nat) (P : Nat) (i : Nat) : Int := T wB (moreOf kind) l ((K : Int) - ((i / W : Nat) : Int)) ((P : Int) - ((i % W : Nat) : Int))
theorem idx_div {W h x : Nat} (hx : x < W) : (h * W + x) / W = h ∧ (h * W + x) % W = x := by
  have hW : 0 < W := by omega
  refine ⟨?_, ?_⟩
  · rw [Nat.add_comm, Nat.add_mul_div_right _ _ hW, Nat.div_eq_of_lt hx]; omega
  · rw [Nat.add_comm, Nat.add_mul_mod_self_right, Nat.mod_eq_of_lt hx]
theorem idx_lt {W h x : Nat} (hh : h < W) (hx : x < W) : h * W + x < W * W := by
  have : (h + 1) * W ≤ W * W := Nat.mul_le_mul_right _ hh
  rw [Nat.add_mul] at this
  omega
theorem more_c {kind : Int} (ck : kind = 99) (d : Nat) : (if (d : Int) < 1 then some (d : Int) else some 1) = some ((moreOf kind d : Nat) : Int) := by
  unfold moreOf
  rw [if_pos ck]
  split <;> (congr 1; omega)
theorem more_p {kind : Int} (ck : ¬ kind = 99) {d : Nat} (h : d ≤ 1000) : wrap64 (Int.tdiv (d : Int) 2) = ((moreOf kind d : Nat) : Int) := by
  unfold moreOf
  rw [if_neg ck, Int.tdiv_eq_ediv_of_nonneg (by omega)]
  unfold wrap64
  omega
theorem w64z {z : Int} (h0 : 0 ≤ z) (h1 : z ≤ 1000000) : wrap64 z = z := by unfold wrap64; omega
theorem idx_wrap {a b c : Nat} (h : a + b + c ≤ 100000) : wrap64 (wrap64 (wrap64 ((a : Nat) : Int) + (b : Int)) + ((c : Nat) : Int)) = ((a + (b + c) : Nat) : Int) := by
  rw [w64z (z := (a : Int)) (by omega) (by omega), w64z (z := (a : Int) + (b : Int)) (by omega) (by omega), w64z (by omega) (by omega)]
  omega
theorem j3_on (k : Nat) (kind : Int) (d : Nat) (K W n ways h x I sl si nl at_ : Int) (next S now : List Int) (hd : d ≤ 1000) (hidx : wrap64 (wrap64 (wrap64 (wrap64 (h + (d : Int)) * W) + x) + ((moreOf kind d : Nat) : Int)) = I) (h0 : 0 ≤ I) (h1 : I < (next.length : Int)) :
    spec_chTable.j3 (k + 1) K kind W n next ways h x (d : Int) S sl si now nl at_ true = (spec_chChoose.f k n (d : Int)).bind fun t => spec_chTable.l2 k K kind W n (next.set I.toNat (wrap64 (rd next I + wrap64 (ways * t)))) ways h x (wrap64 ((d : Int) + 1)) S sl si now nl at_ := by
  simp only [spec_chTable.j3]
  rw [if_pos trivial]
  by_cases ck : kind = 99
  · have hmd := more_c ck d
    rw [if_pos ck]
    unfold spec_l1Least.f
    rw [hmd]
    simp only [Option.bind_some]
    rw [hidx, if_pos h0, if_pos h1]
  · have hmd := more_p ck hd
    rw [if_neg ck, hmd, hidx, if_pos h0, if_pos h1]
/-- The walk over how many of a colour are drawn. -/
theorem l2_ev (hW : W = K + 1) (hK : K ≤ 40) (n : Nat) (hn : n ≤ 20) (l : List Nat) (ways : Int) (h x : Nat) (hx : x ≤ h) (hhK : h ≤ K) (S : List Int) (sl si : Int) (now : List Int) (nl at_ : Int) (e : Nat) :
    ∀ (d : Nat) (next : List Int), d + e = n + 1 → Tab W next →
    ∃ next' : List Int, Tab W next' ∧ (∀ P, Cg (dot next' (gT kind K W l P) + ways * sumN d (fun q => wB n q * T wB (moreOf kind) l ((K : Int) - h - q) ((P : Int) - x - moreOf kind q))) (dot next (gT kind K W l P) + ways * sumN (n + 1) (fun q => wB n q * T wB (moreOf kind) l ((K : Int) - h - q) ((P : Int) - x - moreOf kind q)))) ∧
      (∀ r : List Int, Ev (fun k => spec_chTable.l1 k (K : Int) kind (W : Int) (n : Int) next' S sl si now nl (wrap64 (at_ + 1))) r → Ev (fun k => spec_chTable.l2 k (K : Int) kind (W : Int) (n : Int) next ways (h : Int) (x : Int) (d : Int) S sl si now nl at_) r) := by
  induction e with
  | zero =>
    intro d next hd ht
    obtain rfl : d = n + 1 := by omega
    refine ⟨next, ht, fun P => Cg.refl _, fun r h1 => ?_⟩
    refine Ev.step (f := fun k => spec_chTable.j3 k (K : Int) kind (W : Int) (n : Int) next ways (h : Int) (x : Int) ((n + 1 : Nat) : Int) S sl si now nl at_ false) (fun k => ?_) (Ev.step (fun k => ?_) h1)
    · simp only [spec_chTable.l2]
      rw [if_neg (by omega)]
    · simp only [spec_chTable.j3]
      rw [if_neg (by decide)]
  | succ e ih =>
    intro d next hd ht
    have hwhd : wrap64 ((h : Int) + (d : Int)) = ((h + d : Nat) : Int) := by unfold wrap64; omega
    have HWHD := Aside0.mk hwhd
    clear hwhd
    have hdn : wrap64 ((d : Int) + 1) = ((d + 1 : Nat) : Int) := by unfold wrap64; omega
    have HDN := Aside0.mk hdn
    clear hdn
    by_cases c : h + d ≤ K
    · -- on
      have hm : moreOf kind d ≤ d := moreOf_le kind d
      have hxl : x + moreOf kind d < W := by omega
      have hhl : h + d < W := by omega
      obtain ⟨i1, i2⟩ := idx_div (h := h + d) hxl
      have hlt := idx_lt hhl hxl
      have hb : (h + d) * W ≤ 1681 := Nat.le_trans (Nat.mul_le_mul (show h + d ≤ 40 by omega) (show W ≤ 41 by omega)) (by decide)
      obtain ⟨I, hI⟩ : ∃ I, I = (h + d) * W + (x + moreOf kind d) := ⟨_, rfl⟩
      rw [← hI] at i1 i2 hlt
      have hIlen : I < next.length := by rw [ht.len]; exact hlt
      obtain ⟨v, hv⟩ : ∃ v, v = wrap64 (rd next (I : Int) + wrap64 (ways * wB n d)) := ⟨_, rfl⟩
      have hcg : Cg v (rd next (I : Int) + ways * wB n d) := by rw [hv]; exact (Cg.wrap _).trans ((Cg.refl _).add (Cg.wrap _))
      have ht2 : Tab W (next.set I v) := by
        refine ⟨by rw [List.length_set]; exact ht.len, fun i hi => ?_, fun i hi hne => ?_⟩
        · rw [List.length_set] at hi
          by_cases q : i = I
          · subst q
            rw [rd_set_same hi, hv]
            exact InR.wrap _
          · rw [rd_set_other q]
            exact ht.inr i hi
        · rw [List.length_set] at hi
          by_cases q : i = I
          · subst q
            rw [i1, i2]
            omega
          · rw [rd_set_other q] at hne
            exact ht.sup i hi hne
      obtain ⟨next', h1, h2, h3⟩ := ih (d + 1) (next.set I v) (by omega) ht2
      refine ⟨next', h1, fun P => ?_, fun r hr => ?_⟩
      · have a1 := h2 P
        rw [dot_set hIlen] at a1
        have hg : gT kind K W l P I = T wB (moreOf kind) l ((K : Int) - h - d) ((P : Int) - x - moreOf kind d) := by
          unfold gT
          rw [i1, i2]
          congr 1 <;> omega
        rw [hg] at a1
        simp only [sumN] at a1 ⊢
        generalize T wB (moreOf kind) l ((K : Int) - h - d) ((P : Int) - x - moreOf kind d) = t at *
        have a2 : Cg ((v - rd next (I : Int)) * t) (ways * (wB n d * t)) := by
          have := (hcg.sub (Cg.refl (rd next (I : Int)))).mulr t
          rw [show rd next (I : Int) + ways * wB n d - rd next (I : Int) = ways * wB n d by omega, Int.mul_assoc] at this
          exact this
        rw [Int.mul_add] at a1
        obtain ⟨q1, e1⟩ := a1
        obtain ⟨q2, e2⟩ := a2
        exact ⟨q1 + q2, by omega⟩
      · have h4 := h3 r hr
        have hidx : wrap64 (wrap64 (wrap64 ((((h + d : Nat) : Int)) * (W : Int)) + (x : Int)) + ((moreOf kind d : Nat) : Int)) = (I : Int) := by
          have e0 : (((h + d : Nat) : Int)) * (W : Int) = (((h + d) * W : Nat) : Int) := by rw [Int.natCast_mul]
          rw [e0, hI]
          exact idx_wrap (by omega)
        have hd1000 : d ≤ 1000 := Nat.le_trans (Nat.le_trans (Nat.le_add_left d h) c) (Nat.le_trans hK (by decide))
        have hI0 : (0 : Int) ≤ (I : Int) := Int.natCast_nonneg _
        have hI1 : (I : Int) < (next.length : Int) := Int.ofNat_lt.2 hIlen
        have HIDX := Aside0.mk hidx
        clear hidx
        have HV := Aside0.mk hv
        clear hv
        refine Ev.step (f := fun k => spec_chTable.j3 k (K : Int) kind (W : Int) (n : Int) next ways (h : Int) (x : Int) (d : Int) S sl si now nl at_ true) (fun k => ?_) (Ev.step (f := fun k => (spec_chChoose.f k (n : Int) (d : Int)).bind fun t => spec_chTable.l2 k (K : Int) kind (W : Int) (n : Int) (next.set I (wrap64 (rd next (I : Int) + wrap64 (ways * t)))) ways (h : Int) (x : Int) (wrap64 ((d : Int) + 1)) S sl si now nl at_) (fun k => ?_) (Ev.bind (chChoose_ev (by omega) (by omega)) ?_))
        · simp only [spec_chTable.l2]
          rw [if_pos (by omega), HWHD.out, decide_eq_true (by omega)]
        · rw [j3_on k kind d (K : Int) (W : Int) (n : Int) ways (h : Int) (x : Int) (I : Int) sl si nl at_ next S now hd1000 (by rw [HWHD.out]; exact HIDX.out) hI0 hI1, Int.toNat_natCast]
        · rw [← HV.out, HDN.out]
          exact h4
    · -- too many
      refine ⟨next, ht, fun P => ?_, fun r hr => ?_⟩
      · rw [sumN_longer (n := d) (m := n + 1) (by omega) (fun q hq _ => by rw [T_neg (by omega)]; simp)]
        exact Cg.refl _
      · refine Ev.step (f := fun k => spec_chTable.j3 k (K : Int) kind (W : Int) (n : Int) next ways (h : Int) (x : Int) (d : Int) S sl si now nl at_ false) (fun k => ?_) (Ev.step (fun k => ?_) hr)
        · simp only [spec_chTable.l2]
          rw [if_pos (by omega), HWHD.out, decide_eq_false (by omega)]
        · simp only [spec_chTable.j3]
          rw [if_neg (by decide)]
/-- The walk over the places of the table so far. -/
theorem l1_ev (hW : W = K + 1) (hK : K ≤ 40) (n : Nat) (hn : n ≤ 20) (l : List Nat) (S : List Int) (sl si : Int) (now : List Int) (hnow : Tab W now) (e : Nat) :
    ∀ (i : Nat) (next : List Int), i + e = now.length → Tab W next →
    ∃ next' : List Int, Tab W next' ∧ (∀ P, Cg (dot next' (gT kind K W l P) + sumN i (fun q => rd now (q : Int) * gT kind K W (n :: l) P q)) (dot next (gT kind K W l P) + dot now (gT kind K W (n :: l) P))) ∧
      (∀ r : List Int, Ev (fun k => spec_chTable.l0 k (K : Int) kind (W : Int) next' S sl (wrap64 (si + 1))) r → Ev (fun k => spec_chTable.l1 k (K : Int) kind (W : Int) (n : Int) next S sl si now (now.length : Int) (i : Int)) r) := by
  have hlen : now.length ≤ 1681 := by rw [hnow.len]; exact Nat.le_trans (Nat.mul_le_mul (show W ≤ 41 by omega) (show W ≤ 41 by omega)) (by decide)
  induction e with
  | zero =>
    intro i next hi ht
    obtain rfl : i = now.length := by omega
    refine ⟨next, ht, fun P => Cg.refl _, fun r h1 => Ev.step (fun k => ?_) h1⟩
    simp only [spec_chTable.l1]
    rw [if_neg (by omega)]
  | succ e ih =>
    intro i next hi ht
    have hin : wrap64 ((i : Int) + 1) = ((i + 1 : Nat) : Int) := by unfold wrap64; omega
    have HIN := Aside0.mk hin
    clear hin
    by_cases c : rd now (i : Int) = 0
    · obtain ⟨next', h1, h2, h3⟩ := ih (i + 1) next (by omega) ht
      refine ⟨next', h1, fun P => ?_, fun r hr => Ev.step (fun k => ?_) (h3 r hr)⟩
      · have := h2 P
        simp only [sumN, c, Int.zero_mul, Int.add_zero] at this
        exact this
      · simp only [spec_chTable.l1]
        rw [if_pos (by omega), if_pos (by omega), if_pos (by omega), if_pos c, HIN.out]
    · have hil : i < now.length := by omega
      have hs := hnow.sup i hil c
      have hdv : i / W ≤ K := by
        have h0 : i / W < W := Nat.div_lt_of_lt_mul (by rw [← hnow.len]; exact hil)
        omega
      obtain ⟨next1, g1, g2, g3⟩ := l2_ev (kind := kind) hW hK n hn l (rd now (i : Int)) (i / W) (i % W) hs hdv S sl si now (now.length : Int) (i : Int) (n + 1) 0 next (by omega) ht
      obtain ⟨next', h1, h2, h3⟩ := ih (i + 1) next1 (by omega) g1
      refine ⟨next', h1, fun P => ?_, fun r hr => ?_⟩
      · have a1 := h2 P
        have a2 := g2 P
        have hg : gT kind K W (n :: l) P i = sumN (n + 1) (fun q => wB n q * T wB (moreOf kind) l ((K : Int) - ((i / W : Nat) : Int) - q) ((P : Int) - ((i % W : Nat) : Int) - moreOf kind q)) := rfl
        rw [← hg] at a2
        simp only [sumN] at a1 a2 ⊢
        generalize rd now (i : Int) * gT kind K W (n :: l) P i = z at *
        simp only [Int.mul_zero, Int.add_zero] at a2
        obtain ⟨q1, e1⟩ := a1
        obtain ⟨q2, e2⟩ := a2
        exact ⟨q1 + q2, by omega⟩
      · have h4 := g3 r (by rw [HIN.out]; exact h3 r hr)
        have hd1 : wrap64 (Int.tdiv (i : Int) (W : Int)) = ((i / W : Nat) : Int) := by
          rw [Int.tdiv_eq_ediv_of_nonneg (by omega), ← Int.natCast_ediv]
          generalize i / W = z at *
          unfold wrap64
          omega
        have hd2 : Int.tmod (i : Int) (W : Int) = ((i % W : Nat) : Int) := by
          rw [Int.tmod_eq_emod_of_nonneg (by omega), ← Int.natCast_emod]
        refine Ev.step (fun k => ?_) h4
        simp only [spec_chTable.l1]
        rw [if_pos (by omega), if_pos (by omega), if_pos (by omega), if_neg c, if_neg (by omega), hd1, hd2]
        rfl
/-- The walk over the colours. -/
theorem l0_ev (hW : W = K + 1) (hK : K ≤ 40) (S : List Int) (ns : List Nat) (hS : S = ns.map (fun n => ((n : Nat) : Int))) (h20 : ∀ n ∈ ns, n ≤ 20) (hl8 : ns.length ≤ 8) (e : Nat) : ∀ (i : Nat) (now : List Int), i + e = ns.length → Tab W now →
    ∃ fin : List Int, Tab W fin ∧ (∀ P, Cg (dot fin (gT kind K W [] P)) (dot now (gT kind K W (ns.drop i) P))) ∧
      Ev (fun k => spec_chTable.l0 k (K : Int) kind (W : Int) now S (S.length : Int) (i : Int)) (fin.drop (K * W)) := by
  have hSl : S.length = ns.length := by rw [hS, List.length_map]
  have hKW : K * W ≤ 1640 := Nat.le_trans (Nat.mul_le_mul hK (show W ≤ 41 by omega)) (by decide)
  have hWW : W * W ≤ 1681 := Nat.le_trans (Nat.mul_le_mul (show W ≤ 41 by omega) (show W ≤ 41 by omega)) (by decide)
  have hKWW : K * W ≤ W * W := Nat.mul_le_mul_right _ (by omega)
  have hw1 : wrap64 ((K : Int) * (W : Int)) = ((K * W : Nat) : Int) := by
    rw [← Int.natCast_mul]
    generalize K * W = z at *
    unfold wrap64
    omega
  have hw2 : wrap64 ((W : Int) * (W : Int)) = ((W * W : Nat) : Int) := by
    rw [← Int.natCast_mul]
    generalize W * W = z at *
    unfold wrap64
    omega
  induction e with
  | zero =>
    intro i now hi ht
    obtain rfl : i = ns.length := by omega
    refine ⟨now, ht, fun P => ?_, Ev.step (f := fun _ => some (now.drop (K * W))) (fun k => ?_) (Ev.now _)⟩
    · rw [List.drop_length]
      exact Cg.refl _
    · have := ht.len
      simp only [spec_chTable.l0]
      rw [if_neg (by omega), hw1, if_pos (by omega), if_pos (by omega), Int.toNat_natCast]
  | succ e ih =>
    intro i now hi ht
    have hil : i < ns.length := by omega
    have hin : wrap64 ((i : Int) + 1) = ((i + 1 : Nat) : Int) := by unfold wrap64; omega
    have HIN := Aside0.mk hin
    clear hin
    have hrd : rd S (i : Int) = ((ns[i] : Nat) : Int) := by
      rw [hS]
      simp [rd, List.getD_eq_getElem?_getD, hil]
    have hz : Tab W (List.replicate (W * W) 0) := by
      refine ⟨by simp, fun j hj => ?_, fun j hj hne => absurd (rd_rep _ _) hne⟩
      rw [rd_rep]
      unfold InR
      omega
    have hdrop : ns.drop i = ns[i] :: ns.drop (i + 1) := List.drop_eq_getElem_cons hil
    obtain ⟨next', h1, h2, h3⟩ := l1_ev (kind := kind) hW hK ns[i] (h20 _ (List.getElem_mem hil)) (ns.drop (i + 1)) S (S.length : Int) (i : Int) now ht now.length 0 (List.replicate (W * W) 0) (by omega) hz
    obtain ⟨fin, f1, f2, f3⟩ := ih (i + 1) next' (by omega) h1
    refine ⟨fin, f1, fun P => (f2 P).trans ?_, ?_⟩
    · have := h2 P
      rw [dot_rep, ← hdrop] at this
      simpa [sumN] using this
    · have h4 := h3 _ (by rw [HIN.out]; exact f3)
      refine Ev.step (fun k => ?_) h4
      simp only [spec_chTable.l0]
      rw [if_pos (by omega), if_pos (by omega), if_pos (by omega), hw2, if_pos (by omega), if_pos (by omega), hrd, Int.toNat_natCast]
      rfl
theorem Tab.start (hW : W = K + 1) : Tab W ((List.replicate (W * W) 0).set 0 1) := by
  have h0 : 0 < W * W := Nat.mul_pos (by omega) (by omega)
  refine ⟨by simp, fun i hi => ?_, fun i hi hne => ?_⟩
  · by_cases q : i = 0
    · subst q
      rw [rd_set_same (by simpa using h0)]
      unfold InR
      omega
    · rw [rd_set_other q, rd_rep]
      unfold InR
      omega
  · by_cases q : i = 0
    · subst q
      simp
    · rw [rd_set_other q, rd_rep] at hne
      exact absurd rfl hne
/-- The reference's table: in how many ways. -/
theorem chTable_ev (K : Nat) (hK : K ≤ 40) (ns : List Nat) (h20 : ∀ n ∈ ns, n ≤ 20) (hl8 : ns.length ≤ 8) (h40 : sumL ns ≤ 40) (kind : Int) :
    ∃ tab : List Int, tab.length = K + 1 ∧ (∀ P : Nat, P ≤ K → rd tab (P : Int) = T wB (moreOf kind) ns (K : Int) (P : Int)) ∧ Ev (fun k => spec_chTable.f k (ns.map fun n => ((n : Nat) : Int)) (K : Int) kind) tab := by
  obtain ⟨W, hW⟩ : ∃ W, W = K + 1 := ⟨_, rfl⟩
  have hWW : W * W ≤ 1681 := Nat.le_trans (Nat.mul_le_mul (show W ≤ 41 by omega) (show W ≤ 41 by omega)) (by decide)
  have h0 : 0 < W * W := Nat.mul_pos (by omega) (by omega)
  obtain ⟨fin, f1, f2, f3⟩ := l0_ev (kind := kind) hW hK _ ns rfl h20 hl8 ns.length 0 _ (by omega) (Tab.start hW)
  have hsplit : W * W = K * W + W := by
    have : (K + 1) * W = K * W + W := by rw [Nat.add_mul, Nat.one_mul]
    rw [← this, ← hW]
  have hlen := f1.len
  refine ⟨fin.drop (K * W), by rw [List.length_drop]; omega, fun P hP => ?_, ?_⟩
  · have hPW : P < W := by omega
    have hat : K * W + P < fin.length := by omega
    have h1 := f2 P
    have e1 : dot fin (gT kind K W [] P) = rd fin ((K * W + P : Nat) : Int) := by
      unfold dot
      rw [sumN_at (K * W + P) hat (fun d hd hne => ?_)]
      · unfold gT T
        rw [(idx_div hPW).1, (idx_div hPW).2, if_pos ⟨by omega, by omega⟩, Int.mul_one]
      · unfold gT T
        rw [if_neg, Int.mul_zero]
        rintro ⟨c1, c2⟩
        have c3 : d / W = K := by omega
        have c4 : d % W = P := by omega
        have := Nat.div_add_mod d W
        rw [c3, c4, Nat.mul_comm] at this
        omega
    have e2 : dot ((List.replicate (W * W) 0).set 0 1) (gT kind K W (ns.drop 0) P) = T wB (moreOf kind) ns (K : Int) (P : Int) := by
      rw [dot_set (by simpa using h0), dot_rep, List.drop_zero]
      have : rd (List.replicate (W * W) 0) ((0 : Nat) : Int) = 0 := rd_rep _ _
      rw [this]
      unfold gT
      simp
    rw [e1, e2] at h1
    have hb := T_bound (m := moreOf kind) h20 h40 (K : Int) (P : Int)
    have h2 := h1.eq (f1.inr _ hat) (by unfold InR; omega)
    rw [← h2]
    unfold rd
    rw [Int.toNat_natCast, Int.toNat_natCast, List.getD_eq_getElem?_getD, List.getD_eq_getElem?_getD, List.getElem?_drop]
  · have hw1 : wrap64 ((K : Int) + 1) = (W : Int) := by rw [hW]; unfold wrap64; omega
    have hw2 : wrap64 ((W : Int) * (W : Int)) = ((W * W : Nat) : Int) := by
      rw [← Int.natCast_mul]
      generalize W * W = z at *
      unfold wrap64
      omega
    refine Ev.congr (fun k => ?_) f3
    simp only [spec_chTable.f]
    rw [hw1, hw2, if_pos (by omega), if_pos (by omega), Int.toNat_natCast]
    simp only [Option.bind_some, List.length_replicate]
    rw [if_pos (by omega)]
    rfl
end Go.Proofs.Ytnikblimnjpmpaa.X

/- ==== PlTo ==== -/
namespace Go.Proofs.Ytnikblimnjpmpaa.X
open Go.RowKit Go.Proofs.YtnikblimnjpmpaaW.PrintWords Go.Proofs.YtnikblimnjpmpaaW.PrintLast Go.Proofs.YtnikblimnjpmpaaW.PrintMore

theorem w64 {x : Int} (h0 : -9223372036854775808 ≤ x) (h1 : x ≤ 9223372036854775807) : wrap64 x = x := by unfold wrap64; omega
theorem w64s {i n : Nat} (h : i < n) (hn : n ≤ 1073741824) : wrap64 ((i : Int) + 1) = ((i + 1 : Nat) : Int) := by unfold wrap64; omega
theorem rd_get {l : List Int} {i : Nat} (h : i < l.length) : rd l (i : Int) = l[i] := by simp [rd, List.getD_eq_getElem?_getD, h]
theorem i64_of {n : Int} (h : (Lit.int .i64 n).wf = true) : -9223372036854775808 ≤ n ∧ n ≤ 9223372036854775807 := by
  simp [Lit.wf, IntKind.min, IntKind.max, IntKind.signed, IntKind.bits] at h
  omega

theorem toIntS_loop (l : List Int) (hn : l.length ≤ 1048576) (d : Nat) : ∀ (i : Nat) (acc : List Int), i + d = l.length → acc.length = l.length → (∀ j, j < i → acc[j]? = l[j]?) →
    Ev (fun k => laws_toIntS.l0 k l acc (i : Int)) l := by
  induction d with
  | zero =>
    intro i acc hi ha hp
    have e : acc = l := by
      apply List.ext_getElem?
      intro j
      by_cases hj : j < i
      · exact hp j hj
      · rw [List.getElem?_eq_none (by omega), List.getElem?_eq_none (by omega)]
    subst e
    refine Ev.step (f := fun _ => some acc) (fun k => ?_) (Ev.now _)
    simp only [laws_toIntS.l0]
    rw [if_neg (by omega)]
  | succ d ih =>
    intro i acc hi ha hp
    refine Ev.step (f := fun k => laws_toIntS.l0 k l (acc.set i (rd l (i : Int))) ((i + 1 : Nat) : Int)) (fun k => ?_) (ih (i + 1) _ (by omega) (by simpa using ha) (fun j hj => ?_))
    · simp only [laws_toIntS.l0]
      rw [if_pos (by omega), if_pos (by omega), if_pos (by omega), w64s (show i < l.length by omega) (by omega), Int.toNat_natCast]
    · by_cases e : j = i
      · subst e
        rw [List.getElem?_set_self (by omega), rd_get (by omega), List.getElem?_eq_getElem (by omega)]
      · rw [List.getElem?_set_ne (by omega)]
        exact hp j (by omega)
theorem toIntS_ev (l : List Int) (hn : l.length ≤ 1048576) : Ev (fun k => laws_toIntS.f k l) l := by
  refine Ev.congr (f := fun k => laws_toIntS.l0 k l (List.replicate l.length 0) ((0 : Nat) : Int)) (fun k => ?_) (toIntS_loop l hn l.length 0 _ (by omega) (by simp) (fun j hj => absurd hj (by omega)))
  unfold laws_toIntS.f
  rw [if_pos (by omega), if_pos (by simp; omega)]
  simp

theorem eqIntS_loop (l : List Int) (hn : l.length ≤ 1073741824) (d : Nat) : ∀ (i : Nat), i + d = l.length → Ev (fun k => laws_eqIntS.l0 k l l (i : Int)) true := by
  induction d with
  | zero =>
    intro i hi
    refine Ev.step (f := fun _ => some true) (fun k => ?_) (Ev.now _)
    simp only [laws_eqIntS.l0]
    rw [if_neg (by omega)]
  | succ d ih =>
    intro i hi
    refine Ev.step (f := fun k => laws_eqIntS.l0 k l l ((i + 1 : Nat) : Int)) (fun k => ?_) (ih (i + 1) (by omega))
    simp only [laws_eqIntS.l0]
    rw [if_pos (by omega), if_pos (by omega), if_pos (by omega), if_pos trivial, w64s (show i < l.length by omega) (by omega)]
theorem eqIntS_ev (l : List Int) (hn : l.length ≤ 1073741824) : Ev (fun k => laws_eqIntS.f k l l) true := by
  refine Ev.congr (f := fun k => laws_eqIntS.l0 k l l ((0 : Nat) : Int)) (fun k => ?_) (eqIntS_loop l hn l.length 0 (by omega))
  unfold laws_eqIntS.f
  rw [if_pos rfl]
  rfl

end Go.Proofs.Ytnikblimnjpmpaa.X

/- ==== PlSocks ==== -/
namespace Go.Proofs.Ytnikblimnjpmpaa.X
open Go.RowKit Go.Proofs.YtnikblimnjpmpaaW.PrintWords Go.Proofs.YtnikblimnjpmpaaW.PrintLast Go.Proofs.YtnikblimnjpmpaaW.PrintMore

theorem l1In_inB (x lo hi : Int) : spec_l1In.f x lo hi = some (inB lo hi x) := by
  unfold spec_l1In.f inB
  by_cases h : x ≥ lo <;> simp [h]
theorem drop_get {l : List Int} {i : Nat} (h : i < l.length) : l.drop i = rd l (i : Int) :: l.drop (i + 1) := by
  rw [List.drop_eq_getElem_cons h]
  simp [rd, List.getD_eq_getElem?_getD, h]
def totI (l : List Int) : Int := l.foldr (fun x s => x + s) 0
theorem totI_cons (x : Int) (l : List Int) : totI (x :: l) = x + totI l := rfl
theorem totI_bd : ∀ {l : List Int}, l.all (inB 0 20) = true → 0 ≤ totI l ∧ totI l ≤ 20 * (l.length : Int)
  | [], _ => by simp [totI]
  | x :: l, h => by
    simp only [List.all_cons, Bool.and_eq_true] at h
    have h1 := totI_bd h.2
    have h2 := h.1
    simp [inB] at h2
    rw [totI_cons, List.length_cons]
    omega
theorem all_drop {l : List Int} (h : l.all (inB 0 20) = true) (i : Nat) : (l.drop i).all (inB 0 20) = true := by
  rw [List.all_eq_true] at *
  exact fun x hx => h x (List.mem_of_mem_drop hx)
theorem total_loop (l : List Int) (hl : l.length ≤ 8) (ha : l.all (inB 0 20) = true) (d : Nat) : ∀ (i : Nat) (acc : Int), i + d = l.length → 0 ≤ acc → acc ≤ 20 * (i : Int) →
    Ev (fun k => impl_total.l0 k acc l (l.length : Int) (i : Int)) (acc + totI (l.drop i)) ∧ Ev (fun k => spec_soSum.l0 k acc l (l.length : Int) (i : Int)) (acc + totI (l.drop i)) := by
  induction d with
  | zero =>
    intro i acc hi h0 h1
    rw [List.drop_of_length_le (by omega), show totI [] = 0 from rfl, Int.add_zero]
    refine ⟨Ev.step (f := fun _ => some acc) (fun k => ?_) (Ev.now _), Ev.step (f := fun _ => some acc) (fun k => ?_) (Ev.now _)⟩
    · simp only [impl_total.l0]
      rw [if_neg (by omega)]
    · simp only [spec_soSum.l0]
      rw [if_neg (by omega)]
  | succ d ih =>
    intro i acc hi h0 h1
    have hlt : i < l.length := by omega
    have hx := List.all_eq_true.1 ha (rd l (i : Int)) (by rw [rd_get hlt]; exact List.getElem_mem _)
    simp [inB] at hx
    have hw : wrap64 (acc + rd l (i : Int)) = acc + rd l (i : Int) := by unfold wrap64; omega
    obtain ⟨e1, e2⟩ := ih (i + 1) (acc + rd l (i : Int)) (by omega) (by omega) (by omega)
    rw [drop_get hlt, totI_cons, ← Int.add_assoc]
    refine ⟨Ev.step (fun k => ?_) e1, Ev.step (fun k => ?_) e2⟩
    · simp only [impl_total.l0]
      rw [if_pos (by omega), if_pos (by omega), if_pos (by omega), hw, w64s hlt (by omega)]
    · simp only [spec_soSum.l0]
      rw [if_pos (by omega), if_pos (by omega), if_pos (by omega), hw, w64s hlt (by omega)]
theorem total_ev {l : List Int} (hl : l.length ≤ 8) (ha : l.all (inB 0 20) = true) : Ev (fun k => impl_total.f k l) (totI l) := by
  have := (total_loop l hl ha l.length 0 0 (by omega) (by omega) (by omega)).1
  simpa [impl_total.f] using this
theorem soSum_ev {l : List Int} (hl : l.length ≤ 8) (ha : l.all (inB 0 20) = true) : Ev (fun k => spec_soSum.f k l) (totI l) := by
  have := (total_loop l hl ha l.length 0 0 (by omega) (by omega) (by omega)).2
  simpa [spec_soSum.f] using this
theorem l1All_loop (l : List Int) (hl : l.length ≤ 1048576) (d : Nat) : ∀ (i : Nat), i + d = l.length → Ev (fun k => spec_l1All.l0 k 0 20 l (l.length : Int) (i : Int)) ((l.drop i).all (inB 0 20)) := by
  induction d with
  | zero =>
    intro i hi
    rw [List.drop_of_length_le (by omega)]
    refine Ev.step (f := fun _ => some true) (fun k => ?_) (Ev.now _)
    simp only [spec_l1All.l0]
    rw [if_neg (by omega)]
  | succ d ih =>
    intro i hi
    have hlt : i < l.length := by omega
    rw [drop_get hlt, List.all_cons]
    cases hx : inB 0 20 (rd l (i : Int)) with
    | false =>
      refine Ev.step (f := fun _ => some false) (fun k => ?_) (by simpa using Ev.now false)
      simp only [spec_l1All.l0]
      rw [if_pos (by omega), if_pos (by omega), if_pos (by omega), l1In_inB, hx]
      rfl
    | true =>
      rw [Bool.true_and]
      refine Ev.step (fun k => ?_) (ih (i + 1) (by omega))
      simp only [spec_l1All.l0]
      rw [if_pos (by omega), if_pos (by omega), if_pos (by omega), l1In_inB, hx, w64s hlt (by omega)]
      rfl
def good (l : List Int) : Bool := inB 1 8 (l.length : Int) && (l.all (inB 0 20) && decide (totI l > 0))
def few (l : List Int) : Bool := good l && decide (totI l ≤ 40)
def asked (l : List Int) (a : Int) : Bool := few l && inB 0 (totI l) a
theorem good_ev (l : List Int) (hn : l.length ≤ 1048576) : Ev (fun k => impl_AreSocks.f k l) (good l) ∧ Ev (fun k => spec_soGood.f k l) (good l) := by
  unfold good
  cases h1 : inB 1 8 (l.length : Int) with
  | false =>
    refine ⟨Ev.congr (f := fun _ => some false) (fun k => ?_) (by simpa using Ev.now false), Ev.congr (f := fun _ => some false) (fun k => ?_) (by simpa using Ev.now false)⟩
    · simp [impl_AreSocks.f, within_inB, h1]
    · simp [spec_soGood.f, l1In_inB, h1]
  | true =>
    have hl : l.length ≤ 8 := by simp [inB] at h1; omega
    have e0 := l1All_loop l (by omega) l.length 0 (by omega)
    rw [List.drop_zero] at e0
    cases h2 : l.all (inB 0 20) with
    | false =>
      rw [h2] at e0
      refine ⟨Ev.congr (f := fun _ => some false) (fun k => ?_) (by simpa using Ev.now false), Ev.congr (f := fun k => (spec_l1All.f k l 0 20).bind fun t => if t = true then ((spec_soSum.f k l).bind fun t106 => (some (decide (t106 > 0)))) else (some false)) (fun k => ?_) (Ev.bind e0 (Ev.congr (f := fun _ => some false) (fun k => by rw [if_neg (by decide)]) (by simpa using Ev.now false)))⟩
      · simp [impl_AreSocks.f, within_inB, h1, impl_areWithin.f, h2]
      · simp [spec_soGood.f, l1In_inB, h1]
    | true =>
      rw [h2] at e0
      refine ⟨Ev.congr (f := fun k => (impl_total.f k l).bind fun t => some (decide (t > 0))) (fun k => ?_) (Ev.bind (total_ev hl h2) (by simpa using Ev.now _)), Ev.congr (f := fun k => (spec_l1All.f k l 0 20).bind fun t => if t = true then ((spec_soSum.f k l).bind fun t106 => (some (decide (t106 > 0)))) else (some false)) (fun k => ?_) (Ev.bind e0 (Ev.congr (f := fun k => (spec_soSum.f k l).bind fun t => some (decide (t > 0))) (fun k => by rw [if_pos rfl]) (Ev.bind (soSum_ev hl h2) (by simpa using Ev.now _))))⟩
      · simp [impl_AreSocks.f, within_inB, h1, impl_areWithin.f, h2]
      · simp [spec_soGood.f, l1In_inB, h1]
theorem good_of {l : List Int} (h : good l = true) : 1 ≤ l.length ∧ l.length ≤ 8 ∧ l.all (inB 0 20) = true ∧ 0 < totI l := by
  unfold good at h
  simp only [Bool.and_eq_true, decide_eq_true_eq] at h
  have h1 := h.1
  simp [inB] at h1
  exact ⟨by omega, by omega, h.2.1, h.2.2⟩
theorem few_ev (l : List Int) (hn : l.length ≤ 1048576) : Ev (fun k => impl_areFew.f k l) (few l) ∧ Ev (fun k => spec_chGood.f k l) (few l) := by
  obtain ⟨e1, e2⟩ := good_ev l hn
  unfold few
  cases h : good l with
  | false =>
    rw [h] at e1 e2
    exact ⟨Ev.bind e1 (Ev.congr (f := fun _ => some false) (fun k => by rw [if_neg (by decide)]) (by simpa using Ev.now false)), Ev.bind e2 (Ev.congr (f := fun _ => some false) (fun k => by rw [if_neg (by decide)]) (by simpa using Ev.now false))⟩
  | true =>
    rw [h] at e1 e2
    obtain ⟨_, g2, g3, _⟩ := good_of h
    exact ⟨Ev.bind e1 (Ev.congr (f := fun k => (impl_total.f k l).bind fun t => some (decide (t ≤ 40))) (fun k => by rw [if_pos rfl]) (Ev.bind (total_ev g2 g3) (by simpa using Ev.now _))), Ev.bind e2 (Ev.congr (f := fun k => (spec_soSum.f k l).bind fun t => some (decide (t ≤ 40))) (fun k => by rw [if_pos rfl]) (Ev.bind (soSum_ev g2 g3) (by simpa using Ev.now _)))⟩
theorem few_of {l : List Int} (h : few l = true) : 1 ≤ l.length ∧ l.length ≤ 8 ∧ l.all (inB 0 20) = true ∧ 0 < totI l ∧ totI l ≤ 40 := by
  unfold few at h
  simp only [Bool.and_eq_true, decide_eq_true_eq] at h
  obtain ⟨g1, g2, g3, g4⟩ := good_of h.1
  exact ⟨g1, g2, g3, g4, h.2⟩
theorem asked_ev (l : List Int) (a : Int) (hn : l.length ≤ 1048576) : Ev (fun k => impl_isNumber.f k l a) (asked l a) ∧ Ev (fun k => spec_chAsked.f k l a) (asked l a) := by
  obtain ⟨e1, e2⟩ := few_ev l hn
  unfold asked
  cases h : few l with
  | false =>
    rw [h] at e1 e2
    exact ⟨Ev.bind e1 (Ev.congr (f := fun _ => some false) (fun k => by rw [if_neg (by decide)]) (by simpa using Ev.now false)), Ev.bind e2 (Ev.congr (f := fun _ => some false) (fun k => by rw [if_neg (by decide)]) (by simpa using Ev.now false))⟩
  | true =>
    rw [h] at e1 e2
    obtain ⟨_, g2, g3, _, _⟩ := few_of h
    refine ⟨Ev.bind e1 (Ev.congr (f := fun k => (impl_total.f k l).bind fun t => some (inB 0 t a)) (fun k => ?_) (Ev.bind (total_ev g2 g3) (by simpa using Ev.now _))), Ev.bind e2 (Ev.congr (f := fun k => (spec_soSum.f k l).bind fun t => some (inB 0 t a)) (fun k => ?_) (Ev.bind (soSum_ev g2 g3) (by simpa using Ev.now _)))⟩
    · rw [if_pos rfl]
      simp only [within_inB, Option.bind_some]
    · rw [if_pos rfl]
      simp only [l1In_inB, Option.bind_some]
theorem asked_of {l : List Int} {a : Int} (h : asked l a = true) : few l = true ∧ 0 ≤ a ∧ a ≤ totI l := by
  unfold asked at h
  simp only [Bool.and_eq_true] at h
  have h2 := h.2
  simp [inB] at h2
  exact ⟨h.1, h2.1, h2.2⟩
def toI (ns : List Nat) : List Int := ns.map fun n => ((n : Nat) : Int)
theorem totI_toI : ∀ ns : List Nat, totI (toI ns) = ((sumL ns : Nat) : Int)
  | [] => rfl
  | n :: ns => by
    have := totI_toI ns
    simp only [toI, List.map_cons, totI_cons, sumL_cons] at *
    omega
/-- Few socks, as a list of natural numbers. -/
theorem few_ns {l : List Int} (h : few l = true) : ∃ ns : List Nat, l = toI ns ∧ (∀ n ∈ ns, n ≤ 20) ∧ 1 ≤ ns.length ∧ ns.length ≤ 8 ∧ 1 ≤ sumL ns ∧ sumL ns ≤ 40 ∧ totI l = ((sumL ns : Nat) : Int) := by
  obtain ⟨g1, g2, g3, g4, g5⟩ := few_of h
  have hl : l = toI (l.map Int.toNat) := by
    unfold toI
    rw [List.map_map]
    have : l.map ((fun n : Nat => (n : Int)) ∘ Int.toNat) = l.map id := List.map_congr_left fun x hx => by
      have := List.all_eq_true.1 g3 x hx
      simp [inB] at this
      simp only [Function.comp, id]
      omega
    rw [this, List.map_id]
  have ht : totI l = ((sumL (l.map Int.toNat) : Nat) : Int) := by
    rw [← totI_toI, ← hl]
  refine ⟨l.map Int.toNat, hl, fun n hn => ?_, by simpa using g1, by simpa using g2, by omega, by omega, ht⟩
  obtain ⟨x, hx, rfl⟩ := List.mem_map.1 hn
  have := List.all_eq_true.1 g3 x hx
  simp [inB] at this
  omega
end Go.Proofs.Ytnikblimnjpmpaa.X

/- ==== PlFrac ==== -/
namespace Go.Proofs.Ytnikblimnjpmpaa.X
open Go.RowKit Go.Proofs.YtnikblimnjpmpaaW.PrintWords Go.Proofs.YtnikblimnjpmpaaW.PrintLast Go.Proofs.YtnikblimnjpmpaaW.PrintMore

theorem gcd_loop (d : Nat) : ∀ (x y : Int), 0 ≤ x → 0 ≤ y → y ≤ (d : Int) → (0 < x ∨ 0 < y) →
    ∃ g : Int, 0 < g ∧ Ev (fun k => impl_gcd.l0 k x y) g ∧ ∀ a b, Ev (fun k => spec_chLow.l0 k a b x y) (wrap64 (Int.tdiv a g), wrap64 (Int.tdiv b g)) := by
  induction d with
  | zero =>
    intro x y hx hy hd hp
    have e : y = 0 := by omega
    subst e
    refine ⟨x, by omega, Ev.step (f := fun _ => some x) (fun k => ?_) (Ev.now _), fun a b => Ev.step (f := fun _ => some (wrap64 (Int.tdiv a x), wrap64 (Int.tdiv b x))) (fun k => ?_) (Ev.now _)⟩
    · simp only [impl_gcd.l0, if_true]
    · simp only [spec_chLow.l0]
      rw [if_neg (by omega), if_neg (by omega)]
  | succ d ih =>
    intro x y hx hy hd hp
    by_cases h0 : y = 0
    · subst h0
      refine ⟨x, by omega, Ev.step (f := fun _ => some x) (fun k => ?_) (Ev.now _), fun a b => Ev.step (f := fun _ => some (wrap64 (Int.tdiv a x), wrap64 (Int.tdiv b x))) (fun k => ?_) (Ev.now _)⟩
      · simp only [impl_gcd.l0, if_true]
      · simp only [spec_chLow.l0]
        rw [if_neg (by omega), if_neg (by omega)]
    · have hm : Int.tmod x y = x % y := Int.tmod_eq_emod_of_nonneg hx
      have h1 : 0 ≤ x % y := Int.emod_nonneg _ h0
      have h2 : x % y < y := Int.emod_lt_of_pos _ (by omega)
      obtain ⟨g, hg, e1, e2⟩ := ih y (x % y) hy h1 (by omega) (.inl (by omega))
      refine ⟨g, hg, Ev.step (fun k => ?_) e1, fun a b => Ev.step (fun k => ?_) (e2 a b)⟩
      · simp only [impl_gcd.l0]
        rw [if_neg h0, hm]
      · simp only [spec_chLow.l0]
        rw [if_pos (by omega), if_neg h0, hm]
theorem frac_ev (num den : Int) (h0 : 0 ≤ num) (h1 : 0 < den) : ∃ a b : Int, Ev (fun k => spec_chLow.f k num den) (a, b) ∧ Ev (fun k => impl_fraction.f k num den) (a, b, true) := by
  obtain ⟨g, hg, e1, e2⟩ := gcd_loop den.toNat num den h0 (by omega) (by omega) (.inr h1)
  refine ⟨_, _, e2 num den, ?_⟩
  refine Ev.congr (f := fun k => (impl_gcd.l0 k num den).bind fun t => if t = 0 then none else some (wrap64 (Int.tdiv num t), wrap64 (Int.tdiv den t), true)) (fun k => rfl) (Ev.bind e1 ?_)
  exact Ev.congr (fun k => by rw [if_neg (by omega)]) (Ev.now _)

end Go.Proofs.Ytnikblimnjpmpaa.X

/- ==== PlColours ==== -/
namespace Go.Proofs.Ytnikblimnjpmpaa.X
open Go.RowKit Go.Proofs.YtnikblimnjpmpaaW.PrintWords Go.Proofs.YtnikblimnjpmpaaW.PrintLast Go.Proofs.YtnikblimnjpmpaaW.PrintMore

def vl (ws : List (List Int)) (k c : Nat) : Int := rd (rd_L1 ws (k : Int)) (c : Int)
structure Grid (K L : Nat) (ws : List (List Int)) : Prop where
  len : ws.length = K + 1
  row : ∀ k, k ≤ K → (rd_L1 ws (k : Int)).length = L + 1
  inr : ∀ k c, k ≤ K → c ≤ L → InR (vl ws k c)
variable {K L : Nat}
theorem row_set_same {ws : List (List Int)} {k : Nat} (h : k < ws.length) (r : List Int) : rd_L1 (ws.set k r) (k : Int) = r := by simp [rd_L1, List.getD_eq_getElem?_getD, h]
theorem row_set_other {ws : List (List Int)} {k j : Nat} (h : j ≠ k) (r : List Int) : rd_L1 (ws.set k r) (j : Int) = rd_L1 ws (j : Int) := by
  simp [rd_L1, List.getD_eq_getElem?_getD, List.getElem?_set_ne (Ne.symm h)]
def put (ws : List (List Int)) (k c : Nat) (v : Int) : List (List Int) := ws.set k ((rd_L1 ws (k : Int)).set c v)
theorem vl_put {ws : List (List Int)} (h : Grid K L ws) {k c : Nat} (hk : k ≤ K) (hc : c ≤ L) (v : Int) : vl (put ws k c v) k c = v := by
  unfold vl put
  rw [row_set_same (by rw [h.len]; omega), rd_set_same (by rw [h.row k hk]; omega)]
theorem vl_put_ne {ws : List (List Int)} (h : Grid K L ws) {k c j q : Nat} (hk : k ≤ K) (hne : j ≠ k ∨ q ≠ c) (v : Int) : vl (put ws k c v) j q = vl ws j q := by
  unfold vl put
  by_cases e : j = k
  · subst e
    rw [row_set_same (by rw [h.len]; omega)]
    rcases hne with hne | hne
    · exact absurd rfl hne
    · rw [rd_set_other hne]
  · rw [row_set_other e]
theorem Grid.put {ws : List (List Int)} (h : Grid K L ws) {k c : Nat} (hk : k ≤ K) (hc : c ≤ L) {v : Int} (hv : InR v) : Grid K L (put ws k c v) := by
  refine ⟨by unfold X.put; rw [List.length_set]; exact h.len, fun j hj => ?_, fun j q hj hq => ?_⟩
  · unfold X.put
    by_cases e : j = k
    · subst e
      rw [row_set_same (by rw [h.len]; omega), List.length_set]
      exact h.row j hj
    · rw [row_set_other e]
      exact h.row j hj
  · by_cases e : j = k ∧ q = c
    · obtain ⟨rfl, rfl⟩ := e
      rw [vl_put h hk hc]
      exact hv
    · rw [vl_put_ne h hk (by omega)]
      exact h.inr j q hj hq

def addS (own : Nat) (F : Nat → Nat → Int) (k c n : Nat) : Int := sumN n fun q => wB own (q + 1) * F (k - (q + 1)) (c - 1)
section
variable (x0 : List Int) (a2 : Int) (x44 : List Int) (x45 x46 : Int)
theorem l4_ev (hK : K ≤ 40) (hL : L ≤ 8) (own : Nat) (ho : own ≤ 20) (k c : Nat) (hk : k ≤ K) (hc1 : 1 ≤ c) (hcL : c ≤ L) (e : Nat) : ∀ (n : Nat) (ws : List (List Int)), n + e = min own k → Grid K L ws →
    ∃ ws' : List (List Int), Grid K L ws' ∧ (∀ j q, (j ≠ k ∨ q ≠ c) → vl ws' j q = vl ws j q) ∧ Cg (vl ws' k c + addS own (vl ws) k c n) (vl ws k c + addS own (vl ws) k c (min own k)) ∧
      (∀ r, Ev (fun q => impl_ChanceOfColours.l3 q x0 (K : Int) a2 ws' (own : Int) (k : Int) (wrap64 ((c : Int) - 1)) x44 x45 x46) r → Ev (fun q => impl_ChanceOfColours.l4 q x0 (K : Int) a2 ws (own : Int) (k : Int) (c : Int) ((n + 1 : Nat) : Int) x44 x45 x46) r) := by
  have hmn : mn (own : Int) (k : Int) = ((min own k : Nat) : Int) := by unfold mn; omega
  have HMN := Aside0.mk hmn
  clear hmn
  induction e with
  | zero =>
    intro n ws hn hg
    obtain rfl : n = min own k := by omega
    refine ⟨ws, hg, fun _ _ _ => rfl, Cg.refl _, fun r h => Ev.step (fun q => ?_) h⟩
    simp only [impl_ChanceOfColours.l4]
    rw [HMN.out, if_neg (by omega)]
  | succ e ih =>
    intro n ws hn hg
    have hnk : n + 1 ≤ k := by omega
    have hno : n + 1 ≤ own := by omega
    obtain ⟨v, hv⟩ : ∃ v, v = wrap64 (vl ws k c + wrap64 (wB own (n + 1) * vl ws (k - (n + 1)) (c - 1))) := ⟨_, rfl⟩
    have hcg : Cg v (vl ws k c + wB own (n + 1) * vl ws (k - (n + 1)) (c - 1)) := by rw [hv]; exact (Cg.wrap _).trans ((Cg.refl _).add (Cg.wrap _))
    have hg2 : Grid K L (put ws k c v) := hg.put hk hcL (by rw [hv]; exact InR.wrap _)
    obtain ⟨ws', h1, h2, h3, h4⟩ := ih (n + 1) (put ws k c v) (by omega) hg2
    have hsame : ∀ t, addS own (vl (put ws k c v)) k c t = addS own (vl ws) k c t := fun t => sumN_congr fun q _ => by rw [vl_put_ne hg hk (by omega)]
    refine ⟨ws', h1, fun j q hne => by rw [h2 j q hne, vl_put_ne hg hk hne], ?_, fun r hr => ?_⟩
    · rw [hsame, hsame, vl_put hg hk hcL] at h3
      have e1 : addS own (vl ws) k c (n + 1) = addS own (vl ws) k c n + wB own (n + 1) * vl ws (k - (n + 1)) (c - 1) := rfl
      rw [e1] at h3
      generalize wB own (n + 1) * vl ws (k - (n + 1)) (c - 1) = z at *
      obtain ⟨q1, e2⟩ := h3
      obtain ⟨q2, e3⟩ := hcg
      exact ⟨q1 + q2, by omega⟩
    · have h5 := h4 r hr
      have w1 : wrap64 ((k : Int) - ((n + 1 : Nat) : Int)) = ((k - (n + 1) : Nat) : Int) := by unfold wrap64; omega
      have w2 : wrap64 ((c : Int) - 1) = ((c - 1 : Nat) : Int) := by unfold wrap64; omega
      have w3 : wrap64 (((n + 1 : Nat) : Int) + 1) = ((n + 1 + 1 : Nat) : Int) := by unfold wrap64; omega
      have W1 := Aside0.mk w1
      have W2 := Aside0.mk w2
      have W3 := Aside0.mk w3
      clear w1 w2 w3
      have hl := hg.len
      have r1 := hg.row k hk
      have r2 := hg.row (k - (n + 1)) (by omega)
      have HV := Aside0.mk hv
      clear hv
      refine Ev.step (f := fun q => (impl_choose.f q (own : Int) ((n + 1 : Nat) : Int)).bind fun t => impl_ChanceOfColours.l4 q x0 (K : Int) a2 (put ws k c (wrap64 (vl ws k c + wrap64 (t * vl ws (k - (n + 1)) (c - 1))))) (own : Int) (k : Int) (c : Int) ((n + 1 + 1 : Nat) : Int) x44 x45 x46) (fun q => ?_) (Ev.bind (choose_ev (by omega) hno) ?_)
      · simp only [impl_ChanceOfColours.l4]
        rw [HMN.out, if_pos (by omega), if_pos (by omega), if_pos (by omega), if_pos (by omega), if_pos (by omega), W1.out, W2.out, W3.out]
        refine congrArg _ (funext fun t => ?_)
        rw [if_pos (by omega), if_pos (by omega), if_pos (by omega), if_pos (by omega), Int.toNat_natCast, Int.toNat_natCast]
        rfl
      · rw [← HV.out]
        exact h5
theorem l3_ev (hK : K ≤ 40) (hL : L ≤ 8) (own : Nat) (ho : own ≤ 20) (k : Nat) (hk : k ≤ K) : ∀ (c : Nat) (ws : List (List Int)), c ≤ L → Grid K L ws →
    ∃ ws' : List (List Int), Grid K L ws' ∧ (∀ j q, (j ≠ k ∨ q = 0 ∨ c < q) → vl ws' j q = vl ws j q) ∧ (∀ q, 1 ≤ q → q ≤ c → Cg (vl ws' k q) (vl ws k q + addS own (vl ws) k q (min own k))) ∧
      (∀ r, Ev (fun q => impl_ChanceOfColours.l2 q x0 (K : Int) a2 ws' (own : Int) (wrap64 ((k : Int) - 1)) x44 x45 x46) r → Ev (fun q => impl_ChanceOfColours.l3 q x0 (K : Int) a2 ws (own : Int) (k : Int) (c : Int) x44 x45 x46) r)
  | 0, ws, _, hg => by
    refine ⟨ws, hg, fun _ _ _ => rfl, fun q h1 h2 => by omega, fun r h => Ev.step (fun q => ?_) h⟩
    simp only [impl_ChanceOfColours.l3]
    rw [if_neg (by omega)]
  | c + 1, ws, hc, hg => by
    obtain ⟨ws1, g1, g2, g3, g4⟩ := l4_ev x0 a2 x44 x45 x46 hK hL own ho k (c + 1) hk (by omega) hc (min own k) 0 ws (by omega) hg
    obtain ⟨ws', h1, h2, h3, h4⟩ := l3_ev hK hL own ho k hk c ws1 (by omega) g1
    have hsame : ∀ q, q ≤ c → ∀ t, t ≤ k → addS own (vl ws1) k q t = addS own (vl ws) k q t := fun q hq t ht => sumN_congr fun p hp => by rw [g2 _ _ (by omega)]
    refine ⟨ws', h1, fun j q hne => by rw [h2 j q (by omega), g2 j q (by omega)], fun q hq1 hq2 => ?_, fun r hr => ?_⟩
    · by_cases e : q = c + 1
      · subst e
        rw [h2 k (c + 1) (by omega)]
        have : addS own (vl ws) k (c + 1) 0 = 0 := rfl
        rw [this, Int.add_zero] at g3
        exact g3
      · have := h3 q hq1 (by omega)
        rw [hsame q (by omega) _ (by omega), g2 k q (by omega)] at this
        exact this
    · have w1 : wrap64 (((c + 1 : Nat) : Int) - 1) = ((c : Nat) : Int) := by unfold wrap64; omega
      have h5 := g4 r (by rw [w1]; exact h4 r hr)
      refine Ev.step (fun q => ?_) h5
      simp only [impl_ChanceOfColours.l3]
      rw [if_pos (by omega)]
      rfl
/-- What a colour makes of the ways. -/
def newS (own : Nat) (F : Nat → Nat → Int) (k c : Nat) : Int := if c = 0 then F k c else F k c + addS own F k c (min own k)
theorem l2c_ev (hK : K ≤ 40) (hL : L ≤ 8) (hx0 : x0.length = L) (own : Nat) (ho : own ≤ 20) : ∀ (k : Nat) (ws : List (List Int)), k ≤ K + 1 → Grid K L ws →
    ∃ ws' : List (List Int), Grid K L ws' ∧ (∀ j q, k ≤ j → vl ws' j q = vl ws j q) ∧ (∀ j q, j < k → q ≤ L → Cg (vl ws' j q) (newS own (vl ws) j q)) ∧
      (∀ r, Ev (fun q => impl_ChanceOfColours.l1 q x0 (K : Int) a2 ws' x44 x45 (wrap64 (x46 + 1))) r → Ev (fun q => impl_ChanceOfColours.l2 q x0 (K : Int) a2 ws (own : Int) ((k : Int) - 1) x44 x45 x46) r)
  | 0, ws, _, hg => by
    refine ⟨ws, hg, fun _ _ _ => rfl, fun j q h1 h2 => by omega, fun r h => Ev.step (fun q => ?_) h⟩
    simp only [impl_ChanceOfColours.l2]
    rw [if_neg (by omega)]
  | k + 1, ws, hk, hg => by
    obtain ⟨ws1, g1, g2, g3, g4⟩ := l3_ev x0 a2 x44 x45 x46 hK hL own ho k (by omega) L ws (Nat.le_refl _) hg
    obtain ⟨ws', h1, h2, h3, h4⟩ := l2c_ev hK hL hx0 own ho k ws1 (by omega) g1
    refine ⟨ws', h1, fun j q hj => by rw [h2 j q (by omega), g2 j q (by omega)], fun j q hj hq => ?_, fun r hr => ?_⟩
    · by_cases e : j = k
      · subst e
        rw [h2 j q (by omega)]
        unfold newS
        by_cases e0 : q = 0
        · rw [if_pos e0, g2 j q (by omega)]
          exact Cg.refl _
        · rw [if_neg e0]
          exact g3 q (by omega) hq
      · have := h3 j q (by omega) hq
        have hs : newS own (vl ws1) j q = newS own (vl ws) j q := by
          unfold newS addS
          rw [g2 j q (by omega), sumN_congr (f := fun p => wB own (p + 1) * vl ws1 (j - (p + 1)) (q - 1)) (g := fun p => wB own (p + 1) * vl ws (j - (p + 1)) (q - 1)) (fun p hp => by rw [g2 _ _ (by omega)])]
        rw [hs] at this
        exact this
    · have w1 : wrap64 ((k : Int) - 1) = (k : Int) - 1 := by unfold wrap64; omega
      have h5 := g4 r (by rw [w1]; exact h4 r hr)
      refine Ev.step (fun q => ?_) h5
      have e : ((k + 1 : Nat) : Int) - 1 = (k : Int) := by omega
      simp only [impl_ChanceOfColours.l2]
      rw [e, if_pos (by omega), hx0]
end
theorem wB_zero_all : (List.range 41).all (fun n => decide (wB n 0 = 1)) = true := by decide +kernel
theorem wB_zero {n : Nat} (h : n ≤ 40) : wB n 0 = 1 := by
  have := List.all_eq_true.1 wB_zero_all n (by simp; omega)
  simpa using this
theorem more99 (d : Nat) : moreOf 99 d = min d 1 := by unfold moreOf; rw [if_pos rfl]
/-- A colour more: the ways. -/
theorem T_new (l : List Nat) {own : Nat} (ho : own ≤ 20) (k c : Nat) : T wB (moreOf 99) (l ++ [own]) (k : Int) (c : Int) = newS own (fun j q => T wB (moreOf 99) l (j : Int) (q : Int)) k c := by
  rw [T_snoc, Nat.add_comm own 1, sumN_split]
  have e0 : sumN 1 (fun d => wB own d * T wB (moreOf 99) l ((k : Int) - (d : Int)) ((c : Int) - ((moreOf 99 d : Nat) : Int))) = T wB (moreOf 99) l (k : Int) (c : Int) := by
    simp only [sumN]
    rw [wB_zero (by omega), more99]
    simp
  rw [e0]
  unfold newS
  by_cases hc : c = 0
  · rw [if_pos hc, sumN_zero (fun d _ => by rw [T_neg (by rw [more99]; omega)]; simp), Int.add_zero]
  · rw [if_neg hc]
    unfold addS
    rw [sumN_longer (n := min own k) (m := own) (by omega) (fun d h1 h2 => by rw [T_neg (by omega)]; simp)]
    congr 1
    refine sumN_congr fun q hq => ?_
    rw [more99, Nat.add_comm 1 q]
    congr 2 <;> omega
theorem newS_cg {own : Nat} {F G : Nat → Nat → Int} {k c : Nat} (h : ∀ j q, j ≤ k → q ≤ c → Cg (F j q) (G j q)) : Cg (newS own F k c) (newS own G k c) := by
  unfold newS
  split
  · exact h k c (Nat.le_refl _) (Nat.le_refl _)
  · exact (h k c (Nat.le_refl _) (Nat.le_refl _)).add (Cg.sum fun q _ => (h _ _ (by omega) (by omega)).mull _)
/-- All colours. -/
theorem l1c_ev (hK : K ≤ 40) (ns : List Nat) (h20 : ∀ n ∈ ns, n ≤ 20) (hl8 : ns.length ≤ 8) (a2 : Int) (e : Nat) : ∀ (i : Nat) (ws : List (List Int)), i + e = ns.length → Grid K ns.length ws → (∀ k c, k ≤ K → c ≤ ns.length → Cg (vl ws k c) (T wB (moreOf 99) (ns.take i) (k : Int) (c : Int))) →
    ∃ ws' : List (List Int), Grid K ns.length ws' ∧ (∀ k c, k ≤ K → c ≤ ns.length → Cg (vl ws' k c) (T wB (moreOf 99) ns (k : Int) (c : Int))) ∧
      (∀ r, Ev (fun q => impl_ChanceOfColours.l1 q (toI ns) (K : Int) a2 ws' (toI ns) ((toI ns).length : Int) ((toI ns).length : Int)) r → Ev (fun q => impl_ChanceOfColours.l1 q (toI ns) (K : Int) a2 ws (toI ns) ((toI ns).length : Int) (i : Int)) r) := by
  have hl : (toI ns).length = ns.length := by simp [toI]
  induction e with
  | zero =>
    intro i ws hi hg hv
    obtain rfl : i = ns.length := by omega
    refine ⟨ws, hg, fun k c hk hc => by have := hv k c hk hc; rw [List.take_length] at this; exact this, fun r h => by rw [hl] at h ⊢; exact h⟩
  | succ e ih =>
    intro i ws hi hg hv
    have hil : i < ns.length := by omega
    have ho := h20 ns[i] (List.getElem_mem hil)
    have htk : ns.take (i + 1) = ns.take i ++ [ns[i]] := by rw [List.take_succ_eq_append_getElem hil]
    obtain ⟨ws1, g1, g2, g3, g4⟩ := l2c_ev (toI ns) a2 (toI ns) ((toI ns).length : Int) (i : Int) hK hl8 hl ns[i] ho (K + 1) ws (Nat.le_refl _) hg
    obtain ⟨ws', h1, h2, h3⟩ := ih (i + 1) ws1 (by omega) g1 (fun k c hk hc => by
      rw [htk, T_new _ ho]
      exact (g3 k c (by omega) hc).trans (newS_cg fun j q hj hq => hv j q (by omega) (by omega)))
    refine ⟨ws', h1, h2, fun r hr => ?_⟩
    have w1 : wrap64 ((i : Int) + 1) = ((i + 1 : Nat) : Int) := by unfold wrap64; omega
    have h5 := g4 r (by rw [w1]; exact h3 r hr)
    have hrd : rd (toI ns) (i : Int) = ((ns[i] : Nat) : Int) := by simp [toI, rd, List.getD_eq_getElem?_getD, hil]
    refine Ev.step (fun q => ?_) h5
    simp only [impl_ChanceOfColours.l1]
    rw [if_pos (by omega), if_pos (by omega), if_pos (by omega), hrd, show ((K + 1 : Nat) : Int) - 1 = (K : Int) by omega]
theorem l0c_ev (hK : K ≤ 40) (x0 : List Int) (hL8 : x0.length ≤ 8) (a2 : Int) (e : Nat) : ∀ (i : Nat) (ws : List (List Int)), i + e = K + 1 → ws.length = K + 1 → (∀ j, j < i → rd_L1 ws (j : Int) = List.replicate (x0.length + 1) 0) →
    ∃ ws' : List (List Int), Grid K x0.length ws' ∧ (∀ k c, k ≤ K → c ≤ x0.length → vl ws' k c = if k = 0 ∧ c = 0 then 1 else 0) ∧
      (∀ r, Ev (fun q => impl_ChanceOfColours.l1 q x0 (K : Int) a2 ws' x0 (x0.length : Int) 0) r → Ev (fun q => impl_ChanceOfColours.l0 q x0 (K : Int) a2 ws ((K + 1 : Nat) : Int) (i : Int)) r) := by
  have hw : wrap64 ((x0.length : Int) + 1) = ((x0.length + 1 : Nat) : Int) := by unfold wrap64; omega
  induction e with
  | zero =>
    intro i ws hi hl hr
    obtain rfl : i = K + 1 := by omega
    have hg : Grid K x0.length ws := by
      refine ⟨hl, fun k hk => by rw [hr k (by omega)]; simp, fun k c hk hc => ?_⟩
      unfold vl
      rw [hr k (by omega), rd_rep]
      unfold InR
      omega
    refine ⟨put ws 0 0 1, hg.put (by omega) (by omega) (by unfold InR; omega), fun k c hk hc => ?_, fun r h => Ev.step (fun q => ?_) h⟩
    · by_cases e : k = 0 ∧ c = 0
      · obtain ⟨rfl, rfl⟩ := e
        rw [if_pos ⟨rfl, rfl⟩]
        exact vl_put hg (by omega) (by omega) 1
      · rw [if_neg e, vl_put_ne hg (by omega) (by omega)]
        unfold vl
        rw [hr k (by omega), rd_rep]
    · have r0 := hr 0 (by omega)
      simp only [impl_ChanceOfColours.l0]
      rw [if_neg (by omega), if_pos (by omega), if_pos (by rw [show ((0 : Int)) = ((0 : Nat) : Int) from rfl, r0]; simp)]
      rfl
  | succ e ih =>
    intro i ws hi hl hr
    have hin : wrap64 ((i : Int) + 1) = ((i + 1 : Nat) : Int) := by unfold wrap64; omega
    obtain ⟨ws', h1, h2, h3⟩ := ih (i + 1) (ws.set i (List.replicate (x0.length + 1) 0)) (by omega) (by rw [List.length_set]; exact hl) (fun j hj => by
      by_cases q : j = i
      · subst q
        rw [row_set_same (by omega)]
      · rw [row_set_other q]
        exact hr j (by omega))
    refine ⟨ws', h1, h2, fun r h => Ev.step (fun q => ?_) (h3 r h)⟩
    simp only [impl_ChanceOfColours.l0]
    rw [if_pos (by omega), hw, if_pos (by omega), if_pos (by omega), if_pos (by omega), if_pos (by omega), hin, Int.toNat_natCast, Int.toNat_natCast]
theorem chLow_zero {den : Int} (h : 0 < den) (h2 : den ≤ 1099511627776) : Ev (fun k => spec_chLow.f k 0 den) (0, 1) := by
  refine Ev.congr (f := fun k => spec_chLow.l0 k 0 den 0 den) (fun k => rfl) (Ev.step (f := fun k => spec_chLow.l0 k 0 den den 0) (fun k => ?_) (Ev.step (f := fun _ => some (0, 1)) (fun k => ?_) (Ev.now _)))
  · simp only [spec_chLow.l0]
    rw [if_pos (by omega), if_neg (by omega), Int.zero_tmod]
  · simp only [spec_chLow.l0]
    rw [if_neg (by omega), if_neg (by omega), Int.zero_tdiv, Int.tdiv_self (by omega)]
    simp [wrap64]
theorem foldr_one (l : List Nat) : (l.foldr (fun _ s => 1 + s) 0 : Nat) = l.length := by
  induction l with
  | nil => rfl
  | cons x l ih => simp only [List.foldr, ih, List.length_cons]; omega
theorem start_T {w : Nat → Nat → Int} {m : Nat → Nat} {ns : List Nat} (k c : Nat) : T w m (ns.take 0) (k : Int) (c : Int) = if k = 0 ∧ c = 0 then 1 else 0 := by
  rw [List.take_zero]
  simp only [T]
  by_cases q : k = 0 ∧ c = 0
  · rw [if_pos q, if_pos (by omega)]
  · rw [if_neg q, if_neg (by omega)]
theorem ChanceOfColours_both (l : List Int) (a1 a2 : Int) (hn : l.length ≤ 1048576) : ∃ r, Ev (fun k => spec_ChanceOfColours.f k l a1 a2) r ∧ Ev (fun k => impl_ChanceOfColours.f k l a1 a2) r := by
  obtain ⟨e1, e2⟩ := asked_ev l a1 hn
  cases h : asked l a1 with
  | false =>
    rw [h] at e1 e2
    refine ⟨(0, 0, false), Ev.bind e2 (Ev.congr (f := fun k => spec_ChanceOfColours.j0 k l a1 a2 true) (fun k => by rw [if_neg (by decide)]) (Ev.step (f := fun _ => some (0, 0, false)) (fun k => by simp [spec_ChanceOfColours.j0]) (Ev.now _))), Ev.bind e1 (Ev.congr (f := fun k => impl_ChanceOfColours.j0 k l a1 a2 true) (fun k => by rw [if_neg (by decide)]) (Ev.step (f := fun _ => some (0, 0, false)) (fun k => by simp [impl_ChanceOfColours.j0]) (Ev.now _)))⟩
  | true =>
    rw [h] at e1 e2
    by_cases hneg : a2 < 0
    · refine ⟨(0, 0, false), Ev.bind e2 (Ev.congr (f := fun k => spec_ChanceOfColours.j0 k l a1 a2 true) (fun k => by rw [if_pos rfl, decide_eq_true hneg]) (Ev.step (f := fun _ => some (0, 0, false)) (fun k => by simp [spec_ChanceOfColours.j0]) (Ev.now _))), Ev.bind e1 (Ev.congr (f := fun k => impl_ChanceOfColours.j0 k l a1 a2 true) (fun k => by rw [if_pos rfl, decide_eq_true hneg]) (Ev.step (f := fun _ => some (0, 0, false)) (fun k => by simp [impl_ChanceOfColours.j0]) (Ev.now _)))⟩
    · obtain ⟨hf, h0, h1⟩ := asked_of h
      obtain ⟨_, f2, f3, _, _⟩ := few_of hf
      have etot := total_ev f2 f3
      have esum := soSum_ev f2 f3
      obtain ⟨ns, rfl, h20, hl1, hl8, hs1, hs40, ht⟩ := few_ns hf
      rw [ht] at h1 etot esum
      obtain ⟨K, rfl⟩ := Int.eq_ofNat_of_zero_le h0
      obtain ⟨C, rfl⟩ := Int.eq_ofNat_of_zero_le (show 0 ≤ a2 by omega)
      have hKs : K ≤ sumL ns := by omega
      have hK : K ≤ 40 := by omega
      have hlen : (toI ns).length = ns.length := by simp [toI]
      obtain ⟨tab, t1, t2, t3⟩ := chTable_ev K hK ns h20 hl8 hs40 99
      have hden := wB_pos (n := sumL ns) (d := K) hs40 hKs
      have hdenle := wB_le (sumL ns) K
      have hb := T_bound (m := moreOf 99) h20 hs40 (K : Int) (C : Int)
      -- the reference's number
      have hof : spec_chOf.f tab (C : Int) = some (T wB (moreOf 99) ns (K : Int) (C : Int)) := by
        unfold spec_chOf.f
        by_cases c1 : (C : Int) ≥ (tab.length : Int)
        · rw [if_pos c1, T_share 1 (fun d => by rw [more99]; omega) (by omega)]
        · rw [if_neg c1, if_pos (by omega), if_pos (by omega), t2 C (by omega)]
      have espec : ∀ p q, Ev (fun k => spec_chLow.f k (T wB (moreOf 99) ns (K : Int) (C : Int)) (wB (sumL ns) K)) (p, q) → Ev (fun k => spec_ChanceOfColours.f k (toI ns) (K : Int) (C : Int)) (p, q, true) := fun p q hpq =>
        Ev.bind e2 (Ev.congr (f := fun k => spec_ChanceOfColours.j0 k (toI ns) (K : Int) (C : Int) false) (fun k => by rw [if_pos rfl, decide_eq_false hneg]) (Ev.step (f := fun k => (spec_chTable.f k (toI ns) (K : Int) 99).bind fun t => (spec_chOf.f t (C : Int)).bind fun t136 => (spec_soSum.f k (toI ns)).bind fun t137 => (spec_chChoose.f k t137 (K : Int)).bind fun t138 => (spec_chLow.f k t136 t138).bind fun b => some (b.1, b.2, true)) (fun k => by simp only [spec_ChanceOfColours.j0]; rw [if_neg (by decide)]) (Ev.bind t3 (Ev.congr (f := fun k => (spec_soSum.f k (toI ns)).bind fun t137 => (spec_chChoose.f k t137 (K : Int)).bind fun t138 => (spec_chLow.f k (T wB (moreOf 99) ns (K : Int) (C : Int)) t138).bind fun b => some (b.1, b.2, true)) (fun k => by rw [hof]; rfl) (Ev.bind esum (Ev.bind (chChoose_ev hs40 hKs) (Ev.bind hpq (Ev.now _))))))))
      -- the program's table
      have hw1 : wrap64 ((K : Int) + 1) = ((K + 1 : Nat) : Int) := by unfold wrap64; omega
      obtain ⟨ws0, a1, a2, a3⟩ := l0c_ev (K := K) hK (toI ns) (by omega) (C : Int) (K + 1) 0 (List.replicate (K + 1) []) (by omega) (by simp) (fun j hj => by omega)
      rw [hlen] at a1 a2
      obtain ⟨ws, b1, b2, b3⟩ := l1c_ev hK ns h20 hl8 (C : Int) ns.length 0 ws0 (by omega) a1 (fun k c hk hc => Cg.of ((a2 k c hk hc).trans (start_T k c).symm))
      have eimpl : ∀ r, Ev (fun q => impl_ChanceOfColours.l1 q (toI ns) (K : Int) (C : Int) ws (toI ns) ((toI ns).length : Int) ((toI ns).length : Int)) r → Ev (fun k => impl_ChanceOfColours.f k (toI ns) (K : Int) (C : Int)) r := fun r hr =>
        Ev.bind e1 (Ev.congr (f := fun k => impl_ChanceOfColours.j0 k (toI ns) (K : Int) (C : Int) false) (fun k => by rw [if_pos rfl, decide_eq_false hneg]) (Ev.step (f := fun k => impl_ChanceOfColours.l0 k (toI ns) (K : Int) (C : Int) (List.replicate (K + 1) []) ((K + 1 : Nat) : Int) 0) (fun k => by
          simp only [impl_ChanceOfColours.j0]
          rw [if_neg (by decide), hw1, if_pos (by omega), if_pos (by omega), Int.toNat_natCast]
          simp) (a3 r (b3 r hr))))
      by_cases hC : ns.length < C
      · have hz : T wB (moreOf 99) ns (K : Int) (C : Int) = 0 := T_high (fun _ => 1) (fun n d _ => by rw [more99]; omega) (by rw [foldr_one]; omega)
        refine ⟨(0, 1, true), espec 0 1 (by rw [hz]; exact chLow_zero (by omega) hdenle), eimpl _ (Ev.step (f := fun _ => some (0, 1, true)) (fun k => ?_) (Ev.now _))⟩
        simp only [impl_ChanceOfColours.l1]
        rw [if_neg (by omega), if_pos (by omega)]
      · obtain ⟨p, q, p1, p2⟩ := frac_ev (T wB (moreOf 99) ns (K : Int) (C : Int)) (wB (sumL ns) K) hb.1 (by omega)
        have hv : vl ws K C = T wB (moreOf 99) ns (K : Int) (C : Int) := (b2 K C (Nat.le_refl _) (by omega)).eq (b1.inr K C (Nat.le_refl _) (by omega)) (by unfold InR; omega)
        have hwl := b1.len
        have hwr := b1.row K (Nat.le_refl _)
        refine ⟨(p, q, true), espec p q p1, eimpl _ (Ev.step (f := fun k => (impl_total.f k (toI ns)).bind fun t => (impl_choose.f k t (K : Int)).bind fun u => (impl_fraction.f k (T wB (moreOf 99) ns (K : Int) (C : Int)) u).bind fun b => some (b.1, b.2.1, b.2.2)) (fun k => ?_) (Ev.bind etot (Ev.bind (choose_ev hs40 hKs) (Ev.bind p2 (Ev.now _)))))⟩
        simp only [impl_ChanceOfColours.l1]
        rw [if_neg (by omega), if_neg (by omega), if_pos (by omega), if_pos (by omega), if_pos (by omega), if_pos (by omega), ← hv]
        rfl
end Go.Proofs.Ytnikblimnjpmpaa.X
