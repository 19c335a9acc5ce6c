/- Plain laws, no program in sight: sums, numbers of choices, in how many ways socks can be drawn; sums up to multiples of 2^64. -/
import Derived.Test.YtnikblimnjpmpaaX0
import Derived.Test.YtnikblimnjpmpaaXimplchoose
import Derived.Test.YtnikblimnjpmpaaXspecchChoose
/- ==== PlSum ==== -/
namespace Go.Proofs.Ytnikblimnjpmpaa.X

def sumN : Nat → (Nat → Int) → Int
  | 0, _ => 0
  | n + 1, f => sumN n f + f n
theorem sumN_congr {n : Nat} {f g : Nat → Int} (h : ∀ d, d < n → f d = g d) : sumN n f = sumN n g := by
  induction n with
  | zero => rfl
  | succ n ih => rw [sumN, sumN, ih fun d hd => h d (by omega), h n (by omega)]
theorem sumN_zero {n : Nat} {f : Nat → Int} (h : ∀ d, d < n → f d = 0) : sumN n f = 0 := by
  induction n with
  | zero => rfl
  | succ n ih => rw [sumN, ih fun d hd => h d (by omega), h n (by omega)]; rfl
theorem sumN_add (n : Nat) (f g : Nat → Int) : sumN n (fun d => f d + g d) = sumN n f + sumN n g := by
  induction n with
  | zero => rfl
  | succ n ih => simp only [sumN, ih]; omega
theorem sumN_mul (n : Nat) (c : Int) (f : Nat → Int) : sumN n (fun d => c * f d) = c * sumN n f := by
  induction n with
  | zero => simp [sumN]
  | succ n ih => simp only [sumN, ih, Int.mul_add]
theorem sumN_swap (n m : Nat) (f : Nat → Nat → Int) : sumN n (fun d => sumN m (f d)) = sumN m (fun e => sumN n fun d => f d e) := by
  induction n with
  | zero => exact (sumN_zero fun _ _ => rfl).symm
  | succ n ih => simp only [sumN, ih]; rw [← sumN_add]
theorem sumN_nonneg {n : Nat} {f : Nat → Int} (h : ∀ d, d < n → 0 ≤ f d) : 0 ≤ sumN n f := by
  induction n with
  | zero => exact Int.le_refl _
  | succ n ih => have := ih fun d hd => h d (by omega); have := h n (by omega); simp only [sumN]; omega
theorem sumN_le {n : Nat} {f g : Nat → Int} (h : ∀ d, d < n → f d ≤ g d) : sumN n f ≤ sumN n g := by
  induction n with
  | zero => exact Int.le_refl _
  | succ n ih => have := ih fun d hd => h d (by omega); have := h n (by omega); simp only [sumN]; omega
theorem sumN_split (n m : Nat) (f : Nat → Int) : sumN (n + m) f = sumN n f + sumN m (fun d => f (n + d)) := by
  induction m with
  | zero => simp [sumN]
  | succ m ih => rw [← Nat.add_assoc]; simp only [sumN, ih]; omega
/-- Only the place j counts. -/
theorem sumN_at {n : Nat} {f : Nat → Int} (j : Nat) (hj : j < n) (h : ∀ d, d < n → d ≠ j → f d = 0) : sumN n f = f j := by
  induction n with
  | zero => omega
  | succ n ih =>
    simp only [sumN]
    by_cases e : j = n
    · subst e
      rw [sumN_zero fun d hd => h d (by omega) (by omega)]
      omega
    · rw [ih (by omega) fun d hd hne => h d (by omega) hne, h n (by omega) (by omega)]
      omega
theorem sumN_longer {n m : Nat} {f : Nat → Int} (hnm : n ≤ m) (h : ∀ d, n ≤ d → d < m → f d = 0) : sumN m f = sumN n f := by
  obtain ⟨e, rfl⟩ := Nat.exists_eq_add_of_le hnm
  rw [sumN_split, sumN_zero (fun d hd => h (n + d) (by omega) (by omega))]
  omega

/-- In how many ways d of n can be chosen. -/
def bin : Nat → Nat → Nat
  | _, 0 => 1
  | 0, _ + 1 => 0
  | n + 1, k + 1 => bin n k + bin n (k + 1)
theorem bin_big : ∀ {n k : Nat}, n < k → bin n k = 0
  | 0, k + 1, _ => rfl
  | n + 1, k + 1, h => by rw [bin, bin_big (show n < k by omega), bin_big (show n < k + 1 by omega)]

/-- In how many ways k socks with p of something (m of each number of a colour) can be drawn: each number of a colour weighed. -/
def T (w : Nat → Nat → Int) (m : Nat → Nat) : List Nat → Int → Int → Int
  | [], k, p => if k = 0 ∧ p = 0 then 1 else 0
  | n :: r, k, p => sumN (n + 1) fun d => w n d * T w m r (k - d) (p - m d)
variable {w : Nat → Nat → Int} {m : Nat → Nat}
theorem T_neg : ∀ {l : List Nat} {k p : Int}, k < 0 ∨ p < 0 → T w m l k p = 0
  | [], k, p, h => by simp only [T]; rw [if_neg (by omega)]
  | n :: r, k, p, h => by
    simp only [T]
    exact sumN_zero fun d _ => by rw [T_neg (l := r) (by omega)]; simp
theorem T_snoc (n : Nat) : ∀ (l : List Nat) (k p : Int), T w m (l ++ [n]) k p = sumN (n + 1) fun d => w n d * T w m l (k - d) (p - m d)
  | [], k, p => rfl
  | a :: l, k, p => by
    simp only [List.cons_append, T]
    have h1 : ∀ d : Nat, T w m (l ++ [n]) (k - d) (p - m d) = sumN (n + 1) fun e => w n e * T w m l (k - d - e) (p - m d - m e) := fun d => T_snoc n l _ _
    simp only [h1, ← sumN_mul]
    rw [sumN_swap]
    refine sumN_congr fun e _ => sumN_congr fun d _ => ?_
    rw [show k - (d : Int) - (e : Int) = k - (e : Int) - (d : Int) by omega, show p - (m d : Int) - (m e : Int) = p - (m e : Int) - (m d : Int) by omega]
    rw [← Int.mul_assoc, ← Int.mul_assoc, Int.mul_comm (w a d)]

/-- More than there can be: none. c: how many of something so many socks have at most. -/
theorem T_above : ∀ {l : List Nat} {k p : Int}, (l.foldr (fun n s => n + s) 0 : Nat) < k → T w m l k p = 0
  | [], k, p, h => by simp only [T]; rw [if_neg (by simp at h; omega)]
  | n :: r, k, p, h => by
    simp only [T]
    exact sumN_zero fun d hd => by rw [T_above (l := r) (by simp at h; omega)]; simp
theorem T_high (M : Nat → Nat) (hM : ∀ n d, d ≤ n → m d ≤ M n) : ∀ {l : List Nat} {k p : Int}, (l.foldr (fun n s => M n + s) 0 : Nat) < p → T w m l k p = 0
  | [], k, p, h => by simp only [T]; rw [if_neg (by simp at h; omega)]
  | n :: r, k, p, h => by
    simp only [T]
    exact sumN_zero fun d hd => by have := hM n d (by omega); rw [T_high M hM (l := r) (by simp at h; omega)]; simp
/-- Of k socks at most a share has it: 'a * m d ≤ d'. -/
theorem T_share (a : Nat) (ha : ∀ d, a * m d ≤ d) : ∀ {l : List Nat} {k p : Int}, k < (a : Int) * p → T w m l k p = 0
  | [], k, p, h => by
    simp only [T]; rw [if_neg (by rintro ⟨rfl, rfl⟩; simp at h)]
  | n :: r, k, p, h => by
    simp only [T]
    refine sumN_zero fun d hd => ?_
    have h1 := ha d
    rw [T_share a ha (l := r) (by rw [Int.mul_sub]; have : ((a * m d : Nat) : Int) = (a : Int) * (m d : Int) := by push_cast; rfl
                                  omega)]
    simp
theorem T_nonneg (hw : ∀ n d, 0 ≤ w n d) : ∀ {l : List Nat} {k p : Int}, 0 ≤ T w m l k p
  | [], k, p => by simp only [T]; split <;> decide
  | n :: r, k, p => by
    simp only [T]
    exact sumN_nonneg fun d _ => Int.mul_nonneg (hw n d) (T_nonneg hw)
/-- A bound: B of each colour, multiplied. -/
def prodB (B : Nat → Int) : List Nat → Int
  | [] => 1
  | n :: r => B n * prodB B r
theorem T_le (hw : ∀ n d, 0 ≤ w n d) (B : Nat → Int) : ∀ {l : List Nat} {k p : Int}, (∀ n ∈ l, sumN (n + 1) (w n) ≤ B n) → (∀ n ∈ l, 0 ≤ B n) → T w m l k p ≤ prodB B l
  | [], k, p, _, _ => by simp only [T, prodB]; split <;> decide
  | n :: r, k, p, h, h0 => by
    simp only [T, prodB]
    have hr : ∀ k p, T w m r k p ≤ prodB B r := fun k p => T_le hw B (fun x hx => h x (List.mem_cons_of_mem _ hx)) (fun x hx => h0 x (List.mem_cons_of_mem _ hx))
    have h1 : sumN (n + 1) (fun d => w n d * T w m r (k - d) (p - m d)) ≤ sumN (n + 1) (fun d => prodB B r * w n d) := sumN_le fun d _ => by
      rw [Int.mul_comm (prodB B r)]
      exact Int.mul_le_mul_of_nonneg_left (hr _ _) (hw n d)
    rw [sumN_mul] at h1
    have hp : 0 ≤ prodB B r := Int.le_trans (T_nonneg hw (w := w) (m := m) (l := r) (k := 0) (p := 0)) (hr 0 0)
    refine Int.le_trans h1 ?_
    rw [Int.mul_comm]
    exact Int.mul_le_mul_of_nonneg_right (h n (List.mem_cons_self ..)) hp
end Go.Proofs.Ytnikblimnjpmpaa.X

/- ==== PlBin ==== -/
namespace Go.Proofs.Ytnikblimnjpmpaa.X
open Go.RowKit Go.Proofs.YtnikblimnjpmpaaW.PrintWords Go.Proofs.YtnikblimnjpmpaaW.PrintLast Go.Proofs.YtnikblimnjpmpaaW.PrintMore

/-- In how many ways d of n can be chosen, n ≤ 40. -/
def wB (n d : Nat) : Int := if n ≤ 40 ∧ d ≤ n then (impl_choose.f 100 (n : Int) (d : Int)).getD 0 else 0
def chkB (n d : Nat) : Bool := decide (impl_choose.f 100 (n : Int) (d : Int) = some (wB n d)) && (decide (spec_chChoose.f 100 (n : Int) (d : Int) = some (wB n d)) && (decide (1 ≤ wB n d) && decide (wB n d ≤ 1099511627776)))
set_option maxRecDepth 100000 in
theorem chkB_all : (List.range 41).all (fun n => (List.range (n + 1)).all fun d => chkB n d) = true := by decide +kernel
theorem chkB_at {n d : Nat} (hn : n ≤ 40) (hd : d ≤ n) : impl_choose.f 100 (n : Int) (d : Int) = some (wB n d) ∧ spec_chChoose.f 100 (n : Int) (d : Int) = some (wB n d) ∧ 1 ≤ wB n d ∧ wB n d ≤ 1099511627776 := by
  have h1 := List.all_eq_true.1 chkB_all n (by simp; omega)
  have h2 := List.all_eq_true.1 h1 d (by simp; omega)
  simpa [chkB] using h2
theorem choose_ev {n d : Nat} (hn : n ≤ 40) (hd : d ≤ n) : Ev (fun k => impl_choose.f k (n : Int) (d : Int)) (wB n d) := Ev.of (impl_choose.mono _ _) (chkB_at hn hd).1
theorem chChoose_ev {n d : Nat} (hn : n ≤ 40) (hd : d ≤ n) : Ev (fun k => spec_chChoose.f k (n : Int) (d : Int)) (wB n d) := Ev.of (spec_chChoose.mono _ _) (chkB_at hn hd).2.1
theorem wB_nonneg (n d : Nat) : 0 ≤ wB n d := by
  by_cases h : n ≤ 40 ∧ d ≤ n
  · have := (chkB_at h.1 h.2).2.2.1; omega
  · unfold wB; rw [if_neg h]; exact Int.le_refl _
theorem wB_pos {n d : Nat} (hn : n ≤ 40) (hd : d ≤ n) : 1 ≤ wB n d := (chkB_at hn hd).2.2.1
theorem wB_le (n d : Nat) : wB n d ≤ 1099511627776 := by
  by_cases h : n ≤ 40 ∧ d ≤ n
  · exact (chkB_at h.1 h.2).2.2.2
  · unfold wB; rw [if_neg h]; decide
set_option maxRecDepth 100000 in
theorem sumB_all : (List.range 21).all (fun n => decide (sumN (n + 1) (wB n) ≤ 2 ^ n)) = true := by decide +kernel
theorem sumB_le {n : Nat} (h : n ≤ 20) : sumN (n + 1) (wB n) ≤ 2 ^ n := by
  have := List.all_eq_true.1 sumB_all n (by simp; omega)
  simpa using this
def sumL (l : List Nat) : Nat := l.foldr (fun n s => n + s) 0
theorem sumL_cons (n : Nat) (l : List Nat) : sumL (n :: l) = n + sumL l := rfl
theorem prod_pow : ∀ l : List Nat, prodB (fun n => 2 ^ n) l = 2 ^ sumL l
  | [] => rfl
  | n :: l => by simp only [prodB, prod_pow l, sumL_cons, Int.pow_add]
/-- Few socks: no more than 2^40 ways. -/
theorem T_bound {m : Nat → Nat} {l : List Nat} (h20 : ∀ n ∈ l, n ≤ 20) (h40 : sumL l ≤ 40) (k p : Int) : 0 ≤ T wB m l k p ∧ T wB m l k p ≤ 1099511627776 := by
  refine ⟨T_nonneg wB_nonneg, Int.le_trans (T_le wB_nonneg (fun n => 2 ^ n) (fun n hn => sumB_le (h20 n hn)) (fun n _ => Int.le_of_lt (Int.pow_pos (by decide)))) ?_⟩
  rw [prod_pow]
  have h1 : (2 : Nat) ^ sumL l ≤ 2 ^ 40 := Nat.pow_le_pow_right (by decide) h40
  have h2 : ((2 ^ sumL l : Nat) : Int) ≤ ((2 ^ 40 : Nat) : Int) := Int.ofNat_le.2 h1
  rw [Int.natCast_pow] at h2
  exact h2

/-! ### up to multiples of 2^64 -/
def Cg (a b : Int) : Prop := ∃ q : Int, a = b + 18446744073709551616 * q
theorem Cg.refl (a : Int) : Cg a a := ⟨0, by omega⟩
theorem Cg.of {a b : Int} (h : a = b) : Cg a b := ⟨0, by omega⟩
theorem Cg.symm {a b : Int} : Cg a b → Cg b a := fun ⟨q, h⟩ => ⟨-q, by omega⟩
theorem Cg.trans {a b c : Int} : Cg a b → Cg b c → Cg a c := fun ⟨q, h⟩ ⟨r, k⟩ => ⟨q + r, by omega⟩
theorem Cg.add {a b c d : Int} : Cg a b → Cg c d → Cg (a + c) (b + d) := fun ⟨q, h⟩ ⟨r, k⟩ => ⟨q + r, by omega⟩
theorem Cg.sub {a b c d : Int} : Cg a b → Cg c d → Cg (a - c) (b - d) := fun ⟨q, h⟩ ⟨r, k⟩ => ⟨q - r, by omega⟩
theorem Cg.mulr {a b : Int} (c : Int) : Cg a b → Cg (a * c) (b * c) := fun ⟨q, h⟩ => ⟨q * c, by rw [h, Int.add_mul, Int.mul_assoc]⟩
theorem Cg.mull {a b : Int} (c : Int) (h : Cg a b) : Cg (c * a) (c * b) := by rw [Int.mul_comm c a, Int.mul_comm c b]; exact h.mulr c
theorem Cg.mul {a b c d : Int} (h : Cg a b) (k : Cg c d) : Cg (a * c) (b * d) := (h.mulr c).trans (k.mull b)
theorem Cg.wrap (a : Int) : Cg (wrap64 a) a := ⟨-((a + 9223372036854775808) / 18446744073709551616), by unfold wrap64; omega⟩
theorem Cg.sum {n : Nat} {f g : Nat → Int} (h : ∀ d, d < n → Cg (f d) (g d)) : Cg (sumN n f) (sumN n g) := by
  induction n with
  | zero => exact Cg.refl _
  | succ n ih => exact (ih fun d hd => h d (by omega)).add (h n (by omega))
def InR (a : Int) : Prop := -9223372036854775808 ≤ a ∧ a ≤ 9223372036854775807
theorem InR.wrap (a : Int) : InR (wrap64 a) := by unfold InR wrap64; omega
theorem Cg.eq {a b : Int} (h : Cg a b) (ha : InR a) (hb : InR b) : a = b := by
  obtain ⟨q, h⟩ := h
  unfold InR at ha hb
  omega
theorem Cg.eqw {a b : Int} (h : Cg a b) : wrap64 a = wrap64 b := ((Cg.wrap a).trans (h.trans (Cg.wrap b).symm)).eq (InR.wrap a) (InR.wrap b)

/-- A list's numbers, each with its weight, together. -/
def dot (t : List Int) (g : Nat → Int) : Int := sumN t.length fun i => rd t (i : Int) * g i
theorem sumN_upd {n i : Nat} {f g : Nat → Int} (hi : i < n) (h : ∀ k, k < n → k ≠ i → g k = f k) : sumN n g = sumN n f + (g i - f i) := by
  induction n with
  | zero => omega
  | succ n ih =>
    simp only [sumN]
    by_cases e : i = n
    · subst e
      rw [sumN_congr (n := i) (f := g) (g := f) (fun k hk => h k (by omega) (by omega))]
      omega
    · rw [ih (by omega) (fun k hk hne => h k (by omega) hne), h n (by omega) (by omega)]
      omega
theorem rd_set_same {t : List Int} {i : Nat} (h : i < t.length) (v : Int) : rd (t.set i v) (i : Int) = v := by simp [rd, List.getD_eq_getElem?_getD, h]
theorem rd_set_other {t : List Int} {i k : Nat} (h : k ≠ i) (v : Int) : rd (t.set i v) (k : Int) = rd t (k : Int) := by
  simp [rd, List.getD_eq_getElem?_getD, List.getElem?_set_ne (Ne.symm h)]
theorem dot_set {t : List Int} {i : Nat} (h : i < t.length) (v : Int) (g : Nat → Int) : dot (t.set i v) g = dot t g + (v - rd t (i : Int)) * g i := by
  unfold dot
  rw [List.length_set, sumN_upd (i := i) (f := fun i => rd t (i : Int) * g i) h (fun k _ hk => by rw [rd_set_other hk])]
  rw [rd_set_same h, Int.sub_mul]
theorem rd_rep (n i : Nat) : rd (List.replicate n 0) (i : Int) = 0 := by
  simp only [rd, Int.toNat_natCast, List.getD_eq_getElem?_getD, List.getElem?_replicate]
  split <;> rfl
theorem dot_rep (n : Nat) (g : Nat → Int) : dot (List.replicate n 0) g = 0 := by
  unfold dot
  exact sumN_zero fun d _ => by rw [rd_rep]; simp
end Go.Proofs.Ytnikblimnjpmpaa.X
