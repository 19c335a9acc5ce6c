/- The library's Concat over rows of numbers: its contract. -/
import Derived.Test.YtbfapmckkmmnjaaX0
import Derived.Lib.Hide
namespace Go.Proofs.Ytbfapmckkmmnjaa.X
open Go.RowKit Go.Proofs.YtbfapmckkmmnjaaW.PrintWords Go.Proofs.YtbfapmckkmmnjaaW.PrintLast Go.Proofs.YtbfapmckkmmnjaaW.PrintMore
set_option linter.unusedVariables false
set_option linter.unusedSimpArgs false

set_option maxHeartbeats 1000000 in
set_option maxRecDepth 100000 in
theorem grow_calls (n : Nat) (hn : n < 17592186044416) (w : World) :
    Calls Try.prog 44 #[.slice none 0 0, .int .i64 (n : Int)] w fun e w' => ∃ v, e = .returned v ∧ Kd.R (Kd.int .i64) 3 w' w.heap.size (fun _ => True) v [] ∧ Below w.heap.size w w' := by
  have HN := Aside0.mk hn
  have e1 : wrap64 (n : Int) = (n : Int) := by unfold wrap64; omega
  have c1 : decide ((n : Int) < 0) = false := decide_eq_false (by omega)
  have HO := Aside0.mk (Kd.R_nil (Kd.int .i64) 3 w w.heap.size (fun _ => True))
  have HB := Aside0.mk (Below.refl w.heap.size w)
  clear hn
  by_cases h0 : n = 0
  · subst h0
    go_enter Try.func44, Try.ntmps44
    go_wp2
    go_ret
    exact ⟨_, rfl, HO.out, HB.out⟩
  · have c2 : decide ((n : Int) > 0) = true := decide_eq_true (by omega)
    have c3 : decide (0 < (n : Int)) = true := decide_eq_true (by omega)
    have c4 : decide (0 < n) = true := decide_eq_true (by omega)
    have c5 : (0 < n) = True := eq_true (by omega)
    clear h0
    go_enter Try.func44, Try.ntmps44
    go_wp2_with (first | ((with_reducible refine gate_builtin (b := .append) (xs := #[.tmp 20, .tmp 21]) rfl ?_); at_builtin; refine Kd.R_append_zeros (P := Try.prog) (Kd.int .i64) (w0 := w) w.heap.size rfl (.tmp 20) (.tmp 21) 22 3 3 (.int .i64 0) 8 rfl Try.underlying22 Try.underlying3 info3 rfl (by decide) (by decide) (.slice none 0 0) [] 0 (wrap64 (n : Int)) (fun _ => True) rfl rfl ?aZ (fun _ _ => trivial) HO.out (by rw [e1]; exact Int.natCast_nonneg n) HB.out (below_size HB.out) (by rw [e1, Int.toNat_natCast]; have := HN.out; simp; omega) ?_; (case aZ => exact rfl); intro v w1 ho hb hg hat; rw [List.nil_append] at ho; obtain ⟨A, c, rfl⟩ := Kd.R_slice ho; have H1 := Aside0.mk (Kd.R_take ho (Nat.zero_le _)); have H2 := Aside0.mk hb; have hl := (Kd.R_reads' ho).2.1; clear ho hb hg hat))
    go_ret
    exact ⟨_, rfl, H1.out, H2.out⟩

def slices_Concat_int_int.f (l0 : List (List Int)) : Option (List Int) := if l0.flatten.length < 17592186044416 then some l0.flatten else none
theorem rd_L1_get {l : List (List Int)} {i : Nat} (h : i < l.length) : rd_L1 l (i : Int) = l[i] := by simp [rd_L1, List.getD_eq_getElem?_getD, h]
theorem flat_take {l : List (List Int)} {i : Nat} (h : i < l.length) : (l.take (i + 1)).flatten = (l.take i).flatten ++ rd_L1 l (i : Int) := by
  rw [List.take_succ_eq_append_getElem h, List.flatten_append, rd_L1_get h]
  simp
theorem flat_le (l : List (List Int)) (i : Nat) : (l.take i).flatten.length ≤ l.flatten.length := by
  have h : l.flatten = (l.take i).flatten ++ (l.drop i).flatten := by rw [← List.flatten_append, List.take_append_drop]
  rw [h, List.length_append]
  omega
def flen (l : List (List Int)) (i : Nat) : Nat := (l.take i).flatten.length
theorem flen_succ {l : List (List Int)} {i : Nat} (h : i < l.length) : flen l (i + 1) = flen l i + (rd_L1 l (i : Int)).length := by
  unfold flen
  rw [flat_take h, List.length_append]
theorem flen_le (l : List (List Int)) (i : Nat) : flen l i ≤ flen l l.length := by
  have := flat_le l i
  unfold flen
  rw [List.take_length]
  exact this
set_option maxHeartbeats 2000000 in
set_option maxRecDepth 100000 in
theorem slices_Concat_int_int.calls (A0 : Option Addr) (c0 : Nat) (l0 : List (List Int)) (r : List Int) (w : World) (hr0 : Kd.C (Kd.slice 3 (Kd.int .i64)) w A0 l0.length l0) (hc0 : l0.length ≤ c0) (h : slices_Concat_int_int.f l0 = some r) :
    Calls Try.prog 41 #[.slice A0 l0.length c0] w fun e w' => ∃ v0_ : Value, e = .returned (v0_) ∧ Kd.R (Kd.int .i64) 3 w' w.heap.size (fun _ => True) v0_ r ∧ Below w.heap.size w w' := by
  have hm : l0.length ≤ 9223372036854775807 := hr0.2.1
  have HR0 := Aside0.mk hr0
  have HC0 := Aside0.mk hc0
  clear hr0 hc0
  unfold slices_Concat_int_int.f at h
  by_cases hq : l0.flatten.length < 17592186044416
  · rw [if_pos hq] at h
    obtain rfl := Option.some.inj h
    clear h
    have HQ := Aside0.mk (show flen l0 l0.length < 17592186044416 by unfold flen; rw [List.take_length]; exact hq)
    have hz : flen l0 0 = 0 := rfl
    clear hq
    go_enter Try.func41, Try.ntmps41
    go_wp2
    go_loopg [3, 11] l0.length (fun gg s3 s11 wr => ∃ (i : Nat), i ≤ l0.length ∧ l0.length - i ≤ gg ∧ s11 = .int .i64 i ∧ s3 = .int .i64 (flen l0 i : Int) ∧ Aside0 (Drawn0 w wr))
    case atStart => exact ⟨0, Nat.zero_le _, by omega, rfl, rfl, ⟨Drawn0.refl _⟩⟩
    case round =>
      obtain ⟨i, hi, hg, rfl, rfl, HD⟩ := hrel
      by_cases hlt : i < l0.length
      · have hltz : (i : Int) < (l0.length : Int) := by omega
        obtain ⟨ad1, A1, c1, e1, hx1, hc1, hr1⟩ := at_L1 HR0.out (i : Int) (by omega) hltz
        cases e1
        replace hx1 := (HD.out.below.cell (World.block_lt_of_cell? w _ hx1)).trans hx1
        rw [Int.toNat_natCast] at hx1
        clear hr1 hc1
        have e3 := flen_succ hlt
        have h4 := flen_le l0 (i + 1)
        have h5 := HQ.out
        have e2 : wrap64 ((flen l0 i : Int) + ((rd_L1 l0 (i : Int)).length : Int)) = (flen l0 (i + 1) : Int) := by unfold wrap64; omega
        have d2 : decide ((flen l0 (i + 1) : Int) < 0) = false := decide_eq_false (by omega)
        clear e3 h4 h5
        go_wp2
        go_roundg (l0.length - (i + 1))
        case measure => omega
        case rel => exact ⟨i + 1, by omega, by omega, by go_num, congrArg (Value.int .i64) e2, ⟨by first | exact HD.out | exact HD.out.step _ | exact (HD.out.step _).step _⟩⟩
      · have hltz : ¬ (i : Int) < (l0.length : Int) := by omega
        obtain rfl : i = l0.length := by omega
        go_wp2_with (first | (go_at_call 44; (with_reducible refine (grow_calls (flen l0 l0.length) HQ.out _).mono ?_); rintro e w2 ⟨v, rfl, ho, hb⟩; have HO := Aside0.mk (Kd.R_lower ho HD.out.below.size); have HB := Aside0.mk (HD.out.below.trans (hb.mono HD.out.below.size)); clear ho hb))
        clear HD
        go_loopg [6, 27] l0.length (fun gg s6 s27 wr => ∃ (i : Nat), i ≤ l0.length ∧ l0.length - i ≤ gg ∧ s27 = .int .i64 i ∧ Aside0 (Kd.R (Kd.int .i64) 3 wr w.heap.size (fun _ => True) s6 (l0.take i).flatten) ∧ Aside0 (Below w.heap.size w wr))
        case atStart => exact ⟨0, Nat.zero_le _, by omega, rfl, HO, HB⟩
        case round =>
          clear HO HB
          obtain ⟨i, hi, hg, rfl, HO, HB⟩ := hrel
          by_cases hlt : i < l0.length
          · have hltz : (i : Int) < (l0.length : Int) := by omega
            obtain ⟨ad1, A1, c1, e1, hx1, hc1, hr1⟩ := at_L1 HR0.out (i : Int) (by omega) hltz
            cases e1
            replace hx1 := (HB.out.cell (World.block_lt_of_cell? w _ hx1)).trans hx1
            rw [Int.toNat_natCast] at hx1
            have HR1 := Aside0.mk hr1
            clear hr1 hc1
            have HF := Aside0.mk (flat_take hlt)
            have hL : ((l0.take i).flatten.length + (rd_L1 l0 (i : Int)).length) * 8 ≤ 140737488355328 := by
              have e3 := flen_succ hlt
              have h4 := flen_le l0 (i + 1)
              have h5 := HQ.out
              unfold flen at e3 h4 h5
              omega
            have HL := Aside0.mk hL
            clear hL
            go_wp2_with (first | ((with_reducible refine gate_builtin (b := .append) (xs := #[.tmp 31, .tmp 32]) rfl ?_); at_builtin; refine Kd.R_append_rows (Kd.int .i64) (w0 := w) w.heap.size rfl (.tmp 31) (.tmp 32) 22 3 (.int .i64 0) 8 rfl Try.underlying22 info3 rfl (by decide) (by decide) _ (l0.take i).flatten (rd_L1 l0 (i : Int)) _ _ _ (fun _ => True) (fun _ => False) rfl rfl HO.out (Kd.C_below HR1.out HB.out) (fun _ _ h => h) (fun _ h => h.elim) (fun _ _ => trivial) HB.out (below_size HB.out) HL.out ?_; intro v1 w1 ho hb hg2 hat; rw [← HF.out] at ho; have HO2 := Aside0.mk ho; have HB2 := Aside0.mk hb; clear ho hb hg2 hat))
            go_roundg (l0.length - (i + 1))
            case measure => omega
            case rel => exact ⟨i + 1, by omega, by omega, by go_num, HO2, HB2⟩
          · have hltz : ¬ (i : Int) < (l0.length : Int) := by omega
            obtain rfl : i = l0.length := by omega
            rw [List.take_length] at HO
            go_wp2
            go_ret
            exact ⟨_, rfl, HO.out, HB.out⟩
  · rw [if_neg hq] at h
    cases h
#print axioms slices_Concat_int_int.calls
end Go.Proofs.Ytbfapmckkmmnjaa.X
