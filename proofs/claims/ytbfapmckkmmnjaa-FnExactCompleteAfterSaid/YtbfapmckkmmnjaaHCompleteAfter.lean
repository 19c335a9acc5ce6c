/- The program's CompleteAfter: its contract. -/
import Derived.Test.YtbfapmckkmmnjaaX0
import Derived.Test.YtbfapmckkmmnjaaXimplarePairs
import Derived.Test.YtbfapmckkmmnjaaXimpltimes
import Derived.Maps.OwnSet
import Derived.Maps.OwnOps
import Derived.Lib.Hide
namespace Go.Proofs.Ytbfapmckkmmnjaa.X
open Go.RowKit Go.Proofs.YtbfapmckkmmnjaaW.PrintWords Go.Proofs.YtbfapmckkmmnjaaW.PrintLast Go.Proofs.YtbfapmckkmmnjaaW.PrintMore
set_option linter.unusedVariables false
set_option linter.unusedSimpArgs false

def caL : List Int → List Int → List Int → Int → List Int
  | _, [], out, _ => out
  | seen, x :: r, out, now => if x ∈ seen then caL seen r (out ++ [now]) now else caL (x :: seen) r (out ++ [wrap64 (now - 1)]) (wrap64 (now - 1))
def caOk (l : List Int) : Bool := decide (l.length < 1000000000) && l.all fun x => (Lit.int .i64 x).wf
def impl_CompleteAfter.g (a0 : Int) (l1 : List Int) (b : List Int × Bool) : Option (List Int × Bool) := if b.2 = true then (if caOk l1 = true then some (caL [] l1 [a0] a0, true) else none) else some ([], false)
def impl_CompleteAfter.f (k : Nat) (a0 : Int) (l1 : List Int) : Option (List Int × Bool) := (impl_arePairs.f a0).bind fun t => if t = true then (impl_times.f k a0 l1).bind (impl_CompleteAfter.g a0 l1) else some ([], false)
theorem impl_CompleteAfter.mono : ∀ a0 a1 k, LeO (impl_CompleteAfter.f k a0 a1) (impl_CompleteAfter.f (k + 1) a0 a1) := by
  intro a0 a1 k
  unfold impl_CompleteAfter.f
  exact LeO.bind (LeO.refl _) (fun _ => LeO.ite (LeO.bind (impl_times.mono _ _ _) (fun _ => LeO.refl _)) (LeO.refl _))

def dmap : List Int → DataW Unit
  | [] => .map []
  | x :: r => (dmap r).put (.int .i64 x) (.lit (.bool true))
theorem dmap_is : ∀ s, Go.Maps.IsMap (dmap s)
  | [] => Go.Maps.isMap_empty
  | _ :: r => (dmap_is r).put _ _
theorem dmap_at (x : Int) : ∀ s, (dmap s).atKey (.int .i64 x) (.lit (.bool false)) = .lit (.bool (decide (x ∈ s)))
  | [] => by simp [dmap]; rfl
  | y :: r => by
    unfold dmap
    by_cases e : x = y
    · subst e
      rw [Go.Maps.atKey_put_same (dmap_is r) (by unfold WideAt.IsKeyLit; trivial)]
      simp
    · rw [Go.Maps.atKey_put_other (by intro h; injection h with _ h2; exact e h2), dmap_at x r]
      simp [e]
theorem law3 : Go.Maps.Keyed Try.prog 3 := Go.Maps.int_keyed Try.underlying3
theorem zero4 (w : World) : (zeroValue 4).run Try.prog w = .ok (.bool false) w := by kernel_rfl
theorem lookup_bool {P : Program} (w : World) {ops : Array Oper} {rest : List Oper} {o : Oper} {a : Act} {Q : Exit → Act → World → Prop}
    (hg : o.guard = none) (m x : Operand) (t : TypeId) (hop : o.op = Op.lookup t m x false)
    (k e : TypeId) (K : Go.Maps.Keyed P k) (ht : P.underlying t = some (.map k e)) (he : P.underlying e = some .bool) (hz : (zeroValue e).run P w = .ok (.bool false) w) (b n : Nat) (D : DataW Unit)
    (hm : a.eval m = .map (some b)) (hown : w.ownsMap P k (plainElem P e) b n D) (key : Value) (kl : Lit) (hx : a.eval x = key) (hkey : keyOf P k key = some kl)
    (hK : ∀ c : Bool, D.atKey kl (.lit (.bool false)) = .lit (.bool c) → wpList P ops Q rest (a.put o.dst (.bool c)) w) :
    wpList P ops Q (o :: rest) a w := by
  refine wpList_plain hg fun K' hK' => ?_
  obtain ⟨v, ps, hrun, hat⟩ := hown.lookup K ht hz (plainElem_bool he false) hkey
  have hv : ∃ c, v = .bool c ∧ D.atKey kl (.lit (.bool false)) = .lit (.bool c) := by
    unfold plainElem at hat
    rw [he] at hat
    cases v <;> simp at hat
    rename_i c
    exact ⟨c, rfl, hat.1.symm⟩
  obtain ⟨c, rfl, hc⟩ := hv
  unfold Oper.wp
  simp [execOp, hop, hm, hx, hrun, Result.andThen]
  exact hK' _ _ (hK c hc)
theorem ca_drop {l : List Int} {i : Nat} (h : i < l.length) : l.drop i = rd l (i : Int) :: l.drop (i + 1) := by
  rw [List.drop_eq_getElem_cons h]
  simp [rd, List.getD_eq_getElem?_getD, h]

set_option maxHeartbeats 2000000 in
set_option maxRecDepth 100000 in
theorem impl_CompleteAfter.calls (k : Nat) (a0 : Int) (A1 : Option Addr) (c1 : Nat) (l1 : List Int) (r1 : List Int) (r2 : Bool) (w : World) (hr1 : Kd.C (Kd.int .i64) w A1 l1.length l1) (hc1 : l1.length ≤ c1) (h : impl_CompleteAfter.f k a0 l1 = some (r1, r2)) :
    Calls Try.prog 15 #[.int .i64 a0, .slice A1 l1.length c1] w fun e w' => ∃ v0_ : Value, e = .returned (.tuple #[v0_, .bool r2]) ∧ Kd.R (Kd.int .i64) 3 w' w.heap.size (fun _ => True) v0_ r1 ∧ Below w.heap.size w w' := by
  have hm : l1.length ≤ 9223372036854775807 := hr1.2.1
  have HR1 := Aside0.mk hr1
  have HC1 := Aside0.mk hc1
  clear hr1 hc1
  unfold impl_CompleteAfter.f at h
  obtain ⟨t, ht, h⟩ := Option.bind_eq_some_iff.1 h
  have HT := Aside0.mk ht
  clear ht
  cases t with
  | false =>
    simp only [Bool.false_eq_true, if_false, Option.some.injEq, Prod.mk.injEq] at h
    obtain ⟨rfl, rfl⟩ := h
    go_enter Try.func15, Try.ntmps15
    go_wp2_with (first | (go_at_call 30; refine (impl_arePairs.calls a0 false _ HT.out).mono ?_; rintro e w1 ⟨rfl, ⟨nd, rfl⟩⟩))
    go_ret2
    exact ⟨_, rfl, Kd.R_nil _ _ _ _ _, by repeat (first | (with_reducible first | exact Below.refl _ _ | apply below_alloc | apply pw_below_drewN | apply below_drew1) | exact Below.refl _ _)⟩
  | true =>
    simp only [if_true] at h
    obtain ⟨⟨t1, t2⟩, hT, h⟩ := Option.bind_eq_some_iff.1 h
    unfold impl_CompleteAfter.g at h
    have HTT := Aside0.mk hT
    clear hT
    cases t2 with
    | false =>
      simp only [Bool.false_eq_true, if_false, Option.some.injEq, Prod.mk.injEq] at h
      obtain ⟨rfl, rfl⟩ := h
      go_enter Try.func15, Try.ntmps15
      go_wp2_with (first | (go_at_call 30; refine (impl_arePairs.calls a0 true _ HT.out).mono ?_; rintro e w1 ⟨rfl, ⟨nd, rfl⟩⟩) | (go_at_call 31; refine (impl_times.calls k a0 _ _ l1 t1 false _ (Kd.C_below HR1.out (pw_below_drewN (Below.refl _ _) _)) HC1.out HTT.out).mono ?_; rintro e w2 ⟨v, rfl, ho, hb⟩; have HB := Aside0.mk ((pw_below_drewN (Below.refl w.heap.size w) nd).trans (hb.mono (Nat.le_refl _))); clear ho hb))
      go_ret2
      exact ⟨_, rfl, Kd.R_nil _ _ _ _ _, HB.out⟩
    | true =>
      simp only [if_true] at h
      by_cases hk : caOk l1 = true
      · rw [if_pos hk] at h
        simp only [Option.some.injEq, Prod.mk.injEq] at h
        obtain ⟨rfl, rfl⟩ := h
        unfold caOk at hk
        rw [Bool.and_eq_true, decide_eq_true_eq] at hk
        have HK := Aside0.mk hk
        clear hk
        have hmm := @run_makeMap Try.prog
        go_enter Try.func15, Try.ntmps15
        go_wp2_with (first | (go_at_call 30; refine (impl_arePairs.calls a0 true _ HT.out).mono ?_; rintro e w1 ⟨rfl, ⟨nd, rfl⟩⟩) | (go_at_call 31; refine (impl_times.calls k a0 _ _ l1 t1 true _ (Kd.C_below HR1.out (pw_below_drewN (Below.refl _ _) _)) HC1.out HTT.out).mono ?_; rintro e w2 ⟨v, rfl, ho, hb⟩; have HB := Aside0.mk ((pw_below_drewN (Below.refl w.heap.size w) nd).trans (hb.mono (Nat.le_refl _))); clear ho hb) | ((with_reducible refine gate_dst (N := 25) rfl ?_); refine Kd.R_lit (Kd.int .i64) _ 3 ?hg (N := 25) ?hd (xs := ([a0] : List Int)) (inner := [.int .i64 a0]) (ok := fun _ => True) (okp := fun _ => True) ?hr ?hp (fun _ hk => hk) trivial (Below.refl _ _) (Nat.le_refl _) (by simp) ?_; (case hd => rfl); (case hg => rfl); (case hr => first | (go_simp; done) | (go_simp; rfl)); (case hp => exact (Reps.one (show Kd.M (Kd.int .i64) _ _ _ a0 [.int .i64 a0] from rfl) (Reps.none _ _))); intro v8 w8 ho9 hb hg_ hnew_; clear hg_ hnew_; have HO := Aside0.mk (Kd.R_lower ho9 (below_size HB.out)); have HB8 := Aside0.mk (below_step HB.out hb); clear hb ho9))
        have HLT := Aside0.mk (below_size HB8.out)
        have HO2 := Aside0.mk (Kd.R_alloc (Kd.R_mono (ok' := fun k_ => k_ ≠ w8.heap.size) (Kd.R_bound HO.out) (fun k_ hk => Nat.ne_of_lt hk.2.2.1)) (.map #[] 0))
        have HM := Aside0.mk (World.ownsMap_made w8 Try.prog 3 (plainElem (H := Unit) Try.prog 4))
        have HB9 := Aside0.mk (below_alloc HB8.out (.map #[] 0))
        generalize hb0 : w8.heap.size = b at *
        go_loopg [8, 10, 30] l1.length (fun gg v8 v10 v30 wr => ∃ (i : Nat) (seen out : List Int) (now : Int), i ≤ l1.length ∧ l1.length - i ≤ gg ∧ v30 = .int .i64 i ∧ v10 = .int .i64 now ∧ Aside0 (caL seen (l1.drop i) out now = caL [] l1 [a0] a0) ∧ Aside0 (out.length ≤ i + 1) ∧ Aside0 (Kd.R (Kd.int .i64) 3 wr w.heap.size (fun k_ => k_ ≠ b) v8 out) ∧ Aside0 (wr.ownsMap Try.prog 3 (plainElem Try.prog 4) b i (dmap seen)) ∧ Aside0 (Below w.heap.size w wr))
        case atStart => exact ⟨0, [], [a0], a0, Nat.zero_le _, by omega, rfl, rfl, ⟨rfl⟩, ⟨by simp⟩, HO2, HM, HB9⟩
        case round =>
          clear HO HO2 HM HB9 HB8 HB
          obtain ⟨i, seen, out, now, hi, hg, rfl, rfl, HE, HL, HO, HM, HB⟩ := hrel
          by_cases hlt : i < l1.length
          · have hltz : (i : Int) < (l1.length : Int) := by omega
            obtain ⟨ad1, e1, hx1⟩ := Kd.at_int HR1.out (i : Int) (by omega) hltz
            cases e1
            replace hx1 := (HB.out.cell (World.block_lt_of_cell? w _ hx1)).trans hx1
            rw [Int.toNat_natCast] at hx1
            have hwf : (Lit.int .i64 (rd l1 (i : Int))).wf = true := by
              have := List.all_eq_true.1 HK.out.2 (l1[i]) (List.getElem_mem hlt)
              rw [show rd l1 (i : Int) = l1[i] by simp [rd, List.getD_eq_getElem?_getD, hlt]]
              exact this
            have hkey : keyOf Try.prog 3 (.int .i64 (rd l1 (i : Int))) = some (.int .i64 (rd l1 (i : Int))) := Go.Maps.keyOf_int_mk Try.underlying3 hwf
            have HKEY := Aside0.mk hkey
            clear hkey hwf
            have hd := ca_drop hlt
            have HLEN := Aside0.mk HK.out.1
            by_cases hin : rd l1 (i : Int) ∈ seen
            · have HIN := Aside0.mk hin
              go_wp2_with (first | (at_lookup; refine lookup_bool _ rfl _ _ 36 rfl 3 4 law3 Try.underlying36 Try.underlying4 (zero4 _) b i _ rfl HM.out _ _ rfl HKEY.out ?_; intro c hc; obtain rfl : c = true := by (rw [dmap_at, decide_eq_true HIN.out] at hc; injection hc with hc; injection hc with hc; exact hc.symm)) | ((with_reducible refine gate_builtin (b := .append) (xs := #[.tmp 42, .tmp 44]) rfl ?_); at_builtin; refine Kd.R_append (Kd.int .i64) (w0 := w) w.heap.size rfl (.tmp 42) (.tmp 44) 22 3 (.int .i64 0) 8 rfl Try.underlying22 info3 rfl (by decide) (by decide) u8 out now [.int .i64 now] (fun k_ => k_ ≠ b) (fun _ => False) rfl rfl ?aP (fun _ hk => hk.elim) (fun k_ hk => Nat.ne_of_gt (Nat.lt_of_lt_of_le HM.out.lt hk)) HO.out HB.out (below_size HB.out) (by have := HL.out; have := HLEN.out; omega) ?_; (case aP => exact rfl); intro v2 w13 ho hb hg2 hat; have HO3 := Aside0.mk ho; have HB3 := Aside0.mk hb; have HM3 := Aside0.mk (HM.out.kept hg2 (fun hh => HO.out.1 b hh.symm rfl)); clear ho hb hg2 hat))
              go_roundg (l1.length - (i + 1))
              case measure => omega
              case rel =>
                refine ⟨i + 1, seen, out ++ [now], now, by omega, by omega, by go_num, by first | rfl | simp, ⟨?_⟩, ⟨by have := HL.out; simp; omega⟩, HO3, ⟨HM3.out.mono (by omega)⟩, HB3⟩
                rw [← HE.out, hd]
                simp only [caL]
                rw [if_pos HIN.out]
            · have HIN := Aside0.mk hin
              go_wp2_with (first | (at_lookup; refine lookup_bool _ rfl _ _ 36 rfl 3 4 law3 Try.underlying36 Try.underlying4 (zero4 _) b i _ rfl HM.out _ _ rfl HKEY.out ?_; intro c hc; obtain rfl : c = false := by (rw [dmap_at, decide_eq_false HIN.out] at hc; injection hc with hc; injection hc with hc; exact hc.symm)) | (at_mapUpdate; refine wpList_mapUpdate_own _ rfl _ _ _ 36 rfl 3 4 law3 Try.underlying36 (plainElem (H := Unit) Try.prog 4) b i _ rfl HM.out (by have := HLEN.out; unfold maxLen; omega) _ _ _ rfl rfl HKEY.out _ [] (plainElem_bool Try.underlying4 true) ?_; intro w10 hown1 hgrow1; have HM2 := Aside0.mk hown1; have HO2 := Aside0.mk (Kd.R_grown HO.out hgrow1 (fun k_ hk hh => hk (Option.some.inj hh))); have HB2 := Aside0.mk (HB.out.grown hgrow1 HB.out.size (fun j hj => by cases hj; exact HLT.out)); clear hown1 hgrow1) | ((with_reducible refine gate_builtin (b := .append) (xs := #[.tmp 42, .tmp 44]) rfl ?_); at_builtin; refine Kd.R_append (Kd.int .i64) (w0 := w) w.heap.size rfl (.tmp 42) (.tmp 44) 22 3 (.int .i64 0) 8 rfl Try.underlying22 info3 rfl (by decide) (by decide) u8 out (wrap64 (now - 1)) [.int .i64 (wrap64 (now - 1))] (fun k_ => k_ ≠ b) (fun _ => False) rfl rfl ?aP (fun _ hk => hk.elim) (fun k_ hk => Nat.ne_of_gt (Nat.lt_of_lt_of_le HM2.out.lt hk)) HO2.out HB2.out (below_size HB2.out) (by have := HL.out; have := HLEN.out; omega) ?_; (case aP => exact rfl); intro v2 w13 ho hb hg2 hat; have HO3 := Aside0.mk ho; have HB3 := Aside0.mk hb; have HM3 := Aside0.mk (HM2.out.kept hg2 (fun hh => HO2.out.1 b hh.symm rfl)); clear ho hb hg2 hat))
              go_roundg (l1.length - (i + 1))
              case measure => omega
              case rel =>
                refine ⟨i + 1, rd l1 (i : Int) :: seen, out ++ [wrap64 (now - 1)], wrap64 (now - 1), by omega, by omega, by go_num, by first | rfl | simp, ⟨?_⟩, ⟨by have := HL.out; simp; omega⟩, HO3, HM3, HB3⟩
                rw [← HE.out, hd]
                simp only [caL]
                rw [if_neg HIN.out]
          · have hltz : ¬ (i : Int) < (l1.length : Int) := by omega
            obtain rfl : i = l1.length := by omega
            have hE := HE.out
            rw [List.drop_length] at hE
            simp only [caL] at hE
            go_wp2
            go_ret2
            exact ⟨_, rfl, by rw [← hE]; exact Kd.R_mono HO.out (fun _ _ => trivial), HB.out⟩
      · rw [if_neg hk] at h
        cases h
#print axioms impl_CompleteAfter.calls
end Go.Proofs.Ytbfapmckkmmnjaa.X
