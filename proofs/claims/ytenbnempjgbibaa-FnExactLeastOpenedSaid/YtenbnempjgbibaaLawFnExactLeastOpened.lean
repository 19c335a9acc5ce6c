/- The program's LeastOpened returns what the reference's returns, for all arguments. No conditions. (The row of the law; its proof's plain part: YtenbnempjgbibaaPureFnExactLeastOpened.) -/
import Derived.Test.YtenbnempjgbibaaRows
import Derived.Test.YtenbnempjgbibaaXlawsFnExactLeastOpened
import Derived.Test.YtenbnempjgbibaaPureFnExactLeastOpened
import Derived.Test.YtenbnempjgbibaaMB
import Derived.WalkKit
import Derived.ProofKit
import Derived.OpenShut
import Derived.ShutString
import Derived.ChangeOld
import Derived.Below
import Derived.SizedLaws
namespace Go.Proofs.Ytenbnempjgbibaa.fnExactLeastOpened
open Go.ChangeShapes Go.WideShapes Go.ChangeAt Go.RowKit
open Go.ChangeMaps (open_string shut_string)
set_option linter.unusedVariables false
theorem own : ownKnob Try.prog.godebug = none := by kernel_rfl
theorem laidOut : laidOutB Try.prog = true := by kernel_rfl
theorem walk (a0 : Option Addr) (len0 cap0 : Nat) (z0 : List X.S49) (w : World) (w0 : z0.length = len0 ∧ len0 ≤ cap0 ∧ len0 ≤ maxLen ∧ YtenbnempjgbibaaW.PrintWords.Kd.C X.k49 w a0 len0 z0) (y0 : len0 * 16 ≤ 140737488351232) :
    Calls Try.prog 7 #[.slice a0 len0 cap0] w fun e w' => e = .returned (.bool true) ∧ Below w.heap.size w w' := by
  obtain ⟨rfl, hc0, hm0, hr0⟩ := w0
  obtain ⟨k, h⟩ := Pure.FnExactLeastOpened z0 y0
  refine (X.laws_FnExactLeastOpened.calls k _ _ z0 true w hr0 hc0 h).mono ?_
  rintro e w' ⟨rfl, hd⟩
  exact ⟨rfl, hd⟩
set_option maxRecDepth 100000 in
theorem lifted (os : Os) (started : os.Started) (H : Type) (enc : TypeId × Value → H) :
    ReturnsInHanded {} Try.checked os 7 .any (Rows.fnExactLeastOpenedSpec.pre6 enc Try.prog Try.f7 Rows.fnExactLeastOpenedRow.domain false) (Rows.fnExactLeastOpenedSpec.post enc Try.prog Try.f7 false true false false) := by
  refine returnsInHanded_of_change_sized (C := Try.checked) own started (by kernel_rfl) Try.func7
    (ChangeSpec.witness6 (enc := enc) (C := Try.checked) false ⟨#[], #[.slice none 0 0], []⟩ 8 (by kernel_rfl) (by kernel_rfl) (by kernel_rfl) (by kernel_rfl)) ?_
  intro W base args ds gs before hval0 hW hcnd hsz0 _
  have hsz : (DataW.weightsEach Try.prog (Try.f7.params.toList ++ Rows.fnExactLeastOpenedSpec.plain.varTypes Try.prog) (ds ++ gs)).all (· ≤ reachBytes) = true := hsz0
  have hval : ∀ (j : Nat) t v, Try.f7.params[j]? = some t → args[j]? = some v → Value.okWide Try.prog W .any base t v := hval0
  have hW' := hW
  obtain ⟨p, q, hA0, hV, rfl, hfz, hnd⟩ := hW
  have hA : DataW.TrodAll enc Try.prog W 0 (fun _ => true) true Try.f7.params.toList args.toList ds p := hA0
  rw [Try.params7] at hA hval hsz
  obtain ⟨v0, vs0, d0, ds0, p0, q0, hargs, rfl, rfl, h0, r0⟩ := trodAll_cons hA
  obtain ⟨rfl, rfl, rfl⟩ := trodAll_nil r0
  obtain rfl : args = #[v0] := by cases args; simp_all
  obtain ⟨rfl, rfl⟩ := trodVars_none hV
  obtain ⟨a0, len0, cap0, rfl⟩ := okWide_slice Try.underlying22 (hval 0 22 v0 rfl rfl)
  have k0 := h0
  have lt0 : ∀ x ∈ p0, x.block < W.heap.size := by obtain ⟨m, hm⟩ := k0; exact DataW.trod_lt m _ _ _ hm
  obtain ⟨z0, w0, y0⟩ : ∃ zs : List X.S49, (zs.length = len0 ∧ len0 ≤ cap0 ∧ len0 ≤ maxLen ∧ YtenbnempjgbibaaW.PrintWords.Kd.C X.k49 W a0 len0 zs) ∧ len0 * 16 ≤ 140737488351232 := by
    obtain ⟨fuel, hf⟩ := h0
    obtain ⟨A, l, c, zs, hcs, hl, hm, hz, hC, hx⟩ := X.open_twos Try.underlying22 Try.underlying49 Try.underlying3 Try.underlying3 rfl rfl (by kernel_rfl) (by kernel_rfl) (by kernel_rfl) hf
    simp [Value.cells] at hcs
    obtain ⟨rfl, rfl, rfl⟩ := hcs
    refine ⟨zs, ⟨hz, hl, hm, hC⟩, ?_⟩
    rcases hx with ⟨_, hx⟩ | ⟨els, rest, hx, hlen⟩
    · omega
    · have hx' : d0 = .slice els rest := hx
      subst hx'
      have z := sized_slice hsz (j := 0) (t := 22) rfl rfl Try.underlying22
      rw [show Try.prog.bytesOf 49 = 16 from by kernel_rfl] at z
      have z2 : (els.length + rest.length) * 16 ≤ 140737488351232 := z
      omega
  clear hA0 hval0 hsz0 hsz
  refine (walk a0 len0 cap0 z0 W w0 y0).mono fun e W' ⟨he, bel⟩ => ?_
  subst he
  exact ⟨_, rfl, _, _, _, [], _, [], hW', trodAll_mk1 (shut_bool Try.underlying4 _), (trodAll_cons_mk (Below.trod laidOut (by kernel_rfl) (of_decide_eq_true (by kernel_rfl)) k0 bel lt0) trodAll_mk0), rfl, bel.frame _, fun h => by cases h⟩
theorem over : Rows.fnExactLeastOpenedRow.holds Try.pinned (OpenSpec.ofChange Rows.fnExactLeastOpenedSpec) :=
  OpenClaim.holds_of_wide 7 Try.f7 rfl rfl rfl rfl rfl rfl rfl ⟨rfl, rfl, rfl, rfl, rfl⟩ rfl rfl rfl rfl rfl (by kernel_rfl) Try.func7 (by kernel_rfl)
    (of_decide_eq_true (by kernel_rfl)) (by unfold Func.isWrapper; first | (rw [if_pos (by decide +kernel)]; kernel_rfl) | (rw [if_neg (by decide +kernel)]; exact ⟨rfl, rfl⟩))
    (fun os started H enc _ => lifted os started H enc)
theorem proved : Rows.FnExactLeastOpenedSaid := over
#print axioms proved
end Go.Proofs.Ytenbnempjgbibaa.fnExactLeastOpened
namespace Go.Proofs.Ytenbnempjgbibaa
/-- The row, under a short name, for the claim. -/
theorem fnExactLeastOpened_holds : Rows.FnExactLeastOpenedSaid := fnExactLeastOpened.proved
end Go.Proofs.Ytenbnempjgbibaa
