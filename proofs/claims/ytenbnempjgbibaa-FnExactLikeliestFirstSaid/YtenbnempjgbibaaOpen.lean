/- How an argument that is a list of drawers lies in memory. -/
import Derived.Test.YtenbnempjgbibaaX0
import Derived.Deep.Slices
import Derived.ChangeSame
import Derived.ChangeArms
import Derived.SizedLaws
namespace Go.Proofs.Ytenbnempjgbibaa.X
open Go.RowKit Go.Proofs.YtenbnempjgbibaaW.PrintWords Go.Proofs.YtenbnempjgbibaaW.PrintLast Go.Proofs.YtenbnempjgbibaaW.PrintMore

section
variable {H : Type} {enc : TypeId × Value → H} {P : Program} {w : World} {base : Nat} {spare : Nat → Bool} {held : Bool}
/-- A slice of structs of two ints, read as data, lies as a row of such. -/
theorem open_twos {t e : TypeId} {f0 f1 : Field} {fuel : Nat} {cs : List Value} {x : DataW H × List MemPlace} (ht : P.underlying t = some (.slice e)) (he : P.underlying e = some (.struct #[f0, f1]))
    (u0 : P.underlying f0.type = some (.int .i64)) (u1 : P.underlying f1.type = some (.int .i64)) (o0 : f0.offset = 0) (o1 : f1.offset = 1) (c0 : P.cellsOf f0.type = 1) (c1 : P.cellsOf f1.type = 1) (hC : P.cellsOf e = 2)
    (h : DataW.trod enc P w base spare held fuel t cs = some x) :
    ∃ (A : Option Addr) (len cap : Nat) (zs : List S49), cs = [.slice A len cap] ∧ len ≤ cap ∧ len ≤ maxLen ∧ zs.length = len ∧ Kd.C k49 w A len zs ∧
      (x.1 = .nil ∧ len = 0 ∨ ∃ els rest, x.1 = .slice els rest ∧ els.length = len) := by
  rcases Go.Deep.open_slice ht h with ⟨rfl, rfl⟩ | ⟨a, len, cap, m, n, D, Pl, rfl, _, hl, hm, hmm, rfl, hi⟩
  · exact ⟨none, 0, 0, [], rfl, Nat.le_refl _, Nat.zero_le _, rfl, ⟨rfl, by omega, fun hp => absurd hp (by omega)⟩, .inl ⟨rfl, rfl⟩⟩
  · have hlm : len ≤ m := by rw [hmm]; split <;> omega
    have each : ∀ i, i < len → ∃ z : S49, w.cell? (a.add (i * 2)) = some (.int .i64 z.f0) ∧ w.cell? (a.add (i * 2 + 1)) = some (.int .i64 z.f1) := by
      intro i hlt
      obtain ⟨cs', hc, ht'⟩ := hi i (by omega)
      rw [hC] at hc
      obtain ⟨_, hcl, hat⟩ := World.cells?_some hc
      obtain ⟨y0, y1, n', _, _, t0, t1⟩ := Go.ChangeShapes.trod_struct2 he ht'
      rw [o0, c0] at t0
      rw [o1, c1] at t1
      match cs', hcl with
      | [v0, v1], _ =>
        obtain ⟨p, hp, _, _⟩ := DataW.trod_int u0 t0
        obtain ⟨q, hq, _, _⟩ := DataW.trod_int u1 t1
        simp at hp hq
        subst hp hq
        refine ⟨⟨p, q⟩, ?_, ?_⟩
        · have := hat 0 (by omega)
          rw [Go.Deep.add_add, Nat.add_zero] at this
          simpa using this
        · have := hat 1 (by omega)
          rw [Go.Deep.add_add] at this
          simpa using this
    have hz : ∃ f : Nat → S49, ∀ i, i < len → w.cell? (a.add (i * 2)) = some (.int .i64 (f i).f0) ∧ w.cell? (a.add (i * 2 + 1)) = some (.int .i64 (f i).f1) := by
      refine ⟨fun i => if hlt : i < len then Classical.choose (each i hlt) else z49, fun i hlt => ?_⟩
      simp only [dif_pos hlt]
      exact Classical.choose_spec (each i hlt)
    obtain ⟨f, hf⟩ := hz
    have hm' : cap ≤ 9223372036854775807 := by simpa [maxLen] using hm
    refine ⟨some a, len, cap, (List.range len).map f, rfl, hl, Nat.le_trans hl hm, by simp, ⟨by simp, by omega, fun _ => ⟨a, rfl, fun j p hp => ?_⟩⟩, .inr ⟨_, _, rfl, by simp⟩⟩
    have hj : j < len := by
      have := (List.getElem?_eq_some_iff.1 hp).1
      simpa using this
    have hpe : f j = p := by simpa [List.getElem?_map, List.getElem?_range, hj] using hp
    subst hpe
    refine ⟨_, rfl, k49_mk w _, fun i u hu => ?_⟩
    match i, hu with
    | 0, hu =>
      simp at hu
      subst hu
      exact (hf j hj).1
    | 1, hu =>
      simp at hu
      subst hu
      exact (hf j hj).2
end

end Go.Proofs.Ytenbnempjgbibaa.X
