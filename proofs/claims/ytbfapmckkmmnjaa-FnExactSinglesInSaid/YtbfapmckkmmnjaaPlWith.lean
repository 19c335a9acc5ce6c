/- Plain laws, no program in sight: the three shares of a basket. -/
import Derived.Test.YtbfapmckkmmnjaaPlBasket
import Derived.Test.YtbfapmckkmmnjaaXspecCompleteIn
import Derived.Test.YtbfapmckkmmnjaaXimplCompleteIn
import Derived.Test.YtbfapmckkmmnjaaXspecGoneFrom
import Derived.Test.YtbfapmckkmmnjaaXimplGoneFrom
import Derived.Test.YtbfapmckkmmnjaaXspecSinglesIn
import Derived.Test.YtbfapmckkmmnjaaXimplSinglesIn
namespace Go.Proofs.Ytbfapmckkmmnjaa.X
open Go.RowKit Go.Proofs.YtbfapmckkmmnjaaW.PrintWords Go.Proofs.YtbfapmckkmmnjaaW.PrintLast Go.Proofs.YtbfapmckkmmnjaaW.PrintMore

theorem CompleteIn_both (a : Int) (l : List Int) (hn : l.length ≤ 1048576) : ∃ r : List Int × Bool, r.1.length ≤ 20 ∧ Ev (fun k => spec_CompleteIn.f k a l) r ∧ Ev (fun k => impl_CompleteIn.f k a l) r := by
  obtain ⟨r, h, h1, h2⟩ := pairsWith_both a l 2 (by omega)
  exact ⟨r, h, Ev.congr (fun _ => rfl) h1, Ev.congr (f := fun k => (impl_pairsWith.f k a l 2).bind fun b : List Int × Bool => some (b.1, b.2)) (fun _ => rfl) (Ev.bind h2 (Ev.now _))⟩
theorem GoneFrom_both (a : Int) (l : List Int) (hn : l.length ≤ 1048576) : ∃ r : List Int × Bool, r.1.length ≤ 20 ∧ Ev (fun k => spec_GoneFrom.f k a l) r ∧ Ev (fun k => impl_GoneFrom.f k a l) r := by
  obtain ⟨r, h, h1, h2⟩ := pairsWith_both a l 0 (by omega)
  exact ⟨r, h, Ev.congr (fun _ => rfl) h1, Ev.congr (f := fun k => (impl_pairsWith.f k a l 0).bind fun b : List Int × Bool => some (b.1, b.2)) (fun _ => rfl) (Ev.bind h2 (Ev.now _))⟩
theorem SinglesIn_both (a : Int) (l : List Int) (hn : l.length ≤ 1048576) : ∃ r : List Int × Bool, r.1.length ≤ 20 ∧ Ev (fun k => spec_SinglesIn.f k a l) r ∧ Ev (fun k => impl_SinglesIn.f k a l) r := by
  obtain ⟨r, h, h1, h2⟩ := pairsWith_both a l 1 (by omega)
  exact ⟨r, h, Ev.congr (fun _ => rfl) h1, Ev.congr (f := fun k => (impl_pairsWith.f k a l 1).bind fun b : List Int × Bool => some (b.1, b.2)) (fun _ => rfl) (Ev.bind h2 (Ev.now _))⟩
end Go.Proofs.Ytbfapmckkmmnjaa.X
