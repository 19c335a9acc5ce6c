/- The library's stable sort of a row of fewer than twenty ints: its contract. -/
import Derived.Test.YtenbnempjgbibaaX0
import Derived.Test.YtenbnempjgbibaaHShelf
import Derived.Lib.Hide
import Derived.Deep.QuietTactic
import Derived.BigQuiet
namespace Go.Proofs.Ytenbnempjgbibaa.X
open Go.Shelf Go.RowKit Go.Lib Go.Sort Go.Proofs.YtenbnempjgbibaaW.PrintWords Go.Proofs.YtenbnempjgbibaaW.PrintLast Go.Proofs.YtenbnempjgbibaaW.PrintMore

section
variable {α : Type} [Inhabited α]
set_option maxHeartbeats 4000000 in
set_option maxRecDepth 100000 in
theorem stable_small (enc : α → Value) (cf : α → α → Int) (g : Nat) (cb : Array Value) (blk off cap : Nat) (d : Array α) (w : World) (eg : ∀ args w, (callFunc g args).run Try.prog w = .ok (.enter g args) w)
    (hcmp : CmpLays1 Try.prog g cb enc cf blk off d.size w) (R : Row1 enc w blk off d) (h20 : d.size < 20) :
    Calls Try.prog 63 #[.slice (some ⟨blk, off, none⟩) d.size cap, .int .i64 d.size, .func (.func g) #[] cb] w fun e w' => e = .returned (.tuple #[]) ∧ Aside0 (SW enc w blk off (Sort.insertionSort (ltOf cf) d 0 d.size) w') := by
  have hcon := Try.insertionSortCmpFunc_s enc cf g cb blk off cap 0 d.size d d w w eg hcmp R rfl (SW.start R.hH) (Nat.zero_le _) (Nat.le_refl _) (by omega)
  have HC := Aside0.mk hcon
  have h20i : ¬ (20 : Int) ≤ (d.size : Int) := by omega
  have h20j : ¬ (20 : Int) < (d.size : Int) := by omega
  clear hcon hcmp R eg h20
  go_enter Try.func63, Try.ntmps63
  go_wp2
  go_loop [7, 8] (fun a b => a = .int .i64 0 ∧ b = .int .i64 20) (fun _ _ => 0)
  case atStart => exact ⟨rfl, rfl⟩
  case round =>
    obtain ⟨rfl, rfl⟩ := hrel
    go_wp2_with (go_at_call 65; refine (HC.out).mono ?_; rintro e w' ⟨rfl, hs⟩; have HS := Aside0.mk hs; clear hs)
    go_loop [6] (fun a => a = .int .i64 20) (fun _ => 0)
    case atStart => rfl
    case round =>
      obtain rfl := hrel
      go_wp2
      go_end0
      exact ⟨rfl, HS⟩
set_option maxHeartbeats 4000000 in
set_option maxRecDepth 100000 in
theorem sortStable_small (enc : α → Value) (cf : α → α → Int) (g : Nat) (cb : Array Value) (blk off cap : Nat) (d : Array α) (w : World) (eg : ∀ args w, (callFunc g args).run Try.prog w = .ok (.enter g args) w)
    (hcmp : CmpLays1 Try.prog g cb enc cf blk off d.size w) (R : Row1 enc w blk off d) (h20 : d.size < 20) :
    Calls Try.prog 55 #[.slice (some ⟨blk, off, none⟩) d.size cap, .func (.func g) #[] cb] w fun e w' => e = .returned (.tuple #[]) ∧ Aside0 (SW enc w blk off (Sort.insertionSort (ltOf cf) d 0 d.size) w') := by
  have HC := Aside0.mk (stable_small enc cf g cb blk off cap d w eg hcmp R h20)
  clear hcmp R eg
  go_enter Try.func55, Try.ntmps55
  go_wp2_with (go_at_call 63; refine (HC.out).mono ?_; rintro e w' ⟨rfl, hs⟩)
  go_end0
  exact ⟨rfl, hs⟩
end
end Go.Proofs.Ytenbnempjgbibaa.X
