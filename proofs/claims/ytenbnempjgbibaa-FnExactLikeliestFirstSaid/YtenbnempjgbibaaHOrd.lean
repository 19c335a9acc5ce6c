/- The program's ordered (a stable sort of the drawers' numbers by a comparison of drawers): its contract. -/
import Derived.Test.YtenbnempjgbibaaHCmp
namespace Go.Proofs.Ytenbnempjgbibaa.X
open Go.Shelf Go.RowKit Go.Lib Go.Sort Go.Proofs.YtenbnempjgbibaaW.PrintWords Go.Proofs.YtenbnempjgbibaaW.PrintLast Go.Proofs.YtenbnempjgbibaaW.PrintMore

section
variable {α : Type} [Inhabited α] {enc : α → Value}
theorem heap_modify_ne (h : Array Obj) (b k : Nat) (f : Obj → Obj) (hne : k ≠ b) : (h.modify b f)[k]? = h[k]? := by
  rw [Array.getElem?_modify, if_neg (Ne.symm hne)]
theorem sw_other (w : World) (blk off m k : Nat) (dk : Array α) (os : Array Obj) (hk : k < w.heap.size) (hne : k ≠ blk) : (sortWorld enc w blk off m dk os).heap[k]? = w.heap[k]? := by
  unfold sortWorld
  rw [heap_grow_old _ _ (by rw [size_putRow]; exact hk)]
  unfold putRow mapBlock
  exact heap_modify_ne _ _ _ _ hne
theorem sw_row (w : World) (blk off m : Nat) (dk : Array α) (os : Array Obj) {cur : Array Value} {e : TypeId} {fr : Nat × Nat} (h : w.heap[blk]? = some (.cells cur e fr)) : (sortWorld enc w blk off m dk os).heap[blk]? = some (.cells (putCells enc off dk cur) e fr) := by
  have hk : blk < w.heap.size := (Array.getElem?_eq_some_iff.1 h).1
  unfold sortWorld
  rw [heap_grow_old _ _ (by rw [size_putRow]; exact hk)]
  unfold putRow mapBlock
  show (w.heap.modify blk (onCells (putCells enc off dk)))[blk]? = _
  rw [Array.getElem?_modify, if_pos rfl, h]
  rfl
theorem sw_below (w : World) (blk off m B : Nat) (dk : Array α) (os : Array Obj) (hB : B ≤ blk) (hk : blk < w.heap.size) : Below B w (sortWorld enc w blk off m dk os) := by
  refine ⟨rfl, rfl, rfl, ?_, fun k hkB => sw_other w blk off m k dk os (by omega) (by omega)⟩
  unfold sortWorld
  rw [size_grow, size_putRow]
  exact Nat.le_add_right _ _
theorem put_take (dk : Array α) (cur : Array Value) (h : dk.size ≤ cur.size) : (putCells enc 0 dk cur).toList.take dk.size = encs enc dk.toList := by
  apply List.ext_getElem?
  intro j
  by_cases hj : j < dk.size
  · rw [List.getElem?_take_of_lt hj]
    simp only [putCells, encs, Array.getElem?_toList, Array.getElem?_mapIdx, List.getElem?_map]
    rw [Array.getElem?_eq_getElem (show j < cur.size by omega), Array.getElem?_eq_getElem hj]
    simp only [Option.map_some]
    rw [if_pos ⟨by omega, by omega⟩, Nat.sub_zero, getElem!_pos dk j hj]
  · rw [List.getElem?_eq_none (by simp; omega), List.getElem?_eq_none (by simp [encs]; omega)]
end

def upTo (n : Nat) : List Int := (List.range n).map fun i => ((i : Nat) : Int)
theorem upTo_succ (n : Nat) : upTo (n + 1) = upTo n ++ [(n : Int)] := by simp [upTo, List.range_succ]
theorem upTo_len (n : Nat) : (upTo n).length = n := by simp [upTo]

def encF {m : Nat} (x : Fin (m + 1)) : Value := .int .i64 ((x.val : Nat) : Int)
def cfF (cf2 : S47 → S47 → Int) (l : List S47) (m : Nat) (x y : Fin (m + 1)) : Int := cf2 (rd_T47 l ((x.val : Nat) : Int)) (rd_T47 l ((y.val : Nat) : Int))
def idF (m : Nat) : Array (Fin (m + 1)) := Array.ofFn fun x => x
def ordF (cf2 : S47 → S47 → Int) (l : List S47) (m : Nat) : List Int := (Sort.insertionSort (ltOf (cfF cf2 l m)) (idF m) 0 (idF m).size).toList.map fun x => ((x.val : Nat) : Int)
theorem idF_size (m : Nat) : (idF m).size = m + 1 := by simp [idF]

theorem size_swp2 {α : Type} [Inhabited α] (lt : α → α → Bool) (a : Nat) : ∀ (j : Nat) (d : Array α), (Sort.insInner lt a j d).size = d.size
  | 0, d => by simp [Sort.insInner]
  | j + 1, d => by
    simp only [Sort.insInner]
    split
    · rw [size_swp2 lt a j, size_swp]
    · rfl
theorem size_outer {α : Type} [Inhabited α] (lt : α → α → Bool) (a b : Nat) : ∀ (e i : Nat) (d : Array α), i + e = b → (Sort.insOuter lt a b i d).size = d.size
  | 0, i, d, h => by rw [Sort.insOuter, if_neg (by omega)]
  | e + 1, i, d, h => by rw [Sort.insOuter, if_pos (by omega), size_outer lt a b e (i + 1) _ (by omega), size_swp2]
theorem size_ins {α : Type} [Inhabited α] (lt : α → α → Bool) (d : Array α) (h : 1 ≤ d.size) : (Sort.insertionSort lt d 0 d.size).size = d.size := size_outer lt 0 d.size (d.size - 1) 1 d (by omega)

theorem take_get {cur : Array Value} {n j : Nat} {xs : List Value} (h : cur.toList.take n = xs) (hj : j < n) : cur[j]? = xs[j]? := by
  rw [← h, List.getElem?_take_of_lt hj, Array.getElem?_toList]
theorem start_holds {W : World} {gb m : Nat} {cur : Array Value} (hh : W.heap[gb]? = some (.cells cur 3 (0, 0))) (htk : cur.toList.take ((upTo (m + 1)).length * 1) = encs (Value.int .i64) (upTo (m + 1))) : Holds (encF (m := m)) W gb 0 (idF m) := by
  intro j hj
  rw [idF_size] at hj
  refine ⟨?_, blk_frozen hh _⟩
  rw [blk_cell hh, Nat.zero_add, take_get htk (by rw [upTo_len]; omega), getElem!_pos (idF m) j (by rw [idF_size]; exact hj)]
  simp [encs, upTo, idF, encF, hj]
theorem end_R {W : World} {gb m base cap n : Nat} {cur : Array Value} (hh : W.heap[gb]? = some (.cells cur 3 (0, 0))) (hb : base ≤ gb) (hle : m + 1 ≤ cap) (hcm : cap ≤ maxLen) (hcs : cur.size = cap * 1) (dk : Array (Fin (m + 1))) (hs : dk.size = m + 1) (os : Array Obj) :
    Kd.R (Kd.int .i64) 3 (sortWorld (encF (m := m)) W gb 0 n dk os) base (fun _ => True) (.slice (some ⟨gb, 0, none⟩) (m + 1) cap) (dk.toList.map fun x => ((x.val : Nat) : Int)) := by
  have hrow := sw_row (enc := encF (m := m)) W gb 0 n dk os hh
  refine Kd.R_of_own ⟨by simp [encs], .inr ⟨gb, cap, _, by simp [hs], hb, hrow, by simp [hs]; omega, hcm, by simp [putCells, hcs], ?_⟩⟩ (fun _ _ => trivial)
  have := put_take (enc := encF (m := m)) dk cur (by omega)
  rw [List.length_map, Array.length_toList, Nat.mul_one, this]
  simp [encs, encF]
theorem cmp_lays {g : Nat} {cf2 : S47 → S47 → Int} (hg : CmpF g cf2) (eg : ∀ args w, (callFunc g args).run Try.prog w = .ok (.enter g args) w) {A0 : Option Addr} {c0 : Nat} {l0 : List S47} {m : Nat} {w W : World} {bc bl gb B : Nat}
    (hr : Kd.C k47 w A0 l0.length l0) (hm : l0.length = m + 1) (hbl : W.cell? ⟨bl, 0, none⟩ = some (.slice A0 l0.length c0)) (hbc : W.cell? ⟨bc, 0, none⟩ = some (.func (.func g) #[] #[])) (hB : Below w.heap.size w W) (hlB : bl < B) (hcB : bc < B) (hwB : w.heap.size ≤ B) (hgB : B ≤ gb) (hgb : gb < W.heap.size) :
    CmpLays1 Try.prog 56 #[.pointer (some ⟨bc, 0, none⟩), .pointer (some ⟨bl, 0, none⟩)] (encF (m := m)) (cfF cf2 l0 m) gb 0 (idF m).size W := by
  intro n os dk hs x y
  have hb := sw_below (enc := encF (m := m)) W gb 0 n B dk os hgB hgb
  have := clo56 g cf2 hg eg (sortWorld (encF (m := m)) W gb 0 n dk os) bc bl A0 c0 l0 ((x.val : Nat) : Int) ((y.val : Nat) : Int) (Kd.C_below hr (hB.trans (hb.mono hwB))) ((hb.cell (p := ⟨bc, 0, none⟩) hcB).trans hbc) ((hb.cell (p := ⟨bl, 0, none⟩) hlB).trans hbl) (by omega) (by have := x.isLt; omega) (by omega) (by have := y.isLt; omega)
  exact this

set_option maxHeartbeats 4000000 in
set_option maxRecDepth 100000 in
theorem ordered_calls (g : Nat) (cf2 : S47 → S47 → Int) (hg : CmpF g cf2) (eg : ∀ args w, (callFunc g args).run Try.prog w = .ok (.enter g args) w) (A0 : Option Addr) (c0 : Nat) (l0 : List S47) (m : Nat) (w : World)
    (hr : Kd.C k47 w A0 l0.length l0) (hm : l0.length = m + 1) (h8 : m < 8) :
    Calls Try.prog 41 #[.slice A0 l0.length c0, .func (.func g) #[] #[]] w fun e w' => ∃ v0_ : Value, e = .returned v0_ ∧ Kd.R (Kd.int .i64) 3 w' w.heap.size (fun _ => True) v0_ (ordF cf2 l0 m) ∧ Below w.heap.size w w' := by
  have HR := Aside0.mk hr
  have HG := Aside0.mk hg
  have EG := Aside0.mk eg
  have HM := Aside0.mk hm
  have hl : l0.length < 9 := by omega
  have e56 : ∀ args w, (callFunc 56 args).run Try.prog w = .ok (.enter 56 args) w := enters_of Try.func56 (by kernel_rfl) rfl
  have E56 := Aside0.mk e56
  clear hr hg eg hm e56
  go_enter Try.func41, Try.ntmps41
  go_wp2_with (((with_reducible refine gate_dst (N := 7) rfl ?_); refine Kd.R_lit (Kd.int .i64) _ 3 ?hg (N := 7) ?hd (xs := ([] : List Int)) (inner := []) (ok := fun _ => True) (okp := fun _ => True) ?hr ?hp (fun _ hk => hk) trivial (Below.refl _ _) (Nat.le_refl _) (by simp) ?_; (case hd => rfl); (case hg => rfl); (case hr => first | (go_simp; done) | (go_simp; rfl)); (case hp => exact (Reps.none _ _)); intro v7 w3 ho hb hg_ hnew_; clear hg_ hnew_; have HO := Aside0.mk (Kd.R_lower (base' := w.heap.size + 2) ho (by simp)); have HB := Aside0.mk (show Below w.heap.size w w3 from ((((Below.refl _ _).alloc (Nat.le_refl _) _).alloc (by simp) _).trans (hb.mono (by simp; omega)))); have hz3 : w.heap.size + 2 ≤ w3.heap.size := (by have := hb.size; simp at this; omega); have hbl : w3.cell? ⟨w.heap.size, 0, none⟩ = some (.slice A0 l0.length c0) := (hb.cell (p := ⟨w.heap.size, 0, none⟩) (by simp; omega)).trans (by simp); have hbc : w3.cell? ⟨w.heap.size + 1, 0, none⟩ = some (.func (.func g) #[] #[]) := (hb.cell (p := ⟨w.heap.size + 1, 0, none⟩) (by simp)).trans (by simp); clear ho hb))
  have HBL := Aside0.mk hbl
  have HBC := Aside0.mk hbc
  go_loopg [5, 6, 10] l0.length (fun gg s5 _ s10 wr => ∃ kk : Nat, kk ≤ l0.length ∧ l0.length - kk ≤ gg ∧ s10 = .int .i64 kk ∧ Aside0 (Kd.R (Kd.int .i64) 3 wr (w.heap.size + 2) (fun _ => True) s5 (upTo kk)) ∧ Aside0 (Below (w.heap.size + 2) w3 wr))
  case atStart => exact ⟨0, Nat.zero_le _, by omega, rfl, HO, ⟨Below.refl _ _⟩⟩
  case round =>
    clear HO
    obtain ⟨kk, hkk, hgg, rfl, HO, HB3⟩ := hrel
    by_cases hlt : kk < l0.length
    · have hltz : (kk : Int) < (l0.length : Int) := by omega
      clear hbl hbc
      go_wp2_with (((with_reducible refine gate_builtin (b := .append) (xs := #[.tmp 13, .tmp 15]) rfl ?_); at_builtin; refine Kd.R_append (Kd.int .i64) (w0 := w3) (w.heap.size + 2) rfl (.tmp 13) (.tmp 15) 30 3 (.int .i64 0) 8 rfl Try.underlying30 info3 rfl (by decide) (by decide) u5 (upTo kk) (kk : Int) [.int .i64 (kk : Int)] (fun _ => True) (fun _ => False) rfl rfl ?aP (fun _ hk => hk.elim) (fun _ _ => trivial) HO.out HB3.out (Nat.le_trans hz3 HB3.out.size) (by rw [upTo_len]; omega) ?_; (case aP => exact rfl); intro v2 w13 ho hb hg2 hat; have HO2 := Aside0.mk ho; have HB2 := Aside0.mk hb; clear ho hb hg2 hat))
      go_roundg (l0.length - (kk + 1))
      case measure => omega
      case rel => exact ⟨kk + 1, by omega, by omega, by go_num, ⟨by rw [upTo_succ]; exact HO2.out⟩, HB2⟩
    · have hltz : ¬ (kk : Int) < (l0.length : Int) := by omega
      obtain rfl : kk = m + 1 := by have := HM.out; omega
      have own := Kd.own_of_R HO.out
      rcases own.2 with ⟨_, h0⟩ | ⟨gb, cap, cur, rfl, hge, hh, hle, hcm, hcs, htk⟩
      · rw [upTo_len] at h0
        omega
      · have hgb : gb < wr.heap.size := (Array.getElem?_eq_some_iff.1 hh).1
        have hbw := HB.out.trans (HB3.out.mono (by omega))
        have hcl := cmp_lays HG.out EG.out (gb := gb) (B := w.heap.size + 2) (W := wr) HR.out HM.out ((HB3.out.cell (p := ⟨w.heap.size, 0, none⟩) (by simp)).trans HBL.out) ((HB3.out.cell (p := ⟨w.heap.size + 1, 0, none⟩) (by simp)).trans HBC.out) hbw (by omega) (by omega) (by omega) hge hgb
        have hsort := sortStable_small (encF (m := m)) (cfF cf2 l0 m) 56 _ gb 0 cap (idF m) wr E56.out hcl ⟨fun _ => rfl, start_holds hh htk, hgb⟩ (by rw [idF_size]; omega)
        generalize hr' : Sort.insertionSort (ltOf (cfF cf2 l0 m)) (idF m) 0 (idF m).size = srt at hsort
        have HSZ := Aside0.mk (show srt.size = m + 1 by rw [← hr', size_ins _ _ (by rw [idF_size]; omega), idF_size])
        have HR' := Aside0.mk hr'
        rw [idF_size] at hsort
        have HS := Aside0.mk hsort
        have HH := Aside0.mk hh
        have HGE := Aside0.mk hge
        have HLE := Aside0.mk hle
        have HCM := Aside0.mk hcm
        have HCS := Aside0.mk hcs
        have HBW := Aside0.mk hbw
        have HGB := Aside0.mk hgb
        rw [upTo_len]
        have hltz2 : ¬ (m : Int) + 1 < (l0.length : Int) := by omega
        clear hsort hcl hh hge hle hcm hcs htk own hbw hbl hbc hr' hgb
        go_wp2_with (go_at_call 55; refine (HS.out).mono ?_; rintro e w5 ⟨rfl, hs⟩; obtain ⟨⟨n, os, rfl⟩⟩ := hs)
        go_ret
        refine ⟨_, rfl, ?_, ?_⟩
        · have := end_R (n := n) HH.out (base := w.heap.size) (by have := HGE.out; omega) (by have := HLE.out; rw [upTo_len] at this; exact this) HCM.out HCS.out srt HSZ.out os
          unfold ordF
          rw [HR'.out]
          exact this
        · exact HBW.out.trans (sw_below _ _ _ _ _ _ _ (by have := HGE.out; omega) HGB.out)
#print axioms ordered_calls
end Go.Proofs.Ytenbnempjgbibaa.X
