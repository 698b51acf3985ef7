/-
  The program's copy of a motion. Printed by gen7.py.
-/
import Derived.Test.YtjkbecgenjhaaaaPush
import Derived.Test.YtjkbecgenjhaaaaTo
import Derived.Test.YtjkbecgenjhaaaaOwnPt
import Derived.Deep.RegionHeld3
namespace Go.Proofs.Ytjkbecgenjhaaaa
open Go.RowKit

set_option maxRecDepth 100000 in
set_option maxHeartbeats 400000 in
theorem ownSteps_any (v : Value) (l : DStepS) (w : World) (hl : Has RStepS w [v] l) (hs : tStepS l ≤ 1099511627776) (hn : l.length ≤ 549755813888) :
    Calls Try.prog 72 #[v] w (Post (Own1Post RStepS l w)) := by
  obtain ⟨i0, hi, hz0, hz1, hz2⟩ := info_parts infoStep
  obtain ⟨ad, c, rfl, hc, hm, hg⟩ := hl.elems
  unfold maxLen at hm
  have HG := Lib.hid hg; clear hg hl
  have HS := Lib.hid hs; clear hs
  go_enter Try.func72, Try.ntmps72
  go_wp2
  go_loopw [3, 9] (fun out i wr => ∃ k : Nat, k ≤ l.length ∧ i = .int .i64 k ∧ Grow RStep true w.heap.size wr 80 out (l.take k) ∧ Below w.heap.size w wr) (fun _ i _ => l.length - (intOf i).toNat)
  case atStart => exact ⟨0, Nat.zero_le _, rfl, Grow.lit RStep true w 80 (Nat.le_refl _), (Below.refl _ _).alloc (Nat.le_refl _) _⟩
  case round =>
    obtain ⟨k, hk, rfl, hgr, hbw⟩ := hrel
    obtain ⟨ado, capo, rfl, _, _⟩ := hgr.form
    have hlk : (l.take k).length = k := by rw [List.length_take]; omega
    rw [hlk] at hgr ⊢
    by_cases hkl : k < l.length
    rotate_left
    · obtain rfl : k = l.length := by omega
      rw [List.take_length] at hgr
      have HO := Lib.hid (hgr.own (p := by decide)); clear hgr
      go_wp2
      go_ret
      exact ⟨_, rfl, HO.out, hbw⟩
    obtain ⟨b, off, csc, rfl, hbl, hx, hcs⟩ := HG.out k hkl
    obtain ⟨c0, c1, c2, c3, c4, c5, c6, rfl⟩ := list7 hx.len
    have oc0 := hx.one 0 _ rfl
    have oc1 := hx.one 1 _ rfl
    have oc2 := hx.one 2 _ rfl
    have oc3 := hx.one 3 _ rfl
    have oc4 := hx.one 4 _ rfl
    have oc5 := hx.one 5 _ rfl
    have oc6 := hx.one 6 _ rfl
    have gc0 : wr.cell? ⟨b, off + k * 7, none⟩ = some c0 := (hbw.cell (p := ⟨b, _, none⟩) hbl).trans (hcs 0 _ rfl)
    have gc1 : wr.cell? ⟨b, off + k * 7 + 1, none⟩ = some c1 := (hbw.cell (p := ⟨b, _, none⟩) hbl).trans (hcs 1 _ rfl)
    have gc2 : wr.cell? ⟨b, off + k * 7 + 2, none⟩ = some c2 := (hbw.cell (p := ⟨b, _, none⟩) hbl).trans (hcs 2 _ rfl)
    have gc3 : wr.cell? ⟨b, off + k * 7 + 3, none⟩ = some c3 := (hbw.cell (p := ⟨b, _, none⟩) hbl).trans (hcs 3 _ rfl)
    have gc4 : wr.cell? ⟨b, off + k * 7 + 4, none⟩ = some c4 := (hbw.cell (p := ⟨b, _, none⟩) hbl).trans (hcs 4 _ rfl)
    have gc5 : wr.cell? ⟨b, off + k * 7 + 5, none⟩ = some c5 := (hbw.cell (p := ⟨b, _, none⟩) hbl).trans (hcs 5 _ rfl)
    have gc6 : wr.cell? ⟨b, off + k * 7 + 6, none⟩ = some c6 := (hbw.cell (p := ⟨b, _, none⟩) hbl).trans (hcs 6 _ rfl)
    clear hcs
    obtain ⟨hp0, hp1⟩ := hx.split [c0] [c1, c2, c3, c4, c5, c6] rfl
    obtain ⟨rfl, hI⟩ := hp0.int
    have ht : tPoint l[k].2 ≤ 1099511627776 := by have := tStepS_get l k hkl; have := HS.out; unfold tStep at *; omega
    have HX := Lib.hid hp1; have HT := Lib.hid ht; have HGR := Lib.hid hgr
    have HI := Lib.hid hI
    clear hx hp0 hp1 ht hgr hI
    have hsz := hbw.size
    have hb0 := hbw.alloc hsz (Obj.cells #[.int .i64 l[k].1, c1, c2, c3, c4, c5, c6] 80)
    have hbr0 := (Below.refl wr.heap.size wr).alloc (Nat.le_refl _) (Obj.cells #[.int .i64 l[k].1, c1, c2, c3, c4, c5, c6] 80)
    go_wp2
    go_region_held3 (fun w' => w'.cell? ⟨wr.heap.size, 0, none⟩ = some (.int .i64 l[k].1) ∧ w'.cell? ⟨wr.heap.size, 1, none⟩ = some c1 ∧ w'.cell? ⟨wr.heap.size, 2, none⟩ = some c2 ∧ w'.cell? ⟨wr.heap.size, 3, none⟩ = some c3 ∧ w'.cell? ⟨wr.heap.size, 4, none⟩ = some c4 ∧ w'.cell? ⟨wr.heap.size, 5, none⟩ = some c5 ∧ w'.cell? ⟨wr.heap.size, 6, none⟩ = some c6)
      (first | go_keep | exact ⟨hk1_0, hk1_1, hk1_2, hk1_3, hk1_4, hk1_5, hk1_6⟩ | exact ⟨hk2_0, hk2_1, hk2_2, hk2_3, hk2_4, hk2_5, hk2_6⟩)
      (first
        | (go_at_call_of 100 c1; refine (ownPoint_any _ _ _ _ _ _ _ _ (HX.out.below hb0.drew) HT.out).mono ?_; rintro e w1 ⟨v1, rfl, ⟨d, rfl, ho1⟩, hc1⟩; have hk1_0 : w1.cell? ⟨wr.heap.size, 0, none⟩ = some (.int .i64 l[k].1) := (hc1.cell (p := ⟨wr.heap.size, 0, none⟩) (by simp <;> omega)).trans (by simp [go_sem]); have hk1_1 : w1.cell? ⟨wr.heap.size, 1, none⟩ = some c1 := (hc1.cell (p := ⟨wr.heap.size, 1, none⟩) (by simp <;> omega)).trans (by simp [go_sem]); have hk1_2 : w1.cell? ⟨wr.heap.size, 2, none⟩ = some c2 := (hc1.cell (p := ⟨wr.heap.size, 2, none⟩) (by simp <;> omega)).trans (by simp [go_sem]); have hk1_3 : w1.cell? ⟨wr.heap.size, 3, none⟩ = some c3 := (hc1.cell (p := ⟨wr.heap.size, 3, none⟩) (by simp <;> omega)).trans (by simp [go_sem]); have hk1_4 : w1.cell? ⟨wr.heap.size, 4, none⟩ = some c4 := (hc1.cell (p := ⟨wr.heap.size, 4, none⟩) (by simp <;> omega)).trans (by simp [go_sem]); have hk1_5 : w1.cell? ⟨wr.heap.size, 5, none⟩ = some c5 := (hc1.cell (p := ⟨wr.heap.size, 5, none⟩) (by simp <;> omega)).trans (by simp [go_sem]); have hk1_6 : w1.cell? ⟨wr.heap.size, 6, none⟩ = some c6 := (hc1.cell (p := ⟨wr.heap.size, 6, none⟩) (by simp <;> omega)).trans (by simp [go_sem]); obtain ⟨d0, d1, d2, d3, d4, d5, rfl⟩ := list6 ho1.has.len; have hy1 := hc1.size; simp at hy1; have hlt0 : wr.heap.size < w1.heap.size := (by omega); have HO1 := Lib.hid ho1; have hbq := Below.up hb0.drew hc1 (by simp <;> omega); have hbr := Below.up hbr0.drew hc1 (by simp <;> omega); have hd0 := ho1.has.one 0 d0 rfl; have hd1 := ho1.has.one 1 d1 rfl; have hd2 := ho1.has.one 2 d2 rfl; have hd3 := ho1.has.one 3 d3 rfl; have hd4 := ho1.has.one 4 d4 rfl; have hd5 := ho1.has.one 5 d5 rfl; clear ho1)
        | (refine step_grow (P := Try.prog) (A := RStep) (x := l[k]) (cs := [.int .i64 l[k].1, d0, d1, d2, d3, d4, d5]) _ (by rfl) (.tmp 13) (.tmp 20) _ (by rfl) 80 i0 _ _ Try.underlying25 hi hz0 hz1 hz2 (by rfl) (by decide) (by rfl) HGR.out ?_ (Arg.own (lo := wr.heap.size) ?_ (Nat.le_refl _)) hsz w1.heap.size _ (by rfl) ?_ (by rw [hlk]; unfold maxLen; omega) (by rw [hlk]; omega) ?_
           · (repeat (first | with_reducible exact hbr | with_reducible refine Below.drew ?_ | with_reducible refine Below.alloc ?_ (by first | omega | (simp <;> omega)) _))
           · exact (OwnIn.own (OwnIn.pair (OwnIn.int wr.heap.size _ HI.out) (HO1.out.below ((Below.refl _ _).alloc (Nat.le_refl _) _)).inn (by simp <;> omega) (by simp <;> omega) (by simp <;> omega)) (Nat.le_refl _))
           · exact cells7 (by simp [go_sem]) (by simp [go_sem]) (by simp [go_sem]) (by simp [go_sem]) (by simp [go_sem]) (by simp [go_sem]) (by simp [go_sem])
           intro v2 w2 hg2 hbb2 hkp
           obtain ⟨hkc, hkf⟩ := kept_cells hkp
           have hk2_0 : w2.cell? ⟨wr.heap.size, 0, none⟩ = some (.int .i64 l[k].1) := (hkc wr.heap.size 0 (Nat.le_refl _) (by simp <;> omega)).trans (by simp [go_sem, hlt0, hk1_0])
           have hk2_1 : w2.cell? ⟨wr.heap.size, 1, none⟩ = some c1 := (hkc wr.heap.size 1 (Nat.le_refl _) (by simp <;> omega)).trans (by simp [go_sem, hlt0, hk1_1])
           have hk2_2 : w2.cell? ⟨wr.heap.size, 2, none⟩ = some c2 := (hkc wr.heap.size 2 (Nat.le_refl _) (by simp <;> omega)).trans (by simp [go_sem, hlt0, hk1_2])
           have hk2_3 : w2.cell? ⟨wr.heap.size, 3, none⟩ = some c3 := (hkc wr.heap.size 3 (Nat.le_refl _) (by simp <;> omega)).trans (by simp [go_sem, hlt0, hk1_3])
           have hk2_4 : w2.cell? ⟨wr.heap.size, 4, none⟩ = some c4 := (hkc wr.heap.size 4 (Nat.le_refl _) (by simp <;> omega)).trans (by simp [go_sem, hlt0, hk1_4])
           have hk2_5 : w2.cell? ⟨wr.heap.size, 5, none⟩ = some c5 := (hkc wr.heap.size 5 (Nat.le_refl _) (by simp <;> omega)).trans (by simp [go_sem, hlt0, hk1_5])
           have hk2_6 : w2.cell? ⟨wr.heap.size, 6, none⟩ = some c6 := (hkc wr.heap.size 6 (Nat.le_refl _) (by simp <;> omega)).trans (by simp [go_sem, hlt0, hk1_6])))
    rename_i hh
    clear hh
    rw [← List.take_succ_eq_append_getElem hkl] at hg2
    have HG2 := Lib.hid hg2; clear hg2
    have hbf := hbq.alloc (by omega) (Obj.cells #[.int .i64 l[k].1, d0, d1, d2, d3, d4, d5] 80)
    have HBF := Lib.hid (hbf.trans hbb2)
    go_wp2
    go_roundw
    case rel => exact ⟨k + 1, by omega, by go_num, HG2.out, HBF.out⟩
    case measure => simp [intOf]; omega
end Go.Proofs.Ytjkbecgenjhaaaa
