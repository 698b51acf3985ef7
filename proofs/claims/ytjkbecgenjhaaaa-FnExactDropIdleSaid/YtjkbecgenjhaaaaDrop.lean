/-
  DropIdle, the reference's. Printed by gen8.py.
-/
import Derived.Test.YtjkbecgenjhaaaaOff
import Derived.Test.YtjkbecgenjhaaaaStepd
import Derived.Test.YtjkbecgenjhaaaaTo
import Derived.Deep.RegionHeld3
namespace Go.Proofs.Ytjkbecgenjhaaaa
open Go.RowKit

set_option maxRecDepth 100000 in
set_option maxHeartbeats 400000 in
theorem specDropIdle_any (h0 : Int) (p0 p1 p2 p3 p4 p5 v : Value) (p : DPoint) (l : DStepS) (w : World) (hp : Has RPoint w [p0, p1, p2, p3, p4, p5] p) (hl : Has RStepS w [v] l) (hs : tStepS l ≤ 1099511627776) (hn : l.length ≤ 549755813888) :
    Calls Try.prog 27 #[.agg #[.int .i64 h0, p0, p1, p2, p3, p4, p5], v] w (Post (fun v w' => Has RStepS w' [v] (dropAll p l).2 ∧ Below w.heap.size w w')) := by
  obtain ⟨i0, hi, hz0, hz1, hz2⟩ := info_parts infoStep
  obtain ⟨ad, c, rfl, hc, hm, hg⟩ := hl.elems
  unfold maxLen at hm
  have HG := Lib.hid hg; clear hg hl
  have HS := Lib.hid hs; clear hs
  have op0 := hp.one 0 p0 rfl
  have op1 := hp.one 1 p1 rfl
  have op2 := hp.one 2 p2 rfl
  have op3 := hp.one 3 p3 rfl
  have op4 := hp.one 4 p4 rfl
  have op5 := hp.one 5 p5 rfl
  have HP := Lib.hid hp; clear hp
  go_enter Try.func27, Try.ntmps27
  go_wp2
  go_loopw [5, 11] (fun out i wr => ∃ (k : Nat) (hd : Int) (q0 q1 q2 q3 q4 q5 : Value) (pp : DPoint) (ol : DStepS), k ≤ l.length ∧ i = .int .i64 k ∧ dropAll p (l.take k) = (pp, ol) ∧ Has RPoint w [q0, q1, q2, q3, q4, q5] pp ∧
      (wr.cell? ⟨w.heap.size, 0, none⟩ = some (.int .i64 hd) ∧ wr.cell? ⟨w.heap.size, 1, none⟩ = some q0 ∧ wr.cell? ⟨w.heap.size, 2, none⟩ = some q1 ∧ wr.cell? ⟨w.heap.size, 3, none⟩ = some q2 ∧ wr.cell? ⟨w.heap.size, 4, none⟩ = some q3 ∧ wr.cell? ⟨w.heap.size, 5, none⟩ = some q4 ∧ wr.cell? ⟨w.heap.size, 6, none⟩ = some q5) ∧ (∀ o, wr.frozen? ⟨w.heap.size, o, none⟩ = false) ∧
      w.heap.size < wr.heap.size ∧ Grow (RStep.off w.heap.size) false (w.heap.size + 1) wr 80 out ol ∧ Below w.heap.size w wr) (fun _ i _ => l.length - (intOf i).toNat)
  case atStart => exact ⟨0, h0, p0, p1, p2, p3, p4, p5, p, [], Nat.zero_le _, rfl, rfl, HP.out, ⟨by simp [go_sem], by simp [go_sem], by simp [go_sem], by simp [go_sem], by simp [go_sem], by simp [go_sem], by simp [go_sem]⟩, fun o => by simp [go_sem], by simp <;> omega, (by have := Grow.offNil RStep w.heap.size (w.alloc (Obj.cells #[.int .i64 h0, p0, p1, p2, p3, p4, p5] 55)) 80 (base := w.heap.size + 1) (by simp); simpa using this), ((Below.refl _ _).alloc (Nat.le_refl _) _).alloc (by simp) _⟩
  case round =>
    obtain ⟨k, hd, q0, q1, q2, q3, q4, q5, pp, ol, hk, rfl, hst, hq, ⟨hp_0, hp_1, hp_2, hp_3, hp_4, hp_5, hp_6⟩, hfz, hlp, hgr, hbw⟩ := hrel
    obtain ⟨ado, capo, rfl, _, _⟩ := hgr.form
    have hol : ol.length ≤ l.length := by have h1 := dropAll_len p (l.take k); rw [hst] at h1; rw [List.length_take] at h1; simp at h1; omega
    by_cases hkl : k < l.length
    rotate_left
    · obtain rfl : k = l.length := by omega
      rw [List.take_length] at hst
      have HO := Lib.hid (hgr.forget.has (p := by decide)); clear hgr
      go_wp2
      go_ret
      exact ⟨_, rfl, by rw [hst]; exact HO.out, hbw⟩
    obtain ⟨b, off, csc, rfl, hbl, hx, hcs⟩ := HG.out k hkl
    obtain ⟨c0, c1, c2, c3, c4, c5, c6, rfl⟩ := list7 hx.len
    have oc0 := hx.one 0 _ rfl
    have oc1 := hx.one 1 _ rfl
    have oc2 := hx.one 2 _ rfl
    have oc3 := hx.one 3 _ rfl
    have oc4 := hx.one 4 _ rfl
    have oc5 := hx.one 5 _ rfl
    have oc6 := hx.one 6 _ rfl
    have gc0 : wr.cell? ⟨b, off + k * 7, none⟩ = some c0 := (hbw.cell (p := ⟨b, _, none⟩) hbl).trans (hcs 0 _ rfl)
    have gc1 : wr.cell? ⟨b, off + k * 7 + 1, none⟩ = some c1 := (hbw.cell (p := ⟨b, _, none⟩) hbl).trans (hcs 1 _ rfl)
    have gc2 : wr.cell? ⟨b, off + k * 7 + 2, none⟩ = some c2 := (hbw.cell (p := ⟨b, _, none⟩) hbl).trans (hcs 2 _ rfl)
    have gc3 : wr.cell? ⟨b, off + k * 7 + 3, none⟩ = some c3 := (hbw.cell (p := ⟨b, _, none⟩) hbl).trans (hcs 3 _ rfl)
    have gc4 : wr.cell? ⟨b, off + k * 7 + 4, none⟩ = some c4 := (hbw.cell (p := ⟨b, _, none⟩) hbl).trans (hcs 4 _ rfl)
    have gc5 : wr.cell? ⟨b, off + k * 7 + 5, none⟩ = some c5 := (hbw.cell (p := ⟨b, _, none⟩) hbl).trans (hcs 5 _ rfl)
    have gc6 : wr.cell? ⟨b, off + k * 7 + 6, none⟩ = some c6 := (hbw.cell (p := ⟨b, _, none⟩) hbl).trans (hcs 6 _ rfl)
    clear hcs
    obtain ⟨hx0, hx1⟩ := hx.split [c0] [c1, c2, c3, c4, c5, c6] rfl
    obtain ⟨rfl, hI⟩ := hx0.int
    have ht : tPoint l[k].2 ≤ 1099511627776 := by have := tStepS_get l k hkl; have := HS.out; unfold tStep at *; omega
    have HX := Lib.hid hx1; have HT := Lib.hid ht; have HGR := Lib.hid hgr
    have HI := Lib.hid hI; have HQ := Lib.hid hq; have HST := Lib.hid hst
    have oq0 := hq.one 0 q0 rfl
    have oq1 := hq.one 1 q1 rfl
    have oq2 := hq.one 2 q2 rfl
    have oq3 := hq.one 3 q3 rfl
    have oq4 := hq.one 4 q4 rfl
    have oq5 := hq.one 5 q5 rfl
    clear hx hx0 hx1 ht hgr hI hq hst
    have hsz := hbw.size
    have hb0 := hbw.alloc hsz (Obj.cells #[.int .i64 l[k].1, c1, c2, c3, c4, c5, c6] 80)
    have hbr0 := (Below.refl wr.heap.size wr).alloc (Nat.le_refl _) (Obj.cells #[.int .i64 l[k].1, c1, c2, c3, c4, c5, c6] 80)
    by_cases h0 : l[k].1 = 0
    rotate_left
    · have hn0 : (l[k].1 != 0) = true := by simp [h0]
      have hdr := Lib.hid (dropAll_turn HST.out h0)
      rw [← List.take_succ_eq_append_getElem hkl] at hdr
      have H0 := Lib.hid h0; clear h0
      go_wp2
      generalize hWd : wr.alloc (Obj.cells #[.int .i64 l[k].1, c1, c2, c3, c4, c5, c6] 80) = W at hb0 hbr0 ⊢
      have hsW_0 : W.cell? ⟨wr.heap.size, 0, none⟩ = some (.int .i64 l[k].1) := by rw [← hWd]; simp [go_sem]
      have hsW_1 : W.cell? ⟨wr.heap.size, 1, none⟩ = some c1 := by rw [← hWd]; simp [go_sem]
      have hsW_2 : W.cell? ⟨wr.heap.size, 2, none⟩ = some c2 := by rw [← hWd]; simp [go_sem]
      have hsW_3 : W.cell? ⟨wr.heap.size, 3, none⟩ = some c3 := by rw [← hWd]; simp [go_sem]
      have hsW_4 : W.cell? ⟨wr.heap.size, 4, none⟩ = some c4 := by rw [← hWd]; simp [go_sem]
      have hsW_5 : W.cell? ⟨wr.heap.size, 5, none⟩ = some c5 := by rw [← hWd]; simp [go_sem]
      have hsW_6 : W.cell? ⟨wr.heap.size, 6, none⟩ = some c6 := by rw [← hWd]; simp [go_sem]
      have hpW_0 : W.cell? ⟨w.heap.size, 0, none⟩ = some (.int .i64 hd) := by rw [← hWd]; simp [go_sem, hlp, hp_0]
      have hpW_1 : W.cell? ⟨w.heap.size, 1, none⟩ = some q0 := by rw [← hWd]; simp [go_sem, hlp, hp_1]
      have hpW_2 : W.cell? ⟨w.heap.size, 2, none⟩ = some q1 := by rw [← hWd]; simp [go_sem, hlp, hp_2]
      have hpW_3 : W.cell? ⟨w.heap.size, 3, none⟩ = some q2 := by rw [← hWd]; simp [go_sem, hlp, hp_3]
      have hpW_4 : W.cell? ⟨w.heap.size, 4, none⟩ = some q3 := by rw [← hWd]; simp [go_sem, hlp, hp_4]
      have hpW_5 : W.cell? ⟨w.heap.size, 5, none⟩ = some q4 := by rw [← hWd]; simp [go_sem, hlp, hp_5]
      have hpW_6 : W.cell? ⟨w.heap.size, 6, none⟩ = some q5 := by rw [← hWd]; simp [go_sem, hlp, hp_6]
      have hfW : ∀ o, W.frozen? ⟨w.heap.size, o, none⟩ = false := fun o => by rw [← hWd]; simp [go_sem, hlp, hfz]
      have ltW : wr.heap.size < W.heap.size := by rw [← hWd]; simp
      have hW := hb0; have hWr := hbr0; clear hb0 hbr0 hWd
      go_region_held3 (fun w' => w'.cell? ⟨wr.heap.size, 0, none⟩ = some (.int .i64 l[k].1) ∧ w'.cell? ⟨wr.heap.size, 1, none⟩ = some c1 ∧ w'.cell? ⟨wr.heap.size, 2, none⟩ = some c2 ∧ w'.cell? ⟨wr.heap.size, 3, none⟩ = some c3 ∧ w'.cell? ⟨wr.heap.size, 4, none⟩ = some c4 ∧ w'.cell? ⟨wr.heap.size, 5, none⟩ = some c5 ∧ w'.cell? ⟨wr.heap.size, 6, none⟩ = some c6)
        (first | go_keep | exact ⟨hs2_0, hs2_1, hs2_2, hs2_3, hs2_4, hs2_5, hs2_6⟩ | exact ⟨hs3_0, hs3_1, hs3_2, hs3_3, hs3_4, hs3_5, hs3_6⟩)
        (first
          | (go_at_call_of 69 c1; refine (l05Copy_any _ _ _ _ _ _ _ _ (HX.out.below hW.drew) HT.out).mono ?_; rintro e w2 ⟨v2, rfl, ⟨d, rfl, ho2⟩, hc2⟩; have hs2_0 : w2.cell? ⟨wr.heap.size, 0, none⟩ = some (.int .i64 l[k].1) := (hc2.cell (p := ⟨wr.heap.size, 0, none⟩) (by simp <;> omega)).trans (by simp [go_sem, hsW_0]); have hs2_1 : w2.cell? ⟨wr.heap.size, 1, none⟩ = some c1 := (hc2.cell (p := ⟨wr.heap.size, 1, none⟩) (by simp <;> omega)).trans (by simp [go_sem, hsW_1]); have hs2_2 : w2.cell? ⟨wr.heap.size, 2, none⟩ = some c2 := (hc2.cell (p := ⟨wr.heap.size, 2, none⟩) (by simp <;> omega)).trans (by simp [go_sem, hsW_2]); have hs2_3 : w2.cell? ⟨wr.heap.size, 3, none⟩ = some c3 := (hc2.cell (p := ⟨wr.heap.size, 3, none⟩) (by simp <;> omega)).trans (by simp [go_sem, hsW_3]); have hs2_4 : w2.cell? ⟨wr.heap.size, 4, none⟩ = some c4 := (hc2.cell (p := ⟨wr.heap.size, 4, none⟩) (by simp <;> omega)).trans (by simp [go_sem, hsW_4]); have hs2_5 : w2.cell? ⟨wr.heap.size, 5, none⟩ = some c5 := (hc2.cell (p := ⟨wr.heap.size, 5, none⟩) (by simp <;> omega)).trans (by simp [go_sem, hsW_5]); have hs2_6 : w2.cell? ⟨wr.heap.size, 6, none⟩ = some c6 := (hc2.cell (p := ⟨wr.heap.size, 6, none⟩) (by simp <;> omega)).trans (by simp [go_sem, hsW_6]); have hp2_0 : w2.cell? ⟨w.heap.size, 0, none⟩ = some (.int .i64 hd) := (hc2.cell (p := ⟨w.heap.size, 0, none⟩) (by simp <;> omega)).trans (by simp [go_sem, hpW_0]); have hp2_1 : w2.cell? ⟨w.heap.size, 1, none⟩ = some q0 := (hc2.cell (p := ⟨w.heap.size, 1, none⟩) (by simp <;> omega)).trans (by simp [go_sem, hpW_1]); have hp2_2 : w2.cell? ⟨w.heap.size, 2, none⟩ = some q1 := (hc2.cell (p := ⟨w.heap.size, 2, none⟩) (by simp <;> omega)).trans (by simp [go_sem, hpW_2]); have hp2_3 : w2.cell? ⟨w.heap.size, 3, none⟩ = some q2 := (hc2.cell (p := ⟨w.heap.size, 3, none⟩) (by simp <;> omega)).trans (by simp [go_sem, hpW_3]); have hp2_4 : w2.cell? ⟨w.heap.size, 4, none⟩ = some q3 := (hc2.cell (p := ⟨w.heap.size, 4, none⟩) (by simp <;> omega)).trans (by simp [go_sem, hpW_4]); have hp2_5 : w2.cell? ⟨w.heap.size, 5, none⟩ = some q4 := (hc2.cell (p := ⟨w.heap.size, 5, none⟩) (by simp <;> omega)).trans (by simp [go_sem, hpW_5]); have hp2_6 : w2.cell? ⟨w.heap.size, 6, none⟩ = some q5 := (hc2.cell (p := ⟨w.heap.size, 6, none⟩) (by simp <;> omega)).trans (by simp [go_sem, hpW_6]); have hf2 : ∀ o, w2.frozen? ⟨w.heap.size, o, none⟩ = W.frozen? ⟨w.heap.size, o, none⟩ := fun o => (hc2.frozen (p := ⟨w.heap.size, o, none⟩) (by simp <;> omega)).trans (by simp [go_sem]); obtain ⟨d0, d1, d2, d3, d4, d5, rfl⟩ := list6 ho2.has.len; have hy2 := hc2.size; simp at hy2; have hlt2 : wr.heap.size < w2.heap.size := (by omega); have hlp2 : w.heap.size < w2.heap.size := (by omega); have HO2 := Lib.hid ho2; have hbq := Below.up hW.drew hc2 (by simp <;> omega); have hbr := Below.up hWr.drew hc2 (by simp <;> omega); have hd0 := ho2.has.one 0 d0 rfl; have hd1 := ho2.has.one 1 d1 rfl; have hd2 := ho2.has.one 2 d2 rfl; have hd3 := ho2.has.one 3 d3 rfl; have hd4 := ho2.has.one 4 d4 rfl; have hd5 := ho2.has.one 5 d5 rfl; clear ho2)
          | (refine step_grow (P := Try.prog) (A := RStep.off w.heap.size) (x := l[k]) (cs := [.int .i64 l[k].1, d0, d1, d2, d3, d4, d5]) _ (by rfl) (.tmp 26) (.tmp 33) _ (by rfl) 80 i0 _ _ Try.underlying25 hi hz0 hz1 hz2 (by rfl) (by show 0 < RStep.size; decide) (by rfl) HGR.out ?_ (Arg.newOff (lo := wr.heap.size) ?_ (Nat.le_refl _) hlp) hlp w2.heap.size _ (by rfl) ?_ (by unfold maxLen; omega) (by omega) ?_
             · (repeat (first | with_reducible exact hbr | with_reducible refine Below.drew ?_ | with_reducible refine Below.alloc ?_ (by first | omega | (simp <;> omega)) _))
             · exact New.pair (cs1 := [.int .i64 l[k].1]) (New.int _ _ HI.out) ((HO2.out.below ((Below.refl _ _).alloc (Nat.le_refl _) _)).mono (by simp <;> omega))
             · exact cells7 (by simp [go_sem]) (by simp [go_sem]) (by simp [go_sem]) (by simp [go_sem]) (by simp [go_sem]) (by simp [go_sem]) (by simp [go_sem])
             intro v3 w3 hg3 hbb3 hkp
             obtain ⟨hkc, hkf⟩ := kept_cells hkp
             obtain ⟨hbc, hbf⟩ := bcell hbb3
             have hs3_0 : w3.cell? ⟨wr.heap.size, 0, none⟩ = some (.int .i64 l[k].1) := (hkc wr.heap.size 0 (Nat.le_refl _) (by simp <;> omega)).trans (by simp [go_sem, hlt2, hs2_0])
             have hs3_1 : w3.cell? ⟨wr.heap.size, 1, none⟩ = some c1 := (hkc wr.heap.size 1 (Nat.le_refl _) (by simp <;> omega)).trans (by simp [go_sem, hlt2, hs2_1])
             have hs3_2 : w3.cell? ⟨wr.heap.size, 2, none⟩ = some c2 := (hkc wr.heap.size 2 (Nat.le_refl _) (by simp <;> omega)).trans (by simp [go_sem, hlt2, hs2_2])
             have hs3_3 : w3.cell? ⟨wr.heap.size, 3, none⟩ = some c3 := (hkc wr.heap.size 3 (Nat.le_refl _) (by simp <;> omega)).trans (by simp [go_sem, hlt2, hs2_3])
             have hs3_4 : w3.cell? ⟨wr.heap.size, 4, none⟩ = some c4 := (hkc wr.heap.size 4 (Nat.le_refl _) (by simp <;> omega)).trans (by simp [go_sem, hlt2, hs2_4])
             have hs3_5 : w3.cell? ⟨wr.heap.size, 5, none⟩ = some c5 := (hkc wr.heap.size 5 (Nat.le_refl _) (by simp <;> omega)).trans (by simp [go_sem, hlt2, hs2_5])
             have hs3_6 : w3.cell? ⟨wr.heap.size, 6, none⟩ = some c6 := (hkc wr.heap.size 6 (Nat.le_refl _) (by simp <;> omega)).trans (by simp [go_sem, hlt2, hs2_6])
             have hp3_0 : w3.cell? ⟨w.heap.size, 0, none⟩ = some (.int .i64 hd) := (hbc w.heap.size 0 (by omega)).trans (by simp [go_sem, hlp2, hp2_0])
             have hp3_1 : w3.cell? ⟨w.heap.size, 1, none⟩ = some q0 := (hbc w.heap.size 1 (by omega)).trans (by simp [go_sem, hlp2, hp2_1])
             have hp3_2 : w3.cell? ⟨w.heap.size, 2, none⟩ = some q1 := (hbc w.heap.size 2 (by omega)).trans (by simp [go_sem, hlp2, hp2_2])
             have hp3_3 : w3.cell? ⟨w.heap.size, 3, none⟩ = some q2 := (hbc w.heap.size 3 (by omega)).trans (by simp [go_sem, hlp2, hp2_3])
             have hp3_4 : w3.cell? ⟨w.heap.size, 4, none⟩ = some q3 := (hbc w.heap.size 4 (by omega)).trans (by simp [go_sem, hlp2, hp2_4])
             have hp3_5 : w3.cell? ⟨w.heap.size, 5, none⟩ = some q4 := (hbc w.heap.size 5 (by omega)).trans (by simp [go_sem, hlp2, hp2_5])
             have hp3_6 : w3.cell? ⟨w.heap.size, 6, none⟩ = some q5 := (hbc w.heap.size 6 (by omega)).trans (by simp [go_sem, hlp2, hp2_6])
             have hf3 : ∀ o, w3.frozen? ⟨w.heap.size, o, none⟩ = W.frozen? ⟨w.heap.size, o, none⟩ := fun o => (hbf w.heap.size o (by omega)).trans (by simp [go_sem, hlp2, hf2])))
      rename_i hh
      clear hh
      have hb3 := (hbq.alloc (by omega) (Obj.cells #[.int .i64 l[k].1, d0, d1, d2, d3, d4, d5] 80)).trans (hbb3.mono (by omega))
      have lp3 := cell_lt hp3_0
      go_wp2_with fail
      refine (l22After_any _ _ _ _ _ _ _ _ _ _ _ _ _ _ _ _ _ (HQ.out.below hb3) (HX.out.below hb3)).mono ?_
      rintro e w4 ⟨v4, rfl, rfl, hc4⟩
      have hv : stepV hd l[k].1 #[q0, q1, q2, q3, q4, q5] #[c1, c2, c3, c4, c5, c6] = #[(.int .i64 (if l[k].1 = 1 ∨ l[k].1 = -1 then nextHead hd l[k].1 else hd)), q0, q1, q2, q3, q4, q5] := by simp [stepV, H0.out]
      rw [hv]
      have hp4_0 : w4.cell? ⟨w.heap.size, 0, none⟩ = some (.int .i64 hd) := (hc4.cell (p := ⟨w.heap.size, 0, none⟩) (by omega)).trans hp3_0
      have hp4_1 : w4.cell? ⟨w.heap.size, 1, none⟩ = some q0 := (hc4.cell (p := ⟨w.heap.size, 1, none⟩) (by omega)).trans hp3_1
      have hp4_2 : w4.cell? ⟨w.heap.size, 2, none⟩ = some q1 := (hc4.cell (p := ⟨w.heap.size, 2, none⟩) (by omega)).trans hp3_2
      have hp4_3 : w4.cell? ⟨w.heap.size, 3, none⟩ = some q2 := (hc4.cell (p := ⟨w.heap.size, 3, none⟩) (by omega)).trans hp3_3
      have hp4_4 : w4.cell? ⟨w.heap.size, 4, none⟩ = some q3 := (hc4.cell (p := ⟨w.heap.size, 4, none⟩) (by omega)).trans hp3_4
      have hp4_5 : w4.cell? ⟨w.heap.size, 5, none⟩ = some q4 := (hc4.cell (p := ⟨w.heap.size, 5, none⟩) (by omega)).trans hp3_5
      have hp4_6 : w4.cell? ⟨w.heap.size, 6, none⟩ = some q5 := (hc4.cell (p := ⟨w.heap.size, 6, none⟩) (by omega)).trans hp3_6
      have hf4 : ∀ o, w4.frozen? ⟨w.heap.size, o, none⟩ = false := fun o => (hc4.frozen (p := ⟨w.heap.size, o, none⟩) (by omega)).trans (by simp [hf3, hfW])
      have hg4 := Grow.below hg3 hc4
      have hb4 := Below.up hb3 hc4 hb3.size
      generalize (if l[k].1 = 1 ∨ l[k].1 = -1 then nextHead hd l[k].1 else hd) = hd' at *
      go_wp2
      go_roundw
      case rel => exact ⟨k + 1, hd', q0, q1, q2, q3, q4, q5, pp, ol ++ [l[k]], by omega, by go_num, hdr.out, HQ.out, set7_cells (.int .i64 hd') q0 q1 q2 q3 q4 q5 hp4_0 hp4_1 hp4_2 hp4_3 hp4_4 hp4_5 hp4_6, set7_frozen (.int .i64 hd') q0 q1 q2 q3 q4 q5 hf4, by have := cell_lt hp4_0; simpa using this, set7_grow (.int .i64 hd') q0 q1 q2 q3 q4 q5 hg4 (by omega), set7_below (.int .i64 hd') q0 q1 q2 q3 q4 q5 hb4 (Nat.le_refl _)⟩
      case measure => simp [intOf]; omega
    have hn0 : (l[k].1 != 0) = false := by simp [h0]
    have H0 := Lib.hid h0; clear h0
    go_wp2_with fail
    refine (specSamePoint_any _ _ _ _ _ _ _ _ _ _ _ _ _ _ _ (HX.out.below hb0) (HQ.out.below hb0)).mono ?_
    rintro e W ⟨v, rfl, rfl, hcW⟩
    have hsW_0 : W.cell? ⟨wr.heap.size, 0, none⟩ = some (.int .i64 l[k].1) := (hcW.cell (p := ⟨wr.heap.size, 0, none⟩) (by simp <;> omega)).trans (by simp [go_sem])
    have hsW_1 : W.cell? ⟨wr.heap.size, 1, none⟩ = some c1 := (hcW.cell (p := ⟨wr.heap.size, 1, none⟩) (by simp <;> omega)).trans (by simp [go_sem])
    have hsW_2 : W.cell? ⟨wr.heap.size, 2, none⟩ = some c2 := (hcW.cell (p := ⟨wr.heap.size, 2, none⟩) (by simp <;> omega)).trans (by simp [go_sem])
    have hsW_3 : W.cell? ⟨wr.heap.size, 3, none⟩ = some c3 := (hcW.cell (p := ⟨wr.heap.size, 3, none⟩) (by simp <;> omega)).trans (by simp [go_sem])
    have hsW_4 : W.cell? ⟨wr.heap.size, 4, none⟩ = some c4 := (hcW.cell (p := ⟨wr.heap.size, 4, none⟩) (by simp <;> omega)).trans (by simp [go_sem])
    have hsW_5 : W.cell? ⟨wr.heap.size, 5, none⟩ = some c5 := (hcW.cell (p := ⟨wr.heap.size, 5, none⟩) (by simp <;> omega)).trans (by simp [go_sem])
    have hsW_6 : W.cell? ⟨wr.heap.size, 6, none⟩ = some c6 := (hcW.cell (p := ⟨wr.heap.size, 6, none⟩) (by simp <;> omega)).trans (by simp [go_sem])
    have hpW_0 : W.cell? ⟨w.heap.size, 0, none⟩ = some (.int .i64 hd) := (hcW.cell (p := ⟨w.heap.size, 0, none⟩) (by simp <;> omega)).trans (by simp [go_sem, hlp, hp_0])
    have hpW_1 : W.cell? ⟨w.heap.size, 1, none⟩ = some q0 := (hcW.cell (p := ⟨w.heap.size, 1, none⟩) (by simp <;> omega)).trans (by simp [go_sem, hlp, hp_1])
    have hpW_2 : W.cell? ⟨w.heap.size, 2, none⟩ = some q1 := (hcW.cell (p := ⟨w.heap.size, 2, none⟩) (by simp <;> omega)).trans (by simp [go_sem, hlp, hp_2])
    have hpW_3 : W.cell? ⟨w.heap.size, 3, none⟩ = some q2 := (hcW.cell (p := ⟨w.heap.size, 3, none⟩) (by simp <;> omega)).trans (by simp [go_sem, hlp, hp_3])
    have hpW_4 : W.cell? ⟨w.heap.size, 4, none⟩ = some q3 := (hcW.cell (p := ⟨w.heap.size, 4, none⟩) (by simp <;> omega)).trans (by simp [go_sem, hlp, hp_4])
    have hpW_5 : W.cell? ⟨w.heap.size, 5, none⟩ = some q4 := (hcW.cell (p := ⟨w.heap.size, 5, none⟩) (by simp <;> omega)).trans (by simp [go_sem, hlp, hp_5])
    have hpW_6 : W.cell? ⟨w.heap.size, 6, none⟩ = some q5 := (hcW.cell (p := ⟨w.heap.size, 6, none⟩) (by simp <;> omega)).trans (by simp [go_sem, hlp, hp_6])
    have hfW : ∀ o, W.frozen? ⟨w.heap.size, o, none⟩ = false := fun o => (hcW.frozen (p := ⟨w.heap.size, o, none⟩) (by simp <;> omega)).trans (by simp [go_sem, hlp, hfz])
    have hyW := hcW.size; simp at hyW; have ltW : wr.heap.size < W.heap.size := by omega
    have hW := Below.up hb0 hcW hb0.size; have hWr := Below.up hbr0 hcW hbr0.size
    by_cases hab : l[k].2 = pp
    · rw [eqb_true hab]
      have hdr := Lib.hid (dropAll_idle HST.out H0.out hab)
      rw [← List.take_succ_eq_append_getElem hkl] at hdr
      have hdr := Lib.hid (hdr.out.trans (Prod.ext hab.symm rfl : (pp, ol) = (l[k].2, ol)))
      have HGW := HGR.out.below hWr
      clear hab
      have lpW := cell_lt hpW_0
      go_wp2_with fail
      refine (l22After_any _ _ _ _ _ _ _ _ _ _ _ _ _ _ _ _ _ (HQ.out.below hW) (HX.out.below hW)).mono ?_
      rintro e w4 ⟨v4, rfl, rfl, hc4⟩
      have hv : stepV hd l[k].1 #[q0, q1, q2, q3, q4, q5] #[c1, c2, c3, c4, c5, c6] = #[(.int .i64 hd), c1, c2, c3, c4, c5, c6] := by simp [stepV, H0.out]
      rw [hv]
      have hp4_0 : w4.cell? ⟨w.heap.size, 0, none⟩ = some (.int .i64 hd) := (hc4.cell (p := ⟨w.heap.size, 0, none⟩) (by omega)).trans hpW_0
      have hp4_1 : w4.cell? ⟨w.heap.size, 1, none⟩ = some q0 := (hc4.cell (p := ⟨w.heap.size, 1, none⟩) (by omega)).trans hpW_1
      have hp4_2 : w4.cell? ⟨w.heap.size, 2, none⟩ = some q1 := (hc4.cell (p := ⟨w.heap.size, 2, none⟩) (by omega)).trans hpW_2
      have hp4_3 : w4.cell? ⟨w.heap.size, 3, none⟩ = some q2 := (hc4.cell (p := ⟨w.heap.size, 3, none⟩) (by omega)).trans hpW_3
      have hp4_4 : w4.cell? ⟨w.heap.size, 4, none⟩ = some q3 := (hc4.cell (p := ⟨w.heap.size, 4, none⟩) (by omega)).trans hpW_4
      have hp4_5 : w4.cell? ⟨w.heap.size, 5, none⟩ = some q4 := (hc4.cell (p := ⟨w.heap.size, 5, none⟩) (by omega)).trans hpW_5
      have hp4_6 : w4.cell? ⟨w.heap.size, 6, none⟩ = some q5 := (hc4.cell (p := ⟨w.heap.size, 6, none⟩) (by omega)).trans hpW_6
      have hf4 : ∀ o, w4.frozen? ⟨w.heap.size, o, none⟩ = false := fun o => (hc4.frozen (p := ⟨w.heap.size, o, none⟩) (by omega)).trans (by simp [hfW, hfW])
      have hg4 := Grow.below HGW hc4
      have hb4 := Below.up hW hc4 hW.size
      go_wp2
      go_roundw
      case rel => exact ⟨k + 1, hd, c1, c2, c3, c4, c5, c6, l[k].2, ol, by omega, by go_num, hdr.out, HX.out, set7_cells (.int .i64 hd) c1 c2 c3 c4 c5 c6 hp4_0 hp4_1 hp4_2 hp4_3 hp4_4 hp4_5 hp4_6, set7_frozen (.int .i64 hd) c1 c2 c3 c4 c5 c6 hf4, by have := cell_lt hp4_0; simpa using this, set7_grow (.int .i64 hd) c1 c2 c3 c4 c5 c6 hg4 (by omega), set7_below (.int .i64 hd) c1 c2 c3 c4 c5 c6 hb4 (Nat.le_refl _)⟩
      case measure => simp [intOf]; omega
    · rw [eqb_false hab]
      have hdr := Lib.hid (dropAll_move HST.out H0.out hab)
      rw [← List.take_succ_eq_append_getElem hkl] at hdr
      clear hab hb0 hbr0
      go_wp2
      go_region_held3 (fun w' => w'.cell? ⟨wr.heap.size, 0, none⟩ = some (.int .i64 l[k].1) ∧ w'.cell? ⟨wr.heap.size, 1, none⟩ = some c1 ∧ w'.cell? ⟨wr.heap.size, 2, none⟩ = some c2 ∧ w'.cell? ⟨wr.heap.size, 3, none⟩ = some c3 ∧ w'.cell? ⟨wr.heap.size, 4, none⟩ = some c4 ∧ w'.cell? ⟨wr.heap.size, 5, none⟩ = some c5 ∧ w'.cell? ⟨wr.heap.size, 6, none⟩ = some c6)
        (first | go_keep | exact ⟨hs2_0, hs2_1, hs2_2, hs2_3, hs2_4, hs2_5, hs2_6⟩ | exact ⟨hs3_0, hs3_1, hs3_2, hs3_3, hs3_4, hs3_5, hs3_6⟩)
        (first
          | (go_at_call_of 69 c1; refine (l05Copy_any _ _ _ _ _ _ _ _ (HX.out.below hW.drew) HT.out).mono ?_; rintro e w2 ⟨v2, rfl, ⟨d, rfl, ho2⟩, hc2⟩; have hs2_0 : w2.cell? ⟨wr.heap.size, 0, none⟩ = some (.int .i64 l[k].1) := (hc2.cell (p := ⟨wr.heap.size, 0, none⟩) (by simp <;> omega)).trans (by simp [go_sem, hsW_0]); have hs2_1 : w2.cell? ⟨wr.heap.size, 1, none⟩ = some c1 := (hc2.cell (p := ⟨wr.heap.size, 1, none⟩) (by simp <;> omega)).trans (by simp [go_sem, hsW_1]); have hs2_2 : w2.cell? ⟨wr.heap.size, 2, none⟩ = some c2 := (hc2.cell (p := ⟨wr.heap.size, 2, none⟩) (by simp <;> omega)).trans (by simp [go_sem, hsW_2]); have hs2_3 : w2.cell? ⟨wr.heap.size, 3, none⟩ = some c3 := (hc2.cell (p := ⟨wr.heap.size, 3, none⟩) (by simp <;> omega)).trans (by simp [go_sem, hsW_3]); have hs2_4 : w2.cell? ⟨wr.heap.size, 4, none⟩ = some c4 := (hc2.cell (p := ⟨wr.heap.size, 4, none⟩) (by simp <;> omega)).trans (by simp [go_sem, hsW_4]); have hs2_5 : w2.cell? ⟨wr.heap.size, 5, none⟩ = some c5 := (hc2.cell (p := ⟨wr.heap.size, 5, none⟩) (by simp <;> omega)).trans (by simp [go_sem, hsW_5]); have hs2_6 : w2.cell? ⟨wr.heap.size, 6, none⟩ = some c6 := (hc2.cell (p := ⟨wr.heap.size, 6, none⟩) (by simp <;> omega)).trans (by simp [go_sem, hsW_6]); have hp2_0 : w2.cell? ⟨w.heap.size, 0, none⟩ = some (.int .i64 hd) := (hc2.cell (p := ⟨w.heap.size, 0, none⟩) (by simp <;> omega)).trans (by simp [go_sem, hpW_0]); have hp2_1 : w2.cell? ⟨w.heap.size, 1, none⟩ = some q0 := (hc2.cell (p := ⟨w.heap.size, 1, none⟩) (by simp <;> omega)).trans (by simp [go_sem, hpW_1]); have hp2_2 : w2.cell? ⟨w.heap.size, 2, none⟩ = some q1 := (hc2.cell (p := ⟨w.heap.size, 2, none⟩) (by simp <;> omega)).trans (by simp [go_sem, hpW_2]); have hp2_3 : w2.cell? ⟨w.heap.size, 3, none⟩ = some q2 := (hc2.cell (p := ⟨w.heap.size, 3, none⟩) (by simp <;> omega)).trans (by simp [go_sem, hpW_3]); have hp2_4 : w2.cell? ⟨w.heap.size, 4, none⟩ = some q3 := (hc2.cell (p := ⟨w.heap.size, 4, none⟩) (by simp <;> omega)).trans (by simp [go_sem, hpW_4]); have hp2_5 : w2.cell? ⟨w.heap.size, 5, none⟩ = some q4 := (hc2.cell (p := ⟨w.heap.size, 5, none⟩) (by simp <;> omega)).trans (by simp [go_sem, hpW_5]); have hp2_6 : w2.cell? ⟨w.heap.size, 6, none⟩ = some q5 := (hc2.cell (p := ⟨w.heap.size, 6, none⟩) (by simp <;> omega)).trans (by simp [go_sem, hpW_6]); have hf2 : ∀ o, w2.frozen? ⟨w.heap.size, o, none⟩ = W.frozen? ⟨w.heap.size, o, none⟩ := fun o => (hc2.frozen (p := ⟨w.heap.size, o, none⟩) (by simp <;> omega)).trans (by simp [go_sem]); obtain ⟨d0, d1, d2, d3, d4, d5, rfl⟩ := list6 ho2.has.len; have hy2 := hc2.size; simp at hy2; have hlt2 : wr.heap.size < w2.heap.size := (by omega); have hlp2 : w.heap.size < w2.heap.size := (by omega); have HO2 := Lib.hid ho2; have hbq := Below.up hW.drew hc2 (by simp <;> omega); have hbr := Below.up hWr.drew hc2 (by simp <;> omega); have hd0 := ho2.has.one 0 d0 rfl; have hd1 := ho2.has.one 1 d1 rfl; have hd2 := ho2.has.one 2 d2 rfl; have hd3 := ho2.has.one 3 d3 rfl; have hd4 := ho2.has.one 4 d4 rfl; have hd5 := ho2.has.one 5 d5 rfl; clear ho2)
          | (refine step_grow (P := Try.prog) (A := RStep.off w.heap.size) (x := l[k]) (cs := [.int .i64 l[k].1, d0, d1, d2, d3, d4, d5]) _ (by rfl) (.tmp 26) (.tmp 33) _ (by rfl) 80 i0 _ _ Try.underlying25 hi hz0 hz1 hz2 (by rfl) (by show 0 < RStep.size; decide) (by rfl) HGR.out ?_ (Arg.newOff (lo := wr.heap.size) ?_ (Nat.le_refl _) hlp) hlp w2.heap.size _ (by rfl) ?_ (by unfold maxLen; omega) (by omega) ?_
             · (repeat (first | with_reducible exact hbr | with_reducible refine Below.drew ?_ | with_reducible refine Below.alloc ?_ (by first | omega | (simp <;> omega)) _))
             · exact New.pair (cs1 := [.int .i64 l[k].1]) (New.int _ _ HI.out) ((HO2.out.below ((Below.refl _ _).alloc (Nat.le_refl _) _)).mono (by simp <;> omega))
             · exact cells7 (by simp [go_sem]) (by simp [go_sem]) (by simp [go_sem]) (by simp [go_sem]) (by simp [go_sem]) (by simp [go_sem]) (by simp [go_sem])
             intro v3 w3 hg3 hbb3 hkp
             obtain ⟨hkc, hkf⟩ := kept_cells hkp
             obtain ⟨hbc, hbf⟩ := bcell hbb3
             have hs3_0 : w3.cell? ⟨wr.heap.size, 0, none⟩ = some (.int .i64 l[k].1) := (hkc wr.heap.size 0 (Nat.le_refl _) (by simp <;> omega)).trans (by simp [go_sem, hlt2, hs2_0])
             have hs3_1 : w3.cell? ⟨wr.heap.size, 1, none⟩ = some c1 := (hkc wr.heap.size 1 (Nat.le_refl _) (by simp <;> omega)).trans (by simp [go_sem, hlt2, hs2_1])
             have hs3_2 : w3.cell? ⟨wr.heap.size, 2, none⟩ = some c2 := (hkc wr.heap.size 2 (Nat.le_refl _) (by simp <;> omega)).trans (by simp [go_sem, hlt2, hs2_2])
             have hs3_3 : w3.cell? ⟨wr.heap.size, 3, none⟩ = some c3 := (hkc wr.heap.size 3 (Nat.le_refl _) (by simp <;> omega)).trans (by simp [go_sem, hlt2, hs2_3])
             have hs3_4 : w3.cell? ⟨wr.heap.size, 4, none⟩ = some c4 := (hkc wr.heap.size 4 (Nat.le_refl _) (by simp <;> omega)).trans (by simp [go_sem, hlt2, hs2_4])
             have hs3_5 : w3.cell? ⟨wr.heap.size, 5, none⟩ = some c5 := (hkc wr.heap.size 5 (Nat.le_refl _) (by simp <;> omega)).trans (by simp [go_sem, hlt2, hs2_5])
             have hs3_6 : w3.cell? ⟨wr.heap.size, 6, none⟩ = some c6 := (hkc wr.heap.size 6 (Nat.le_refl _) (by simp <;> omega)).trans (by simp [go_sem, hlt2, hs2_6])
             have hp3_0 : w3.cell? ⟨w.heap.size, 0, none⟩ = some (.int .i64 hd) := (hbc w.heap.size 0 (by omega)).trans (by simp [go_sem, hlp2, hp2_0])
             have hp3_1 : w3.cell? ⟨w.heap.size, 1, none⟩ = some q0 := (hbc w.heap.size 1 (by omega)).trans (by simp [go_sem, hlp2, hp2_1])
             have hp3_2 : w3.cell? ⟨w.heap.size, 2, none⟩ = some q1 := (hbc w.heap.size 2 (by omega)).trans (by simp [go_sem, hlp2, hp2_2])
             have hp3_3 : w3.cell? ⟨w.heap.size, 3, none⟩ = some q2 := (hbc w.heap.size 3 (by omega)).trans (by simp [go_sem, hlp2, hp2_3])
             have hp3_4 : w3.cell? ⟨w.heap.size, 4, none⟩ = some q3 := (hbc w.heap.size 4 (by omega)).trans (by simp [go_sem, hlp2, hp2_4])
             have hp3_5 : w3.cell? ⟨w.heap.size, 5, none⟩ = some q4 := (hbc w.heap.size 5 (by omega)).trans (by simp [go_sem, hlp2, hp2_5])
             have hp3_6 : w3.cell? ⟨w.heap.size, 6, none⟩ = some q5 := (hbc w.heap.size 6 (by omega)).trans (by simp [go_sem, hlp2, hp2_6])
             have hf3 : ∀ o, w3.frozen? ⟨w.heap.size, o, none⟩ = W.frozen? ⟨w.heap.size, o, none⟩ := fun o => (hbf w.heap.size o (by omega)).trans (by simp [go_sem, hlp2, hf2])))
      rename_i hh
      clear hh
      have hb3 := (hbq.alloc (by omega) (Obj.cells #[.int .i64 l[k].1, d0, d1, d2, d3, d4, d5] 80)).trans (hbb3.mono (by omega))
      have lp3 := cell_lt hp3_0
      go_wp2_with fail
      refine (l22After_any _ _ _ _ _ _ _ _ _ _ _ _ _ _ _ _ _ (HQ.out.below hb3) (HX.out.below hb3)).mono ?_
      rintro e w4 ⟨v4, rfl, rfl, hc4⟩
      have hv : stepV hd l[k].1 #[q0, q1, q2, q3, q4, q5] #[c1, c2, c3, c4, c5, c6] = #[(.int .i64 hd), c1, c2, c3, c4, c5, c6] := by simp [stepV, H0.out]
      rw [hv]
      have hp4_0 : w4.cell? ⟨w.heap.size, 0, none⟩ = some (.int .i64 hd) := (hc4.cell (p := ⟨w.heap.size, 0, none⟩) (by omega)).trans hp3_0
      have hp4_1 : w4.cell? ⟨w.heap.size, 1, none⟩ = some q0 := (hc4.cell (p := ⟨w.heap.size, 1, none⟩) (by omega)).trans hp3_1
      have hp4_2 : w4.cell? ⟨w.heap.size, 2, none⟩ = some q1 := (hc4.cell (p := ⟨w.heap.size, 2, none⟩) (by omega)).trans hp3_2
      have hp4_3 : w4.cell? ⟨w.heap.size, 3, none⟩ = some q2 := (hc4.cell (p := ⟨w.heap.size, 3, none⟩) (by omega)).trans hp3_3
      have hp4_4 : w4.cell? ⟨w.heap.size, 4, none⟩ = some q3 := (hc4.cell (p := ⟨w.heap.size, 4, none⟩) (by omega)).trans hp3_4
      have hp4_5 : w4.cell? ⟨w.heap.size, 5, none⟩ = some q4 := (hc4.cell (p := ⟨w.heap.size, 5, none⟩) (by omega)).trans hp3_5
      have hp4_6 : w4.cell? ⟨w.heap.size, 6, none⟩ = some q5 := (hc4.cell (p := ⟨w.heap.size, 6, none⟩) (by omega)).trans hp3_6
      have hf4 : ∀ o, w4.frozen? ⟨w.heap.size, o, none⟩ = false := fun o => (hc4.frozen (p := ⟨w.heap.size, o, none⟩) (by omega)).trans (by simp [hf3, hfW])
      have hg4 := Grow.below hg3 hc4
      have hb4 := Below.up hb3 hc4 hb3.size
      go_wp2
      go_roundw
      case rel => exact ⟨k + 1, hd, c1, c2, c3, c4, c5, c6, l[k].2, ol ++ [l[k]], by omega, by go_num, hdr.out, HX.out, set7_cells (.int .i64 hd) c1 c2 c3 c4 c5 c6 hp4_0 hp4_1 hp4_2 hp4_3 hp4_4 hp4_5 hp4_6, set7_frozen (.int .i64 hd) c1 c2 c3 c4 c5 c6 hf4, by have := cell_lt hp4_0; simpa using this, set7_grow (.int .i64 hd) c1 c2 c3 c4 c5 c6 hg4 (by omega), set7_below (.int .i64 hd) c1 c2 c3 c4 c5 c6 hb4 (Nat.le_refl _)⟩
      case measure => simp [intOf]; omega
end Go.Proofs.Ytjkbecgenjhaaaa
