/-
  Two motions are compared: the reference's loop and the program's EqualFunc.
-/
import Derived.Test.YtjkbecgenjhaaaaSame
namespace Go.Proofs.Ytjkbecgenjhaaaa
open Go.RowKit
set_option maxRecDepth 100000 in
set_option maxHeartbeats 400000 in
theorem specL24Same_any (va vb : Value) (x y : DStepS) (w : World) (ha : Has RStepS w [va] x) (hb : Has RStepS w [vb] y) :
    Calls Try.prog 56 #[va, vb] w (Post (EqPost x y w)) := by
  obtain ⟨aa, ca, rfl, la, ma, ga⟩ := ha.elems
  obtain ⟨ab, cb, rfl, lb, mb, gb⟩ := hb.elems
  unfold maxLen at ma mb
  have HA := Lib.hid ga; have HB := Lib.hid gb; clear ga gb ha hb
  by_cases hl : x.length = y.length
  rotate_left
  · have hn : ((x.length : Int) != (y.length : Int)) = true := by simp; omega
    have HL := Lib.hid hl; clear hl
    go_enter Try.func56, Try.ntmps56
    go_wp2
    go_ret
    exact ⟨_, rfl, congrArg Value.bool (eqb_false fun h => HL.out (by rw [h])).symm, Below.refl _ _⟩
  have hn : ((x.length : Int) != (y.length : Int)) = false := by simp; omega
  have HL := Lib.hid hl; clear hl
  go_enter Try.func56, Try.ntmps56
  go_wp2
  go_loopw [14] (fun i wr => ∃ k : Nat, k ≤ x.length ∧ i = .int .i64 k ∧ x.take k = y.take k ∧ Below w.heap.size w wr) (fun i _ => x.length - (intOf i).toNat)
  case atStart => exact ⟨0, Nat.zero_le _, rfl, rfl, Below.refl _ _⟩
  case round =>
    obtain ⟨k, hk, rfl, htk, hbw⟩ := hrel
    have HT := Lib.hid htk; clear htk
    by_cases hlt : k < x.length
    rotate_left
    · go_wp2
      go_ret
      exact ⟨_, rfl, congrArg Value.bool (eqb_true (by have h1 := HT.out; have h2 := HL.out; rwa [List.take_of_length_le (by omega), List.take_of_length_le (by omega)] at h1)).symm, hbw⟩
    have hlt' : k < y.length := by have := HL.out; omega
    obtain ⟨b, off, csc, rfl, hbl, hx, hcs⟩ := HA.out k hlt
    obtain ⟨c0, c1, c2, c3, c4, c5, c6, rfl⟩ := list7 hx.len
    have oc0 := hx.one 0 _ rfl
    have oc1 := hx.one 1 _ rfl
    have oc2 := hx.one 2 _ rfl
    have oc3 := hx.one 3 _ rfl
    have oc4 := hx.one 4 _ rfl
    have oc5 := hx.one 5 _ rfl
    have oc6 := hx.one 6 _ rfl
    have gc0 : wr.cell? ⟨b, off + k * 7, none⟩ = some c0 := (hbw.cell (p := ⟨b, _, none⟩) hbl).trans (hcs 0 _ rfl)
    have gc1 : wr.cell? ⟨b, off + k * 7 + 1, none⟩ = some c1 := (hbw.cell (p := ⟨b, _, none⟩) hbl).trans (hcs 1 _ rfl)
    have gc2 : wr.cell? ⟨b, off + k * 7 + 2, none⟩ = some c2 := (hbw.cell (p := ⟨b, _, none⟩) hbl).trans (hcs 2 _ rfl)
    have gc3 : wr.cell? ⟨b, off + k * 7 + 3, none⟩ = some c3 := (hbw.cell (p := ⟨b, _, none⟩) hbl).trans (hcs 3 _ rfl)
    have gc4 : wr.cell? ⟨b, off + k * 7 + 4, none⟩ = some c4 := (hbw.cell (p := ⟨b, _, none⟩) hbl).trans (hcs 4 _ rfl)
    have gc5 : wr.cell? ⟨b, off + k * 7 + 5, none⟩ = some c5 := (hbw.cell (p := ⟨b, _, none⟩) hbl).trans (hcs 5 _ rfl)
    have gc6 : wr.cell? ⟨b, off + k * 7 + 6, none⟩ = some c6 := (hbw.cell (p := ⟨b, _, none⟩) hbl).trans (hcs 6 _ rfl)
    clear hcs
    obtain ⟨bd, offd, csd, rfl, hbld, hxd, hcsd⟩ := HB.out k hlt'
    obtain ⟨d0, d1, d2, d3, d4, d5, d6, rfl⟩ := list7 hxd.len
    have od0 := hxd.one 0 _ rfl
    have od1 := hxd.one 1 _ rfl
    have od2 := hxd.one 2 _ rfl
    have od3 := hxd.one 3 _ rfl
    have od4 := hxd.one 4 _ rfl
    have od5 := hxd.one 5 _ rfl
    have od6 := hxd.one 6 _ rfl
    have gd0 : wr.cell? ⟨bd, offd + k * 7, none⟩ = some d0 := (hbw.cell (p := ⟨bd, _, none⟩) hbld).trans (hcsd 0 _ rfl)
    have gd1 : wr.cell? ⟨bd, offd + k * 7 + 1, none⟩ = some d1 := (hbw.cell (p := ⟨bd, _, none⟩) hbld).trans (hcsd 1 _ rfl)
    have gd2 : wr.cell? ⟨bd, offd + k * 7 + 2, none⟩ = some d2 := (hbw.cell (p := ⟨bd, _, none⟩) hbld).trans (hcsd 2 _ rfl)
    have gd3 : wr.cell? ⟨bd, offd + k * 7 + 3, none⟩ = some d3 := (hbw.cell (p := ⟨bd, _, none⟩) hbld).trans (hcsd 3 _ rfl)
    have gd4 : wr.cell? ⟨bd, offd + k * 7 + 4, none⟩ = some d4 := (hbw.cell (p := ⟨bd, _, none⟩) hbld).trans (hcsd 4 _ rfl)
    have gd5 : wr.cell? ⟨bd, offd + k * 7 + 5, none⟩ = some d5 := (hbw.cell (p := ⟨bd, _, none⟩) hbld).trans (hcsd 5 _ rfl)
    have gd6 : wr.cell? ⟨bd, offd + k * 7 + 6, none⟩ = some d6 := (hbw.cell (p := ⟨bd, _, none⟩) hbld).trans (hcsd 6 _ rfl)
    clear hcsd
    obtain ⟨hp0, hp1⟩ := hx.split [c0] [c1, c2, c3, c4, c5, c6] rfl
    obtain rfl := hp0.int.1
    obtain ⟨hq0, hq1⟩ := hxd.split [d0] [d1, d2, d3, d4, d5, d6] rfl
    obtain rfl := hq0.int.1
    have HX := Lib.hid hp1; have HY := Lib.hid hq1
    clear hx hxd hp0 hp1 hq0 hq1
    have hsz : b < wr.heap.size := Nat.lt_of_lt_of_le hbl hbw.size
    have hszd : bd < wr.heap.size := Nat.lt_of_lt_of_le hbld hbw.size
    by_cases h0 : x[k].1 = y[k].1
    rotate_left
    · have hn0 : (x[k].1 != y[k].1) = true := by simp [h0]
      have HN := Lib.hid h0; clear h0
      go_wp2
      go_quiet (fail)
      go_wp2
      go_ret
      exact ⟨_, rfl, congrArg Value.bool (eqb_false fun h => HN.out (by subst h; rfl)).symm, (hbw.alloc hbw.size _).drewN _⟩
    have hn0 : (x[k].1 != y[k].1) = false := by simp [h0]
    have HE := Lib.hid h0; clear h0
    go_wp2
    refine wp_region_still_tail 16 (by kernel_rfl) (by kernel_rfl) ?_
    simp only [List.take_succ_cons, List.take_zero, List.drop_succ_cons, List.drop_zero, World.drew_eq]
    repeat still_step
    refine wpStill_nil ?_
    go_wp2_with fail
    have hb0 := (hbw.alloc hbw.size (Obj.cells #[Value.int .i64 x[k].1, c1, c2, c3, c4, c5, c6] 80)).drew
    refine (specSamePoint_any _ _ _ _ _ _ _ _ _ _ _ _ _ _ _ (HX.out.below hb0) (HY.out.below hb0)).mono ?_
    rintro e w1 ⟨v, rfl, rfl, hbx⟩
    have hb1 := Below.up hb0 hbx hb0.size
    by_cases hab : x[k].2 = y[k].2
    · rw [eqb_true hab]
      have HAB := Lib.hid (Prod.ext HE.out hab); clear hab
      go_wp2
      go_roundw
      case rel => exact ⟨k + 1, by omega, by go_num, by rw [List.take_succ_eq_append_getElem hlt, List.take_succ_eq_append_getElem hlt', HT.out, HAB.out], hb1⟩
      case measure => simp [intOf]; omega
    · rw [eqb_false hab]
      have HAB := Lib.hid hab; clear hab
      go_wp2
      go_ret
      exact ⟨_, rfl, congrArg Value.bool (eqb_false fun h => HAB.out (by subst h; rfl)).symm, hb1⟩

set_option maxRecDepth 100000 in
set_option maxHeartbeats 400000 in
theorem specSameSteps_any (va vb : Value) (x y : DStepS) (w : World) (ha : Has RStepS w [va] x) (hb : Has RStepS w [vb] y) :
    Calls Try.prog 16 #[va, vb] w (Post (EqPost x y w)) := by
  have HA := Lib.hid ha; have HB := Lib.hid hb; clear ha hb
  go_enter Try.func16, Try.ntmps16
  go_wp2_with fail
  refine (specL24Same_any _ _ _ _ _ HA.out HB.out).mono ?_
  rintro e w1 ⟨v, rfl, rfl, hbx⟩
  go_wp2
  go_ret
  exact ⟨_, rfl, rfl, hbx⟩

set_option maxRecDepth 100000 in
set_option maxHeartbeats 400000 in
theorem sameSteps1_any (c0 c1 c2 c3 c4 c5 c6 d0 d1 d2 d3 d4 d5 d6 : Value) (x y : DStep) (w : World) (hx : Has RStep w [c0, c1, c2, c3, c4, c5, c6] x) (hy : Has RStep w [d0, d1, d2, d3, d4, d5, d6] y) :
    Calls Try.prog 58 #[.agg #[c0, c1, c2, c3, c4, c5, c6], .agg #[d0, d1, d2, d3, d4, d5, d6]] w (Post (EqPost x y w)) := by
  obtain ⟨hp0, hp1⟩ := hx.split [c0] [c1, c2, c3, c4, c5, c6] rfl
  obtain rfl := hp0.int.1
  obtain ⟨hq0, hq1⟩ := hy.split [d0] [d1, d2, d3, d4, d5, d6] rfl
  obtain rfl := hq0.int.1
  have HX := Lib.hid hp1; have HY := Lib.hid hq1
  clear hx hy hp0 hp1 hq0 hq1
  have hb0 := ((Below.refl w.heap.size w).alloc (Nat.le_refl _) (Obj.cells #[.int .i64 x.1, c1, c2, c3, c4, c5, c6] 80)).alloc (by simp <;> omega) (Obj.cells #[.int .i64 y.1, d1, d2, d3, d4, d5, d6] 80)
  by_cases h0 : x.1 = y.1
  rotate_left
  · have hn0 : (x.1 == y.1) = false := by simp [h0]
    have HN := Lib.hid h0; clear h0
    go_enter Try.func58, Try.ntmps58
    go_wp2
    go_ret
    exact ⟨_, rfl, congrArg Value.bool (eqb_false fun h => HN.out (by rw [h])).symm, hb0⟩
  have hn0 : (x.1 == y.1) = true := by simp [h0]
  have HE := Lib.hid h0; clear h0
  go_enter Try.func58, Try.ntmps58
  go_wp2_with fail
  refine (implSamePoint_any _ _ _ _ _ _ _ _ _ _ _ _ _ _ _ (HX.out.below hb0) (HY.out.below hb0)).mono ?_
  rintro e w1 ⟨v, rfl, rfl, hbx⟩
  have hb1 := Below.up hb0 hbx hb0.size
  by_cases hab : x.2 = y.2
  · rw [eqb_true hab]
    have HAB := Lib.hid (Prod.ext HE.out hab); clear hab
    go_wp2
    go_ret
    exact ⟨_, rfl, congrArg Value.bool (eqb_true HAB.out).symm, hb1⟩
  · rw [eqb_false hab]
    have HAB := Lib.hid hab; clear hab
    go_wp2
    go_ret
    exact ⟨_, rfl, congrArg Value.bool (eqb_false fun h => HAB.out (by rw [h])).symm, hb1⟩

set_option maxRecDepth 100000 in
set_option maxHeartbeats 400000 in
theorem equalFuncStep_any (va vb : Value) (x y : DStepS) (w : World) (ha : Has RStepS w [va] x) (hb : Has RStepS w [vb] y) :
    Calls Try.prog 57 #[va, vb, .func (.func 58) #[] #[]] w (Post (EqPost x y w)) := by
  obtain ⟨aa, ca, rfl, la, ma, ga⟩ := ha.elems
  obtain ⟨ab, cb, rfl, lb, mb, gb⟩ := hb.elems
  unfold maxLen at ma mb
  have HA := Lib.hid ga; have HB := Lib.hid gb; clear ga gb ha hb
  by_cases hl : x.length = y.length
  rotate_left
  · have hn : ((x.length : Int) != (y.length : Int)) = true := by simp; omega
    have HL := Lib.hid hl; clear hl
    go_enter Try.func57, Try.ntmps57
    go_wp2
    go_ret
    exact ⟨_, rfl, congrArg Value.bool (eqb_false fun h => HL.out (by rw [h])).symm, Below.refl _ _⟩
  have hn : ((x.length : Int) != (y.length : Int)) = false := by simp; omega
  have HL := Lib.hid hl; clear hl
  go_enter Try.func57, Try.ntmps57
  go_wp2
  go_loopw [17] (fun i wr => ∃ k : Nat, k ≤ x.length ∧ i = .int .i64 k ∧ x.take k = y.take k ∧ Below w.heap.size w wr) (fun i _ => x.length - (intOf i).toNat)
  case atStart => exact ⟨0, Nat.zero_le _, rfl, rfl, Below.refl _ _⟩
  case round =>
    obtain ⟨k, hk, rfl, htk, hbw⟩ := hrel
    have HT := Lib.hid htk; clear htk
    by_cases hlt : k < x.length
    rotate_left
    · go_wp2
      go_ret
      exact ⟨_, rfl, congrArg Value.bool (eqb_true (by have h1 := HT.out; have h2 := HL.out; rwa [List.take_of_length_le (by omega), List.take_of_length_le (by omega)] at h1)).symm, hbw⟩
    have hlt' : k < y.length := by have := HL.out; omega
    obtain ⟨b, off, csc, rfl, hbl, hx, hcs⟩ := HA.out k hlt
    obtain ⟨c0, c1, c2, c3, c4, c5, c6, rfl⟩ := list7 hx.len
    have oc0 := hx.one 0 _ rfl
    have oc1 := hx.one 1 _ rfl
    have oc2 := hx.one 2 _ rfl
    have oc3 := hx.one 3 _ rfl
    have oc4 := hx.one 4 _ rfl
    have oc5 := hx.one 5 _ rfl
    have oc6 := hx.one 6 _ rfl
    have gc0 : wr.cell? ⟨b, off + k * 7, none⟩ = some c0 := (hbw.cell (p := ⟨b, _, none⟩) hbl).trans (hcs 0 _ rfl)
    have gc1 : wr.cell? ⟨b, off + k * 7 + 1, none⟩ = some c1 := (hbw.cell (p := ⟨b, _, none⟩) hbl).trans (hcs 1 _ rfl)
    have gc2 : wr.cell? ⟨b, off + k * 7 + 2, none⟩ = some c2 := (hbw.cell (p := ⟨b, _, none⟩) hbl).trans (hcs 2 _ rfl)
    have gc3 : wr.cell? ⟨b, off + k * 7 + 3, none⟩ = some c3 := (hbw.cell (p := ⟨b, _, none⟩) hbl).trans (hcs 3 _ rfl)
    have gc4 : wr.cell? ⟨b, off + k * 7 + 4, none⟩ = some c4 := (hbw.cell (p := ⟨b, _, none⟩) hbl).trans (hcs 4 _ rfl)
    have gc5 : wr.cell? ⟨b, off + k * 7 + 5, none⟩ = some c5 := (hbw.cell (p := ⟨b, _, none⟩) hbl).trans (hcs 5 _ rfl)
    have gc6 : wr.cell? ⟨b, off + k * 7 + 6, none⟩ = some c6 := (hbw.cell (p := ⟨b, _, none⟩) hbl).trans (hcs 6 _ rfl)
    clear hcs
    obtain ⟨bd, offd, csd, rfl, hbld, hxd, hcsd⟩ := HB.out k hlt'
    obtain ⟨d0, d1, d2, d3, d4, d5, d6, rfl⟩ := list7 hxd.len
    have od0 := hxd.one 0 _ rfl
    have od1 := hxd.one 1 _ rfl
    have od2 := hxd.one 2 _ rfl
    have od3 := hxd.one 3 _ rfl
    have od4 := hxd.one 4 _ rfl
    have od5 := hxd.one 5 _ rfl
    have od6 := hxd.one 6 _ rfl
    have gd0 : wr.cell? ⟨bd, offd + k * 7, none⟩ = some d0 := (hbw.cell (p := ⟨bd, _, none⟩) hbld).trans (hcsd 0 _ rfl)
    have gd1 : wr.cell? ⟨bd, offd + k * 7 + 1, none⟩ = some d1 := (hbw.cell (p := ⟨bd, _, none⟩) hbld).trans (hcsd 1 _ rfl)
    have gd2 : wr.cell? ⟨bd, offd + k * 7 + 2, none⟩ = some d2 := (hbw.cell (p := ⟨bd, _, none⟩) hbld).trans (hcsd 2 _ rfl)
    have gd3 : wr.cell? ⟨bd, offd + k * 7 + 3, none⟩ = some d3 := (hbw.cell (p := ⟨bd, _, none⟩) hbld).trans (hcsd 3 _ rfl)
    have gd4 : wr.cell? ⟨bd, offd + k * 7 + 4, none⟩ = some d4 := (hbw.cell (p := ⟨bd, _, none⟩) hbld).trans (hcsd 4 _ rfl)
    have gd5 : wr.cell? ⟨bd, offd + k * 7 + 5, none⟩ = some d5 := (hbw.cell (p := ⟨bd, _, none⟩) hbld).trans (hcsd 5 _ rfl)
    have gd6 : wr.cell? ⟨bd, offd + k * 7 + 6, none⟩ = some d6 := (hbw.cell (p := ⟨bd, _, none⟩) hbld).trans (hcsd 6 _ rfl)
    clear hcsd
    have HX := Lib.hid hx; have HY := Lib.hid hxd
    clear hx hxd
    have hsz : b < wr.heap.size := Nat.lt_of_lt_of_le hbl hbw.size
    have hszd : bd < wr.heap.size := Nat.lt_of_lt_of_le hbld hbw.size
    go_wp2_with fail
    have hb0 := ((hbw.alloc hbw.size (Obj.cells #[c0, c1, c2, c3, c4, c5, c6] 80)).alloc (by have := hbw.size; simp <;> omega) (Obj.cells #[d0, d1, d2, d3, d4, d5, d6] 80))
    refine (sameSteps1_any _ _ _ _ _ _ _ _ _ _ _ _ _ _ _ _ _ (HX.out.below hb0) (HY.out.below hb0)).mono ?_
    rintro e w1 ⟨v, rfl, rfl, hbx⟩
    have hb1 := Below.up hb0 hbx hb0.size
    by_cases hab : x[k] = y[k]
    · rw [eqb_true hab]
      have HAB := Lib.hid hab; clear hab
      go_wp2
      go_roundw
      case rel => exact ⟨k + 1, by omega, by go_num, by rw [List.take_succ_eq_append_getElem hlt, List.take_succ_eq_append_getElem hlt', HT.out, HAB.out], hb1⟩
      case measure => simp [intOf]; omega
    · rw [eqb_false hab]
      have HAB := Lib.hid hab; clear hab
      go_wp2
      go_ret
      exact ⟨_, rfl, congrArg Value.bool (eqb_false fun h => HAB.out (by subst h; rfl)).symm, hb1⟩

set_option maxRecDepth 100000 in
set_option maxHeartbeats 400000 in
theorem implSameSteps_any (va vb : Value) (x y : DStepS) (w : World) (ha : Has RStepS w [va] x) (hb : Has RStepS w [vb] y) :
    Calls Try.prog 17 #[va, vb] w (Post (EqPost x y w)) := by
  have HA := Lib.hid ha; have HB := Lib.hid hb; clear ha hb
  go_enter Try.func17, Try.ntmps17
  go_wp2_with fail
  refine (equalFuncStep_any _ _ _ _ _ HA.out HB.out).mono ?_
  rintro e w1 ⟨v, rfl, rfl, hbx⟩
  go_wp2
  go_ret
  exact ⟨_, rfl, rfl, hbx⟩
end Go.Proofs.Ytjkbecgenjhaaaa
