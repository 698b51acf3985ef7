/-
  Lists of numbers, fractions and points are compared.
-/
import Derived.Test.YtjkbecgenjhaaaaData
namespace Go.Proofs.Ytjkbecgenjhaaaa
open Go.RowKit

set_option maxHeartbeats 400000 in
theorem l04List_any (va vb : Value) (a b : DIntS) (w : World) (ha : Has RIntS w [va] a) (hb : Has RIntS w [vb] b) :
    Calls Try.prog 133 #[va, vb] w (Post (EqPost a b w)) := by
  obtain ⟨aa, ca, rfl, la, ma, ga⟩ := ha.elems
  obtain ⟨ab, cb, rfl, lb, mb, gb⟩ := hb.elems
  unfold maxLen at ma mb
  have HA := Lib.hid ga; have HB := Lib.hid gb; clear ga gb ha hb
  by_cases hl : a.length = b.length
  rotate_left
  · have hn : ((a.length : Int) != (b.length : Int)) = true := by simp; omega
    have HL := Lib.hid hl; clear hl
    go_enter Try.func133, Try.ntmps133
    go_wp2
    go_ret
    exact ⟨_, rfl, congrArg Value.bool (eqb_false fun h => HL.out (by rw [h])).symm, Below.refl _ _⟩
  have hn : ((a.length : Int) != (b.length : Int)) = false := by simp; omega
  have HL := Lib.hid hl; clear hl
  go_enter Try.func133, Try.ntmps133
  go_wp2
  go_loopw [13] (fun i wr => ∃ k : Nat, k ≤ a.length ∧ i = .int .i64 k ∧ a.take k = b.take k ∧ Below w.heap.size w wr) (fun i _ => a.length - (intOf i).toNat)
  case atStart => exact ⟨0, Nat.zero_le _, rfl, rfl, Below.refl _ _⟩
  case round =>
    obtain ⟨k, hk, rfl, htk, hbw⟩ := hrel
    have HT := Lib.hid htk; clear htk
    by_cases hlt : k < a.length
    rotate_left
    · go_wp2
      go_ret
      exact ⟨_, rfl, congrArg Value.bool (eqb_true (by have h1 := HT.out; have h2 := HL.out; rwa [List.take_of_length_le (by omega), List.take_of_length_le (by omega)] at h1)).symm, hbw⟩
    have hlt' : k < b.length := by have := HL.out; omega
    obtain ⟨b1, o1, cs1, rfl, hbl, hx, hcs⟩ := HA.out k hlt
    obtain ⟨b2, o2, cs2, rfl, hbl2, hy, hds⟩ := HB.out k hlt'
    obtain ⟨c0, rfl⟩ := list1 hx.len
    obtain ⟨d0, rfl⟩ := list1 hy.len
    obtain rfl := hx.int.1
    obtain rfl := hy.int.1
    have g0 : wr.cell? ⟨b1, o1 + k, none⟩ = some (.int .i64 a[k]) := (hbw.cell (p := ⟨b1, _, none⟩) hbl).trans (by simpa [Rp.int] using hcs 0 _ rfl)
    have e0 : wr.cell? ⟨b2, o2 + k, none⟩ = some (.int .i64 b[k]) := (hbw.cell (p := ⟨b2, _, none⟩) hbl2).trans (by simpa [Rp.int] using hds 0 _ rfl)
    clear hcs hds hx hy
    by_cases hab : a[k] = b[k]
    · have hn : (a[k] != b[k]) = false := by simp [hab]
      have HAB := Lib.hid hab; clear hab
      go_wp2
      go_quiet (fail)
      go_wp2
      go_roundw
      case rel => exact ⟨k + 1, by omega, by go_num, by rw [List.take_succ_eq_append_getElem hlt, List.take_succ_eq_append_getElem hlt', HT.out, HAB.out], hbw.drewN _⟩
      case measure => simp [intOf]; omega
    · have hn : (a[k] != b[k]) = true := by simp [hab]
      have HAB := Lib.hid hab; clear hab
      go_wp2
      go_quiet (fail)
      go_wp2
      go_ret
      exact ⟨_, rfl, congrArg Value.bool (eqb_false fun h => HAB.out (by subst h; rfl)).symm, hbw.drewN _⟩
set_option maxHeartbeats 400000 in
theorem slicesEqual_any (va vb : Value) (a b : DIntS) (w : World) (ha : Has RIntS w [va] a) (hb : Has RIntS w [vb] b) :
    Calls Try.prog 128 #[va, vb] w (Post (EqPost a b w)) := by
  obtain ⟨aa, ca, rfl, la, ma, ga⟩ := ha.elems
  obtain ⟨ab, cb, rfl, lb, mb, gb⟩ := hb.elems
  unfold maxLen at ma mb
  have HA := Lib.hid ga; have HB := Lib.hid gb; clear ga gb ha hb
  by_cases hl : a.length = b.length
  rotate_left
  · have hn : ((a.length : Int) != (b.length : Int)) = true := by simp; omega
    have HL := Lib.hid hl; clear hl
    go_enter Try.func128, Try.ntmps128
    go_wp2
    go_ret
    exact ⟨_, rfl, congrArg Value.bool (eqb_false fun h => HL.out (by rw [h])).symm, Below.refl _ _⟩
  have hn : ((a.length : Int) != (b.length : Int)) = false := by simp; omega
  have HL := Lib.hid hl; clear hl
  go_enter Try.func128, Try.ntmps128
  go_wp2
  go_loopw [13] (fun i wr => ∃ k : Nat, k ≤ a.length ∧ i = .int .i64 k ∧ a.take k = b.take k ∧ Below w.heap.size w wr) (fun i _ => a.length - (intOf i).toNat)
  case atStart => exact ⟨0, Nat.zero_le _, rfl, rfl, Below.refl _ _⟩
  case round =>
    obtain ⟨k, hk, rfl, htk, hbw⟩ := hrel
    have HT := Lib.hid htk; clear htk
    by_cases hlt : k < a.length
    rotate_left
    · go_wp2
      go_ret
      exact ⟨_, rfl, congrArg Value.bool (eqb_true (by have h1 := HT.out; have h2 := HL.out; rwa [List.take_of_length_le (by omega), List.take_of_length_le (by omega)] at h1)).symm, hbw⟩
    have hlt' : k < b.length := by have := HL.out; omega
    obtain ⟨b1, o1, cs1, rfl, hbl, hx, hcs⟩ := HA.out k hlt
    obtain ⟨b2, o2, cs2, rfl, hbl2, hy, hds⟩ := HB.out k hlt'
    obtain ⟨c0, rfl⟩ := list1 hx.len
    obtain ⟨d0, rfl⟩ := list1 hy.len
    obtain rfl := hx.int.1
    obtain rfl := hy.int.1
    have g0 : wr.cell? ⟨b1, o1 + k, none⟩ = some (.int .i64 a[k]) := (hbw.cell (p := ⟨b1, _, none⟩) hbl).trans (by simpa [Rp.int] using hcs 0 _ rfl)
    have e0 : wr.cell? ⟨b2, o2 + k, none⟩ = some (.int .i64 b[k]) := (hbw.cell (p := ⟨b2, _, none⟩) hbl2).trans (by simpa [Rp.int] using hds 0 _ rfl)
    clear hcs hds hx hy
    by_cases hab : a[k] = b[k]
    · have hn : (a[k] != b[k]) = false := by simp [hab]
      have HAB := Lib.hid hab; clear hab
      go_wp2
      go_quiet (fail)
      go_wp2
      go_roundw
      case rel => exact ⟨k + 1, by omega, by go_num, by rw [List.take_succ_eq_append_getElem hlt, List.take_succ_eq_append_getElem hlt', HT.out, HAB.out], hbw.drewN _⟩
      case measure => simp [intOf]; omega
    · have hn : (a[k] != b[k]) = true := by simp [hab]
      have HAB := Lib.hid hab; clear hab
      go_wp2
      go_quiet (fail)
      go_wp2
      go_ret
      exact ⟨_, rfl, congrArg Value.bool (eqb_false fun h => HAB.out (by subst h; rfl)).symm, hbw.drewN _⟩
set_option maxRecDepth 100000 in
set_option maxHeartbeats 400000 in
theorem specRatEqual_any (c0 c1 c2 d0 d1 d2 : Value) (x y : DRat) (w : World) (hx : Has RRat w [c0, c1, c2] x) (hy : Has RRat w [d0, d1, d2] y) :
    Calls Try.prog 97 #[.agg #[c0, c1, c2], .agg #[d0, d1, d2]] w (Post (EqPost x y w)) := by
  obtain ⟨hx0, hx1⟩ := hx.split [c0, c1] [c2] rfl
  obtain ⟨hx00, hx01⟩ := hx0.split [c0] [c1] rfl
  obtain ⟨hy0, hy1⟩ := hy.split [d0, d1] [d2] rfl
  obtain ⟨hy00, hy01⟩ := hy0.split [d0] [d1] rfl
  obtain rfl := hx00.bool
  obtain rfl := hy00.bool
  have HX1 := Lib.hid hx1; have HX2 := Lib.hid hx01; have HY1 := Lib.hid hy1; have HY2 := Lib.hid hy01
  clear hx hy hx0 hx1 hy0 hy1 hx00 hx01 hy00 hy01
  have hb0 := ((Below.refl w.heap.size w).alloc (Nat.le_refl _) (Obj.cells #[.bool x.1.1, c1, c2] 51)).alloc (by simp <;> omega) (Obj.cells #[.bool y.1.1, d1, d2] 51)
  by_cases he0 : x.1.1 = y.1.1
  rotate_left
  · have hn : (x.1.1 == y.1.1) = false := by simp [he0]
    have HN := Lib.hid he0; clear he0
    go_enter Try.func97, Try.ntmps97
    go_wp2
    go_ret
    exact ⟨_, rfl, congrArg Value.bool (eqb_false fun h => HN.out (by rw [h])).symm, hb0⟩
  have hn0 : (x.1.1 == y.1.1) = true := by simp [he0]
  have HE0 := Lib.hid he0; clear he0
  go_enter Try.func97, Try.ntmps97
  go_wp2_with fail
  refine (l04List_any _ _ _ _ _ (HX2.out.below hb0) (HY2.out.below hb0)).mono ?_
  rintro e w1 ⟨v, rfl, rfl, hbx1⟩
  have hb1 := Below.up hb0 hbx1 hb0.size
  obtain ⟨hc1, hf1⟩ := bcell hbx1
  by_cases he1 : x.1.2 = y.1.2
  rotate_left
  · rw [eqb_false he1]
    have HN := Lib.hid he1; clear he1
    go_wp2
    go_ret
    exact ⟨_, rfl, congrArg Value.bool (eqb_false fun h => HN.out (by rw [h])).symm, hb1⟩
  rw [eqb_true he1]
  have HE1 := Lib.hid he1; clear he1
  go_wp2_with fail
  refine (l04List_any _ _ _ _ _ (HX1.out.below hb1) (HY1.out.below hb1)).mono ?_
  rintro e w2 ⟨v, rfl, rfl, hbx2⟩
  have hb2 := Below.up hb1 hbx2 hb1.size
  by_cases he2 : x.2 = y.2
  rotate_left
  · rw [eqb_false he2]
    have HN := Lib.hid he2; clear he2
    go_wp2
    go_ret
    exact ⟨_, rfl, congrArg Value.bool (eqb_false fun h => HN.out (by rw [h])).symm, hb2⟩
  rw [eqb_true he2]
  have HE2 := Lib.hid he2; clear he2
  go_wp2
  go_ret
  exact ⟨_, rfl, congrArg Value.bool (eqb_true (Prod.ext (Prod.ext HE0.out HE1.out) HE2.out)).symm, hb2⟩
set_option maxRecDepth 100000 in
set_option maxHeartbeats 400000 in
theorem implRatEqual_any (c0 c1 c2 d0 d1 d2 : Value) (x y : DRat) (w : World) (hx : Has RRat w [c0, c1, c2] x) (hy : Has RRat w [d0, d1, d2] y) :
    Calls Try.prog 92 #[.agg #[c0, c1, c2], .agg #[d0, d1, d2]] w (Post (EqPost x y w)) := by
  obtain ⟨hx0, hx1⟩ := hx.split [c0, c1] [c2] rfl
  obtain ⟨hx00, hx01⟩ := hx0.split [c0] [c1] rfl
  obtain ⟨hy0, hy1⟩ := hy.split [d0, d1] [d2] rfl
  obtain ⟨hy00, hy01⟩ := hy0.split [d0] [d1] rfl
  obtain rfl := hx00.bool
  obtain rfl := hy00.bool
  have HX1 := Lib.hid hx1; have HX2 := Lib.hid hx01; have HY1 := Lib.hid hy1; have HY2 := Lib.hid hy01
  clear hx hy hx0 hx1 hy0 hy1 hx00 hx01 hy00 hy01
  have hb0 := ((Below.refl w.heap.size w).alloc (Nat.le_refl _) (Obj.cells #[.bool x.1.1, c1, c2] 51)).alloc (by simp <;> omega) (Obj.cells #[.bool y.1.1, d1, d2] 51)
  by_cases he0 : x.1.1 = y.1.1
  rotate_left
  · have hn : (x.1.1 == y.1.1) = false := by simp [he0]
    have HN := Lib.hid he0; clear he0
    go_enter Try.func92, Try.ntmps92
    go_wp2
    go_ret
    exact ⟨_, rfl, congrArg Value.bool (eqb_false fun h => HN.out (by rw [h])).symm, hb0⟩
  have hn0 : (x.1.1 == y.1.1) = true := by simp [he0]
  have HE0 := Lib.hid he0; clear he0
  go_enter Try.func92, Try.ntmps92
  go_wp2_with fail
  refine (slicesEqual_any _ _ _ _ _ (HX2.out.below hb0) (HY2.out.below hb0)).mono ?_
  rintro e w1 ⟨v, rfl, rfl, hbx1⟩
  have hb1 := Below.up hb0 hbx1 hb0.size
  obtain ⟨hc1, hf1⟩ := bcell hbx1
  by_cases he1 : x.1.2 = y.1.2
  rotate_left
  · rw [eqb_false he1]
    have HN := Lib.hid he1; clear he1
    go_wp2
    go_ret
    exact ⟨_, rfl, congrArg Value.bool (eqb_false fun h => HN.out (by rw [h])).symm, hb1⟩
  rw [eqb_true he1]
  have HE1 := Lib.hid he1; clear he1
  go_wp2_with fail
  refine (slicesEqual_any _ _ _ _ _ (HX1.out.below hb1) (HY1.out.below hb1)).mono ?_
  rintro e w2 ⟨v, rfl, rfl, hbx2⟩
  have hb2 := Below.up hb1 hbx2 hb1.size
  by_cases he2 : x.2 = y.2
  rotate_left
  · rw [eqb_false he2]
    have HN := Lib.hid he2; clear he2
    go_wp2
    go_ret
    exact ⟨_, rfl, congrArg Value.bool (eqb_false fun h => HN.out (by rw [h])).symm, hb2⟩
  rw [eqb_true he2]
  have HE2 := Lib.hid he2; clear he2
  go_wp2
  go_ret
  exact ⟨_, rfl, congrArg Value.bool (eqb_true (Prod.ext (Prod.ext HE0.out HE1.out) HE2.out)).symm, hb2⟩
set_option maxRecDepth 100000 in
set_option maxHeartbeats 400000 in
theorem specSamePoint_any (c0 c1 c2 c3 c4 c5 d0 d1 d2 d3 d4 d5 : Value) (x y : DPoint) (w : World) (hx : Has RPoint w [c0, c1, c2, c3, c4, c5] x) (hy : Has RPoint w [d0, d1, d2, d3, d4, d5] y) :
    Calls Try.prog 68 #[.agg #[c0, c1, c2, c3, c4, c5], .agg #[d0, d1, d2, d3, d4, d5]] w (Post (EqPost x y w)) := by
  obtain ⟨hx0, hx1⟩ := hx.split [c0, c1, c2] [c3, c4, c5] rfl
  obtain ⟨hy0, hy1⟩ := hy.split [d0, d1, d2] [d3, d4, d5] rfl
  have HX0 := Lib.hid hx0; have HX1 := Lib.hid hx1; have HY0 := Lib.hid hy0; have HY1 := Lib.hid hy1
  clear hx hy hx0 hx1 hy0 hy1
  have hb0 := ((Below.refl w.heap.size w).alloc (Nat.le_refl _) (Obj.cells #[c0, c1, c2, c3, c4, c5] 53)).alloc (by simp <;> omega) (Obj.cells #[d0, d1, d2, d3, d4, d5] 53)
  go_enter Try.func68, Try.ntmps68
  go_wp2_with fail
  refine (specRatEqual_any _ _ _ _ _ _ _ _ _ (HX0.out.below hb0) (HY0.out.below hb0)).mono ?_
  rintro e w1 ⟨v, rfl, rfl, hbx1⟩
  have hb1 := Below.up hb0 hbx1 hb0.size
  obtain ⟨hc1, hf1⟩ := bcell hbx1
  by_cases he1 : x.1 = y.1
  rotate_left
  · rw [eqb_false he1]
    have HN := Lib.hid he1; clear he1
    go_wp2
    go_ret
    exact ⟨_, rfl, congrArg Value.bool (eqb_false fun h => HN.out (by rw [h])).symm, hb1⟩
  rw [eqb_true he1]
  have HE1 := Lib.hid he1; clear he1
  go_wp2_with fail
  refine (specRatEqual_any _ _ _ _ _ _ _ _ _ (HX1.out.below hb1) (HY1.out.below hb1)).mono ?_
  rintro e w2 ⟨v, rfl, rfl, hbx2⟩
  have hb2 := Below.up hb1 hbx2 hb1.size
  by_cases he2 : x.2 = y.2
  rotate_left
  · rw [eqb_false he2]
    have HN := Lib.hid he2; clear he2
    go_wp2
    go_ret
    exact ⟨_, rfl, congrArg Value.bool (eqb_false fun h => HN.out (by rw [h])).symm, hb2⟩
  rw [eqb_true he2]
  have HE2 := Lib.hid he2; clear he2
  go_wp2
  go_ret
  exact ⟨_, rfl, congrArg Value.bool (eqb_true (Prod.ext HE1.out HE2.out)).symm, hb2⟩
set_option maxRecDepth 100000 in
set_option maxHeartbeats 400000 in
theorem implSamePoint_any (c0 c1 c2 c3 c4 c5 d0 d1 d2 d3 d4 d5 : Value) (x y : DPoint) (w : World) (hx : Has RPoint w [c0, c1, c2, c3, c4, c5] x) (hy : Has RPoint w [d0, d1, d2, d3, d4, d5] y) :
    Calls Try.prog 59 #[.agg #[c0, c1, c2, c3, c4, c5], .agg #[d0, d1, d2, d3, d4, d5]] w (Post (EqPost x y w)) := by
  obtain ⟨hx0, hx1⟩ := hx.split [c0, c1, c2] [c3, c4, c5] rfl
  obtain ⟨hy0, hy1⟩ := hy.split [d0, d1, d2] [d3, d4, d5] rfl
  have HX0 := Lib.hid hx0; have HX1 := Lib.hid hx1; have HY0 := Lib.hid hy0; have HY1 := Lib.hid hy1
  clear hx hy hx0 hx1 hy0 hy1
  have hb0 := ((Below.refl w.heap.size w).alloc (Nat.le_refl _) (Obj.cells #[c0, c1, c2, c3, c4, c5] 53)).alloc (by simp <;> omega) (Obj.cells #[d0, d1, d2, d3, d4, d5] 53)
  go_enter Try.func59, Try.ntmps59
  go_wp2_with fail
  refine (implRatEqual_any _ _ _ _ _ _ _ _ _ (HX0.out.below hb0) (HY0.out.below hb0)).mono ?_
  rintro e w1 ⟨v, rfl, rfl, hbx1⟩
  have hb1 := Below.up hb0 hbx1 hb0.size
  obtain ⟨hc1, hf1⟩ := bcell hbx1
  by_cases he1 : x.1 = y.1
  rotate_left
  · rw [eqb_false he1]
    have HN := Lib.hid he1; clear he1
    go_wp2
    go_ret
    exact ⟨_, rfl, congrArg Value.bool (eqb_false fun h => HN.out (by rw [h])).symm, hb1⟩
  rw [eqb_true he1]
  have HE1 := Lib.hid he1; clear he1
  go_wp2_with fail
  refine (implRatEqual_any _ _ _ _ _ _ _ _ _ (HX1.out.below hb1) (HY1.out.below hb1)).mono ?_
  rintro e w2 ⟨v, rfl, rfl, hbx2⟩
  have hb2 := Below.up hb1 hbx2 hb1.size
  by_cases he2 : x.2 = y.2
  rotate_left
  · rw [eqb_false he2]
    have HN := Lib.hid he2; clear he2
    go_wp2
    go_ret
    exact ⟨_, rfl, congrArg Value.bool (eqb_false fun h => HN.out (by rw [h])).symm, hb2⟩
  rw [eqb_true he2]
  have HE2 := Lib.hid he2; clear he2
  go_wp2
  go_ret
  exact ⟨_, rfl, congrArg Value.bool (eqb_true (Prod.ext HE1.out HE2.out)).symm, hb2⟩
end Go.Proofs.Ytjkbecgenjhaaaa
