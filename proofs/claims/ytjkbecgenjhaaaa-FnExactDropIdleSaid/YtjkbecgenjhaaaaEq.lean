import Derived.Test.YtjkbecgenjhaaaaProg
import Derived.Test.YtjkbecgenjhaaaaData
namespace Go.Proofs.Ytjkbecgenjhaaaa
open Go.RowKit

set_option maxRecDepth 100000 in
set_option maxHeartbeats 400000 in
theorem eqIntS_any (va vb : Value) (a b : DIntS) (w : World) (ha : Has RIntS w [va] a) (hb : Has RIntS w [vb] b) :
    Calls Try.prog 22 #[va, vb] w (Post (EqPost a b w)) := by
  obtain ⟨aa, ca, rfl, la, ma, ga⟩ := ha.elems
  obtain ⟨ab, cb, rfl, lb, mb, gb⟩ := hb.elems
  unfold maxLen at ma mb
  have HA := Lib.hid ga; have HB := Lib.hid gb; clear ga gb ha hb
  by_cases hl : a.length = b.length
  rotate_left
  · have hn : ((a.length : Int) != (b.length : Int)) = true := by simp; omega
    have HL := Lib.hid hl; clear hl
    go_enter Try.func22, Try.ntmps22
    go_wp2
    go_ret
    exact ⟨_, rfl, congrArg _ (eqb_false fun h => HL.out (by rw [h])).symm, Below.refl _ _⟩
  have hn : ((a.length : Int) != (b.length : Int)) = false := by simp; omega
  have HL := Lib.hid hl; clear hl
  go_enter Try.func22, Try.ntmps22
  go_wp2
  go_loopw [5] (fun i wr => ∃ k : Nat, k ≤ a.length ∧ i = .int .i64 k ∧ a.take k = b.take k ∧ Below w.heap.size w wr) (fun i _ => a.length - (intOf i).toNat)
  case atStart => exact ⟨0, Nat.zero_le _, rfl, rfl, Below.refl _ _⟩
  case round =>
    obtain ⟨k, hk, rfl, htk, hbw⟩ := hrel
    have HT := Lib.hid htk; clear htk
    by_cases hlt : k < a.length
    rotate_left
    · go_wp2
      go_ret
      exact ⟨_, rfl, congrArg _ (eqb_true (by have h1 := HT.out; have h2 := HL.out; rwa [List.take_of_length_le (by omega), List.take_of_length_le (by omega)] at h1)).symm, hbw⟩
    have hlt' : k < b.length := by have := HL.out; omega
    obtain ⟨b1, o1, cs1, rfl, hbl, hx, hcs⟩ := HA.out k hlt
    obtain ⟨b2, o2, cs2, rfl, hbl2, hy, hds⟩ := HB.out k hlt'
    obtain ⟨c0, rfl⟩ := list1 hx.len
    obtain ⟨d0, rfl⟩ := list1 hy.len
    obtain rfl := hx.int.1
    obtain rfl := hy.int.1
    have g0 : wr.cell? ⟨b1, o1 + k, none⟩ = some (.int .i64 a[k]) := (hbw.cell (p := ⟨b1, _, none⟩) hbl).trans (by simpa [Rp.int] using hcs 0 _ rfl)
    have e0 : wr.cell? ⟨b2, o2 + k, none⟩ = some (.int .i64 b[k]) := (hbw.cell (p := ⟨b2, _, none⟩) hbl2).trans (by simpa [Rp.int] using hds 0 _ rfl)
    clear hcs hds hx hy
    by_cases hab : a[k] = b[k]
    · have hn : (a[k] != b[k]) = false := by simp [hab]
      have HAB := Lib.hid hab; clear hab
      go_wp2
      go_quiet (fail)
      go_wp2
      go_roundw
      case rel => exact ⟨k + 1, by omega, by go_num, by rw [List.take_succ_eq_append_getElem hlt, List.take_succ_eq_append_getElem hlt', HT.out, HAB.out], hbw.drewN _⟩
      case measure => simp [intOf]; omega
    · have hn : (a[k] != b[k]) = true := by simp [hab]
      have HAB := Lib.hid hab; clear hab
      go_wp2
      go_quiet (fail)
      go_wp2
      go_ret
      exact ⟨_, rfl, congrArg _ (eqb_false fun h => HAB.out (by subst h; rfl)).symm, hbw.drewN _⟩
set_option maxHeartbeats 400000 in
theorem eqBigInt_any (c0 c1 d0 d1 : Value) (x y : DBigInt) (w : World) (hx : Has RBigInt w [c0, c1] x) (hy : Has RBigInt w [d0, d1] y) :
    Calls Try.prog 83 #[.agg #[c0, c1], .agg #[d0, d1]] w (Post (EqPost x y w)) := by
  obtain ⟨hx0, hx1⟩ := hx.split [c0] [c1] rfl
  obtain ⟨hy0, hy1⟩ := hy.split [d0] [d1] rfl
  obtain rfl := hx0.bool
  obtain rfl := hy0.bool
  have HX1 := Lib.hid hx1
  have HY1 := Lib.hid hy1
  clear hx hy hx0 hx1 hy0 hy1
  by_cases he0 : x.1 = y.1
  rotate_left
  · have hn : (!(x.1 == y.1)) = true := by simp [he0]
    have HN := Lib.hid he0; clear he0
    go_enter Try.func83, Try.ntmps83
    go_wp2
    go_ret
    exact ⟨_, rfl, congrArg _ (eqb_false fun h => HN.out (by rw [h])).symm, ((Below.refl w.heap.size w).alloc (Nat.le_refl _) _).alloc (by simp) _⟩
  have hn0 : (!(x.1 == y.1)) = false := by simp [he0]
  have HE0 := Lib.hid he0; clear he0
  go_enter Try.func83, Try.ntmps83
  have hb0 := ((Below.refl w.heap.size w).alloc (Nat.le_refl _) (Obj.cells #[.bool x.1, c1] 49)).alloc (by simp) (Obj.cells #[.bool y.1, d1] 49)
  go_wp2_with fail
  refine (eqIntS_any _ _ _ _ _ (HX1.out.below hb0) (HY1.out.below hb0)).mono ?_
  rintro e w1 ⟨v, rfl, rfl, hbx1⟩
  have hb1 := Below.up hb0 hbx1 hb0.size
  by_cases he1 : x.2 = y.2
  rotate_left
  · rw [eqb_false he1]
    have HN := Lib.hid he1; clear he1
    go_wp2
    go_ret
    exact ⟨_, rfl, congrArg _ (eqb_false fun h => HN.out (by rw [h])).symm, hb1⟩
  rw [eqb_true he1]
  have HE1 := Lib.hid he1; clear he1
  go_wp2
  go_ret
  exact ⟨_, rfl, congrArg _ (eqb_true (Prod.ext HE0.out (HE1.out))).symm, hb1⟩
set_option maxHeartbeats 400000 in
theorem eqRat_any (c0 c1 c2 d0 d1 d2 : Value) (x y : DRat) (w : World) (hx : Has RRat w [c0, c1, c2] x) (hy : Has RRat w [d0, d1, d2] y) :
    Calls Try.prog 40 #[.agg #[c0, c1, c2], .agg #[d0, d1, d2]] w (Post (EqPost x y w)) := by
  obtain ⟨hx0, hx1⟩ := hx.split [c0, c1] [c2] rfl
  obtain ⟨hy0, hy1⟩ := hy.split [d0, d1] [d2] rfl
  have HX0 := Lib.hid hx0
  have HY0 := Lib.hid hy0
  have HX1 := Lib.hid hx1
  have HY1 := Lib.hid hy1
  clear hx hy hx0 hx1 hy0 hy1
  go_enter Try.func40, Try.ntmps40
  have hb0 := ((Below.refl w.heap.size w).alloc (Nat.le_refl _) (Obj.cells #[c0, c1, c2] 51)).alloc (by simp) (Obj.cells #[d0, d1, d2] 51)
  go_wp2_with fail
  refine (eqBigInt_any _ _ _ _ _ _ _ (HX0.out.below hb0) (HY0.out.below hb0)).mono ?_
  rintro e w1 ⟨v, rfl, rfl, hbx1⟩
  have hb1 := Below.up hb0 hbx1 hb0.size
  obtain ⟨hc1, hf1⟩ := bcell hbx1
  by_cases he0 : x.1 = y.1
  rotate_left
  · rw [eqb_false he0]
    have HN := Lib.hid he0; clear he0
    go_wp2
    go_ret
    exact ⟨_, rfl, congrArg _ (eqb_false fun h => HN.out (by rw [h])).symm, hb1⟩
  rw [eqb_true he0]
  have HE0 := Lib.hid he0; clear he0
  go_wp2_with fail
  refine (eqIntS_any _ _ _ _ _ (HX1.out.below hb1) (HY1.out.below hb1)).mono ?_
  rintro e w2 ⟨v, rfl, rfl, hbx2⟩
  have hb2 := Below.up hb1 hbx2 hb1.size
  by_cases he1 : x.2 = y.2
  rotate_left
  · rw [eqb_false he1]
    have HN := Lib.hid he1; clear he1
    go_wp2
    go_ret
    exact ⟨_, rfl, congrArg _ (eqb_false fun h => HN.out (by rw [h])).symm, hb2⟩
  rw [eqb_true he1]
  have HE1 := Lib.hid he1; clear he1
  go_wp2
  go_ret
  exact ⟨_, rfl, congrArg _ (eqb_true (Prod.ext HE0.out (HE1.out))).symm, hb2⟩
set_option maxHeartbeats 400000 in
theorem eqPoint_any (c0 c1 c2 c3 c4 c5 d0 d1 d2 d3 d4 d5 : Value) (x y : DPoint) (w : World) (hx : Has RPoint w [c0, c1, c2, c3, c4, c5] x) (hy : Has RPoint w [d0, d1, d2, d3, d4, d5] y) :
    Calls Try.prog 47 #[.agg #[c0, c1, c2, c3, c4, c5], .agg #[d0, d1, d2, d3, d4, d5]] w (Post (EqPost x y w)) := by
  obtain ⟨hx0, hx1⟩ := hx.split [c0, c1, c2] [c3, c4, c5] rfl
  obtain ⟨hy0, hy1⟩ := hy.split [d0, d1, d2] [d3, d4, d5] rfl
  have HX0 := Lib.hid hx0
  have HY0 := Lib.hid hy0
  have HX1 := Lib.hid hx1
  have HY1 := Lib.hid hy1
  clear hx hy hx0 hx1 hy0 hy1
  go_enter Try.func47, Try.ntmps47
  have hb0 := ((Below.refl w.heap.size w).alloc (Nat.le_refl _) (Obj.cells #[c0, c1, c2, c3, c4, c5] 53)).alloc (by simp) (Obj.cells #[d0, d1, d2, d3, d4, d5] 53)
  go_wp2_with fail
  refine (eqRat_any _ _ _ _ _ _ _ _ _ (HX0.out.below hb0) (HY0.out.below hb0)).mono ?_
  rintro e w1 ⟨v, rfl, rfl, hbx1⟩
  have hb1 := Below.up hb0 hbx1 hb0.size
  obtain ⟨hc1, hf1⟩ := bcell hbx1
  by_cases he0 : x.1 = y.1
  rotate_left
  · rw [eqb_false he0]
    have HN := Lib.hid he0; clear he0
    go_wp2
    go_ret
    exact ⟨_, rfl, congrArg _ (eqb_false fun h => HN.out (by rw [h])).symm, hb1⟩
  rw [eqb_true he0]
  have HE0 := Lib.hid he0; clear he0
  go_wp2_with fail
  refine (eqRat_any _ _ _ _ _ _ _ _ _ (HX1.out.below hb1) (HY1.out.below hb1)).mono ?_
  rintro e w2 ⟨v, rfl, rfl, hbx2⟩
  have hb2 := Below.up hb1 hbx2 hb1.size
  by_cases he1 : x.2 = y.2
  rotate_left
  · rw [eqb_false he1]
    have HN := Lib.hid he1; clear he1
    go_wp2
    go_ret
    exact ⟨_, rfl, congrArg _ (eqb_false fun h => HN.out (by rw [h])).symm, hb2⟩
  rw [eqb_true he1]
  have HE1 := Lib.hid he1; clear he1
  go_wp2
  go_ret
  exact ⟨_, rfl, congrArg _ (eqb_true (Prod.ext HE0.out (HE1.out))).symm, hb2⟩
set_option maxHeartbeats 400000 in
theorem eqPlacement_any (c0 c1 c2 c3 c4 c5 c6 d0 d1 d2 d3 d4 d5 d6 : Value) (x y : DPlacement) (w : World) (hx : Has RPlacement w [c0, c1, c2, c3, c4, c5, c6] x) (hy : Has RPlacement w [d0, d1, d2, d3, d4, d5, d6] y) :
    Calls Try.prog 30 #[.agg #[c0, c1, c2, c3, c4, c5, c6], .agg #[d0, d1, d2, d3, d4, d5, d6]] w (Post (EqPost x y w)) := by
  obtain ⟨hx0, hx1⟩ := hx.split [c0] [c1, c2, c3, c4, c5, c6] rfl
  obtain ⟨hy0, hy1⟩ := hy.split [d0] [d1, d2, d3, d4, d5, d6] rfl
  obtain rfl := hx0.int.1
  obtain rfl := hy0.int.1
  have HX1 := Lib.hid hx1
  have HY1 := Lib.hid hy1
  clear hx hy hx0 hx1 hy0 hy1
  by_cases he0 : x.1 = y.1
  rotate_left
  · have hn : (x.1 != y.1) = true := by simp [he0]
    have HN := Lib.hid he0; clear he0
    go_enter Try.func30, Try.ntmps30
    go_wp2
    go_ret
    exact ⟨_, rfl, congrArg _ (eqb_false fun h => HN.out (by rw [h])).symm, ((Below.refl w.heap.size w).alloc (Nat.le_refl _) _).alloc (by simp) _⟩
  have hn0 : (x.1 != y.1) = false := by simp [he0]
  have HE0 := Lib.hid he0; clear he0
  go_enter Try.func30, Try.ntmps30
  have hb0 := ((Below.refl w.heap.size w).alloc (Nat.le_refl _) (Obj.cells #[.int .i64 x.1, c1, c2, c3, c4, c5, c6] 55)).alloc (by simp) (Obj.cells #[.int .i64 y.1, d1, d2, d3, d4, d5, d6] 55)
  go_wp2_with fail
  refine (eqPoint_any _ _ _ _ _ _ _ _ _ _ _ _ _ _ _ (HX1.out.below hb0) (HY1.out.below hb0)).mono ?_
  rintro e w1 ⟨v, rfl, rfl, hbx1⟩
  have hb1 := Below.up hb0 hbx1 hb0.size
  by_cases he1 : x.2 = y.2
  rotate_left
  · rw [eqb_false he1]
    have HN := Lib.hid he1; clear he1
    go_wp2
    go_ret
    exact ⟨_, rfl, congrArg _ (eqb_false fun h => HN.out (by rw [h])).symm, hb1⟩
  rw [eqb_true he1]
  have HE1 := Lib.hid he1; clear he1
  go_wp2
  go_ret
  exact ⟨_, rfl, congrArg _ (eqb_true (Prod.ext HE0.out (HE1.out))).symm, hb1⟩
set_option maxHeartbeats 400000 in
theorem eqStep_any (c0 c1 c2 c3 c4 c5 c6 d0 d1 d2 d3 d4 d5 d6 : Value) (x y : DStep) (w : World) (hx : Has RStep w [c0, c1, c2, c3, c4, c5, c6] x) (hy : Has RStep w [d0, d1, d2, d3, d4, d5, d6] y) :
    Calls Try.prog 55 #[.agg #[c0, c1, c2, c3, c4, c5, c6], .agg #[d0, d1, d2, d3, d4, d5, d6]] w (Post (EqPost x y w)) := by
  obtain ⟨hx0, hx1⟩ := hx.split [c0] [c1, c2, c3, c4, c5, c6] rfl
  obtain ⟨hy0, hy1⟩ := hy.split [d0] [d1, d2, d3, d4, d5, d6] rfl
  obtain rfl := hx0.int.1
  obtain rfl := hy0.int.1
  have HX1 := Lib.hid hx1
  have HY1 := Lib.hid hy1
  clear hx hy hx0 hx1 hy0 hy1
  by_cases he0 : x.1 = y.1
  rotate_left
  · have hn : (x.1 != y.1) = true := by simp [he0]
    have HN := Lib.hid he0; clear he0
    go_enter Try.func55, Try.ntmps55
    go_wp2
    go_ret
    exact ⟨_, rfl, congrArg _ (eqb_false fun h => HN.out (by rw [h])).symm, ((Below.refl w.heap.size w).alloc (Nat.le_refl _) _).alloc (by simp) _⟩
  have hn0 : (x.1 != y.1) = false := by simp [he0]
  have HE0 := Lib.hid he0; clear he0
  go_enter Try.func55, Try.ntmps55
  have hb0 := ((Below.refl w.heap.size w).alloc (Nat.le_refl _) (Obj.cells #[.int .i64 x.1, c1, c2, c3, c4, c5, c6] 80)).alloc (by simp) (Obj.cells #[.int .i64 y.1, d1, d2, d3, d4, d5, d6] 80)
  go_wp2_with fail
  refine (eqPoint_any _ _ _ _ _ _ _ _ _ _ _ _ _ _ _ (HX1.out.below hb0) (HY1.out.below hb0)).mono ?_
  rintro e w1 ⟨v, rfl, rfl, hbx1⟩
  have hb1 := Below.up hb0 hbx1 hb0.size
  by_cases he1 : x.2 = y.2
  rotate_left
  · rw [eqb_false he1]
    have HN := Lib.hid he1; clear he1
    go_wp2
    go_ret
    exact ⟨_, rfl, congrArg _ (eqb_false fun h => HN.out (by rw [h])).symm, hb1⟩
  rw [eqb_true he1]
  have HE1 := Lib.hid he1; clear he1
  go_wp2
  go_ret
  exact ⟨_, rfl, congrArg _ (eqb_true (Prod.ext HE0.out (HE1.out))).symm, hb1⟩
set_option maxRecDepth 100000 in
set_option maxHeartbeats 400000 in
theorem eqRatS_any (va vb : Value) (a b : DRatS) (w : World) (ha : Has RRatS w [va] a) (hb : Has RRatS w [vb] b) :
    Calls Try.prog 21 #[va, vb] w (Post (EqPost a b w)) := by
  obtain ⟨aa, ca, rfl, la, ma, ga⟩ := ha.elems
  obtain ⟨ab, cb, rfl, lb, mb, gb⟩ := hb.elems
  unfold maxLen at ma mb
  have HA := Lib.hid ga; have HB := Lib.hid gb; clear ga gb ha hb
  by_cases hl : a.length = b.length
  rotate_left
  · have hn : ((a.length : Int) != (b.length : Int)) = true := by simp; omega
    have HL := Lib.hid hl; clear hl
    go_enter Try.func21, Try.ntmps21
    go_wp2
    go_ret
    exact ⟨_, rfl, congrArg _ (eqb_false fun h => HL.out (by rw [h])).symm, Below.refl _ _⟩
  have hn : ((a.length : Int) != (b.length : Int)) = false := by simp; omega
  have HL := Lib.hid hl; clear hl
  go_enter Try.func21, Try.ntmps21
  go_wp2
  go_loopw [5] (fun i wr => ∃ k : Nat, k ≤ a.length ∧ i = .int .i64 k ∧ a.take k = b.take k ∧ Below w.heap.size w wr) (fun i _ => a.length - (intOf i).toNat)
  case atStart => exact ⟨0, Nat.zero_le _, rfl, rfl, Below.refl _ _⟩
  case round =>
    obtain ⟨k, hk, rfl, htk, hbw⟩ := hrel
    have HT := Lib.hid htk; clear htk
    by_cases hlt : k < a.length
    rotate_left
    · go_wp2
      go_ret
      exact ⟨_, rfl, congrArg _ (eqb_true (by have h1 := HT.out; have h2 := HL.out; rwa [List.take_of_length_le (by omega), List.take_of_length_le (by omega)] at h1)).symm, hbw⟩
    have hlt' : k < b.length := by have := HL.out; omega
    obtain ⟨b1, o1, cs1, rfl, hbl, hx, hcs⟩ := HA.out k hlt
    obtain ⟨b2, o2, cs2, rfl, hbl2, hy, hds⟩ := HB.out k hlt'
    obtain ⟨c0, c1, c2, rfl⟩ := list3 hx.len
    obtain ⟨d0, d1, d2, rfl⟩ := list3 hy.len
    have g0 : wr.cell? ⟨b1, o1 + k * 3, none⟩ = some c0 := (hbw.cell (p := ⟨b1, _, none⟩) hbl).trans (hcs 0 _ rfl)
    have g1 : wr.cell? ⟨b1, o1 + k * 3 + 1, none⟩ = some c1 := (hbw.cell (p := ⟨b1, _, none⟩) hbl).trans (hcs 1 _ rfl)
    have g2 : wr.cell? ⟨b1, o1 + k * 3 + 2, none⟩ = some c2 := (hbw.cell (p := ⟨b1, _, none⟩) hbl).trans (hcs 2 _ rfl)
    have e0 : wr.cell? ⟨b2, o2 + k * 3, none⟩ = some d0 := (hbw.cell (p := ⟨b2, _, none⟩) hbl2).trans (hds 0 _ rfl)
    have e1 : wr.cell? ⟨b2, o2 + k * 3 + 1, none⟩ = some d1 := (hbw.cell (p := ⟨b2, _, none⟩) hbl2).trans (hds 1 _ rfl)
    have e2 : wr.cell? ⟨b2, o2 + k * 3 + 2, none⟩ = some d2 := (hbw.cell (p := ⟨b2, _, none⟩) hbl2).trans (hds 2 _ rfl)
    have HX := Lib.hid hx; have HY := Lib.hid hy
    clear hcs hds hx hy
    go_wp2
    go_still_tail 8, (by kernel_rfl)
    go_wp2_with fail
    refine (eqRat_any _ _ _ _ _ _ _ _ _ (HX.out.below (hbw.drew)) (HY.out.below (hbw.drew))).mono ?_
    rintro e w1 ⟨v, rfl, rfl, hbx⟩
    have hb1 := Below.up hbw.drew hbx hbw.size
    by_cases hab : a[k] = b[k]
    · rw [eqb_true hab]
      have HAB := Lib.hid hab; clear hab
      go_wp2
      go_roundw
      case rel => exact ⟨k + 1, by omega, by go_num, by rw [List.take_succ_eq_append_getElem hlt, List.take_succ_eq_append_getElem hlt', HT.out, HAB.out], hb1⟩
      case measure => simp [intOf]; omega
    · rw [eqb_false hab]
      have HAB := Lib.hid hab; clear hab
      go_wp2
      go_ret
      exact ⟨_, rfl, congrArg _ (eqb_false fun h => HAB.out (by subst h; rfl)).symm, hb1⟩
set_option maxRecDepth 100000 in
set_option maxHeartbeats 400000 in
theorem eqStepS_any (va vb : Value) (a b : DStepS) (w : World) (ha : Has RStepS w [va] a) (hb : Has RStepS w [vb] b) :
    Calls Try.prog 15 #[va, vb] w (Post (EqPost a b w)) := by
  obtain ⟨aa, ca, rfl, la, ma, ga⟩ := ha.elems
  obtain ⟨ab, cb, rfl, lb, mb, gb⟩ := hb.elems
  unfold maxLen at ma mb
  have HA := Lib.hid ga; have HB := Lib.hid gb; clear ga gb ha hb
  by_cases hl : a.length = b.length
  rotate_left
  · have hn : ((a.length : Int) != (b.length : Int)) = true := by simp; omega
    have HL := Lib.hid hl; clear hl
    go_enter Try.func15, Try.ntmps15
    go_wp2
    go_ret
    exact ⟨_, rfl, congrArg _ (eqb_false fun h => HL.out (by rw [h])).symm, Below.refl _ _⟩
  have hn : ((a.length : Int) != (b.length : Int)) = false := by simp; omega
  have HL := Lib.hid hl; clear hl
  go_enter Try.func15, Try.ntmps15
  go_wp2
  go_loopw [5] (fun i wr => ∃ k : Nat, k ≤ a.length ∧ i = .int .i64 k ∧ a.take k = b.take k ∧ Below w.heap.size w wr) (fun i _ => a.length - (intOf i).toNat)
  case atStart => exact ⟨0, Nat.zero_le _, rfl, rfl, Below.refl _ _⟩
  case round =>
    obtain ⟨k, hk, rfl, htk, hbw⟩ := hrel
    have HT := Lib.hid htk; clear htk
    by_cases hlt : k < a.length
    rotate_left
    · go_wp2
      go_ret
      exact ⟨_, rfl, congrArg _ (eqb_true (by have h1 := HT.out; have h2 := HL.out; rwa [List.take_of_length_le (by omega), List.take_of_length_le (by omega)] at h1)).symm, hbw⟩
    have hlt' : k < b.length := by have := HL.out; omega
    obtain ⟨b1, o1, cs1, rfl, hbl, hx, hcs⟩ := HA.out k hlt
    obtain ⟨b2, o2, cs2, rfl, hbl2, hy, hds⟩ := HB.out k hlt'
    obtain ⟨c0, c1, c2, c3, c4, c5, c6, rfl⟩ := list7 hx.len
    obtain ⟨d0, d1, d2, d3, d4, d5, d6, rfl⟩ := list7 hy.len
    have g0 : wr.cell? ⟨b1, o1 + k * 7, none⟩ = some c0 := (hbw.cell (p := ⟨b1, _, none⟩) hbl).trans (hcs 0 _ rfl)
    have g1 : wr.cell? ⟨b1, o1 + k * 7 + 1, none⟩ = some c1 := (hbw.cell (p := ⟨b1, _, none⟩) hbl).trans (hcs 1 _ rfl)
    have g2 : wr.cell? ⟨b1, o1 + k * 7 + 2, none⟩ = some c2 := (hbw.cell (p := ⟨b1, _, none⟩) hbl).trans (hcs 2 _ rfl)
    have g3 : wr.cell? ⟨b1, o1 + k * 7 + 3, none⟩ = some c3 := (hbw.cell (p := ⟨b1, _, none⟩) hbl).trans (hcs 3 _ rfl)
    have g4 : wr.cell? ⟨b1, o1 + k * 7 + 4, none⟩ = some c4 := (hbw.cell (p := ⟨b1, _, none⟩) hbl).trans (hcs 4 _ rfl)
    have g5 : wr.cell? ⟨b1, o1 + k * 7 + 5, none⟩ = some c5 := (hbw.cell (p := ⟨b1, _, none⟩) hbl).trans (hcs 5 _ rfl)
    have g6 : wr.cell? ⟨b1, o1 + k * 7 + 6, none⟩ = some c6 := (hbw.cell (p := ⟨b1, _, none⟩) hbl).trans (hcs 6 _ rfl)
    have e0 : wr.cell? ⟨b2, o2 + k * 7, none⟩ = some d0 := (hbw.cell (p := ⟨b2, _, none⟩) hbl2).trans (hds 0 _ rfl)
    have e1 : wr.cell? ⟨b2, o2 + k * 7 + 1, none⟩ = some d1 := (hbw.cell (p := ⟨b2, _, none⟩) hbl2).trans (hds 1 _ rfl)
    have e2 : wr.cell? ⟨b2, o2 + k * 7 + 2, none⟩ = some d2 := (hbw.cell (p := ⟨b2, _, none⟩) hbl2).trans (hds 2 _ rfl)
    have e3 : wr.cell? ⟨b2, o2 + k * 7 + 3, none⟩ = some d3 := (hbw.cell (p := ⟨b2, _, none⟩) hbl2).trans (hds 3 _ rfl)
    have e4 : wr.cell? ⟨b2, o2 + k * 7 + 4, none⟩ = some d4 := (hbw.cell (p := ⟨b2, _, none⟩) hbl2).trans (hds 4 _ rfl)
    have e5 : wr.cell? ⟨b2, o2 + k * 7 + 5, none⟩ = some d5 := (hbw.cell (p := ⟨b2, _, none⟩) hbl2).trans (hds 5 _ rfl)
    have e6 : wr.cell? ⟨b2, o2 + k * 7 + 6, none⟩ = some d6 := (hbw.cell (p := ⟨b2, _, none⟩) hbl2).trans (hds 6 _ rfl)
    have HX := Lib.hid hx; have HY := Lib.hid hy
    clear hcs hds hx hy
    go_wp2
    go_still_tail 8, (by kernel_rfl)
    go_wp2_with fail
    refine (eqStep_any _ _ _ _ _ _ _ _ _ _ _ _ _ _ _ _ _ (HX.out.below (hbw.drew)) (HY.out.below (hbw.drew))).mono ?_
    rintro e w1 ⟨v, rfl, rfl, hbx⟩
    have hb1 := Below.up hbw.drew hbx hbw.size
    by_cases hab : a[k] = b[k]
    · rw [eqb_true hab]
      have HAB := Lib.hid hab; clear hab
      go_wp2
      go_roundw
      case rel => exact ⟨k + 1, by omega, by go_num, by rw [List.take_succ_eq_append_getElem hlt, List.take_succ_eq_append_getElem hlt', HT.out, HAB.out], hb1⟩
      case measure => simp [intOf]; omega
    · rw [eqb_false hab]
      have HAB := Lib.hid hab; clear hab
      go_wp2
      go_ret
      exact ⟨_, rfl, congrArg _ (eqb_false fun h => HAB.out (by subst h; rfl)).symm, hb1⟩
end Go.Proofs.Ytjkbecgenjhaaaa
