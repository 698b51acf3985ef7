import Derived.Test.YtjkbecgenjhaaaaProg
import Derived.Test.YtjkbecgenjhaaaaData
namespace Go.Proofs.Ytjkbecgenjhaaaa
open Go.RowKit

set_option maxHeartbeats 400000 in
theorem szIntS_any (v : Value) (l : List Int) (left : Int) (w : World) (hl : Has RIntS w [v] l) (h0 : 0 ≤ left) (h1 : left ≤ 1048576) :
    Calls Try.prog 102 #[v, .int .i64 left] w (Post (SzPost left l.length w)) := by
  obtain ⟨ad, c, rfl, hc, hm⟩ := hl.len_slice
  unfold maxLen at hm
  go_enter Try.func102, Try.ntmps102
  go_wp2
  · go_ret
    exact ⟨_, rfl, congrArg _ (szr_lt (by omega)), Below.refl _ _⟩
  · go_ret
    exact ⟨_, rfl, congrArg _ (szr_ge (by omega)), Below.refl _ _⟩
set_option maxHeartbeats 400000 in
theorem szBigInt_any (c0 c1 : Value) (x : DBigInt) (left : Int) (w : World) (hx : Has RBigInt w [c0, c1] x) (h0 : 0 ≤ left) (h1 : left ≤ 1048576) :
    Calls Try.prog 101 #[.agg #[c0, c1], .int .i64 left] w (Post (SzPost left (tBigInt x) w)) := by
  obtain ⟨hx0, hx1⟩ := hx.split [c0] [c1] rfl
  have HX1 := Lib.hid hx1
  clear hx hx0 hx1
  go_enter Try.func101, Try.ntmps101
  have hb0 := (Below.refl w.heap.size w).alloc (Nat.le_refl _) (Obj.cells #[c0, c1] 40)
  go_wp2_with fail
  refine (szIntS_any _ _ _ _ (HX1.out.below hb0) h0 h1).mono ?_
  rintro e w1 ⟨v, rfl, rfl, hbx1⟩
  have hr1 := szr_lo left (x.2.length) h0
  have hb1 := Below.up hb0 hbx1 hb0.size
  go_wp2
  · go_ret
    exact ⟨_, rfl, congrArg _ (szr_fail (by assumption) (by unfold tBigInt; omega)), hb1⟩
  · go_ret
    exact ⟨_, rfl, rfl, hb1⟩
set_option maxHeartbeats 400000 in
theorem szRat_any (c0 c1 c2 : Value) (x : DRat) (left : Int) (w : World) (hx : Has RRat w [c0, c1, c2] x) (h0 : 0 ≤ left) (h1 : left ≤ 1048576) :
    Calls Try.prog 73 #[.agg #[c0, c1, c2], .int .i64 left] w (Post (SzPost left (tRat x) w)) := by
  obtain ⟨hx0, hx1⟩ := hx.split [c0, c1] [c2] rfl
  have HX0 := Lib.hid hx0
  have HX1 := Lib.hid hx1
  clear hx hx0 hx1
  go_enter Try.func73, Try.ntmps73
  have hb0 := (Below.refl w.heap.size w).alloc (Nat.le_refl _) (Obj.cells #[c0, c1, c2] 42)
  go_wp2_with fail
  refine (szBigInt_any _ _ _ _ _ (HX0.out.below hb0) h0 h1).mono ?_
  rintro e w1 ⟨v, rfl, rfl, hbx1⟩
  have hr1 := szr_lo left (tBigInt x.1) h0
  have hb1 := Below.up hb0 hbx1 hb0.size
  obtain ⟨hc1, hf1⟩ := bcell hbx1
  go_wp2_with fail
  · go_ret
    exact ⟨_, rfl, congrArg _ (szr_fail (by assumption) (by unfold tRat; omega)), hb1⟩
  · have hge1 : 0 ≤ szr left (tBigInt x.1) := by assumption
    refine (szIntS_any _ _ _ _ (HX1.out.below hb1) hge1 (by omega)).mono ?_
    rintro e w2 ⟨v, rfl, rfl, hbx2⟩
    rw [szr_add _ _ _ hge1]
    have hr2 := szr_lo left (tBigInt x.1 + x.2.length) h0
    have hb2 := Below.up hb1 hbx2 hb1.size
    go_wp2
    · go_ret
      exact ⟨_, rfl, congrArg _ (szr_fail (by assumption) (by unfold tRat; omega)), hb2⟩
    · go_ret
      exact ⟨_, rfl, rfl, hb2⟩
set_option maxHeartbeats 400000 in
theorem szPoint_any (c0 c1 c2 c3 c4 c5 : Value) (x : DPoint) (left : Int) (w : World) (hx : Has RPoint w [c0, c1, c2, c3, c4, c5] x) (h0 : 0 ≤ left) (h1 : left ≤ 1048576) :
    Calls Try.prog 43 #[.agg #[c0, c1, c2, c3, c4, c5], .int .i64 left] w (Post (SzPost left (tPoint x) w)) := by
  obtain ⟨hx0, hx1⟩ := hx.split [c0, c1, c2] [c3, c4, c5] rfl
  have HX0 := Lib.hid hx0
  have HX1 := Lib.hid hx1
  clear hx hx0 hx1
  go_enter Try.func43, Try.ntmps43
  have hb0 := (Below.refl w.heap.size w).alloc (Nat.le_refl _) (Obj.cells #[c0, c1, c2, c3, c4, c5] 44)
  go_wp2_with fail
  refine (szRat_any _ _ _ _ _ _ (HX0.out.below hb0) h0 h1).mono ?_
  rintro e w1 ⟨v, rfl, rfl, hbx1⟩
  have hr1 := szr_lo left (tRat x.1) h0
  have hb1 := Below.up hb0 hbx1 hb0.size
  obtain ⟨hc1, hf1⟩ := bcell hbx1
  go_wp2_with fail
  · go_ret
    exact ⟨_, rfl, congrArg _ (szr_fail (by assumption) (by unfold tPoint; omega)), hb1⟩
  · have hge1 : 0 ≤ szr left (tRat x.1) := by assumption
    refine (szRat_any _ _ _ _ _ _ (HX1.out.below hb1) hge1 (by omega)).mono ?_
    rintro e w2 ⟨v, rfl, rfl, hbx2⟩
    rw [szr_add _ _ _ hge1]
    have hr2 := szr_lo left (tRat x.1 + tRat x.2) h0
    have hb2 := Below.up hb1 hbx2 hb1.size
    go_wp2
    · go_ret
      exact ⟨_, rfl, congrArg _ (szr_fail (by assumption) (by unfold tPoint; omega)), hb2⟩
    · go_ret
      exact ⟨_, rfl, rfl, hb2⟩
set_option maxHeartbeats 400000 in
theorem szPlacement_any (c0 c1 c2 c3 c4 c5 c6 : Value) (x : DPlacement) (left : Int) (w : World) (hx : Has RPlacement w [c0, c1, c2, c3, c4, c5, c6] x) (h0 : 0 ≤ left) (h1 : left ≤ 1048576) :
    Calls Try.prog 26 #[.agg #[c0, c1, c2, c3, c4, c5, c6], .int .i64 left] w (Post (SzPost left (tPlacement x) w)) := by
  obtain ⟨hx0, hx1⟩ := hx.split [c0] [c1, c2, c3, c4, c5, c6] rfl
  have HX1 := Lib.hid hx1
  clear hx hx0 hx1
  go_enter Try.func26, Try.ntmps26
  have hb0 := (Below.refl w.heap.size w).alloc (Nat.le_refl _) (Obj.cells #[c0, c1, c2, c3, c4, c5, c6] 46)
  go_wp2_with fail
  refine (szPoint_any _ _ _ _ _ _ _ _ _ (HX1.out.below hb0) h0 h1).mono ?_
  rintro e w1 ⟨v, rfl, rfl, hbx1⟩
  have hr1 := szr_lo left (tPoint x.2) h0
  have hb1 := Below.up hb0 hbx1 hb0.size
  go_wp2
  · go_ret
    exact ⟨_, rfl, congrArg _ (szr_fail (by assumption) (by unfold tPlacement; omega)), hb1⟩
  · go_ret
    exact ⟨_, rfl, rfl, hb1⟩
set_option maxHeartbeats 400000 in
theorem szStep_any (c0 c1 c2 c3 c4 c5 c6 : Value) (x : DStep) (left : Int) (w : World) (hx : Has RStep w [c0, c1, c2, c3, c4, c5, c6] x) (h0 : 0 ≤ left) (h1 : left ≤ 1048576) :
    Calls Try.prog 52 #[.agg #[c0, c1, c2, c3, c4, c5, c6], .int .i64 left] w (Post (SzPost left (tStep x) w)) := by
  obtain ⟨hx0, hx1⟩ := hx.split [c0] [c1, c2, c3, c4, c5, c6] rfl
  have HX1 := Lib.hid hx1
  clear hx hx0 hx1
  go_enter Try.func52, Try.ntmps52
  have hb0 := (Below.refl w.heap.size w).alloc (Nat.le_refl _) (Obj.cells #[c0, c1, c2, c3, c4, c5, c6] 78)
  go_wp2_with fail
  refine (szPoint_any _ _ _ _ _ _ _ _ _ (HX1.out.below hb0) h0 h1).mono ?_
  rintro e w1 ⟨v, rfl, rfl, hbx1⟩
  have hr1 := szr_lo left (tPoint x.2) h0
  have hb1 := Below.up hb0 hbx1 hb0.size
  go_wp2
  · go_ret
    exact ⟨_, rfl, congrArg _ (szr_fail (by assumption) (by unfold tStep; omega)), hb1⟩
  · go_ret
    exact ⟨_, rfl, rfl, hb1⟩
set_option maxHeartbeats 400000 in
theorem szRatS_any (v : Value) (l : DRatS) (left : Int) (w : World) (hl : Has RRatS w [v] l) (h0 : 0 ≤ left) (h1 : left ≤ 1048576) :
    Calls Try.prog 34 #[v, .int .i64 left] w (Post (SzPost left (l.length + tRatS l) w)) := by
  obtain ⟨ad, c, rfl, hc, hm, hg⟩ := hl.elems
  unfold maxLen at hm
  have HG := Lib.hid hg; clear hg hl
  by_cases hlt : left - l.length < 0
  · go_enter Try.func34, Try.ntmps34
    go_wp2
    go_ret
    exact ⟨_, rfl, congrArg _ (szr_lt (by omega)), Below.refl _ _⟩
  · go_enter Try.func34, Try.ntmps34
    go_wp2
    go_loopw [1, 5] (fun n i wr => ∃ k : Nat, k ≤ l.length ∧ i = .int .i64 k ∧ 0 ≤ szr left (l.length + tRatS (l.take k)) ∧ n = .int .i64 (szr left (l.length + tRatS (l.take k))) ∧ Below w.heap.size w wr) (fun _ i _ => l.length - (intOf i).toNat)
    case atStart => exact ⟨0, Nat.zero_le _, rfl, by simp [tRatS, szr]; rw [if_pos (by omega)]; omega, congrArg _ (by simp [tRatS]; exact szr_ge (by omega)), Below.refl _ _⟩
    case round =>
      obtain ⟨k, hk, rfl, hle, rfl, hbw⟩ := hrel
      have hr0 := szr_lo left (l.length + tRatS (l.take k)) h0
      by_cases hkl : k < l.length
      · obtain ⟨b, off, cs, rfl, hbl, hx, hcs⟩ := HG.out k hkl
        obtain ⟨c0, c1, c2, rfl⟩ := list3 hx.len
        have HX := Lib.hid hx
        have hts : tRatS (l.take k) + tRat l[k] = tRatS (l.take (k + 1)) := by rw [List.take_succ_eq_append_getElem hkl, tRatS_snoc]
        have g0 : wr.cell? ⟨b, off + k * 3, none⟩ = some c0 := (hbw.cell (p := ⟨b, _, none⟩) hbl).trans (hcs 0 _ rfl)
        have g1 : wr.cell? ⟨b, off + k * 3 + 1, none⟩ = some c1 := (hbw.cell (p := ⟨b, _, none⟩) hbl).trans (hcs 1 _ rfl)
        have g2 : wr.cell? ⟨b, off + k * 3 + 2, none⟩ = some c2 := (hbw.cell (p := ⟨b, _, none⟩) hbl).trans (hcs 2 _ rfl)
        have HTS := Lib.hid hts
        clear hcs hx hts
        go_wp2_with fail
        refine (szRat_any _ _ _ _ _ _ (HX.out.below hbw) hle (by omega)).mono ?_
        rintro e w1 ⟨v, rfl, rfl, hbx⟩
        rw [szr_add _ _ _ hle, Nat.add_assoc, HTS.out]
        have hr := szr_lo left (l.length + tRatS (l.take (k + 1))) h0
        have hb1 := Below.up hbw hbx hbw.size
        go_wp2
        · go_ret
          exact ⟨_, rfl, congrArg _ (szr_fail (by assumption) (Nat.add_le_add_left (tRatS_take l (k + 1)) _)), hb1⟩
        · go_roundw
          case rel => exact ⟨k + 1, by omega, by go_num, by assumption, rfl, hb1⟩
          case measure => simp [intOf]; omega
      · obtain rfl : k = l.length := by omega
        rw [List.take_length]
        go_wp2
        go_ret
        exact ⟨_, rfl, rfl, hbw⟩
set_option maxHeartbeats 400000 in
theorem szStepS_any (v : Value) (l : DStepS) (left : Int) (w : World) (hl : Has RStepS w [v] l) (h0 : 0 ≤ left) (h1 : left ≤ 1048576) :
    Calls Try.prog 11 #[v, .int .i64 left] w (Post (SzPost left (l.length + tStepS l) w)) := by
  obtain ⟨ad, c, rfl, hc, hm, hg⟩ := hl.elems
  unfold maxLen at hm
  have HG := Lib.hid hg; clear hg hl
  by_cases hlt : left - l.length < 0
  · go_enter Try.func11, Try.ntmps11
    go_wp2
    go_ret
    exact ⟨_, rfl, congrArg _ (szr_lt (by omega)), Below.refl _ _⟩
  · go_enter Try.func11, Try.ntmps11
    go_wp2
    go_loopw [1, 5] (fun n i wr => ∃ k : Nat, k ≤ l.length ∧ i = .int .i64 k ∧ 0 ≤ szr left (l.length + tStepS (l.take k)) ∧ n = .int .i64 (szr left (l.length + tStepS (l.take k))) ∧ Below w.heap.size w wr) (fun _ i _ => l.length - (intOf i).toNat)
    case atStart => exact ⟨0, Nat.zero_le _, rfl, by simp [tStepS, szr]; rw [if_pos (by omega)]; omega, congrArg _ (by simp [tStepS]; exact szr_ge (by omega)), Below.refl _ _⟩
    case round =>
      obtain ⟨k, hk, rfl, hle, rfl, hbw⟩ := hrel
      have hr0 := szr_lo left (l.length + tStepS (l.take k)) h0
      by_cases hkl : k < l.length
      · obtain ⟨b, off, cs, rfl, hbl, hx, hcs⟩ := HG.out k hkl
        obtain ⟨c0, c1, c2, c3, c4, c5, c6, rfl⟩ := list7 hx.len
        have HX := Lib.hid hx
        have hts : tStepS (l.take k) + tStep l[k] = tStepS (l.take (k + 1)) := by rw [List.take_succ_eq_append_getElem hkl, tStepS_snoc]
        have g0 : wr.cell? ⟨b, off + k * 7, none⟩ = some c0 := (hbw.cell (p := ⟨b, _, none⟩) hbl).trans (hcs 0 _ rfl)
        have g1 : wr.cell? ⟨b, off + k * 7 + 1, none⟩ = some c1 := (hbw.cell (p := ⟨b, _, none⟩) hbl).trans (hcs 1 _ rfl)
        have g2 : wr.cell? ⟨b, off + k * 7 + 2, none⟩ = some c2 := (hbw.cell (p := ⟨b, _, none⟩) hbl).trans (hcs 2 _ rfl)
        have g3 : wr.cell? ⟨b, off + k * 7 + 3, none⟩ = some c3 := (hbw.cell (p := ⟨b, _, none⟩) hbl).trans (hcs 3 _ rfl)
        have g4 : wr.cell? ⟨b, off + k * 7 + 4, none⟩ = some c4 := (hbw.cell (p := ⟨b, _, none⟩) hbl).trans (hcs 4 _ rfl)
        have g5 : wr.cell? ⟨b, off + k * 7 + 5, none⟩ = some c5 := (hbw.cell (p := ⟨b, _, none⟩) hbl).trans (hcs 5 _ rfl)
        have g6 : wr.cell? ⟨b, off + k * 7 + 6, none⟩ = some c6 := (hbw.cell (p := ⟨b, _, none⟩) hbl).trans (hcs 6 _ rfl)
        have HTS := Lib.hid hts
        clear hcs hx hts
        go_wp2_with fail
        refine (szStep_any _ _ _ _ _ _ _ _ _ _ (HX.out.below hbw) hle (by omega)).mono ?_
        rintro e w1 ⟨v, rfl, rfl, hbx⟩
        rw [szr_add _ _ _ hle, Nat.add_assoc, HTS.out]
        have hr := szr_lo left (l.length + tStepS (l.take (k + 1))) h0
        have hb1 := Below.up hbw hbx hbw.size
        go_wp2
        · go_ret
          exact ⟨_, rfl, congrArg _ (szr_fail (by assumption) (Nat.add_le_add_left (tStepS_take l (k + 1)) _)), hb1⟩
        · go_roundw
          case rel => exact ⟨k + 1, by omega, by go_num, by assumption, rfl, hb1⟩
          case measure => simp [intOf]; omega
      · obtain rfl : k = l.length := by omega
        rw [List.take_length]
        go_wp2
        go_ret
        exact ⟨_, rfl, rfl, hbw⟩
end Go.Proofs.Ytjkbecgenjhaaaa
