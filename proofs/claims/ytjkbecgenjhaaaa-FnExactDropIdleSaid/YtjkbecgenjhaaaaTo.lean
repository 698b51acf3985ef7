import Derived.Test.YtjkbecgenjhaaaaProg
import Derived.Test.YtjkbecgenjhaaaaData
namespace Go.Proofs.Ytjkbecgenjhaaaa
open Go.RowKit

theorem infoint : (Try.prog.info? 3).map (fun i => (i.zero, i.size, i.bytes)) = some (some (.int .i64 0), 1, 8) := by kernel_rfl
set_option maxRecDepth 100000 in
set_option maxHeartbeats 400000 in
theorem toIntS_any (v : Value) (l : DIntS) (w : World) (hl : Has RIntS w [v] l) (hs : l.length ≤ 1048576) :
    Calls Try.prog 19 #[v] w (Post (Own1Post RIntS l w)) := by
  obtain ⟨ad, c, rfl, hc, hm, hg⟩ := hl.elems
  unfold maxLen at hm
  have HG := Lib.hid hg; clear hg hl
  have hln : l.length ≤ 1048576 := by omega
  obtain ⟨i0, hi, hz0, hz1, hz2⟩ := info_parts infoint
  go_enter Try.func19, Try.ntmps19
  go_wp2_with (at_make; refine wpList_make_full _ rfl _ _ 30 rfl w.heap.size 3 i0 _ 1 Try.underlying30 hi hz0 hz1 _ _ _ _ l.length rfl rfl rfl rfl (by rw [hz2]; omega) (by unfold maxLen; omega) (Nat.le_refl _) ?_)
  intro w1 hown hgrow
  have hb0 : Below w.heap.size w w1 := (Below.refl _ _).grown hgrow (Nat.le_refl _) (by simp)
  have HM0 := Lib.hid (Made.start (A := Rp.int) hown); clear hown hgrow hi hz0 hz1 hz2
  go_wp2
  go_loopw [4] (fun i wr => ∃ k : Nat, k ≤ l.length ∧ i = .int .i64 k ∧ Made Rp.int wr w.heap.size l.length 3 (l.take k) ∧ Below w.heap.size w wr) (fun i _ => l.length - (intOf i).toNat)
  case atStart => exact ⟨0, Nat.zero_le _, rfl, HM0.out, hb0⟩
  case round =>
    obtain ⟨k, hk, rfl, hM, hbw⟩ := hrel
    have HM := Lib.hid hM; clear hM
    by_cases hkl : k < l.length
    rotate_left
    · obtain rfl : k = l.length := by omega
      go_wp2
      go_ret
      have h := HM.out
      rw [List.take_length] at h
      exact ⟨_, rfl, h.own rfl (by unfold maxLen; omega) (Nat.le_refl _), hbw⟩
    have hgl : w.heap.size < wr.heap.size := HM.out.lt
    obtain ⟨b, off, cs, rfl, hbl, hx, hcs⟩ := HG.out k hkl
    obtain ⟨c0, rfl⟩ := list1 hx.len
    have hI := hx.int.2
    obtain rfl := hx.int.1
    have g0 : wr.cell? ⟨b, off + k, none⟩ = some (.int .i64 l[k]) := (hbw.cell (p := ⟨b, _, none⟩) hbl).trans (by simpa [Rp.int] using hcs 0 _ rfl)
    obtain ⟨y0, hy0⟩ := HM.out.cell k (by simp [Rp.int]; omega)
    have hfz := HM.out.frozen
    have HI := Lib.hid hI
    clear hcs hx hI
    go_wp2
    go_roundw
    case rel =>
      have hst := HM.out.step (Below.refl _ _) (Own.int wr.heap.size wr HI.out) (by rw [List.length_take]; omega)
      rw [← List.take_succ_eq_append_getElem hkl, List.length_take, Nat.min_eq_left hk] at hst
      exact ⟨k + 1, by omega, by go_num, by simpa [Rp.int, putCells] using hst, hbw.setCell (p := ⟨w.heap.size, k, none⟩) (Nat.le_refl _) _⟩
    case measure => simp [intOf]; omega
set_option maxRecDepth 100000 in
set_option maxHeartbeats 400000 in
theorem toBigInt_any (c0 c1 : Value) (x : DBigInt) (w : World) (hx : Has RBigInt w [c0, c1] x) (hs : tBigInt x ≤ 1048576) :
    Calls Try.prog 108 #[.agg #[c0, c1]] w (Post (OwnPost RBigInt x w)) := by
  obtain ⟨hx0, hx1⟩ := hx.split [c0] [c1] rfl
  obtain rfl := hx0.bool
  have HX1 := Lib.hid hx1
  clear hx hx0 hx1
  have HS := Lib.hid hs; clear hs
  go_enter Try.func108, Try.ntmps108
  go_wp2_with fail
  refine (toIntS_any _ _ _ (HX1.out.below ((((Below.refl w.heap.size w).alloc (Nat.le_refl _) _).alloc (by simp <;> omega) _).alloc (by simp <;> omega) _)) (by have := HS.out; unfold tBigInt at this; omega)).mono ?_
  rintro e w1 ⟨v1, rfl, ho1, hbx1⟩
  obtain ⟨ad1, cap1, rfl, _, _⟩ := ho1.has.len_slice
  simp only [World.size_alloc] at ho1
  have HO1_1 := Lib.hid ho1.inn; clear ho1
  have hb1 := Below.up ((((Below.refl w.heap.size w).alloc (Nat.le_refl _) _).alloc (by simp <;> omega) _).alloc (by simp <;> omega) _) hbx1 (by simp <;> omega)
  have hz1 := hbx1.size
  simp at hz1
  have q1_0 : w.heap.size < w1.heap.size := by omega
  have q1_1 : w.heap.size + 1 < w1.heap.size := by omega
  have q1_2 : w.heap.size + 1 + 1 < w1.heap.size := by omega
  obtain ⟨hc1, hf1⟩ := bcell hbx1
  go_wp2
  refine bodyPost_ret (v := .agg #[(Value.bool x.1), (Value.slice ad1 (x.2).length cap1)]) (by simp [results, Try.results108, go_sem, hc1]) rfl ⟨_, rfl, ⟨[(Value.bool x.1), (Value.slice ad1 (x.2).length cap1)], rfl, ?_⟩, ?_⟩
  · have G1 := (((HO1_1.out.setCell (p := ⟨w.heap.size + 1 + 1, 1, none⟩) (.inl (by simp <;> omega)) (Value.slice ad1 (x.2).length cap1)).setCell (p := ⟨w.heap.size + 1, 0, none⟩) (.inl (by simp <;> omega)) (Value.bool x.1)).setCell (p := ⟨w.heap.size + 1, 1, none⟩) (.inl (by simp <;> omega)) (Value.slice ad1 (x.2).length cap1))
    exact OwnIn.own (OwnIn.pair (OwnIn.bool (w.heap.size + 1 + 1 + 1) _ x.1) G1 (by omega) (by omega) (by omega)) (by omega)
  · exact (((hb1.setCell (p := ⟨w.heap.size + 1 + 1, 1, none⟩) (by simp <;> omega) (Value.slice ad1 (x.2).length cap1)).setCell (p := ⟨w.heap.size + 1, 0, none⟩) (by simp <;> omega) (Value.bool x.1)).setCell (p := ⟨w.heap.size + 1, 1, none⟩) (by simp <;> omega) (Value.slice ad1 (x.2).length cap1))
set_option maxRecDepth 100000 in
set_option maxHeartbeats 400000 in
theorem toRat_any (c0 c1 c2 : Value) (x : DRat) (w : World) (hx : Has RRat w [c0, c1, c2] x) (hs : tRat x ≤ 1048576) :
    Calls Try.prog 76 #[.agg #[c0, c1, c2]] w (Post (OwnPost RRat x w)) := by
  obtain ⟨hx0, hx1⟩ := hx.split [c0, c1] [c2] rfl
  have HX0 := Lib.hid hx0
  have HX1 := Lib.hid hx1
  clear hx hx0 hx1
  have HS := Lib.hid hs; clear hs
  go_enter Try.func76, Try.ntmps76
  go_wp2_with fail
  refine (toBigInt_any _ _ _ _ (HX0.out.below ((((Below.refl w.heap.size w).alloc (Nat.le_refl _) _).alloc (by simp <;> omega) _).alloc (by simp <;> omega) _)) (by have := HS.out; unfold tRat at this; omega)).mono ?_
  rintro e w1 ⟨v1, rfl, ⟨cs1, rfl, ho1⟩, hbx1⟩
  obtain ⟨v1_0, v1_1, rfl⟩ := list2 ho1.has.len
  have ov1_0 := ho1.has.one 0 _ rfl
  have ov1_1 := ho1.has.one 1 _ rfl
  simp only [World.size_alloc] at ho1
  have HO1_1 := Lib.hid ho1.inn; clear ho1
  have hb1 := Below.up ((((Below.refl w.heap.size w).alloc (Nat.le_refl _) _).alloc (by simp <;> omega) _).alloc (by simp <;> omega) _) hbx1 (by simp <;> omega)
  have hz1 := hbx1.size
  simp at hz1
  have q1_0 : w.heap.size < w1.heap.size := by omega
  have q1_1 : w.heap.size + 1 < w1.heap.size := by omega
  have q1_2 : w.heap.size + 1 + 1 < w1.heap.size := by omega
  obtain ⟨hc1, hf1⟩ := bcell hbx1
  go_wp2_with fail
  have hbs1 := ((hb1.setCell (p := ⟨w.heap.size + 1 + 1, 0, none⟩) (by simp <;> omega) v1_0).setCell (p := ⟨w.heap.size + 1 + 1, 1, none⟩) (by simp <;> omega) v1_1)
  have HOs1_1 := ((HO1_1.out.setCell (p := ⟨w.heap.size + 1 + 1, 0, none⟩) (.inl (by simp <;> omega)) v1_0).setCell (p := ⟨w.heap.size + 1 + 1, 1, none⟩) (.inl (by simp <;> omega)) v1_1)
  refine (toIntS_any _ _ _ (HX1.out.below hbs1) (by have := HS.out; unfold tRat at this; omega)).mono ?_
  rintro e w2 ⟨v2, rfl, ho2, hbx2⟩
  obtain ⟨ad2, cap2, rfl, _, _⟩ := ho2.has.len_slice
  simp only [World.size_setCell] at ho2
  have HO2_2 := Lib.hid ho2.inn; clear ho2
  have hb2 := Below.up hbs1 hbx2 (by simp <;> omega)
  have hz2 := hbx2.size
  simp at hz2
  have q2_0 : w.heap.size < w2.heap.size := by omega
  have q2_1 : w.heap.size + 1 < w2.heap.size := by omega
  have q2_2 : w.heap.size + 1 + 1 < w2.heap.size := by omega
  have HO1_2 := Lib.hid (HOs1_1.below hbx2 (by simp)); clear HOs1_1 HO1_1
  obtain ⟨hc2, hf2⟩ := bcell hbx2
  go_wp2
  refine bodyPost_ret (v := .agg #[v1_0, v1_1, (Value.slice ad2 (x.2).length cap2)]) (by simp [results, Try.results76, go_sem, hc1, hc2, q1_1]) rfl ⟨_, rfl, ⟨[v1_0, v1_1, (Value.slice ad2 (x.2).length cap2)], rfl, ?_⟩, ?_⟩
  · have G1 := ((((HO1_2.out.setCell (p := ⟨w.heap.size + 1 + 1, 2, none⟩) (.inl (by simp <;> omega)) (Value.slice ad2 (x.2).length cap2)).setCell (p := ⟨w.heap.size + 1, 0, none⟩) (.inl (by simp <;> omega)) v1_0).setCell (p := ⟨w.heap.size + 1, 1, none⟩) (.inl (by simp <;> omega)) v1_1).setCell (p := ⟨w.heap.size + 1, 2, none⟩) (.inl (by simp <;> omega)) (Value.slice ad2 (x.2).length cap2))
    have G2 := ((((HO2_2.out.setCell (p := ⟨w.heap.size + 1 + 1, 2, none⟩) (.inl (by simp <;> omega)) (Value.slice ad2 (x.2).length cap2)).setCell (p := ⟨w.heap.size + 1, 0, none⟩) (.inl (by simp <;> omega)) v1_0).setCell (p := ⟨w.heap.size + 1, 1, none⟩) (.inl (by simp <;> omega)) v1_1).setCell (p := ⟨w.heap.size + 1, 2, none⟩) (.inl (by simp <;> omega)) (Value.slice ad2 (x.2).length cap2))
    exact OwnIn.own (OwnIn.pair G1 G2 (by omega) (by omega) (by omega)) (by omega)
  · exact ((((hb2.setCell (p := ⟨w.heap.size + 1 + 1, 2, none⟩) (by simp <;> omega) (Value.slice ad2 (x.2).length cap2)).setCell (p := ⟨w.heap.size + 1, 0, none⟩) (by simp <;> omega) v1_0).setCell (p := ⟨w.heap.size + 1, 1, none⟩) (by simp <;> omega) v1_1).setCell (p := ⟨w.heap.size + 1, 2, none⟩) (by simp <;> omega) (Value.slice ad2 (x.2).length cap2))
set_option maxRecDepth 100000 in
set_option maxHeartbeats 400000 in
theorem toPoint_any (c0 c1 c2 c3 c4 c5 : Value) (x : DPoint) (w : World) (hx : Has RPoint w [c0, c1, c2, c3, c4, c5] x) (hs : tPoint x ≤ 1048576) :
    Calls Try.prog 45 #[.agg #[c0, c1, c2, c3, c4, c5]] w (Post (OwnPost RPoint x w)) := by
  obtain ⟨hx0, hx1⟩ := hx.split [c0, c1, c2] [c3, c4, c5] rfl
  have HX0 := Lib.hid hx0
  have HX1 := Lib.hid hx1
  clear hx hx0 hx1
  have HS := Lib.hid hs; clear hs
  go_enter Try.func45, Try.ntmps45
  go_wp2_with fail
  refine (toRat_any _ _ _ _ _ (HX0.out.below ((((Below.refl w.heap.size w).alloc (Nat.le_refl _) _).alloc (by simp <;> omega) _).alloc (by simp <;> omega) _)) (by have := HS.out; unfold tPoint at this; omega)).mono ?_
  rintro e w1 ⟨v1, rfl, ⟨cs1, rfl, ho1⟩, hbx1⟩
  obtain ⟨v1_0, v1_1, v1_2, rfl⟩ := list3 ho1.has.len
  have ov1_0 := ho1.has.one 0 _ rfl
  have ov1_1 := ho1.has.one 1 _ rfl
  have ov1_2 := ho1.has.one 2 _ rfl
  simp only [World.size_alloc] at ho1
  have HO1_1 := Lib.hid ho1.inn; clear ho1
  have hb1 := Below.up ((((Below.refl w.heap.size w).alloc (Nat.le_refl _) _).alloc (by simp <;> omega) _).alloc (by simp <;> omega) _) hbx1 (by simp <;> omega)
  have hz1 := hbx1.size
  simp at hz1
  have q1_0 : w.heap.size < w1.heap.size := by omega
  have q1_1 : w.heap.size + 1 < w1.heap.size := by omega
  have q1_2 : w.heap.size + 1 + 1 < w1.heap.size := by omega
  obtain ⟨hc1, hf1⟩ := bcell hbx1
  go_wp2_with fail
  have hbs1 := (((hb1.setCell (p := ⟨w.heap.size + 1 + 1, 0, none⟩) (by simp <;> omega) v1_0).setCell (p := ⟨w.heap.size + 1 + 1, 1, none⟩) (by simp <;> omega) v1_1).setCell (p := ⟨w.heap.size + 1 + 1, 2, none⟩) (by simp <;> omega) v1_2)
  have HOs1_1 := (((HO1_1.out.setCell (p := ⟨w.heap.size + 1 + 1, 0, none⟩) (.inl (by simp <;> omega)) v1_0).setCell (p := ⟨w.heap.size + 1 + 1, 1, none⟩) (.inl (by simp <;> omega)) v1_1).setCell (p := ⟨w.heap.size + 1 + 1, 2, none⟩) (.inl (by simp <;> omega)) v1_2)
  refine (toRat_any _ _ _ _ _ (HX1.out.below hbs1) (by have := HS.out; unfold tPoint at this; omega)).mono ?_
  rintro e w2 ⟨v2, rfl, ⟨cs2, rfl, ho2⟩, hbx2⟩
  obtain ⟨v2_0, v2_1, v2_2, rfl⟩ := list3 ho2.has.len
  have ov2_0 := ho2.has.one 0 _ rfl
  have ov2_1 := ho2.has.one 1 _ rfl
  have ov2_2 := ho2.has.one 2 _ rfl
  simp only [World.size_setCell] at ho2
  have HO2_2 := Lib.hid ho2.inn; clear ho2
  have hb2 := Below.up hbs1 hbx2 (by simp <;> omega)
  have hz2 := hbx2.size
  simp at hz2
  have q2_0 : w.heap.size < w2.heap.size := by omega
  have q2_1 : w.heap.size + 1 < w2.heap.size := by omega
  have q2_2 : w.heap.size + 1 + 1 < w2.heap.size := by omega
  have HO1_2 := Lib.hid (HOs1_1.below hbx2 (by simp)); clear HOs1_1 HO1_1
  obtain ⟨hc2, hf2⟩ := bcell hbx2
  go_wp2
  refine bodyPost_ret (v := .agg #[v1_0, v1_1, v1_2, v2_0, v2_1, v2_2]) (by simp [results, Try.results45, go_sem, hc1, hc2, q1_1]) rfl ⟨_, rfl, ⟨[v1_0, v1_1, v1_2, v2_0, v2_1, v2_2], rfl, ?_⟩, ?_⟩
  · have G1 := (((((((((HO1_2.out.setCell (p := ⟨w.heap.size + 1 + 1, 3, none⟩) (.inl (by simp <;> omega)) v2_0).setCell (p := ⟨w.heap.size + 1 + 1, 4, none⟩) (.inl (by simp <;> omega)) v2_1).setCell (p := ⟨w.heap.size + 1 + 1, 5, none⟩) (.inl (by simp <;> omega)) v2_2).setCell (p := ⟨w.heap.size + 1, 0, none⟩) (.inl (by simp <;> omega)) v1_0).setCell (p := ⟨w.heap.size + 1, 1, none⟩) (.inl (by simp <;> omega)) v1_1).setCell (p := ⟨w.heap.size + 1, 2, none⟩) (.inl (by simp <;> omega)) v1_2).setCell (p := ⟨w.heap.size + 1, 3, none⟩) (.inl (by simp <;> omega)) v2_0).setCell (p := ⟨w.heap.size + 1, 4, none⟩) (.inl (by simp <;> omega)) v2_1).setCell (p := ⟨w.heap.size + 1, 5, none⟩) (.inl (by simp <;> omega)) v2_2)
    have G2 := (((((((((HO2_2.out.setCell (p := ⟨w.heap.size + 1 + 1, 3, none⟩) (.inl (by simp <;> omega)) v2_0).setCell (p := ⟨w.heap.size + 1 + 1, 4, none⟩) (.inl (by simp <;> omega)) v2_1).setCell (p := ⟨w.heap.size + 1 + 1, 5, none⟩) (.inl (by simp <;> omega)) v2_2).setCell (p := ⟨w.heap.size + 1, 0, none⟩) (.inl (by simp <;> omega)) v1_0).setCell (p := ⟨w.heap.size + 1, 1, none⟩) (.inl (by simp <;> omega)) v1_1).setCell (p := ⟨w.heap.size + 1, 2, none⟩) (.inl (by simp <;> omega)) v1_2).setCell (p := ⟨w.heap.size + 1, 3, none⟩) (.inl (by simp <;> omega)) v2_0).setCell (p := ⟨w.heap.size + 1, 4, none⟩) (.inl (by simp <;> omega)) v2_1).setCell (p := ⟨w.heap.size + 1, 5, none⟩) (.inl (by simp <;> omega)) v2_2)
    exact OwnIn.own (OwnIn.pair G1 G2 (by omega) (by omega) (by omega)) (by omega)
  · exact (((((((((hb2.setCell (p := ⟨w.heap.size + 1 + 1, 3, none⟩) (by simp <;> omega) v2_0).setCell (p := ⟨w.heap.size + 1 + 1, 4, none⟩) (by simp <;> omega) v2_1).setCell (p := ⟨w.heap.size + 1 + 1, 5, none⟩) (by simp <;> omega) v2_2).setCell (p := ⟨w.heap.size + 1, 0, none⟩) (by simp <;> omega) v1_0).setCell (p := ⟨w.heap.size + 1, 1, none⟩) (by simp <;> omega) v1_1).setCell (p := ⟨w.heap.size + 1, 2, none⟩) (by simp <;> omega) v1_2).setCell (p := ⟨w.heap.size + 1, 3, none⟩) (by simp <;> omega) v2_0).setCell (p := ⟨w.heap.size + 1, 4, none⟩) (by simp <;> omega) v2_1).setCell (p := ⟨w.heap.size + 1, 5, none⟩) (by simp <;> omega) v2_2)
set_option maxRecDepth 100000 in
set_option maxHeartbeats 400000 in
theorem toPlacement_any (c0 c1 c2 c3 c4 c5 c6 : Value) (x : DPlacement) (w : World) (hx : Has RPlacement w [c0, c1, c2, c3, c4, c5, c6] x) (hs : tPlacement x ≤ 1048576) :
    Calls Try.prog 28 #[.agg #[c0, c1, c2, c3, c4, c5, c6]] w (Post (OwnPost RPlacement x w)) := by
  obtain ⟨hx0, hx1⟩ := hx.split [c0] [c1, c2, c3, c4, c5, c6] rfl
  have hI0 := hx0.int.2
  obtain rfl := hx0.int.1
  have HI0 := Lib.hid hI0; clear hI0
  have HX1 := Lib.hid hx1
  clear hx hx0 hx1
  have HS := Lib.hid hs; clear hs
  go_enter Try.func28, Try.ntmps28
  go_wp2_with fail
  refine (toPoint_any _ _ _ _ _ _ _ _ (HX1.out.below ((((Below.refl w.heap.size w).alloc (Nat.le_refl _) _).alloc (by simp <;> omega) _).alloc (by simp <;> omega) _)) (by have := HS.out; unfold tPlacement at this; omega)).mono ?_
  rintro e w1 ⟨v1, rfl, ⟨cs1, rfl, ho1⟩, hbx1⟩
  obtain ⟨v1_0, v1_1, v1_2, v1_3, v1_4, v1_5, rfl⟩ := list6 ho1.has.len
  have ov1_0 := ho1.has.one 0 _ rfl
  have ov1_1 := ho1.has.one 1 _ rfl
  have ov1_2 := ho1.has.one 2 _ rfl
  have ov1_3 := ho1.has.one 3 _ rfl
  have ov1_4 := ho1.has.one 4 _ rfl
  have ov1_5 := ho1.has.one 5 _ rfl
  simp only [World.size_alloc] at ho1
  have HO1_1 := Lib.hid ho1.inn; clear ho1
  have hb1 := Below.up ((((Below.refl w.heap.size w).alloc (Nat.le_refl _) _).alloc (by simp <;> omega) _).alloc (by simp <;> omega) _) hbx1 (by simp <;> omega)
  have hz1 := hbx1.size
  simp at hz1
  have q1_0 : w.heap.size < w1.heap.size := by omega
  have q1_1 : w.heap.size + 1 < w1.heap.size := by omega
  have q1_2 : w.heap.size + 1 + 1 < w1.heap.size := by omega
  obtain ⟨hc1, hf1⟩ := bcell hbx1
  go_wp2
  refine bodyPost_ret (v := .agg #[(Value.int .i64 x.1), v1_0, v1_1, v1_2, v1_3, v1_4, v1_5]) (by simp [results, Try.results28, go_sem, hc1]) rfl ⟨_, rfl, ⟨[(Value.int .i64 x.1), v1_0, v1_1, v1_2, v1_3, v1_4, v1_5], rfl, ?_⟩, ?_⟩
  · have G1 := (((((((((((((HO1_1.out.setCell (p := ⟨w.heap.size + 1 + 1, 1, none⟩) (.inl (by simp <;> omega)) v1_0).setCell (p := ⟨w.heap.size + 1 + 1, 2, none⟩) (.inl (by simp <;> omega)) v1_1).setCell (p := ⟨w.heap.size + 1 + 1, 3, none⟩) (.inl (by simp <;> omega)) v1_2).setCell (p := ⟨w.heap.size + 1 + 1, 4, none⟩) (.inl (by simp <;> omega)) v1_3).setCell (p := ⟨w.heap.size + 1 + 1, 5, none⟩) (.inl (by simp <;> omega)) v1_4).setCell (p := ⟨w.heap.size + 1 + 1, 6, none⟩) (.inl (by simp <;> omega)) v1_5).setCell (p := ⟨w.heap.size + 1, 0, none⟩) (.inl (by simp <;> omega)) (Value.int .i64 x.1)).setCell (p := ⟨w.heap.size + 1, 1, none⟩) (.inl (by simp <;> omega)) v1_0).setCell (p := ⟨w.heap.size + 1, 2, none⟩) (.inl (by simp <;> omega)) v1_1).setCell (p := ⟨w.heap.size + 1, 3, none⟩) (.inl (by simp <;> omega)) v1_2).setCell (p := ⟨w.heap.size + 1, 4, none⟩) (.inl (by simp <;> omega)) v1_3).setCell (p := ⟨w.heap.size + 1, 5, none⟩) (.inl (by simp <;> omega)) v1_4).setCell (p := ⟨w.heap.size + 1, 6, none⟩) (.inl (by simp <;> omega)) v1_5)
    exact OwnIn.own (OwnIn.pair (OwnIn.int (w.heap.size + 1 + 1 + 1) _ HI0.out) G1 (by omega) (by omega) (by omega)) (by omega)
  · exact (((((((((((((hb1.setCell (p := ⟨w.heap.size + 1 + 1, 1, none⟩) (by simp <;> omega) v1_0).setCell (p := ⟨w.heap.size + 1 + 1, 2, none⟩) (by simp <;> omega) v1_1).setCell (p := ⟨w.heap.size + 1 + 1, 3, none⟩) (by simp <;> omega) v1_2).setCell (p := ⟨w.heap.size + 1 + 1, 4, none⟩) (by simp <;> omega) v1_3).setCell (p := ⟨w.heap.size + 1 + 1, 5, none⟩) (by simp <;> omega) v1_4).setCell (p := ⟨w.heap.size + 1 + 1, 6, none⟩) (by simp <;> omega) v1_5).setCell (p := ⟨w.heap.size + 1, 0, none⟩) (by simp <;> omega) (Value.int .i64 x.1)).setCell (p := ⟨w.heap.size + 1, 1, none⟩) (by simp <;> omega) v1_0).setCell (p := ⟨w.heap.size + 1, 2, none⟩) (by simp <;> omega) v1_1).setCell (p := ⟨w.heap.size + 1, 3, none⟩) (by simp <;> omega) v1_2).setCell (p := ⟨w.heap.size + 1, 4, none⟩) (by simp <;> omega) v1_3).setCell (p := ⟨w.heap.size + 1, 5, none⟩) (by simp <;> omega) v1_4).setCell (p := ⟨w.heap.size + 1, 6, none⟩) (by simp <;> omega) v1_5)
set_option maxRecDepth 100000 in
set_option maxHeartbeats 400000 in
theorem toStep_any (c0 c1 c2 c3 c4 c5 c6 : Value) (x : DStep) (w : World) (hx : Has RStep w [c0, c1, c2, c3, c4, c5, c6] x) (hs : tStep x ≤ 1048576) :
    Calls Try.prog 53 #[.agg #[c0, c1, c2, c3, c4, c5, c6]] w (Post (OwnPost RStep x w)) := by
  obtain ⟨hx0, hx1⟩ := hx.split [c0] [c1, c2, c3, c4, c5, c6] rfl
  have hI0 := hx0.int.2
  obtain rfl := hx0.int.1
  have HI0 := Lib.hid hI0; clear hI0
  have HX1 := Lib.hid hx1
  clear hx hx0 hx1
  have HS := Lib.hid hs; clear hs
  go_enter Try.func53, Try.ntmps53
  go_wp2_with fail
  refine (toPoint_any _ _ _ _ _ _ _ _ (HX1.out.below ((((Below.refl w.heap.size w).alloc (Nat.le_refl _) _).alloc (by simp <;> omega) _).alloc (by simp <;> omega) _)) (by have := HS.out; unfold tStep at this; omega)).mono ?_
  rintro e w1 ⟨v1, rfl, ⟨cs1, rfl, ho1⟩, hbx1⟩
  obtain ⟨v1_0, v1_1, v1_2, v1_3, v1_4, v1_5, rfl⟩ := list6 ho1.has.len
  have ov1_0 := ho1.has.one 0 _ rfl
  have ov1_1 := ho1.has.one 1 _ rfl
  have ov1_2 := ho1.has.one 2 _ rfl
  have ov1_3 := ho1.has.one 3 _ rfl
  have ov1_4 := ho1.has.one 4 _ rfl
  have ov1_5 := ho1.has.one 5 _ rfl
  simp only [World.size_alloc] at ho1
  have HO1_1 := Lib.hid ho1.inn; clear ho1
  have hb1 := Below.up ((((Below.refl w.heap.size w).alloc (Nat.le_refl _) _).alloc (by simp <;> omega) _).alloc (by simp <;> omega) _) hbx1 (by simp <;> omega)
  have hz1 := hbx1.size
  simp at hz1
  have q1_0 : w.heap.size < w1.heap.size := by omega
  have q1_1 : w.heap.size + 1 < w1.heap.size := by omega
  have q1_2 : w.heap.size + 1 + 1 < w1.heap.size := by omega
  obtain ⟨hc1, hf1⟩ := bcell hbx1
  go_wp2
  refine bodyPost_ret (v := .agg #[(Value.int .i64 x.1), v1_0, v1_1, v1_2, v1_3, v1_4, v1_5]) (by simp [results, Try.results53, go_sem, hc1]) rfl ⟨_, rfl, ⟨[(Value.int .i64 x.1), v1_0, v1_1, v1_2, v1_3, v1_4, v1_5], rfl, ?_⟩, ?_⟩
  · have G1 := (((((((((((((HO1_1.out.setCell (p := ⟨w.heap.size + 1 + 1, 1, none⟩) (.inl (by simp <;> omega)) v1_0).setCell (p := ⟨w.heap.size + 1 + 1, 2, none⟩) (.inl (by simp <;> omega)) v1_1).setCell (p := ⟨w.heap.size + 1 + 1, 3, none⟩) (.inl (by simp <;> omega)) v1_2).setCell (p := ⟨w.heap.size + 1 + 1, 4, none⟩) (.inl (by simp <;> omega)) v1_3).setCell (p := ⟨w.heap.size + 1 + 1, 5, none⟩) (.inl (by simp <;> omega)) v1_4).setCell (p := ⟨w.heap.size + 1 + 1, 6, none⟩) (.inl (by simp <;> omega)) v1_5).setCell (p := ⟨w.heap.size + 1, 0, none⟩) (.inl (by simp <;> omega)) (Value.int .i64 x.1)).setCell (p := ⟨w.heap.size + 1, 1, none⟩) (.inl (by simp <;> omega)) v1_0).setCell (p := ⟨w.heap.size + 1, 2, none⟩) (.inl (by simp <;> omega)) v1_1).setCell (p := ⟨w.heap.size + 1, 3, none⟩) (.inl (by simp <;> omega)) v1_2).setCell (p := ⟨w.heap.size + 1, 4, none⟩) (.inl (by simp <;> omega)) v1_3).setCell (p := ⟨w.heap.size + 1, 5, none⟩) (.inl (by simp <;> omega)) v1_4).setCell (p := ⟨w.heap.size + 1, 6, none⟩) (.inl (by simp <;> omega)) v1_5)
    exact OwnIn.own (OwnIn.pair (OwnIn.int (w.heap.size + 1 + 1 + 1) _ HI0.out) G1 (by omega) (by omega) (by omega)) (by omega)
  · exact (((((((((((((hb1.setCell (p := ⟨w.heap.size + 1 + 1, 1, none⟩) (by simp <;> omega) v1_0).setCell (p := ⟨w.heap.size + 1 + 1, 2, none⟩) (by simp <;> omega) v1_1).setCell (p := ⟨w.heap.size + 1 + 1, 3, none⟩) (by simp <;> omega) v1_2).setCell (p := ⟨w.heap.size + 1 + 1, 4, none⟩) (by simp <;> omega) v1_3).setCell (p := ⟨w.heap.size + 1 + 1, 5, none⟩) (by simp <;> omega) v1_4).setCell (p := ⟨w.heap.size + 1 + 1, 6, none⟩) (by simp <;> omega) v1_5).setCell (p := ⟨w.heap.size + 1, 0, none⟩) (by simp <;> omega) (Value.int .i64 x.1)).setCell (p := ⟨w.heap.size + 1, 1, none⟩) (by simp <;> omega) v1_0).setCell (p := ⟨w.heap.size + 1, 2, none⟩) (by simp <;> omega) v1_1).setCell (p := ⟨w.heap.size + 1, 3, none⟩) (by simp <;> omega) v1_2).setCell (p := ⟨w.heap.size + 1, 4, none⟩) (by simp <;> omega) v1_3).setCell (p := ⟨w.heap.size + 1, 5, none⟩) (by simp <;> omega) v1_4).setCell (p := ⟨w.heap.size + 1, 6, none⟩) (by simp <;> omega) v1_5)
theorem infoRat : (Try.prog.info? 51).map (fun i => (i.zero, i.size, i.bytes)) = some (some (.agg #[.bool false, .slice none 0 0, .slice none 0 0]), 3, 56) := by kernel_rfl
set_option maxRecDepth 100000 in
set_option maxHeartbeats 400000 in
theorem toRatS_any (v : Value) (l : DRatS) (w : World) (hl : Has RRatS w [v] l) (hs : l.length + tRatS l ≤ 1048576) :
    Calls Try.prog 36 #[v] w (Post (Own1Post RRatS l w)) := by
  obtain ⟨ad, c, rfl, hc, hm, hg⟩ := hl.elems
  unfold maxLen at hm
  have HG := Lib.hid hg; clear hg hl
  have hln : l.length ≤ 1048576 := by omega
  obtain ⟨i0, hi, hz0, hz1, hz2⟩ := info_parts infoRat
  go_enter Try.func36, Try.ntmps36
  go_wp2_with (at_make; refine wpList_make_full _ rfl _ _ 31 rfl w.heap.size 51 i0 _ 3 Try.underlying31 hi hz0 hz1 _ _ _ _ l.length rfl rfl rfl rfl (by rw [hz2]; omega) (by unfold maxLen; omega) (Nat.le_refl _) ?_)
  intro w1 hown hgrow
  have hb0 : Below w.heap.size w w1 := (Below.refl _ _).grown hgrow (Nat.le_refl _) (by simp)
  have HM0 := Lib.hid (Made.start (A := RRat) hown); clear hown hgrow hi hz0 hz1 hz2
  go_wp2
  go_loopw [4] (fun i wr => ∃ k : Nat, k ≤ l.length ∧ i = .int .i64 k ∧ Made RRat wr w.heap.size l.length 51 (l.take k) ∧ Below w.heap.size w wr) (fun i _ => l.length - (intOf i).toNat)
  case atStart => exact ⟨0, Nat.zero_le _, rfl, HM0.out, hb0⟩
  case round =>
    obtain ⟨k, hk, rfl, hM, hbw⟩ := hrel
    have HM := Lib.hid hM; clear hM
    by_cases hkl : k < l.length
    rotate_left
    · obtain rfl : k = l.length := by omega
      go_wp2
      go_ret
      have h := HM.out
      rw [List.take_length] at h
      exact ⟨_, rfl, h.own rfl (by unfold maxLen; omega) (Nat.le_refl _), hbw⟩
    have hgl : w.heap.size < wr.heap.size := HM.out.lt
    obtain ⟨b, off, cs, rfl, hbl, hx, hcs⟩ := HG.out k hkl
    obtain ⟨c0, c1, c2, rfl⟩ := list3 hx.len
    have HX := Lib.hid hx
    have hts : tRat l[k] ≤ 1048576 := by have h1 := tRatS_snoc (l.take k) l[k]; rw [← List.take_succ_eq_append_getElem hkl] at h1; have h2 := tRatS_take l (k + 1); omega
    have HTS := Lib.hid hts
    have g0 : wr.cell? ⟨b, off + k * 3, none⟩ = some c0 := (hbw.cell (p := ⟨b, _, none⟩) hbl).trans (hcs 0 _ rfl)
    have g1 : wr.cell? ⟨b, off + k * 3 + 1, none⟩ = some c1 := (hbw.cell (p := ⟨b, _, none⟩) hbl).trans (hcs 1 _ rfl)
    have g2 : wr.cell? ⟨b, off + k * 3 + 2, none⟩ = some c2 := (hbw.cell (p := ⟨b, _, none⟩) hbl).trans (hcs 2 _ rfl)
    clear hcs hx hts
    go_wp2_with fail
    refine (toRat_any _ _ _ _ _ (HX.out.below hbw) HTS.out).mono ?_
    rintro e w2 ⟨v1, rfl, ⟨cs1, rfl, ho1⟩, hbx⟩
    obtain ⟨v1_0, v1_1, v1_2, rfl⟩ := list3 ho1.has.len
    have ov1_0 := ho1.has.one 0 _ rfl
    have ov1_1 := ho1.has.one 1 _ rfl
    have ov1_2 := ho1.has.one 2 _ rfl
    have HO := Lib.hid ho1; clear ho1
    have hb2 := Below.up hbw hbx hbw.size
    have hM2 := HM.out.below hbx
    have hkm : (k + 1) * 3 ≤ l.length * 3 := Nat.mul_le_mul_right _ hkl
    obtain ⟨y0, hy0⟩ : ∃ y, w2.cell? ⟨w.heap.size, k * 3, none⟩ = some y := hM2.cell _ (by show k * 3 < l.length * 3; omega)
    obtain ⟨y1, hy1⟩ : ∃ y, w2.cell? ⟨w.heap.size, k * 3 + 1, none⟩ = some y := hM2.cell _ (by show k * 3 + 1 < l.length * 3; omega)
    obtain ⟨y2, hy2⟩ : ∃ y, w2.cell? ⟨w.heap.size, k * 3 + 2, none⟩ = some y := hM2.cell _ (by show k * 3 + 2 < l.length * 3; omega)
    have hfz := hM2.frozen
    clear hM2
    go_wp2
    go_roundw
    case rel =>
      have hst := HM.out.step hbx HO.out (by rw [List.length_take]; omega)
      rw [← List.take_succ_eq_append_getElem hkl, List.length_take, Nat.min_eq_left hk] at hst
      exact ⟨k + 1, by omega, by go_num, hst, putCells_below w.heap.size [v1_0, v1_1, v1_2] _ (k * 3) hb2 (Nat.le_refl _)⟩
    case measure => simp [intOf]; omega
theorem infoStep : (Try.prog.info? 80).map (fun i => (i.zero, i.size, i.bytes)) = some (some (.agg #[.int .i64 0, .bool false, .slice none 0 0, .slice none 0 0, .bool false, .slice none 0 0, .slice none 0 0]), 7, 120) := by kernel_rfl
set_option maxRecDepth 100000 in
set_option maxHeartbeats 400000 in
theorem toStepS_any (v : Value) (l : DStepS) (w : World) (hl : Has RStepS w [v] l) (hs : l.length + tStepS l ≤ 1048576) :
    Calls Try.prog 13 #[v] w (Post (Own1Post RStepS l w)) := by
  obtain ⟨ad, c, rfl, hc, hm, hg⟩ := hl.elems
  unfold maxLen at hm
  have HG := Lib.hid hg; clear hg hl
  have hln : l.length ≤ 1048576 := by omega
  obtain ⟨i0, hi, hz0, hz1, hz2⟩ := info_parts infoStep
  go_enter Try.func13, Try.ntmps13
  go_wp2_with (at_make; refine wpList_make_full _ rfl _ _ 25 rfl w.heap.size 80 i0 _ 7 Try.underlying25 hi hz0 hz1 _ _ _ _ l.length rfl rfl rfl rfl (by rw [hz2]; omega) (by unfold maxLen; omega) (Nat.le_refl _) ?_)
  intro w1 hown hgrow
  have hb0 : Below w.heap.size w w1 := (Below.refl _ _).grown hgrow (Nat.le_refl _) (by simp)
  have HM0 := Lib.hid (Made.start (A := RStep) hown); clear hown hgrow hi hz0 hz1 hz2
  go_wp2
  go_loopw [4] (fun i wr => ∃ k : Nat, k ≤ l.length ∧ i = .int .i64 k ∧ Made RStep wr w.heap.size l.length 80 (l.take k) ∧ Below w.heap.size w wr) (fun i _ => l.length - (intOf i).toNat)
  case atStart => exact ⟨0, Nat.zero_le _, rfl, HM0.out, hb0⟩
  case round =>
    obtain ⟨k, hk, rfl, hM, hbw⟩ := hrel
    have HM := Lib.hid hM; clear hM
    by_cases hkl : k < l.length
    rotate_left
    · obtain rfl : k = l.length := by omega
      go_wp2
      go_ret
      have h := HM.out
      rw [List.take_length] at h
      exact ⟨_, rfl, h.own rfl (by unfold maxLen; omega) (Nat.le_refl _), hbw⟩
    have hgl : w.heap.size < wr.heap.size := HM.out.lt
    obtain ⟨b, off, cs, rfl, hbl, hx, hcs⟩ := HG.out k hkl
    obtain ⟨c0, c1, c2, c3, c4, c5, c6, rfl⟩ := list7 hx.len
    have HX := Lib.hid hx
    have hts : tStep l[k] ≤ 1048576 := by have h1 := tStepS_snoc (l.take k) l[k]; rw [← List.take_succ_eq_append_getElem hkl] at h1; have h2 := tStepS_take l (k + 1); omega
    have HTS := Lib.hid hts
    have g0 : wr.cell? ⟨b, off + k * 7, none⟩ = some c0 := (hbw.cell (p := ⟨b, _, none⟩) hbl).trans (hcs 0 _ rfl)
    have g1 : wr.cell? ⟨b, off + k * 7 + 1, none⟩ = some c1 := (hbw.cell (p := ⟨b, _, none⟩) hbl).trans (hcs 1 _ rfl)
    have g2 : wr.cell? ⟨b, off + k * 7 + 2, none⟩ = some c2 := (hbw.cell (p := ⟨b, _, none⟩) hbl).trans (hcs 2 _ rfl)
    have g3 : wr.cell? ⟨b, off + k * 7 + 3, none⟩ = some c3 := (hbw.cell (p := ⟨b, _, none⟩) hbl).trans (hcs 3 _ rfl)
    have g4 : wr.cell? ⟨b, off + k * 7 + 4, none⟩ = some c4 := (hbw.cell (p := ⟨b, _, none⟩) hbl).trans (hcs 4 _ rfl)
    have g5 : wr.cell? ⟨b, off + k * 7 + 5, none⟩ = some c5 := (hbw.cell (p := ⟨b, _, none⟩) hbl).trans (hcs 5 _ rfl)
    have g6 : wr.cell? ⟨b, off + k * 7 + 6, none⟩ = some c6 := (hbw.cell (p := ⟨b, _, none⟩) hbl).trans (hcs 6 _ rfl)
    clear hcs hx hts
    go_wp2_with fail
    refine (toStep_any _ _ _ _ _ _ _ _ _ (HX.out.below hbw) HTS.out).mono ?_
    rintro e w2 ⟨v1, rfl, ⟨cs1, rfl, ho1⟩, hbx⟩
    obtain ⟨v1_0, v1_1, v1_2, v1_3, v1_4, v1_5, v1_6, rfl⟩ := list7 ho1.has.len
    have ov1_0 := ho1.has.one 0 _ rfl
    have ov1_1 := ho1.has.one 1 _ rfl
    have ov1_2 := ho1.has.one 2 _ rfl
    have ov1_3 := ho1.has.one 3 _ rfl
    have ov1_4 := ho1.has.one 4 _ rfl
    have ov1_5 := ho1.has.one 5 _ rfl
    have ov1_6 := ho1.has.one 6 _ rfl
    have HO := Lib.hid ho1; clear ho1
    have hb2 := Below.up hbw hbx hbw.size
    have hM2 := HM.out.below hbx
    have hkm : (k + 1) * 7 ≤ l.length * 7 := Nat.mul_le_mul_right _ hkl
    obtain ⟨y0, hy0⟩ : ∃ y, w2.cell? ⟨w.heap.size, k * 7, none⟩ = some y := hM2.cell _ (by show k * 7 < l.length * 7; omega)
    obtain ⟨y1, hy1⟩ : ∃ y, w2.cell? ⟨w.heap.size, k * 7 + 1, none⟩ = some y := hM2.cell _ (by show k * 7 + 1 < l.length * 7; omega)
    obtain ⟨y2, hy2⟩ : ∃ y, w2.cell? ⟨w.heap.size, k * 7 + 2, none⟩ = some y := hM2.cell _ (by show k * 7 + 2 < l.length * 7; omega)
    obtain ⟨y3, hy3⟩ : ∃ y, w2.cell? ⟨w.heap.size, k * 7 + 3, none⟩ = some y := hM2.cell _ (by show k * 7 + 3 < l.length * 7; omega)
    obtain ⟨y4, hy4⟩ : ∃ y, w2.cell? ⟨w.heap.size, k * 7 + 4, none⟩ = some y := hM2.cell _ (by show k * 7 + 4 < l.length * 7; omega)
    obtain ⟨y5, hy5⟩ : ∃ y, w2.cell? ⟨w.heap.size, k * 7 + 5, none⟩ = some y := hM2.cell _ (by show k * 7 + 5 < l.length * 7; omega)
    obtain ⟨y6, hy6⟩ : ∃ y, w2.cell? ⟨w.heap.size, k * 7 + 6, none⟩ = some y := hM2.cell _ (by show k * 7 + 6 < l.length * 7; omega)
    have hfz := hM2.frozen
    clear hM2
    go_wp2
    go_roundw
    case rel =>
      have hst := HM.out.step hbx HO.out (by rw [List.length_take]; omega)
      rw [← List.take_succ_eq_append_getElem hkl, List.length_take, Nat.min_eq_left hk] at hst
      exact ⟨k + 1, by omega, by go_num, hst, putCells_below w.heap.size [v1_0, v1_1, v1_2, v1_3, v1_4, v1_5, v1_6] _ (k * 7) hb2 (Nat.le_refl _)⟩
    case measure => simp [intOf]; omega
end Go.Proofs.Ytjkbecgenjhaaaa
