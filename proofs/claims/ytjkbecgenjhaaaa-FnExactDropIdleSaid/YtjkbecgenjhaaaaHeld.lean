import Derived.Test.YtjkbecgenjhaaaaProg
import Derived.Test.YtjkbecgenjhaaaaData
namespace Go.Proofs.Ytjkbecgenjhaaaa
open Go.RowKit

set_option maxHeartbeats 400000 in
theorem heldIntS_any (v : Value) (x : DIntS) (k : Int) (w : World) (hx : Has RIntS w [v] (mkIntS x k)) (h0 : 0 ≤ k) (h1 : k + x.length ≤ 1073741824) :
    Calls Try.prog 67 #[v, .int .i64 k] w (Post (HeldPost (k + x.length) w)) := by
  obtain ⟨ad, c, rfl, hc, hm, hg⟩ := hx.elems
  have hml : (mkIntS x k).length = x.length := by simp [mkIntS]
  have hget : ∀ j, j < x.length → ∃ b off, ad = some ⟨b, off, none⟩ ∧ b < w.heap.size ∧ w.cell? ⟨b, off + j, none⟩ = some (.int .i64 (k + (j : Nat))) := by
    intro j hj
    obtain ⟨b, off, cs, ha, hb, hx, hcs⟩ := hg j (by omega)
    obtain ⟨c0, rfl⟩ := list1 hx.len
    have he := hx.int.1
    refine ⟨b, off, ha, hb, ?_⟩
    have h := hcs 0 _ rfl
    rw [he] at h
    simpa [Rp.int, mkIntS] using h
  rw [hml] at hc ⊢
  unfold maxLen at hm
  have HG := Lib.hid hget; clear hget hg hx hml
  go_enter Try.func67, Try.ntmps67
  go_wp2
  go_loopw [1, 5] (fun kk i wr => ∃ j : Nat, j ≤ x.length ∧ i = .int .i64 j ∧ kk = .int .i64 (k + (j : Nat)) ∧ Below w.heap.size w wr) (fun _ i _ => x.length - (intOf i).toNat)
  case atStart => exact ⟨0, Nat.zero_le _, rfl, congrArg (Value.int .i64) (by simp), Below.refl _ _⟩
  case round =>
    obtain ⟨j, hj, rfl, rfl, hbw⟩ := hrel
    by_cases hjl : j < x.length
    rotate_left
    · obtain rfl : j = x.length := by omega
      go_wp2
      go_ret
      exact ⟨_, rfl, rfl, hbw⟩
    obtain ⟨b, off, rfl, hbl, hcell⟩ := HG.out j hjl
    have g0 : wr.cell? ⟨b, off + j, none⟩ = some (.int .i64 (k + (j : Nat))) := (hbw.cell (p := ⟨b, _, none⟩) hbl).trans hcell
    clear hcell
    go_wp2
    go_roundw
    case rel => exact ⟨j + 1, by omega, by go_num, congrArg (Value.int .i64) (by omega), hbw⟩
    case measure => simp [intOf]; omega
set_option maxRecDepth 100000 in
set_option maxHeartbeats 400000 in
theorem heldBigInt_any (c0 c1 : Value) (x : DBigInt) (k : Int) (w : World) (hx : Has RBigInt w [c0, c1] (mkBigInt x k)) (h0 : 0 ≤ k) (h1 : k + cnBigInt x ≤ 1073741824) :
    Calls Try.prog 85 #[.agg #[c0, c1], .int .i64 k] w (Post (HeldPost (k + cnBigInt x) w)) := by
  obtain ⟨hx0, hx1⟩ := hx.split [c0] [c1] rfl
  have HX1 := Lib.hid (show Has RIntS w [c1] (mkIntS x.2 k) from hx1)
  clear hx hx0 hx1
  have hub := h1; unfold cnBigInt at hub
  have hp1 : (0 : Int) ≤ (x.2.length : Nat) := Int.natCast_nonneg _
  have hend : k + (x.2.length : Nat) = k + (cnBigInt x : Nat) := by unfold cnBigInt; omega
  have HEND := Lib.hid hend; clear hend
  go_enter Try.func85, Try.ntmps85
  have hb0 := (Below.refl w.heap.size w).alloc (Nat.le_refl _) (Obj.cells #[c0, c1] 49)
  go_wp2_with fail
  refine (heldIntS_any _ _ _ _ (HX1.out.below hb0) (by omega) (by omega)).mono ?_
  rintro e w1 ⟨v, rfl, rfl, hbx1⟩
  have hb1 := Below.up hb0 hbx1 hb0.size
  go_wp2
  go_ret
  exact ⟨_, rfl, congrArg (Value.int .i64) HEND.out, hb1⟩
set_option maxRecDepth 100000 in
set_option maxHeartbeats 400000 in
theorem heldRat_any (c0 c1 c2 : Value) (x : DRat) (k : Int) (w : World) (hx : Has RRat w [c0, c1, c2] (mkRat x k)) (h0 : 0 ≤ k) (h1 : k + cnRat x ≤ 1073741824) :
    Calls Try.prog 42 #[.agg #[c0, c1, c2], .int .i64 k] w (Post (HeldPost (k + cnRat x) w)) := by
  obtain ⟨hx0, hx1⟩ := hx.split [c0, c1] [c2] rfl
  have HX0 := Lib.hid (show Has RBigInt w [c0, c1] (mkBigInt x.1 k) from hx0)
  have HX1 := Lib.hid (show Has RIntS w [c2] (mkIntS x.2 (k + (cnBigInt x.1 : Nat))) from hx1)
  clear hx hx0 hx1
  have hub := h1; unfold cnRat at hub
  have hp0 : (0 : Int) ≤ (cnBigInt x.1 : Nat) := Int.natCast_nonneg _
  have hp1 : (0 : Int) ≤ (x.2.length : Nat) := Int.natCast_nonneg _
  have hend : k + (cnBigInt x.1 : Nat) + (x.2.length : Nat) = k + (cnRat x : Nat) := by unfold cnRat; omega
  have HEND := Lib.hid hend; clear hend
  go_enter Try.func42, Try.ntmps42
  have hb0 := (Below.refl w.heap.size w).alloc (Nat.le_refl _) (Obj.cells #[c0, c1, c2] 51)
  go_wp2_with fail
  refine (heldBigInt_any _ _ _ _ _ (HX0.out.below hb0) (by omega) (by omega)).mono ?_
  rintro e w1 ⟨v, rfl, rfl, hbx1⟩
  have hb1 := Below.up hb0 hbx1 hb0.size
  obtain ⟨hc1, hf1⟩ := bcell hbx1
  go_wp2_with fail
  refine (heldIntS_any _ _ _ _ (HX1.out.below hb1) (by omega) (by omega)).mono ?_
  rintro e w2 ⟨v, rfl, rfl, hbx2⟩
  have hb2 := Below.up hb1 hbx2 hb1.size
  go_wp2
  go_ret
  exact ⟨_, rfl, congrArg (Value.int .i64) HEND.out, hb2⟩
set_option maxRecDepth 100000 in
set_option maxHeartbeats 400000 in
theorem heldPoint_any (c0 c1 c2 c3 c4 c5 : Value) (x : DPoint) (k : Int) (w : World) (hx : Has RPoint w [c0, c1, c2, c3, c4, c5] (mkPoint x k)) (h0 : 0 ≤ k) (h1 : k + cnPoint x ≤ 1073741824) :
    Calls Try.prog 49 #[.agg #[c0, c1, c2, c3, c4, c5], .int .i64 k] w (Post (HeldPost (k + cnPoint x) w)) := by
  obtain ⟨hx0, hx1⟩ := hx.split [c0, c1, c2] [c3, c4, c5] rfl
  have HX0 := Lib.hid (show Has RRat w [c0, c1, c2] (mkRat x.1 k) from hx0)
  have HX1 := Lib.hid (show Has RRat w [c3, c4, c5] (mkRat x.2 (k + (cnRat x.1 : Nat))) from hx1)
  clear hx hx0 hx1
  have hub := h1; unfold cnPoint at hub
  have hp0 : (0 : Int) ≤ (cnRat x.1 : Nat) := Int.natCast_nonneg _
  have hp1 : (0 : Int) ≤ (cnRat x.2 : Nat) := Int.natCast_nonneg _
  have hend : k + (cnRat x.1 : Nat) + (cnRat x.2 : Nat) = k + (cnPoint x : Nat) := by unfold cnPoint; omega
  have HEND := Lib.hid hend; clear hend
  go_enter Try.func49, Try.ntmps49
  have hb0 := (Below.refl w.heap.size w).alloc (Nat.le_refl _) (Obj.cells #[c0, c1, c2, c3, c4, c5] 53)
  go_wp2_with fail
  refine (heldRat_any _ _ _ _ _ _ (HX0.out.below hb0) (by omega) (by omega)).mono ?_
  rintro e w1 ⟨v, rfl, rfl, hbx1⟩
  have hb1 := Below.up hb0 hbx1 hb0.size
  obtain ⟨hc1, hf1⟩ := bcell hbx1
  go_wp2_with fail
  refine (heldRat_any _ _ _ _ _ _ (HX1.out.below hb1) (by omega) (by omega)).mono ?_
  rintro e w2 ⟨v, rfl, rfl, hbx2⟩
  have hb2 := Below.up hb1 hbx2 hb1.size
  go_wp2
  go_ret
  exact ⟨_, rfl, congrArg (Value.int .i64) HEND.out, hb2⟩
set_option maxRecDepth 100000 in
set_option maxHeartbeats 1000000 in
theorem heldRatS_any (v : Value) (x : DRatS) (k : Int) (w : World) (hx : Has RRatS w [v] (mkRatS x k)) (h0 : 0 ≤ k) (h1 : k + cnRatS x ≤ 1073741824) :
    Calls Try.prog 25 #[v, .int .i64 k] w (Post (HeldPost (k + cnRatS x) w)) := by
  obtain ⟨ad, c, rfl, hc, hm, hg⟩ := hx.elems
  rw [mkRatS_len] at hc ⊢
  have hget : ∀ j (hj : j < x.length), ∃ b off cs, ad = some ⟨b, off, none⟩ ∧ b < w.heap.size ∧ Has RRat w cs (emRat x[j] (k + (cnRatS (x.take j) : Nat))) ∧ ∀ i u, cs[i]? = some u → w.cell? ⟨b, off + j * RRat.size + i, none⟩ = some u := by
    intro j hj
    obtain ⟨b, off, cs, ha, hb, hx, hcs⟩ := hg j (by rw [mkRatS_len]; exact hj)
    have he := mkRatS_get x k j x[j] (List.getElem?_eq_getElem hj)
    rw [List.getElem?_eq_getElem (by rw [mkRatS_len]; exact hj)] at he
    injection he with he
    rw [he] at hx
    exact ⟨b, off, cs, ha, hb, hx, hcs⟩
  unfold maxLen at hm
  have HG := Lib.hid hget; clear hget hg hx
  go_enter Try.func25, Try.ntmps25
  go_wp2
  go_loopw [1, 5] (fun kk i wr => ∃ j : Nat, j ≤ x.length ∧ i = .int .i64 j ∧ kk = .int .i64 (k + (cnRatS (x.take j) : Nat)) ∧ Below w.heap.size w wr) (fun _ i _ => x.length - (intOf i).toNat)
  case atStart => exact ⟨0, Nat.zero_le _, rfl, congrArg (Value.int .i64) (by simp [cnRatS]), Below.refl _ _⟩
  case round =>
    obtain ⟨j, hj, rfl, rfl, hbw⟩ := hrel
    by_cases hjl : j < x.length
    rotate_left
    · obtain rfl : j = x.length := by omega
      go_wp2
      go_ret
      exact ⟨_, rfl, congrArg (Value.int .i64) (by rw [List.take_length]), hbw⟩
    obtain ⟨b, off, cs, rfl, hbl, hx, hcs⟩ := HG.out j hjl
    obtain ⟨c0, c1, c2, rfl⟩ := list3 hx.len
    have hec : cnRatS (x.take j) + ecRat x[j] = cnRatS (x.take (j + 1)) := by rw [List.take_succ_eq_append_getElem hjl, cnRatS_snoc]
    have hect := cnRatS_take x (j + 1)
    obtain ⟨q, hq⟩ : ∃ q : Int, q = k + (cnRatS (x.take j) : Nat) := ⟨_, rfl⟩
    have hq0 : 0 ≤ q := by omega
    have hq1 : q + (ecRat x[j] : Nat) ≤ 1073741824 := by omega
    rw [← hq] at hx ⊢
    have HQ := Lib.hid hq; have HEC := Lib.hid hec
    clear hq hec hect
    obtain ⟨hp0, hp1⟩ := Has.split (A := RBigInt) [c0, c1] [c2] rfl hx
    obtain ⟨hp2, hp3⟩ := Has.split (A := Rp.bool) [c0] [c1] rfl hp0
    have hv0 : c0 = .bool ((q) % 3 == 0) := hp2.bool.trans (congrArg (fun t : Int => Value.bool (t % 3 == 0)) (by first | rfl | (simp only [ecRat, ecBigInt]; omega)))
    have HX0 := Lib.hid (Has.cast (b := mkIntS x[j].1.2 (q + 1)) hp3 (congrArg (mkIntS _) (by first | rfl | (simp only [ecRat, ecBigInt]; omega))))
    have hl0 : (0 : Int) ≤ (x[j].1.2.length : Nat) := Int.natCast_nonneg _
    have HX1 := Lib.hid (Has.cast (b := mkIntS x[j].2 (q + 1 + (x[j].1.2.length : Nat))) hp1 (congrArg (mkIntS _) (by first | rfl | (simp only [ecRat, ecBigInt]; omega))))
    have hl1 : (0 : Int) ≤ (x[j].2.length : Nat) := Int.natCast_nonneg _
    have hqe := hq1; simp only [ecRat, ecBigInt] at hqe
    have g0 : wr.cell? ⟨b, off + j * 3, none⟩ = some (.bool ((q) % 3 == 0)) := (hbw.cell (p := ⟨b, _, none⟩) hbl).trans ((hcs 0 _ rfl).trans (congrArg some hv0))
    have g1 : wr.cell? ⟨b, off + j * 3 + 1, none⟩ = some c1 := (hbw.cell (p := ⟨b, _, none⟩) hbl).trans (hcs 1 _ rfl)
    have g2 : wr.cell? ⟨b, off + j * 3 + 2, none⟩ = some c2 := (hbw.cell (p := ⟨b, _, none⟩) hbl).trans (hcs 2 _ rfl)
    have hbl0 : b < wr.heap.size := Nat.lt_of_lt_of_le hbl hbw.size
    clear hcs hx hp0 hp1 hp2 hp3 hv0
    go_wp2_with fail
    refine (heldIntS_any _ _ _ _ (HX0.out.below hbw) (by omega) (by omega)).mono ?_
    rintro e w1 ⟨v, rfl, rfl, hbx1⟩
    have hb1 := Below.up hbw hbx1 hbw.size
    have hbl1 : b < w1.heap.size := Nat.lt_of_lt_of_le hbl0 hbx1.size
    have hc1 := fun o => hbx1.cell (p := ⟨b, o, none⟩) hbl0
    go_wp2_with fail
    refine (heldIntS_any _ _ _ _ (HX1.out.below hb1) (by omega) (by omega)).mono ?_
    rintro e w2 ⟨v, rfl, rfl, hbx2⟩
    have hb2 := Below.up hb1 hbx2 hb1.size
    have hbl2 : b < w2.heap.size := Nat.lt_of_lt_of_le hbl1 hbx2.size
    have hc2 := fun o => hbx2.cell (p := ⟨b, o, none⟩) hbl1
    go_wp2
    go_roundw
    case rel =>
      exact ⟨j + 1, by omega, by go_num, congrArg (Value.int .i64) (by have h1 := HQ.out; have h2 := HEC.out; simp only [ecRat, ecBigInt] at h2; omega), hb2⟩
    case measure => simp [intOf]; omega
set_option maxRecDepth 100000 in
set_option maxHeartbeats 1000000 in
theorem heldStepS_any (v : Value) (x : DStepS) (k : Int) (w : World) (hx : Has RStepS w [v] (mkStepS x k)) (h0 : 0 ≤ k) (h1 : k + cnStepS x ≤ 1073741824) :
    Calls Try.prog 33 #[v, .int .i64 k] w (Post (HeldPost (k + cnStepS x) w)) := by
  obtain ⟨ad, c, rfl, hc, hm, hg⟩ := hx.elems
  rw [mkStepS_len] at hc ⊢
  have hget : ∀ j (hj : j < x.length), ∃ b off cs, ad = some ⟨b, off, none⟩ ∧ b < w.heap.size ∧ Has RStep w cs (emStep x[j] (k + (cnStepS (x.take j) : Nat))) ∧ ∀ i u, cs[i]? = some u → w.cell? ⟨b, off + j * RStep.size + i, none⟩ = some u := by
    intro j hj
    obtain ⟨b, off, cs, ha, hb, hx, hcs⟩ := hg j (by rw [mkStepS_len]; exact hj)
    have he := mkStepS_get x k j x[j] (List.getElem?_eq_getElem hj)
    rw [List.getElem?_eq_getElem (by rw [mkStepS_len]; exact hj)] at he
    injection he with he
    rw [he] at hx
    exact ⟨b, off, cs, ha, hb, hx, hcs⟩
  unfold maxLen at hm
  have HG := Lib.hid hget; clear hget hg hx
  go_enter Try.func33, Try.ntmps33
  go_wp2
  go_loopw [1, 5] (fun kk i wr => ∃ j : Nat, j ≤ x.length ∧ i = .int .i64 j ∧ kk = .int .i64 (k + (cnStepS (x.take j) : Nat)) ∧ Below w.heap.size w wr) (fun _ i _ => x.length - (intOf i).toNat)
  case atStart => exact ⟨0, Nat.zero_le _, rfl, congrArg (Value.int .i64) (by simp [cnStepS]), Below.refl _ _⟩
  case round =>
    obtain ⟨j, hj, rfl, rfl, hbw⟩ := hrel
    by_cases hjl : j < x.length
    rotate_left
    · obtain rfl : j = x.length := by omega
      go_wp2
      go_ret
      exact ⟨_, rfl, congrArg (Value.int .i64) (by rw [List.take_length]), hbw⟩
    obtain ⟨b, off, cs, rfl, hbl, hx, hcs⟩ := HG.out j hjl
    obtain ⟨c0, c1, c2, c3, c4, c5, c6, rfl⟩ := list7 hx.len
    have hec : cnStepS (x.take j) + ecStep x[j] = cnStepS (x.take (j + 1)) := by rw [List.take_succ_eq_append_getElem hjl, cnStepS_snoc]
    have hect := cnStepS_take x (j + 1)
    obtain ⟨q, hq⟩ : ∃ q : Int, q = k + (cnStepS (x.take j) : Nat) := ⟨_, rfl⟩
    have hq0 : 0 ≤ q := by omega
    have hq1 : q + (ecStep x[j] : Nat) ≤ 1073741824 := by omega
    rw [← hq] at hx ⊢
    have HQ := Lib.hid hq; have HEC := Lib.hid hec
    clear hq hec hect
    obtain ⟨hp0, hp1⟩ := Has.split (A := Rp.int) [c0] [c1, c2, c3, c4, c5, c6] rfl hx
    obtain ⟨hp2, hp3⟩ := Has.split (A := RRat) [c1, c2, c3] [c4, c5, c6] rfl hp1
    obtain ⟨hp4, hp5⟩ := Has.split (A := RBigInt) [c1, c2] [c3] rfl hp2
    obtain ⟨hp6, hp7⟩ := Has.split (A := Rp.bool) [c1] [c2] rfl hp4
    obtain ⟨hp8, hp9⟩ := Has.split (A := RBigInt) [c4, c5] [c6] rfl hp3
    obtain ⟨hp10, hp11⟩ := Has.split (A := Rp.bool) [c4] [c5] rfl hp8
    have hv0 : c0 = .int .i64 (q) := hp0.int.1.trans (congrArg (Value.int .i64) (by first | rfl | (simp only [ecStep, ecPoint, ecRat, ecBigInt]; omega)))
    have hv1 : c1 = .bool ((q + 1) % 3 == 0) := hp6.bool.trans (congrArg (fun t : Int => Value.bool (t % 3 == 0)) (by first | rfl | (simp only [ecStep, ecPoint, ecRat, ecBigInt]; omega)))
    have HX0 := Lib.hid (Has.cast (b := mkIntS x[j].2.1.1.2 (q + 1 + 1)) hp7 (congrArg (mkIntS _) (by first | rfl | (simp only [ecStep, ecPoint, ecRat, ecBigInt]; omega))))
    have hl0 : (0 : Int) ≤ (x[j].2.1.1.2.length : Nat) := Int.natCast_nonneg _
    have HX1 := Lib.hid (Has.cast (b := mkIntS x[j].2.1.2 (q + 1 + 1 + (x[j].2.1.1.2.length : Nat))) hp5 (congrArg (mkIntS _) (by first | rfl | (simp only [ecStep, ecPoint, ecRat, ecBigInt]; omega))))
    have hl1 : (0 : Int) ≤ (x[j].2.1.2.length : Nat) := Int.natCast_nonneg _
    have hv4 : c4 = .bool ((q + 1 + 1 + (x[j].2.1.1.2.length : Nat) + (x[j].2.1.2.length : Nat)) % 3 == 0) := hp10.bool.trans (congrArg (fun t : Int => Value.bool (t % 3 == 0)) (by first | rfl | (simp only [ecStep, ecPoint, ecRat, ecBigInt]; omega)))
    have HX2 := Lib.hid (Has.cast (b := mkIntS x[j].2.2.1.2 (q + 1 + 1 + (x[j].2.1.1.2.length : Nat) + (x[j].2.1.2.length : Nat) + 1)) hp11 (congrArg (mkIntS _) (by first | rfl | (simp only [ecStep, ecPoint, ecRat, ecBigInt]; omega))))
    have hl2 : (0 : Int) ≤ (x[j].2.2.1.2.length : Nat) := Int.natCast_nonneg _
    have HX3 := Lib.hid (Has.cast (b := mkIntS x[j].2.2.2 (q + 1 + 1 + (x[j].2.1.1.2.length : Nat) + (x[j].2.1.2.length : Nat) + 1 + (x[j].2.2.1.2.length : Nat))) hp9 (congrArg (mkIntS _) (by first | rfl | (simp only [ecStep, ecPoint, ecRat, ecBigInt]; omega))))
    have hl3 : (0 : Int) ≤ (x[j].2.2.2.length : Nat) := Int.natCast_nonneg _
    have hqe := hq1; simp only [ecStep, ecPoint, ecRat, ecBigInt] at hqe
    have g0 : wr.cell? ⟨b, off + j * 7, none⟩ = some (.int .i64 (q)) := (hbw.cell (p := ⟨b, _, none⟩) hbl).trans ((hcs 0 _ rfl).trans (congrArg some hv0))
    have g1 : wr.cell? ⟨b, off + j * 7 + 1, none⟩ = some (.bool ((q + 1) % 3 == 0)) := (hbw.cell (p := ⟨b, _, none⟩) hbl).trans ((hcs 1 _ rfl).trans (congrArg some hv1))
    have g2 : wr.cell? ⟨b, off + j * 7 + 2, none⟩ = some c2 := (hbw.cell (p := ⟨b, _, none⟩) hbl).trans (hcs 2 _ rfl)
    have g3 : wr.cell? ⟨b, off + j * 7 + 3, none⟩ = some c3 := (hbw.cell (p := ⟨b, _, none⟩) hbl).trans (hcs 3 _ rfl)
    have g4 : wr.cell? ⟨b, off + j * 7 + 4, none⟩ = some (.bool ((q + 1 + 1 + (x[j].2.1.1.2.length : Nat) + (x[j].2.1.2.length : Nat)) % 3 == 0)) := (hbw.cell (p := ⟨b, _, none⟩) hbl).trans ((hcs 4 _ rfl).trans (congrArg some hv4))
    have g5 : wr.cell? ⟨b, off + j * 7 + 5, none⟩ = some c5 := (hbw.cell (p := ⟨b, _, none⟩) hbl).trans (hcs 5 _ rfl)
    have g6 : wr.cell? ⟨b, off + j * 7 + 6, none⟩ = some c6 := (hbw.cell (p := ⟨b, _, none⟩) hbl).trans (hcs 6 _ rfl)
    have hbl0 : b < wr.heap.size := Nat.lt_of_lt_of_le hbl hbw.size
    clear hcs hx hp0 hp1 hp2 hp3 hp4 hp5 hp6 hp7 hp8 hp9 hp10 hp11 hv0 hv1 hv4
    go_wp2_with fail
    refine (heldIntS_any _ _ _ _ (HX0.out.below hbw) (by omega) (by omega)).mono ?_
    rintro e w1 ⟨v, rfl, rfl, hbx1⟩
    have hb1 := Below.up hbw hbx1 hbw.size
    have hbl1 : b < w1.heap.size := Nat.lt_of_lt_of_le hbl0 hbx1.size
    have hc1 := fun o => hbx1.cell (p := ⟨b, o, none⟩) hbl0
    go_wp2_with fail
    refine (heldIntS_any _ _ _ _ (HX1.out.below hb1) (by omega) (by omega)).mono ?_
    rintro e w2 ⟨v, rfl, rfl, hbx2⟩
    have hb2 := Below.up hb1 hbx2 hb1.size
    have hbl2 : b < w2.heap.size := Nat.lt_of_lt_of_le hbl1 hbx2.size
    have hc2 := fun o => hbx2.cell (p := ⟨b, o, none⟩) hbl1
    go_wp2_with fail
    refine (heldIntS_any _ _ _ _ (HX2.out.below hb2) (by omega) (by omega)).mono ?_
    rintro e w3 ⟨v, rfl, rfl, hbx3⟩
    have hb3 := Below.up hb2 hbx3 hb2.size
    have hbl3 : b < w3.heap.size := Nat.lt_of_lt_of_le hbl2 hbx3.size
    have hc3 := fun o => hbx3.cell (p := ⟨b, o, none⟩) hbl2
    go_wp2_with fail
    refine (heldIntS_any _ _ _ _ (HX3.out.below hb3) (by omega) (by omega)).mono ?_
    rintro e w4 ⟨v, rfl, rfl, hbx4⟩
    have hb4 := Below.up hb3 hbx4 hb3.size
    have hbl4 : b < w4.heap.size := Nat.lt_of_lt_of_le hbl3 hbx4.size
    have hc4 := fun o => hbx4.cell (p := ⟨b, o, none⟩) hbl3
    go_wp2
    go_roundw
    case rel =>
      exact ⟨j + 1, by omega, by go_num, congrArg (Value.int .i64) (by have h1 := HQ.out; have h2 := HEC.out; simp only [ecStep, ecPoint, ecRat, ecBigInt] at h2; omega), hb4⟩
    case measure => simp [intOf]; omega
end Go.Proofs.Ytjkbecgenjhaaaa
