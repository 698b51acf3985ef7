import Derived.Test.YtjkbecgenjhaaaaProg
import Derived.Test.YtjkbecgenjhaaaaData
namespace Go.Proofs.Ytjkbecgenjhaaaa
open Go.RowKit

set_option maxHeartbeats 400000 in
theorem markIntS_any (v : Value) (x : DIntS) (k : Int) (fp : List Nat) (w : World) (hx : RIntS.rep w [v] x fp) (hn : fp.Nodup) (hf : ∀ b ∈ fp, Free w b) (h0 : 0 ≤ k) (h1 : k + x.length ≤ 1073741824) :
    Calls Try.prog 23 #[v, .int .i64 k] w (Post (MarkPost RIntS [v] (mkIntS x k) fp (k + x.length) w)) := by
  obtain ⟨ad, c, hv, hlc, hm, hh⟩ := hx
  injection hv with hv
  subst hv
  unfold maxLen at hm
  rcases hh with ⟨rfl, rfl⟩ | ⟨b, off, fps, hl, rfl, rfl, he⟩
  · go_enter Try.func23, Try.ntmps23
    go_wp2
    go_loopw [1, 5] (fun kk i wr => i = .int .i64 0 ∧ kk = .int .i64 k ∧ wr = w) (fun _ _ _ => 0)
    case atStart => exact ⟨rfl, rfl, rfl⟩
    case round =>
      obtain ⟨rfl, rfl, rfl⟩ := hrel
      go_wp2
      go_ret
      exact ⟨_, rfl, congrArg (Value.int .i64) (by simp), ⟨ad, c, rfl, hlc, by unfold maxLen; omega, .inl ⟨rfl, rfl⟩⟩, Upto.refl _ _⟩
  have HN := Lib.hid hn; have HF := Lib.hid hf; have HE := Lib.hid he; have HL := Lib.hid hl; clear hn hf he hl
  go_enter Try.func23, Try.ntmps23
  go_wp2
  go_loopw [1, 5] (fun kk i wr => ∃ j : Nat, j ≤ x.length ∧ i = .int .i64 j ∧ kk = .int .i64 (k + j) ∧ Elems Rp.int wr b off (mkIntS (x.take j) k ++ x.drop j) fps ∧ Upto (b :: fps.flatten) w wr) (fun _ i _ => x.length - (intOf i).toNat)
  case atStart => exact ⟨0, Nat.zero_le _, rfl, congrArg (Value.int .i64) (by simp), by simpa [mkIntS] using HE.out, Upto.refl _ _⟩
  case round =>
    obtain ⟨j, hj, rfl, rfl, hE, hU⟩ := hrel
    have HEr := Lib.hid hE; have HU := Lib.hid hU; clear hE hU
    by_cases hjl : j < x.length
    rotate_left
    · obtain rfl : j = x.length := by omega
      go_wp2
      go_ret
      have h := HEr.out
      rw [List.take_length, List.drop_length, List.append_nil] at h
      have hml : (mkIntS x k).length = x.length := by simp [mkIntS]
      exact ⟨_, rfl, rfl, ⟨_, c, by rw [hml], by rw [hml]; exact hlc, by unfold maxLen; omega, .inr ⟨b, off, fps, fun e => HL.out (List.eq_nil_of_length_eq_zero (by rw [← hml, e]; rfl)), rfl, rfl, h⟩⟩, HU.out⟩
    have hml : (mkIntS (x.take j) k).length = j := by simp [mkIntS]; omega
    have hget : (mkIntS (x.take j) k ++ x.drop j)[j]? = some x[j] := by rw [List.getElem?_append_right (by omega), hml]; simp
    obtain ⟨f, cs, hfj, hr, hcs⟩ := HEr.out.2 j _ hget
    obtain ⟨rfl, rfl, hI⟩ := hr
    have hfr := HU.out.free b List.mem_cons_self (HF.out b List.mem_cons_self)
    have g0 : wr.cell? ⟨b, off + j, none⟩ = some (.int .i64 x[j]) := by simpa [Rp.int] using hcs 0 _ rfl
    have hfz := hfr.frozen
    have HML := Lib.hid hml; have HFJ := Lib.hid hfj
    clear hml hget hcs hfj hfr
    go_wp2
    go_roundw
    case rel =>
      refine ⟨j + 1, by omega, by go_num, congrArg (Value.int .i64) (by omega), ?_, HU.out.setCell (p := ⟨b, off + j, none⟩) List.mem_cons_self _⟩
      have hup := HEr.out.update (w' := wr.setCell ⟨b, off + j, none⟩ (.int .i64 (k + j))) (x' := k + (j : Nat)) (cs' := [.int .i64 (k + j)]) HN.out HFJ.out ⟨rfl, rfl, by constructor <;> omega⟩
        (cells_cons (by simpa [Rp.int] using World.cell?_setCell_same wr ⟨b, off + j, none⟩ (.int .i64 (k + j)) g0) cells_nil)
        (fun z _ hz _ => Below.heap_setCell _ _ _ _ hz) (fun o ho => setCell_out _ (by simp [Rp.int] at ho; omega))
      have e : (mkIntS (x.take j) k ++ x.drop j).set j (k + (j : Nat)) = mkIntS (x.take (j + 1)) k ++ x.drop (j + 1) := by
        rw [List.set_append_right _ _ (by rw [HML.out]; exact Nat.le_refl _), HML.out, Nat.sub_self, List.drop_eq_getElem_cons hjl, List.set_cons_zero, show mkIntS (x.take (j + 1)) k = mkIntS (x.take j) k ++ [k + (j : Nat)] from by simp only [mkIntS, List.length_take, Nat.min_eq_left (Nat.le_of_lt hjl), Nat.min_eq_left (Nat.succ_le_of_lt hjl), List.range_succ, List.map_append]; rfl]
        simp
      rw [e] at hup
      exact hup
    case measure => simp [intOf]; omega
set_option maxRecDepth 100000 in
set_option maxHeartbeats 400000 in
theorem markBigInt_any (c0 c1 : Value) (x : DBigInt) (k : Int) (fp : List Nat) (w : World) (hx : RBigInt.rep w [c0, c1] x fp) (hn : fp.Nodup) (hf : ∀ b ∈ fp, Free w b) (h0 : 0 ≤ k) (h1 : k + cnBigInt x ≤ 1073741824) :
    Calls Try.prog 84 #[.agg #[c0, c1], .int .i64 k] w (Post (MarkPost RBigInt [c0, c1] (mkBigInt x k) fp (k + cnBigInt x) w)) := by
  have hlt := RBigInt.lt hx
  obtain ⟨f0, f1, rfl, hr0, hr1⟩ := rep_split [c0] [c1] rfl hx
  obtain ⟨hs0, rfl⟩ := hr0
  simp only [List.nil_append] at hn hf hlt ⊢
  have HS0 := Lib.hid hs0; clear hs0
  have HR1 := Lib.hid hr1; clear hr1
  have HN := Lib.hid hn; have HF := Lib.hid hf; have HLT := Lib.hid hlt; clear hn hf hlt hx
  have hub := h1; unfold cnBigInt at hub
  have hp1 : (0 : Int) ≤ (x.2.length : Nat) := Int.natCast_nonneg _
  have hend : k + (x.2.length : Nat) = k + (cnBigInt x : Nat) := by unfold cnBigInt; omega
  have HEND := Lib.hid hend; clear hend
  go_enter Try.func84, Try.ntmps84
  have hu0 : Below w.heap.size w (w.alloc (Obj.cells #[c0, c1] 49)) := (Below.refl w.heap.size w).alloc (Nat.le_refl _) _
  go_wp2_with fail
  refine (markIntS_any _ _ _ f1 _ (RIntS.frame HR1.out fun b hb => hu0.block b (HLT.out b (hb))) HN.out (fun b hb => (HF.out b (hb)).frame (hu0.block b (HLT.out b (hb)))) (by omega) (by omega)).mono ?_
  rintro e w1 ⟨v, rfl, rfl, hm1, hu1⟩
  have HMM1 := Lib.hid hm1; clear hm1
  go_wp2
  go_ret
  exact ⟨_, rfl, congrArg (Value.int .i64) HEND.out, (rep_pair (show Rp.bool.rep _ [c0] _ [] from ⟨HS0.out, rfl⟩) HMM1.out), (Upto.of_below hu0 (Nat.le_refl _)).trans hu1⟩
set_option maxRecDepth 100000 in
set_option maxHeartbeats 400000 in
theorem markRat_any (c0 c1 c2 : Value) (x : DRat) (k : Int) (fp : List Nat) (w : World) (hx : RRat.rep w [c0, c1, c2] x fp) (hn : fp.Nodup) (hf : ∀ b ∈ fp, Free w b) (h0 : 0 ≤ k) (h1 : k + cnRat x ≤ 1073741824) :
    Calls Try.prog 41 #[.agg #[c0, c1, c2], .int .i64 k] w (Post (MarkPost RRat [c0, c1, c2] (mkRat x k) fp (k + cnRat x) w)) := by
  have hlt := RRat.lt hx
  obtain ⟨f0, f1, rfl, hr0, hr1⟩ := rep_split [c0, c1] [c2] rfl hx
  obtain ⟨nd0, nd1, dj, dj2⟩ := nodup_app hn
  have HR0 := Lib.hid hr0; clear hr0
  have HR1 := Lib.hid hr1; clear hr1
  have HN := Lib.hid hn; have HF := Lib.hid hf; have HLT := Lib.hid hlt; clear hn hf hlt hx
  have hub := h1; unfold cnRat at hub
  have hp0 : (0 : Int) ≤ (cnBigInt x.1 : Nat) := Int.natCast_nonneg _
  have hp1 : (0 : Int) ≤ (x.2.length : Nat) := Int.natCast_nonneg _
  have hend : k + (cnBigInt x.1 : Nat) + (x.2.length : Nat) = k + (cnRat x : Nat) := by unfold cnRat; omega
  have HEND := Lib.hid hend; clear hend
  go_enter Try.func41, Try.ntmps41
  have hu0 : Below w.heap.size w (w.alloc (Obj.cells #[c0, c1, c2] 51)) := (Below.refl w.heap.size w).alloc (Nat.le_refl _) _
  go_wp2_with fail
  refine (markBigInt_any _ _ _ _ f0 _ (RBigInt.frame HR0.out fun b hb => hu0.block b (HLT.out b (List.mem_append.2 (.inl hb)))) nd0 (fun b hb => (HF.out b (List.mem_append.2 (.inl hb))).frame (hu0.block b (HLT.out b (List.mem_append.2 (.inl hb))))) (by omega) (by omega)).mono ?_
  rintro e w1 ⟨v, rfl, rfl, hm1, hu1⟩
  have HMM1 := Lib.hid hm1; clear hm1
  have hcb : ∀ o, w1.cell? ⟨w.heap.size, o, none⟩ = (w.alloc (Obj.cells #[c0, c1, c2] 51)).cell? ⟨w.heap.size, o, none⟩ := fun o => hu1.cell (by simp) (fun hb => absurd (HLT.out _ (List.mem_append.2 (.inl hb))) (by omega)) o
  go_wp2_with fail
  have hr11 : RIntS.rep w1 [c2] x.2 f1 := Rp.upto (RIntS.frame HR1.out fun b hb => hu0.block b (HLT.out b (List.mem_append.2 (.inr hb)))) hu1 dj2
  have hfr1 : ∀ b ∈ f1, Free w1 b := fun b hb => ((HF.out b (List.mem_append.2 (.inr hb))).frame (hu0.block b (HLT.out b (List.mem_append.2 (.inr hb))))).frame (hu1.block b (Nat.lt_of_lt_of_le (HLT.out b (List.mem_append.2 (.inr hb))) hu0.size) (dj2 b hb))
  refine (markIntS_any _ _ _ f1 _ hr11 nd1 hfr1 (by omega) (by omega)).mono ?_
  rintro e w2 ⟨v, rfl, rfl, hm2, hu2⟩
  have HMM2 := Lib.hid hm2; clear hm2
  go_wp2
  go_ret
  exact ⟨_, rfl, congrArg (Value.int .i64) HEND.out, (rep_pair (Rp.upto HMM1.out hu2 dj) HMM2.out), ((Upto.of_below hu0 (Nat.le_refl _)).trans (hu1.mono fun b hb => List.mem_append.2 (.inl hb))).trans (hu2.mono fun b hb => List.mem_append.2 (.inr hb))⟩
set_option maxRecDepth 100000 in
set_option maxHeartbeats 400000 in
theorem markPoint_any (c0 c1 c2 c3 c4 c5 : Value) (x : DPoint) (k : Int) (fp : List Nat) (w : World) (hx : RPoint.rep w [c0, c1, c2, c3, c4, c5] x fp) (hn : fp.Nodup) (hf : ∀ b ∈ fp, Free w b) (h0 : 0 ≤ k) (h1 : k + cnPoint x ≤ 1073741824) :
    Calls Try.prog 48 #[.agg #[c0, c1, c2, c3, c4, c5], .int .i64 k] w (Post (MarkPost RPoint [c0, c1, c2, c3, c4, c5] (mkPoint x k) fp (k + cnPoint x) w)) := by
  have hlt := RPoint.lt hx
  obtain ⟨f0, f1, rfl, hr0, hr1⟩ := rep_split [c0, c1, c2] [c3, c4, c5] rfl hx
  obtain ⟨nd0, nd1, dj, dj2⟩ := nodup_app hn
  have HR0 := Lib.hid hr0; clear hr0
  have HR1 := Lib.hid hr1; clear hr1
  have HN := Lib.hid hn; have HF := Lib.hid hf; have HLT := Lib.hid hlt; clear hn hf hlt hx
  have hub := h1; unfold cnPoint at hub
  have hp0 : (0 : Int) ≤ (cnRat x.1 : Nat) := Int.natCast_nonneg _
  have hp1 : (0 : Int) ≤ (cnRat x.2 : Nat) := Int.natCast_nonneg _
  have hend : k + (cnRat x.1 : Nat) + (cnRat x.2 : Nat) = k + (cnPoint x : Nat) := by unfold cnPoint; omega
  have HEND := Lib.hid hend; clear hend
  go_enter Try.func48, Try.ntmps48
  have hu0 : Below w.heap.size w (w.alloc (Obj.cells #[c0, c1, c2, c3, c4, c5] 53)) := (Below.refl w.heap.size w).alloc (Nat.le_refl _) _
  go_wp2_with fail
  refine (markRat_any _ _ _ _ _ f0 _ (RRat.frame HR0.out fun b hb => hu0.block b (HLT.out b (List.mem_append.2 (.inl hb)))) nd0 (fun b hb => (HF.out b (List.mem_append.2 (.inl hb))).frame (hu0.block b (HLT.out b (List.mem_append.2 (.inl hb))))) (by omega) (by omega)).mono ?_
  rintro e w1 ⟨v, rfl, rfl, hm1, hu1⟩
  have HMM1 := Lib.hid hm1; clear hm1
  have hcb : ∀ o, w1.cell? ⟨w.heap.size, o, none⟩ = (w.alloc (Obj.cells #[c0, c1, c2, c3, c4, c5] 53)).cell? ⟨w.heap.size, o, none⟩ := fun o => hu1.cell (by simp) (fun hb => absurd (HLT.out _ (List.mem_append.2 (.inl hb))) (by omega)) o
  go_wp2_with fail
  have hr11 : RRat.rep w1 [c3, c4, c5] x.2 f1 := Rp.upto (RRat.frame HR1.out fun b hb => hu0.block b (HLT.out b (List.mem_append.2 (.inr hb)))) hu1 dj2
  have hfr1 : ∀ b ∈ f1, Free w1 b := fun b hb => ((HF.out b (List.mem_append.2 (.inr hb))).frame (hu0.block b (HLT.out b (List.mem_append.2 (.inr hb))))).frame (hu1.block b (Nat.lt_of_lt_of_le (HLT.out b (List.mem_append.2 (.inr hb))) hu0.size) (dj2 b hb))
  refine (markRat_any _ _ _ _ _ f1 _ hr11 nd1 hfr1 (by omega) (by omega)).mono ?_
  rintro e w2 ⟨v, rfl, rfl, hm2, hu2⟩
  have HMM2 := Lib.hid hm2; clear hm2
  go_wp2
  go_ret
  exact ⟨_, rfl, congrArg (Value.int .i64) HEND.out, (rep_pair (Rp.upto HMM1.out hu2 dj) HMM2.out), ((Upto.of_below hu0 (Nat.le_refl _)).trans (hu1.mono fun b hb => List.mem_append.2 (.inl hb))).trans (hu2.mono fun b hb => List.mem_append.2 (.inr hb))⟩
set_option maxRecDepth 100000 in
set_option maxHeartbeats 400000 in
theorem markPlacement_any (c0 c1 c2 c3 c4 c5 c6 : Value) (x : DPlacement) (k : Int) (fp : List Nat) (w : World) (hx : RPlacement.rep w [c0, c1, c2, c3, c4, c5, c6] x fp) (hn : fp.Nodup) (hf : ∀ b ∈ fp, Free w b) (h0 : 0 ≤ k) (h1 : k + cnPlacement x ≤ 1073741824) :
    Calls Try.prog 31 #[.agg #[c0, c1, c2, c3, c4, c5, c6], .int .i64 k] w (Post (MarkPost RPlacement [c0, c1, c2, c3, c4, c5, c6] (mkPlacement x k) fp (k + cnPlacement x) w)) := by
  have hlt := RPlacement.lt hx
  obtain ⟨f0, f1, rfl, hr0, hr1⟩ := rep_split [c0] [c1, c2, c3, c4, c5, c6] rfl hx
  obtain ⟨hs0, rfl, hI0⟩ := hr0
  simp only [List.nil_append] at hn hf hlt ⊢
  have HS0 := Lib.hid hs0; clear hs0
  have HI0 := Lib.hid hI0; clear hI0
  have HR1 := Lib.hid hr1; clear hr1
  have HN := Lib.hid hn; have HF := Lib.hid hf; have HLT := Lib.hid hlt; clear hn hf hlt hx
  have hub := h1; unfold cnPlacement at hub
  have hp1 : (0 : Int) ≤ (cnPoint x.2 : Nat) := Int.natCast_nonneg _
  have hend : k + (cnPoint x.2 : Nat) = k + (cnPlacement x : Nat) := by unfold cnPlacement; omega
  have HEND := Lib.hid hend; clear hend
  go_enter Try.func31, Try.ntmps31
  have hu0 : Below w.heap.size w (w.alloc (Obj.cells #[c0, c1, c2, c3, c4, c5, c6] 55)) := (Below.refl w.heap.size w).alloc (Nat.le_refl _) _
  go_wp2_with fail
  refine (markPoint_any _ _ _ _ _ _ _ _ f1 _ (RPoint.frame HR1.out fun b hb => hu0.block b (HLT.out b (hb))) HN.out (fun b hb => (HF.out b (hb)).frame (hu0.block b (HLT.out b (hb)))) (by omega) (by omega)).mono ?_
  rintro e w1 ⟨v, rfl, rfl, hm1, hu1⟩
  have HMM1 := Lib.hid hm1; clear hm1
  go_wp2
  go_ret
  exact ⟨_, rfl, congrArg (Value.int .i64) HEND.out, (rep_pair (show Rp.int.rep _ [c0] _ [] from ⟨HS0.out, rfl, HI0.out⟩) HMM1.out), (Upto.of_below hu0 (Nat.le_refl _)).trans hu1⟩
set_option maxRecDepth 100000 in
set_option maxHeartbeats 1000000 in
theorem markRatS_any (v : Value) (x : DRatS) (k : Int) (fp : List Nat) (w : World) (hx : RRatS.rep w [v] x fp) (hn : fp.Nodup) (hf : ∀ b ∈ fp, Free w b) (h0 : 0 ≤ k) (h1 : k + cnRatS x ≤ 1073741824) :
    Calls Try.prog 24 #[v, .int .i64 k] w (Post (MarkPost RRatS [v] (mkRatS x k) fp (k + cnRatS x) w)) := by
  obtain ⟨ad, c, hv, hlc, hm, hh⟩ := hx
  injection hv with hv
  subst hv
  unfold maxLen at hm
  rcases hh with ⟨rfl, rfl⟩ | ⟨b, off, fps, hl, rfl, rfl, he⟩
  · go_enter Try.func24, Try.ntmps24
    go_wp2
    go_loopw [1, 5] (fun kk i wr => i = .int .i64 0 ∧ kk = .int .i64 k ∧ wr = w) (fun _ _ _ => 0)
    case atStart => exact ⟨rfl, rfl, rfl⟩
    case round =>
      obtain ⟨rfl, rfl, rfl⟩ := hrel
      go_wp2
      go_ret
      exact ⟨_, rfl, congrArg (Value.int .i64) (by simp [cnRatS]), ⟨ad, c, rfl, hlc, by unfold maxLen; omega, .inl ⟨rfl, rfl⟩⟩, Upto.refl _ _⟩
  have HN := Lib.hid hn; have HF := Lib.hid hf; have HE := Lib.hid he; have HL := Lib.hid hl; clear hn hf he hl
  go_enter Try.func24, Try.ntmps24
  go_wp2
  go_loopw [1, 5] (fun kk i wr => ∃ j : Nat, j ≤ x.length ∧ i = .int .i64 j ∧ kk = .int .i64 (k + (cnRatS (x.take j) : Nat)) ∧ Elems RRat wr b off (mkRatS (x.take j) k ++ x.drop j) fps ∧ Upto (b :: fps.flatten) w wr) (fun _ i _ => x.length - (intOf i).toNat)
  case atStart => exact ⟨0, Nat.zero_le _, rfl, congrArg (Value.int .i64) (by simp [cnRatS]), by simpa [mkRatS] using HE.out, Upto.refl _ _⟩
  case round =>
    obtain ⟨j, hj, rfl, rfl, hE, hU⟩ := hrel
    have HEr := Lib.hid hE; have HU := Lib.hid hU; clear hE hU
    by_cases hjl : j < x.length
    rotate_left
    · obtain rfl : j = x.length := by omega
      go_wp2
      go_ret
      have h := HEr.out
      rw [List.take_length, List.drop_length, List.append_nil] at h
      have hml := mkRatS_len x k
      exact ⟨_, rfl, congrArg (Value.int .i64) (by rw [List.take_length]), ⟨_, c, by rw [hml], by rw [hml]; exact hlc, by unfold maxLen; omega, .inr ⟨b, off, fps, fun e => HL.out (List.eq_nil_of_length_eq_zero (by rw [← hml, e]; rfl)), rfl, rfl, h⟩⟩, HU.out⟩
    have hml : (mkRatS (x.take j) k).length = j := by rw [mkRatS_len, List.length_take]; omega
    have hget : (mkRatS (x.take j) k ++ x.drop j)[j]? = some x[j] := by rw [List.getElem?_append_right (by omega), hml]; simp
    obtain ⟨f, cs, hfj, hr, hcs⟩ := HEr.out.2 j _ hget
    have hfr := HU.out.free b List.mem_cons_self (HF.out b List.mem_cons_self)
    have hbf : b ∉ f := fun h => (List.nodup_cons.1 HN.out).1 (flat_mem hfj b h)
    have hff : ∀ z ∈ f, Free wr z := fun z hz => HU.out.free z (List.mem_cons_of_mem _ (flat_mem hfj z hz)) (HF.out z (List.mem_cons_of_mem _ (flat_mem hfj z hz)))
    have hfn : f.Nodup := (List.pairwise_flatten.1 (List.nodup_cons.1 HN.out).2).1 f (List.mem_of_getElem? hfj)
    have hec : cnRatS (x.take j) + ecRat x[j] = cnRatS (x.take (j + 1)) := by rw [List.take_succ_eq_append_getElem hjl, cnRatS_snoc]
    have hect := cnRatS_take x (j + 1)
    obtain ⟨q, hq⟩ : ∃ q : Int, q = k + (cnRatS (x.take j) : Nat) := ⟨_, rfl⟩
    have hq0 : 0 ≤ q := by omega
    have hq1 : q + (ecRat x[j] : Nat) ≤ 1073741824 := by omega
    rw [← hq]
    have HQ := Lib.hid hq; have HEC := Lib.hid hec; have HML := Lib.hid hml; have HFJ := Lib.hid hfj
    clear hq hec hml hget hfj hect
    obtain ⟨c0, c1, c2, rfl⟩ := list3 (RRat.len hr)
    obtain ⟨f0, f1, rfl, hp0, hp1⟩ := rep_split [c0, c1] [c2] rfl hr
    obtain ⟨f2, f3, rfl, hp2, hp3⟩ := rep_split [c0] [c1] rfl hp0
    obtain ⟨he0, rfl⟩ := hp2
    injection he0 with he0; subst he0
    have hnd := hfn
    simp only [List.nil_append, List.append_assoc] at hnd
    have HFF := Lib.hid hff; have HBF := Lib.hid hbf; clear hff hbf hfn
    obtain ⟨nd0, nd1, dd0, de0⟩ := nodup_app hnd
    have hm0 : ∀ z ∈ f3, z ∈ (([] ++ f3) ++ f1) := fun z hz => (List.mem_append.2 (.inl (List.mem_append.2 (.inr hz))))
    have nb0 : b ∉ f3 := fun h => HBF.out (hm0 b h)
    have LP0_0 := Lib.hid hp3; have FR0_0 := Lib.hid (fun (z : Nat) (hz : z ∈ f3) => HFF.out z (hm0 z hz)); clear hp3
    have hl0 : (0 : Int) ≤ (x[j].1.2.length : Nat) := Int.natCast_nonneg _
    have hm1 : ∀ z ∈ f1, z ∈ (([] ++ f3) ++ f1) := fun z hz => (List.mem_append.2 (.inr hz))
    have nb1 : b ∉ f1 := fun h => HBF.out (hm1 b h)
    have LP1_0 := Lib.hid hp1; have FR1_0 := Lib.hid (fun (z : Nat) (hz : z ∈ f1) => HFF.out z (hm1 z hz)); clear hp1
    have hl1 : (0 : Int) ≤ (x[j].2.length : Nat) := Int.natCast_nonneg _
    have hqe := hq1; simp only [ecRat, ecBigInt] at hqe
    have hbl0 : b < wr.heap.size := hfr.lt
    have g0 : wr.cell? ⟨b, off + j * 3, none⟩ = some (Value.bool x[j].1.1) := hcs 0 _ rfl
    have g1 : wr.cell? ⟨b, off + j * 3 + 1, none⟩ = some c1 := hcs 1 _ rfl
    have g2 : wr.cell? ⟨b, off + j * 3 + 2, none⟩ = some c2 := hcs 2 _ rfl
    have hfz := hfr.frozen
    have HT0 := Lib.hid (Upto.refl (b :: (([] ++ f3) ++ f1)) wr)
    clear hcs hfr
    go_wp2_with fail
    have hB0 : Upto [b] wr _ := ((Upto.refl [b] wr).setCell (p := ⟨b, off + j * 3, none⟩) List.mem_cons_self (Value.bool ((q) % 3 == 0)))
    refine (markIntS_any _ _ _ f3 _ (Rp.upto LP0_0.out hB0 (fun z hz hb => nb0 (List.mem_singleton.1 hb ▸ hz))) nd0 (fun z hz => ((FR0_0.out z hz).setCell _ _)) (by omega) (by omega)).mono ?_
    rintro e w1 ⟨v, rfl, rfl, hmm, hu1⟩
    have hbl1 : b < w1.heap.size := Nat.lt_of_lt_of_le (by simpa using hbl0) hu1.size
    have hcb1 := hu1.cell (b := b) (by simpa using hbl0) nb0
    have hfb1 := hu1.frozen (b := b) (by simpa using hbl0) nb0
    have HT1 := Lib.hid ((HT0.out.setCell (p := ⟨b, off + j * 3, none⟩) List.mem_cons_self (Value.bool ((q) % 3 == 0))).trans (hu1.mono fun z hz => List.mem_cons_of_mem _ (hm0 z hz))); clear HT0
    have HO1 := Lib.hid (fun (o : Nat) (ho : o < off + j * 3 ∨ off + j * 3 + 3 ≤ o) => (hcb1 o).trans ((setCell_out (Value.bool ((q) % 3 == 0)) (by omega)).trans rfl)); 
    have LP0_1 := Lib.hid hmm; clear hmm LP0_0
    have LP1_1 := Lib.hid (Rp.upto (Rp.upto LP1_0.out hB0 (fun z hz hb => nb1 (List.mem_singleton.1 hb ▸ hz))) hu1 (fun z hz hy => dd0 z hy (hz))); clear LP1_0
    have FR1_1 := Lib.hid (fun (z : Nat) (hz : z ∈ f1) => (((FR1_0.out z hz).setCell _ _)).frame (hu1.block z (Free.lt ((FR1_0.out z hz).setCell _ _)) ((fun z hz hy => dd0 z hy (hz)) z hz))); clear FR1_0
    clear hu1 hB0 FR0_0
    go_wp2_with fail
    have hB1 : Upto [b] w1 _ := (Upto.refl [b] w1)
    refine (markIntS_any _ _ _ f1 _ (Rp.upto LP1_1.out hB1 (fun z hz hb => nb1 (List.mem_singleton.1 hb ▸ hz))) nd1 (fun z hz => (FR1_1.out z hz)) (by omega) (by omega)).mono ?_
    rintro e w2 ⟨v, rfl, rfl, hmm, hu2⟩
    have hbl2 : b < w2.heap.size := Nat.lt_of_lt_of_le (by simpa using hbl1) hu2.size
    have hcb2 := hu2.cell (b := b) (by simpa using hbl1) nb1
    have hfb2 := hu2.frozen (b := b) (by simpa using hbl1) nb1
    have HT2 := Lib.hid (HT1.out.trans (hu2.mono fun z hz => List.mem_cons_of_mem _ (hm1 z hz))); clear HT1
    have HO2 := Lib.hid (fun (o : Nat) (ho : o < off + j * 3 ∨ off + j * 3 + 3 ≤ o) => (hcb2 o).trans (HO1.out o ho)); clear HO1
    have LP0_2 := Lib.hid (Rp.upto (Rp.upto LP0_1.out hB1 (fun z hz hb => nb0 (List.mem_singleton.1 hb ▸ hz))) hu2 (fun z hy hz => dd0 z hy (hz))); clear LP0_1
    have LP1_2 := Lib.hid hmm; clear hmm LP1_1
    clear hu2 hB1 FR1_1
    go_wp2
    go_roundw
    case rel =>
      have e0 : w2.cell? ⟨b, off + j * 3, none⟩ = some (Value.bool ((q) % 3 == 0)) := by simp [go_sem, hcb1, hcb2, g0, g1, g2]
      have e1 : w2.cell? ⟨b, off + j * 3 + 1, none⟩ = some c1 := by simp [go_sem, hcb1, hcb2, g0, g1, g2]
      have e2 : w2.cell? ⟨b, off + j * 3 + 2, none⟩ = some c2 := by simp [go_sem, hcb1, hcb2, g0, g1, g2]
      have hup := HEr.out.update (w' := w2) (x' := emRat x[j] q) (cs' := [(Value.bool ((q) % 3 == 0)), c1, c2]) HN.out HFJ.out (rep_pair (rep_pair (rep_bool [] (by first | rfl | (simp only [ecRat, ecBigInt]; omega))) (rep_cast LP0_2.out (congrArg (mkIntS _) (by first | rfl | (simp only [ecRat, ecBigInt]; omega))))) (rep_cast LP1_2.out (congrArg (mkIntS _) (by first | rfl | (simp only [ecRat, ecBigInt]; omega))))) (cells_cons e0 (cells_cons e1 (cells_cons e2 cells_nil)))
        (fun z hz hzb hzf => (HT2.out).block z hz (by rw [List.mem_cons]; exact fun h => h.elim hzb hzf))
        (fun o ho => have ho : o < off + j * 3 ∨ off + j * 3 + 3 ≤ o := by have h1 : (j + 1) * 3 = j * 3 + 3 := Nat.succ_mul _ _; have h2 : o < off + j * 3 ∨ off + (j + 1) * 3 ≤ o := ho; omega
          (HO2.out o ho))
      have e : (mkRatS (x.take j) k ++ x.drop j).set j (emRat x[j] q) = mkRatS (x.take (j + 1)) k ++ x.drop (j + 1) := by
        rw [List.set_append_right _ _ (by rw [HML.out]; exact Nat.le_refl _), HML.out, Nat.sub_self, List.drop_eq_getElem_cons hjl, List.set_cons_zero, List.take_succ_eq_append_getElem hjl, mkRatS_snoc, ← HQ.out]
        simp
      rw [e] at hup
      refine ⟨j + 1, by omega, by go_num, congrArg (Value.int .i64) ?_, hup, HU.out.trans ((HT2.out).mono ?_)⟩
      · have h1 := HQ.out; have h2 := HEC.out; simp only [ecRat, ecBigInt] at h2; omega
      · intro z hz; rcases List.mem_cons.1 hz with rfl | hz; exact List.mem_cons_self; exact List.mem_cons_of_mem _ (flat_mem HFJ.out z hz)
    case measure => simp [intOf]; omega
set_option maxRecDepth 100000 in
set_option maxHeartbeats 1000000 in
theorem markStepS_any (v : Value) (x : DStepS) (k : Int) (fp : List Nat) (w : World) (hx : RStepS.rep w [v] x fp) (hn : fp.Nodup) (hf : ∀ b ∈ fp, Free w b) (h0 : 0 ≤ k) (h1 : k + cnStepS x ≤ 1073741824) :
    Calls Try.prog 32 #[v, .int .i64 k] w (Post (MarkPost RStepS [v] (mkStepS x k) fp (k + cnStepS x) w)) := by
  obtain ⟨ad, c, hv, hlc, hm, hh⟩ := hx
  injection hv with hv
  subst hv
  unfold maxLen at hm
  rcases hh with ⟨rfl, rfl⟩ | ⟨b, off, fps, hl, rfl, rfl, he⟩
  · go_enter Try.func32, Try.ntmps32
    go_wp2
    go_loopw [1, 5] (fun kk i wr => i = .int .i64 0 ∧ kk = .int .i64 k ∧ wr = w) (fun _ _ _ => 0)
    case atStart => exact ⟨rfl, rfl, rfl⟩
    case round =>
      obtain ⟨rfl, rfl, rfl⟩ := hrel
      go_wp2
      go_ret
      exact ⟨_, rfl, congrArg (Value.int .i64) (by simp [cnStepS]), ⟨ad, c, rfl, hlc, by unfold maxLen; omega, .inl ⟨rfl, rfl⟩⟩, Upto.refl _ _⟩
  have HN := Lib.hid hn; have HF := Lib.hid hf; have HE := Lib.hid he; have HL := Lib.hid hl; clear hn hf he hl
  go_enter Try.func32, Try.ntmps32
  go_wp2
  go_loopw [1, 5] (fun kk i wr => ∃ j : Nat, j ≤ x.length ∧ i = .int .i64 j ∧ kk = .int .i64 (k + (cnStepS (x.take j) : Nat)) ∧ Elems RStep wr b off (mkStepS (x.take j) k ++ x.drop j) fps ∧ Upto (b :: fps.flatten) w wr) (fun _ i _ => x.length - (intOf i).toNat)
  case atStart => exact ⟨0, Nat.zero_le _, rfl, congrArg (Value.int .i64) (by simp [cnStepS]), by simpa [mkStepS] using HE.out, Upto.refl _ _⟩
  case round =>
    obtain ⟨j, hj, rfl, rfl, hE, hU⟩ := hrel
    have HEr := Lib.hid hE; have HU := Lib.hid hU; clear hE hU
    by_cases hjl : j < x.length
    rotate_left
    · obtain rfl : j = x.length := by omega
      go_wp2
      go_ret
      have h := HEr.out
      rw [List.take_length, List.drop_length, List.append_nil] at h
      have hml := mkStepS_len x k
      exact ⟨_, rfl, congrArg (Value.int .i64) (by rw [List.take_length]), ⟨_, c, by rw [hml], by rw [hml]; exact hlc, by unfold maxLen; omega, .inr ⟨b, off, fps, fun e => HL.out (List.eq_nil_of_length_eq_zero (by rw [← hml, e]; rfl)), rfl, rfl, h⟩⟩, HU.out⟩
    have hml : (mkStepS (x.take j) k).length = j := by rw [mkStepS_len, List.length_take]; omega
    have hget : (mkStepS (x.take j) k ++ x.drop j)[j]? = some x[j] := by rw [List.getElem?_append_right (by omega), hml]; simp
    obtain ⟨f, cs, hfj, hr, hcs⟩ := HEr.out.2 j _ hget
    have hfr := HU.out.free b List.mem_cons_self (HF.out b List.mem_cons_self)
    have hbf : b ∉ f := fun h => (List.nodup_cons.1 HN.out).1 (flat_mem hfj b h)
    have hff : ∀ z ∈ f, Free wr z := fun z hz => HU.out.free z (List.mem_cons_of_mem _ (flat_mem hfj z hz)) (HF.out z (List.mem_cons_of_mem _ (flat_mem hfj z hz)))
    have hfn : f.Nodup := (List.pairwise_flatten.1 (List.nodup_cons.1 HN.out).2).1 f (List.mem_of_getElem? hfj)
    have hec : cnStepS (x.take j) + ecStep x[j] = cnStepS (x.take (j + 1)) := by rw [List.take_succ_eq_append_getElem hjl, cnStepS_snoc]
    have hect := cnStepS_take x (j + 1)
    obtain ⟨q, hq⟩ : ∃ q : Int, q = k + (cnStepS (x.take j) : Nat) := ⟨_, rfl⟩
    have hq0 : 0 ≤ q := by omega
    have hq1 : q + (ecStep x[j] : Nat) ≤ 1073741824 := by omega
    rw [← hq]
    have HQ := Lib.hid hq; have HEC := Lib.hid hec; have HML := Lib.hid hml; have HFJ := Lib.hid hfj
    clear hq hec hml hget hfj hect
    obtain ⟨c0, c1, c2, c3, c4, c5, c6, rfl⟩ := list7 (RStep.len hr)
    obtain ⟨f0, f1, rfl, hp0, hp1⟩ := rep_split [c0] [c1, c2, c3, c4, c5, c6] rfl hr
    obtain ⟨f2, f3, rfl, hp2, hp3⟩ := rep_split [c1, c2, c3] [c4, c5, c6] rfl hp1
    obtain ⟨f4, f5, rfl, hp4, hp5⟩ := rep_split [c1, c2] [c3] rfl hp2
    obtain ⟨f6, f7, rfl, hp6, hp7⟩ := rep_split [c1] [c2] rfl hp4
    obtain ⟨f8, f9, rfl, hp8, hp9⟩ := rep_split [c4, c5] [c6] rfl hp3
    obtain ⟨f10, f11, rfl, hp10, hp11⟩ := rep_split [c4] [c5] rfl hp8
    obtain ⟨he0, rfl, hI0⟩ := hp0
    injection he0 with he0; subst he0
    obtain ⟨he1, rfl⟩ := hp6
    injection he1 with he1; subst he1
    obtain ⟨he4, rfl⟩ := hp10
    injection he4 with he4; subst he4
    have hnd := hfn
    simp only [List.nil_append, List.append_assoc] at hnd
    have HFF := Lib.hid hff; have HBF := Lib.hid hbf; clear hff hbf hfn
    obtain ⟨nd0, hnd0, dd0, de0⟩ := nodup_app hnd
    obtain ⟨nd1, hnd1, dd1, de1⟩ := nodup_app hnd0
    obtain ⟨nd2, nd3, dd2, de2⟩ := nodup_app hnd1
    have hm0 : ∀ z ∈ f7, z ∈ ([] ++ ((([] ++ f7) ++ f5) ++ (([] ++ f11) ++ f9))) := fun z hz => (List.mem_append.2 (.inr (List.mem_append.2 (.inl (List.mem_append.2 (.inl (List.mem_append.2 (.inr hz))))))))
    have nb0 : b ∉ f7 := fun h => HBF.out (hm0 b h)
    have LP0_0 := Lib.hid hp7; have FR0_0 := Lib.hid (fun (z : Nat) (hz : z ∈ f7) => HFF.out z (hm0 z hz)); clear hp7
    have hl0 : (0 : Int) ≤ (x[j].2.1.1.2.length : Nat) := Int.natCast_nonneg _
    have hm1 : ∀ z ∈ f5, z ∈ ([] ++ ((([] ++ f7) ++ f5) ++ (([] ++ f11) ++ f9))) := fun z hz => (List.mem_append.2 (.inr (List.mem_append.2 (.inl (List.mem_append.2 (.inr hz))))))
    have nb1 : b ∉ f5 := fun h => HBF.out (hm1 b h)
    have LP1_0 := Lib.hid hp5; have FR1_0 := Lib.hid (fun (z : Nat) (hz : z ∈ f5) => HFF.out z (hm1 z hz)); clear hp5
    have hl1 : (0 : Int) ≤ (x[j].2.1.2.length : Nat) := Int.natCast_nonneg _
    have hm2 : ∀ z ∈ f11, z ∈ ([] ++ ((([] ++ f7) ++ f5) ++ (([] ++ f11) ++ f9))) := fun z hz => (List.mem_append.2 (.inr (List.mem_append.2 (.inr (List.mem_append.2 (.inl (List.mem_append.2 (.inr hz))))))))
    have nb2 : b ∉ f11 := fun h => HBF.out (hm2 b h)
    have LP2_0 := Lib.hid hp11; have FR2_0 := Lib.hid (fun (z : Nat) (hz : z ∈ f11) => HFF.out z (hm2 z hz)); clear hp11
    have hl2 : (0 : Int) ≤ (x[j].2.2.1.2.length : Nat) := Int.natCast_nonneg _
    have hm3 : ∀ z ∈ f9, z ∈ ([] ++ ((([] ++ f7) ++ f5) ++ (([] ++ f11) ++ f9))) := fun z hz => (List.mem_append.2 (.inr (List.mem_append.2 (.inr (List.mem_append.2 (.inr hz))))))
    have nb3 : b ∉ f9 := fun h => HBF.out (hm3 b h)
    have LP3_0 := Lib.hid hp9; have FR3_0 := Lib.hid (fun (z : Nat) (hz : z ∈ f9) => HFF.out z (hm3 z hz)); clear hp9
    have hl3 : (0 : Int) ≤ (x[j].2.2.2.length : Nat) := Int.natCast_nonneg _
    have hqe := hq1; simp only [ecStep, ecPoint, ecRat, ecBigInt] at hqe
    have hbl0 : b < wr.heap.size := hfr.lt
    have g0 : wr.cell? ⟨b, off + j * 7, none⟩ = some (Value.int .i64 x[j].1) := hcs 0 _ rfl
    have g1 : wr.cell? ⟨b, off + j * 7 + 1, none⟩ = some (Value.bool x[j].2.1.1.1) := hcs 1 _ rfl
    have g2 : wr.cell? ⟨b, off + j * 7 + 2, none⟩ = some c2 := hcs 2 _ rfl
    have g3 : wr.cell? ⟨b, off + j * 7 + 3, none⟩ = some c3 := hcs 3 _ rfl
    have g4 : wr.cell? ⟨b, off + j * 7 + 4, none⟩ = some (Value.bool x[j].2.2.1.1) := hcs 4 _ rfl
    have g5 : wr.cell? ⟨b, off + j * 7 + 5, none⟩ = some c5 := hcs 5 _ rfl
    have g6 : wr.cell? ⟨b, off + j * 7 + 6, none⟩ = some c6 := hcs 6 _ rfl
    have hfz := hfr.frozen
    have HT0 := Lib.hid (Upto.refl (b :: ([] ++ ((([] ++ f7) ++ f5) ++ (([] ++ f11) ++ f9)))) wr)
    clear hcs hfr
    go_wp2_with fail
    have hB0 : Upto [b] wr _ := (((Upto.refl [b] wr).setCell (p := ⟨b, off + j * 7, none⟩) List.mem_cons_self (Value.int .i64 (q))).setCell (p := ⟨b, off + j * 7 + 1, none⟩) List.mem_cons_self (Value.bool ((q + 1) % 3 == 0)))
    refine (markIntS_any _ _ _ f7 _ (Rp.upto LP0_0.out hB0 (fun z hz hb => nb0 (List.mem_singleton.1 hb ▸ hz))) nd0 (fun z hz => (((FR0_0.out z hz).setCell _ _).setCell _ _)) (by omega) (by omega)).mono ?_
    rintro e w1 ⟨v, rfl, rfl, hmm, hu1⟩
    have hbl1 : b < w1.heap.size := Nat.lt_of_lt_of_le (by simpa using hbl0) hu1.size
    have hcb1 := hu1.cell (b := b) (by simpa using hbl0) nb0
    have hfb1 := hu1.frozen (b := b) (by simpa using hbl0) nb0
    have HT1 := Lib.hid (((HT0.out.setCell (p := ⟨b, off + j * 7, none⟩) List.mem_cons_self (Value.int .i64 (q))).setCell (p := ⟨b, off + j * 7 + 1, none⟩) List.mem_cons_self (Value.bool ((q + 1) % 3 == 0))).trans (hu1.mono fun z hz => List.mem_cons_of_mem _ (hm0 z hz))); clear HT0
    have HO1 := Lib.hid (fun (o : Nat) (ho : o < off + j * 7 ∨ off + j * 7 + 7 ≤ o) => (hcb1 o).trans ((setCell_out (Value.bool ((q + 1) % 3 == 0)) (by omega)).trans ((setCell_out (Value.int .i64 (q)) (by omega)).trans rfl))); 
    have LP0_1 := Lib.hid hmm; clear hmm LP0_0
    have LP1_1 := Lib.hid (Rp.upto (Rp.upto LP1_0.out hB0 (fun z hz hb => nb1 (List.mem_singleton.1 hb ▸ hz))) hu1 (fun z hz hy => dd0 z hy (List.mem_append.2 (.inl hz)))); clear LP1_0
    have FR1_1 := Lib.hid (fun (z : Nat) (hz : z ∈ f5) => ((((FR1_0.out z hz).setCell _ _).setCell _ _)).frame (hu1.block z (Free.lt (((FR1_0.out z hz).setCell _ _).setCell _ _)) ((fun z hz hy => dd0 z hy (List.mem_append.2 (.inl hz))) z hz))); clear FR1_0
    have LP2_1 := Lib.hid (Rp.upto (Rp.upto LP2_0.out hB0 (fun z hz hb => nb2 (List.mem_singleton.1 hb ▸ hz))) hu1 (fun z hz hy => dd0 z hy (List.mem_append.2 (.inr (List.mem_append.2 (.inl hz)))))); clear LP2_0
    have FR2_1 := Lib.hid (fun (z : Nat) (hz : z ∈ f11) => ((((FR2_0.out z hz).setCell _ _).setCell _ _)).frame (hu1.block z (Free.lt (((FR2_0.out z hz).setCell _ _).setCell _ _)) ((fun z hz hy => dd0 z hy (List.mem_append.2 (.inr (List.mem_append.2 (.inl hz))))) z hz))); clear FR2_0
    have LP3_1 := Lib.hid (Rp.upto (Rp.upto LP3_0.out hB0 (fun z hz hb => nb3 (List.mem_singleton.1 hb ▸ hz))) hu1 (fun z hz hy => dd0 z hy (List.mem_append.2 (.inr (List.mem_append.2 (.inr (hz))))))); clear LP3_0
    have FR3_1 := Lib.hid (fun (z : Nat) (hz : z ∈ f9) => ((((FR3_0.out z hz).setCell _ _).setCell _ _)).frame (hu1.block z (Free.lt (((FR3_0.out z hz).setCell _ _).setCell _ _)) ((fun z hz hy => dd0 z hy (List.mem_append.2 (.inr (List.mem_append.2 (.inr (hz)))))) z hz))); clear FR3_0
    clear hu1 hB0 FR0_0
    go_wp2_with fail
    have hB1 : Upto [b] w1 _ := (Upto.refl [b] w1)
    refine (markIntS_any _ _ _ f5 _ (Rp.upto LP1_1.out hB1 (fun z hz hb => nb1 (List.mem_singleton.1 hb ▸ hz))) nd1 (fun z hz => (FR1_1.out z hz)) (by omega) (by omega)).mono ?_
    rintro e w2 ⟨v, rfl, rfl, hmm, hu2⟩
    have hbl2 : b < w2.heap.size := Nat.lt_of_lt_of_le (by simpa using hbl1) hu2.size
    have hcb2 := hu2.cell (b := b) (by simpa using hbl1) nb1
    have hfb2 := hu2.frozen (b := b) (by simpa using hbl1) nb1
    have HT2 := Lib.hid (HT1.out.trans (hu2.mono fun z hz => List.mem_cons_of_mem _ (hm1 z hz))); clear HT1
    have HO2 := Lib.hid (fun (o : Nat) (ho : o < off + j * 7 ∨ off + j * 7 + 7 ≤ o) => (hcb2 o).trans (HO1.out o ho)); clear HO1
    have LP0_2 := Lib.hid (Rp.upto (Rp.upto LP0_1.out hB1 (fun z hz hb => nb0 (List.mem_singleton.1 hb ▸ hz))) hu2 (fun z hy hz => dd0 z hy (List.mem_append.2 (.inl hz)))); clear LP0_1
    have LP1_2 := Lib.hid hmm; clear hmm LP1_1
    have LP2_2 := Lib.hid (Rp.upto (Rp.upto LP2_1.out hB1 (fun z hz hb => nb2 (List.mem_singleton.1 hb ▸ hz))) hu2 (fun z hz hy => dd1 z hy (List.mem_append.2 (.inl hz)))); clear LP2_1
    have FR2_2 := Lib.hid (fun (z : Nat) (hz : z ∈ f11) => ((FR2_1.out z hz)).frame (hu2.block z (Free.lt (FR2_1.out z hz)) ((fun z hz hy => dd1 z hy (List.mem_append.2 (.inl hz))) z hz))); clear FR2_1
    have LP3_2 := Lib.hid (Rp.upto (Rp.upto LP3_1.out hB1 (fun z hz hb => nb3 (List.mem_singleton.1 hb ▸ hz))) hu2 (fun z hz hy => dd1 z hy (List.mem_append.2 (.inr (hz))))); clear LP3_1
    have FR3_2 := Lib.hid (fun (z : Nat) (hz : z ∈ f9) => ((FR3_1.out z hz)).frame (hu2.block z (Free.lt (FR3_1.out z hz)) ((fun z hz hy => dd1 z hy (List.mem_append.2 (.inr (hz)))) z hz))); clear FR3_1
    clear hu2 hB1 FR1_1
    go_wp2_with fail
    have hB2 : Upto [b] w2 _ := ((Upto.refl [b] w2).setCell (p := ⟨b, off + j * 7 + 4, none⟩) List.mem_cons_self (Value.bool ((q + 1 + 1 + (x[j].2.1.1.2.length : Nat) + (x[j].2.1.2.length : Nat)) % 3 == 0)))
    refine (markIntS_any _ _ _ f11 _ (Rp.upto LP2_2.out hB2 (fun z hz hb => nb2 (List.mem_singleton.1 hb ▸ hz))) nd2 (fun z hz => ((FR2_2.out z hz).setCell _ _)) (by omega) (by omega)).mono ?_
    rintro e w3 ⟨v, rfl, rfl, hmm, hu3⟩
    have hbl3 : b < w3.heap.size := Nat.lt_of_lt_of_le (by simpa using hbl2) hu3.size
    have hcb3 := hu3.cell (b := b) (by simpa using hbl2) nb2
    have hfb3 := hu3.frozen (b := b) (by simpa using hbl2) nb2
    have HT3 := Lib.hid ((HT2.out.setCell (p := ⟨b, off + j * 7 + 4, none⟩) List.mem_cons_self (Value.bool ((q + 1 + 1 + (x[j].2.1.1.2.length : Nat) + (x[j].2.1.2.length : Nat)) % 3 == 0))).trans (hu3.mono fun z hz => List.mem_cons_of_mem _ (hm2 z hz))); clear HT2
    have HO3 := Lib.hid (fun (o : Nat) (ho : o < off + j * 7 ∨ off + j * 7 + 7 ≤ o) => (hcb3 o).trans ((setCell_out (Value.bool ((q + 1 + 1 + (x[j].2.1.1.2.length : Nat) + (x[j].2.1.2.length : Nat)) % 3 == 0)) (by omega)).trans (HO2.out o ho))); clear HO2
    have LP0_3 := Lib.hid (Rp.upto (Rp.upto LP0_2.out hB2 (fun z hz hb => nb0 (List.mem_singleton.1 hb ▸ hz))) hu3 (fun z hy hz => dd0 z hy (List.mem_append.2 (.inr (List.mem_append.2 (.inl hz)))))); clear LP0_2
    have LP1_3 := Lib.hid (Rp.upto (Rp.upto LP1_2.out hB2 (fun z hz hb => nb1 (List.mem_singleton.1 hb ▸ hz))) hu3 (fun z hy hz => dd1 z hy (List.mem_append.2 (.inl hz)))); clear LP1_2
    have LP2_3 := Lib.hid hmm; clear hmm LP2_2
    have LP3_3 := Lib.hid (Rp.upto (Rp.upto LP3_2.out hB2 (fun z hz hb => nb3 (List.mem_singleton.1 hb ▸ hz))) hu3 (fun z hz hy => dd2 z hy (hz))); clear LP3_2
    have FR3_3 := Lib.hid (fun (z : Nat) (hz : z ∈ f9) => (((FR3_2.out z hz).setCell _ _)).frame (hu3.block z (Free.lt ((FR3_2.out z hz).setCell _ _)) ((fun z hz hy => dd2 z hy (hz)) z hz))); clear FR3_2
    clear hu3 hB2 FR2_2
    go_wp2_with fail
    have hB3 : Upto [b] w3 _ := (Upto.refl [b] w3)
    refine (markIntS_any _ _ _ f9 _ (Rp.upto LP3_3.out hB3 (fun z hz hb => nb3 (List.mem_singleton.1 hb ▸ hz))) nd3 (fun z hz => (FR3_3.out z hz)) (by omega) (by omega)).mono ?_
    rintro e w4 ⟨v, rfl, rfl, hmm, hu4⟩
    have hbl4 : b < w4.heap.size := Nat.lt_of_lt_of_le (by simpa using hbl3) hu4.size
    have hcb4 := hu4.cell (b := b) (by simpa using hbl3) nb3
    have hfb4 := hu4.frozen (b := b) (by simpa using hbl3) nb3
    have HT4 := Lib.hid (HT3.out.trans (hu4.mono fun z hz => List.mem_cons_of_mem _ (hm3 z hz))); clear HT3
    have HO4 := Lib.hid (fun (o : Nat) (ho : o < off + j * 7 ∨ off + j * 7 + 7 ≤ o) => (hcb4 o).trans (HO3.out o ho)); clear HO3
    have LP0_4 := Lib.hid (Rp.upto (Rp.upto LP0_3.out hB3 (fun z hz hb => nb0 (List.mem_singleton.1 hb ▸ hz))) hu4 (fun z hy hz => dd0 z hy (List.mem_append.2 (.inr (List.mem_append.2 (.inr (hz))))))); clear LP0_3
    have LP1_4 := Lib.hid (Rp.upto (Rp.upto LP1_3.out hB3 (fun z hz hb => nb1 (List.mem_singleton.1 hb ▸ hz))) hu4 (fun z hy hz => dd1 z hy (List.mem_append.2 (.inr (hz))))); clear LP1_3
    have LP2_4 := Lib.hid (Rp.upto (Rp.upto LP2_3.out hB3 (fun z hz hb => nb2 (List.mem_singleton.1 hb ▸ hz))) hu4 (fun z hy hz => dd2 z hy (hz))); clear LP2_3
    have LP3_4 := Lib.hid hmm; clear hmm LP3_3
    clear hu4 hB3 FR3_3
    go_wp2
    go_roundw
    case rel =>
      have e0 : w4.cell? ⟨b, off + j * 7, none⟩ = some (Value.int .i64 (q)) := by simp [go_sem, hcb1, hcb2, hcb3, hcb4, g0, g1, g2, g3, g4, g5, g6]
      have e1 : w4.cell? ⟨b, off + j * 7 + 1, none⟩ = some (Value.bool ((q + 1) % 3 == 0)) := by simp [go_sem, hcb1, hcb2, hcb3, hcb4, g0, g1, g2, g3, g4, g5, g6]
      have e2 : w4.cell? ⟨b, off + j * 7 + 2, none⟩ = some c2 := by simp [go_sem, hcb1, hcb2, hcb3, hcb4, g0, g1, g2, g3, g4, g5, g6]
      have e3 : w4.cell? ⟨b, off + j * 7 + 3, none⟩ = some c3 := by simp [go_sem, hcb1, hcb2, hcb3, hcb4, g0, g1, g2, g3, g4, g5, g6]
      have e4 : w4.cell? ⟨b, off + j * 7 + 4, none⟩ = some (Value.bool ((q + 1 + 1 + (x[j].2.1.1.2.length : Nat) + (x[j].2.1.2.length : Nat)) % 3 == 0)) := by simp [go_sem, hcb1, hcb2, hcb3, hcb4, g0, g1, g2, g3, g4, g5, g6]
      have e5 : w4.cell? ⟨b, off + j * 7 + 5, none⟩ = some c5 := by simp [go_sem, hcb1, hcb2, hcb3, hcb4, g0, g1, g2, g3, g4, g5, g6]
      have e6 : w4.cell? ⟨b, off + j * 7 + 6, none⟩ = some c6 := by simp [go_sem, hcb1, hcb2, hcb3, hcb4, g0, g1, g2, g3, g4, g5, g6]
      have hup := HEr.out.update (w' := w4) (x' := emStep x[j] q) (cs' := [(Value.int .i64 (q)), (Value.bool ((q + 1) % 3 == 0)), c2, c3, (Value.bool ((q + 1 + 1 + (x[j].2.1.1.2.length : Nat) + (x[j].2.1.2.length : Nat)) % 3 == 0)), c5, c6]) HN.out HFJ.out (rep_pair (rep_int [] (by first | rfl | (simp only [ecStep, ecPoint, ecRat, ecBigInt]; omega)) (by constructor <;> omega)) (rep_pair (rep_pair (rep_pair (rep_bool [] (by first | rfl | (simp only [ecStep, ecPoint, ecRat, ecBigInt]; omega))) (rep_cast LP0_4.out (congrArg (mkIntS _) (by first | rfl | (simp only [ecStep, ecPoint, ecRat, ecBigInt]; omega))))) (rep_cast LP1_4.out (congrArg (mkIntS _) (by first | rfl | (simp only [ecStep, ecPoint, ecRat, ecBigInt]; omega))))) (rep_pair (rep_pair (rep_bool [] (by first | rfl | (simp only [ecStep, ecPoint, ecRat, ecBigInt]; omega))) (rep_cast LP2_4.out (congrArg (mkIntS _) (by first | rfl | (simp only [ecStep, ecPoint, ecRat, ecBigInt]; omega))))) (rep_cast LP3_4.out (congrArg (mkIntS _) (by first | rfl | (simp only [ecStep, ecPoint, ecRat, ecBigInt]; omega))))))) (cells_cons e0 (cells_cons e1 (cells_cons e2 (cells_cons e3 (cells_cons e4 (cells_cons e5 (cells_cons e6 cells_nil)))))))
        (fun z hz hzb hzf => (HT4.out).block z hz (by rw [List.mem_cons]; exact fun h => h.elim hzb hzf))
        (fun o ho => have ho : o < off + j * 7 ∨ off + j * 7 + 7 ≤ o := by have h1 : (j + 1) * 7 = j * 7 + 7 := Nat.succ_mul _ _; have h2 : o < off + j * 7 ∨ off + (j + 1) * 7 ≤ o := ho; omega
          (HO4.out o ho))
      have e : (mkStepS (x.take j) k ++ x.drop j).set j (emStep x[j] q) = mkStepS (x.take (j + 1)) k ++ x.drop (j + 1) := by
        rw [List.set_append_right _ _ (by rw [HML.out]; exact Nat.le_refl _), HML.out, Nat.sub_self, List.drop_eq_getElem_cons hjl, List.set_cons_zero, List.take_succ_eq_append_getElem hjl, mkStepS_snoc, ← HQ.out]
        simp
      rw [e] at hup
      refine ⟨j + 1, by omega, by go_num, congrArg (Value.int .i64) ?_, hup, HU.out.trans ((HT4.out).mono ?_)⟩
      · have h1 := HQ.out; have h2 := HEC.out; simp only [ecStep, ecPoint, ecRat, ecBigInt] at h2; omega
      · intro z hz; rcases List.mem_cons.1 hz with rfl | hz; exact List.mem_cons_self; exact List.mem_cons_of_mem _ (flat_mem HFJ.out z hz)
    case measure => simp [intOf]; omega
end Go.Proofs.Ytjkbecgenjhaaaa
