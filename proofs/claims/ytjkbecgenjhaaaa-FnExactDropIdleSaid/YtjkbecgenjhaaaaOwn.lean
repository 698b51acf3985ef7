/-
  Copies in memory of the call's own: numbers' limbs, fractions, points, motions.
-/
import Derived.Test.YtjkbecgenjhaaaaInts
import Derived.Test.YtjkbecgenjhaaaaProg
import Derived.Deep.RegionHeld3
namespace Go.Proofs.Ytjkbecgenjhaaaa
open Go.RowKit
theorem infoI : (Try.prog.info? 3).map (fun i => (i.zero, i.size, i.bytes)) = some (some (.int .i64 0), 1, 8) := by kernel_rfl

set_option maxRecDepth 100000 in
set_option maxHeartbeats 400000 in
theorem clone_any (v : Value) (l : DIntS) (w : World) (hl : Has RIntS w [v] l) (hs : l.length ≤ 1099511627776) :
    Calls Try.prog 115 #[v] w (Post (Own1Post RIntS l w)) := by
  obtain ⟨i0, hi, hz0, hz1, hz2⟩ := info_parts infoI
  have HL := Lib.hid hl
  obtain ⟨ad, c, rfl, hc, hm⟩ := hl.len_slice
  unfold maxLen at hm
  clear hl
  cases ad with
  | none =>
    have h0 : l = [] := by
      obtain ⟨fp, a, c', h1, _, _, h4⟩ := HL.out
      rcases h4 with ⟨h, _⟩ | ⟨_, _, _, _, h, _⟩
      · exact h
      · injection h1 with h1; injection h1 with h1; rw [h] at h1; cases h1
    subst h0
    have hq : ∀ W, (binOp .eql 30 (.slice none 0 c) (.slice none 0 0)).run Try.prog W = .ok (.bool true) W := fun (W : World) => Lib.run_eql_slice_nil (P := Try.prog) W 30 3 none 0 c 0 0 Try.underlying30
    go_enter Try.func115, Try.ntmps115
    go_wp2
    go_ret
    exact ⟨_, rfl, ⟨[], ⟨none, 0, rfl, Nat.le_refl _, Nat.zero_le _, .inl ⟨rfl, rfl⟩⟩, List.nodup_nil, fun b hb => by cases hb⟩, Below.refl _ _⟩
  | some a =>
    have hq : ∀ W, (binOp .eql 30 (.slice (some a) l.length c) (.slice none 0 0)).run Try.prog W = .ok (.bool false) W := fun (W : World) => Lib.run_eql_slice_nil (P := Try.prog) W 30 3 (some a) l.length c 0 0 Try.underlying30
    have HG := Lib.hid (Grow.lit Rp.int true w 3 (Nat.le_refl _))
    go_enter Try.func115, Try.ntmps115
    go_wp2_with (at_builtin; refine wpList_append_ints _ rfl _ _ _ rfl 3 i0 Try.underlying30 hi hz0 hz1 hz2 rfl HG.out _ rfl (HL.out.below ((Below.refl _ _).alloc (Nat.le_refl _) _)) (by simp; omega) (by simp) ?_)
    intro v' w' hg hgr hat
    have hb : Below w.heap.size w w' := ((Below.refl _ _).alloc (Nat.le_refl _) _).grown hgr (by simp) (fun k hk => by simp [Value.ownBlock] at hk; omega)
    go_wp2
    go_ret
    exact ⟨_, rfl, hg.own, hb⟩

set_option maxRecDepth 100000 in
set_option maxHeartbeats 400000 in
theorem ownRat_any (c0 c1 c2 : Value) (x : DRat) (w : World) (hx : Has RRat w [c0, c1, c2] x) (hs1 : x.1.2.length ≤ 1099511627776) (hs2 : x.2.length ≤ 1099511627776) :
    Calls Try.prog 81 #[.agg #[c0, c1, c2]] w (Post (OwnPost RRat x w)) := by
  obtain ⟨hx0, hx1⟩ := hx.split [c0, c1] [c2] rfl
  obtain ⟨hx00, hx01⟩ := hx0.split [c0] [c1] rfl
  obtain rfl := hx00.bool
  have HX1 := Lib.hid hx01; have HX2 := Lib.hid hx1
  clear hx hx0 hx1 hx00 hx01
  have HS1 := Lib.hid hs1; have HS2 := Lib.hid hs2; clear hs1 hs2
  go_enter Try.func81, Try.ntmps81
  go_wp2
  go_region_held3 (fun w' => w'.cell? ⟨w.heap.size, 0, none⟩ = some (.bool x.1.1) ∧ w'.cell? ⟨w.heap.size, 1, none⟩ = some c1 ∧ w'.cell? ⟨w.heap.size, 2, none⟩ = some c2)
    (first | go_keep | exact ⟨hk1_0, hk1_1, hk1_2⟩ | exact ⟨hk2_0, hk2_1, hk2_2⟩)
    (first
      | (go_at_call_of 115 c1; refine (clone_any _ _ _ (HX1.out.below ((((Below.refl w.heap.size w).alloc (Nat.le_refl _) _).alloc (by simp <;> omega) _).drew)) HS1.out).mono ?_; rintro e w1 ⟨v1, rfl, ho1, hc1⟩; have hk1_0 : w1.cell? ⟨w.heap.size, 0, none⟩ = some (.bool x.1.1) := (hc1.cell (p := ⟨w.heap.size, 0, none⟩) (by simp <;> omega)).trans (by simp [go_sem]); have hk1_1 : w1.cell? ⟨w.heap.size, 1, none⟩ = some c1 := (hc1.cell (p := ⟨w.heap.size, 1, none⟩) (by simp <;> omega)).trans (by simp [go_sem]); have hk1_2 : w1.cell? ⟨w.heap.size, 2, none⟩ = some c2 := (hc1.cell (p := ⟨w.heap.size, 2, none⟩) (by simp <;> omega)).trans (by simp [go_sem]); obtain ⟨ad1, cap1, rfl, _, _⟩ := ho1.has.len_slice; obtain ⟨hcr1, hfr1⟩ := bcell hc1; have hz1 := hc1.size; simp at hz1; have hlt0 : w.heap.size < w1.heap.size := (by omega); have hlt1 : w.heap.size + 1 < w1.heap.size := (by omega); have hbq : Below w.heap.size w w1 := Below.up ((((Below.refl w.heap.size w).alloc (Nat.le_refl _) _).alloc (by simp <;> omega) _).drew) hc1 (by simp <;> omega); simp only [World.size_drew, World.size_alloc] at ho1)
      | (go_at_call_of 115 c2; refine (clone_any _ _ _ (HX2.out.below hbq) HS2.out).mono ?_; rintro e w2 ⟨v2, rfl, ho2, hc2⟩; have hk2_0 := (hc2.cell (p := ⟨w.heap.size, 0, none⟩) hlt0).trans hk1_0; have hk2_1 := (hc2.cell (p := ⟨w.heap.size, 1, none⟩) hlt0).trans hk1_1; have hk2_2 := (hc2.cell (p := ⟨w.heap.size, 2, none⟩) hlt0).trans hk1_2; obtain ⟨ad2, cap2, rfl, _, _⟩ := ho2.has.len_slice; obtain ⟨hcr2, hfr2⟩ := bcell hc2; have HO1 := Lib.hid (ho1.inn.below hc2 (Nat.le_refl _)); have HO2 := Lib.hid ho2.inn; have hbw2 := Below.up hbq hc2 (by omega); clear ho1 ho2))
  rename_i hh
  clear hh
  go_wp2
  refine bodyPost_ret (v := .agg #[.bool x.1.1, .slice ad1 x.1.2.length cap1, .slice ad2 x.2.length cap2]) (by simp [results, go_sem, hcr2, hlt1, hcr1]) rfl ⟨_, rfl, ⟨[.bool x.1.1, .slice ad1 x.1.2.length cap1, .slice ad2 x.2.length cap2], rfl, ?_⟩, ?_⟩
  · have G1 := ((HO1.out.setCell (p := ⟨w.heap.size + 1, 0, none⟩) (.inl (by simp)) (.bool x.1.1)).setCell (p := ⟨w.heap.size + 1, 1, none⟩) (.inl (by simp)) (.slice ad1 x.1.2.length cap1)).setCell (p := ⟨w.heap.size + 1, 2, none⟩) (.inl (by simp)) (.slice ad2 x.2.length cap2)
    have G2 := ((HO2.out.setCell (p := ⟨w.heap.size + 1, 0, none⟩) (.inl hlt1) (.bool x.1.1)).setCell (p := ⟨w.heap.size + 1, 1, none⟩) (.inl hlt1) (.slice ad1 x.1.2.length cap1)).setCell (p := ⟨w.heap.size + 1, 2, none⟩) (.inl hlt1) (.slice ad2 x.2.length cap2)
    exact OwnIn.own (OwnIn.pair (OwnIn.pair (OwnIn.bool (w.heap.size + 1 + 1) _ x.1.1) G1 (by omega) (by omega) (by omega)) G2 (by omega) (by omega) (by have := hc2.size; omega)) (by omega)
  · exact ((hbw2.setCell (p := ⟨w.heap.size + 1, 0, none⟩) (by simp) _).setCell (p := ⟨w.heap.size + 1, 1, none⟩) (by simp) _).setCell (p := ⟨w.heap.size + 1, 2, none⟩) (by simp) _
end Go.Proofs.Ytjkbecgenjhaaaa
