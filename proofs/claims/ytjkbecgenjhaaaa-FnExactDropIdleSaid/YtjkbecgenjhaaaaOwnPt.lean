/-
  The reference's and the program's copies of points. Printed by gen5.py.
-/
import Derived.Test.YtjkbecgenjhaaaaCopy
namespace Go.Proofs.Ytjkbecgenjhaaaa
open Go.RowKit
theorem ownRat_t (c0 c1 c2 : Value) (x : DRat) (w : World) (hx : Has RRat w [c0, c1, c2] x) (hs : tRat x ≤ 1099511627776) :
    Calls Try.prog 81 #[.agg #[c0, c1, c2]] w (Post (OwnPost RRat x w)) := ownRat_any c0 c1 c2 x w hx (by unfold tRat tBigInt at hs; omega) (by unfold tRat tBigInt at hs; omega)
theorem l04Copy_t (c0 c1 c2 : Value) (x : DRat) (w : World) (hx : Has RRat w [c0, c1, c2] x) (hs : tRat x ≤ 1099511627776) :
    Calls Try.prog 79 #[.agg #[c0, c1, c2]] w (Post (NewPost RRat x w)) := l04Copy_any c0 c1 c2 x w hx (by unfold tRat tBigInt at hs; omega) (by unfold tRat tBigInt at hs; omega)

set_option maxRecDepth 100000 in
set_option maxHeartbeats 400000 in
theorem ownPoint_any (c0 c1 c2 c3 c4 c5 : Value) (x : DPoint) (w : World) (hx : Has RPoint w [c0, c1, c2, c3, c4, c5] x) (hs : tPoint x ≤ 1099511627776) :
    Calls Try.prog 100 #[.agg #[c0, c1, c2, c3, c4, c5]] w (Post (OwnPost RPoint x w)) := by
  obtain ⟨hx0, hx1⟩ := hx.split [c0, c1, c2] [c3, c4, c5] rfl
  have hs1 : tRat x.1 ≤ 1099511627776 := by unfold tPoint at hs; omega
  have hs2 : tRat x.2 ≤ 1099511627776 := by unfold tPoint at hs; omega
  have HX1 := Lib.hid hx0; have HX2 := Lib.hid hx1; have HS1 := Lib.hid hs1; have HS2 := Lib.hid hs2
  have ho0 := hx0.one 0 c0 rfl
  have ho1 := hx0.one 1 c1 rfl
  have ho2 := hx0.one 2 c2 rfl
  have ho3 := hx1.one 0 c3 rfl
  have ho4 := hx1.one 1 c4 rfl
  have ho5 := hx1.one 2 c5 rfl
  clear hx hx0 hx1 hs hs1 hs2
  go_enter Try.func100, Try.ntmps100
  go_wp2
  go_region_held3 (fun w' => w'.cell? ⟨w.heap.size, 0, none⟩ = some c0 ∧ w'.cell? ⟨w.heap.size, 1, none⟩ = some c1 ∧ w'.cell? ⟨w.heap.size, 2, none⟩ = some c2 ∧ w'.cell? ⟨w.heap.size, 3, none⟩ = some c3 ∧ w'.cell? ⟨w.heap.size, 4, none⟩ = some c4 ∧ w'.cell? ⟨w.heap.size, 5, none⟩ = some c5)
    (first | go_keep | exact ⟨hk1_0, hk1_1, hk1_2, hk1_3, hk1_4, hk1_5⟩ | exact ⟨hk2_0, hk2_1, hk2_2, hk2_3, hk2_4, hk2_5⟩)
    (first
      | (go_at_call_of 81 c0; refine (ownRat_t _ _ _ _ _ (HX1.out.below ((((Below.refl w.heap.size w).alloc (Nat.le_refl _) (Obj.cells #[c0, c1, c2, c3, c4, c5] 53)).alloc (by simp <;> omega) (Obj.cells #[.bool false, .slice none 0 0, .slice none 0 0, .bool false, .slice none 0 0, .slice none 0 0] 53)).drew)) HS1.out).mono ?_; rintro e w1 ⟨v1, rfl, ⟨l1, rfl, ho1⟩, hc1⟩; have hk1_0 : w1.cell? ⟨w.heap.size, 0, none⟩ = some c0 := (hc1.cell (p := ⟨w.heap.size, 0, none⟩) (by simp <;> omega)).trans (by simp [go_sem]); have hk1_1 : w1.cell? ⟨w.heap.size, 1, none⟩ = some c1 := (hc1.cell (p := ⟨w.heap.size, 1, none⟩) (by simp <;> omega)).trans (by simp [go_sem]); have hk1_2 : w1.cell? ⟨w.heap.size, 2, none⟩ = some c2 := (hc1.cell (p := ⟨w.heap.size, 2, none⟩) (by simp <;> omega)).trans (by simp [go_sem]); have hk1_3 : w1.cell? ⟨w.heap.size, 3, none⟩ = some c3 := (hc1.cell (p := ⟨w.heap.size, 3, none⟩) (by simp <;> omega)).trans (by simp [go_sem]); have hk1_4 : w1.cell? ⟨w.heap.size, 4, none⟩ = some c4 := (hc1.cell (p := ⟨w.heap.size, 4, none⟩) (by simp <;> omega)).trans (by simp [go_sem]); have hk1_5 : w1.cell? ⟨w.heap.size, 5, none⟩ = some c5 := (hc1.cell (p := ⟨w.heap.size, 5, none⟩) (by simp <;> omega)).trans (by simp [go_sem]); obtain ⟨d0, d1, d2, rfl⟩ := list3 ho1.has.len; obtain ⟨hcr1, hfr1⟩ := bcell hc1; have hz1 := hc1.size; simp at hz1; have hlt0 : w.heap.size < w1.heap.size := (by omega); have hlt1 : w.heap.size + 1 < w1.heap.size := (by omega); have hbq : Below w.heap.size w w1 := Below.up ((((Below.refl w.heap.size w).alloc (Nat.le_refl _) (Obj.cells #[c0, c1, c2, c3, c4, c5] 53)).alloc (by simp <;> omega) (Obj.cells #[.bool false, .slice none 0 0, .slice none 0 0, .bool false, .slice none 0 0, .slice none 0 0] 53)).drew) hc1 (by simp <;> omega); simp only [World.size_drew, World.size_alloc] at ho1)
      | (go_at_call_of 81 c3; refine (ownRat_t _ _ _ _ _ (HX2.out.below hbq) HS2.out).mono ?_; rintro e w2 ⟨v2, rfl, ⟨l2, rfl, ho2⟩, hc2⟩; have hk2_0 : w2.cell? ⟨w.heap.size, 0, none⟩ = some c0 := (hc2.cell (p := ⟨w.heap.size, 0, none⟩) hlt0).trans hk1_0; have hk2_1 : w2.cell? ⟨w.heap.size, 1, none⟩ = some c1 := (hc2.cell (p := ⟨w.heap.size, 1, none⟩) hlt0).trans hk1_1; have hk2_2 : w2.cell? ⟨w.heap.size, 2, none⟩ = some c2 := (hc2.cell (p := ⟨w.heap.size, 2, none⟩) hlt0).trans hk1_2; have hk2_3 : w2.cell? ⟨w.heap.size, 3, none⟩ = some c3 := (hc2.cell (p := ⟨w.heap.size, 3, none⟩) hlt0).trans hk1_3; have hk2_4 : w2.cell? ⟨w.heap.size, 4, none⟩ = some c4 := (hc2.cell (p := ⟨w.heap.size, 4, none⟩) hlt0).trans hk1_4; have hk2_5 : w2.cell? ⟨w.heap.size, 5, none⟩ = some c5 := (hc2.cell (p := ⟨w.heap.size, 5, none⟩) hlt0).trans hk1_5; obtain ⟨e0, e1, e2, rfl⟩ := list3 ho2.has.len; obtain ⟨hcr2, hfr2⟩ := bcell hc2; have HO1 := Lib.hid (ho1.inn.below hc2 (Nat.le_refl _)); have HO2 := Lib.hid (ho2.inn); have hbw2 := Below.up hbq hc2 (by omega); have hd0 := ho1.has.one 0 d0 rfl; have hd1 := ho1.has.one 1 d1 rfl; have hd2 := ho1.has.one 2 d2 rfl; have he0 := ho2.has.one 0 e0 rfl; have he1 := ho2.has.one 1 e1 rfl; have he2 := ho2.has.one 2 e2 rfl; clear ho1 ho2))
  rename_i hh
  clear hh
  go_wp2
  refine bodyPost_ret (v := .agg #[d0, d1, d2, e0, e1, e2]) (by simp [results, go_sem, hcr2, hlt1, hcr1]) rfl ⟨_, rfl, ⟨[d0, d1, d2, e0, e1, e2], rfl, ?_⟩, ?_⟩
  · have G1 := ((((((HO1.out).setCell (p := ⟨w.heap.size + 1, 0, none⟩) (.inl (by simp)) d0).setCell (p := ⟨w.heap.size + 1, 1, none⟩) (.inl (by simp)) d1).setCell (p := ⟨w.heap.size + 1, 2, none⟩) (.inl (by simp)) d2).setCell (p := ⟨w.heap.size + 1, 3, none⟩) (.inl (by simp)) e0).setCell (p := ⟨w.heap.size + 1, 4, none⟩) (.inl (by simp)) e1).setCell (p := ⟨w.heap.size + 1, 5, none⟩) (.inl (by simp)) e2
    have G2 := ((((((HO2.out).setCell (p := ⟨w.heap.size + 1, 0, none⟩) (.inl hlt1) d0).setCell (p := ⟨w.heap.size + 1, 1, none⟩) (.inl hlt1) d1).setCell (p := ⟨w.heap.size + 1, 2, none⟩) (.inl hlt1) d2).setCell (p := ⟨w.heap.size + 1, 3, none⟩) (.inl hlt1) e0).setCell (p := ⟨w.heap.size + 1, 4, none⟩) (.inl hlt1) e1).setCell (p := ⟨w.heap.size + 1, 5, none⟩) (.inl hlt1) e2
    exact OwnIn.own (OwnIn.pair G1 G2 (by omega) (by omega) (by have := hc2.size; omega)) (by omega)
  · exact ((((((hbw2).setCell (p := ⟨w.heap.size + 1, 0, none⟩) (by simp) d0).setCell (p := ⟨w.heap.size + 1, 1, none⟩) (by simp) d1).setCell (p := ⟨w.heap.size + 1, 2, none⟩) (by simp) d2).setCell (p := ⟨w.heap.size + 1, 3, none⟩) (by simp) e0).setCell (p := ⟨w.heap.size + 1, 4, none⟩) (by simp) e1).setCell (p := ⟨w.heap.size + 1, 5, none⟩) (by simp) e2

set_option maxRecDepth 100000 in
set_option maxHeartbeats 400000 in
theorem l05Copy_any (c0 c1 c2 c3 c4 c5 : Value) (x : DPoint) (w : World) (hx : Has RPoint w [c0, c1, c2, c3, c4, c5] x) (hs : tPoint x ≤ 1099511627776) :
    Calls Try.prog 69 #[.agg #[c0, c1, c2, c3, c4, c5]] w (Post (NewPost RPoint x w)) := by
  obtain ⟨hx0, hx1⟩ := hx.split [c0, c1, c2] [c3, c4, c5] rfl
  have hs1 : tRat x.1 ≤ 1099511627776 := by unfold tPoint at hs; omega
  have hs2 : tRat x.2 ≤ 1099511627776 := by unfold tPoint at hs; omega
  have HX1 := Lib.hid hx0; have HX2 := Lib.hid hx1; have HS1 := Lib.hid hs1; have HS2 := Lib.hid hs2
  have ho0 := hx0.one 0 c0 rfl
  have ho1 := hx0.one 1 c1 rfl
  have ho2 := hx0.one 2 c2 rfl
  have ho3 := hx1.one 0 c3 rfl
  have ho4 := hx1.one 1 c4 rfl
  have ho5 := hx1.one 2 c5 rfl
  clear hx hx0 hx1 hs hs1 hs2
  go_enter Try.func69, Try.ntmps69
  go_wp2
  go_region_held3 (fun w' => w'.cell? ⟨w.heap.size, 0, none⟩ = some c0 ∧ w'.cell? ⟨w.heap.size, 1, none⟩ = some c1 ∧ w'.cell? ⟨w.heap.size, 2, none⟩ = some c2 ∧ w'.cell? ⟨w.heap.size, 3, none⟩ = some c3 ∧ w'.cell? ⟨w.heap.size, 4, none⟩ = some c4 ∧ w'.cell? ⟨w.heap.size, 5, none⟩ = some c5)
    (first | go_keep | exact ⟨hk1_0, hk1_1, hk1_2, hk1_3, hk1_4, hk1_5⟩ | exact ⟨hk2_0, hk2_1, hk2_2, hk2_3, hk2_4, hk2_5⟩)
    (first
      | (go_at_call_of 79 c0; refine (l04Copy_t _ _ _ _ _ (HX1.out.below ((((Below.refl w.heap.size w).alloc (Nat.le_refl _) (Obj.cells #[c0, c1, c2, c3, c4, c5] 53)).alloc (by simp <;> omega) (Obj.cells #[.bool false, .slice none 0 0, .slice none 0 0, .bool false, .slice none 0 0, .slice none 0 0] 53)).drew)) HS1.out).mono ?_; rintro e w1 ⟨v1, rfl, ⟨l1, rfl, ho1⟩, hc1⟩; have hk1_0 : w1.cell? ⟨w.heap.size, 0, none⟩ = some c0 := (hc1.cell (p := ⟨w.heap.size, 0, none⟩) (by simp <;> omega)).trans (by simp [go_sem]); have hk1_1 : w1.cell? ⟨w.heap.size, 1, none⟩ = some c1 := (hc1.cell (p := ⟨w.heap.size, 1, none⟩) (by simp <;> omega)).trans (by simp [go_sem]); have hk1_2 : w1.cell? ⟨w.heap.size, 2, none⟩ = some c2 := (hc1.cell (p := ⟨w.heap.size, 2, none⟩) (by simp <;> omega)).trans (by simp [go_sem]); have hk1_3 : w1.cell? ⟨w.heap.size, 3, none⟩ = some c3 := (hc1.cell (p := ⟨w.heap.size, 3, none⟩) (by simp <;> omega)).trans (by simp [go_sem]); have hk1_4 : w1.cell? ⟨w.heap.size, 4, none⟩ = some c4 := (hc1.cell (p := ⟨w.heap.size, 4, none⟩) (by simp <;> omega)).trans (by simp [go_sem]); have hk1_5 : w1.cell? ⟨w.heap.size, 5, none⟩ = some c5 := (hc1.cell (p := ⟨w.heap.size, 5, none⟩) (by simp <;> omega)).trans (by simp [go_sem]); obtain ⟨d0, d1, d2, rfl⟩ := list3 ho1.has.len; obtain ⟨hcr1, hfr1⟩ := bcell hc1; have hz1 := hc1.size; simp at hz1; have hlt0 : w.heap.size < w1.heap.size := (by omega); have hlt1 : w.heap.size + 1 < w1.heap.size := (by omega); have hbq : Below w.heap.size w w1 := Below.up ((((Below.refl w.heap.size w).alloc (Nat.le_refl _) (Obj.cells #[c0, c1, c2, c3, c4, c5] 53)).alloc (by simp <;> omega) (Obj.cells #[.bool false, .slice none 0 0, .slice none 0 0, .bool false, .slice none 0 0, .slice none 0 0] 53)).drew) hc1 (by simp <;> omega); simp only [World.size_drew, World.size_alloc] at ho1)
      | (go_at_call_of 79 c3; refine (l04Copy_t _ _ _ _ _ (HX2.out.below hbq) HS2.out).mono ?_; rintro e w2 ⟨v2, rfl, ⟨l2, rfl, ho2⟩, hc2⟩; have hk2_0 : w2.cell? ⟨w.heap.size, 0, none⟩ = some c0 := (hc2.cell (p := ⟨w.heap.size, 0, none⟩) hlt0).trans hk1_0; have hk2_1 : w2.cell? ⟨w.heap.size, 1, none⟩ = some c1 := (hc2.cell (p := ⟨w.heap.size, 1, none⟩) hlt0).trans hk1_1; have hk2_2 : w2.cell? ⟨w.heap.size, 2, none⟩ = some c2 := (hc2.cell (p := ⟨w.heap.size, 2, none⟩) hlt0).trans hk1_2; have hk2_3 : w2.cell? ⟨w.heap.size, 3, none⟩ = some c3 := (hc2.cell (p := ⟨w.heap.size, 3, none⟩) hlt0).trans hk1_3; have hk2_4 : w2.cell? ⟨w.heap.size, 4, none⟩ = some c4 := (hc2.cell (p := ⟨w.heap.size, 4, none⟩) hlt0).trans hk1_4; have hk2_5 : w2.cell? ⟨w.heap.size, 5, none⟩ = some c5 := (hc2.cell (p := ⟨w.heap.size, 5, none⟩) hlt0).trans hk1_5; obtain ⟨e0, e1, e2, rfl⟩ := list3 ho2.has.len; obtain ⟨hcr2, hfr2⟩ := bcell hc2; have HO1 := Lib.hid (ho1.below hc2); have HO2 := Lib.hid (ho2); have hbw2 := Below.up hbq hc2 (by omega); have hd0 := ho1.has.one 0 d0 rfl; have hd1 := ho1.has.one 1 d1 rfl; have hd2 := ho1.has.one 2 d2 rfl; have he0 := ho2.has.one 0 e0 rfl; have he1 := ho2.has.one 1 e1 rfl; have he2 := ho2.has.one 2 e2 rfl; clear ho1 ho2))
  rename_i hh
  clear hh
  go_wp2
  refine bodyPost_ret (v := .agg #[d0, d1, d2, e0, e1, e2]) (by simp [results, go_sem, hcr2, hlt1, hcr1]) rfl ⟨_, rfl, ⟨[d0, d1, d2, e0, e1, e2], rfl, ?_⟩, ?_⟩
  · have G1 := ((((((HO1.out).setCell (p := ⟨w.heap.size + 1, 0, none⟩) (by simp) d0).setCell (p := ⟨w.heap.size + 1, 1, none⟩) (by simp) d1).setCell (p := ⟨w.heap.size + 1, 2, none⟩) (by simp) d2).setCell (p := ⟨w.heap.size + 1, 3, none⟩) (by simp) e0).setCell (p := ⟨w.heap.size + 1, 4, none⟩) (by simp) e1).setCell (p := ⟨w.heap.size + 1, 5, none⟩) (by simp) e2
    have G2 := ((((((HO2.out).setCell (p := ⟨w.heap.size + 1, 0, none⟩) hlt1 d0).setCell (p := ⟨w.heap.size + 1, 1, none⟩) hlt1 d1).setCell (p := ⟨w.heap.size + 1, 2, none⟩) hlt1 d2).setCell (p := ⟨w.heap.size + 1, 3, none⟩) hlt1 e0).setCell (p := ⟨w.heap.size + 1, 4, none⟩) hlt1 e1).setCell (p := ⟨w.heap.size + 1, 5, none⟩) hlt1 e2
    exact New.pair (cs1 := [d0, d1, d2]) (cs2 := [e0, e1, e2]) (G1.mono (by omega)) (G2.mono (by omega))
  · exact ((((((hbw2).setCell (p := ⟨w.heap.size + 1, 0, none⟩) (by simp) d0).setCell (p := ⟨w.heap.size + 1, 1, none⟩) (by simp) d1).setCell (p := ⟨w.heap.size + 1, 2, none⟩) (by simp) d2).setCell (p := ⟨w.heap.size + 1, 3, none⟩) (by simp) e0).setCell (p := ⟨w.heap.size + 1, 4, none⟩) (by simp) e1).setCell (p := ⟨w.heap.size + 1, 5, none⟩) (by simp) e2
end Go.Proofs.Ytjkbecgenjhaaaa
