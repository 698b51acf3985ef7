/-
  The law FnExactDropIdle returns true: the walk through it by the contracts.
-/
import Derived.Test.YtjkbecgenjhaaaaSz
import Derived.Test.YtjkbecgenjhaaaaTo
import Derived.Test.YtjkbecgenjhaaaaEq
import Derived.Test.YtjkbecgenjhaaaaMark
import Derived.Test.YtjkbecgenjhaaaaHeld
import Derived.Test.YtjkbecgenjhaaaaCn
import Derived.Test.YtjkbecgenjhaaaaDropP
import Derived.Deep.RegionHeld3
namespace Go.Proofs.Ytjkbecgenjhaaaa
open Go.RowKit

set_option maxRecDepth 100000 in
set_option maxHeartbeats 2000000 in
theorem law_FnExactDropIdle (a0_0 a0_1 a0_2 a0_3 a0_4 a0_5 a0_6 : Value) (x0 : DPlacement) (a1 : Value) (x1 : DStepS) (w : World) (hx0 : Has RPlacement w [a0_0, a0_1, a0_2, a0_3, a0_4, a0_5, a0_6] x0) (hx1 : Has RStepS w [a1] x1) :
    Calls Try.prog 6 #[.agg #[a0_0, a0_1, a0_2, a0_3, a0_4, a0_5, a0_6], a1] w (Post fun r w' => r = .bool true ∧ Below w.heap.size w w') := by
  have A0 := Lib.hid hx0; clear hx0
  have A1 := Lib.hid hx1; clear hx1
  have hb0 := Below.refl w.heap.size w
  go_enter Try.func6, Try.ntmps6
  go_wp2_with fail
  have hp1 := ((Below.refl w.heap.size w).alloc (by simp <;> omega) (Obj.cells #[a0_0, a0_1, a0_2, a0_3, a0_4, a0_5, a0_6] 46))
  refine (szPlacement_any _ _ _ _ _ _ _ _ _ _ (A0.out.below hp1) (by omega) (by omega)).mono ?_
  rintro e w1 ⟨v, rfl, rfl, hc1⟩
  have hs1 := Below.up hp1 hc1 (by simp <;> omega)
  have hb1 := hs1
  have hz1 := hs1.size
  have bx00_1 : w1.cell? ⟨w.heap.size, 0, none⟩ = some a0_0 := (hc1.cell (p := ⟨w.heap.size, 0, none⟩) (by simp <;> omega)).trans (by simp [go_sem])
  have bx01_1 : w1.cell? ⟨w.heap.size, 1, none⟩ = some a0_1 := (hc1.cell (p := ⟨w.heap.size, 1, none⟩) (by simp <;> omega)).trans (by simp [go_sem])
  have bx02_1 : w1.cell? ⟨w.heap.size, 2, none⟩ = some a0_2 := (hc1.cell (p := ⟨w.heap.size, 2, none⟩) (by simp <;> omega)).trans (by simp [go_sem])
  have bx03_1 : w1.cell? ⟨w.heap.size, 3, none⟩ = some a0_3 := (hc1.cell (p := ⟨w.heap.size, 3, none⟩) (by simp <;> omega)).trans (by simp [go_sem])
  have bx04_1 : w1.cell? ⟨w.heap.size, 4, none⟩ = some a0_4 := (hc1.cell (p := ⟨w.heap.size, 4, none⟩) (by simp <;> omega)).trans (by simp [go_sem])
  have bx05_1 : w1.cell? ⟨w.heap.size, 5, none⟩ = some a0_5 := (hc1.cell (p := ⟨w.heap.size, 5, none⟩) (by simp <;> omega)).trans (by simp [go_sem])
  have bx06_1 : w1.cell? ⟨w.heap.size, 6, none⟩ = some a0_6 := (hc1.cell (p := ⟨w.heap.size, 6, none⟩) (by simp <;> omega)).trans (by simp [go_sem])
  have bx0_lt1 : w.heap.size < w1.heap.size := Nat.lt_of_lt_of_le (by simp <;> omega) hc1.size
  have bx0_L := bx0_lt1
  have hr0 := szr_lo 1048576 (tPlacement x0) (by omega)
  go_wp2_with fail
  · go_ret
    exact ⟨_, rfl, rfl, hb1⟩
  have hge0 : 0 ≤ szr 1048576 (tPlacement x0) := by assumption
  have hp2 := (Below.refl w1.heap.size w1)
  refine (szStepS_any _ _ _ _ ((A1.out.below hb1).below hp2) hge0 (by omega)).mono ?_
  rintro e w2 ⟨v, rfl, rfl, hc2⟩
  have hs2 := Below.up hp2 hc2 (by simp <;> omega)
  have hb2 := hb1.trans (hs2.mono hb1.size)
  have hz2 := hs2.size
  have bx00_2 : w2.cell? ⟨w.heap.size, 0, none⟩ = some a0_0 := (hs2.cell (p := ⟨w.heap.size, 0, none⟩) bx0_lt1).trans bx00_1
  have bx01_2 : w2.cell? ⟨w.heap.size, 1, none⟩ = some a0_1 := (hs2.cell (p := ⟨w.heap.size, 1, none⟩) bx0_lt1).trans bx01_1
  have bx02_2 : w2.cell? ⟨w.heap.size, 2, none⟩ = some a0_2 := (hs2.cell (p := ⟨w.heap.size, 2, none⟩) bx0_lt1).trans bx02_1
  have bx03_2 : w2.cell? ⟨w.heap.size, 3, none⟩ = some a0_3 := (hs2.cell (p := ⟨w.heap.size, 3, none⟩) bx0_lt1).trans bx03_1
  have bx04_2 : w2.cell? ⟨w.heap.size, 4, none⟩ = some a0_4 := (hs2.cell (p := ⟨w.heap.size, 4, none⟩) bx0_lt1).trans bx04_1
  have bx05_2 : w2.cell? ⟨w.heap.size, 5, none⟩ = some a0_5 := (hs2.cell (p := ⟨w.heap.size, 5, none⟩) bx0_lt1).trans bx05_1
  have bx06_2 : w2.cell? ⟨w.heap.size, 6, none⟩ = some a0_6 := (hs2.cell (p := ⟨w.heap.size, 6, none⟩) bx0_lt1).trans bx06_1
  have bx0_lt2 : w.heap.size < w2.heap.size := Nat.lt_of_lt_of_le bx0_lt1 hs2.size
  clear bx00_1 bx01_1 bx02_1 bx03_1 bx04_1 bx05_1 bx06_1 bx0_lt1
  rw [szr_add _ _ _ hge0]
  have hr1 := szr_lo 1048576 (tPlacement x0 + ((x1.length + tStepS x1))) (by omega)
  go_wp2_with fail
  · go_ret
    exact ⟨_, rfl, rfl, hb2⟩
  have hge1 : 0 ≤ szr 1048576 (tPlacement x0 + ((x1.length + tStepS x1))) := by assumption
  have hok := (szr_ok hge1).1
  have hle0 : tPlacement x0 ≤ 1048576 := by omega
  have HLE0 := Lib.hid hle0; clear hle0
  have hle1 : (x1.length + tStepS x1) ≤ 1048576 := by omega
  have HLE1 := Lib.hid hle1; clear hle1
  clear hok hr0 hge0 hr1 hge1
  have hp3 := (Below.refl w2.heap.size w2)
  refine (toPlacement_any _ _ _ _ _ _ _ _ _ ((A0.out.below hb2).below hp3) HLE0.out).mono ?_
  rintro e w3 ⟨v, rfl, ⟨cshq0, rfl, hq0⟩, hc3⟩
  have hs3 := Below.up hp3 hc3 (by simp <;> omega)
  have hb3 := hb2.trans (hs3.mono hb2.size)
  have hz3 := hs3.size
  have bx00_3 : w3.cell? ⟨w.heap.size, 0, none⟩ = some a0_0 := (hs3.cell (p := ⟨w.heap.size, 0, none⟩) bx0_lt2).trans bx00_2
  have bx01_3 : w3.cell? ⟨w.heap.size, 1, none⟩ = some a0_1 := (hs3.cell (p := ⟨w.heap.size, 1, none⟩) bx0_lt2).trans bx01_2
  have bx02_3 : w3.cell? ⟨w.heap.size, 2, none⟩ = some a0_2 := (hs3.cell (p := ⟨w.heap.size, 2, none⟩) bx0_lt2).trans bx02_2
  have bx03_3 : w3.cell? ⟨w.heap.size, 3, none⟩ = some a0_3 := (hs3.cell (p := ⟨w.heap.size, 3, none⟩) bx0_lt2).trans bx03_2
  have bx04_3 : w3.cell? ⟨w.heap.size, 4, none⟩ = some a0_4 := (hs3.cell (p := ⟨w.heap.size, 4, none⟩) bx0_lt2).trans bx04_2
  have bx05_3 : w3.cell? ⟨w.heap.size, 5, none⟩ = some a0_5 := (hs3.cell (p := ⟨w.heap.size, 5, none⟩) bx0_lt2).trans bx05_2
  have bx06_3 : w3.cell? ⟨w.heap.size, 6, none⟩ = some a0_6 := (hs3.cell (p := ⟨w.heap.size, 6, none⟩) bx0_lt2).trans bx06_2
  have bx0_lt3 : w.heap.size < w3.heap.size := Nat.lt_of_lt_of_le bx0_lt2 hs3.size
  clear bx00_2 bx01_2 bx02_2 bx03_2 bx04_2 bx05_2 bx06_2 bx0_lt2
  obtain ⟨q0_0, q0_1, q0_2, q0_3, q0_4, q0_5, q0_6, rfl⟩ := list7 hq0.has.len
  have oq0_0 := hq0.has.one 0 _ rfl
  have oq0_1 := hq0.has.one 1 _ rfl
  have oq0_2 := hq0.has.one 2 _ rfl
  have oq0_3 := hq0.has.one 3 _ rfl
  have oq0_4 := hq0.has.one 4 _ rfl
  have oq0_5 := hq0.has.one 5 _ rfl
  have oq0_6 := hq0.has.one 6 _ rfl
  have Fq01 := Lib.hid hq0
  clear hq0
  go_wp2_with fail
  have hp4 := (Below.refl w3.heap.size w3)
  refine (toStepS_any _ _ _ ((A1.out.below hb3).below hp4) HLE1.out).mono ?_
  rintro e w4 ⟨vhq2, rfl, hq2, hc4⟩
  have hs4 := Below.up hp4 hc4 (by simp <;> omega)
  have hb4 := hb3.trans (hs4.mono hb3.size)
  have hz4 := hs4.size
  have bx00_4 : w4.cell? ⟨w.heap.size, 0, none⟩ = some a0_0 := (hs4.cell (p := ⟨w.heap.size, 0, none⟩) bx0_lt3).trans bx00_3
  have bx01_4 : w4.cell? ⟨w.heap.size, 1, none⟩ = some a0_1 := (hs4.cell (p := ⟨w.heap.size, 1, none⟩) bx0_lt3).trans bx01_3
  have bx02_4 : w4.cell? ⟨w.heap.size, 2, none⟩ = some a0_2 := (hs4.cell (p := ⟨w.heap.size, 2, none⟩) bx0_lt3).trans bx02_3
  have bx03_4 : w4.cell? ⟨w.heap.size, 3, none⟩ = some a0_3 := (hs4.cell (p := ⟨w.heap.size, 3, none⟩) bx0_lt3).trans bx03_3
  have bx04_4 : w4.cell? ⟨w.heap.size, 4, none⟩ = some a0_4 := (hs4.cell (p := ⟨w.heap.size, 4, none⟩) bx0_lt3).trans bx04_3
  have bx05_4 : w4.cell? ⟨w.heap.size, 5, none⟩ = some a0_5 := (hs4.cell (p := ⟨w.heap.size, 5, none⟩) bx0_lt3).trans bx05_3
  have bx06_4 : w4.cell? ⟨w.heap.size, 6, none⟩ = some a0_6 := (hs4.cell (p := ⟨w.heap.size, 6, none⟩) bx0_lt3).trans bx06_3
  have bx0_lt4 : w.heap.size < w4.heap.size := Nat.lt_of_lt_of_le bx0_lt3 hs4.size
  clear bx00_3 bx01_3 bx02_3 bx03_3 bx04_3 bx05_3 bx06_3 bx0_lt3
  obtain ⟨adq2, capq2, rfl, hclq2, hcmq2⟩ := hq2.has.len_slice
  clear hclq2 hcmq2
  have Fq23 := Lib.hid hq2
  clear hq2
  go_wp2_with fail
  have hp5 := (Below.refl w4.heap.size w4)
  refine (specDropIdle_pl _ _ _ _ _ _ _ _ _ _ _ (((Fq01.out.below hs4).below hp5)).has ((Fq23.out.below hp5)).has HLE1.out).mono ?_
  rintro e w5 ⟨vw0, rfl, hw0, hc5⟩
  have hs5 := Below.up hp5 hc5 (by simp <;> omega)
  have hb5 := hb4.trans (hs5.mono hb4.size)
  have hz5 := hs5.size
  have bx00_5 : w5.cell? ⟨w.heap.size, 0, none⟩ = some a0_0 := (hs5.cell (p := ⟨w.heap.size, 0, none⟩) bx0_lt4).trans bx00_4
  have bx01_5 : w5.cell? ⟨w.heap.size, 1, none⟩ = some a0_1 := (hs5.cell (p := ⟨w.heap.size, 1, none⟩) bx0_lt4).trans bx01_4
  have bx02_5 : w5.cell? ⟨w.heap.size, 2, none⟩ = some a0_2 := (hs5.cell (p := ⟨w.heap.size, 2, none⟩) bx0_lt4).trans bx02_4
  have bx03_5 : w5.cell? ⟨w.heap.size, 3, none⟩ = some a0_3 := (hs5.cell (p := ⟨w.heap.size, 3, none⟩) bx0_lt4).trans bx03_4
  have bx04_5 : w5.cell? ⟨w.heap.size, 4, none⟩ = some a0_4 := (hs5.cell (p := ⟨w.heap.size, 4, none⟩) bx0_lt4).trans bx04_4
  have bx05_5 : w5.cell? ⟨w.heap.size, 5, none⟩ = some a0_5 := (hs5.cell (p := ⟨w.heap.size, 5, none⟩) bx0_lt4).trans bx05_4
  have bx06_5 : w5.cell? ⟨w.heap.size, 6, none⟩ = some a0_6 := (hs5.cell (p := ⟨w.heap.size, 6, none⟩) bx0_lt4).trans bx06_4
  have bx0_lt5 : w.heap.size < w5.heap.size := Nat.lt_of_lt_of_le bx0_lt4 hs5.size
  clear bx00_4 bx01_4 bx02_4 bx03_4 bx04_4 bx05_4 bx06_4 bx0_lt4
  obtain ⟨adw0, capw0, rfl, hclw0, hcmw0⟩ := hw0.len_slice
  clear hclw0 hcmw0
  have Fw0 := Lib.hid hw0; clear hw0
  go_wp2_with fail
  have hp6 := (Below.refl w5.heap.size w5)
  refine (toPlacement_any _ _ _ _ _ _ _ _ _ ((A0.out.below hb5).below hp6) HLE0.out).mono ?_
  rintro e w6 ⟨v, rfl, ⟨cshX0, rfl, hX0⟩, hc6⟩
  have hs6 := Below.up hp6 hc6 (by simp <;> omega)
  have hb6 := hb5.trans (hs6.mono hb5.size)
  have hz6 := hs6.size
  have hw6 := hs6
  have bx00_6 : w6.cell? ⟨w.heap.size, 0, none⟩ = some a0_0 := (hs6.cell (p := ⟨w.heap.size, 0, none⟩) bx0_lt5).trans bx00_5
  have bx01_6 : w6.cell? ⟨w.heap.size, 1, none⟩ = some a0_1 := (hs6.cell (p := ⟨w.heap.size, 1, none⟩) bx0_lt5).trans bx01_5
  have bx02_6 : w6.cell? ⟨w.heap.size, 2, none⟩ = some a0_2 := (hs6.cell (p := ⟨w.heap.size, 2, none⟩) bx0_lt5).trans bx02_5
  have bx03_6 : w6.cell? ⟨w.heap.size, 3, none⟩ = some a0_3 := (hs6.cell (p := ⟨w.heap.size, 3, none⟩) bx0_lt5).trans bx03_5
  have bx04_6 : w6.cell? ⟨w.heap.size, 4, none⟩ = some a0_4 := (hs6.cell (p := ⟨w.heap.size, 4, none⟩) bx0_lt5).trans bx04_5
  have bx05_6 : w6.cell? ⟨w.heap.size, 5, none⟩ = some a0_5 := (hs6.cell (p := ⟨w.heap.size, 5, none⟩) bx0_lt5).trans bx05_5
  have bx06_6 : w6.cell? ⟨w.heap.size, 6, none⟩ = some a0_6 := (hs6.cell (p := ⟨w.heap.size, 6, none⟩) bx0_lt5).trans bx06_5
  have bx0_lt6 : w.heap.size < w6.heap.size := Nat.lt_of_lt_of_le bx0_lt5 hs6.size
  clear bx00_5 bx01_5 bx02_5 bx03_5 bx04_5 bx05_5 bx06_5 bx0_lt5
  obtain ⟨X0_0, X0_1, X0_2, X0_3, X0_4, X0_5, X0_6, rfl⟩ := list7 hX0.has.len
  have oX0_0 := hX0.has.one 0 _ rfl
  have oX0_1 := hX0.has.one 1 _ rfl
  have oX0_2 := hX0.has.one 2 _ rfl
  have oX0_3 := hX0.has.one 3 _ rfl
  have oX0_4 := hX0.has.one 4 _ rfl
  have oX0_5 := hX0.has.one 5 _ rfl
  have oX0_6 := hX0.has.one 6 _ rfl
  have FX04 := Lib.hid (Own.inn (Own.mono (base' := w5.heap.size) hX0 (by simp)))
  clear hX0
  go_wp2_with fail
  have hp7 := ((Below.refl w6.heap.size w6).alloc (by simp <;> omega) (Obj.cells #[X0_0, X0_1, X0_2, X0_3, X0_4, X0_5, X0_6] 55))
  refine (toStepS_any _ _ _ ((A1.out.below hb6).below hp7) HLE1.out).mono ?_
  rintro e w7 ⟨vhX1, rfl, hX1, hc7⟩
  have hs7 := Below.up hp7 hc7 (by simp <;> omega)
  have hb7 := hb6.trans (hs7.mono hb6.size)
  have hz7 := hs7.size
  have hw7 := hw6.trans (hs7.mono hw6.size)
  have bx00_7 : w7.cell? ⟨w.heap.size, 0, none⟩ = some a0_0 := (hs7.cell (p := ⟨w.heap.size, 0, none⟩) bx0_lt6).trans bx00_6
  have bx01_7 : w7.cell? ⟨w.heap.size, 1, none⟩ = some a0_1 := (hs7.cell (p := ⟨w.heap.size, 1, none⟩) bx0_lt6).trans bx01_6
  have bx02_7 : w7.cell? ⟨w.heap.size, 2, none⟩ = some a0_2 := (hs7.cell (p := ⟨w.heap.size, 2, none⟩) bx0_lt6).trans bx02_6
  have bx03_7 : w7.cell? ⟨w.heap.size, 3, none⟩ = some a0_3 := (hs7.cell (p := ⟨w.heap.size, 3, none⟩) bx0_lt6).trans bx03_6
  have bx04_7 : w7.cell? ⟨w.heap.size, 4, none⟩ = some a0_4 := (hs7.cell (p := ⟨w.heap.size, 4, none⟩) bx0_lt6).trans bx04_6
  have bx05_7 : w7.cell? ⟨w.heap.size, 5, none⟩ = some a0_5 := (hs7.cell (p := ⟨w.heap.size, 5, none⟩) bx0_lt6).trans bx05_6
  have bx06_7 : w7.cell? ⟨w.heap.size, 6, none⟩ = some a0_6 := (hs7.cell (p := ⟨w.heap.size, 6, none⟩) bx0_lt6).trans bx06_6
  have bx0_lt7 : w.heap.size < w7.heap.size := Nat.lt_of_lt_of_le bx0_lt6 hs7.size
  clear bx00_6 bx01_6 bx02_6 bx03_6 bx04_6 bx05_6 bx06_6 bx0_lt6
  have bX00_7 : w7.cell? ⟨w6.heap.size, 0, none⟩ = some X0_0 := (hc7.cell (p := ⟨w6.heap.size, 0, none⟩) (by simp <;> omega)).trans (by simp [go_sem])
  have bX01_7 : w7.cell? ⟨w6.heap.size, 1, none⟩ = some X0_1 := (hc7.cell (p := ⟨w6.heap.size, 1, none⟩) (by simp <;> omega)).trans (by simp [go_sem])
  have bX02_7 : w7.cell? ⟨w6.heap.size, 2, none⟩ = some X0_2 := (hc7.cell (p := ⟨w6.heap.size, 2, none⟩) (by simp <;> omega)).trans (by simp [go_sem])
  have bX03_7 : w7.cell? ⟨w6.heap.size, 3, none⟩ = some X0_3 := (hc7.cell (p := ⟨w6.heap.size, 3, none⟩) (by simp <;> omega)).trans (by simp [go_sem])
  have bX04_7 : w7.cell? ⟨w6.heap.size, 4, none⟩ = some X0_4 := (hc7.cell (p := ⟨w6.heap.size, 4, none⟩) (by simp <;> omega)).trans (by simp [go_sem])
  have bX05_7 : w7.cell? ⟨w6.heap.size, 5, none⟩ = some X0_5 := (hc7.cell (p := ⟨w6.heap.size, 5, none⟩) (by simp <;> omega)).trans (by simp [go_sem])
  have bX06_7 : w7.cell? ⟨w6.heap.size, 6, none⟩ = some X0_6 := (hc7.cell (p := ⟨w6.heap.size, 6, none⟩) (by simp <;> omega)).trans (by simp [go_sem])
  have bX0_lt7 : w6.heap.size < w7.heap.size := Nat.lt_of_lt_of_le (by simp <;> omega) hc7.size
  have bX0_L := bX0_lt7
  obtain ⟨adX1, capX1, rfl, hclX1, hcmX1⟩ := hX1.has.len_slice
  clear hclX1 hcmX1
  have FX15 := Lib.hid (Own.inn (Own.mono (base' := w6.heap.size + 1) hX1 (by simp)))
  clear hX1
  go_wp2_with fail
  have hp8 := (Below.refl w7.heap.size w7)
  refine (implDropIdle_pl _ _ _ _ _ _ _ _ _ _ _ (((FX04.out.below hs7 (by omega)).below hp8 (by omega)).own (Nat.le_refl _)).has ((FX15.out.below hp8 (by omega)).own (Nat.le_refl _)).has HLE1.out).mono ?_
  rintro e w8 ⟨vhg0, rfl, hg0, hc8⟩
  have hs8 := Below.up hp8 hc8 (by simp <;> omega)
  have hb8 := hb7.trans (hs8.mono hb7.size)
  have hz8 := hs8.size
  have hw8 := hw7.trans (hs8.mono hw7.size)
  have bx00_8 : w8.cell? ⟨w.heap.size, 0, none⟩ = some a0_0 := (hs8.cell (p := ⟨w.heap.size, 0, none⟩) bx0_lt7).trans bx00_7
  have bx01_8 : w8.cell? ⟨w.heap.size, 1, none⟩ = some a0_1 := (hs8.cell (p := ⟨w.heap.size, 1, none⟩) bx0_lt7).trans bx01_7
  have bx02_8 : w8.cell? ⟨w.heap.size, 2, none⟩ = some a0_2 := (hs8.cell (p := ⟨w.heap.size, 2, none⟩) bx0_lt7).trans bx02_7
  have bx03_8 : w8.cell? ⟨w.heap.size, 3, none⟩ = some a0_3 := (hs8.cell (p := ⟨w.heap.size, 3, none⟩) bx0_lt7).trans bx03_7
  have bx04_8 : w8.cell? ⟨w.heap.size, 4, none⟩ = some a0_4 := (hs8.cell (p := ⟨w.heap.size, 4, none⟩) bx0_lt7).trans bx04_7
  have bx05_8 : w8.cell? ⟨w.heap.size, 5, none⟩ = some a0_5 := (hs8.cell (p := ⟨w.heap.size, 5, none⟩) bx0_lt7).trans bx05_7
  have bx06_8 : w8.cell? ⟨w.heap.size, 6, none⟩ = some a0_6 := (hs8.cell (p := ⟨w.heap.size, 6, none⟩) bx0_lt7).trans bx06_7
  have bx0_lt8 : w.heap.size < w8.heap.size := Nat.lt_of_lt_of_le bx0_lt7 hs8.size
  clear bx00_7 bx01_7 bx02_7 bx03_7 bx04_7 bx05_7 bx06_7 bx0_lt7
  have bX00_8 : w8.cell? ⟨w6.heap.size, 0, none⟩ = some X0_0 := (hs8.cell (p := ⟨w6.heap.size, 0, none⟩) bX0_lt7).trans bX00_7
  have bX01_8 : w8.cell? ⟨w6.heap.size, 1, none⟩ = some X0_1 := (hs8.cell (p := ⟨w6.heap.size, 1, none⟩) bX0_lt7).trans bX01_7
  have bX02_8 : w8.cell? ⟨w6.heap.size, 2, none⟩ = some X0_2 := (hs8.cell (p := ⟨w6.heap.size, 2, none⟩) bX0_lt7).trans bX02_7
  have bX03_8 : w8.cell? ⟨w6.heap.size, 3, none⟩ = some X0_3 := (hs8.cell (p := ⟨w6.heap.size, 3, none⟩) bX0_lt7).trans bX03_7
  have bX04_8 : w8.cell? ⟨w6.heap.size, 4, none⟩ = some X0_4 := (hs8.cell (p := ⟨w6.heap.size, 4, none⟩) bX0_lt7).trans bX04_7
  have bX05_8 : w8.cell? ⟨w6.heap.size, 5, none⟩ = some X0_5 := (hs8.cell (p := ⟨w6.heap.size, 5, none⟩) bX0_lt7).trans bX05_7
  have bX06_8 : w8.cell? ⟨w6.heap.size, 6, none⟩ = some X0_6 := (hs8.cell (p := ⟨w6.heap.size, 6, none⟩) bX0_lt7).trans bX06_7
  have bX0_lt8 : w6.heap.size < w8.heap.size := Nat.lt_of_lt_of_le bX0_lt7 hs8.size
  clear bX00_7 bX01_7 bX02_7 bX03_7 bX04_7 bX05_7 bX06_7 bX0_lt7
  obtain ⟨adg0, capg0, rfl, hclg0, hcmg0⟩ := hg0.has.len_slice
  clear hclg0 hcmg0
  have Fg06 := Lib.hid (Own.inn (Own.mono (base' := w7.heap.size) hg0 (by simp)))
  clear hg0
  go_wp2_with fail
  have hp9 := (Below.refl w8.heap.size w8)
  refine (eqStepS_any _ _ _ _ _ (((Fg06.out.below hp9 (by omega)).own (Nat.le_refl _)).has) ((Fw0.out.below hw8).below hp9)).mono ?_
  rintro e w9 ⟨v, rfl, rfl, hc9⟩
  have hs9 := Below.up hp9 hc9 (by simp <;> omega)
  have hb9 := hb8.trans (hs9.mono hb8.size)
  have hz9 := hs9.size
  have hw9 := hw8.trans (hs9.mono hw8.size)
  have bx00_9 : w9.cell? ⟨w.heap.size, 0, none⟩ = some a0_0 := (hs9.cell (p := ⟨w.heap.size, 0, none⟩) bx0_lt8).trans bx00_8
  have bx01_9 : w9.cell? ⟨w.heap.size, 1, none⟩ = some a0_1 := (hs9.cell (p := ⟨w.heap.size, 1, none⟩) bx0_lt8).trans bx01_8
  have bx02_9 : w9.cell? ⟨w.heap.size, 2, none⟩ = some a0_2 := (hs9.cell (p := ⟨w.heap.size, 2, none⟩) bx0_lt8).trans bx02_8
  have bx03_9 : w9.cell? ⟨w.heap.size, 3, none⟩ = some a0_3 := (hs9.cell (p := ⟨w.heap.size, 3, none⟩) bx0_lt8).trans bx03_8
  have bx04_9 : w9.cell? ⟨w.heap.size, 4, none⟩ = some a0_4 := (hs9.cell (p := ⟨w.heap.size, 4, none⟩) bx0_lt8).trans bx04_8
  have bx05_9 : w9.cell? ⟨w.heap.size, 5, none⟩ = some a0_5 := (hs9.cell (p := ⟨w.heap.size, 5, none⟩) bx0_lt8).trans bx05_8
  have bx06_9 : w9.cell? ⟨w.heap.size, 6, none⟩ = some a0_6 := (hs9.cell (p := ⟨w.heap.size, 6, none⟩) bx0_lt8).trans bx06_8
  have bx0_lt9 : w.heap.size < w9.heap.size := Nat.lt_of_lt_of_le bx0_lt8 hs9.size
  clear bx00_8 bx01_8 bx02_8 bx03_8 bx04_8 bx05_8 bx06_8 bx0_lt8
  have bX00_9 : w9.cell? ⟨w6.heap.size, 0, none⟩ = some X0_0 := (hs9.cell (p := ⟨w6.heap.size, 0, none⟩) bX0_lt8).trans bX00_8
  have bX01_9 : w9.cell? ⟨w6.heap.size, 1, none⟩ = some X0_1 := (hs9.cell (p := ⟨w6.heap.size, 1, none⟩) bX0_lt8).trans bX01_8
  have bX02_9 : w9.cell? ⟨w6.heap.size, 2, none⟩ = some X0_2 := (hs9.cell (p := ⟨w6.heap.size, 2, none⟩) bX0_lt8).trans bX02_8
  have bX03_9 : w9.cell? ⟨w6.heap.size, 3, none⟩ = some X0_3 := (hs9.cell (p := ⟨w6.heap.size, 3, none⟩) bX0_lt8).trans bX03_8
  have bX04_9 : w9.cell? ⟨w6.heap.size, 4, none⟩ = some X0_4 := (hs9.cell (p := ⟨w6.heap.size, 4, none⟩) bX0_lt8).trans bX04_8
  have bX05_9 : w9.cell? ⟨w6.heap.size, 5, none⟩ = some X0_5 := (hs9.cell (p := ⟨w6.heap.size, 5, none⟩) bX0_lt8).trans bX05_8
  have bX06_9 : w9.cell? ⟨w6.heap.size, 6, none⟩ = some X0_6 := (hs9.cell (p := ⟨w6.heap.size, 6, none⟩) bX0_lt8).trans bX06_8
  have bX0_lt9 : w6.heap.size < w9.heap.size := Nat.lt_of_lt_of_le bX0_lt8 hs9.size
  clear bX00_8 bX01_8 bX02_8 bX03_8 bX04_8 bX05_8 bX06_8 bX0_lt8
  rw [eqb_true rfl]
  go_wp2
  go_region_held3 (fun w' => w'.cell? ⟨w6.heap.size, 0, none⟩ = some X0_0 ∧ w'.cell? ⟨w6.heap.size, 1, none⟩ = some X0_1 ∧ w'.cell? ⟨w6.heap.size, 2, none⟩ = some X0_2 ∧ w'.cell? ⟨w6.heap.size, 3, none⟩ = some X0_3 ∧ w'.cell? ⟨w6.heap.size, 4, none⟩ = some X0_4 ∧ w'.cell? ⟨w6.heap.size, 5, none⟩ = some X0_5 ∧ w'.cell? ⟨w6.heap.size, 6, none⟩ = some X0_6 ∧ w'.cell? ⟨w.heap.size, 0, none⟩ = some a0_0 ∧ w'.cell? ⟨w.heap.size, 1, none⟩ = some a0_1 ∧ w'.cell? ⟨w.heap.size, 2, none⟩ = some a0_2 ∧ w'.cell? ⟨w.heap.size, 3, none⟩ = some a0_3 ∧ w'.cell? ⟨w.heap.size, 4, none⟩ = some a0_4 ∧ w'.cell? ⟨w.heap.size, 5, none⟩ = some a0_5 ∧ w'.cell? ⟨w.heap.size, 6, none⟩ = some a0_6)
    (first | exact ⟨bX00_9, bX01_9, bX02_9, bX03_9, bX04_9, bX05_9, bX06_9, bx00_9, bx01_9, bx02_9, bx03_9, bx04_9, bx05_9, bx06_9⟩ | exact ⟨bX00_10, bX01_10, bX02_10, bX03_10, bX04_10, bX05_10, bX06_10, bx00_10, bx01_10, bx02_10, bx03_10, bx04_10, bx05_10, bx06_10⟩ | exact ⟨bX00_11, bX01_11, bX02_11, bX03_11, bX04_11, bX05_11, bX06_11, bx00_11, bx01_11, bx02_11, bx03_11, bx04_11, bx05_11, bx06_11⟩)
    (first
      | (go_at_call_of 28 a0_0
         have hp10 := ((Below.refl w9.heap.size w9).drew)
         refine (toPlacement_any _ _ _ _ _ _ _ _ _ ((A0.out.below hb9).below hp10) HLE0.out).mono ?_
         rintro e w10 ⟨v, rfl, ⟨cshq7, rfl, hq7⟩, hc10⟩
         have hs10 := Below.up hp10 hc10 (by simp <;> omega)
         have hb10 := hb9.trans (hs10.mono hb9.size)
         have hz10 := hs10.size
         have hw10 := hw9.trans (hs10.mono hw9.size)
         have bx00_10 : w10.cell? ⟨w.heap.size, 0, none⟩ = some a0_0 := (hs10.cell (p := ⟨w.heap.size, 0, none⟩) bx0_lt9).trans bx00_9
         have bx01_10 : w10.cell? ⟨w.heap.size, 1, none⟩ = some a0_1 := (hs10.cell (p := ⟨w.heap.size, 1, none⟩) bx0_lt9).trans bx01_9
         have bx02_10 : w10.cell? ⟨w.heap.size, 2, none⟩ = some a0_2 := (hs10.cell (p := ⟨w.heap.size, 2, none⟩) bx0_lt9).trans bx02_9
         have bx03_10 : w10.cell? ⟨w.heap.size, 3, none⟩ = some a0_3 := (hs10.cell (p := ⟨w.heap.size, 3, none⟩) bx0_lt9).trans bx03_9
         have bx04_10 : w10.cell? ⟨w.heap.size, 4, none⟩ = some a0_4 := (hs10.cell (p := ⟨w.heap.size, 4, none⟩) bx0_lt9).trans bx04_9
         have bx05_10 : w10.cell? ⟨w.heap.size, 5, none⟩ = some a0_5 := (hs10.cell (p := ⟨w.heap.size, 5, none⟩) bx0_lt9).trans bx05_9
         have bx06_10 : w10.cell? ⟨w.heap.size, 6, none⟩ = some a0_6 := (hs10.cell (p := ⟨w.heap.size, 6, none⟩) bx0_lt9).trans bx06_9
         have bx0_lt10 : w.heap.size < w10.heap.size := Nat.lt_of_lt_of_le bx0_lt9 hs10.size
         clear bx00_9 bx01_9 bx02_9 bx03_9 bx04_9 bx05_9 bx06_9 bx0_lt9
         have bX00_10 : w10.cell? ⟨w6.heap.size, 0, none⟩ = some X0_0 := (hs10.cell (p := ⟨w6.heap.size, 0, none⟩) bX0_lt9).trans bX00_9
         have bX01_10 : w10.cell? ⟨w6.heap.size, 1, none⟩ = some X0_1 := (hs10.cell (p := ⟨w6.heap.size, 1, none⟩) bX0_lt9).trans bX01_9
         have bX02_10 : w10.cell? ⟨w6.heap.size, 2, none⟩ = some X0_2 := (hs10.cell (p := ⟨w6.heap.size, 2, none⟩) bX0_lt9).trans bX02_9
         have bX03_10 : w10.cell? ⟨w6.heap.size, 3, none⟩ = some X0_3 := (hs10.cell (p := ⟨w6.heap.size, 3, none⟩) bX0_lt9).trans bX03_9
         have bX04_10 : w10.cell? ⟨w6.heap.size, 4, none⟩ = some X0_4 := (hs10.cell (p := ⟨w6.heap.size, 4, none⟩) bX0_lt9).trans bX04_9
         have bX05_10 : w10.cell? ⟨w6.heap.size, 5, none⟩ = some X0_5 := (hs10.cell (p := ⟨w6.heap.size, 5, none⟩) bX0_lt9).trans bX05_9
         have bX06_10 : w10.cell? ⟨w6.heap.size, 6, none⟩ = some X0_6 := (hs10.cell (p := ⟨w6.heap.size, 6, none⟩) bX0_lt9).trans bX06_9
         have bX0_lt10 : w6.heap.size < w10.heap.size := Nat.lt_of_lt_of_le bX0_lt9 hs10.size
         clear bX00_9 bX01_9 bX02_9 bX03_9 bX04_9 bX05_9 bX06_9 bX0_lt9
         obtain ⟨q7_0, q7_1, q7_2, q7_3, q7_4, q7_5, q7_6, rfl⟩ := list7 hq7.has.len
         have oq7_0 := hq7.has.one 0 _ rfl
         have oq7_1 := hq7.has.one 1 _ rfl
         have oq7_2 := hq7.has.one 2 _ rfl
         have oq7_3 := hq7.has.one 3 _ rfl
         have oq7_4 := hq7.has.one 4 _ rfl
         have oq7_5 := hq7.has.one 5 _ rfl
         have oq7_6 := hq7.has.one 6 _ rfl
         have Fq78 := Lib.hid hq7
         clear hq7)
      | (go_at_call_of 30 X0_0
         have hp11 := (Below.refl w10.heap.size w10)
         refine (eqPlacement_any _ _ _ _ _ _ _ _ _ _ _ _ _ _ _ _ _ (((((((FX04.out.below hs7 (by omega)).below hs8 (by omega)).below hs9 (by omega)).below hs10 (by omega)).below hp11 (by omega)).own (Nat.le_refl _)).has) ((Fq78.out.below hp11)).has).mono ?_
         rintro e w11 ⟨v, rfl, rfl, hc11⟩
         have hs11 := Below.up hp11 hc11 (by simp <;> omega)
         have hb11 := hb10.trans (hs11.mono hb10.size)
         have hz11 := hs11.size
         have hw11 := hw10.trans (hs11.mono hw10.size)
         have bx00_11 : w11.cell? ⟨w.heap.size, 0, none⟩ = some a0_0 := (hs11.cell (p := ⟨w.heap.size, 0, none⟩) bx0_lt10).trans bx00_10
         have bx01_11 : w11.cell? ⟨w.heap.size, 1, none⟩ = some a0_1 := (hs11.cell (p := ⟨w.heap.size, 1, none⟩) bx0_lt10).trans bx01_10
         have bx02_11 : w11.cell? ⟨w.heap.size, 2, none⟩ = some a0_2 := (hs11.cell (p := ⟨w.heap.size, 2, none⟩) bx0_lt10).trans bx02_10
         have bx03_11 : w11.cell? ⟨w.heap.size, 3, none⟩ = some a0_3 := (hs11.cell (p := ⟨w.heap.size, 3, none⟩) bx0_lt10).trans bx03_10
         have bx04_11 : w11.cell? ⟨w.heap.size, 4, none⟩ = some a0_4 := (hs11.cell (p := ⟨w.heap.size, 4, none⟩) bx0_lt10).trans bx04_10
         have bx05_11 : w11.cell? ⟨w.heap.size, 5, none⟩ = some a0_5 := (hs11.cell (p := ⟨w.heap.size, 5, none⟩) bx0_lt10).trans bx05_10
         have bx06_11 : w11.cell? ⟨w.heap.size, 6, none⟩ = some a0_6 := (hs11.cell (p := ⟨w.heap.size, 6, none⟩) bx0_lt10).trans bx06_10
         have bx0_lt11 : w.heap.size < w11.heap.size := Nat.lt_of_lt_of_le bx0_lt10 hs11.size
         clear bx00_10 bx01_10 bx02_10 bx03_10 bx04_10 bx05_10 bx06_10 bx0_lt10
         have bX00_11 : w11.cell? ⟨w6.heap.size, 0, none⟩ = some X0_0 := (hs11.cell (p := ⟨w6.heap.size, 0, none⟩) bX0_lt10).trans bX00_10
         have bX01_11 : w11.cell? ⟨w6.heap.size, 1, none⟩ = some X0_1 := (hs11.cell (p := ⟨w6.heap.size, 1, none⟩) bX0_lt10).trans bX01_10
         have bX02_11 : w11.cell? ⟨w6.heap.size, 2, none⟩ = some X0_2 := (hs11.cell (p := ⟨w6.heap.size, 2, none⟩) bX0_lt10).trans bX02_10
         have bX03_11 : w11.cell? ⟨w6.heap.size, 3, none⟩ = some X0_3 := (hs11.cell (p := ⟨w6.heap.size, 3, none⟩) bX0_lt10).trans bX03_10
         have bX04_11 : w11.cell? ⟨w6.heap.size, 4, none⟩ = some X0_4 := (hs11.cell (p := ⟨w6.heap.size, 4, none⟩) bX0_lt10).trans bX04_10
         have bX05_11 : w11.cell? ⟨w6.heap.size, 5, none⟩ = some X0_5 := (hs11.cell (p := ⟨w6.heap.size, 5, none⟩) bX0_lt10).trans bX05_10
         have bX06_11 : w11.cell? ⟨w6.heap.size, 6, none⟩ = some X0_6 := (hs11.cell (p := ⟨w6.heap.size, 6, none⟩) bX0_lt10).trans bX06_10
         have bX0_lt11 : w6.heap.size < w11.heap.size := Nat.lt_of_lt_of_le bX0_lt10 hs11.size
         clear bX00_10 bX01_10 bX02_10 bX03_10 bX04_10 bX05_10 bX06_10 bX0_lt10
         rw [eqb_true rfl]))
  rename_i hh
  clear hh
  go_wp2_with fail
  have hp12 := (Below.refl w11.heap.size w11)
  refine (toStepS_any _ _ _ ((A1.out.below hb11).below hp12) HLE1.out).mono ?_
  rintro e w12 ⟨vhq9, rfl, hq9, hc12⟩
  have hs12 := Below.up hp12 hc12 (by simp <;> omega)
  have hb12 := hb11.trans (hs12.mono hb11.size)
  have hz12 := hs12.size
  have hw12 := hw11.trans (hs12.mono hw11.size)
  have bx00_12 : w12.cell? ⟨w.heap.size, 0, none⟩ = some a0_0 := (hs12.cell (p := ⟨w.heap.size, 0, none⟩) bx0_lt11).trans bx00_11
  have bx01_12 : w12.cell? ⟨w.heap.size, 1, none⟩ = some a0_1 := (hs12.cell (p := ⟨w.heap.size, 1, none⟩) bx0_lt11).trans bx01_11
  have bx02_12 : w12.cell? ⟨w.heap.size, 2, none⟩ = some a0_2 := (hs12.cell (p := ⟨w.heap.size, 2, none⟩) bx0_lt11).trans bx02_11
  have bx03_12 : w12.cell? ⟨w.heap.size, 3, none⟩ = some a0_3 := (hs12.cell (p := ⟨w.heap.size, 3, none⟩) bx0_lt11).trans bx03_11
  have bx04_12 : w12.cell? ⟨w.heap.size, 4, none⟩ = some a0_4 := (hs12.cell (p := ⟨w.heap.size, 4, none⟩) bx0_lt11).trans bx04_11
  have bx05_12 : w12.cell? ⟨w.heap.size, 5, none⟩ = some a0_5 := (hs12.cell (p := ⟨w.heap.size, 5, none⟩) bx0_lt11).trans bx05_11
  have bx06_12 : w12.cell? ⟨w.heap.size, 6, none⟩ = some a0_6 := (hs12.cell (p := ⟨w.heap.size, 6, none⟩) bx0_lt11).trans bx06_11
  have bx0_lt12 : w.heap.size < w12.heap.size := Nat.lt_of_lt_of_le bx0_lt11 hs12.size
  clear bx00_11 bx01_11 bx02_11 bx03_11 bx04_11 bx05_11 bx06_11 bx0_lt11
  have bX00_12 : w12.cell? ⟨w6.heap.size, 0, none⟩ = some X0_0 := (hs12.cell (p := ⟨w6.heap.size, 0, none⟩) bX0_lt11).trans bX00_11
  have bX01_12 : w12.cell? ⟨w6.heap.size, 1, none⟩ = some X0_1 := (hs12.cell (p := ⟨w6.heap.size, 1, none⟩) bX0_lt11).trans bX01_11
  have bX02_12 : w12.cell? ⟨w6.heap.size, 2, none⟩ = some X0_2 := (hs12.cell (p := ⟨w6.heap.size, 2, none⟩) bX0_lt11).trans bX02_11
  have bX03_12 : w12.cell? ⟨w6.heap.size, 3, none⟩ = some X0_3 := (hs12.cell (p := ⟨w6.heap.size, 3, none⟩) bX0_lt11).trans bX03_11
  have bX04_12 : w12.cell? ⟨w6.heap.size, 4, none⟩ = some X0_4 := (hs12.cell (p := ⟨w6.heap.size, 4, none⟩) bX0_lt11).trans bX04_11
  have bX05_12 : w12.cell? ⟨w6.heap.size, 5, none⟩ = some X0_5 := (hs12.cell (p := ⟨w6.heap.size, 5, none⟩) bX0_lt11).trans bX05_11
  have bX06_12 : w12.cell? ⟨w6.heap.size, 6, none⟩ = some X0_6 := (hs12.cell (p := ⟨w6.heap.size, 6, none⟩) bX0_lt11).trans bX06_11
  have bX0_lt12 : w6.heap.size < w12.heap.size := Nat.lt_of_lt_of_le bX0_lt11 hs12.size
  clear bX00_11 bX01_11 bX02_11 bX03_11 bX04_11 bX05_11 bX06_11 bX0_lt11
  obtain ⟨adq9, capq9, rfl, hclq9, hcmq9⟩ := hq9.has.len_slice
  clear hclq9 hcmq9
  have Fq910 := Lib.hid hq9
  clear hq9
  go_wp2_with fail
  have hp13 := (Below.refl w12.heap.size w12)
  refine (eqStepS_any _ _ _ _ _ ((((((((FX15.out.below hs8 (by omega)).below hs9 (by omega)).below hs10 (by omega)).below hs11 (by omega)).below hs12 (by omega)).below hp13 (by omega)).own (Nat.le_refl _)).has) ((Fq910.out.below hp13)).has).mono ?_
  rintro e w13 ⟨v, rfl, rfl, hc13⟩
  have hs13 := Below.up hp13 hc13 (by simp <;> omega)
  have hb13 := hb12.trans (hs13.mono hb12.size)
  have hz13 := hs13.size
  have hw13 := hw12.trans (hs13.mono hw12.size)
  have bx00_13 : w13.cell? ⟨w.heap.size, 0, none⟩ = some a0_0 := (hs13.cell (p := ⟨w.heap.size, 0, none⟩) bx0_lt12).trans bx00_12
  have bx01_13 : w13.cell? ⟨w.heap.size, 1, none⟩ = some a0_1 := (hs13.cell (p := ⟨w.heap.size, 1, none⟩) bx0_lt12).trans bx01_12
  have bx02_13 : w13.cell? ⟨w.heap.size, 2, none⟩ = some a0_2 := (hs13.cell (p := ⟨w.heap.size, 2, none⟩) bx0_lt12).trans bx02_12
  have bx03_13 : w13.cell? ⟨w.heap.size, 3, none⟩ = some a0_3 := (hs13.cell (p := ⟨w.heap.size, 3, none⟩) bx0_lt12).trans bx03_12
  have bx04_13 : w13.cell? ⟨w.heap.size, 4, none⟩ = some a0_4 := (hs13.cell (p := ⟨w.heap.size, 4, none⟩) bx0_lt12).trans bx04_12
  have bx05_13 : w13.cell? ⟨w.heap.size, 5, none⟩ = some a0_5 := (hs13.cell (p := ⟨w.heap.size, 5, none⟩) bx0_lt12).trans bx05_12
  have bx06_13 : w13.cell? ⟨w.heap.size, 6, none⟩ = some a0_6 := (hs13.cell (p := ⟨w.heap.size, 6, none⟩) bx0_lt12).trans bx06_12
  have bx0_lt13 : w.heap.size < w13.heap.size := Nat.lt_of_lt_of_le bx0_lt12 hs13.size
  clear bx00_12 bx01_12 bx02_12 bx03_12 bx04_12 bx05_12 bx06_12 bx0_lt12
  have bX00_13 : w13.cell? ⟨w6.heap.size, 0, none⟩ = some X0_0 := (hs13.cell (p := ⟨w6.heap.size, 0, none⟩) bX0_lt12).trans bX00_12
  have bX01_13 : w13.cell? ⟨w6.heap.size, 1, none⟩ = some X0_1 := (hs13.cell (p := ⟨w6.heap.size, 1, none⟩) bX0_lt12).trans bX01_12
  have bX02_13 : w13.cell? ⟨w6.heap.size, 2, none⟩ = some X0_2 := (hs13.cell (p := ⟨w6.heap.size, 2, none⟩) bX0_lt12).trans bX02_12
  have bX03_13 : w13.cell? ⟨w6.heap.size, 3, none⟩ = some X0_3 := (hs13.cell (p := ⟨w6.heap.size, 3, none⟩) bX0_lt12).trans bX03_12
  have bX04_13 : w13.cell? ⟨w6.heap.size, 4, none⟩ = some X0_4 := (hs13.cell (p := ⟨w6.heap.size, 4, none⟩) bX0_lt12).trans bX04_12
  have bX05_13 : w13.cell? ⟨w6.heap.size, 5, none⟩ = some X0_5 := (hs13.cell (p := ⟨w6.heap.size, 5, none⟩) bX0_lt12).trans bX05_12
  have bX06_13 : w13.cell? ⟨w6.heap.size, 6, none⟩ = some X0_6 := (hs13.cell (p := ⟨w6.heap.size, 6, none⟩) bX0_lt12).trans bX06_12
  have bX0_lt13 : w6.heap.size < w13.heap.size := Nat.lt_of_lt_of_le bX0_lt12 hs13.size
  clear bX00_12 bX01_12 bX02_12 bX03_12 bX04_12 bX05_12 bX06_12 bX0_lt12
  rw [eqb_true rfl]
  have hcn0 : cnPlacement x0 ≤ 3145728 := by have := cnPlacement_le x0; have := HLE0.out; omega
  go_wp2_with fail
  have hp14 := (Below.refl w13.heap.size w13)
  obtain ⟨fp14, hr14, hn14, hfp14⟩ := ((((((((FX04.out.below hs7 (by omega)).below hs8 (by omega)).below hs9 (by omega)).below hs10 (by omega)).below hs11 (by omega)).below hs12 (by omega)).below hs13 (by omega)).below hp14 (by omega))
  refine (markPlacement_any _ _ _ _ _ _ _ _ (1) fp14 _ hr14 hn14 (fun b hb => (hfp14 b hb).2.2) (by omega) (by omega)).mono ?_
  rintro e w14 ⟨v, rfl, rfl, hm14, hu14⟩
  have hz14 := hu14.size
  have hl14 : Below (w5.heap.size) w13 w14 := hu14.below (fun b hb => (hfp14 b hb).1) (by omega)
  have hb14 := hb13.trans (hl14.mono (by omega))
  have hw14 := hw13.trans (hl14.mono (by omega))
  have bx00_14 : w14.cell? ⟨w.heap.size, 0, none⟩ = some a0_0 := (hu14.cell bx0_lt13 (fun hm => by have h1 := (hfp14 _ hm).1; have h2 := (hfp14 _ hm).2.1; omega) 0).trans bx00_13
  have bx01_14 : w14.cell? ⟨w.heap.size, 1, none⟩ = some a0_1 := (hu14.cell bx0_lt13 (fun hm => by have h1 := (hfp14 _ hm).1; have h2 := (hfp14 _ hm).2.1; omega) 1).trans bx01_13
  have bx02_14 : w14.cell? ⟨w.heap.size, 2, none⟩ = some a0_2 := (hu14.cell bx0_lt13 (fun hm => by have h1 := (hfp14 _ hm).1; have h2 := (hfp14 _ hm).2.1; omega) 2).trans bx02_13
  have bx03_14 : w14.cell? ⟨w.heap.size, 3, none⟩ = some a0_3 := (hu14.cell bx0_lt13 (fun hm => by have h1 := (hfp14 _ hm).1; have h2 := (hfp14 _ hm).2.1; omega) 3).trans bx03_13
  have bx04_14 : w14.cell? ⟨w.heap.size, 4, none⟩ = some a0_4 := (hu14.cell bx0_lt13 (fun hm => by have h1 := (hfp14 _ hm).1; have h2 := (hfp14 _ hm).2.1; omega) 4).trans bx04_13
  have bx05_14 : w14.cell? ⟨w.heap.size, 5, none⟩ = some a0_5 := (hu14.cell bx0_lt13 (fun hm => by have h1 := (hfp14 _ hm).1; have h2 := (hfp14 _ hm).2.1; omega) 5).trans bx05_13
  have bx06_14 : w14.cell? ⟨w.heap.size, 6, none⟩ = some a0_6 := (hu14.cell bx0_lt13 (fun hm => by have h1 := (hfp14 _ hm).1; have h2 := (hfp14 _ hm).2.1; omega) 6).trans bx06_13
  have bx0_lt14 : w.heap.size < w14.heap.size := Nat.lt_of_lt_of_le bx0_lt13 hz14
  clear bx00_13 bx01_13 bx02_13 bx03_13 bx04_13 bx05_13 bx06_13 bx0_lt13
  have bX00_14 : w14.cell? ⟨w6.heap.size, 0, none⟩ = some X0_0 := (hu14.cell bX0_lt13 (fun hm => by have h1 := (hfp14 _ hm).1; have h2 := (hfp14 _ hm).2.1; omega) 0).trans bX00_13
  have bX01_14 : w14.cell? ⟨w6.heap.size, 1, none⟩ = some X0_1 := (hu14.cell bX0_lt13 (fun hm => by have h1 := (hfp14 _ hm).1; have h2 := (hfp14 _ hm).2.1; omega) 1).trans bX01_13
  have bX02_14 : w14.cell? ⟨w6.heap.size, 2, none⟩ = some X0_2 := (hu14.cell bX0_lt13 (fun hm => by have h1 := (hfp14 _ hm).1; have h2 := (hfp14 _ hm).2.1; omega) 2).trans bX02_13
  have bX03_14 : w14.cell? ⟨w6.heap.size, 3, none⟩ = some X0_3 := (hu14.cell bX0_lt13 (fun hm => by have h1 := (hfp14 _ hm).1; have h2 := (hfp14 _ hm).2.1; omega) 3).trans bX03_13
  have bX04_14 : w14.cell? ⟨w6.heap.size, 4, none⟩ = some X0_4 := (hu14.cell bX0_lt13 (fun hm => by have h1 := (hfp14 _ hm).1; have h2 := (hfp14 _ hm).2.1; omega) 4).trans bX04_13
  have bX05_14 : w14.cell? ⟨w6.heap.size, 5, none⟩ = some X0_5 := (hu14.cell bX0_lt13 (fun hm => by have h1 := (hfp14 _ hm).1; have h2 := (hfp14 _ hm).2.1; omega) 5).trans bX05_13
  have bX06_14 : w14.cell? ⟨w6.heap.size, 6, none⟩ = some X0_6 := (hu14.cell bX0_lt13 (fun hm => by have h1 := (hfp14 _ hm).1; have h2 := (hfp14 _ hm).2.1; omega) 6).trans bX06_13
  have bX0_lt14 : w6.heap.size < w14.heap.size := Nat.lt_of_lt_of_le bX0_lt13 hz14
  clear bX00_13 bX01_13 bX02_13 bX03_13 bX04_13 bX05_13 bX06_13 bX0_lt13
  have FX111 := Lib.hid (OwnIn.frame ((((((FX15.out.below hs8 (by omega)).below hs9 (by omega)).below hs10 (by omega)).below hs11 (by omega)).below hs12 (by omega)).below hs13 (by omega)) (fun b h1 h2 => hu14.block b (by omega) (fun hm => by have h3 := (hfp14 b hm).1; have h4 := (hfp14 b hm).2.1; omega)))
  have Fg012 := Lib.hid (OwnIn.frame (((((Fg06.out.below hs9 (by omega)).below hs10 (by omega)).below hs11 (by omega)).below hs12 (by omega)).below hs13 (by omega)) (fun b h1 h2 => hu14.block b (by omega) (fun hm => by have h3 := (hfp14 b hm).1; have h4 := (hfp14 b hm).2.1; omega)))
  have FMX0 := Lib.hid (Has.of hm14)
  clear hr14 hn14 hm14
  have hcn1 : cnStepS x1 ≤ 3145728 := by have := cnStepS_le x1; have := HLE1.out; omega
  go_wp2_with fail
  have hp15 := (Below.refl w14.heap.size w14)
  obtain ⟨fp15, hr15, hn15, hfp15⟩ := (FX111.out.below hp15 (by omega))
  refine (markStepS_any _ _ ((1 + ((cnPlacement x0 : Nat) : Int))) fp15 _ hr15 hn15 (fun b hb => (hfp15 b hb).2.2) (by omega) (by omega)).mono ?_
  rintro e w15 ⟨v, rfl, rfl, hm15, hu15⟩
  have hz15 := hu15.size
  have hl15 : Below (w6.heap.size + 1) w14 w15 := hu15.below (fun b hb => (hfp15 b hb).1) (by omega)
  have hb15 := hb14.trans (hl15.mono (by omega))
  have hw15 := hw14.trans (hl15.mono (by omega))
  have bx00_15 : w15.cell? ⟨w.heap.size, 0, none⟩ = some a0_0 := (hu15.cell bx0_lt14 (fun hm => by have h1 := (hfp15 _ hm).1; have h2 := (hfp15 _ hm).2.1; omega) 0).trans bx00_14
  have bx01_15 : w15.cell? ⟨w.heap.size, 1, none⟩ = some a0_1 := (hu15.cell bx0_lt14 (fun hm => by have h1 := (hfp15 _ hm).1; have h2 := (hfp15 _ hm).2.1; omega) 1).trans bx01_14
  have bx02_15 : w15.cell? ⟨w.heap.size, 2, none⟩ = some a0_2 := (hu15.cell bx0_lt14 (fun hm => by have h1 := (hfp15 _ hm).1; have h2 := (hfp15 _ hm).2.1; omega) 2).trans bx02_14
  have bx03_15 : w15.cell? ⟨w.heap.size, 3, none⟩ = some a0_3 := (hu15.cell bx0_lt14 (fun hm => by have h1 := (hfp15 _ hm).1; have h2 := (hfp15 _ hm).2.1; omega) 3).trans bx03_14
  have bx04_15 : w15.cell? ⟨w.heap.size, 4, none⟩ = some a0_4 := (hu15.cell bx0_lt14 (fun hm => by have h1 := (hfp15 _ hm).1; have h2 := (hfp15 _ hm).2.1; omega) 4).trans bx04_14
  have bx05_15 : w15.cell? ⟨w.heap.size, 5, none⟩ = some a0_5 := (hu15.cell bx0_lt14 (fun hm => by have h1 := (hfp15 _ hm).1; have h2 := (hfp15 _ hm).2.1; omega) 5).trans bx05_14
  have bx06_15 : w15.cell? ⟨w.heap.size, 6, none⟩ = some a0_6 := (hu15.cell bx0_lt14 (fun hm => by have h1 := (hfp15 _ hm).1; have h2 := (hfp15 _ hm).2.1; omega) 6).trans bx06_14
  have bx0_lt15 : w.heap.size < w15.heap.size := Nat.lt_of_lt_of_le bx0_lt14 hz15
  clear bx00_14 bx01_14 bx02_14 bx03_14 bx04_14 bx05_14 bx06_14 bx0_lt14
  have bX00_15 : w15.cell? ⟨w6.heap.size, 0, none⟩ = some X0_0 := (hu15.cell bX0_lt14 (fun hm => by have h1 := (hfp15 _ hm).1; have h2 := (hfp15 _ hm).2.1; omega) 0).trans bX00_14
  have bX01_15 : w15.cell? ⟨w6.heap.size, 1, none⟩ = some X0_1 := (hu15.cell bX0_lt14 (fun hm => by have h1 := (hfp15 _ hm).1; have h2 := (hfp15 _ hm).2.1; omega) 1).trans bX01_14
  have bX02_15 : w15.cell? ⟨w6.heap.size, 2, none⟩ = some X0_2 := (hu15.cell bX0_lt14 (fun hm => by have h1 := (hfp15 _ hm).1; have h2 := (hfp15 _ hm).2.1; omega) 2).trans bX02_14
  have bX03_15 : w15.cell? ⟨w6.heap.size, 3, none⟩ = some X0_3 := (hu15.cell bX0_lt14 (fun hm => by have h1 := (hfp15 _ hm).1; have h2 := (hfp15 _ hm).2.1; omega) 3).trans bX03_14
  have bX04_15 : w15.cell? ⟨w6.heap.size, 4, none⟩ = some X0_4 := (hu15.cell bX0_lt14 (fun hm => by have h1 := (hfp15 _ hm).1; have h2 := (hfp15 _ hm).2.1; omega) 4).trans bX04_14
  have bX05_15 : w15.cell? ⟨w6.heap.size, 5, none⟩ = some X0_5 := (hu15.cell bX0_lt14 (fun hm => by have h1 := (hfp15 _ hm).1; have h2 := (hfp15 _ hm).2.1; omega) 5).trans bX05_14
  have bX06_15 : w15.cell? ⟨w6.heap.size, 6, none⟩ = some X0_6 := (hu15.cell bX0_lt14 (fun hm => by have h1 := (hfp15 _ hm).1; have h2 := (hfp15 _ hm).2.1; omega) 6).trans bX06_14
  have bX0_lt15 : w6.heap.size < w15.heap.size := Nat.lt_of_lt_of_le bX0_lt14 hz15
  clear bX00_14 bX01_14 bX02_14 bX03_14 bX04_14 bX05_14 bX06_14 bX0_lt14
  have Fg013 := Lib.hid (OwnIn.frame Fg012.out (fun b h1 h2 => hu15.block b (by omega) (fun hm => by have h3 := (hfp15 b hm).1; have h4 := (hfp15 b hm).2.1; omega)))
  have FMX1 := Lib.hid (Has.of hm15)
  clear hr15 hn15 hm15
  generalize hkk : ((1 + ((cnPlacement x0 : Nat) : Int)) + ((cnStepS x1 : Nat) : Int) : Int) = kk
  have hk0 : 0 ≤ kk := by omega
  go_wp2_with fail
  have hp16 := (Below.refl w15.heap.size w15)
  refine (eqStepS_any _ _ _ _ _ (((Fg013.out.below hp16 (by omega)).own (Nat.le_refl _)).has) ((Fw0.out.below hw15).below hp16)).mono ?_
  rintro e w16 ⟨v, rfl, rfl, hc16⟩
  have hs16 := Below.up hp16 hc16 (by simp <;> omega)
  have hb16 := hb15.trans (hs16.mono hb15.size)
  have hz16 := hs16.size
  have hw16 := hw15.trans (hs16.mono hw15.size)
  have bx00_16 : w16.cell? ⟨w.heap.size, 0, none⟩ = some a0_0 := (hs16.cell (p := ⟨w.heap.size, 0, none⟩) bx0_lt15).trans bx00_15
  have bx01_16 : w16.cell? ⟨w.heap.size, 1, none⟩ = some a0_1 := (hs16.cell (p := ⟨w.heap.size, 1, none⟩) bx0_lt15).trans bx01_15
  have bx02_16 : w16.cell? ⟨w.heap.size, 2, none⟩ = some a0_2 := (hs16.cell (p := ⟨w.heap.size, 2, none⟩) bx0_lt15).trans bx02_15
  have bx03_16 : w16.cell? ⟨w.heap.size, 3, none⟩ = some a0_3 := (hs16.cell (p := ⟨w.heap.size, 3, none⟩) bx0_lt15).trans bx03_15
  have bx04_16 : w16.cell? ⟨w.heap.size, 4, none⟩ = some a0_4 := (hs16.cell (p := ⟨w.heap.size, 4, none⟩) bx0_lt15).trans bx04_15
  have bx05_16 : w16.cell? ⟨w.heap.size, 5, none⟩ = some a0_5 := (hs16.cell (p := ⟨w.heap.size, 5, none⟩) bx0_lt15).trans bx05_15
  have bx06_16 : w16.cell? ⟨w.heap.size, 6, none⟩ = some a0_6 := (hs16.cell (p := ⟨w.heap.size, 6, none⟩) bx0_lt15).trans bx06_15
  have bx0_lt16 : w.heap.size < w16.heap.size := Nat.lt_of_lt_of_le bx0_lt15 hs16.size
  clear bx00_15 bx01_15 bx02_15 bx03_15 bx04_15 bx05_15 bx06_15 bx0_lt15
  have bX00_16 : w16.cell? ⟨w6.heap.size, 0, none⟩ = some X0_0 := (hs16.cell (p := ⟨w6.heap.size, 0, none⟩) bX0_lt15).trans bX00_15
  have bX01_16 : w16.cell? ⟨w6.heap.size, 1, none⟩ = some X0_1 := (hs16.cell (p := ⟨w6.heap.size, 1, none⟩) bX0_lt15).trans bX01_15
  have bX02_16 : w16.cell? ⟨w6.heap.size, 2, none⟩ = some X0_2 := (hs16.cell (p := ⟨w6.heap.size, 2, none⟩) bX0_lt15).trans bX02_15
  have bX03_16 : w16.cell? ⟨w6.heap.size, 3, none⟩ = some X0_3 := (hs16.cell (p := ⟨w6.heap.size, 3, none⟩) bX0_lt15).trans bX03_15
  have bX04_16 : w16.cell? ⟨w6.heap.size, 4, none⟩ = some X0_4 := (hs16.cell (p := ⟨w6.heap.size, 4, none⟩) bX0_lt15).trans bX04_15
  have bX05_16 : w16.cell? ⟨w6.heap.size, 5, none⟩ = some X0_5 := (hs16.cell (p := ⟨w6.heap.size, 5, none⟩) bX0_lt15).trans bX05_15
  have bX06_16 : w16.cell? ⟨w6.heap.size, 6, none⟩ = some X0_6 := (hs16.cell (p := ⟨w6.heap.size, 6, none⟩) bX0_lt15).trans bX06_15
  have bX0_lt16 : w6.heap.size < w16.heap.size := Nat.lt_of_lt_of_le bX0_lt15 hs16.size
  clear bX00_15 bX01_15 bX02_15 bX03_15 bX04_15 bX05_15 bX06_15 bX0_lt15
  rw [eqb_true rfl]
  have hcg : cnStepS (dropAll x0.2 x1).2 ≤ 3145728 := by have h1 := cnStepS_le (dropAll x0.2 x1).2; have h2 := dropAll_len x0.2 x1; have h3 := dropAll_t x0.2 x1; have h4 := HLE1.out; omega
  go_wp2_with fail
  have hp17 := (Below.refl w16.heap.size w16)
  obtain ⟨fp17, hr17, hn17, hfp17⟩ := ((Fg013.out.below hs16 (by omega)).below hp17 (by omega))
  refine (markStepS_any _ _ (1) fp17 _ hr17 hn17 (fun b hb => (hfp17 b hb).2.2) (by omega) (by omega)).mono ?_
  rintro e w17 ⟨v, rfl, rfl, hm17, hu17⟩
  have hz17 := hu17.size
  have hl17 : Below (w7.heap.size) w16 w17 := hu17.below (fun b hb => (hfp17 b hb).1) (by omega)
  have hb17 := hb16.trans (hl17.mono (by omega))
  have hw17 := hw16.trans (hl17.mono (by omega))
  have bx00_17 : w17.cell? ⟨w.heap.size, 0, none⟩ = some a0_0 := (hu17.cell bx0_lt16 (fun hm => by have h1 := (hfp17 _ hm).1; have h2 := (hfp17 _ hm).2.1; omega) 0).trans bx00_16
  have bx01_17 : w17.cell? ⟨w.heap.size, 1, none⟩ = some a0_1 := (hu17.cell bx0_lt16 (fun hm => by have h1 := (hfp17 _ hm).1; have h2 := (hfp17 _ hm).2.1; omega) 1).trans bx01_16
  have bx02_17 : w17.cell? ⟨w.heap.size, 2, none⟩ = some a0_2 := (hu17.cell bx0_lt16 (fun hm => by have h1 := (hfp17 _ hm).1; have h2 := (hfp17 _ hm).2.1; omega) 2).trans bx02_16
  have bx03_17 : w17.cell? ⟨w.heap.size, 3, none⟩ = some a0_3 := (hu17.cell bx0_lt16 (fun hm => by have h1 := (hfp17 _ hm).1; have h2 := (hfp17 _ hm).2.1; omega) 3).trans bx03_16
  have bx04_17 : w17.cell? ⟨w.heap.size, 4, none⟩ = some a0_4 := (hu17.cell bx0_lt16 (fun hm => by have h1 := (hfp17 _ hm).1; have h2 := (hfp17 _ hm).2.1; omega) 4).trans bx04_16
  have bx05_17 : w17.cell? ⟨w.heap.size, 5, none⟩ = some a0_5 := (hu17.cell bx0_lt16 (fun hm => by have h1 := (hfp17 _ hm).1; have h2 := (hfp17 _ hm).2.1; omega) 5).trans bx05_16
  have bx06_17 : w17.cell? ⟨w.heap.size, 6, none⟩ = some a0_6 := (hu17.cell bx0_lt16 (fun hm => by have h1 := (hfp17 _ hm).1; have h2 := (hfp17 _ hm).2.1; omega) 6).trans bx06_16
  have bx0_lt17 : w.heap.size < w17.heap.size := Nat.lt_of_lt_of_le bx0_lt16 hz17
  clear bx00_16 bx01_16 bx02_16 bx03_16 bx04_16 bx05_16 bx06_16 bx0_lt16
  have bX00_17 : w17.cell? ⟨w6.heap.size, 0, none⟩ = some X0_0 := (hu17.cell bX0_lt16 (fun hm => by have h1 := (hfp17 _ hm).1; have h2 := (hfp17 _ hm).2.1; omega) 0).trans bX00_16
  have bX01_17 : w17.cell? ⟨w6.heap.size, 1, none⟩ = some X0_1 := (hu17.cell bX0_lt16 (fun hm => by have h1 := (hfp17 _ hm).1; have h2 := (hfp17 _ hm).2.1; omega) 1).trans bX01_16
  have bX02_17 : w17.cell? ⟨w6.heap.size, 2, none⟩ = some X0_2 := (hu17.cell bX0_lt16 (fun hm => by have h1 := (hfp17 _ hm).1; have h2 := (hfp17 _ hm).2.1; omega) 2).trans bX02_16
  have bX03_17 : w17.cell? ⟨w6.heap.size, 3, none⟩ = some X0_3 := (hu17.cell bX0_lt16 (fun hm => by have h1 := (hfp17 _ hm).1; have h2 := (hfp17 _ hm).2.1; omega) 3).trans bX03_16
  have bX04_17 : w17.cell? ⟨w6.heap.size, 4, none⟩ = some X0_4 := (hu17.cell bX0_lt16 (fun hm => by have h1 := (hfp17 _ hm).1; have h2 := (hfp17 _ hm).2.1; omega) 4).trans bX04_16
  have bX05_17 : w17.cell? ⟨w6.heap.size, 5, none⟩ = some X0_5 := (hu17.cell bX0_lt16 (fun hm => by have h1 := (hfp17 _ hm).1; have h2 := (hfp17 _ hm).2.1; omega) 5).trans bX05_16
  have bX06_17 : w17.cell? ⟨w6.heap.size, 6, none⟩ = some X0_6 := (hu17.cell bX0_lt16 (fun hm => by have h1 := (hfp17 _ hm).1; have h2 := (hfp17 _ hm).2.1; omega) 6).trans bX06_16
  have bX0_lt17 : w6.heap.size < w17.heap.size := Nat.lt_of_lt_of_le bX0_lt16 hz17
  clear bX00_16 bX01_16 bX02_16 bX03_16 bX04_16 bX05_16 bX06_16 bX0_lt16
  have FMg0 := Lib.hid (Has.of hm17)
  clear hr17 hn17 hm17
  go_wp2_with fail
  have hp18 := (Below.refl w17.heap.size w17)
  refine (heldStepS_any _ _ _ _ (FMg0.out.below hp18) (by omega) (by omega)).mono ?_
  rintro e w18 ⟨v, rfl, rfl, hc18⟩
  have hs18 := Below.up hp18 hc18 (by simp <;> omega)
  have hb18 := hb17.trans (hs18.mono hb17.size)
  have hz18 := hs18.size
  have hw18 := hw17.trans (hs18.mono hw17.size)
  have bx00_18 : w18.cell? ⟨w.heap.size, 0, none⟩ = some a0_0 := (hs18.cell (p := ⟨w.heap.size, 0, none⟩) bx0_lt17).trans bx00_17
  have bx01_18 : w18.cell? ⟨w.heap.size, 1, none⟩ = some a0_1 := (hs18.cell (p := ⟨w.heap.size, 1, none⟩) bx0_lt17).trans bx01_17
  have bx02_18 : w18.cell? ⟨w.heap.size, 2, none⟩ = some a0_2 := (hs18.cell (p := ⟨w.heap.size, 2, none⟩) bx0_lt17).trans bx02_17
  have bx03_18 : w18.cell? ⟨w.heap.size, 3, none⟩ = some a0_3 := (hs18.cell (p := ⟨w.heap.size, 3, none⟩) bx0_lt17).trans bx03_17
  have bx04_18 : w18.cell? ⟨w.heap.size, 4, none⟩ = some a0_4 := (hs18.cell (p := ⟨w.heap.size, 4, none⟩) bx0_lt17).trans bx04_17
  have bx05_18 : w18.cell? ⟨w.heap.size, 5, none⟩ = some a0_5 := (hs18.cell (p := ⟨w.heap.size, 5, none⟩) bx0_lt17).trans bx05_17
  have bx06_18 : w18.cell? ⟨w.heap.size, 6, none⟩ = some a0_6 := (hs18.cell (p := ⟨w.heap.size, 6, none⟩) bx0_lt17).trans bx06_17
  have bx0_lt18 : w.heap.size < w18.heap.size := Nat.lt_of_lt_of_le bx0_lt17 hs18.size
  clear bx00_17 bx01_17 bx02_17 bx03_17 bx04_17 bx05_17 bx06_17 bx0_lt17
  have bX00_18 : w18.cell? ⟨w6.heap.size, 0, none⟩ = some X0_0 := (hs18.cell (p := ⟨w6.heap.size, 0, none⟩) bX0_lt17).trans bX00_17
  have bX01_18 : w18.cell? ⟨w6.heap.size, 1, none⟩ = some X0_1 := (hs18.cell (p := ⟨w6.heap.size, 1, none⟩) bX0_lt17).trans bX01_17
  have bX02_18 : w18.cell? ⟨w6.heap.size, 2, none⟩ = some X0_2 := (hs18.cell (p := ⟨w6.heap.size, 2, none⟩) bX0_lt17).trans bX02_17
  have bX03_18 : w18.cell? ⟨w6.heap.size, 3, none⟩ = some X0_3 := (hs18.cell (p := ⟨w6.heap.size, 3, none⟩) bX0_lt17).trans bX03_17
  have bX04_18 : w18.cell? ⟨w6.heap.size, 4, none⟩ = some X0_4 := (hs18.cell (p := ⟨w6.heap.size, 4, none⟩) bX0_lt17).trans bX04_17
  have bX05_18 : w18.cell? ⟨w6.heap.size, 5, none⟩ = some X0_5 := (hs18.cell (p := ⟨w6.heap.size, 5, none⟩) bX0_lt17).trans bX05_17
  have bX06_18 : w18.cell? ⟨w6.heap.size, 6, none⟩ = some X0_6 := (hs18.cell (p := ⟨w6.heap.size, 6, none⟩) bX0_lt17).trans bX06_17
  have bX0_lt18 : w6.heap.size < w18.heap.size := Nat.lt_of_lt_of_le bX0_lt17 hs18.size
  clear bX00_17 bX01_17 bX02_17 bX03_17 bX04_17 bX05_17 bX06_17 bX0_lt17
  generalize hmm : (1 + ((cnStepS (dropAll x0.2 x1).2 : Nat) : Int)) = mm
  have hm0 : 0 ≤ mm := by omega
  go_wp2_with fail
  have hp19 := (Below.refl w18.heap.size w18)
  refine (toPlacement_any _ _ _ _ _ _ _ _ _ ((A0.out.below hb18).below hp19) HLE0.out).mono ?_
  rintro e w19 ⟨v, rfl, ⟨cshq14, rfl, hq14⟩, hc19⟩
  have hs19 := Below.up hp19 hc19 (by simp <;> omega)
  have hb19 := hb18.trans (hs19.mono hb18.size)
  have hz19 := hs19.size
  have hw19 := hw18.trans (hs19.mono hw18.size)
  have bx00_19 : w19.cell? ⟨w.heap.size, 0, none⟩ = some a0_0 := (hs19.cell (p := ⟨w.heap.size, 0, none⟩) bx0_lt18).trans bx00_18
  have bx01_19 : w19.cell? ⟨w.heap.size, 1, none⟩ = some a0_1 := (hs19.cell (p := ⟨w.heap.size, 1, none⟩) bx0_lt18).trans bx01_18
  have bx02_19 : w19.cell? ⟨w.heap.size, 2, none⟩ = some a0_2 := (hs19.cell (p := ⟨w.heap.size, 2, none⟩) bx0_lt18).trans bx02_18
  have bx03_19 : w19.cell? ⟨w.heap.size, 3, none⟩ = some a0_3 := (hs19.cell (p := ⟨w.heap.size, 3, none⟩) bx0_lt18).trans bx03_18
  have bx04_19 : w19.cell? ⟨w.heap.size, 4, none⟩ = some a0_4 := (hs19.cell (p := ⟨w.heap.size, 4, none⟩) bx0_lt18).trans bx04_18
  have bx05_19 : w19.cell? ⟨w.heap.size, 5, none⟩ = some a0_5 := (hs19.cell (p := ⟨w.heap.size, 5, none⟩) bx0_lt18).trans bx05_18
  have bx06_19 : w19.cell? ⟨w.heap.size, 6, none⟩ = some a0_6 := (hs19.cell (p := ⟨w.heap.size, 6, none⟩) bx0_lt18).trans bx06_18
  have bx0_lt19 : w.heap.size < w19.heap.size := Nat.lt_of_lt_of_le bx0_lt18 hs19.size
  clear bx00_18 bx01_18 bx02_18 bx03_18 bx04_18 bx05_18 bx06_18 bx0_lt18
  have bX00_19 : w19.cell? ⟨w6.heap.size, 0, none⟩ = some X0_0 := (hs19.cell (p := ⟨w6.heap.size, 0, none⟩) bX0_lt18).trans bX00_18
  have bX01_19 : w19.cell? ⟨w6.heap.size, 1, none⟩ = some X0_1 := (hs19.cell (p := ⟨w6.heap.size, 1, none⟩) bX0_lt18).trans bX01_18
  have bX02_19 : w19.cell? ⟨w6.heap.size, 2, none⟩ = some X0_2 := (hs19.cell (p := ⟨w6.heap.size, 2, none⟩) bX0_lt18).trans bX02_18
  have bX03_19 : w19.cell? ⟨w6.heap.size, 3, none⟩ = some X0_3 := (hs19.cell (p := ⟨w6.heap.size, 3, none⟩) bX0_lt18).trans bX03_18
  have bX04_19 : w19.cell? ⟨w6.heap.size, 4, none⟩ = some X0_4 := (hs19.cell (p := ⟨w6.heap.size, 4, none⟩) bX0_lt18).trans bX04_18
  have bX05_19 : w19.cell? ⟨w6.heap.size, 5, none⟩ = some X0_5 := (hs19.cell (p := ⟨w6.heap.size, 5, none⟩) bX0_lt18).trans bX05_18
  have bX06_19 : w19.cell? ⟨w6.heap.size, 6, none⟩ = some X0_6 := (hs19.cell (p := ⟨w6.heap.size, 6, none⟩) bX0_lt18).trans bX06_18
  have bX0_lt19 : w6.heap.size < w19.heap.size := Nat.lt_of_lt_of_le bX0_lt18 hs19.size
  clear bX00_18 bX01_18 bX02_18 bX03_18 bX04_18 bX05_18 bX06_18 bX0_lt18
  obtain ⟨q14_0, q14_1, q14_2, q14_3, q14_4, q14_5, q14_6, rfl⟩ := list7 hq14.has.len
  have oq14_0 := hq14.has.one 0 _ rfl
  have oq14_1 := hq14.has.one 1 _ rfl
  have oq14_2 := hq14.has.one 2 _ rfl
  have oq14_3 := hq14.has.one 3 _ rfl
  have oq14_4 := hq14.has.one 4 _ rfl
  have oq14_5 := hq14.has.one 5 _ rfl
  have oq14_6 := hq14.has.one 6 _ rfl
  have Fq1415 := Lib.hid hq14
  clear hq14
  go_wp2_with fail
  have hp20 := (Below.refl w19.heap.size w19)
  refine (toStepS_any _ _ _ ((A1.out.below hb19).below hp20) HLE1.out).mono ?_
  rintro e w20 ⟨vhq16, rfl, hq16, hc20⟩
  have hs20 := Below.up hp20 hc20 (by simp <;> omega)
  have hb20 := hb19.trans (hs20.mono hb19.size)
  have hz20 := hs20.size
  have hw20 := hw19.trans (hs20.mono hw19.size)
  have bx00_20 : w20.cell? ⟨w.heap.size, 0, none⟩ = some a0_0 := (hs20.cell (p := ⟨w.heap.size, 0, none⟩) bx0_lt19).trans bx00_19
  have bx01_20 : w20.cell? ⟨w.heap.size, 1, none⟩ = some a0_1 := (hs20.cell (p := ⟨w.heap.size, 1, none⟩) bx0_lt19).trans bx01_19
  have bx02_20 : w20.cell? ⟨w.heap.size, 2, none⟩ = some a0_2 := (hs20.cell (p := ⟨w.heap.size, 2, none⟩) bx0_lt19).trans bx02_19
  have bx03_20 : w20.cell? ⟨w.heap.size, 3, none⟩ = some a0_3 := (hs20.cell (p := ⟨w.heap.size, 3, none⟩) bx0_lt19).trans bx03_19
  have bx04_20 : w20.cell? ⟨w.heap.size, 4, none⟩ = some a0_4 := (hs20.cell (p := ⟨w.heap.size, 4, none⟩) bx0_lt19).trans bx04_19
  have bx05_20 : w20.cell? ⟨w.heap.size, 5, none⟩ = some a0_5 := (hs20.cell (p := ⟨w.heap.size, 5, none⟩) bx0_lt19).trans bx05_19
  have bx06_20 : w20.cell? ⟨w.heap.size, 6, none⟩ = some a0_6 := (hs20.cell (p := ⟨w.heap.size, 6, none⟩) bx0_lt19).trans bx06_19
  have bx0_lt20 : w.heap.size < w20.heap.size := Nat.lt_of_lt_of_le bx0_lt19 hs20.size
  clear bx00_19 bx01_19 bx02_19 bx03_19 bx04_19 bx05_19 bx06_19 bx0_lt19
  have bX00_20 : w20.cell? ⟨w6.heap.size, 0, none⟩ = some X0_0 := (hs20.cell (p := ⟨w6.heap.size, 0, none⟩) bX0_lt19).trans bX00_19
  have bX01_20 : w20.cell? ⟨w6.heap.size, 1, none⟩ = some X0_1 := (hs20.cell (p := ⟨w6.heap.size, 1, none⟩) bX0_lt19).trans bX01_19
  have bX02_20 : w20.cell? ⟨w6.heap.size, 2, none⟩ = some X0_2 := (hs20.cell (p := ⟨w6.heap.size, 2, none⟩) bX0_lt19).trans bX02_19
  have bX03_20 : w20.cell? ⟨w6.heap.size, 3, none⟩ = some X0_3 := (hs20.cell (p := ⟨w6.heap.size, 3, none⟩) bX0_lt19).trans bX03_19
  have bX04_20 : w20.cell? ⟨w6.heap.size, 4, none⟩ = some X0_4 := (hs20.cell (p := ⟨w6.heap.size, 4, none⟩) bX0_lt19).trans bX04_19
  have bX05_20 : w20.cell? ⟨w6.heap.size, 5, none⟩ = some X0_5 := (hs20.cell (p := ⟨w6.heap.size, 5, none⟩) bX0_lt19).trans bX05_19
  have bX06_20 : w20.cell? ⟨w6.heap.size, 6, none⟩ = some X0_6 := (hs20.cell (p := ⟨w6.heap.size, 6, none⟩) bX0_lt19).trans bX06_19
  have bX0_lt20 : w6.heap.size < w20.heap.size := Nat.lt_of_lt_of_le bX0_lt19 hs20.size
  clear bX00_19 bX01_19 bX02_19 bX03_19 bX04_19 bX05_19 bX06_19 bX0_lt19
  obtain ⟨adq16, capq16, rfl, hclq16, hcmq16⟩ := hq16.has.len_slice
  clear hclq16 hcmq16
  have Fq1617 := Lib.hid hq16
  clear hq16
  go_wp2_with fail
  have hp21 := (Below.refl w20.heap.size w20)
  refine (implDropIdle_pl _ _ _ _ _ _ _ _ _ _ _ (((Fq1415.out.below hs20).below hp21)).has ((Fq1617.out.below hp21)).has HLE1.out).mono ?_
  rintro e w21 ⟨vhg1, rfl, hg1, hc21⟩
  have hs21 := Below.up hp21 hc21 (by simp <;> omega)
  have hb21 := hb20.trans (hs21.mono hb20.size)
  have hz21 := hs21.size
  have hw21 := hw20.trans (hs21.mono hw20.size)
  have bx00_21 : w21.cell? ⟨w.heap.size, 0, none⟩ = some a0_0 := (hs21.cell (p := ⟨w.heap.size, 0, none⟩) bx0_lt20).trans bx00_20
  have bx01_21 : w21.cell? ⟨w.heap.size, 1, none⟩ = some a0_1 := (hs21.cell (p := ⟨w.heap.size, 1, none⟩) bx0_lt20).trans bx01_20
  have bx02_21 : w21.cell? ⟨w.heap.size, 2, none⟩ = some a0_2 := (hs21.cell (p := ⟨w.heap.size, 2, none⟩) bx0_lt20).trans bx02_20
  have bx03_21 : w21.cell? ⟨w.heap.size, 3, none⟩ = some a0_3 := (hs21.cell (p := ⟨w.heap.size, 3, none⟩) bx0_lt20).trans bx03_20
  have bx04_21 : w21.cell? ⟨w.heap.size, 4, none⟩ = some a0_4 := (hs21.cell (p := ⟨w.heap.size, 4, none⟩) bx0_lt20).trans bx04_20
  have bx05_21 : w21.cell? ⟨w.heap.size, 5, none⟩ = some a0_5 := (hs21.cell (p := ⟨w.heap.size, 5, none⟩) bx0_lt20).trans bx05_20
  have bx06_21 : w21.cell? ⟨w.heap.size, 6, none⟩ = some a0_6 := (hs21.cell (p := ⟨w.heap.size, 6, none⟩) bx0_lt20).trans bx06_20
  have bx0_lt21 : w.heap.size < w21.heap.size := Nat.lt_of_lt_of_le bx0_lt20 hs21.size
  clear bx00_20 bx01_20 bx02_20 bx03_20 bx04_20 bx05_20 bx06_20 bx0_lt20
  have bX00_21 : w21.cell? ⟨w6.heap.size, 0, none⟩ = some X0_0 := (hs21.cell (p := ⟨w6.heap.size, 0, none⟩) bX0_lt20).trans bX00_20
  have bX01_21 : w21.cell? ⟨w6.heap.size, 1, none⟩ = some X0_1 := (hs21.cell (p := ⟨w6.heap.size, 1, none⟩) bX0_lt20).trans bX01_20
  have bX02_21 : w21.cell? ⟨w6.heap.size, 2, none⟩ = some X0_2 := (hs21.cell (p := ⟨w6.heap.size, 2, none⟩) bX0_lt20).trans bX02_20
  have bX03_21 : w21.cell? ⟨w6.heap.size, 3, none⟩ = some X0_3 := (hs21.cell (p := ⟨w6.heap.size, 3, none⟩) bX0_lt20).trans bX03_20
  have bX04_21 : w21.cell? ⟨w6.heap.size, 4, none⟩ = some X0_4 := (hs21.cell (p := ⟨w6.heap.size, 4, none⟩) bX0_lt20).trans bX04_20
  have bX05_21 : w21.cell? ⟨w6.heap.size, 5, none⟩ = some X0_5 := (hs21.cell (p := ⟨w6.heap.size, 5, none⟩) bX0_lt20).trans bX05_20
  have bX06_21 : w21.cell? ⟨w6.heap.size, 6, none⟩ = some X0_6 := (hs21.cell (p := ⟨w6.heap.size, 6, none⟩) bX0_lt20).trans bX06_20
  have bX0_lt21 : w6.heap.size < w21.heap.size := Nat.lt_of_lt_of_le bX0_lt20 hs21.size
  clear bX00_20 bX01_20 bX02_20 bX03_20 bX04_20 bX05_20 bX06_20 bX0_lt20
  obtain ⟨adg1, capg1, rfl, hclg1, hcmg1⟩ := hg1.has.len_slice
  clear hclg1 hcmg1
  have Fqg118 := Lib.hid hg1
  clear hg1
  go_wp2_with fail
  have hp22 := (Below.refl w21.heap.size w21)
  refine (eqStepS_any _ _ _ _ _ ((Fqg118.out.below hp22)).has ((Fw0.out.below hw21).below hp22)).mono ?_
  rintro e w22 ⟨v, rfl, rfl, hc22⟩
  have hs22 := Below.up hp22 hc22 (by simp <;> omega)
  have hb22 := hb21.trans (hs22.mono hb21.size)
  have hz22 := hs22.size
  have hw22 := hw21.trans (hs22.mono hw21.size)
  have bx00_22 : w22.cell? ⟨w.heap.size, 0, none⟩ = some a0_0 := (hs22.cell (p := ⟨w.heap.size, 0, none⟩) bx0_lt21).trans bx00_21
  have bx01_22 : w22.cell? ⟨w.heap.size, 1, none⟩ = some a0_1 := (hs22.cell (p := ⟨w.heap.size, 1, none⟩) bx0_lt21).trans bx01_21
  have bx02_22 : w22.cell? ⟨w.heap.size, 2, none⟩ = some a0_2 := (hs22.cell (p := ⟨w.heap.size, 2, none⟩) bx0_lt21).trans bx02_21
  have bx03_22 : w22.cell? ⟨w.heap.size, 3, none⟩ = some a0_3 := (hs22.cell (p := ⟨w.heap.size, 3, none⟩) bx0_lt21).trans bx03_21
  have bx04_22 : w22.cell? ⟨w.heap.size, 4, none⟩ = some a0_4 := (hs22.cell (p := ⟨w.heap.size, 4, none⟩) bx0_lt21).trans bx04_21
  have bx05_22 : w22.cell? ⟨w.heap.size, 5, none⟩ = some a0_5 := (hs22.cell (p := ⟨w.heap.size, 5, none⟩) bx0_lt21).trans bx05_21
  have bx06_22 : w22.cell? ⟨w.heap.size, 6, none⟩ = some a0_6 := (hs22.cell (p := ⟨w.heap.size, 6, none⟩) bx0_lt21).trans bx06_21
  have bx0_lt22 : w.heap.size < w22.heap.size := Nat.lt_of_lt_of_le bx0_lt21 hs22.size
  clear bx00_21 bx01_21 bx02_21 bx03_21 bx04_21 bx05_21 bx06_21 bx0_lt21
  have bX00_22 : w22.cell? ⟨w6.heap.size, 0, none⟩ = some X0_0 := (hs22.cell (p := ⟨w6.heap.size, 0, none⟩) bX0_lt21).trans bX00_21
  have bX01_22 : w22.cell? ⟨w6.heap.size, 1, none⟩ = some X0_1 := (hs22.cell (p := ⟨w6.heap.size, 1, none⟩) bX0_lt21).trans bX01_21
  have bX02_22 : w22.cell? ⟨w6.heap.size, 2, none⟩ = some X0_2 := (hs22.cell (p := ⟨w6.heap.size, 2, none⟩) bX0_lt21).trans bX02_21
  have bX03_22 : w22.cell? ⟨w6.heap.size, 3, none⟩ = some X0_3 := (hs22.cell (p := ⟨w6.heap.size, 3, none⟩) bX0_lt21).trans bX03_21
  have bX04_22 : w22.cell? ⟨w6.heap.size, 4, none⟩ = some X0_4 := (hs22.cell (p := ⟨w6.heap.size, 4, none⟩) bX0_lt21).trans bX04_21
  have bX05_22 : w22.cell? ⟨w6.heap.size, 5, none⟩ = some X0_5 := (hs22.cell (p := ⟨w6.heap.size, 5, none⟩) bX0_lt21).trans bX05_21
  have bX06_22 : w22.cell? ⟨w6.heap.size, 6, none⟩ = some X0_6 := (hs22.cell (p := ⟨w6.heap.size, 6, none⟩) bX0_lt21).trans bX06_21
  have bX0_lt22 : w6.heap.size < w22.heap.size := Nat.lt_of_lt_of_le bX0_lt21 hs22.size
  clear bX00_21 bX01_21 bX02_21 bX03_21 bX04_21 bX05_21 bX06_21 bX0_lt21
  rw [eqb_true rfl]
  go_wp2_with fail
  have hp23 := (Below.refl w22.heap.size w22)
  refine (heldStepS_any _ _ _ _ ((((((FMg0.out.below hs18).below hs19).below hs20).below hs21).below hs22).below hp23) (by omega) (by omega)).mono ?_
  rintro e w23 ⟨v, rfl, rfl, hc23⟩
  have hs23 := Below.up hp23 hc23 (by simp <;> omega)
  have hb23 := hb22.trans (hs23.mono hb22.size)
  have hz23 := hs23.size
  have hw23 := hw22.trans (hs23.mono hw22.size)
  have bx00_23 : w23.cell? ⟨w.heap.size, 0, none⟩ = some a0_0 := (hs23.cell (p := ⟨w.heap.size, 0, none⟩) bx0_lt22).trans bx00_22
  have bx01_23 : w23.cell? ⟨w.heap.size, 1, none⟩ = some a0_1 := (hs23.cell (p := ⟨w.heap.size, 1, none⟩) bx0_lt22).trans bx01_22
  have bx02_23 : w23.cell? ⟨w.heap.size, 2, none⟩ = some a0_2 := (hs23.cell (p := ⟨w.heap.size, 2, none⟩) bx0_lt22).trans bx02_22
  have bx03_23 : w23.cell? ⟨w.heap.size, 3, none⟩ = some a0_3 := (hs23.cell (p := ⟨w.heap.size, 3, none⟩) bx0_lt22).trans bx03_22
  have bx04_23 : w23.cell? ⟨w.heap.size, 4, none⟩ = some a0_4 := (hs23.cell (p := ⟨w.heap.size, 4, none⟩) bx0_lt22).trans bx04_22
  have bx05_23 : w23.cell? ⟨w.heap.size, 5, none⟩ = some a0_5 := (hs23.cell (p := ⟨w.heap.size, 5, none⟩) bx0_lt22).trans bx05_22
  have bx06_23 : w23.cell? ⟨w.heap.size, 6, none⟩ = some a0_6 := (hs23.cell (p := ⟨w.heap.size, 6, none⟩) bx0_lt22).trans bx06_22
  have bx0_lt23 : w.heap.size < w23.heap.size := Nat.lt_of_lt_of_le bx0_lt22 hs23.size
  clear bx00_22 bx01_22 bx02_22 bx03_22 bx04_22 bx05_22 bx06_22 bx0_lt22
  have bX00_23 : w23.cell? ⟨w6.heap.size, 0, none⟩ = some X0_0 := (hs23.cell (p := ⟨w6.heap.size, 0, none⟩) bX0_lt22).trans bX00_22
  have bX01_23 : w23.cell? ⟨w6.heap.size, 1, none⟩ = some X0_1 := (hs23.cell (p := ⟨w6.heap.size, 1, none⟩) bX0_lt22).trans bX01_22
  have bX02_23 : w23.cell? ⟨w6.heap.size, 2, none⟩ = some X0_2 := (hs23.cell (p := ⟨w6.heap.size, 2, none⟩) bX0_lt22).trans bX02_22
  have bX03_23 : w23.cell? ⟨w6.heap.size, 3, none⟩ = some X0_3 := (hs23.cell (p := ⟨w6.heap.size, 3, none⟩) bX0_lt22).trans bX03_22
  have bX04_23 : w23.cell? ⟨w6.heap.size, 4, none⟩ = some X0_4 := (hs23.cell (p := ⟨w6.heap.size, 4, none⟩) bX0_lt22).trans bX04_22
  have bX05_23 : w23.cell? ⟨w6.heap.size, 5, none⟩ = some X0_5 := (hs23.cell (p := ⟨w6.heap.size, 5, none⟩) bX0_lt22).trans bX05_22
  have bX06_23 : w23.cell? ⟨w6.heap.size, 6, none⟩ = some X0_6 := (hs23.cell (p := ⟨w6.heap.size, 6, none⟩) bX0_lt22).trans bX06_22
  have bX0_lt23 : w6.heap.size < w23.heap.size := Nat.lt_of_lt_of_le bX0_lt22 hs23.size
  clear bX00_22 bX01_22 bX02_22 bX03_22 bX04_22 bX05_22 bX06_22 bX0_lt22
  rw [hmm]
  go_wp2
  go_ret
  exact ⟨_, rfl, rfl, hb23⟩
end Go.Proofs.Ytjkbecgenjhaaaa
