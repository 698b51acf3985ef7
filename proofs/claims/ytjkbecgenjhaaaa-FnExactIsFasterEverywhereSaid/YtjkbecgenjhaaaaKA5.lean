/-
  Texts of a proof, one behind another: LawIsFasterEverywhere, Dw14, Dw15, CtSpeed, LawSpeedLimits.
-/
import Derived.Deep.RegionHeld3
import Derived.Test.YtjkbecgenjhaaaaKA4
set_option linter.all false
/-
  The law FnExactIsFasterEverywhere returns true: the walk through it by the contracts.
-/
namespace Go.Proofs.Ytjkbecgenjhaaaa
open Go.RowKit

set_option maxRecDepth 100000 in
set_option maxHeartbeats 2000000 in
theorem law_FnExactIsFasterEverywhere (a0 : Value) (x0 : DRatS) (a1 : Value) (x1 : DRatS) (w : World) (hx0 : Has RRatS w [a0] x0) (hx1 : Has RRatS w [a1] x1) :
    Calls Try.prog 7 #[a0, a1] w (Post fun r w' => r = .bool true ∧ Below w.heap.size w w') := by
  have A0 := Lib.hid hx0; clear hx0
  have A1 := Lib.hid hx1; clear hx1
  have hb0 := Below.refl w.heap.size w
  go_enter Try.func7, Try.ntmps7
  go_wp2_with fail
  have hp1 := (Below.refl w.heap.size w)
  refine (szRatS_any _ _ _ _ (A0.out.below hp1) (by omega) (by omega)).mono ?_
  rintro e w1 ⟨v, rfl, rfl, hc1⟩
  have hs1 := Below.up hp1 hc1 (by simp <;> omega)
  have hb1 := hs1
  have hz1 := hs1.size
  have hr0 := szr_lo 1048576 ((x0.length + tRatS x0)) (by omega)
  go_wp2_with fail
  · go_ret
    exact ⟨_, rfl, rfl, hb1⟩
  have hge0 : 0 ≤ szr 1048576 ((x0.length + tRatS x0)) := by assumption
  have hp2 := (Below.refl w1.heap.size w1)
  refine (szRatS_any _ _ _ _ ((A1.out.below hb1).below hp2) hge0 (by omega)).mono ?_
  rintro e w2 ⟨v, rfl, rfl, hc2⟩
  have hs2 := Below.up hp2 hc2 (by simp <;> omega)
  have hb2 := hb1.trans (hs2.mono hb1.size)
  have hz2 := hs2.size
  rw [szr_add _ _ _ hge0]
  have hr1 := szr_lo 1048576 ((x0.length + tRatS x0) + ((x1.length + tRatS x1))) (by omega)
  go_wp2_with fail
  · go_ret
    exact ⟨_, rfl, rfl, hb2⟩
  have hge1 : 0 ≤ szr 1048576 ((x0.length + tRatS x0) + ((x1.length + tRatS x1))) := by assumption
  have hok := (szr_ok hge1).1
  have hle0 : (x0.length + tRatS x0) ≤ 1048576 := by omega
  have HLE0 := Lib.hid hle0; clear hle0
  have hle1 : (x1.length + tRatS x1) ≤ 1048576 := by omega
  have HLE1 := Lib.hid hle1; clear hle1
  clear hok hr0 hge0 hr1 hge1
  have hp3 := (Below.refl w2.heap.size w2)
  refine (toRatS_any _ _ _ ((A0.out.below hb2).below hp3) HLE0.out).mono ?_
  rintro e w3 ⟨vhq0, rfl, hq0, hc3⟩
  have hs3 := Below.up hp3 hc3 (by simp <;> omega)
  have hb3 := hb2.trans (hs3.mono hb2.size)
  have hz3 := hs3.size
  obtain ⟨adq0, capq0, rfl, hclq0, hcmq0⟩ := hq0.has.len_slice
  clear hclq0 hcmq0
  have Fq01 := Lib.hid hq0
  clear hq0
  go_wp2_with fail
  have hp4 := (Below.refl w3.heap.size w3)
  refine (toRatS_any _ _ _ ((A1.out.below hb3).below hp4) HLE1.out).mono ?_
  rintro e w4 ⟨vhq2, rfl, hq2, hc4⟩
  have hs4 := Below.up hp4 hc4 (by simp <;> omega)
  have hb4 := hb3.trans (hs4.mono hb3.size)
  have hz4 := hs4.size
  obtain ⟨adq2, capq2, rfl, hclq2, hcmq2⟩ := hq2.has.len_slice
  clear hclq2 hcmq2
  have Fq23 := Lib.hid hq2
  clear hq2
  go_wp2_with fail
  have hp5 := (Below.refl w4.heap.size w4)
  refine (specFaster_c _ _ _ _ _ (((Fq01.out.below hs4).below hp5)).has ((Fq23.out.below hp5)).has).mono ?_
  rintro e w5 ⟨v, rfl, rfl, hc5⟩
  have hs5 := Below.up hp5 hc5 (by simp <;> omega)
  have hb5 := hb4.trans (hs5.mono hb4.size)
  have hz5 := hs5.size
  go_wp2_with fail
  have hp6 := (Below.refl w5.heap.size w5)
  refine (toRatS_any _ _ _ ((A0.out.below hb5).below hp6) HLE0.out).mono ?_
  rintro e w6 ⟨vhX0, rfl, hX0, hc6⟩
  have hs6 := Below.up hp6 hc6 (by simp <;> omega)
  have hb6 := hb5.trans (hs6.mono hb5.size)
  have hz6 := hs6.size
  obtain ⟨adX0, capX0, rfl, hclX0, hcmX0⟩ := hX0.has.len_slice
  clear hclX0 hcmX0
  have FX04 := Lib.hid (Own.inn (Own.mono (base' := w5.heap.size) hX0 (by simp)))
  clear hX0
  go_wp2_with fail
  have hp7 := (Below.refl w6.heap.size w6)
  refine (toRatS_any _ _ _ ((A1.out.below hb6).below hp7) HLE1.out).mono ?_
  rintro e w7 ⟨vhX1, rfl, hX1, hc7⟩
  have hs7 := Below.up hp7 hc7 (by simp <;> omega)
  have hb7 := hb6.trans (hs7.mono hb6.size)
  have hz7 := hs7.size
  obtain ⟨adX1, capX1, rfl, hclX1, hcmX1⟩ := hX1.has.len_slice
  clear hclX1 hcmX1
  have FX15 := Lib.hid (Own.inn (Own.mono (base' := w6.heap.size) hX1 (by simp)))
  clear hX1
  go_wp2_with fail
  have hp8 := (Below.refl w7.heap.size w7)
  refine (implFaster_c _ _ _ _ _ (((FX04.out.below hs7 (by omega)).below hp8 (by omega)).own (Nat.le_refl _)).has ((FX15.out.below hp8 (by omega)).own (Nat.le_refl _)).has).mono ?_
  rintro e w8 ⟨v, rfl, rfl, hc8⟩
  have hs8 := Below.up hp8 hc8 (by simp <;> omega)
  have hb8 := hb7.trans (hs8.mono hb7.size)
  have hz8 := hs8.size
  go_wp2_with fail
  have hp9 := (Below.refl w8.heap.size w8)
  refine (toRatS_any _ _ _ ((A0.out.below hb8).below hp9) HLE0.out).mono ?_
  rintro e w9 ⟨vhq6, rfl, hq6, hc9⟩
  have hs9 := Below.up hp9 hc9 (by simp <;> omega)
  have hb9 := hb8.trans (hs9.mono hb8.size)
  have hz9 := hs9.size
  obtain ⟨adq6, capq6, rfl, hclq6, hcmq6⟩ := hq6.has.len_slice
  clear hclq6 hcmq6
  have Fq67 := Lib.hid hq6
  clear hq6
  go_wp2_with fail
  have hp10 := (Below.refl w9.heap.size w9)
  refine (eqRatS_any _ _ _ _ _ ((((((FX04.out.below hs7 (by omega)).below hs8 (by omega)).below hs9 (by omega)).below hp10 (by omega)).own (Nat.le_refl _)).has) ((Fq67.out.below hp10)).has).mono ?_
  rintro e w10 ⟨v, rfl, rfl, hc10⟩
  have hs10 := Below.up hp10 hc10 (by simp <;> omega)
  have hb10 := hb9.trans (hs10.mono hb9.size)
  have hz10 := hs10.size
  rw [eqb_true rfl]
  go_wp2_with fail
  have hp11 := (Below.refl w10.heap.size w10)
  refine (toRatS_any _ _ _ ((A1.out.below hb10).below hp11) HLE1.out).mono ?_
  rintro e w11 ⟨vhq8, rfl, hq8, hc11⟩
  have hs11 := Below.up hp11 hc11 (by simp <;> omega)
  have hb11 := hb10.trans (hs11.mono hb10.size)
  have hz11 := hs11.size
  obtain ⟨adq8, capq8, rfl, hclq8, hcmq8⟩ := hq8.has.len_slice
  clear hclq8 hcmq8
  have Fq89 := Lib.hid hq8
  clear hq8
  go_wp2_with fail
  have hp12 := (Below.refl w11.heap.size w11)
  refine (eqRatS_any _ _ _ _ _ (((((((FX15.out.below hs8 (by omega)).below hs9 (by omega)).below hs10 (by omega)).below hs11 (by omega)).below hp12 (by omega)).own (Nat.le_refl _)).has) ((Fq89.out.below hp12)).has).mono ?_
  rintro e w12 ⟨v, rfl, rfl, hc12⟩
  have hs12 := Below.up hp12 hc12 (by simp <;> omega)
  have hb12 := hb11.trans (hs12.mono hb11.size)
  have hz12 := hs12.size
  rw [eqb_true rfl]
  go_wp2
  go_ret
  exact ⟨_, rfl, rfl, hb12⟩
end Go.Proofs.Ytjkbecgenjhaaaa

/-
  Limits of speed.
-/
namespace Go.Proofs.Ytjkbecgenjhaaaa.DW
open Go.RowKit
theorem natL_minInt : natL 9223372036854775808 = [854775808, 223372036, 9] := by
  rw [natL_pos (by decide), natL_pos (by decide), natL_pos (by decide), natL_zero]; rfl
theorem bigOf_fn (n : Int) : Fn Try.prog 96 [⟨.int, n⟩] true [⟨tBig, bigD n⟩] := by
  by_cases h0 : 0 ≤ n
  · have hn : ¬ n < 0 := by omega
    have e : n.natAbs = n.toNat := by omega
    refine fn_enter tabOK mixes Try.func96 rfl rfl _ Try.ntmps96 _ Try.results96 (by simp) fun hwf => ?_
    try simp (config := { maxSteps := 10000000 }) only [go_sem, reduceIte, reduceCtorEq, Nat.reduceEqDiff, Nat.reduceLT, Nat.reduceLeDiff, Nat.reduceAdd, Nat.reduceBEq, Nat.reduceMul, Int.reduceToNat, Int.reduceLE, Int.reduceLT, Int.reduceEq, Int.reduceNeg, h0, hn]
    repeat (refine And.intro (by first | omega | (constructor <;> omega) | kernel_rfl) ?_)
    refine CallW.mk (implNatOf_fn n) ?_
    try simp (config := { maxSteps := 10000000 }) only [go_sem, reduceIte, reduceCtorEq, Nat.reduceEqDiff, Nat.reduceLT, Nat.reduceLeDiff, Nat.reduceAdd, Nat.reduceBEq, Nat.reduceMul, Int.reduceToNat, Int.reduceLE, Int.reduceLT, Int.reduceEq, Int.reduceNeg]
    rw [e]
    all_goals repeat (refine And.intro (by first | omega | (constructor <;> omega) | kernel_rfl) ?_)
    all_goals first | kernel_rfl | omega | rfl
  · by_cases h1 : n = -9223372036854775808
    · subst h1
      have e : natL 9223372036854775807 = natL (9223372036854775807 : Int).toNat := rfl
      have ha := natAdd_fn (9223372036854775807 : Int).toNat (1 : Int).toNat (Nat.le_trans (natL_len3 (n := 9223372036854775807) (by decide)) (by decide)) (Nat.le_trans (nl_small (by decide)) (by decide))
      refine fn_enter tabOK mixes Try.func96 rfl rfl _ Try.ntmps96 _ Try.results96 (by simp) fun hwf => ?_
      try simp (config := { maxSteps := 10000000 }) only [go_sem, reduceIte, reduceCtorEq, Nat.reduceEqDiff, Nat.reduceLT, Nat.reduceLeDiff, Nat.reduceAdd, Nat.reduceBEq, Nat.reduceMul, Int.reduceToNat, Int.reduceLE, Int.reduceLT, Int.reduceEq, Int.reduceNeg]
      repeat (refine And.intro (by first | omega | (constructor <;> omega) | kernel_rfl) ?_)
      refine CallW.mk (implNatOf_fn 9223372036854775807) ?_
      try simp (config := { maxSteps := 10000000 }) only [go_sem, reduceIte, reduceCtorEq, Nat.reduceEqDiff, Nat.reduceLT, Nat.reduceLeDiff, Nat.reduceAdd, Nat.reduceBEq, Nat.reduceMul, Int.reduceToNat, Int.reduceLE, Int.reduceLT, Int.reduceEq, Int.reduceNeg]
      repeat (refine And.intro (by first | omega | (constructor <;> omega) | kernel_rfl) ?_)
      refine CallW.mk (implNatOf_fn 1) ?_
      try simp (config := { maxSteps := 10000000 }) only [go_sem, reduceIte, reduceCtorEq, Nat.reduceEqDiff, Nat.reduceLT, Nat.reduceLeDiff, Nat.reduceAdd, Nat.reduceBEq, Nat.reduceMul, Int.reduceToNat, Int.reduceLE, Int.reduceLT, Int.reduceEq, Int.reduceNeg]
      repeat (refine And.intro (by first | omega | (constructor <;> omega) | kernel_rfl) ?_)
      refine CallW.mk (ha) ?_
      try simp (config := { maxSteps := 10000000 }) only [go_sem, reduceIte, reduceCtorEq, Nat.reduceEqDiff, Nat.reduceLT, Nat.reduceLeDiff, Nat.reduceAdd, Nat.reduceBEq, Nat.reduceMul, Int.reduceToNat, Int.reduceLE, Int.reduceLT, Int.reduceEq, Int.reduceNeg]
      all_goals repeat (refine And.intro (by first | omega | (constructor <;> omega) | kernel_rfl) ?_)
      all_goals first | kernel_rfl | omega | rfl
    · have hn : n < 0 := by omega
      have e : n.natAbs = (-n).toNat := by omega
      refine fn_enter tabOK mixes Try.func96 rfl rfl _ Try.ntmps96 _ Try.results96 (by simp) fun hwf => ?_
      have hI : I64 n := hwf ⟨.int, n⟩ (by simp)
      have hI1 := hI.1
      have hI2 := hI.2
      try simp (config := { maxSteps := 10000000 }) only [go_sem, reduceIte, reduceCtorEq, Nat.reduceEqDiff, Nat.reduceLT, Nat.reduceLeDiff, Nat.reduceAdd, Nat.reduceBEq, Nat.reduceMul, Int.reduceToNat, Int.reduceLE, Int.reduceLT, Int.reduceEq, Int.reduceNeg, h0, h1]
      repeat (refine And.intro (by first | omega | (constructor <;> omega) | kernel_rfl) ?_)
      repeat (refine And.intro (by first | omega | (constructor <;> omega) | kernel_rfl) ?_)
      refine CallW.mk (implNatOf_fn (-n)) ?_
      try simp (config := { maxSteps := 10000000 }) only [go_sem, reduceIte, reduceCtorEq, Nat.reduceEqDiff, Nat.reduceLT, Nat.reduceLeDiff, Nat.reduceAdd, Nat.reduceBEq, Nat.reduceMul, Int.reduceToNat, Int.reduceLE, Int.reduceLT, Int.reduceEq, Int.reduceNeg]
      rw [e]
      simp [hn]
theorem BigIntOf_fn (n : Int) : Fn Try.prog 93 [⟨.int, n⟩] true [⟨tBig, bigD n⟩] := by
  by_cases h1 : n = -9223372036854775808
  · subst h1
    have hm := l03Make_to (s := true) (n := 9223372036854775808) (z := -9223372036854775808) rfl (Nat.le_trans (natL_len3 (n := 9223372036854775808) (by decide)) (by decide))
    rw [natL_minInt] at hm
    refine fn_enter tabOK mixes Try.func93 rfl rfl _ Try.ntmps93 _ Try.results93 (by simp) fun hwf => ?_
    try simp (config := { maxSteps := 10000000 }) only [go_sem, reduceIte, reduceCtorEq, Nat.reduceEqDiff, Nat.reduceLT, Nat.reduceLeDiff, Nat.reduceAdd, Nat.reduceBEq, Nat.reduceMul, Int.reduceToNat, Int.reduceLE, Int.reduceLT, Int.reduceEq, Int.reduceNeg]
    repeat (refine And.intro (by first | omega | (constructor <;> omega) | kernel_rfl) ?_)
    refine CallW.mk (hm) ?_
    try simp (config := { maxSteps := 10000000 }) only [go_sem, reduceIte, reduceCtorEq, Nat.reduceEqDiff, Nat.reduceLT, Nat.reduceLeDiff, Nat.reduceAdd, Nat.reduceBEq, Nat.reduceMul, Int.reduceToNat, Int.reduceLE, Int.reduceLT, Int.reduceEq, Int.reduceNeg]
    all_goals repeat (refine And.intro (by first | omega | (constructor <;> omega) | kernel_rfl) ?_)
    all_goals first | kernel_rfl | omega | rfl
  · refine fn_enter tabOK mixes Try.func93 rfl rfl _ Try.ntmps93 _ Try.results93 (by simp) fun hwf => ?_
    have hI : I64 n := hwf ⟨.int, n⟩ (by simp)
    have hI1 := hI.1
    have hI2 := hI.2
    try simp (config := { maxSteps := 10000000 }) only [go_sem, reduceIte, reduceCtorEq, Nat.reduceEqDiff, Nat.reduceLT, Nat.reduceLeDiff, Nat.reduceAdd, Nat.reduceBEq, Nat.reduceMul, Int.reduceToNat, Int.reduceLE, Int.reduceLT, Int.reduceEq, Int.reduceNeg]
    refine CondW_dec (fun h => absurd h h1) (fun _ => ?_)
    try simp (config := { maxSteps := 10000000 }) only [go_sem, reduceIte, reduceCtorEq, Nat.reduceEqDiff, Nat.reduceLT, Nat.reduceLeDiff, Nat.reduceAdd, Nat.reduceBEq, Nat.reduceMul, Int.reduceToNat, Int.reduceLE, Int.reduceLT, Int.reduceEq, Int.reduceNeg]
    refine CondW_dec (fun hn => ?_) (fun hn => ?_)
    · have hm := l03Make_to (s := true) (n := (-n).toNat) (z := n) (by unfold sgn; simp; omega) (Nat.le_trans (natL_len3 (n := -n) (by omega)) (by decide))
      try simp (config := { maxSteps := 10000000 }) only [go_sem, reduceIte, reduceCtorEq, Nat.reduceEqDiff, Nat.reduceLT, Nat.reduceLeDiff, Nat.reduceAdd, Nat.reduceBEq, Nat.reduceMul, Int.reduceToNat, Int.reduceLE, Int.reduceLT, Int.reduceEq, Int.reduceNeg]
      repeat (refine And.intro (by first | omega | (constructor <;> omega) | kernel_rfl) ?_)
      repeat (refine And.intro (by first | omega | (constructor <;> omega) | kernel_rfl) ?_)
      refine CallW.mk (specNatOf_fn (-n)) ?_
      try simp (config := { maxSteps := 10000000 }) only [go_sem, reduceIte, reduceCtorEq, Nat.reduceEqDiff, Nat.reduceLT, Nat.reduceLeDiff, Nat.reduceAdd, Nat.reduceBEq, Nat.reduceMul, Int.reduceToNat, Int.reduceLE, Int.reduceLT, Int.reduceEq, Int.reduceNeg]
      repeat (refine And.intro (by first | omega | (constructor <;> omega) | kernel_rfl) ?_)
      refine CallW.mk (hm) ?_
      try simp (config := { maxSteps := 10000000 }) only [go_sem, reduceIte, reduceCtorEq, Nat.reduceEqDiff, Nat.reduceLT, Nat.reduceLeDiff, Nat.reduceAdd, Nat.reduceBEq, Nat.reduceMul, Int.reduceToNat, Int.reduceLE, Int.reduceLT, Int.reduceEq, Int.reduceNeg]
      all_goals repeat (refine And.intro (by first | omega | (constructor <;> omega) | kernel_rfl) ?_)
      all_goals first | kernel_rfl | omega | rfl
    · have hm := l03Make_to (s := false) (n := n.toNat) (z := n) (by unfold sgn; simp; omega) (Nat.le_trans (natL_len3 (n := n) (by omega)) (by decide))
      try simp (config := { maxSteps := 10000000 }) only [go_sem, reduceIte, reduceCtorEq, Nat.reduceEqDiff, Nat.reduceLT, Nat.reduceLeDiff, Nat.reduceAdd, Nat.reduceBEq, Nat.reduceMul, Int.reduceToNat, Int.reduceLE, Int.reduceLT, Int.reduceEq, Int.reduceNeg]
      repeat (refine And.intro (by first | omega | (constructor <;> omega) | kernel_rfl) ?_)
      refine CallW.mk (specNatOf_fn n) ?_
      try simp (config := { maxSteps := 10000000 }) only [go_sem, reduceIte, reduceCtorEq, Nat.reduceEqDiff, Nat.reduceLT, Nat.reduceLeDiff, Nat.reduceAdd, Nat.reduceBEq, Nat.reduceMul, Int.reduceToNat, Int.reduceLE, Int.reduceLT, Int.reduceEq, Int.reduceNeg]
      repeat (refine And.intro (by first | omega | (constructor <;> omega) | kernel_rfl) ?_)
      refine CallW.mk (hm) ?_
      try simp (config := { maxSteps := 10000000 }) only [go_sem, reduceIte, reduceCtorEq, Nat.reduceEqDiff, Nat.reduceLT, Nat.reduceLeDiff, Nat.reduceAdd, Nat.reduceBEq, Nat.reduceMul, Int.reduceToNat, Int.reduceLE, Int.reduceLT, Int.reduceEq, Int.reduceNeg]
      all_goals repeat (refine And.intro (by first | omega | (constructor <;> omega) | kernel_rfl) ?_)
      all_goals first | kernel_rfl | omega | rfl
def ratI (n : Int) : DR := (bigD n, [1])
theorem ratI_eq (n : Int) : ratI n = ratD (n : Rat) := by
  rw [ratI, ratD, Rat.num_intCast, Rat.den_intCast, natL_1]
attribute [go_sem] ratI
theorem ratInt_fn (n : Int) : Fn Try.prog 66 [⟨.int, n⟩] true [⟨tRat, ratI n⟩] := by
  refine fn_enter tabOK mixes Try.func66 rfl rfl _ Try.ntmps66 _ Try.results66 (by simp) fun hwf => ?_
  try simp (config := { maxSteps := 10000000 }) only [go_sem, reduceIte, reduceCtorEq, Nat.reduceEqDiff, Nat.reduceLT, Nat.reduceLeDiff, Nat.reduceAdd, Nat.reduceBEq, Nat.reduceMul, Int.reduceToNat, Int.reduceLE, Int.reduceLT, Int.reduceEq, Int.reduceNeg]
  repeat (refine And.intro (by first | omega | (constructor <;> omega) | kernel_rfl) ?_)
  refine CallW.mk (bigOf_fn n) ?_
  try simp (config := { maxSteps := 10000000 }) only [go_sem, reduceIte, reduceCtorEq, Nat.reduceEqDiff, Nat.reduceLT, Nat.reduceLeDiff, Nat.reduceAdd, Nat.reduceBEq, Nat.reduceMul, Int.reduceToNat, Int.reduceLE, Int.reduceLT, Int.reduceEq, Int.reduceNeg]
  all_goals repeat (refine And.intro (by first | omega | (constructor <;> omega) | kernel_rfl) ?_)
  all_goals first | kernel_rfl | omega | rfl
theorem RatFromInt_fn (n : Int) : Fn Try.prog 62 [⟨.int, n⟩] true [⟨tRat, ratI n⟩] := by
  refine fn_enter tabOK mixes Try.func62 rfl rfl _ Try.ntmps62 _ Try.results62 (by simp) fun hwf => ?_
  try simp (config := { maxSteps := 10000000 }) only [go_sem, reduceIte, reduceCtorEq, Nat.reduceEqDiff, Nat.reduceLT, Nat.reduceLeDiff, Nat.reduceAdd, Nat.reduceBEq, Nat.reduceMul, Int.reduceToNat, Int.reduceLE, Int.reduceLT, Int.reduceEq, Int.reduceNeg]
  repeat (refine And.intro (by first | omega | (constructor <;> omega) | kernel_rfl) ?_)
  refine CallW.mk (BigIntOf_fn n) ?_
  try simp (config := { maxSteps := 10000000 }) only [go_sem, reduceIte, reduceCtorEq, Nat.reduceEqDiff, Nat.reduceLT, Nat.reduceLeDiff, Nat.reduceAdd, Nat.reduceBEq, Nat.reduceMul, Int.reduceToNat, Int.reduceLE, Int.reduceLT, Int.reduceEq, Int.reduceNeg]
  all_goals repeat (refine And.intro (by first | omega | (constructor <;> omega) | kernel_rfl) ?_)
  all_goals first | kernel_rfl | omega | rfl
theorem l07Min_fn (a b : Int) : Fn Try.prog 61 [⟨.int, a⟩, ⟨.int, b⟩] false [⟨.int, min a b⟩] := by
  refine fn_enter tabOK mixes Try.func61 rfl rfl _ Try.ntmps61 _ Try.results61 (by simp) fun hwf => ?_
  try simp (config := { maxSteps := 10000000 }) only [go_sem, reduceIte, reduceCtorEq, Nat.reduceEqDiff, Nat.reduceLT, Nat.reduceLeDiff, Nat.reduceAdd, Nat.reduceBEq, Nat.reduceMul, Int.reduceToNat, Int.reduceLE, Int.reduceLT, Int.reduceEq, Int.reduceNeg]
  refine CondW_dec (fun h => ?_) (fun h => ?_)
  · try simp (config := { maxSteps := 10000000 }) only [go_sem, reduceIte, reduceCtorEq, Nat.reduceEqDiff, Nat.reduceLT, Nat.reduceLeDiff, Nat.reduceAdd, Nat.reduceBEq, Nat.reduceMul, Int.reduceToNat, Int.reduceLE, Int.reduceLT, Int.reduceEq, Int.reduceNeg]
    omega
  · try simp (config := { maxSteps := 10000000 }) only [go_sem, reduceIte, reduceCtorEq, Nat.reduceEqDiff, Nat.reduceLT, Nat.reduceLeDiff, Nat.reduceAdd, Nat.reduceBEq, Nat.reduceMul, Int.reduceToNat, Int.reduceLE, Int.reduceLT, Int.reduceEq, Int.reduceNeg]
    omega
theorem isSpeed_fn (n : Int) : Fn Try.prog 65 [⟨.int, n⟩] false [⟨.bool, decide (1 ≤ n ∧ n ≤ 1000)⟩] := by
  refine fn_enter tabOK mixes Try.func65 rfl rfl _ Try.ntmps65 _ Try.results65 (by simp) fun hwf => ?_
  try simp (config := { maxSteps := 10000000 }) only [go_sem, reduceIte, reduceCtorEq, Nat.reduceEqDiff, Nat.reduceLT, Nat.reduceLeDiff, Nat.reduceAdd, Nat.reduceBEq, Nat.reduceMul, Int.reduceToNat, Int.reduceLE, Int.reduceLT, Int.reduceEq, Int.reduceNeg]
  repeat (refine And.intro (by first | omega | (constructor <;> omega) | kernel_rfl) ?_)
  refine CallW.mk (within_fn n 1 1000) ?_
  try simp (config := { maxSteps := 10000000 }) only [go_sem, reduceIte, reduceCtorEq, Nat.reduceEqDiff, Nat.reduceLT, Nat.reduceLeDiff, Nat.reduceAdd, Nat.reduceBEq, Nat.reduceMul, Int.reduceToNat, Int.reduceLE, Int.reduceLT, Int.reduceEq, Int.reduceNeg]
theorem speedC_fn (n : Int) : Fn Try.prog 64 [⟨.int, n⟩] false [⟨.bool, !decide (1 ≤ n ∧ n ≤ 1000)⟩] := by
  refine fn_enter tabOK mixes Try.func64 rfl rfl _ Try.ntmps64 _ Try.results64 (by simp) fun hwf => ?_
  try simp (config := { maxSteps := 10000000 }) only [go_sem, reduceIte, reduceCtorEq, Nat.reduceEqDiff, Nat.reduceLT, Nat.reduceLeDiff, Nat.reduceAdd, Nat.reduceBEq, Nat.reduceMul, Int.reduceToNat, Int.reduceLE, Int.reduceLT, Int.reduceEq, Int.reduceNeg]
  repeat (refine And.intro (by first | omega | (constructor <;> omega) | kernel_rfl) ?_)
  refine CallW.mk (isSpeed_fn n) ?_
  try simp (config := { maxSteps := 10000000 }) only [go_sem, reduceIte, reduceCtorEq, Nat.reduceEqDiff, Nat.reduceLT, Nat.reduceLeDiff, Nat.reduceAdd, Nat.reduceBEq, Nat.reduceMul, Int.reduceToNat, Int.reduceLE, Int.reduceLT, Int.reduceEq, Int.reduceNeg]
end Go.Proofs.Ytjkbecgenjhaaaa.DW

/-
  Limits of speed: both functions.
-/
namespace Go.Proofs.Ytjkbecgenjhaaaa.DW
open Go.RowKit
def limA (n : Int) (l : List Int) (i : Nat) : Int := if 0 < (i : Int) ∧ (i : Int) < n - 1 then min (ni l ((i : Int) - 1).toNat) (ni l i) else 0
def spdL (n : Int) (l : List Int) (k : Nat) : List DR := (List.range k).map fun i => ratI (limA n l i * limA n l i)
def spdOk (n : Int) (l : List Int) : Prop := 1 ≤ n ∧ (l.length : Int) = n - 1 ∧ ∀ x ∈ l, 1 ≤ x ∧ x ≤ 1000
noncomputable def spd (n : Int) (l : List Int) : List DR := @ite _ (spdOk n l) (Classical.propDecidable _) (spdL n l n.toNat) []
theorem spd_t {n : Int} {l : List Int} (h : spdOk n l) : spd n l = spdL n l n.toNat := if_pos h
theorem spd_f {n : Int} {l : List Int} (h : ¬ spdOk n l) : spd n l = [] := if_neg h
theorem spdL_succ (n : Int) (l : List Int) (k : Nat) : spdL n l (k + 1) = spdL n l k ++ [ratI (limA n l k * limA n l k)] := by
  simp [spdL, List.range_succ]
theorem spdL_len (n : Int) (l : List Int) (k : Nat) : (spdL n l k).length = k := by simp [spdL]
theorem limA_le {n : Int} {l : List Int} (h : spdOk n l) (i : Nat) : 0 ≤ limA n l i ∧ limA n l i ≤ 1000 := by
  unfold limA
  split
  · rename_i hc
    have h1 : ((i : Int) - 1).toNat < l.length := by have := h.2.1; omega
    have h2 : i < l.length := by have := h.2.1; omega
    have e1 := h.2.2 _ (List.getElem_mem h1)
    have e2 := h.2.2 _ (List.getElem_mem h2)
    rw [ni_lt h1, ni_lt h2]
    omega
  · omega
theorem sq_le {k : Int} (h : 0 ≤ k ∧ k ≤ 1000) : 0 ≤ k * k ∧ k * k ≤ 1000000 :=
  ⟨Int.mul_nonneg h.1 h.1, by have := Int.mul_le_mul h.2 h.2 h.1 (by decide : (0 : Int) ≤ 1000); omega⟩
theorem implSpeedLimits_fn (n : Int) (l : List Int) (hl : l.length ≤ 16777216) : Fn Try.prog 20 [⟨.int, n⟩, ⟨tInts, l⟩] true [⟨.slice tRat, spd n l⟩] := by
  by_cases h1 : n < 1
  · rw [spd_f fun h => by have := h.1; omega]
    refine fn_enter tabOK mixes Try.func20 rfl rfl _ Try.ntmps20 _ Try.results20 (by simp) fun hwf => ?_
    try simp (config := { maxSteps := 10000000 }) only [go_sem, reduceIte, reduceCtorEq, Nat.reduceEqDiff, Nat.reduceLT, Nat.reduceLeDiff, Nat.reduceAdd, Nat.reduceBEq, Nat.reduceMul, Int.reduceToNat, Int.reduceLE, Int.reduceLT, Int.reduceEq, Int.reduceNeg, h1]
  by_cases h2 : (l.length : Int) = n - 1
  rotate_left
  · rw [spd_f fun h => h2 h.2.1]
    refine fn_enter tabOK mixes Try.func20 rfl rfl _ Try.ntmps20 _ Try.results20 (by simp) fun hwf => ?_
    have hI : I64 n := hwf ⟨.int, n⟩ (by simp)
    have hI2 := hI.2
    try simp (config := { maxSteps := 10000000 }) only [go_sem, reduceIte, reduceCtorEq, Nat.reduceEqDiff, Nat.reduceLT, Nat.reduceLeDiff, Nat.reduceAdd, Nat.reduceBEq, Nat.reduceMul, Int.reduceToNat, Int.reduceLE, Int.reduceLT, Int.reduceEq, Int.reduceNeg, h1, h2]
    all_goals repeat (refine And.intro (by first | omega | (constructor <;> omega) | kernel_rfl) ?_)
    all_goals first | kernel_rfl | omega | rfl
  have hi : I64 (n - 1) := by constructor <;> omega
  cases h3 : l.any (fun x => !decide (1 ≤ x ∧ x ≤ 1000))
  rotate_left
  · rw [spd_f fun h => by
      obtain ⟨x, hx, hb⟩ := List.any_eq_true.1 h3
      have := h.2.2 x hx
      simp [this.1, this.2] at hb]
    refine fn_enter tabOK mixes Try.func20 rfl rfl _ Try.ntmps20 _ Try.results20 (by simp) fun hwf => ?_
    try simp (config := { maxSteps := 10000000 }) only [go_sem, reduceIte, reduceCtorEq, Nat.reduceEqDiff, Nat.reduceLT, Nat.reduceLeDiff, Nat.reduceAdd, Nat.reduceBEq, Nat.reduceMul, Int.reduceToNat, Int.reduceLE, Int.reduceLT, Int.reduceEq, Int.reduceNeg, h1, h2]
    repeat (refine And.intro (by first | omega | (constructor <;> omega) | kernel_rfl) ?_)
    refine CallW.mk (containsFunc_int_fn _ _ speedC_fn l) ?_
    try simp (config := { maxSteps := 10000000 }) only [go_sem, reduceIte, reduceCtorEq, Nat.reduceEqDiff, Nat.reduceLT, Nat.reduceLeDiff, Nat.reduceAdd, Nat.reduceBEq, Nat.reduceMul, Int.reduceToNat, Int.reduceLE, Int.reduceLT, Int.reduceEq, Int.reduceNeg]
    try simp (config := { maxSteps := 10000000 }) only [go_sem, reduceIte, reduceCtorEq, Nat.reduceEqDiff, Nat.reduceLT, Nat.reduceLeDiff, Nat.reduceAdd, Nat.reduceBEq, Nat.reduceMul, Int.reduceToNat, Int.reduceLE, Int.reduceLT, Int.reduceEq, Int.reduceNeg, h3]
  have hok : spdOk n l := ⟨by omega, h2, fun x hx => by
    rw [List.any_eq_false] at h3
    have := h3 x hx
    simpa using this⟩
  rw [spd_t hok]
  refine fn_enter tabOK mixes Try.func20 rfl rfl _ Try.ntmps20 _ Try.results20 (by simp) fun hwf => ?_
  try simp (config := { maxSteps := 10000000 }) only [go_sem, reduceIte, reduceCtorEq, Nat.reduceEqDiff, Nat.reduceLT, Nat.reduceLeDiff, Nat.reduceAdd, Nat.reduceBEq, Nat.reduceMul, Int.reduceToNat, Int.reduceLE, Int.reduceLT, Int.reduceEq, Int.reduceNeg, h1, h2]
  repeat (refine And.intro (by first | omega | (constructor <;> omega) | kernel_rfl) ?_)
  refine CallW.mk (containsFunc_int_fn _ _ speedC_fn l) ?_
  try simp (config := { maxSteps := 10000000 }) only [go_sem, reduceIte, reduceCtorEq, Nat.reduceEqDiff, Nat.reduceLT, Nat.reduceLeDiff, Nat.reduceAdd, Nat.reduceBEq, Nat.reduceMul, Int.reduceToNat, Int.reduceLE, Int.reduceLT, Int.reduceEq, Int.reduceNeg]
  try simp (config := { maxSteps := 10000000 }) only [go_sem, reduceIte, reduceCtorEq, Nat.reduceEqDiff, Nat.reduceLT, Nat.reduceLeDiff, Nat.reduceAdd, Nat.reduceBEq, Nat.reduceMul, Int.reduceToNat, Int.reduceLE, Int.reduceLT, Int.reduceEq, Int.reduceNeg, h3]
  refine LoopG.intro _ _ _ (fun i : Nat => ⟨[(0, .sc (.int .i64 n)), (1, .sl .int l), (5, .row 0 0), (22, .sc (.int .i64 n)), (23, .sc (.int .i64 i))], [(0, .row 51 tRat 0 true (spdL n l i))]⟩) (fun i => (i : Int) ≤ n) (fun i => (n - i).toNat) 0 ?_ (by omega) ?_
  · refine Wk.mk [] ?_
    try simp (config := { maxSteps := 10000000 }) only [go_sem, reduceIte, reduceCtorEq, Nat.reduceEqDiff, Nat.reduceLT, Nat.reduceLeDiff, Nat.reduceAdd, Nat.reduceBEq, Nat.reduceMul, Int.reduceToNat, Int.reduceLE, Int.reduceLT, Int.reduceEq, Int.reduceNeg]
    try (and_intros <;> first | rfl | omega | exact ⟨_, rfl⟩)
    all_goals (exact ⟨rfl, rfl⟩)
  · intro i hin
    have hk := limA_le hok i
    have hsq := sq_le hk
    try simp (config := { maxSteps := 10000000 }) only [go_sem, reduceIte, reduceCtorEq, Nat.reduceEqDiff, Nat.reduceLT, Nat.reduceLeDiff, Nat.reduceAdd, Nat.reduceBEq, Nat.reduceMul, Int.reduceToNat, Int.reduceLE, Int.reduceLT, Int.reduceEq, Int.reduceNeg]
    refine CondW_dec (fun hA => ?_) (fun hA => ?_)
    · have hpath : (0 < (i : Int) ∧ (i : Int) < n - 1 ∧ limA n l i = min (ni l ((i : Int) - 1).toNat) (ni l i)) ∨ (¬ 0 < (i : Int) ∧ limA n l i = 0) ∨ (0 < (i : Int) ∧ ¬ (i : Int) < n - 1 ∧ limA n l i = 0) := by
        unfold limA
        by_cases g1 : 0 < (i : Int)
        · by_cases g2 : (i : Int) < n - 1
          · exact .inl ⟨g1, g2, if_pos ⟨g1, g2⟩⟩
          · exact .inr (.inr ⟨g1, g2, if_neg fun h => g2 h.2⟩)
        · exact .inr (.inl ⟨g1, if_neg fun h => g1 h.1⟩)
      rcases hpath with ⟨hB, hC, hlim⟩ | ⟨hB, hlim⟩ | ⟨hB, hC, hlim⟩
      · try simp (config := { maxSteps := 10000000 }) only [go_sem, reduceIte, reduceCtorEq, Nat.reduceEqDiff, Nat.reduceLT, Nat.reduceLeDiff, Nat.reduceAdd, Nat.reduceBEq, Nat.reduceMul, Int.reduceToNat, Int.reduceLE, Int.reduceLT, Int.reduceEq, Int.reduceNeg, hA]
        repeat (refine And.intro (by first | omega | (constructor <;> omega) | kernel_rfl) ?_)
        try simp (config := { maxSteps := 10000000 }) only [go_sem, reduceIte, reduceCtorEq, Nat.reduceEqDiff, Nat.reduceLT, Nat.reduceLeDiff, Nat.reduceAdd, Nat.reduceBEq, Nat.reduceMul, Int.reduceToNat, Int.reduceLE, Int.reduceLT, Int.reduceEq, Int.reduceNeg, hB, hC]
        repeat (refine And.intro (by first | omega | (constructor <;> omega) | kernel_rfl) ?_)
        rw [← hlim]
        repeat (refine And.intro (by first | omega | (constructor <;> omega) | kernel_rfl) ?_)
        repeat (refine And.intro (by first | omega | (constructor <;> omega) | kernel_rfl) ?_)
        refine CallW.mk (ratInt_fn (limA n l i * limA n l i)) ?_
        try simp (config := { maxSteps := 10000000 }) only [go_sem, reduceIte, reduceCtorEq, Nat.reduceEqDiff, Nat.reduceLT, Nat.reduceLeDiff, Nat.reduceAdd, Nat.reduceBEq, Nat.reduceMul, Int.reduceToNat, Int.reduceLE, Int.reduceLT, Int.reduceEq, Int.reduceNeg]
        try simp (config := { maxSteps := 10000000 }) only [go_sem, reduceIte, reduceCtorEq, Nat.reduceEqDiff, Nat.reduceLT, Nat.reduceLeDiff, Nat.reduceAdd, Nat.reduceBEq, Nat.reduceMul, Int.reduceToNat, Int.reduceLE, Int.reduceLT, Int.reduceEq, Int.reduceNeg, spdL_len]
        repeat (refine And.intro (by first | omega | (constructor <;> omega) | kernel_rfl) ?_)
        refine LoopK.mk (i + 1) ?_ (by omega) (by omega)
        refine Wk.mk [] ?_
        try simp (config := { maxSteps := 10000000 }) only [go_sem, reduceIte, reduceCtorEq, Nat.reduceEqDiff, Nat.reduceLT, Nat.reduceLeDiff, Nat.reduceAdd, Nat.reduceBEq, Nat.reduceMul, Int.reduceToNat, Int.reduceLE, Int.reduceLT, Int.reduceEq, Int.reduceNeg]
        try (and_intros <;> first | rfl | omega | exact ⟨_, rfl⟩)
        all_goals (rw [spdL_succ]; exact ⟨by omega, rfl⟩)
      · try simp (config := { maxSteps := 10000000 }) only [go_sem, reduceIte, reduceCtorEq, Nat.reduceEqDiff, Nat.reduceLT, Nat.reduceLeDiff, Nat.reduceAdd, Nat.reduceBEq, Nat.reduceMul, Int.reduceToNat, Int.reduceLE, Int.reduceLT, Int.reduceEq, Int.reduceNeg, hA]
        repeat (refine And.intro (by first | omega | (constructor <;> omega) | kernel_rfl) ?_)
        try simp (config := { maxSteps := 10000000 }) only [go_sem, reduceIte, reduceCtorEq, Nat.reduceEqDiff, Nat.reduceLT, Nat.reduceLeDiff, Nat.reduceAdd, Nat.reduceBEq, Nat.reduceMul, Int.reduceToNat, Int.reduceLE, Int.reduceLT, Int.reduceEq, Int.reduceNeg, hB]
        repeat (refine And.intro (by first | omega | (constructor <;> omega) | kernel_rfl) ?_)
        repeat (refine And.intro (by first | omega | (constructor <;> omega) | kernel_rfl) ?_)
        refine CallW.mk (ratInt_fn (0 * 0)) ?_
        try simp (config := { maxSteps := 10000000 }) only [go_sem, reduceIte, reduceCtorEq, Nat.reduceEqDiff, Nat.reduceLT, Nat.reduceLeDiff, Nat.reduceAdd, Nat.reduceBEq, Nat.reduceMul, Int.reduceToNat, Int.reduceLE, Int.reduceLT, Int.reduceEq, Int.reduceNeg]
        try simp (config := { maxSteps := 10000000 }) only [go_sem, reduceIte, reduceCtorEq, Nat.reduceEqDiff, Nat.reduceLT, Nat.reduceLeDiff, Nat.reduceAdd, Nat.reduceBEq, Nat.reduceMul, Int.reduceToNat, Int.reduceLE, Int.reduceLT, Int.reduceEq, Int.reduceNeg, spdL_len]
        repeat (refine And.intro (by first | omega | (constructor <;> omega) | kernel_rfl) ?_)
        refine LoopK.mk (i + 1) ?_ (by omega) (by omega)
        refine Wk.mk [] ?_
        try simp (config := { maxSteps := 10000000 }) only [go_sem, reduceIte, reduceCtorEq, Nat.reduceEqDiff, Nat.reduceLT, Nat.reduceLeDiff, Nat.reduceAdd, Nat.reduceBEq, Nat.reduceMul, Int.reduceToNat, Int.reduceLE, Int.reduceLT, Int.reduceEq, Int.reduceNeg]
        try (and_intros <;> first | rfl | omega | exact ⟨_, rfl⟩)
        all_goals (rw [spdL_succ, hlim]; exact ⟨by omega, rfl⟩)
      · try simp (config := { maxSteps := 10000000 }) only [go_sem, reduceIte, reduceCtorEq, Nat.reduceEqDiff, Nat.reduceLT, Nat.reduceLeDiff, Nat.reduceAdd, Nat.reduceBEq, Nat.reduceMul, Int.reduceToNat, Int.reduceLE, Int.reduceLT, Int.reduceEq, Int.reduceNeg, hA]
        repeat (refine And.intro (by first | omega | (constructor <;> omega) | kernel_rfl) ?_)
        try simp (config := { maxSteps := 10000000 }) only [go_sem, reduceIte, reduceCtorEq, Nat.reduceEqDiff, Nat.reduceLT, Nat.reduceLeDiff, Nat.reduceAdd, Nat.reduceBEq, Nat.reduceMul, Int.reduceToNat, Int.reduceLE, Int.reduceLT, Int.reduceEq, Int.reduceNeg, hB, hC]
        repeat (refine And.intro (by first | omega | (constructor <;> omega) | kernel_rfl) ?_)
        repeat (refine And.intro (by first | omega | (constructor <;> omega) | kernel_rfl) ?_)
        refine CallW.mk (ratInt_fn (0 * 0)) ?_
        try simp (config := { maxSteps := 10000000 }) only [go_sem, reduceIte, reduceCtorEq, Nat.reduceEqDiff, Nat.reduceLT, Nat.reduceLeDiff, Nat.reduceAdd, Nat.reduceBEq, Nat.reduceMul, Int.reduceToNat, Int.reduceLE, Int.reduceLT, Int.reduceEq, Int.reduceNeg]
        try simp (config := { maxSteps := 10000000 }) only [go_sem, reduceIte, reduceCtorEq, Nat.reduceEqDiff, Nat.reduceLT, Nat.reduceLeDiff, Nat.reduceAdd, Nat.reduceBEq, Nat.reduceMul, Int.reduceToNat, Int.reduceLE, Int.reduceLT, Int.reduceEq, Int.reduceNeg, spdL_len]
        repeat (refine And.intro (by first | omega | (constructor <;> omega) | kernel_rfl) ?_)
        refine LoopK.mk (i + 1) ?_ (by omega) (by omega)
        refine Wk.mk [] ?_
        try simp (config := { maxSteps := 10000000 }) only [go_sem, reduceIte, reduceCtorEq, Nat.reduceEqDiff, Nat.reduceLT, Nat.reduceLeDiff, Nat.reduceAdd, Nat.reduceBEq, Nat.reduceMul, Int.reduceToNat, Int.reduceLE, Int.reduceLT, Int.reduceEq, Int.reduceNeg]
        try (and_intros <;> first | rfl | omega | exact ⟨_, rfl⟩)
        all_goals (rw [spdL_succ, hlim]; exact ⟨by omega, rfl⟩)
    · try simp (config := { maxSteps := 10000000 }) only [go_sem, reduceIte, reduceCtorEq, Nat.reduceEqDiff, Nat.reduceLT, Nat.reduceLeDiff, Nat.reduceAdd, Nat.reduceBEq, Nat.reduceMul, Int.reduceToNat, Int.reduceLE, Int.reduceLT, Int.reduceEq, Int.reduceNeg]
      rw [show n.toNat = i by omega]
theorem specSpeedLimits_fn (n : Int) (l : List Int) (hl : l.length ≤ 16777216) : Fn Try.prog 18 [⟨.int, n⟩, ⟨tInts, l⟩] true [⟨.slice tRat, spd n l⟩] := by
  by_cases h1 : n < 1
  · rw [spd_f fun h => by have := h.1; omega]
    refine fn_enter tabOK mixes Try.func18 rfl rfl _ Try.ntmps18 _ Try.results18 (by simp) fun hwf => ?_
    try simp (config := { maxSteps := 10000000 }) only [go_sem, reduceIte, reduceCtorEq, Nat.reduceEqDiff, Nat.reduceLT, Nat.reduceLeDiff, Nat.reduceAdd, Nat.reduceBEq, Nat.reduceMul, Int.reduceToNat, Int.reduceLE, Int.reduceLT, Int.reduceEq, Int.reduceNeg, h1]
  by_cases h2 : (l.length : Int) = n - 1
  rotate_left
  · rw [spd_f fun h => h2 h.2.1]
    refine fn_enter tabOK mixes Try.func18 rfl rfl _ Try.ntmps18 _ Try.results18 (by simp) fun hwf => ?_
    have hI : I64 n := hwf ⟨.int, n⟩ (by simp)
    have hI2 := hI.2
    try simp (config := { maxSteps := 10000000 }) only [go_sem, reduceIte, reduceCtorEq, Nat.reduceEqDiff, Nat.reduceLT, Nat.reduceLeDiff, Nat.reduceAdd, Nat.reduceBEq, Nat.reduceMul, Int.reduceToNat, Int.reduceLE, Int.reduceLT, Int.reduceEq, Int.reduceNeg, h1, h2]
    all_goals repeat (refine And.intro (by first | omega | (constructor <;> omega) | kernel_rfl) ?_)
    all_goals first | kernel_rfl | omega | rfl
  have hi : I64 (n - 1) := by constructor <;> omega
  refine fn_enter tabOK mixes Try.func18 rfl rfl _ Try.ntmps18 _ Try.results18 (by simp) fun hwf => ?_
  try simp (config := { maxSteps := 10000000 }) only [go_sem, reduceIte, reduceCtorEq, Nat.reduceEqDiff, Nat.reduceLT, Nat.reduceLeDiff, Nat.reduceAdd, Nat.reduceBEq, Nat.reduceMul, Int.reduceToNat, Int.reduceLE, Int.reduceLT, Int.reduceEq, Int.reduceNeg, h1, h2]
  repeat (refine And.intro (by first | omega | (constructor <;> omega) | kernel_rfl) ?_)
  refine LoopG.intro _ _ _ (fun i : Nat => ⟨[(0, .sc (.int .i64 n)), (1, .sl .int l), (19, .sl .int l), (20, .sc (.int .i64 (n - 1))), (21, .sc (.int .i64 i))], []⟩) (fun i => i ≤ l.length ∧ ∀ j < i, 1 ≤ ni l j ∧ ni l j ≤ 1000) (fun i => l.length - i) 0 ?_ ⟨Nat.zero_le _, fun j h => by omega⟩ ?_
  · refine Wk.mk [] ?_
    try simp (config := { maxSteps := 10000000 }) only [go_sem, reduceIte, reduceCtorEq, Nat.reduceEqDiff, Nat.reduceLT, Nat.reduceLeDiff, Nat.reduceAdd, Nat.reduceBEq, Nat.reduceMul, Int.reduceToNat, Int.reduceLE, Int.reduceLT, Int.reduceEq, Int.reduceNeg]
    try (and_intros <;> first | rfl | omega | exact ⟨_, rfl⟩)
  · rintro j ⟨g1, g2⟩
    try simp (config := { maxSteps := 10000000 }) only [go_sem, reduceIte, reduceCtorEq, Nat.reduceEqDiff, Nat.reduceLT, Nat.reduceLeDiff, Nat.reduceAdd, Nat.reduceBEq, Nat.reduceMul, Int.reduceToNat, Int.reduceLE, Int.reduceLT, Int.reduceEq, Int.reduceNeg]
    refine CondW_dec (fun hA => ?_) (fun hA => ?_)
    · try simp (config := { maxSteps := 10000000 }) only [go_sem, reduceIte, reduceCtorEq, Nat.reduceEqDiff, Nat.reduceLT, Nat.reduceLeDiff, Nat.reduceAdd, Nat.reduceBEq, Nat.reduceMul, Int.reduceToNat, Int.reduceLE, Int.reduceLT, Int.reduceEq, Int.reduceNeg]
      repeat (refine And.intro (by first | omega | (constructor <;> omega) | kernel_rfl) ?_)
      repeat (refine And.intro (by first | omega | (constructor <;> omega) | kernel_rfl) ?_)
      refine CallW.mk (l01In_fn (ni l j) 1 1000) ?_
      try simp (config := { maxSteps := 10000000 }) only [go_sem, reduceIte, reduceCtorEq, Nat.reduceEqDiff, Nat.reduceLT, Nat.reduceLeDiff, Nat.reduceAdd, Nat.reduceBEq, Nat.reduceMul, Int.reduceToNat, Int.reduceLE, Int.reduceLT, Int.reduceEq, Int.reduceNeg]
      refine CondW_not (fun hB => ?_) (fun hB => ?_)
      · rw [spd_f fun h => hB (by rw [ni_lt (by omega)]; exact h.2.2 _ (List.getElem_mem (by omega)))]
        try simp (config := { maxSteps := 10000000 }) only [go_sem, reduceIte, reduceCtorEq, Nat.reduceEqDiff, Nat.reduceLT, Nat.reduceLeDiff, Nat.reduceAdd, Nat.reduceBEq, Nat.reduceMul, Int.reduceToNat, Int.reduceLE, Int.reduceLT, Int.reduceEq, Int.reduceNeg]
      · try simp (config := { maxSteps := 10000000 }) only [go_sem, reduceIte, reduceCtorEq, Nat.reduceEqDiff, Nat.reduceLT, Nat.reduceLeDiff, Nat.reduceAdd, Nat.reduceBEq, Nat.reduceMul, Int.reduceToNat, Int.reduceLE, Int.reduceLT, Int.reduceEq, Int.reduceNeg]
        repeat (refine And.intro (by first | omega | (constructor <;> omega) | kernel_rfl) ?_)
        refine LoopK.mk (j + 1) ?_ ⟨by omega, fun q hq => ?_⟩ (by omega)
        · refine Wk.mk [] ?_
          try simp (config := { maxSteps := 10000000 }) only [go_sem, reduceIte, reduceCtorEq, Nat.reduceEqDiff, Nat.reduceLT, Nat.reduceLeDiff, Nat.reduceAdd, Nat.reduceBEq, Nat.reduceMul, Int.reduceToNat, Int.reduceLE, Int.reduceLT, Int.reduceEq, Int.reduceNeg]
          try (and_intros <;> first | rfl | omega | exact ⟨_, rfl⟩)
        · by_cases hqj : q < j
          · exact g2 q hqj
          · rw [show q = j by omega]; exact hB
    · have hok : spdOk n l := ⟨by omega, h2, fun x hx => by
        obtain ⟨q, hq, rfl⟩ := List.getElem_of_mem hx
        rw [← ni_lt hq]; exact g2 q (by omega)⟩
      rw [spd_t hok]
      try simp (config := { maxSteps := 10000000 }) only [go_sem, reduceIte, reduceCtorEq, Nat.reduceEqDiff, Nat.reduceLT, Nat.reduceLeDiff, Nat.reduceAdd, Nat.reduceBEq, Nat.reduceMul, Int.reduceToNat, Int.reduceLE, Int.reduceLT, Int.reduceEq, Int.reduceNeg]
      refine LoopG.intro _ _ _ (fun i : Nat => ⟨[(0, .sc (.int .i64 n)), (1, .sl .int l), (7, .row 0 0), (8, .sc (.int .i64 i))], [(0, .row 51 tRat 0 true (spdL n l i))]⟩) (fun i => (i : Int) ≤ n) (fun i => (n - i).toNat) 0 ?_ (by omega) ?_
      · refine Wk.mk [] ?_
        try simp (config := { maxSteps := 10000000 }) only [go_sem, reduceIte, reduceCtorEq, Nat.reduceEqDiff, Nat.reduceLT, Nat.reduceLeDiff, Nat.reduceAdd, Nat.reduceBEq, Nat.reduceMul, Int.reduceToNat, Int.reduceLE, Int.reduceLT, Int.reduceEq, Int.reduceNeg]
        try (and_intros <;> first | rfl | omega | exact ⟨_, rfl⟩)
        all_goals (exact ⟨rfl, rfl⟩)
      · intro i hin
        have hk := limA_le hok i
        have hsq := sq_le hk
        try simp (config := { maxSteps := 10000000 }) only [go_sem, reduceIte, reduceCtorEq, Nat.reduceEqDiff, Nat.reduceLT, Nat.reduceLeDiff, Nat.reduceAdd, Nat.reduceBEq, Nat.reduceMul, Int.reduceToNat, Int.reduceLE, Int.reduceLT, Int.reduceEq, Int.reduceNeg]
        refine CondW_dec (fun hA => ?_) (fun hA => ?_)
        · have hpath : (0 < (i : Int) ∧ (i : Int) < n - 1 ∧ limA n l i = min (ni l ((i : Int) - 1).toNat) (ni l i)) ∨ (¬ 0 < (i : Int) ∧ limA n l i = 0) ∨ (0 < (i : Int) ∧ ¬ (i : Int) < n - 1 ∧ limA n l i = 0) := by
            unfold limA
            by_cases g1 : 0 < (i : Int)
            · by_cases g2 : (i : Int) < n - 1
              · exact .inl ⟨g1, g2, if_pos ⟨g1, g2⟩⟩
              · exact .inr (.inr ⟨g1, g2, if_neg fun h => g2 h.2⟩)
            · exact .inr (.inl ⟨g1, if_neg fun h => g1 h.1⟩)
          rcases hpath with ⟨hB, hC, hlim⟩ | ⟨hB, hlim⟩ | ⟨hB, hC, hlim⟩
          · try simp (config := { maxSteps := 10000000 }) only [go_sem, reduceIte, reduceCtorEq, Nat.reduceEqDiff, Nat.reduceLT, Nat.reduceLeDiff, Nat.reduceAdd, Nat.reduceBEq, Nat.reduceMul, Int.reduceToNat, Int.reduceLE, Int.reduceLT, Int.reduceEq, Int.reduceNeg, hA]
            repeat (refine And.intro (by first | omega | (constructor <;> omega) | kernel_rfl) ?_)
            try simp (config := { maxSteps := 10000000 }) only [go_sem, reduceIte, reduceCtorEq, Nat.reduceEqDiff, Nat.reduceLT, Nat.reduceLeDiff, Nat.reduceAdd, Nat.reduceBEq, Nat.reduceMul, Int.reduceToNat, Int.reduceLE, Int.reduceLT, Int.reduceEq, Int.reduceNeg, hB, hC]
            repeat (refine And.intro (by first | omega | (constructor <;> omega) | kernel_rfl) ?_)
            repeat (refine And.intro (by first | omega | (constructor <;> omega) | kernel_rfl) ?_)
            refine CallW.mk (l07Min_fn (ni l ((i : Int) - 1).toNat) (ni l i)) ?_
            try simp (config := { maxSteps := 10000000 }) only [go_sem, reduceIte, reduceCtorEq, Nat.reduceEqDiff, Nat.reduceLT, Nat.reduceLeDiff, Nat.reduceAdd, Nat.reduceBEq, Nat.reduceMul, Int.reduceToNat, Int.reduceLE, Int.reduceLT, Int.reduceEq, Int.reduceNeg]
            rw [← hlim]
            repeat (refine And.intro (by first | omega | (constructor <;> omega) | kernel_rfl) ?_)
            repeat (refine And.intro (by first | omega | (constructor <;> omega) | kernel_rfl) ?_)
            refine CallW.mk (RatFromInt_fn (limA n l i * limA n l i)) ?_
            try simp (config := { maxSteps := 10000000 }) only [go_sem, reduceIte, reduceCtorEq, Nat.reduceEqDiff, Nat.reduceLT, Nat.reduceLeDiff, Nat.reduceAdd, Nat.reduceBEq, Nat.reduceMul, Int.reduceToNat, Int.reduceLE, Int.reduceLT, Int.reduceEq, Int.reduceNeg]
            try simp (config := { maxSteps := 10000000 }) only [go_sem, reduceIte, reduceCtorEq, Nat.reduceEqDiff, Nat.reduceLT, Nat.reduceLeDiff, Nat.reduceAdd, Nat.reduceBEq, Nat.reduceMul, Int.reduceToNat, Int.reduceLE, Int.reduceLT, Int.reduceEq, Int.reduceNeg, spdL_len]
            repeat (refine And.intro (by first | omega | (constructor <;> omega) | kernel_rfl) ?_)
            refine LoopK.mk (i + 1) ?_ (by omega) (by omega)
            refine Wk.mk [] ?_
            try simp (config := { maxSteps := 10000000 }) only [go_sem, reduceIte, reduceCtorEq, Nat.reduceEqDiff, Nat.reduceLT, Nat.reduceLeDiff, Nat.reduceAdd, Nat.reduceBEq, Nat.reduceMul, Int.reduceToNat, Int.reduceLE, Int.reduceLT, Int.reduceEq, Int.reduceNeg]
            try (and_intros <;> first | rfl | omega | exact ⟨_, rfl⟩)
            all_goals (rw [spdL_succ]; exact ⟨by omega, rfl⟩)
          · try simp (config := { maxSteps := 10000000 }) only [go_sem, reduceIte, reduceCtorEq, Nat.reduceEqDiff, Nat.reduceLT, Nat.reduceLeDiff, Nat.reduceAdd, Nat.reduceBEq, Nat.reduceMul, Int.reduceToNat, Int.reduceLE, Int.reduceLT, Int.reduceEq, Int.reduceNeg, hA]
            repeat (refine And.intro (by first | omega | (constructor <;> omega) | kernel_rfl) ?_)
            try simp (config := { maxSteps := 10000000 }) only [go_sem, reduceIte, reduceCtorEq, Nat.reduceEqDiff, Nat.reduceLT, Nat.reduceLeDiff, Nat.reduceAdd, Nat.reduceBEq, Nat.reduceMul, Int.reduceToNat, Int.reduceLE, Int.reduceLT, Int.reduceEq, Int.reduceNeg, hB]
            repeat (refine And.intro (by first | omega | (constructor <;> omega) | kernel_rfl) ?_)
            repeat (refine And.intro (by first | omega | (constructor <;> omega) | kernel_rfl) ?_)
            refine CallW.mk (RatFromInt_fn (0 * 0)) ?_
            try simp (config := { maxSteps := 10000000 }) only [go_sem, reduceIte, reduceCtorEq, Nat.reduceEqDiff, Nat.reduceLT, Nat.reduceLeDiff, Nat.reduceAdd, Nat.reduceBEq, Nat.reduceMul, Int.reduceToNat, Int.reduceLE, Int.reduceLT, Int.reduceEq, Int.reduceNeg]
            try simp (config := { maxSteps := 10000000 }) only [go_sem, reduceIte, reduceCtorEq, Nat.reduceEqDiff, Nat.reduceLT, Nat.reduceLeDiff, Nat.reduceAdd, Nat.reduceBEq, Nat.reduceMul, Int.reduceToNat, Int.reduceLE, Int.reduceLT, Int.reduceEq, Int.reduceNeg, spdL_len]
            repeat (refine And.intro (by first | omega | (constructor <;> omega) | kernel_rfl) ?_)
            refine LoopK.mk (i + 1) ?_ (by omega) (by omega)
            refine Wk.mk [] ?_
            try simp (config := { maxSteps := 10000000 }) only [go_sem, reduceIte, reduceCtorEq, Nat.reduceEqDiff, Nat.reduceLT, Nat.reduceLeDiff, Nat.reduceAdd, Nat.reduceBEq, Nat.reduceMul, Int.reduceToNat, Int.reduceLE, Int.reduceLT, Int.reduceEq, Int.reduceNeg]
            try (and_intros <;> first | rfl | omega | exact ⟨_, rfl⟩)
            all_goals (rw [spdL_succ, hlim]; exact ⟨by omega, rfl⟩)
          · try simp (config := { maxSteps := 10000000 }) only [go_sem, reduceIte, reduceCtorEq, Nat.reduceEqDiff, Nat.reduceLT, Nat.reduceLeDiff, Nat.reduceAdd, Nat.reduceBEq, Nat.reduceMul, Int.reduceToNat, Int.reduceLE, Int.reduceLT, Int.reduceEq, Int.reduceNeg, hA]
            repeat (refine And.intro (by first | omega | (constructor <;> omega) | kernel_rfl) ?_)
            try simp (config := { maxSteps := 10000000 }) only [go_sem, reduceIte, reduceCtorEq, Nat.reduceEqDiff, Nat.reduceLT, Nat.reduceLeDiff, Nat.reduceAdd, Nat.reduceBEq, Nat.reduceMul, Int.reduceToNat, Int.reduceLE, Int.reduceLT, Int.reduceEq, Int.reduceNeg, hB, hC]
            repeat (refine And.intro (by first | omega | (constructor <;> omega) | kernel_rfl) ?_)
            repeat (refine And.intro (by first | omega | (constructor <;> omega) | kernel_rfl) ?_)
            refine CallW.mk (RatFromInt_fn (0 * 0)) ?_
            try simp (config := { maxSteps := 10000000 }) only [go_sem, reduceIte, reduceCtorEq, Nat.reduceEqDiff, Nat.reduceLT, Nat.reduceLeDiff, Nat.reduceAdd, Nat.reduceBEq, Nat.reduceMul, Int.reduceToNat, Int.reduceLE, Int.reduceLT, Int.reduceEq, Int.reduceNeg]
            try simp (config := { maxSteps := 10000000 }) only [go_sem, reduceIte, reduceCtorEq, Nat.reduceEqDiff, Nat.reduceLT, Nat.reduceLeDiff, Nat.reduceAdd, Nat.reduceBEq, Nat.reduceMul, Int.reduceToNat, Int.reduceLE, Int.reduceLT, Int.reduceEq, Int.reduceNeg, spdL_len]
            repeat (refine And.intro (by first | omega | (constructor <;> omega) | kernel_rfl) ?_)
            refine LoopK.mk (i + 1) ?_ (by omega) (by omega)
            refine Wk.mk [] ?_
            try simp (config := { maxSteps := 10000000 }) only [go_sem, reduceIte, reduceCtorEq, Nat.reduceEqDiff, Nat.reduceLT, Nat.reduceLeDiff, Nat.reduceAdd, Nat.reduceBEq, Nat.reduceMul, Int.reduceToNat, Int.reduceLE, Int.reduceLT, Int.reduceEq, Int.reduceNeg]
            try (and_intros <;> first | rfl | omega | exact ⟨_, rfl⟩)
            all_goals (rw [spdL_succ, hlim]; exact ⟨by omega, rfl⟩)
        · try simp (config := { maxSteps := 10000000 }) only [go_sem, reduceIte, reduceCtorEq, Nat.reduceEqDiff, Nat.reduceLT, Nat.reduceLeDiff, Nat.reduceAdd, Nat.reduceBEq, Nat.reduceMul, Int.reduceToNat, Int.reduceLE, Int.reduceLT, Int.reduceEq, Int.reduceNeg]
          rw [show n.toNat = i by omega]
end Go.Proofs.Ytjkbecgenjhaaaa.DW

/-
  SpeedLimits: the contracts of calls.
-/
namespace Go.Proofs.Ytjkbecgenjhaaaa
open Go.RowKit DW
theorem implSpeedLimits_c (n : Int) (v : Value) (l : DIntS) (w : World) (hn : I64 n) (hl : Has RIntS w [v] l) (hs : l.length ≤ 1048576) :
    Calls Try.prog 20 #[.int .i64 n, v] w (Post (Own1Post RRatS (spd n l) w)) :=
  (implSpeedLimits_fn n l (by omega)).slOwn (vs := [.int .i64 n, v]) ⟨Arg.int hn, Arg.sl (a := .int) hl, trivial⟩
theorem specSpeedLimits_c (n : Int) (v : Value) (l : DIntS) (w : World) (hn : I64 n) (hl : Has RIntS w [v] l) (hs : l.length ≤ 1048576) :
    Calls Try.prog 18 #[.int .i64 n, v] w (Post (fun v w' => Has RRatS w' [v] (spd n l) ∧ Below w.heap.size w w')) :=
  (specSpeedLimits_fn n l (by omega)).slHas (vs := [.int .i64 n, v]) ⟨Arg.int hn, Arg.sl (a := .int) hl, trivial⟩
theorem tRatS_le {l : DRatS} {k : Nat} (h : ∀ x ∈ l, tRat x ≤ k) : tRatS l ≤ k * l.length := by
  induction l with
  | nil => exact Nat.zero_le _
  | cons x l ih =>
    have h1 := h x List.mem_cons_self
    have h2 := ih fun y hy => h y (List.mem_cons_of_mem _ hy)
    simp only [tRatS, List.length_cons, Nat.mul_add, Nat.mul_one]
    omega
theorem spd_bound (n : Int) (l : DIntS) (hl : l.length ≤ 1048576) : cnRatS (spd n l) ≤ 3145731 := by
  by_cases h : spdOk n l
  · rw [spd_t h, cnRatS_eq]
    have h1 : ∀ x ∈ spdL n l n.toNat, tRat x ≤ 2 := by
      intro x hx
      obtain ⟨i, _, rfl⟩ := List.mem_map.1 hx
      have hk := sq_le (limA_le h i)
      have : nl (limA n l i * limA n l i).natAbs ≤ 1 := nl_small (by omega)
      show (natL _).length + 1 ≤ 2
      rw [natL_len_nl]; omega
    have h2 := tRatS_le h1
    rw [spdL_len] at h2
    have := spdL_len n l n.toNat
    have := h.2.1
    omega
  · rw [spd_f h]; decide
end Go.Proofs.Ytjkbecgenjhaaaa

/-
  The law FnExactSpeedLimits returns true: the walk through it by the contracts.
-/
namespace Go.Proofs.Ytjkbecgenjhaaaa
open Go.RowKit

set_option maxRecDepth 100000 in
set_option maxHeartbeats 2000000 in
theorem law_FnExactSpeedLimits (n0 : Int) (a1 : Value) (x1 : DIntS) (w : World) (hI0 : I64 n0) (hx1 : Has RIntS w [a1] x1) :
    Calls Try.prog 5 #[.int .i64 n0, a1] w (Post fun r w' => r = .bool true ∧ Below w.heap.size w w') := by
  have A1 := Lib.hid hx1; clear hx1
  have hb0 := Below.refl w.heap.size w
  obtain ⟨ada, capa, rfl, hcla, hcma⟩ := A1.out.len_slice
  unfold maxLen at hcma
  by_cases hbig : 1048576 < x1.length
  · go_enter Try.func5, Try.ntmps5
    go_wp2
    go_ret
    exact ⟨_, rfl, rfl, hb0⟩
  have hle1 : x1.length ≤ 1048576 := by omega
  have HLE1 := Lib.hid hle1; clear hle1
  go_enter Try.func5, Try.ntmps5
  go_wp2_with fail
  have hp1 := (Below.refl w.heap.size w)
  refine (toIntS_any _ _ _ (A1.out.below hp1) HLE1.out).mono ?_
  rintro e w1 ⟨vhq0, rfl, hq0, hc1⟩
  have hs1 := Below.up hp1 hc1 (by simp <;> omega)
  have hb1 := hs1
  have hz1 := hs1.size
  obtain ⟨adq0, capq0, rfl, hclq0, hcmq0⟩ := hq0.has.len_slice
  clear hclq0 hcmq0
  have Fq01 := Lib.hid hq0
  clear hq0
  go_wp2_with fail
  have hp2 := (Below.refl w1.heap.size w1)
  refine (specSpeedLimits_c _ _ _ _ hI0 ((Fq01.out.below hp2)).has HLE1.out).mono ?_
  rintro e w2 ⟨vw0, rfl, hw0, hc2⟩
  have hs2 := Below.up hp2 hc2 (by simp <;> omega)
  have hb2 := hb1.trans (hs2.mono hb1.size)
  have hz2 := hs2.size
  obtain ⟨adw0, capw0, rfl, hclw0, hcmw0⟩ := hw0.len_slice
  clear hclw0 hcmw0
  have Fw0 := Lib.hid hw0; clear hw0
  go_wp2_with fail
  have hp3 := (Below.refl w2.heap.size w2)
  refine (toIntS_any _ _ _ ((A1.out.below hb2).below hp3) HLE1.out).mono ?_
  rintro e w3 ⟨vhX1, rfl, hX1, hc3⟩
  have hs3 := Below.up hp3 hc3 (by simp <;> omega)
  have hb3 := hb2.trans (hs3.mono hb2.size)
  have hz3 := hs3.size
  have hw3 := hs3
  obtain ⟨adX1, capX1, rfl, hclX1, hcmX1⟩ := hX1.has.len_slice
  clear hclX1 hcmX1
  have FX12 := Lib.hid (Own.inn (Own.mono (base' := w2.heap.size) hX1 (by simp)))
  clear hX1
  go_wp2_with fail
  have hp4 := (Below.refl w3.heap.size w3)
  refine (implSpeedLimits_c _ _ _ _ hI0 ((FX12.out.below hp4 (by omega)).own (Nat.le_refl _)).has HLE1.out).mono ?_
  rintro e w4 ⟨vhg0, rfl, hg0, hc4⟩
  have hs4 := Below.up hp4 hc4 (by simp <;> omega)
  have hb4 := hb3.trans (hs4.mono hb3.size)
  have hz4 := hs4.size
  have hw4 := hw3.trans (hs4.mono hw3.size)
  obtain ⟨adg0, capg0, rfl, hclg0, hcmg0⟩ := hg0.has.len_slice
  clear hclg0 hcmg0
  have Fg03 := Lib.hid (Own.inn (Own.mono (base' := w3.heap.size) hg0 (by simp)))
  clear hg0
  go_wp2_with fail
  have hp5 := (Below.refl w4.heap.size w4)
  refine (eqRatS_any _ _ _ _ _ (((Fg03.out.below hp5 (by omega)).own (Nat.le_refl _)).has) ((Fw0.out.below hw4).below hp5)).mono ?_
  rintro e w5 ⟨v, rfl, rfl, hc5⟩
  have hs5 := Below.up hp5 hc5 (by simp <;> omega)
  have hb5 := hb4.trans (hs5.mono hb4.size)
  have hz5 := hs5.size
  have hw5 := hw4.trans (hs5.mono hw4.size)
  rw [eqb_true rfl]
  go_wp2_with fail
  have hp6 := (Below.refl w5.heap.size w5)
  refine (toIntS_any _ _ _ ((A1.out.below hb5).below hp6) HLE1.out).mono ?_
  rintro e w6 ⟨vhq4, rfl, hq4, hc6⟩
  have hs6 := Below.up hp6 hc6 (by simp <;> omega)
  have hb6 := hb5.trans (hs6.mono hb5.size)
  have hz6 := hs6.size
  have hw6 := hw5.trans (hs6.mono hw5.size)
  obtain ⟨adq4, capq4, rfl, hclq4, hcmq4⟩ := hq4.has.len_slice
  clear hclq4 hcmq4
  have Fq45 := Lib.hid hq4
  clear hq4
  go_wp2_with fail
  have hp7 := (Below.refl w6.heap.size w6)
  refine (eqIntS_any _ _ _ _ _ ((((((FX12.out.below hs4 (by omega)).below hs5 (by omega)).below hs6 (by omega)).below hp7 (by omega)).own (Nat.le_refl _)).has) ((Fq45.out.below hp7)).has).mono ?_
  rintro e w7 ⟨v, rfl, rfl, hc7⟩
  have hs7 := Below.up hp7 hc7 (by simp <;> omega)
  have hb7 := hb6.trans (hs7.mono hb6.size)
  have hz7 := hs7.size
  have hw7 := hw6.trans (hs7.mono hw6.size)
  rw [eqb_true rfl]
  have hcn1 : x1.length ≤ 3145728 := by have := HLE1.out; omega
  go_wp2_with fail
  have hp8 := (Below.refl w7.heap.size w7)
  obtain ⟨fp8, hr8, hn8, hfp8⟩ := (((((FX12.out.below hs4 (by omega)).below hs5 (by omega)).below hs6 (by omega)).below hs7 (by omega)).below hp8 (by omega))
  refine (markIntS_any _ _ (1) fp8 _ hr8 hn8 (fun b hb => (hfp8 b hb).2.2) (by omega) (by omega)).mono ?_
  rintro e w8 ⟨v, rfl, rfl, hm8, hu8⟩
  have hz8 := hu8.size
  have hl8 : Below (w2.heap.size) w7 w8 := hu8.below (fun b hb => (hfp8 b hb).1) (by omega)
  have hb8 := hb7.trans (hl8.mono (by omega))
  have hw8 := hw7.trans (hl8.mono (by omega))
  have Fg06 := Lib.hid (OwnIn.frame (((Fg03.out.below hs5 (by omega)).below hs6 (by omega)).below hs7 (by omega)) (fun b h1 h2 => hu8.block b (by omega) (fun hm => by have h3 := (hfp8 b hm).1; have h4 := (hfp8 b hm).2.1; omega)))
  have FMX1 := Lib.hid (Has.of hm8)
  clear hr8 hn8 hm8
  generalize hkk : (1 + ((x1.length : Nat) : Int) : Int) = kk
  have hk0 : 0 ≤ kk := by omega
  go_wp2_with fail
  have hp9 := (Below.refl w8.heap.size w8)
  refine (eqRatS_any _ _ _ _ _ (((Fg06.out.below hp9 (by omega)).own (Nat.le_refl _)).has) ((Fw0.out.below hw8).below hp9)).mono ?_
  rintro e w9 ⟨v, rfl, rfl, hc9⟩
  have hs9 := Below.up hp9 hc9 (by simp <;> omega)
  have hb9 := hb8.trans (hs9.mono hb8.size)
  have hz9 := hs9.size
  have hw9 := hw8.trans (hs9.mono hw8.size)
  rw [eqb_true rfl]
  have hcg : cnRatS (DW.spd n0 x1) ≤ 3145731 := spd_bound n0 x1 HLE1.out
  go_wp2_with fail
  have hp10 := (Below.refl w9.heap.size w9)
  obtain ⟨fp10, hr10, hn10, hfp10⟩ := ((Fg06.out.below hs9 (by omega)).below hp10 (by omega))
  refine (markRatS_any _ _ (1) fp10 _ hr10 hn10 (fun b hb => (hfp10 b hb).2.2) (by omega) (by omega)).mono ?_
  rintro e w10 ⟨v, rfl, rfl, hm10, hu10⟩
  have hz10 := hu10.size
  have hl10 : Below (w3.heap.size) w9 w10 := hu10.below (fun b hb => (hfp10 b hb).1) (by omega)
  have hb10 := hb9.trans (hl10.mono (by omega))
  have hw10 := hw9.trans (hl10.mono (by omega))
  have FMg0 := Lib.hid (Has.of hm10)
  clear hr10 hn10 hm10
  go_wp2_with fail
  have hp11 := (Below.refl w10.heap.size w10)
  refine (heldRatS_any _ _ _ _ (FMg0.out.below hp11) (by omega) (by omega)).mono ?_
  rintro e w11 ⟨v, rfl, rfl, hc11⟩
  have hs11 := Below.up hp11 hc11 (by simp <;> omega)
  have hb11 := hb10.trans (hs11.mono hb10.size)
  have hz11 := hs11.size
  have hw11 := hw10.trans (hs11.mono hw10.size)
  generalize hmm : (1 + ((cnRatS (DW.spd n0 x1) : Nat) : Int)) = mm
  have hm0 : 0 ≤ mm := by omega
  go_wp2_with fail
  have hp12 := (Below.refl w11.heap.size w11)
  refine (toIntS_any _ _ _ ((A1.out.below hb11).below hp12) HLE1.out).mono ?_
  rintro e w12 ⟨vhq7, rfl, hq7, hc12⟩
  have hs12 := Below.up hp12 hc12 (by simp <;> omega)
  have hb12 := hb11.trans (hs12.mono hb11.size)
  have hz12 := hs12.size
  have hw12 := hw11.trans (hs12.mono hw11.size)
  obtain ⟨adq7, capq7, rfl, hclq7, hcmq7⟩ := hq7.has.len_slice
  clear hclq7 hcmq7
  have Fq78 := Lib.hid hq7
  clear hq7
  go_wp2_with fail
  have hp13 := (Below.refl w12.heap.size w12)
  refine (implSpeedLimits_c _ _ _ _ hI0 ((Fq78.out.below hp13)).has HLE1.out).mono ?_
  rintro e w13 ⟨vhg1, rfl, hg1, hc13⟩
  have hs13 := Below.up hp13 hc13 (by simp <;> omega)
  have hb13 := hb12.trans (hs13.mono hb12.size)
  have hz13 := hs13.size
  have hw13 := hw12.trans (hs13.mono hw12.size)
  obtain ⟨adg1, capg1, rfl, hclg1, hcmg1⟩ := hg1.has.len_slice
  clear hclg1 hcmg1
  have Fqg19 := Lib.hid hg1
  clear hg1
  go_wp2_with fail
  have hp14 := (Below.refl w13.heap.size w13)
  refine (eqRatS_any _ _ _ _ _ ((Fqg19.out.below hp14)).has ((Fw0.out.below hw13).below hp14)).mono ?_
  rintro e w14 ⟨v, rfl, rfl, hc14⟩
  have hs14 := Below.up hp14 hc14 (by simp <;> omega)
  have hb14 := hb13.trans (hs14.mono hb13.size)
  have hz14 := hs14.size
  have hw14 := hw13.trans (hs14.mono hw13.size)
  rw [eqb_true rfl]
  go_wp2_with fail
  have hp15 := (Below.refl w14.heap.size w14)
  refine (heldRatS_any _ _ _ _ (((((FMg0.out.below hs11).below hs12).below hs13).below hs14).below hp15) (by omega) (by omega)).mono ?_
  rintro e w15 ⟨v, rfl, rfl, hc15⟩
  have hs15 := Below.up hp15 hc15 (by simp <;> omega)
  have hb15 := hb14.trans (hs15.mono hb14.size)
  have hz15 := hs15.size
  have hw15 := hw14.trans (hs15.mono hw14.size)
  rw [hmm]
  go_wp2
  go_ret
  exact ⟨_, rfl, rfl, hb15⟩
end Go.Proofs.Ytjkbecgenjhaaaa
