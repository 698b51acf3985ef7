/-
  Texts of a proof, one behind another: Dw9, Dw10, Dw11, Dw12, Dw13, Dw16, Dw17, Br, CtPeak, LawPeakSquare, CtFaster.
-/
import Derived.Deep.RegionHeld3
import Derived.Test.YtjkbecgenjhaaaaKA3
set_option linter.all false
/-
  Integers of any length.
-/
namespace Go.Proofs.Ytjkbecgenjhaaaa.DW
open Go.RowKit
attribute [go_sem] bigD
theorem nlpos {n : Nat} : (0 : Int) < (nl n : Nat) ↔ 0 < n := by
  by_cases h : n = 0
  · subst h; rw [nl_zero]; simp
  · have := (nl_le n h).1; omega
theorem sgn_mul (x y : Int) : sgn (!(decide (x < 0) == decide (y < 0))) (x.natAbs * y.natAbs) = x * y := by
  unfold sgn
  rw [Int.natCast_mul]
  by_cases hx : x < 0 <;> by_cases hy : y < 0 <;> simp only [hx, hy, decide_true, decide_false, beq_self_eq_true, Bool.not_true, Bool.false_eq_true, if_false, Bool.not_false, if_true, beq_iff_eq, reduceCtorEq]
  · rw [show (x.natAbs : Int) = -x by omega, show (y.natAbs : Int) = -y by omega, Int.neg_mul_neg]
  · have e : (!(true == false)) = true := rfl
    rw [e, if_pos rfl, show (x.natAbs : Int) = -x by omega, show (y.natAbs : Int) = y by omega, Int.neg_mul, Int.neg_neg]
  · have e : (!(false == true)) = true := rfl
    rw [e, if_pos rfl, show (x.natAbs : Int) = x by omega, show (y.natAbs : Int) = -y by omega, Int.mul_neg, Int.neg_neg]
  · rw [show (x.natAbs : Int) = x by omega, show (y.natAbs : Int) = y by omega]
theorem cmpZ_nn {x y : Int} (hx : x < 0) (hy : y < 0) : cmpN y.natAbs x.natAbs = cmpZ x y := by
  unfold cmpN cmpZ
  by_cases h1 : x < y
  · rw [if_pos (by omega), if_pos h1]
  · by_cases h2 : y < x
    · rw [if_neg (by omega), if_pos (by omega), if_neg h1, if_pos h2]
    · rw [if_neg (by omega), if_neg (by omega), if_neg h1, if_neg h2]
theorem cmpZ_pp {x y : Int} (hx : ¬ x < 0) (hy : ¬ y < 0) : cmpN x.natAbs y.natAbs = cmpZ x y := by
  unfold cmpN cmpZ
  by_cases h1 : x < y
  · rw [if_pos (by omega), if_pos h1]
  · by_cases h2 : y < x
    · rw [if_neg (by omega), if_pos (by omega), if_neg h1, if_pos h2]
    · rw [if_neg (by omega), if_neg (by omega), if_neg h1, if_neg h2]
theorem cmpZ_np {x y : Int} (hx : x < 0) (hy : ¬ y < 0) : cmpZ x y = -1 := by unfold cmpZ; rw [if_pos (by omega)]
theorem cmpZ_pn {x y : Int} (hx : ¬ x < 0) (hy : y < 0) : cmpZ x y = 1 := by unfold cmpZ; rw [if_neg (by omega), if_pos (by omega)]
theorem clone_fn (l : List Int) (hl : l.length ≤ 1000000) : Fn Try.prog 115 [⟨tInts, l⟩] true [⟨tInts, l⟩] := by
  refine fn_enter tabOK mixes Try.func115 rfl rfl _ Try.ntmps115 _ Try.results115 (by simp) fun hwf => ?_
  try simp (config := { maxSteps := 10000000 }) only [go_sem, reduceIte, reduceCtorEq, Nat.reduceEqDiff, Nat.reduceLT, Nat.reduceLeDiff, Nat.reduceAdd, Nat.reduceBEq, Nat.reduceMul, Int.reduceToNat, Int.reduceLE, Int.reduceLT, Int.reduceEq, Int.reduceNeg]
  refine NilW.eq ?_
  try simp (config := { maxSteps := 10000000 }) only [go_sem, reduceIte, reduceCtorEq, Nat.reduceEqDiff, Nat.reduceLT, Nat.reduceLeDiff, Nat.reduceAdd, Nat.reduceBEq, Nat.reduceMul, Int.reduceToNat, Int.reduceLE, Int.reduceLT, Int.reduceEq, Int.reduceNeg]
  refine CondW_nb (fun h => ?_) (fun h => ?_)
  · try simp (config := { maxSteps := 10000000 }) only [go_sem, reduceIte, reduceCtorEq, Nat.reduceEqDiff, Nat.reduceLT, Nat.reduceLeDiff, Nat.reduceAdd, Nat.reduceBEq, Nat.reduceMul, Int.reduceToNat, Int.reduceLE, Int.reduceLT, Int.reduceEq, Int.reduceNeg, h]
  · try simp (config := { maxSteps := 10000000 }) only [go_sem, reduceIte, reduceCtorEq, Nat.reduceEqDiff, Nat.reduceLT, Nat.reduceLeDiff, Nat.reduceAdd, Nat.reduceBEq, Nat.reduceMul, Int.reduceToNat, Int.reduceLE, Int.reduceLT, Int.reduceEq, Int.reduceNeg]
    repeat (refine And.intro (by first | omega | (constructor <;> omega) | kernel_rfl) ?_)
    try simp (config := { maxSteps := 10000000 }) only [go_sem, reduceIte, reduceCtorEq, Nat.reduceEqDiff, Nat.reduceLT, Nat.reduceLeDiff, Nat.reduceAdd, Nat.reduceBEq, Nat.reduceMul, Int.reduceToNat, Int.reduceLE, Int.reduceLT, Int.reduceEq, Int.reduceNeg]
    omega
theorem bigMake_fn (s : Bool) (n : Nat) : Fn Try.prog 146 [⟨.bool, s⟩, ⟨tInts, natL n⟩] false [⟨tBig, bigD (sgn s n)⟩] := by
  rw [bigD_sgn]
  cases s
  · refine fn_enter tabOK mixes Try.func146 rfl rfl _ Try.ntmps146 _ Try.results146 (by simp) fun hwf => ?_
    try simp (config := { maxSteps := 10000000 }) only [go_sem, reduceIte, reduceCtorEq, Nat.reduceEqDiff, Nat.reduceLT, Nat.reduceLeDiff, Nat.reduceAdd, Nat.reduceBEq, Nat.reduceMul, Int.reduceToNat, Int.reduceLE, Int.reduceLT, Int.reduceEq, Int.reduceNeg]
  · refine fn_enter tabOK mixes Try.func146 rfl rfl _ Try.ntmps146 _ Try.results146 (by simp) fun hwf => ?_
    try simp (config := { maxSteps := 10000000 }) only [go_sem, reduceIte, reduceCtorEq, Nat.reduceEqDiff, Nat.reduceLT, Nat.reduceLeDiff, Nat.reduceAdd, Nat.reduceBEq, Nat.reduceMul, Int.reduceToNat, Int.reduceLE, Int.reduceLT, Int.reduceEq, Int.reduceNeg]
    simp only [nlpos]
theorem bigMake_to {s : Bool} {n : Nat} {z : Int} (h : sgn s n = z) : Fn Try.prog 146 [⟨.bool, s⟩, ⟨tInts, natL n⟩] false [⟨tBig, bigD z⟩] := h ▸ bigMake_fn s n
theorem bigNeg_fn (z : Int) : Fn Try.prog 170 [⟨tBig, bigD z⟩] false [⟨tBig, bigD (-z)⟩] := by
  refine fn_enter tabOK mixes Try.func170 rfl rfl _ Try.ntmps170 _ Try.results170 (by simp) fun hwf => ?_
  try simp (config := { maxSteps := 10000000 }) only [go_sem, reduceIte, reduceCtorEq, Nat.reduceEqDiff, Nat.reduceLT, Nat.reduceLeDiff, Nat.reduceAdd, Nat.reduceBEq, Nat.reduceMul, Int.reduceToNat, Int.reduceLE, Int.reduceLT, Int.reduceEq, Int.reduceNeg]
  repeat (refine And.intro (by first | omega | (constructor <;> omega) | kernel_rfl) ?_)
  refine CallW.mk (bigMake_to (s := !decide (z < 0)) (n := z.natAbs) (z := -z) (by unfold sgn; by_cases h : z < 0 <;> simp [h] <;> omega)) ?_
  try simp (config := { maxSteps := 10000000 }) only [go_sem, reduceIte, reduceCtorEq, Nat.reduceEqDiff, Nat.reduceLT, Nat.reduceLeDiff, Nat.reduceAdd, Nat.reduceBEq, Nat.reduceMul, Int.reduceToNat, Int.reduceLE, Int.reduceLT, Int.reduceEq, Int.reduceNeg]
theorem bigAdd_fn (x y : Int) (hx : nl x.natAbs ≤ 10000) (hy : nl y.natAbs ≤ 10000) : Fn Try.prog 168 [⟨tBig, bigD x⟩, ⟨tBig, bigD y⟩] false [⟨tBig, bigD (x + y)⟩] := by
  refine fn_enter tabOK mixes Try.func168 rfl rfl _ Try.ntmps168 _ Try.results168 (by simp) fun hwf => ?_
  try simp (config := { maxSteps := 10000000 }) only [go_sem, reduceIte, reduceCtorEq, Nat.reduceEqDiff, Nat.reduceLT, Nat.reduceLeDiff, Nat.reduceAdd, Nat.reduceBEq, Nat.reduceMul, Int.reduceToNat, Int.reduceLE, Int.reduceLT, Int.reduceEq, Int.reduceNeg]
  refine CondW_b (fun h => ?_) (fun h => ?_)
  · have hs : decide (x < 0) = decide (y < 0) := by simpa using h
    try simp (config := { maxSteps := 10000000 }) only [go_sem, reduceIte, reduceCtorEq, Nat.reduceEqDiff, Nat.reduceLT, Nat.reduceLeDiff, Nat.reduceAdd, Nat.reduceBEq, Nat.reduceMul, Int.reduceToNat, Int.reduceLE, Int.reduceLT, Int.reduceEq, Int.reduceNeg]
    repeat (refine And.intro (by first | omega | (constructor <;> omega) | kernel_rfl) ?_)
    refine CallW.mk (natAdd_fn x.natAbs y.natAbs (by omega) (by omega)) ?_
    try simp (config := { maxSteps := 10000000 }) only [go_sem, reduceIte, reduceCtorEq, Nat.reduceEqDiff, Nat.reduceLT, Nat.reduceLeDiff, Nat.reduceAdd, Nat.reduceBEq, Nat.reduceMul, Int.reduceToNat, Int.reduceLE, Int.reduceLT, Int.reduceEq, Int.reduceNeg]
    repeat (refine And.intro (by first | omega | (constructor <;> omega) | kernel_rfl) ?_)
    refine CallW.mk (bigMake_to (s := decide (x < 0)) (n := x.natAbs + y.natAbs) (z := x + y) (by unfold sgn; by_cases h : x < 0 <;> by_cases h2 : y < 0 <;> simp [h, h2] at hs ⊢ <;> omega)) ?_
    try simp (config := { maxSteps := 10000000 }) only [go_sem, reduceIte, reduceCtorEq, Nat.reduceEqDiff, Nat.reduceLT, Nat.reduceLeDiff, Nat.reduceAdd, Nat.reduceBEq, Nat.reduceMul, Int.reduceToNat, Int.reduceLE, Int.reduceLT, Int.reduceEq, Int.reduceNeg]
    kernel_rfl
  · have hs : decide (x < 0) ≠ decide (y < 0) := by simpa using h
    try simp (config := { maxSteps := 10000000 }) only [go_sem, reduceIte, reduceCtorEq, Nat.reduceEqDiff, Nat.reduceLT, Nat.reduceLeDiff, Nat.reduceAdd, Nat.reduceBEq, Nat.reduceMul, Int.reduceToNat, Int.reduceLE, Int.reduceLT, Int.reduceEq, Int.reduceNeg]
    repeat (refine And.intro (by first | omega | (constructor <;> omega) | kernel_rfl) ?_)
    refine CallW.mk (natCmp_fn (natL x.natAbs) (natL y.natAbs)) ?_
    try simp (config := { maxSteps := 10000000 }) only [go_sem, reduceIte, reduceCtorEq, Nat.reduceEqDiff, Nat.reduceLT, Nat.reduceLeDiff, Nat.reduceAdd, Nat.reduceBEq, Nat.reduceMul, Int.reduceToNat, Int.reduceLE, Int.reduceLT, Int.reduceEq, Int.reduceNeg]
    refine CondW_dec (fun hc => ?_) (fun hc => ?_)
    · rw [cmpN_ge] at hc
      try simp (config := { maxSteps := 10000000 }) only [go_sem, reduceIte, reduceCtorEq, Nat.reduceEqDiff, Nat.reduceLT, Nat.reduceLeDiff, Nat.reduceAdd, Nat.reduceBEq, Nat.reduceMul, Int.reduceToNat, Int.reduceLE, Int.reduceLT, Int.reduceEq, Int.reduceNeg]
      repeat (refine And.intro (by first | omega | (constructor <;> omega) | kernel_rfl) ?_)
      refine CallW.mk (natSub_fn x.natAbs y.natAbs hc (by omega)) ?_
      try simp (config := { maxSteps := 10000000 }) only [go_sem, reduceIte, reduceCtorEq, Nat.reduceEqDiff, Nat.reduceLT, Nat.reduceLeDiff, Nat.reduceAdd, Nat.reduceBEq, Nat.reduceMul, Int.reduceToNat, Int.reduceLE, Int.reduceLT, Int.reduceEq, Int.reduceNeg]
      repeat (refine And.intro (by first | omega | (constructor <;> omega) | kernel_rfl) ?_)
      refine CallW.mk (bigMake_to (s := decide (x < 0)) (n := x.natAbs - y.natAbs) (z := x + y) (by unfold sgn; by_cases h : x < 0 <;> by_cases h2 : y < 0 <;> simp [h, h2] at hs ⊢ <;> omega)) ?_
      try simp (config := { maxSteps := 10000000 }) only [go_sem, reduceIte, reduceCtorEq, Nat.reduceEqDiff, Nat.reduceLT, Nat.reduceLeDiff, Nat.reduceAdd, Nat.reduceBEq, Nat.reduceMul, Int.reduceToNat, Int.reduceLE, Int.reduceLT, Int.reduceEq, Int.reduceNeg]
      kernel_rfl
    · rw [cmpN_ge] at hc
      try simp (config := { maxSteps := 10000000 }) only [go_sem, reduceIte, reduceCtorEq, Nat.reduceEqDiff, Nat.reduceLT, Nat.reduceLeDiff, Nat.reduceAdd, Nat.reduceBEq, Nat.reduceMul, Int.reduceToNat, Int.reduceLE, Int.reduceLT, Int.reduceEq, Int.reduceNeg]
      repeat (refine And.intro (by first | omega | (constructor <;> omega) | kernel_rfl) ?_)
      refine CallW.mk (natSub_fn y.natAbs x.natAbs (by omega) (by omega)) ?_
      try simp (config := { maxSteps := 10000000 }) only [go_sem, reduceIte, reduceCtorEq, Nat.reduceEqDiff, Nat.reduceLT, Nat.reduceLeDiff, Nat.reduceAdd, Nat.reduceBEq, Nat.reduceMul, Int.reduceToNat, Int.reduceLE, Int.reduceLT, Int.reduceEq, Int.reduceNeg]
      repeat (refine And.intro (by first | omega | (constructor <;> omega) | kernel_rfl) ?_)
      refine CallW.mk (bigMake_to (s := decide (y < 0)) (n := y.natAbs - x.natAbs) (z := x + y) (by unfold sgn; by_cases h : x < 0 <;> by_cases h2 : y < 0 <;> simp [h, h2] at hs ⊢ <;> omega)) ?_
      try simp (config := { maxSteps := 10000000 }) only [go_sem, reduceIte, reduceCtorEq, Nat.reduceEqDiff, Nat.reduceLT, Nat.reduceLeDiff, Nat.reduceAdd, Nat.reduceBEq, Nat.reduceMul, Int.reduceToNat, Int.reduceLE, Int.reduceLT, Int.reduceEq, Int.reduceNeg]
      kernel_rfl
theorem bigMul_fn (x y : Int) (hx : nl x.natAbs ≤ 10000) (hy : nl y.natAbs ≤ 10000) : Fn Try.prog 114 [⟨tBig, bigD x⟩, ⟨tBig, bigD y⟩] false [⟨tBig, bigD (x * y)⟩] := by
  refine fn_enter tabOK mixes Try.func114 rfl rfl _ Try.ntmps114 _ Try.results114 (by simp) fun hwf => ?_
  try simp (config := { maxSteps := 10000000 }) only [go_sem, reduceIte, reduceCtorEq, Nat.reduceEqDiff, Nat.reduceLT, Nat.reduceLeDiff, Nat.reduceAdd, Nat.reduceBEq, Nat.reduceMul, Int.reduceToNat, Int.reduceLE, Int.reduceLT, Int.reduceEq, Int.reduceNeg]
  repeat (refine And.intro (by first | omega | (constructor <;> omega) | kernel_rfl) ?_)
  refine CallW.mk (natMul_fn x.natAbs y.natAbs (by omega) (by omega)) ?_
  try simp (config := { maxSteps := 10000000 }) only [go_sem, reduceIte, reduceCtorEq, Nat.reduceEqDiff, Nat.reduceLT, Nat.reduceLeDiff, Nat.reduceAdd, Nat.reduceBEq, Nat.reduceMul, Int.reduceToNat, Int.reduceLE, Int.reduceLT, Int.reduceEq, Int.reduceNeg]
  repeat (refine And.intro (by first | omega | (constructor <;> omega) | kernel_rfl) ?_)
  refine CallW.mk (bigMake_to (s := !(decide (x < 0) == decide (y < 0))) (n := x.natAbs * y.natAbs) (z := x * y) (sgn_mul x y)) ?_
  try simp (config := { maxSteps := 10000000 }) only [go_sem, reduceIte, reduceCtorEq, Nat.reduceEqDiff, Nat.reduceLT, Nat.reduceLeDiff, Nat.reduceAdd, Nat.reduceBEq, Nat.reduceMul, Int.reduceToNat, Int.reduceLE, Int.reduceLT, Int.reduceEq, Int.reduceNeg]
  kernel_rfl
theorem bigCmp_fn (x y : Int) : Fn Try.prog 113 [⟨tBig, bigD x⟩, ⟨tBig, bigD y⟩] false [⟨.int, cmpZ x y⟩] := by
  by_cases hx : x < 0 <;> by_cases hy : y < 0
  · refine fn_enter tabOK mixes Try.func113 rfl rfl _ Try.ntmps113 _ Try.results113 (by simp) fun hwf => ?_
    try simp (config := { maxSteps := 10000000 }) only [go_sem, reduceIte, reduceCtorEq, Nat.reduceEqDiff, Nat.reduceLT, Nat.reduceLeDiff, Nat.reduceAdd, Nat.reduceBEq, Nat.reduceMul, Int.reduceToNat, Int.reduceLE, Int.reduceLT, Int.reduceEq, Int.reduceNeg, hx, hy]
    repeat (refine And.intro (by first | omega | (constructor <;> omega) | kernel_rfl) ?_)
    refine CallW.mk (natCmp_fn (natL y.natAbs) (natL x.natAbs)) ?_
    try simp (config := { maxSteps := 10000000 }) only [go_sem, reduceIte, reduceCtorEq, Nat.reduceEqDiff, Nat.reduceLT, Nat.reduceLeDiff, Nat.reduceAdd, Nat.reduceBEq, Nat.reduceMul, Int.reduceToNat, Int.reduceLE, Int.reduceLT, Int.reduceEq, Int.reduceNeg]
    exact cmpZ_nn hx hy
  · refine fn_enter tabOK mixes Try.func113 rfl rfl _ Try.ntmps113 _ Try.results113 (by simp) fun hwf => ?_
    try simp (config := { maxSteps := 10000000 }) only [go_sem, reduceIte, reduceCtorEq, Nat.reduceEqDiff, Nat.reduceLT, Nat.reduceLeDiff, Nat.reduceAdd, Nat.reduceBEq, Nat.reduceMul, Int.reduceToNat, Int.reduceLE, Int.reduceLT, Int.reduceEq, Int.reduceNeg, hx, hy]
    exact (cmpZ_np hx hy).symm
  · refine fn_enter tabOK mixes Try.func113 rfl rfl _ Try.ntmps113 _ Try.results113 (by simp) fun hwf => ?_
    try simp (config := { maxSteps := 10000000 }) only [go_sem, reduceIte, reduceCtorEq, Nat.reduceEqDiff, Nat.reduceLT, Nat.reduceLeDiff, Nat.reduceAdd, Nat.reduceBEq, Nat.reduceMul, Int.reduceToNat, Int.reduceLE, Int.reduceLT, Int.reduceEq, Int.reduceNeg, hx, hy]
    exact (cmpZ_pn hx hy).symm
  · refine fn_enter tabOK mixes Try.func113 rfl rfl _ Try.ntmps113 _ Try.results113 (by simp) fun hwf => ?_
    try simp (config := { maxSteps := 10000000 }) only [go_sem, reduceIte, reduceCtorEq, Nat.reduceEqDiff, Nat.reduceLT, Nat.reduceLeDiff, Nat.reduceAdd, Nat.reduceBEq, Nat.reduceMul, Int.reduceToNat, Int.reduceLE, Int.reduceLT, Int.reduceEq, Int.reduceNeg, hx, hy]
    repeat (refine And.intro (by first | omega | (constructor <;> omega) | kernel_rfl) ?_)
    refine CallW.mk (natCmp_fn (natL x.natAbs) (natL y.natAbs)) ?_
    try simp (config := { maxSteps := 10000000 }) only [go_sem, reduceIte, reduceCtorEq, Nat.reduceEqDiff, Nat.reduceLT, Nat.reduceLeDiff, Nat.reduceAdd, Nat.reduceBEq, Nat.reduceMul, Int.reduceToNat, Int.reduceLE, Int.reduceLT, Int.reduceEq, Int.reduceNeg]
    exact cmpZ_pp hx hy
theorem ownBig_fn (z : Int) (hz : nl z.natAbs ≤ 60) : Fn Try.prog 174 [⟨tBig, bigD z⟩] true [⟨tBig, bigD z⟩] := by
  have hA : ¬ (60 : Int) < nl z.natAbs := by omega
  refine fn_enter tabOK mixes Try.func174 rfl rfl _ Try.ntmps174 _ Try.results174 (by simp) fun hwf => ?_
  try simp (config := { maxSteps := 10000000 }) only [go_sem, reduceIte, reduceCtorEq, Nat.reduceEqDiff, Nat.reduceLT, Nat.reduceLeDiff, Nat.reduceAdd, Nat.reduceBEq, Nat.reduceMul, Int.reduceToNat, Int.reduceLE, Int.reduceLT, Int.reduceEq, Int.reduceNeg, hA]
  repeat (refine And.intro (by first | omega | (constructor <;> omega) | kernel_rfl) ?_)
  refine CallW.mk (clone_fn (natL z.natAbs) (by show nl z.natAbs ≤ 1000000; omega)) ?_
  try simp (config := { maxSteps := 10000000 }) only [go_sem, reduceIte, reduceCtorEq, Nat.reduceEqDiff, Nat.reduceLT, Nat.reduceLeDiff, Nat.reduceAdd, Nat.reduceBEq, Nat.reduceMul, Int.reduceToNat, Int.reduceLE, Int.reduceLT, Int.reduceEq, Int.reduceNeg]
  kernel_rfl
theorem okB_eq (s : Bool) (l : List Int) : okB (s, l) = (okN l && !(s && decide ((l.length : Int) = 0))) := by
  by_cases h1 : okNP l
  · by_cases h2 : l.length = 0
    · cases s
      · rw [okB, bdec_t ⟨h1, fun h => by cases h.1⟩, okN, bdec_t h1]; rfl
      · rw [okB, bdec_f fun h => h.2 ⟨rfl, h2⟩, h2]; simp
    · rw [okB, bdec_t ⟨h1, fun h => h2 h.2⟩, okN, bdec_t h1, decide_eq_false (by omega)]; simp
  · rw [okB, bdec_f fun h => h1 h.1, okN, bdec_f h1]; rfl
theorem implBigIntOk_fn (x : DB) : Fn Try.prog 141 [⟨tBig, x⟩] false [⟨.bool, okB x⟩] := by
  obtain ⟨s, l⟩ := x
  rw [okB_eq]
  cases hN : okN l <;> cases s
  all_goals
    refine fn_enter tabOK mixes Try.func141 rfl rfl _ Try.ntmps141 _ Try.results141 (by simp) fun hwf => ?_
    try simp (config := { maxSteps := 10000000 }) only [go_sem, reduceIte, reduceCtorEq, Nat.reduceEqDiff, Nat.reduceLT, Nat.reduceLeDiff, Nat.reduceAdd, Nat.reduceBEq, Nat.reduceMul, Int.reduceToNat, Int.reduceLE, Int.reduceLT, Int.reduceEq, Int.reduceNeg]
    repeat (refine And.intro (by first | omega | (constructor <;> omega) | kernel_rfl) ?_)
    refine CallW.mk (implNatOk_fn l) ?_
    try simp (config := { maxSteps := 10000000 }) only [go_sem, reduceIte, reduceCtorEq, Nat.reduceEqDiff, Nat.reduceLT, Nat.reduceLeDiff, Nat.reduceAdd, Nat.reduceBEq, Nat.reduceMul, Int.reduceToNat, Int.reduceLE, Int.reduceLT, Int.reduceEq, Int.reduceNeg]
    try simp (config := { maxSteps := 10000000 }) only [go_sem, reduceIte, reduceCtorEq, Nat.reduceEqDiff, Nat.reduceLT, Nat.reduceLeDiff, Nat.reduceAdd, Nat.reduceBEq, Nat.reduceMul, Int.reduceToNat, Int.reduceLE, Int.reduceLT, Int.reduceEq, Int.reduceNeg, hN]
theorem specBigIntOk_fn (x : DB) : Fn Try.prog 103 [⟨tBig, x⟩] false [⟨.bool, okB x⟩] := by
  obtain ⟨s, l⟩ := x
  rw [okB_eq]
  by_cases hl : (l.length : Int) = 0
  · have hl2 : ¬ 0 < (l.length : Int) := by omega
    cases hN : okN l <;> cases s
    all_goals
      refine fn_enter tabOK mixes Try.func103 rfl rfl _ Try.ntmps103 _ Try.results103 (by simp) fun hwf => ?_
      try simp (config := { maxSteps := 10000000 }) only [go_sem, reduceIte, reduceCtorEq, Nat.reduceEqDiff, Nat.reduceLT, Nat.reduceLeDiff, Nat.reduceAdd, Nat.reduceBEq, Nat.reduceMul, Int.reduceToNat, Int.reduceLE, Int.reduceLT, Int.reduceEq, Int.reduceNeg]
      repeat (refine And.intro (by first | omega | (constructor <;> omega) | kernel_rfl) ?_)
      refine CallW.mk (specNatOk_fn l) ?_
      try simp (config := { maxSteps := 10000000 }) only [go_sem, reduceIte, reduceCtorEq, Nat.reduceEqDiff, Nat.reduceLT, Nat.reduceLeDiff, Nat.reduceAdd, Nat.reduceBEq, Nat.reduceMul, Int.reduceToNat, Int.reduceLE, Int.reduceLT, Int.reduceEq, Int.reduceNeg]
      try simp (config := { maxSteps := 10000000 }) only [go_sem, reduceIte, reduceCtorEq, Nat.reduceEqDiff, Nat.reduceLT, Nat.reduceLeDiff, Nat.reduceAdd, Nat.reduceBEq, Nat.reduceMul, Int.reduceToNat, Int.reduceLE, Int.reduceLT, Int.reduceEq, Int.reduceNeg, hN, hl, hl2]
  · have hl2 : 0 < (l.length : Int) := by omega
    cases hN : okN l <;> cases s
    all_goals
      refine fn_enter tabOK mixes Try.func103 rfl rfl _ Try.ntmps103 _ Try.results103 (by simp) fun hwf => ?_
      try simp (config := { maxSteps := 10000000 }) only [go_sem, reduceIte, reduceCtorEq, Nat.reduceEqDiff, Nat.reduceLT, Nat.reduceLeDiff, Nat.reduceAdd, Nat.reduceBEq, Nat.reduceMul, Int.reduceToNat, Int.reduceLE, Int.reduceLT, Int.reduceEq, Int.reduceNeg]
      repeat (refine And.intro (by first | omega | (constructor <;> omega) | kernel_rfl) ?_)
      refine CallW.mk (specNatOk_fn l) ?_
      try simp (config := { maxSteps := 10000000 }) only [go_sem, reduceIte, reduceCtorEq, Nat.reduceEqDiff, Nat.reduceLT, Nat.reduceLeDiff, Nat.reduceAdd, Nat.reduceBEq, Nat.reduceMul, Int.reduceToNat, Int.reduceLE, Int.reduceLT, Int.reduceEq, Int.reduceNeg]
      try simp (config := { maxSteps := 10000000 }) only [go_sem, reduceIte, reduceCtorEq, Nat.reduceEqDiff, Nat.reduceLT, Nat.reduceLeDiff, Nat.reduceAdd, Nat.reduceBEq, Nat.reduceMul, Int.reduceToNat, Int.reduceLE, Int.reduceLT, Int.reduceEq, Int.reduceNeg, hN, hl, hl2]
theorem l02Cap_fn (n : Nat) (hn : nl n ≤ 60) : Fn Try.prog 155 [⟨tInts, natL n⟩] false [⟨tInts, natL n⟩] := by
  have hA : ¬ (60 : Int) < nl n := by omega
  have ht := l02Trim_fn (natL n)
  rw [trimL_natL] at ht
  refine fn_enter tabOK mixes Try.func155 rfl rfl _ Try.ntmps155 _ Try.results155 (by simp) fun hwf => ?_
  try simp (config := { maxSteps := 10000000 }) only [go_sem, reduceIte, reduceCtorEq, Nat.reduceEqDiff, Nat.reduceLT, Nat.reduceLeDiff, Nat.reduceAdd, Nat.reduceBEq, Nat.reduceMul, Int.reduceToNat, Int.reduceLE, Int.reduceLT, Int.reduceEq, Int.reduceNeg]
  repeat (refine And.intro (by first | omega | (constructor <;> omega) | kernel_rfl) ?_)
  refine CallW.mk (ht) ?_
  try simp (config := { maxSteps := 10000000 }) only [go_sem, reduceIte, reduceCtorEq, Nat.reduceEqDiff, Nat.reduceLT, Nat.reduceLeDiff, Nat.reduceAdd, Nat.reduceBEq, Nat.reduceMul, Int.reduceToNat, Int.reduceLE, Int.reduceLT, Int.reduceEq, Int.reduceNeg]
  try simp (config := { maxSteps := 10000000 }) only [go_sem, reduceIte, reduceCtorEq, Nat.reduceEqDiff, Nat.reduceLT, Nat.reduceLeDiff, Nat.reduceAdd, Nat.reduceBEq, Nat.reduceMul, Int.reduceToNat, Int.reduceLE, Int.reduceLT, Int.reduceEq, Int.reduceNeg, hA]
theorem l03Make_fn (s : Bool) (n : Nat) (hn : nl n ≤ 60) : Fn Try.prog 129 [⟨.bool, s⟩, ⟨tInts, natL n⟩] true [⟨tBig, bigD (sgn s n)⟩] := by
  rw [bigD_sgn]
  cases s
  · refine fn_enter tabOK mixes Try.func129 rfl rfl _ Try.ntmps129 _ Try.results129 (by simp) fun hwf => ?_
    try simp (config := { maxSteps := 10000000 }) only [go_sem, reduceIte, reduceCtorEq, Nat.reduceEqDiff, Nat.reduceLT, Nat.reduceLeDiff, Nat.reduceAdd, Nat.reduceBEq, Nat.reduceMul, Int.reduceToNat, Int.reduceLE, Int.reduceLT, Int.reduceEq, Int.reduceNeg]
    repeat (refine And.intro (by first | omega | (constructor <;> omega) | kernel_rfl) ?_)
    refine CallW.mk (l02Cap_fn n hn) ?_
    try simp (config := { maxSteps := 10000000 }) only [go_sem, reduceIte, reduceCtorEq, Nat.reduceEqDiff, Nat.reduceLT, Nat.reduceLeDiff, Nat.reduceAdd, Nat.reduceBEq, Nat.reduceMul, Int.reduceToNat, Int.reduceLE, Int.reduceLT, Int.reduceEq, Int.reduceNeg]
    repeat (refine And.intro (by first | omega | (constructor <;> omega) | kernel_rfl) ?_)
    omega
  · refine fn_enter tabOK mixes Try.func129 rfl rfl _ Try.ntmps129 _ Try.results129 (by simp) fun hwf => ?_
    try simp (config := { maxSteps := 10000000 }) only [go_sem, reduceIte, reduceCtorEq, Nat.reduceEqDiff, Nat.reduceLT, Nat.reduceLeDiff, Nat.reduceAdd, Nat.reduceBEq, Nat.reduceMul, Int.reduceToNat, Int.reduceLE, Int.reduceLT, Int.reduceEq, Int.reduceNeg]
    repeat (refine And.intro (by first | omega | (constructor <;> omega) | kernel_rfl) ?_)
    refine CallW.mk (l02Cap_fn n hn) ?_
    try simp (config := { maxSteps := 10000000 }) only [go_sem, reduceIte, reduceCtorEq, Nat.reduceEqDiff, Nat.reduceLT, Nat.reduceLeDiff, Nat.reduceAdd, Nat.reduceBEq, Nat.reduceMul, Int.reduceToNat, Int.reduceLE, Int.reduceLT, Int.reduceEq, Int.reduceNeg]
    repeat (refine And.intro (by first | omega | (constructor <;> omega) | kernel_rfl) ?_)
    simp only [nlpos]
theorem l03Make_to {s : Bool} {n : Nat} {z : Int} (h : sgn s n = z) (hn : nl n ≤ 60) : Fn Try.prog 129 [⟨.bool, s⟩, ⟨tInts, natL n⟩] true [⟨tBig, bigD z⟩] := h ▸ l03Make_fn s n hn
theorem l03Add_fn (x y : Int) (hx : nl x.natAbs ≤ 59) (hy : nl y.natAbs ≤ 59) : Fn Try.prog 148 [⟨tBig, bigD x⟩, ⟨tBig, bigD y⟩] true [⟨tBig, bigD (x + y)⟩] := by
  have hl := nl_add x.natAbs y.natAbs
  have hl1 := nl_mono (Nat.sub_le x.natAbs y.natAbs)
  have hl2 := nl_mono (Nat.sub_le y.natAbs x.natAbs)
  refine fn_enter tabOK mixes Try.func148 rfl rfl _ Try.ntmps148 _ Try.results148 (by simp) fun hwf => ?_
  try simp (config := { maxSteps := 10000000 }) only [go_sem, reduceIte, reduceCtorEq, Nat.reduceEqDiff, Nat.reduceLT, Nat.reduceLeDiff, Nat.reduceAdd, Nat.reduceBEq, Nat.reduceMul, Int.reduceToNat, Int.reduceLE, Int.reduceLT, Int.reduceEq, Int.reduceNeg]
  refine CondW_b (fun h => ?_) (fun h => ?_)
  · have hs : decide (x < 0) = decide (y < 0) := by simpa using h
    try simp (config := { maxSteps := 10000000 }) only [go_sem, reduceIte, reduceCtorEq, Nat.reduceEqDiff, Nat.reduceLT, Nat.reduceLeDiff, Nat.reduceAdd, Nat.reduceBEq, Nat.reduceMul, Int.reduceToNat, Int.reduceLE, Int.reduceLT, Int.reduceEq, Int.reduceNeg]
    repeat (refine And.intro (by first | omega | (constructor <;> omega) | kernel_rfl) ?_)
    refine CallW.mk (l02Add_fn x.natAbs y.natAbs (by omega) (by omega)) ?_
    try simp (config := { maxSteps := 10000000 }) only [go_sem, reduceIte, reduceCtorEq, Nat.reduceEqDiff, Nat.reduceLT, Nat.reduceLeDiff, Nat.reduceAdd, Nat.reduceBEq, Nat.reduceMul, Int.reduceToNat, Int.reduceLE, Int.reduceLT, Int.reduceEq, Int.reduceNeg]
    repeat (refine And.intro (by first | omega | (constructor <;> omega) | kernel_rfl) ?_)
    refine CallW.mk (l03Make_to (s := decide (x < 0)) (n := x.natAbs + y.natAbs) (z := x + y) (by unfold sgn; by_cases h : x < 0 <;> by_cases h2 : y < 0 <;> simp [h, h2] at hs ⊢ <;> omega) (by omega)) ?_
    try simp (config := { maxSteps := 10000000 }) only [go_sem, reduceIte, reduceCtorEq, Nat.reduceEqDiff, Nat.reduceLT, Nat.reduceLeDiff, Nat.reduceAdd, Nat.reduceBEq, Nat.reduceMul, Int.reduceToNat, Int.reduceLE, Int.reduceLT, Int.reduceEq, Int.reduceNeg]
    kernel_rfl
  · have hs : decide (x < 0) ≠ decide (y < 0) := by simpa using h
    try simp (config := { maxSteps := 10000000 }) only [go_sem, reduceIte, reduceCtorEq, Nat.reduceEqDiff, Nat.reduceLT, Nat.reduceLeDiff, Nat.reduceAdd, Nat.reduceBEq, Nat.reduceMul, Int.reduceToNat, Int.reduceLE, Int.reduceLT, Int.reduceEq, Int.reduceNeg]
    repeat (refine And.intro (by first | omega | (constructor <;> omega) | kernel_rfl) ?_)
    refine CallW.mk (l02Cmp_fn (natL x.natAbs) (natL y.natAbs)) ?_
    try simp (config := { maxSteps := 10000000 }) only [go_sem, reduceIte, reduceCtorEq, Nat.reduceEqDiff, Nat.reduceLT, Nat.reduceLeDiff, Nat.reduceAdd, Nat.reduceBEq, Nat.reduceMul, Int.reduceToNat, Int.reduceLE, Int.reduceLT, Int.reduceEq, Int.reduceNeg]
    refine CondW_dec (fun hc => ?_) (fun hc => ?_)
    · rw [cmpN_ge] at hc
      try simp (config := { maxSteps := 10000000 }) only [go_sem, reduceIte, reduceCtorEq, Nat.reduceEqDiff, Nat.reduceLT, Nat.reduceLeDiff, Nat.reduceAdd, Nat.reduceBEq, Nat.reduceMul, Int.reduceToNat, Int.reduceLE, Int.reduceLT, Int.reduceEq, Int.reduceNeg]
      repeat (refine And.intro (by first | omega | (constructor <;> omega) | kernel_rfl) ?_)
      refine CallW.mk (l02Sub_fn x.natAbs y.natAbs hc (by omega)) ?_
      try simp (config := { maxSteps := 10000000 }) only [go_sem, reduceIte, reduceCtorEq, Nat.reduceEqDiff, Nat.reduceLT, Nat.reduceLeDiff, Nat.reduceAdd, Nat.reduceBEq, Nat.reduceMul, Int.reduceToNat, Int.reduceLE, Int.reduceLT, Int.reduceEq, Int.reduceNeg]
      repeat (refine And.intro (by first | omega | (constructor <;> omega) | kernel_rfl) ?_)
      refine CallW.mk (l03Make_to (s := decide (x < 0)) (n := x.natAbs - y.natAbs) (z := x + y) (by unfold sgn; by_cases h : x < 0 <;> by_cases h2 : y < 0 <;> simp [h, h2] at hs ⊢ <;> omega) (by omega)) ?_
      try simp (config := { maxSteps := 10000000 }) only [go_sem, reduceIte, reduceCtorEq, Nat.reduceEqDiff, Nat.reduceLT, Nat.reduceLeDiff, Nat.reduceAdd, Nat.reduceBEq, Nat.reduceMul, Int.reduceToNat, Int.reduceLE, Int.reduceLT, Int.reduceEq, Int.reduceNeg]
      kernel_rfl
    · rw [cmpN_ge] at hc
      try simp (config := { maxSteps := 10000000 }) only [go_sem, reduceIte, reduceCtorEq, Nat.reduceEqDiff, Nat.reduceLT, Nat.reduceLeDiff, Nat.reduceAdd, Nat.reduceBEq, Nat.reduceMul, Int.reduceToNat, Int.reduceLE, Int.reduceLT, Int.reduceEq, Int.reduceNeg]
      repeat (refine And.intro (by first | omega | (constructor <;> omega) | kernel_rfl) ?_)
      refine CallW.mk (l02Sub_fn y.natAbs x.natAbs (by omega) (by omega)) ?_
      try simp (config := { maxSteps := 10000000 }) only [go_sem, reduceIte, reduceCtorEq, Nat.reduceEqDiff, Nat.reduceLT, Nat.reduceLeDiff, Nat.reduceAdd, Nat.reduceBEq, Nat.reduceMul, Int.reduceToNat, Int.reduceLE, Int.reduceLT, Int.reduceEq, Int.reduceNeg]
      repeat (refine And.intro (by first | omega | (constructor <;> omega) | kernel_rfl) ?_)
      refine CallW.mk (l03Make_to (s := decide (y < 0)) (n := y.natAbs - x.natAbs) (z := x + y) (by unfold sgn; by_cases h : x < 0 <;> by_cases h2 : y < 0 <;> simp [h, h2] at hs ⊢ <;> omega) (by omega)) ?_
      try simp (config := { maxSteps := 10000000 }) only [go_sem, reduceIte, reduceCtorEq, Nat.reduceEqDiff, Nat.reduceLT, Nat.reduceLeDiff, Nat.reduceAdd, Nat.reduceBEq, Nat.reduceMul, Int.reduceToNat, Int.reduceLE, Int.reduceLT, Int.reduceEq, Int.reduceNeg]
      kernel_rfl
theorem l03Cmp_fn (x y : Int) : Fn Try.prog 138 [⟨tBig, bigD x⟩, ⟨tBig, bigD y⟩] false [⟨.int, cmpZ x y⟩] := by
  by_cases hx : x < 0 <;> by_cases hy : y < 0
  · refine fn_enter tabOK mixes Try.func138 rfl rfl _ Try.ntmps138 _ Try.results138 (by simp) fun hwf => ?_
    try simp (config := { maxSteps := 10000000 }) only [go_sem, reduceIte, reduceCtorEq, Nat.reduceEqDiff, Nat.reduceLT, Nat.reduceLeDiff, Nat.reduceAdd, Nat.reduceBEq, Nat.reduceMul, Int.reduceToNat, Int.reduceLE, Int.reduceLT, Int.reduceEq, Int.reduceNeg, hx, hy]
    repeat (refine And.intro (by first | omega | (constructor <;> omega) | kernel_rfl) ?_)
    refine CallW.mk (l02Cmp_fn (natL y.natAbs) (natL x.natAbs)) ?_
    try simp (config := { maxSteps := 10000000 }) only [go_sem, reduceIte, reduceCtorEq, Nat.reduceEqDiff, Nat.reduceLT, Nat.reduceLeDiff, Nat.reduceAdd, Nat.reduceBEq, Nat.reduceMul, Int.reduceToNat, Int.reduceLE, Int.reduceLT, Int.reduceEq, Int.reduceNeg]
    exact cmpZ_nn hx hy
  · refine fn_enter tabOK mixes Try.func138 rfl rfl _ Try.ntmps138 _ Try.results138 (by simp) fun hwf => ?_
    try simp (config := { maxSteps := 10000000 }) only [go_sem, reduceIte, reduceCtorEq, Nat.reduceEqDiff, Nat.reduceLT, Nat.reduceLeDiff, Nat.reduceAdd, Nat.reduceBEq, Nat.reduceMul, Int.reduceToNat, Int.reduceLE, Int.reduceLT, Int.reduceEq, Int.reduceNeg, hx, hy]
    exact (cmpZ_np hx hy).symm
  · refine fn_enter tabOK mixes Try.func138 rfl rfl _ Try.ntmps138 _ Try.results138 (by simp) fun hwf => ?_
    try simp (config := { maxSteps := 10000000 }) only [go_sem, reduceIte, reduceCtorEq, Nat.reduceEqDiff, Nat.reduceLT, Nat.reduceLeDiff, Nat.reduceAdd, Nat.reduceBEq, Nat.reduceMul, Int.reduceToNat, Int.reduceLE, Int.reduceLT, Int.reduceEq, Int.reduceNeg, hx, hy]
    exact (cmpZ_pn hx hy).symm
  · refine fn_enter tabOK mixes Try.func138 rfl rfl _ Try.ntmps138 _ Try.results138 (by simp) fun hwf => ?_
    try simp (config := { maxSteps := 10000000 }) only [go_sem, reduceIte, reduceCtorEq, Nat.reduceEqDiff, Nat.reduceLT, Nat.reduceLeDiff, Nat.reduceAdd, Nat.reduceBEq, Nat.reduceMul, Int.reduceToNat, Int.reduceLE, Int.reduceLT, Int.reduceEq, Int.reduceNeg, hx, hy]
    repeat (refine And.intro (by first | omega | (constructor <;> omega) | kernel_rfl) ?_)
    refine CallW.mk (l02Cmp_fn (natL x.natAbs) (natL y.natAbs)) ?_
    try simp (config := { maxSteps := 10000000 }) only [go_sem, reduceIte, reduceCtorEq, Nat.reduceEqDiff, Nat.reduceLT, Nat.reduceLeDiff, Nat.reduceAdd, Nat.reduceBEq, Nat.reduceMul, Int.reduceToNat, Int.reduceLE, Int.reduceLT, Int.reduceEq, Int.reduceNeg]
    exact cmpZ_pp hx hy
end Go.Proofs.Ytjkbecgenjhaaaa.DW

/-
  Fractions: validity, making.
-/
namespace Go.Proofs.Ytjkbecgenjhaaaa.DW
open Go.RowKit
@[go_sem] theorem oD_s (q : Rat) : oD (some q) = ratD q := (rfl)
@[go_sem] theorem oD_n : oD none = rZ := (rfl)
attribute [go_sem] ratD rZ bZ
theorem one_iff {n : Nat} : ((nl n : Int) = 1 ∧ (dg n 0 : Int) = 1) ↔ n = 1 := by
  constructor
  · rintro ⟨h1, h2⟩
    have := dg_one (b := n) (by omega)
    omega
  · rintro rfl
    have h : nl 1 = 1 := by rw [nl_pos (by decide), show 1 / 1000000000 = 0 from rfl, nl_zero]
    exact ⟨by omega, by have := dg_one h; omega⟩
theorem isOne_fn (n : Nat) : Fn Try.prog 143 [⟨tInts, natL n⟩] false [⟨.bool, decide (n = 1)⟩] := by
  by_cases h1 : (nl n : Int) = 1
  · have hiff := @one_iff n
    refine fn_enter tabOK mixes Try.func143 rfl rfl _ Try.ntmps143 _ Try.results143 (by simp) fun hwf => ?_
    try simp (config := { maxSteps := 10000000 }) only [go_sem, reduceIte, reduceCtorEq, Nat.reduceEqDiff, Nat.reduceLT, Nat.reduceLeDiff, Nat.reduceAdd, Nat.reduceBEq, Nat.reduceMul, Int.reduceToNat, Int.reduceLE, Int.reduceLT, Int.reduceEq, Int.reduceNeg, h1]
    repeat (refine And.intro (by first | omega | (constructor <;> omega) | kernel_rfl) ?_)
    rw [decide_eq_decide]; omega
  · have hn : n ≠ 1 := fun h => h1 (one_iff.2 h).1
    refine fn_enter tabOK mixes Try.func143 rfl rfl _ Try.ntmps143 _ Try.results143 (by simp) fun hwf => ?_
    try simp (config := { maxSteps := 10000000 }) only [go_sem, reduceIte, reduceCtorEq, Nat.reduceEqDiff, Nat.reduceLT, Nat.reduceLeDiff, Nat.reduceAdd, Nat.reduceBEq, Nat.reduceMul, Int.reduceToNat, Int.reduceLE, Int.reduceLT, Int.reduceEq, Int.reduceNeg, h1]
    simp [hn]
theorem l04One_fn (n : Nat) : Fn Try.prog 105 [⟨tInts, natL n⟩] false [⟨.bool, decide (n = 1)⟩] := by
  by_cases h1 : (nl n : Int) = 1
  · have hiff := @one_iff n
    refine fn_enter tabOK mixes Try.func105 rfl rfl _ Try.ntmps105 _ Try.results105 (by simp) fun hwf => ?_
    try simp (config := { maxSteps := 10000000 }) only [go_sem, reduceIte, reduceCtorEq, Nat.reduceEqDiff, Nat.reduceLT, Nat.reduceLeDiff, Nat.reduceAdd, Nat.reduceBEq, Nat.reduceMul, Int.reduceToNat, Int.reduceLE, Int.reduceLT, Int.reduceEq, Int.reduceNeg, h1]
    repeat (refine And.intro (by first | omega | (constructor <;> omega) | kernel_rfl) ?_)
    rw [decide_eq_decide]; omega
  · have hn : n ≠ 1 := fun h => h1 (one_iff.2 h).1
    refine fn_enter tabOK mixes Try.func105 rfl rfl _ Try.ntmps105 _ Try.results105 (by simp) fun hwf => ?_
    try simp (config := { maxSteps := 10000000 }) only [go_sem, reduceIte, reduceCtorEq, Nat.reduceEqDiff, Nat.reduceLT, Nat.reduceLeDiff, Nat.reduceAdd, Nat.reduceBEq, Nat.reduceMul, Int.reduceToNat, Int.reduceLE, Int.reduceLT, Int.reduceEq, Int.reduceNeg, h1]
    simp [hn]
theorem bool_ext' {a b : Bool} (h : a = true ↔ b = true) : a = b := by cases a <;> cases b <;> simp_all
theorem okB_iff {x : DB} : okB x = true ↔ okBP x := by
  constructor
  · intro h; exact Classical.byContradiction fun hn => by rw [okB, bdec_f hn] at h; cases h
  · exact fun h => bdec_t h
theorem okN_iff {l : List Int} : okN l = true ↔ okNP l := by
  constructor
  · intro h; exact Classical.byContradiction fun hn => by rw [okN, bdec_f hn] at h; cases h
  · exact fun h => bdec_t h
theorem okR_eq (x : DB) (d : List Int) : okR (x, d) = (okB x && okN d && !decide ((d.length : Int) = 0) && !decide (24 < (x.2.length : Int)) && !decide (24 < (d.length : Int)) && decide (Nat.gcd (val x.2) (val d) = 1)) := by
  apply bool_ext'
  rw [okR_iff]
  simp only [Bool.and_eq_true, okB_iff, okN_iff, Bool.not_eq_true', decide_eq_false_iff_not, decide_eq_true_eq, and_assoc]
  constructor
  · rintro ⟨h1, h2, h3, h4, h5, h6⟩
    refine ⟨h1, h2, fun h => h3 (List.eq_nil_of_length_eq_zero (by omega)), by omega, by omega, h6⟩
  · rintro ⟨h1, h2, h3, h4, h5, h6⟩
    refine ⟨h1, h2, fun h => h3 (by rw [h]; rfl), by omega, by omega, h6⟩
theorem implRatOk_fn (r : DR) : Fn Try.prog 111 [⟨tRat, r⟩] false [⟨.bool, okR r⟩] := by
  obtain ⟨x, d⟩ := r
  rw [okR_eq]
  cases h1 : okB x
  · refine fn_enter tabOK mixes Try.func111 rfl rfl _ Try.ntmps111 _ Try.results111 (by simp) fun hwf => ?_
    try simp (config := { maxSteps := 10000000 }) only [go_sem, reduceIte, reduceCtorEq, Nat.reduceEqDiff, Nat.reduceLT, Nat.reduceLeDiff, Nat.reduceAdd, Nat.reduceBEq, Nat.reduceMul, Int.reduceToNat, Int.reduceLE, Int.reduceLT, Int.reduceEq, Int.reduceNeg]
    repeat (refine And.intro (by first | omega | (constructor <;> omega) | kernel_rfl) ?_)
    refine CallW.mk (implBigIntOk_fn x) ?_
    try simp (config := { maxSteps := 10000000 }) only [go_sem, reduceIte, reduceCtorEq, Nat.reduceEqDiff, Nat.reduceLT, Nat.reduceLeDiff, Nat.reduceAdd, Nat.reduceBEq, Nat.reduceMul, Int.reduceToNat, Int.reduceLE, Int.reduceLT, Int.reduceEq, Int.reduceNeg]
    try simp (config := { maxSteps := 10000000 }) only [go_sem, reduceIte, reduceCtorEq, Nat.reduceEqDiff, Nat.reduceLT, Nat.reduceLeDiff, Nat.reduceAdd, Nat.reduceBEq, Nat.reduceMul, Int.reduceToNat, Int.reduceLE, Int.reduceLT, Int.reduceEq, Int.reduceNeg, h1]
  cases h2 : okN d
  · refine fn_enter tabOK mixes Try.func111 rfl rfl _ Try.ntmps111 _ Try.results111 (by simp) fun hwf => ?_
    try simp (config := { maxSteps := 10000000 }) only [go_sem, reduceIte, reduceCtorEq, Nat.reduceEqDiff, Nat.reduceLT, Nat.reduceLeDiff, Nat.reduceAdd, Nat.reduceBEq, Nat.reduceMul, Int.reduceToNat, Int.reduceLE, Int.reduceLT, Int.reduceEq, Int.reduceNeg]
    repeat (refine And.intro (by first | omega | (constructor <;> omega) | kernel_rfl) ?_)
    refine CallW.mk (implBigIntOk_fn x) ?_
    try simp (config := { maxSteps := 10000000 }) only [go_sem, reduceIte, reduceCtorEq, Nat.reduceEqDiff, Nat.reduceLT, Nat.reduceLeDiff, Nat.reduceAdd, Nat.reduceBEq, Nat.reduceMul, Int.reduceToNat, Int.reduceLE, Int.reduceLT, Int.reduceEq, Int.reduceNeg]
    try simp (config := { maxSteps := 10000000 }) only [go_sem, reduceIte, reduceCtorEq, Nat.reduceEqDiff, Nat.reduceLT, Nat.reduceLeDiff, Nat.reduceAdd, Nat.reduceBEq, Nat.reduceMul, Int.reduceToNat, Int.reduceLE, Int.reduceLT, Int.reduceEq, Int.reduceNeg, h1]
    repeat (refine And.intro (by first | omega | (constructor <;> omega) | kernel_rfl) ?_)
    refine CallW.mk (implNatOk_fn d) ?_
    try simp (config := { maxSteps := 10000000 }) only [go_sem, reduceIte, reduceCtorEq, Nat.reduceEqDiff, Nat.reduceLT, Nat.reduceLeDiff, Nat.reduceAdd, Nat.reduceBEq, Nat.reduceMul, Int.reduceToNat, Int.reduceLE, Int.reduceLT, Int.reduceEq, Int.reduceNeg]
    try simp (config := { maxSteps := 10000000 }) only [go_sem, reduceIte, reduceCtorEq, Nat.reduceEqDiff, Nat.reduceLT, Nat.reduceLeDiff, Nat.reduceAdd, Nat.reduceBEq, Nat.reduceMul, Int.reduceToNat, Int.reduceLE, Int.reduceLT, Int.reduceEq, Int.reduceNeg, h2]
  by_cases h3 : (d.length : Int) = 0
  · refine fn_enter tabOK mixes Try.func111 rfl rfl _ Try.ntmps111 _ Try.results111 (by simp) fun hwf => ?_
    try simp (config := { maxSteps := 10000000 }) only [go_sem, reduceIte, reduceCtorEq, Nat.reduceEqDiff, Nat.reduceLT, Nat.reduceLeDiff, Nat.reduceAdd, Nat.reduceBEq, Nat.reduceMul, Int.reduceToNat, Int.reduceLE, Int.reduceLT, Int.reduceEq, Int.reduceNeg]
    repeat (refine And.intro (by first | omega | (constructor <;> omega) | kernel_rfl) ?_)
    refine CallW.mk (implBigIntOk_fn x) ?_
    try simp (config := { maxSteps := 10000000 }) only [go_sem, reduceIte, reduceCtorEq, Nat.reduceEqDiff, Nat.reduceLT, Nat.reduceLeDiff, Nat.reduceAdd, Nat.reduceBEq, Nat.reduceMul, Int.reduceToNat, Int.reduceLE, Int.reduceLT, Int.reduceEq, Int.reduceNeg]
    try simp (config := { maxSteps := 10000000 }) only [go_sem, reduceIte, reduceCtorEq, Nat.reduceEqDiff, Nat.reduceLT, Nat.reduceLeDiff, Nat.reduceAdd, Nat.reduceBEq, Nat.reduceMul, Int.reduceToNat, Int.reduceLE, Int.reduceLT, Int.reduceEq, Int.reduceNeg, h1]
    repeat (refine And.intro (by first | omega | (constructor <;> omega) | kernel_rfl) ?_)
    refine CallW.mk (implNatOk_fn d) ?_
    try simp (config := { maxSteps := 10000000 }) only [go_sem, reduceIte, reduceCtorEq, Nat.reduceEqDiff, Nat.reduceLT, Nat.reduceLeDiff, Nat.reduceAdd, Nat.reduceBEq, Nat.reduceMul, Int.reduceToNat, Int.reduceLE, Int.reduceLT, Int.reduceEq, Int.reduceNeg]
    try simp (config := { maxSteps := 10000000 }) only [go_sem, reduceIte, reduceCtorEq, Nat.reduceEqDiff, Nat.reduceLT, Nat.reduceLeDiff, Nat.reduceAdd, Nat.reduceBEq, Nat.reduceMul, Int.reduceToNat, Int.reduceLE, Int.reduceLT, Int.reduceEq, Int.reduceNeg, h2, h3]
  by_cases h4 : 24 < (x.2.length : Int)
  · refine fn_enter tabOK mixes Try.func111 rfl rfl _ Try.ntmps111 _ Try.results111 (by simp) fun hwf => ?_
    try simp (config := { maxSteps := 10000000 }) only [go_sem, reduceIte, reduceCtorEq, Nat.reduceEqDiff, Nat.reduceLT, Nat.reduceLeDiff, Nat.reduceAdd, Nat.reduceBEq, Nat.reduceMul, Int.reduceToNat, Int.reduceLE, Int.reduceLT, Int.reduceEq, Int.reduceNeg]
    repeat (refine And.intro (by first | omega | (constructor <;> omega) | kernel_rfl) ?_)
    refine CallW.mk (implBigIntOk_fn x) ?_
    try simp (config := { maxSteps := 10000000 }) only [go_sem, reduceIte, reduceCtorEq, Nat.reduceEqDiff, Nat.reduceLT, Nat.reduceLeDiff, Nat.reduceAdd, Nat.reduceBEq, Nat.reduceMul, Int.reduceToNat, Int.reduceLE, Int.reduceLT, Int.reduceEq, Int.reduceNeg]
    try simp (config := { maxSteps := 10000000 }) only [go_sem, reduceIte, reduceCtorEq, Nat.reduceEqDiff, Nat.reduceLT, Nat.reduceLeDiff, Nat.reduceAdd, Nat.reduceBEq, Nat.reduceMul, Int.reduceToNat, Int.reduceLE, Int.reduceLT, Int.reduceEq, Int.reduceNeg, h1]
    repeat (refine And.intro (by first | omega | (constructor <;> omega) | kernel_rfl) ?_)
    refine CallW.mk (implNatOk_fn d) ?_
    try simp (config := { maxSteps := 10000000 }) only [go_sem, reduceIte, reduceCtorEq, Nat.reduceEqDiff, Nat.reduceLT, Nat.reduceLeDiff, Nat.reduceAdd, Nat.reduceBEq, Nat.reduceMul, Int.reduceToNat, Int.reduceLE, Int.reduceLT, Int.reduceEq, Int.reduceNeg]
    try simp (config := { maxSteps := 10000000 }) only [go_sem, reduceIte, reduceCtorEq, Nat.reduceEqDiff, Nat.reduceLT, Nat.reduceLeDiff, Nat.reduceAdd, Nat.reduceBEq, Nat.reduceMul, Int.reduceToNat, Int.reduceLE, Int.reduceLT, Int.reduceEq, Int.reduceNeg, h2, h3, h4]
  by_cases h5 : 24 < (d.length : Int)
  · refine fn_enter tabOK mixes Try.func111 rfl rfl _ Try.ntmps111 _ Try.results111 (by simp) fun hwf => ?_
    try simp (config := { maxSteps := 10000000 }) only [go_sem, reduceIte, reduceCtorEq, Nat.reduceEqDiff, Nat.reduceLT, Nat.reduceLeDiff, Nat.reduceAdd, Nat.reduceBEq, Nat.reduceMul, Int.reduceToNat, Int.reduceLE, Int.reduceLT, Int.reduceEq, Int.reduceNeg]
    repeat (refine And.intro (by first | omega | (constructor <;> omega) | kernel_rfl) ?_)
    refine CallW.mk (implBigIntOk_fn x) ?_
    try simp (config := { maxSteps := 10000000 }) only [go_sem, reduceIte, reduceCtorEq, Nat.reduceEqDiff, Nat.reduceLT, Nat.reduceLeDiff, Nat.reduceAdd, Nat.reduceBEq, Nat.reduceMul, Int.reduceToNat, Int.reduceLE, Int.reduceLT, Int.reduceEq, Int.reduceNeg]
    try simp (config := { maxSteps := 10000000 }) only [go_sem, reduceIte, reduceCtorEq, Nat.reduceEqDiff, Nat.reduceLT, Nat.reduceLeDiff, Nat.reduceAdd, Nat.reduceBEq, Nat.reduceMul, Int.reduceToNat, Int.reduceLE, Int.reduceLT, Int.reduceEq, Int.reduceNeg, h1]
    repeat (refine And.intro (by first | omega | (constructor <;> omega) | kernel_rfl) ?_)
    refine CallW.mk (implNatOk_fn d) ?_
    try simp (config := { maxSteps := 10000000 }) only [go_sem, reduceIte, reduceCtorEq, Nat.reduceEqDiff, Nat.reduceLT, Nat.reduceLeDiff, Nat.reduceAdd, Nat.reduceBEq, Nat.reduceMul, Int.reduceToNat, Int.reduceLE, Int.reduceLT, Int.reduceEq, Int.reduceNeg]
    try simp (config := { maxSteps := 10000000 }) only [go_sem, reduceIte, reduceCtorEq, Nat.reduceEqDiff, Nat.reduceLT, Nat.reduceLeDiff, Nat.reduceAdd, Nat.reduceBEq, Nat.reduceMul, Int.reduceToNat, Int.reduceLE, Int.reduceLT, Int.reduceEq, Int.reduceNeg, h2, h3, h4, h5]
  obtain ⟨z, rfl, _⟩ := okBP_iff.1 (okB_iff.1 h1)
  obtain ⟨n, rfl, _⟩ := okNP_iff.1 (okN_iff.1 h2)
  have h1' : okB (decide (z < 0), natL z.natAbs) = true := h1
  have h3' : ¬ (nl n : Int) = 0 := h3
  have h4' : ¬ 24 < (nl z.natAbs : Int) := h4
  have h5' : ¬ 24 < (nl n : Int) := h5
  have hv : val (bigD z).2 = z.natAbs := val_natL _
  rw [hv, val_natL]
  by_cases hn : n = 1
  · refine fn_enter tabOK mixes Try.func111 rfl rfl _ Try.ntmps111 _ Try.results111 (by simp) fun hwf => ?_
    try simp (config := { maxSteps := 10000000 }) only [go_sem, reduceIte, reduceCtorEq, Nat.reduceEqDiff, Nat.reduceLT, Nat.reduceLeDiff, Nat.reduceAdd, Nat.reduceBEq, Nat.reduceMul, Int.reduceToNat, Int.reduceLE, Int.reduceLT, Int.reduceEq, Int.reduceNeg]
    repeat (refine And.intro (by first | omega | (constructor <;> omega) | kernel_rfl) ?_)
    refine CallW.mk (implBigIntOk_fn (bigD z)) ?_
    try simp (config := { maxSteps := 10000000 }) only [go_sem, reduceIte, reduceCtorEq, Nat.reduceEqDiff, Nat.reduceLT, Nat.reduceLeDiff, Nat.reduceAdd, Nat.reduceBEq, Nat.reduceMul, Int.reduceToNat, Int.reduceLE, Int.reduceLT, Int.reduceEq, Int.reduceNeg]
    try simp (config := { maxSteps := 10000000 }) only [go_sem, reduceIte, reduceCtorEq, Nat.reduceEqDiff, Nat.reduceLT, Nat.reduceLeDiff, Nat.reduceAdd, Nat.reduceBEq, Nat.reduceMul, Int.reduceToNat, Int.reduceLE, Int.reduceLT, Int.reduceEq, Int.reduceNeg, h1']
    repeat (refine And.intro (by first | omega | (constructor <;> omega) | kernel_rfl) ?_)
    refine CallW.mk (implNatOk_fn (natL n)) ?_
    try simp (config := { maxSteps := 10000000 }) only [go_sem, reduceIte, reduceCtorEq, Nat.reduceEqDiff, Nat.reduceLT, Nat.reduceLeDiff, Nat.reduceAdd, Nat.reduceBEq, Nat.reduceMul, Int.reduceToNat, Int.reduceLE, Int.reduceLT, Int.reduceEq, Int.reduceNeg]
    try simp (config := { maxSteps := 10000000 }) only [go_sem, reduceIte, reduceCtorEq, Nat.reduceEqDiff, Nat.reduceLT, Nat.reduceLeDiff, Nat.reduceAdd, Nat.reduceBEq, Nat.reduceMul, Int.reduceToNat, Int.reduceLE, Int.reduceLT, Int.reduceEq, Int.reduceNeg, h2, h3', h4', h5']
    repeat (refine And.intro (by first | omega | (constructor <;> omega) | kernel_rfl) ?_)
    refine CallW.mk (isOne_fn n) ?_
    try simp (config := { maxSteps := 10000000 }) only [go_sem, reduceIte, reduceCtorEq, Nat.reduceEqDiff, Nat.reduceLT, Nat.reduceLeDiff, Nat.reduceAdd, Nat.reduceBEq, Nat.reduceMul, Int.reduceToNat, Int.reduceLE, Int.reduceLT, Int.reduceEq, Int.reduceNeg]
    try simp (config := { maxSteps := 10000000 }) only [go_sem, reduceIte, reduceCtorEq, Nat.reduceEqDiff, Nat.reduceLT, Nat.reduceLeDiff, Nat.reduceAdd, Nat.reduceBEq, Nat.reduceMul, Int.reduceToNat, Int.reduceLE, Int.reduceLT, Int.reduceEq, Int.reduceNeg, hn]
    simp
  · refine fn_enter tabOK mixes Try.func111 rfl rfl _ Try.ntmps111 _ Try.results111 (by simp) fun hwf => ?_
    try simp (config := { maxSteps := 10000000 }) only [go_sem, reduceIte, reduceCtorEq, Nat.reduceEqDiff, Nat.reduceLT, Nat.reduceLeDiff, Nat.reduceAdd, Nat.reduceBEq, Nat.reduceMul, Int.reduceToNat, Int.reduceLE, Int.reduceLT, Int.reduceEq, Int.reduceNeg]
    repeat (refine And.intro (by first | omega | (constructor <;> omega) | kernel_rfl) ?_)
    refine CallW.mk (implBigIntOk_fn (bigD z)) ?_
    try simp (config := { maxSteps := 10000000 }) only [go_sem, reduceIte, reduceCtorEq, Nat.reduceEqDiff, Nat.reduceLT, Nat.reduceLeDiff, Nat.reduceAdd, Nat.reduceBEq, Nat.reduceMul, Int.reduceToNat, Int.reduceLE, Int.reduceLT, Int.reduceEq, Int.reduceNeg]
    try simp (config := { maxSteps := 10000000 }) only [go_sem, reduceIte, reduceCtorEq, Nat.reduceEqDiff, Nat.reduceLT, Nat.reduceLeDiff, Nat.reduceAdd, Nat.reduceBEq, Nat.reduceMul, Int.reduceToNat, Int.reduceLE, Int.reduceLT, Int.reduceEq, Int.reduceNeg, h1']
    repeat (refine And.intro (by first | omega | (constructor <;> omega) | kernel_rfl) ?_)
    refine CallW.mk (implNatOk_fn (natL n)) ?_
    try simp (config := { maxSteps := 10000000 }) only [go_sem, reduceIte, reduceCtorEq, Nat.reduceEqDiff, Nat.reduceLT, Nat.reduceLeDiff, Nat.reduceAdd, Nat.reduceBEq, Nat.reduceMul, Int.reduceToNat, Int.reduceLE, Int.reduceLT, Int.reduceEq, Int.reduceNeg]
    try simp (config := { maxSteps := 10000000 }) only [go_sem, reduceIte, reduceCtorEq, Nat.reduceEqDiff, Nat.reduceLT, Nat.reduceLeDiff, Nat.reduceAdd, Nat.reduceBEq, Nat.reduceMul, Int.reduceToNat, Int.reduceLE, Int.reduceLT, Int.reduceEq, Int.reduceNeg, h2, h3', h4', h5']
    repeat (refine And.intro (by first | omega | (constructor <;> omega) | kernel_rfl) ?_)
    refine CallW.mk (isOne_fn n) ?_
    try simp (config := { maxSteps := 10000000 }) only [go_sem, reduceIte, reduceCtorEq, Nat.reduceEqDiff, Nat.reduceLT, Nat.reduceLeDiff, Nat.reduceAdd, Nat.reduceBEq, Nat.reduceMul, Int.reduceToNat, Int.reduceLE, Int.reduceLT, Int.reduceEq, Int.reduceNeg]
    try simp (config := { maxSteps := 10000000 }) only [go_sem, reduceIte, reduceCtorEq, Nat.reduceEqDiff, Nat.reduceLT, Nat.reduceLeDiff, Nat.reduceAdd, Nat.reduceBEq, Nat.reduceMul, Int.reduceToNat, Int.reduceLE, Int.reduceLT, Int.reduceEq, Int.reduceNeg, hn]
    repeat (refine And.intro (by first | omega | (constructor <;> omega) | kernel_rfl) ?_)
    refine CallW.mk (natGcd_fn z.natAbs n (by omega) (by omega)) ?_
    try simp (config := { maxSteps := 10000000 }) only [go_sem, reduceIte, reduceCtorEq, Nat.reduceEqDiff, Nat.reduceLT, Nat.reduceLeDiff, Nat.reduceAdd, Nat.reduceBEq, Nat.reduceMul, Int.reduceToNat, Int.reduceLE, Int.reduceLT, Int.reduceEq, Int.reduceNeg]
    repeat (refine And.intro (by first | omega | (constructor <;> omega) | kernel_rfl) ?_)
    refine CallW.mk (isOne_fn (Nat.gcd z.natAbs n)) ?_
    try simp (config := { maxSteps := 10000000 }) only [go_sem, reduceIte, reduceCtorEq, Nat.reduceEqDiff, Nat.reduceLT, Nat.reduceLeDiff, Nat.reduceAdd, Nat.reduceBEq, Nat.reduceMul, Int.reduceToNat, Int.reduceLE, Int.reduceLT, Int.reduceEq, Int.reduceNeg]
theorem specRatOk_fn (r : DR) : Fn Try.prog 74 [⟨tRat, r⟩] false [⟨.bool, okR r⟩] := by
  obtain ⟨x, d⟩ := r
  rw [okR_eq]
  cases h1 : okB x
  · refine fn_enter tabOK mixes Try.func74 rfl rfl _ Try.ntmps74 _ Try.results74 (by simp) fun hwf => ?_
    try simp (config := { maxSteps := 10000000 }) only [go_sem, reduceIte, reduceCtorEq, Nat.reduceEqDiff, Nat.reduceLT, Nat.reduceLeDiff, Nat.reduceAdd, Nat.reduceBEq, Nat.reduceMul, Int.reduceToNat, Int.reduceLE, Int.reduceLT, Int.reduceEq, Int.reduceNeg]
    repeat (refine And.intro (by first | omega | (constructor <;> omega) | kernel_rfl) ?_)
    refine CallW.mk (specBigIntOk_fn x) ?_
    try simp (config := { maxSteps := 10000000 }) only [go_sem, reduceIte, reduceCtorEq, Nat.reduceEqDiff, Nat.reduceLT, Nat.reduceLeDiff, Nat.reduceAdd, Nat.reduceBEq, Nat.reduceMul, Int.reduceToNat, Int.reduceLE, Int.reduceLT, Int.reduceEq, Int.reduceNeg]
    try simp (config := { maxSteps := 10000000 }) only [go_sem, reduceIte, reduceCtorEq, Nat.reduceEqDiff, Nat.reduceLT, Nat.reduceLeDiff, Nat.reduceAdd, Nat.reduceBEq, Nat.reduceMul, Int.reduceToNat, Int.reduceLE, Int.reduceLT, Int.reduceEq, Int.reduceNeg, h1]
  cases h2 : okN d
  · refine fn_enter tabOK mixes Try.func74 rfl rfl _ Try.ntmps74 _ Try.results74 (by simp) fun hwf => ?_
    try simp (config := { maxSteps := 10000000 }) only [go_sem, reduceIte, reduceCtorEq, Nat.reduceEqDiff, Nat.reduceLT, Nat.reduceLeDiff, Nat.reduceAdd, Nat.reduceBEq, Nat.reduceMul, Int.reduceToNat, Int.reduceLE, Int.reduceLT, Int.reduceEq, Int.reduceNeg]
    repeat (refine And.intro (by first | omega | (constructor <;> omega) | kernel_rfl) ?_)
    refine CallW.mk (specBigIntOk_fn x) ?_
    try simp (config := { maxSteps := 10000000 }) only [go_sem, reduceIte, reduceCtorEq, Nat.reduceEqDiff, Nat.reduceLT, Nat.reduceLeDiff, Nat.reduceAdd, Nat.reduceBEq, Nat.reduceMul, Int.reduceToNat, Int.reduceLE, Int.reduceLT, Int.reduceEq, Int.reduceNeg]
    try simp (config := { maxSteps := 10000000 }) only [go_sem, reduceIte, reduceCtorEq, Nat.reduceEqDiff, Nat.reduceLT, Nat.reduceLeDiff, Nat.reduceAdd, Nat.reduceBEq, Nat.reduceMul, Int.reduceToNat, Int.reduceLE, Int.reduceLT, Int.reduceEq, Int.reduceNeg, h1]
    repeat (refine And.intro (by first | omega | (constructor <;> omega) | kernel_rfl) ?_)
    refine CallW.mk (specNatOk_fn d) ?_
    try simp (config := { maxSteps := 10000000 }) only [go_sem, reduceIte, reduceCtorEq, Nat.reduceEqDiff, Nat.reduceLT, Nat.reduceLeDiff, Nat.reduceAdd, Nat.reduceBEq, Nat.reduceMul, Int.reduceToNat, Int.reduceLE, Int.reduceLT, Int.reduceEq, Int.reduceNeg]
    try simp (config := { maxSteps := 10000000 }) only [go_sem, reduceIte, reduceCtorEq, Nat.reduceEqDiff, Nat.reduceLT, Nat.reduceLeDiff, Nat.reduceAdd, Nat.reduceBEq, Nat.reduceMul, Int.reduceToNat, Int.reduceLE, Int.reduceLT, Int.reduceEq, Int.reduceNeg, h2]
  by_cases h3 : (d.length : Int) = 0
  · refine fn_enter tabOK mixes Try.func74 rfl rfl _ Try.ntmps74 _ Try.results74 (by simp) fun hwf => ?_
    try simp (config := { maxSteps := 10000000 }) only [go_sem, reduceIte, reduceCtorEq, Nat.reduceEqDiff, Nat.reduceLT, Nat.reduceLeDiff, Nat.reduceAdd, Nat.reduceBEq, Nat.reduceMul, Int.reduceToNat, Int.reduceLE, Int.reduceLT, Int.reduceEq, Int.reduceNeg]
    repeat (refine And.intro (by first | omega | (constructor <;> omega) | kernel_rfl) ?_)
    refine CallW.mk (specBigIntOk_fn x) ?_
    try simp (config := { maxSteps := 10000000 }) only [go_sem, reduceIte, reduceCtorEq, Nat.reduceEqDiff, Nat.reduceLT, Nat.reduceLeDiff, Nat.reduceAdd, Nat.reduceBEq, Nat.reduceMul, Int.reduceToNat, Int.reduceLE, Int.reduceLT, Int.reduceEq, Int.reduceNeg]
    try simp (config := { maxSteps := 10000000 }) only [go_sem, reduceIte, reduceCtorEq, Nat.reduceEqDiff, Nat.reduceLT, Nat.reduceLeDiff, Nat.reduceAdd, Nat.reduceBEq, Nat.reduceMul, Int.reduceToNat, Int.reduceLE, Int.reduceLT, Int.reduceEq, Int.reduceNeg, h1]
    repeat (refine And.intro (by first | omega | (constructor <;> omega) | kernel_rfl) ?_)
    refine CallW.mk (specNatOk_fn d) ?_
    try simp (config := { maxSteps := 10000000 }) only [go_sem, reduceIte, reduceCtorEq, Nat.reduceEqDiff, Nat.reduceLT, Nat.reduceLeDiff, Nat.reduceAdd, Nat.reduceBEq, Nat.reduceMul, Int.reduceToNat, Int.reduceLE, Int.reduceLT, Int.reduceEq, Int.reduceNeg]
    try simp (config := { maxSteps := 10000000 }) only [go_sem, reduceIte, reduceCtorEq, Nat.reduceEqDiff, Nat.reduceLT, Nat.reduceLeDiff, Nat.reduceAdd, Nat.reduceBEq, Nat.reduceMul, Int.reduceToNat, Int.reduceLE, Int.reduceLT, Int.reduceEq, Int.reduceNeg, h2, h3]
  by_cases h5 : 24 < (d.length : Int)
  · refine fn_enter tabOK mixes Try.func74 rfl rfl _ Try.ntmps74 _ Try.results74 (by simp) fun hwf => ?_
    try simp (config := { maxSteps := 10000000 }) only [go_sem, reduceIte, reduceCtorEq, Nat.reduceEqDiff, Nat.reduceLT, Nat.reduceLeDiff, Nat.reduceAdd, Nat.reduceBEq, Nat.reduceMul, Int.reduceToNat, Int.reduceLE, Int.reduceLT, Int.reduceEq, Int.reduceNeg]
    repeat (refine And.intro (by first | omega | (constructor <;> omega) | kernel_rfl) ?_)
    refine CallW.mk (specBigIntOk_fn x) ?_
    try simp (config := { maxSteps := 10000000 }) only [go_sem, reduceIte, reduceCtorEq, Nat.reduceEqDiff, Nat.reduceLT, Nat.reduceLeDiff, Nat.reduceAdd, Nat.reduceBEq, Nat.reduceMul, Int.reduceToNat, Int.reduceLE, Int.reduceLT, Int.reduceEq, Int.reduceNeg]
    try simp (config := { maxSteps := 10000000 }) only [go_sem, reduceIte, reduceCtorEq, Nat.reduceEqDiff, Nat.reduceLT, Nat.reduceLeDiff, Nat.reduceAdd, Nat.reduceBEq, Nat.reduceMul, Int.reduceToNat, Int.reduceLE, Int.reduceLT, Int.reduceEq, Int.reduceNeg, h1]
    repeat (refine And.intro (by first | omega | (constructor <;> omega) | kernel_rfl) ?_)
    refine CallW.mk (specNatOk_fn d) ?_
    try simp (config := { maxSteps := 10000000 }) only [go_sem, reduceIte, reduceCtorEq, Nat.reduceEqDiff, Nat.reduceLT, Nat.reduceLeDiff, Nat.reduceAdd, Nat.reduceBEq, Nat.reduceMul, Int.reduceToNat, Int.reduceLE, Int.reduceLT, Int.reduceEq, Int.reduceNeg]
    try simp (config := { maxSteps := 10000000 }) only [go_sem, reduceIte, reduceCtorEq, Nat.reduceEqDiff, Nat.reduceLT, Nat.reduceLeDiff, Nat.reduceAdd, Nat.reduceBEq, Nat.reduceMul, Int.reduceToNat, Int.reduceLE, Int.reduceLT, Int.reduceEq, Int.reduceNeg, h2, h3, h5]
  by_cases h4 : 24 < (x.2.length : Int)
  · refine fn_enter tabOK mixes Try.func74 rfl rfl _ Try.ntmps74 _ Try.results74 (by simp) fun hwf => ?_
    try simp (config := { maxSteps := 10000000 }) only [go_sem, reduceIte, reduceCtorEq, Nat.reduceEqDiff, Nat.reduceLT, Nat.reduceLeDiff, Nat.reduceAdd, Nat.reduceBEq, Nat.reduceMul, Int.reduceToNat, Int.reduceLE, Int.reduceLT, Int.reduceEq, Int.reduceNeg]
    repeat (refine And.intro (by first | omega | (constructor <;> omega) | kernel_rfl) ?_)
    refine CallW.mk (specBigIntOk_fn x) ?_
    try simp (config := { maxSteps := 10000000 }) only [go_sem, reduceIte, reduceCtorEq, Nat.reduceEqDiff, Nat.reduceLT, Nat.reduceLeDiff, Nat.reduceAdd, Nat.reduceBEq, Nat.reduceMul, Int.reduceToNat, Int.reduceLE, Int.reduceLT, Int.reduceEq, Int.reduceNeg]
    try simp (config := { maxSteps := 10000000 }) only [go_sem, reduceIte, reduceCtorEq, Nat.reduceEqDiff, Nat.reduceLT, Nat.reduceLeDiff, Nat.reduceAdd, Nat.reduceBEq, Nat.reduceMul, Int.reduceToNat, Int.reduceLE, Int.reduceLT, Int.reduceEq, Int.reduceNeg, h1]
    repeat (refine And.intro (by first | omega | (constructor <;> omega) | kernel_rfl) ?_)
    refine CallW.mk (specNatOk_fn d) ?_
    try simp (config := { maxSteps := 10000000 }) only [go_sem, reduceIte, reduceCtorEq, Nat.reduceEqDiff, Nat.reduceLT, Nat.reduceLeDiff, Nat.reduceAdd, Nat.reduceBEq, Nat.reduceMul, Int.reduceToNat, Int.reduceLE, Int.reduceLT, Int.reduceEq, Int.reduceNeg]
    try simp (config := { maxSteps := 10000000 }) only [go_sem, reduceIte, reduceCtorEq, Nat.reduceEqDiff, Nat.reduceLT, Nat.reduceLeDiff, Nat.reduceAdd, Nat.reduceBEq, Nat.reduceMul, Int.reduceToNat, Int.reduceLE, Int.reduceLT, Int.reduceEq, Int.reduceNeg, h2, h3, h5, h4]
  obtain ⟨z, rfl, _⟩ := okBP_iff.1 (okB_iff.1 h1)
  obtain ⟨n, rfl, _⟩ := okNP_iff.1 (okN_iff.1 h2)
  have h1' : okB (decide (z < 0), natL z.natAbs) = true := h1
  have h3' : ¬ (nl n : Int) = 0 := h3
  have h4' : ¬ 24 < (nl z.natAbs : Int) := h4
  have h5' : ¬ 24 < (nl n : Int) := h5
  have hv : val (bigD z).2 = z.natAbs := val_natL _
  rw [hv, val_natL]
  refine fn_enter tabOK mixes Try.func74 rfl rfl _ Try.ntmps74 _ Try.results74 (by simp) fun hwf => ?_
  try simp (config := { maxSteps := 10000000 }) only [go_sem, reduceIte, reduceCtorEq, Nat.reduceEqDiff, Nat.reduceLT, Nat.reduceLeDiff, Nat.reduceAdd, Nat.reduceBEq, Nat.reduceMul, Int.reduceToNat, Int.reduceLE, Int.reduceLT, Int.reduceEq, Int.reduceNeg]
  repeat (refine And.intro (by first | omega | (constructor <;> omega) | kernel_rfl) ?_)
  refine CallW.mk (specBigIntOk_fn (bigD z)) ?_
  try simp (config := { maxSteps := 10000000 }) only [go_sem, reduceIte, reduceCtorEq, Nat.reduceEqDiff, Nat.reduceLT, Nat.reduceLeDiff, Nat.reduceAdd, Nat.reduceBEq, Nat.reduceMul, Int.reduceToNat, Int.reduceLE, Int.reduceLT, Int.reduceEq, Int.reduceNeg]
  try simp (config := { maxSteps := 10000000 }) only [go_sem, reduceIte, reduceCtorEq, Nat.reduceEqDiff, Nat.reduceLT, Nat.reduceLeDiff, Nat.reduceAdd, Nat.reduceBEq, Nat.reduceMul, Int.reduceToNat, Int.reduceLE, Int.reduceLT, Int.reduceEq, Int.reduceNeg, h1']
  repeat (refine And.intro (by first | omega | (constructor <;> omega) | kernel_rfl) ?_)
  refine CallW.mk (specNatOk_fn (natL n)) ?_
  try simp (config := { maxSteps := 10000000 }) only [go_sem, reduceIte, reduceCtorEq, Nat.reduceEqDiff, Nat.reduceLT, Nat.reduceLeDiff, Nat.reduceAdd, Nat.reduceBEq, Nat.reduceMul, Int.reduceToNat, Int.reduceLE, Int.reduceLT, Int.reduceEq, Int.reduceNeg]
  try simp (config := { maxSteps := 10000000 }) only [go_sem, reduceIte, reduceCtorEq, Nat.reduceEqDiff, Nat.reduceLT, Nat.reduceLeDiff, Nat.reduceAdd, Nat.reduceBEq, Nat.reduceMul, Int.reduceToNat, Int.reduceLE, Int.reduceLT, Int.reduceEq, Int.reduceNeg, h2, h3', h4', h5']
  repeat (refine And.intro (by first | omega | (constructor <;> omega) | kernel_rfl) ?_)
  refine CallW.mk (l02Gcd_fn z.natAbs n (by omega) (by omega)) ?_
  try simp (config := { maxSteps := 10000000 }) only [go_sem, reduceIte, reduceCtorEq, Nat.reduceEqDiff, Nat.reduceLT, Nat.reduceLeDiff, Nat.reduceAdd, Nat.reduceBEq, Nat.reduceMul, Int.reduceToNat, Int.reduceLE, Int.reduceLT, Int.reduceEq, Int.reduceNeg]
  repeat (refine And.intro (by first | omega | (constructor <;> omega) | kernel_rfl) ?_)
  refine CallW.mk (l04One_fn (Nat.gcd z.natAbs n)) ?_
  try simp (config := { maxSteps := 10000000 }) only [go_sem, reduceIte, reduceCtorEq, Nat.reduceEqDiff, Nat.reduceLT, Nat.reduceLeDiff, Nat.reduceAdd, Nat.reduceBEq, Nat.reduceMul, Int.reduceToNat, Int.reduceLE, Int.reduceLT, Int.reduceEq, Int.reduceNeg]
theorem isGood_fn (x : Option Rat) : Fn Try.prog 112 [⟨tRat, oD x⟩] false [⟨.bool, x.isSome⟩] := by
  cases x with
  | none =>
    refine fn_enter tabOK mixes Try.func112 rfl rfl _ Try.ntmps112 _ Try.results112 (by simp) fun hwf => ?_
    try simp (config := { maxSteps := 10000000 }) only [go_sem, reduceIte, reduceCtorEq, Nat.reduceEqDiff, Nat.reduceLT, Nat.reduceLeDiff, Nat.reduceAdd, Nat.reduceBEq, Nat.reduceMul, Int.reduceToNat, Int.reduceLE, Int.reduceLT, Int.reduceEq, Int.reduceNeg]
    rfl
  | some q =>
    have h : (0 : Int) < nl q.den := nlpos.2 (den_pos' q)
    refine fn_enter tabOK mixes Try.func112 rfl rfl _ Try.ntmps112 _ Try.results112 (by simp) fun hwf => ?_
    try simp (config := { maxSteps := 10000000 }) only [go_sem, reduceIte, reduceCtorEq, Nat.reduceEqDiff, Nat.reduceLT, Nat.reduceLeDiff, Nat.reduceAdd, Nat.reduceBEq, Nat.reduceMul, Int.reduceToNat, Int.reduceLE, Int.reduceLT, Int.reduceEq, Int.reduceNeg, h]
end Go.Proofs.Ytjkbecgenjhaaaa.DW

/-
  Fractions: making, sums, products, comparisons, of the program.
-/
namespace Go.Proofs.Ytjkbecgenjhaaaa.DW
open Go.RowKit
theorem bigD_ok (z : Int) : Fn Try.prog 170 [⟨tBig, bigD z⟩] false [⟨tBig, bigD (-z)⟩] := bigNeg_fn z
theorem capR_data {q : Rat} (h : small q) : oD (capR q) = ((decide (q.num < 0), natL q.num.natAbs), natL q.den) := by rw [capR_s h]; rfl
theorem capR_none {q : Rat} (h : ¬ small q) : oD (capR q) = ((false, []), []) := by rw [capR_n h]; rfl
/-- A number as a positive integer. -/
theorem bigMulN_fn (x : Int) (n : Nat) (hx : nl x.natAbs ≤ 10000) (hy : nl n ≤ 10000) : Fn Try.prog 114 [⟨tBig, bigD x⟩, ⟨tBig, (false, natL n)⟩] false [⟨tBig, bigD (x * n)⟩] := by
  have := bigMul_fn x n hx (by simpa using hy)
  rw [bigD_nat] at this
  exact this
theorem ratMake_end (z : Int) (n : Nat) (hn : n ≠ 0) (hz : nl z.natAbs ≤ 10000) (hnl : nl n ≤ 10000) : Fn Try.prog 169 [⟨tBig, bigD z⟩, ⟨tInts, natL n⟩] true [⟨tRat, oD (capR (_root_.mkRat z n))⟩] := by
  obtain ⟨m1, m2, m3⟩ := mk_abs (z := z) hn
  generalize hq : _root_.mkRat z n = q at *
  have hg0 : 0 < Nat.gcd z.natAbs n := Nat.gcd_pos_of_pos_right _ (Nat.pos_of_ne_zero hn)
  have hl1 := nl_mono (Nat.div_le_self z.natAbs (Nat.gcd z.natAbs n))
  have hl2 := nl_mono (Nat.div_le_self n (Nat.gcd z.natAbs n))
  have hl3 := nl_mono (Nat.gcd_le_right z.natAbs (Nat.pos_of_ne_zero hn))
  rw [← m1] at hl1
  rw [← m2] at hl2
  have hpath : (decide (n = 1) = true ∧ z.natAbs = q.num.natAbs ∧ n = q.den) ∨ (decide (n = 1) = false ∧ decide (Nat.gcd z.natAbs n = 1) = true ∧ z.natAbs = q.num.natAbs ∧ n = q.den) ∨ (decide (n = 1) = false ∧ decide (Nat.gcd z.natAbs n = 1) = false) := by
    by_cases h1 : n = 1
    · refine .inl ⟨decide_eq_true h1, ?_, ?_⟩
      · rw [m1, h1, Nat.gcd_one_right, Nat.div_one]
      · rw [m2, h1, Nat.gcd_one_right, Nat.div_one]
    · by_cases h2 : Nat.gcd z.natAbs n = 1
      · exact .inr (.inl ⟨decide_eq_false h1, decide_eq_true h2, by rw [m1, h2, Nat.div_one], by rw [m2, h2, Nat.div_one]⟩)
      · exact .inr (.inr ⟨decide_eq_false h1, decide_eq_false h2⟩)
  have hcn := clone_fn (natL q.den) (by show nl q.den ≤ 1000000; omega)
  have hob : small q → Fn Try.prog 174 [⟨tBig, (decide (z < 0), natL q.num.natAbs)⟩] true [⟨tBig, (decide (z < 0), natL q.num.natAbs)⟩] := fun hs => by
    have := ownBig_fn q.num (by have := hs.1; omega)
    unfold bigD at this
    rw [m3] at this
    exact this
  have hend : small q ∨ (24 : Int) < nl q.num.natAbs ∨ (¬ (24 : Int) < nl q.num.natAbs ∧ (24 : Int) < nl q.den) := by unfold small; omega
  rcases hpath with ⟨hd, e1, e2⟩ | ⟨hd, hd2, e1, e2⟩ | ⟨hd, hd2⟩
  · rcases hend with hs | hA | ⟨hA, hB⟩
    · rw [capR_data hs, m3]
      have hA : ¬ (24 : Int) < nl q.num.natAbs := by have := hs.1; omega
      have hB : ¬ (24 : Int) < nl q.den := by have := hs.2; omega
      have hob := hob hs
      rw [← e1] at hA hob; rw [← e2] at hB hcn; rw [← e1, ← e2]
      refine fn_enter tabOK mixes Try.func169 rfl rfl _ Try.ntmps169 _ Try.results169 (by simp) fun hwf => ?_
      try simp (config := { maxSteps := 10000000 }) only [go_sem, reduceIte, reduceCtorEq, Nat.reduceEqDiff, Nat.reduceLT, Nat.reduceLeDiff, Nat.reduceAdd, Nat.reduceBEq, Nat.reduceMul, Int.reduceToNat, Int.reduceLE, Int.reduceLT, Int.reduceEq, Int.reduceNeg]
      repeat (refine And.intro (by first | omega | (constructor <;> omega) | kernel_rfl) ?_)
      refine CallW.mk (isOne_fn n) ?_
      try simp (config := { maxSteps := 10000000 }) only [go_sem, reduceIte, reduceCtorEq, Nat.reduceEqDiff, Nat.reduceLT, Nat.reduceLeDiff, Nat.reduceAdd, Nat.reduceBEq, Nat.reduceMul, Int.reduceToNat, Int.reduceLE, Int.reduceLT, Int.reduceEq, Int.reduceNeg]
      try simp (config := { maxSteps := 10000000 }) only [go_sem, reduceIte, reduceCtorEq, Nat.reduceEqDiff, Nat.reduceLT, Nat.reduceLeDiff, Nat.reduceAdd, Nat.reduceBEq, Nat.reduceMul, Int.reduceToNat, Int.reduceLE, Int.reduceLT, Int.reduceEq, Int.reduceNeg, hd, hA, hB]
      repeat (refine And.intro (by first | omega | (constructor <;> omega) | kernel_rfl) ?_)
      refine CallW.mk (hob) ?_
      try simp (config := { maxSteps := 10000000 }) only [go_sem, reduceIte, reduceCtorEq, Nat.reduceEqDiff, Nat.reduceLT, Nat.reduceLeDiff, Nat.reduceAdd, Nat.reduceBEq, Nat.reduceMul, Int.reduceToNat, Int.reduceLE, Int.reduceLT, Int.reduceEq, Int.reduceNeg]
      repeat (refine And.intro (by first | omega | (constructor <;> omega) | kernel_rfl) ?_)
      refine CallW.mk (hcn) ?_
      try simp (config := { maxSteps := 10000000 }) only [go_sem, reduceIte, reduceCtorEq, Nat.reduceEqDiff, Nat.reduceLT, Nat.reduceLeDiff, Nat.reduceAdd, Nat.reduceBEq, Nat.reduceMul, Int.reduceToNat, Int.reduceLE, Int.reduceLT, Int.reduceEq, Int.reduceNeg]
    · rw [capR_none (by unfold small; omega)]
      rw [← e1] at hA
      refine fn_enter tabOK mixes Try.func169 rfl rfl _ Try.ntmps169 _ Try.results169 (by simp) fun hwf => ?_
      try simp (config := { maxSteps := 10000000 }) only [go_sem, reduceIte, reduceCtorEq, Nat.reduceEqDiff, Nat.reduceLT, Nat.reduceLeDiff, Nat.reduceAdd, Nat.reduceBEq, Nat.reduceMul, Int.reduceToNat, Int.reduceLE, Int.reduceLT, Int.reduceEq, Int.reduceNeg]
      repeat (refine And.intro (by first | omega | (constructor <;> omega) | kernel_rfl) ?_)
      refine CallW.mk (isOne_fn n) ?_
      try simp (config := { maxSteps := 10000000 }) only [go_sem, reduceIte, reduceCtorEq, Nat.reduceEqDiff, Nat.reduceLT, Nat.reduceLeDiff, Nat.reduceAdd, Nat.reduceBEq, Nat.reduceMul, Int.reduceToNat, Int.reduceLE, Int.reduceLT, Int.reduceEq, Int.reduceNeg]
      try simp (config := { maxSteps := 10000000 }) only [go_sem, reduceIte, reduceCtorEq, Nat.reduceEqDiff, Nat.reduceLT, Nat.reduceLeDiff, Nat.reduceAdd, Nat.reduceBEq, Nat.reduceMul, Int.reduceToNat, Int.reduceLE, Int.reduceLT, Int.reduceEq, Int.reduceNeg, hd, hA]
    · rw [capR_none (by unfold small; omega)]
      rw [← e1] at hA; rw [← e2] at hB
      refine fn_enter tabOK mixes Try.func169 rfl rfl _ Try.ntmps169 _ Try.results169 (by simp) fun hwf => ?_
      try simp (config := { maxSteps := 10000000 }) only [go_sem, reduceIte, reduceCtorEq, Nat.reduceEqDiff, Nat.reduceLT, Nat.reduceLeDiff, Nat.reduceAdd, Nat.reduceBEq, Nat.reduceMul, Int.reduceToNat, Int.reduceLE, Int.reduceLT, Int.reduceEq, Int.reduceNeg]
      repeat (refine And.intro (by first | omega | (constructor <;> omega) | kernel_rfl) ?_)
      refine CallW.mk (isOne_fn n) ?_
      try simp (config := { maxSteps := 10000000 }) only [go_sem, reduceIte, reduceCtorEq, Nat.reduceEqDiff, Nat.reduceLT, Nat.reduceLeDiff, Nat.reduceAdd, Nat.reduceBEq, Nat.reduceMul, Int.reduceToNat, Int.reduceLE, Int.reduceLT, Int.reduceEq, Int.reduceNeg]
      try simp (config := { maxSteps := 10000000 }) only [go_sem, reduceIte, reduceCtorEq, Nat.reduceEqDiff, Nat.reduceLT, Nat.reduceLeDiff, Nat.reduceAdd, Nat.reduceBEq, Nat.reduceMul, Int.reduceToNat, Int.reduceLE, Int.reduceLT, Int.reduceEq, Int.reduceNeg, hd, hA, hB]
  · rcases hend with hs | hA | ⟨hA, hB⟩
    · rw [capR_data hs, m3]
      have hA : ¬ (24 : Int) < nl q.num.natAbs := by have := hs.1; omega
      have hB : ¬ (24 : Int) < nl q.den := by have := hs.2; omega
      have hob := hob hs
      rw [← e1] at hA hob; rw [← e2] at hB hcn; rw [← e1, ← e2]
      refine fn_enter tabOK mixes Try.func169 rfl rfl _ Try.ntmps169 _ Try.results169 (by simp) fun hwf => ?_
      try simp (config := { maxSteps := 10000000 }) only [go_sem, reduceIte, reduceCtorEq, Nat.reduceEqDiff, Nat.reduceLT, Nat.reduceLeDiff, Nat.reduceAdd, Nat.reduceBEq, Nat.reduceMul, Int.reduceToNat, Int.reduceLE, Int.reduceLT, Int.reduceEq, Int.reduceNeg]
      repeat (refine And.intro (by first | omega | (constructor <;> omega) | kernel_rfl) ?_)
      refine CallW.mk (isOne_fn n) ?_
      try simp (config := { maxSteps := 10000000 }) only [go_sem, reduceIte, reduceCtorEq, Nat.reduceEqDiff, Nat.reduceLT, Nat.reduceLeDiff, Nat.reduceAdd, Nat.reduceBEq, Nat.reduceMul, Int.reduceToNat, Int.reduceLE, Int.reduceLT, Int.reduceEq, Int.reduceNeg]
      try simp (config := { maxSteps := 10000000 }) only [go_sem, reduceIte, reduceCtorEq, Nat.reduceEqDiff, Nat.reduceLT, Nat.reduceLeDiff, Nat.reduceAdd, Nat.reduceBEq, Nat.reduceMul, Int.reduceToNat, Int.reduceLE, Int.reduceLT, Int.reduceEq, Int.reduceNeg, hd]
      repeat (refine And.intro (by first | omega | (constructor <;> omega) | kernel_rfl) ?_)
      refine CallW.mk (natGcd_fn z.natAbs n (by omega) (by omega)) ?_
      try simp (config := { maxSteps := 10000000 }) only [go_sem, reduceIte, reduceCtorEq, Nat.reduceEqDiff, Nat.reduceLT, Nat.reduceLeDiff, Nat.reduceAdd, Nat.reduceBEq, Nat.reduceMul, Int.reduceToNat, Int.reduceLE, Int.reduceLT, Int.reduceEq, Int.reduceNeg]
      repeat (refine And.intro (by first | omega | (constructor <;> omega) | kernel_rfl) ?_)
      refine CallW.mk (isOne_fn (Nat.gcd z.natAbs n)) ?_
      try simp (config := { maxSteps := 10000000 }) only [go_sem, reduceIte, reduceCtorEq, Nat.reduceEqDiff, Nat.reduceLT, Nat.reduceLeDiff, Nat.reduceAdd, Nat.reduceBEq, Nat.reduceMul, Int.reduceToNat, Int.reduceLE, Int.reduceLT, Int.reduceEq, Int.reduceNeg]
      try simp (config := { maxSteps := 10000000 }) only [go_sem, reduceIte, reduceCtorEq, Nat.reduceEqDiff, Nat.reduceLT, Nat.reduceLeDiff, Nat.reduceAdd, Nat.reduceBEq, Nat.reduceMul, Int.reduceToNat, Int.reduceLE, Int.reduceLT, Int.reduceEq, Int.reduceNeg, hd2, hA, hB]
      repeat (refine And.intro (by first | omega | (constructor <;> omega) | kernel_rfl) ?_)
      refine CallW.mk (hob) ?_
      try simp (config := { maxSteps := 10000000 }) only [go_sem, reduceIte, reduceCtorEq, Nat.reduceEqDiff, Nat.reduceLT, Nat.reduceLeDiff, Nat.reduceAdd, Nat.reduceBEq, Nat.reduceMul, Int.reduceToNat, Int.reduceLE, Int.reduceLT, Int.reduceEq, Int.reduceNeg]
      repeat (refine And.intro (by first | omega | (constructor <;> omega) | kernel_rfl) ?_)
      refine CallW.mk (hcn) ?_
      try simp (config := { maxSteps := 10000000 }) only [go_sem, reduceIte, reduceCtorEq, Nat.reduceEqDiff, Nat.reduceLT, Nat.reduceLeDiff, Nat.reduceAdd, Nat.reduceBEq, Nat.reduceMul, Int.reduceToNat, Int.reduceLE, Int.reduceLT, Int.reduceEq, Int.reduceNeg]
    · rw [capR_none (by unfold small; omega)]
      rw [← e1] at hA
      refine fn_enter tabOK mixes Try.func169 rfl rfl _ Try.ntmps169 _ Try.results169 (by simp) fun hwf => ?_
      try simp (config := { maxSteps := 10000000 }) only [go_sem, reduceIte, reduceCtorEq, Nat.reduceEqDiff, Nat.reduceLT, Nat.reduceLeDiff, Nat.reduceAdd, Nat.reduceBEq, Nat.reduceMul, Int.reduceToNat, Int.reduceLE, Int.reduceLT, Int.reduceEq, Int.reduceNeg]
      repeat (refine And.intro (by first | omega | (constructor <;> omega) | kernel_rfl) ?_)
      refine CallW.mk (isOne_fn n) ?_
      try simp (config := { maxSteps := 10000000 }) only [go_sem, reduceIte, reduceCtorEq, Nat.reduceEqDiff, Nat.reduceLT, Nat.reduceLeDiff, Nat.reduceAdd, Nat.reduceBEq, Nat.reduceMul, Int.reduceToNat, Int.reduceLE, Int.reduceLT, Int.reduceEq, Int.reduceNeg]
      try simp (config := { maxSteps := 10000000 }) only [go_sem, reduceIte, reduceCtorEq, Nat.reduceEqDiff, Nat.reduceLT, Nat.reduceLeDiff, Nat.reduceAdd, Nat.reduceBEq, Nat.reduceMul, Int.reduceToNat, Int.reduceLE, Int.reduceLT, Int.reduceEq, Int.reduceNeg, hd]
      repeat (refine And.intro (by first | omega | (constructor <;> omega) | kernel_rfl) ?_)
      refine CallW.mk (natGcd_fn z.natAbs n (by omega) (by omega)) ?_
      try simp (config := { maxSteps := 10000000 }) only [go_sem, reduceIte, reduceCtorEq, Nat.reduceEqDiff, Nat.reduceLT, Nat.reduceLeDiff, Nat.reduceAdd, Nat.reduceBEq, Nat.reduceMul, Int.reduceToNat, Int.reduceLE, Int.reduceLT, Int.reduceEq, Int.reduceNeg]
      repeat (refine And.intro (by first | omega | (constructor <;> omega) | kernel_rfl) ?_)
      refine CallW.mk (isOne_fn (Nat.gcd z.natAbs n)) ?_
      try simp (config := { maxSteps := 10000000 }) only [go_sem, reduceIte, reduceCtorEq, Nat.reduceEqDiff, Nat.reduceLT, Nat.reduceLeDiff, Nat.reduceAdd, Nat.reduceBEq, Nat.reduceMul, Int.reduceToNat, Int.reduceLE, Int.reduceLT, Int.reduceEq, Int.reduceNeg]
      try simp (config := { maxSteps := 10000000 }) only [go_sem, reduceIte, reduceCtorEq, Nat.reduceEqDiff, Nat.reduceLT, Nat.reduceLeDiff, Nat.reduceAdd, Nat.reduceBEq, Nat.reduceMul, Int.reduceToNat, Int.reduceLE, Int.reduceLT, Int.reduceEq, Int.reduceNeg, hd2, hA]
    · rw [capR_none (by unfold small; omega)]
      rw [← e1] at hA; rw [← e2] at hB
      refine fn_enter tabOK mixes Try.func169 rfl rfl _ Try.ntmps169 _ Try.results169 (by simp) fun hwf => ?_
      try simp (config := { maxSteps := 10000000 }) only [go_sem, reduceIte, reduceCtorEq, Nat.reduceEqDiff, Nat.reduceLT, Nat.reduceLeDiff, Nat.reduceAdd, Nat.reduceBEq, Nat.reduceMul, Int.reduceToNat, Int.reduceLE, Int.reduceLT, Int.reduceEq, Int.reduceNeg]
      repeat (refine And.intro (by first | omega | (constructor <;> omega) | kernel_rfl) ?_)
      refine CallW.mk (isOne_fn n) ?_
      try simp (config := { maxSteps := 10000000 }) only [go_sem, reduceIte, reduceCtorEq, Nat.reduceEqDiff, Nat.reduceLT, Nat.reduceLeDiff, Nat.reduceAdd, Nat.reduceBEq, Nat.reduceMul, Int.reduceToNat, Int.reduceLE, Int.reduceLT, Int.reduceEq, Int.reduceNeg]
      try simp (config := { maxSteps := 10000000 }) only [go_sem, reduceIte, reduceCtorEq, Nat.reduceEqDiff, Nat.reduceLT, Nat.reduceLeDiff, Nat.reduceAdd, Nat.reduceBEq, Nat.reduceMul, Int.reduceToNat, Int.reduceLE, Int.reduceLT, Int.reduceEq, Int.reduceNeg, hd]
      repeat (refine And.intro (by first | omega | (constructor <;> omega) | kernel_rfl) ?_)
      refine CallW.mk (natGcd_fn z.natAbs n (by omega) (by omega)) ?_
      try simp (config := { maxSteps := 10000000 }) only [go_sem, reduceIte, reduceCtorEq, Nat.reduceEqDiff, Nat.reduceLT, Nat.reduceLeDiff, Nat.reduceAdd, Nat.reduceBEq, Nat.reduceMul, Int.reduceToNat, Int.reduceLE, Int.reduceLT, Int.reduceEq, Int.reduceNeg]
      repeat (refine And.intro (by first | omega | (constructor <;> omega) | kernel_rfl) ?_)
      refine CallW.mk (isOne_fn (Nat.gcd z.natAbs n)) ?_
      try simp (config := { maxSteps := 10000000 }) only [go_sem, reduceIte, reduceCtorEq, Nat.reduceEqDiff, Nat.reduceLT, Nat.reduceLeDiff, Nat.reduceAdd, Nat.reduceBEq, Nat.reduceMul, Int.reduceToNat, Int.reduceLE, Int.reduceLT, Int.reduceEq, Int.reduceNeg]
      try simp (config := { maxSteps := 10000000 }) only [go_sem, reduceIte, reduceCtorEq, Nat.reduceEqDiff, Nat.reduceLT, Nat.reduceLeDiff, Nat.reduceAdd, Nat.reduceBEq, Nat.reduceMul, Int.reduceToNat, Int.reduceLE, Int.reduceLT, Int.reduceEq, Int.reduceNeg, hd2, hA, hB]
  · rcases hend with hs | hA | ⟨hA, hB⟩
    · rw [capR_data hs, m3]
      have hA : ¬ (24 : Int) < nl q.num.natAbs := by have := hs.1; omega
      have hB : ¬ (24 : Int) < nl q.den := by have := hs.2; omega
      have hob := hob hs
      refine fn_enter tabOK mixes Try.func169 rfl rfl _ Try.ntmps169 _ Try.results169 (by simp) fun hwf => ?_
      try simp (config := { maxSteps := 10000000 }) only [go_sem, reduceIte, reduceCtorEq, Nat.reduceEqDiff, Nat.reduceLT, Nat.reduceLeDiff, Nat.reduceAdd, Nat.reduceBEq, Nat.reduceMul, Int.reduceToNat, Int.reduceLE, Int.reduceLT, Int.reduceEq, Int.reduceNeg]
      repeat (refine And.intro (by first | omega | (constructor <;> omega) | kernel_rfl) ?_)
      refine CallW.mk (isOne_fn n) ?_
      try simp (config := { maxSteps := 10000000 }) only [go_sem, reduceIte, reduceCtorEq, Nat.reduceEqDiff, Nat.reduceLT, Nat.reduceLeDiff, Nat.reduceAdd, Nat.reduceBEq, Nat.reduceMul, Int.reduceToNat, Int.reduceLE, Int.reduceLT, Int.reduceEq, Int.reduceNeg]
      try simp (config := { maxSteps := 10000000 }) only [go_sem, reduceIte, reduceCtorEq, Nat.reduceEqDiff, Nat.reduceLT, Nat.reduceLeDiff, Nat.reduceAdd, Nat.reduceBEq, Nat.reduceMul, Int.reduceToNat, Int.reduceLE, Int.reduceLT, Int.reduceEq, Int.reduceNeg, hd]
      repeat (refine And.intro (by first | omega | (constructor <;> omega) | kernel_rfl) ?_)
      refine CallW.mk (natGcd_fn z.natAbs n (by omega) (by omega)) ?_
      try simp (config := { maxSteps := 10000000 }) only [go_sem, reduceIte, reduceCtorEq, Nat.reduceEqDiff, Nat.reduceLT, Nat.reduceLeDiff, Nat.reduceAdd, Nat.reduceBEq, Nat.reduceMul, Int.reduceToNat, Int.reduceLE, Int.reduceLT, Int.reduceEq, Int.reduceNeg]
      repeat (refine And.intro (by first | omega | (constructor <;> omega) | kernel_rfl) ?_)
      refine CallW.mk (isOne_fn (Nat.gcd z.natAbs n)) ?_
      try simp (config := { maxSteps := 10000000 }) only [go_sem, reduceIte, reduceCtorEq, Nat.reduceEqDiff, Nat.reduceLT, Nat.reduceLeDiff, Nat.reduceAdd, Nat.reduceBEq, Nat.reduceMul, Int.reduceToNat, Int.reduceLE, Int.reduceLT, Int.reduceEq, Int.reduceNeg]
      try simp (config := { maxSteps := 10000000 }) only [go_sem, reduceIte, reduceCtorEq, Nat.reduceEqDiff, Nat.reduceLT, Nat.reduceLeDiff, Nat.reduceAdd, Nat.reduceBEq, Nat.reduceMul, Int.reduceToNat, Int.reduceLE, Int.reduceLT, Int.reduceEq, Int.reduceNeg, hd2]
      have c1 := natDiv_fn z.natAbs (Nat.gcd z.natAbs n) hg0 (by omega) (by omega)
      rw [← m1] at c1
      repeat (refine And.intro (by first | omega | (constructor <;> omega) | kernel_rfl) ?_)
      refine CallW.mk (c1) ?_
      try simp (config := { maxSteps := 10000000 }) only [go_sem, reduceIte, reduceCtorEq, Nat.reduceEqDiff, Nat.reduceLT, Nat.reduceLeDiff, Nat.reduceAdd, Nat.reduceBEq, Nat.reduceMul, Int.reduceToNat, Int.reduceLE, Int.reduceLT, Int.reduceEq, Int.reduceNeg]
      have c2 := natDiv_fn n (Nat.gcd z.natAbs n) hg0 (by omega) (by omega)
      rw [← m2] at c2
      repeat (refine And.intro (by first | omega | (constructor <;> omega) | kernel_rfl) ?_)
      refine CallW.mk (c2) ?_
      try simp (config := { maxSteps := 10000000 }) only [go_sem, reduceIte, reduceCtorEq, Nat.reduceEqDiff, Nat.reduceLT, Nat.reduceLeDiff, Nat.reduceAdd, Nat.reduceBEq, Nat.reduceMul, Int.reduceToNat, Int.reduceLE, Int.reduceLT, Int.reduceEq, Int.reduceNeg]
      try simp (config := { maxSteps := 10000000 }) only [go_sem, reduceIte, reduceCtorEq, Nat.reduceEqDiff, Nat.reduceLT, Nat.reduceLeDiff, Nat.reduceAdd, Nat.reduceBEq, Nat.reduceMul, Int.reduceToNat, Int.reduceLE, Int.reduceLT, Int.reduceEq, Int.reduceNeg, hA, hB]
      repeat (refine And.intro (by first | omega | (constructor <;> omega) | kernel_rfl) ?_)
      refine CallW.mk (hob) ?_
      try simp (config := { maxSteps := 10000000 }) only [go_sem, reduceIte, reduceCtorEq, Nat.reduceEqDiff, Nat.reduceLT, Nat.reduceLeDiff, Nat.reduceAdd, Nat.reduceBEq, Nat.reduceMul, Int.reduceToNat, Int.reduceLE, Int.reduceLT, Int.reduceEq, Int.reduceNeg]
      repeat (refine And.intro (by first | omega | (constructor <;> omega) | kernel_rfl) ?_)
      refine CallW.mk (hcn) ?_
      try simp (config := { maxSteps := 10000000 }) only [go_sem, reduceIte, reduceCtorEq, Nat.reduceEqDiff, Nat.reduceLT, Nat.reduceLeDiff, Nat.reduceAdd, Nat.reduceBEq, Nat.reduceMul, Int.reduceToNat, Int.reduceLE, Int.reduceLT, Int.reduceEq, Int.reduceNeg]
    · rw [capR_none (by unfold small; omega)]
      refine fn_enter tabOK mixes Try.func169 rfl rfl _ Try.ntmps169 _ Try.results169 (by simp) fun hwf => ?_
      try simp (config := { maxSteps := 10000000 }) only [go_sem, reduceIte, reduceCtorEq, Nat.reduceEqDiff, Nat.reduceLT, Nat.reduceLeDiff, Nat.reduceAdd, Nat.reduceBEq, Nat.reduceMul, Int.reduceToNat, Int.reduceLE, Int.reduceLT, Int.reduceEq, Int.reduceNeg]
      repeat (refine And.intro (by first | omega | (constructor <;> omega) | kernel_rfl) ?_)
      refine CallW.mk (isOne_fn n) ?_
      try simp (config := { maxSteps := 10000000 }) only [go_sem, reduceIte, reduceCtorEq, Nat.reduceEqDiff, Nat.reduceLT, Nat.reduceLeDiff, Nat.reduceAdd, Nat.reduceBEq, Nat.reduceMul, Int.reduceToNat, Int.reduceLE, Int.reduceLT, Int.reduceEq, Int.reduceNeg]
      try simp (config := { maxSteps := 10000000 }) only [go_sem, reduceIte, reduceCtorEq, Nat.reduceEqDiff, Nat.reduceLT, Nat.reduceLeDiff, Nat.reduceAdd, Nat.reduceBEq, Nat.reduceMul, Int.reduceToNat, Int.reduceLE, Int.reduceLT, Int.reduceEq, Int.reduceNeg, hd]
      repeat (refine And.intro (by first | omega | (constructor <;> omega) | kernel_rfl) ?_)
      refine CallW.mk (natGcd_fn z.natAbs n (by omega) (by omega)) ?_
      try simp (config := { maxSteps := 10000000 }) only [go_sem, reduceIte, reduceCtorEq, Nat.reduceEqDiff, Nat.reduceLT, Nat.reduceLeDiff, Nat.reduceAdd, Nat.reduceBEq, Nat.reduceMul, Int.reduceToNat, Int.reduceLE, Int.reduceLT, Int.reduceEq, Int.reduceNeg]
      repeat (refine And.intro (by first | omega | (constructor <;> omega) | kernel_rfl) ?_)
      refine CallW.mk (isOne_fn (Nat.gcd z.natAbs n)) ?_
      try simp (config := { maxSteps := 10000000 }) only [go_sem, reduceIte, reduceCtorEq, Nat.reduceEqDiff, Nat.reduceLT, Nat.reduceLeDiff, Nat.reduceAdd, Nat.reduceBEq, Nat.reduceMul, Int.reduceToNat, Int.reduceLE, Int.reduceLT, Int.reduceEq, Int.reduceNeg]
      try simp (config := { maxSteps := 10000000 }) only [go_sem, reduceIte, reduceCtorEq, Nat.reduceEqDiff, Nat.reduceLT, Nat.reduceLeDiff, Nat.reduceAdd, Nat.reduceBEq, Nat.reduceMul, Int.reduceToNat, Int.reduceLE, Int.reduceLT, Int.reduceEq, Int.reduceNeg, hd2]
      have c1 := natDiv_fn z.natAbs (Nat.gcd z.natAbs n) hg0 (by omega) (by omega)
      rw [← m1] at c1
      repeat (refine And.intro (by first | omega | (constructor <;> omega) | kernel_rfl) ?_)
      refine CallW.mk (c1) ?_
      try simp (config := { maxSteps := 10000000 }) only [go_sem, reduceIte, reduceCtorEq, Nat.reduceEqDiff, Nat.reduceLT, Nat.reduceLeDiff, Nat.reduceAdd, Nat.reduceBEq, Nat.reduceMul, Int.reduceToNat, Int.reduceLE, Int.reduceLT, Int.reduceEq, Int.reduceNeg]
      have c2 := natDiv_fn n (Nat.gcd z.natAbs n) hg0 (by omega) (by omega)
      rw [← m2] at c2
      repeat (refine And.intro (by first | omega | (constructor <;> omega) | kernel_rfl) ?_)
      refine CallW.mk (c2) ?_
      try simp (config := { maxSteps := 10000000 }) only [go_sem, reduceIte, reduceCtorEq, Nat.reduceEqDiff, Nat.reduceLT, Nat.reduceLeDiff, Nat.reduceAdd, Nat.reduceBEq, Nat.reduceMul, Int.reduceToNat, Int.reduceLE, Int.reduceLT, Int.reduceEq, Int.reduceNeg]
      try simp (config := { maxSteps := 10000000 }) only [go_sem, reduceIte, reduceCtorEq, Nat.reduceEqDiff, Nat.reduceLT, Nat.reduceLeDiff, Nat.reduceAdd, Nat.reduceBEq, Nat.reduceMul, Int.reduceToNat, Int.reduceLE, Int.reduceLT, Int.reduceEq, Int.reduceNeg, hA]
    · rw [capR_none (by unfold small; omega)]
      refine fn_enter tabOK mixes Try.func169 rfl rfl _ Try.ntmps169 _ Try.results169 (by simp) fun hwf => ?_
      try simp (config := { maxSteps := 10000000 }) only [go_sem, reduceIte, reduceCtorEq, Nat.reduceEqDiff, Nat.reduceLT, Nat.reduceLeDiff, Nat.reduceAdd, Nat.reduceBEq, Nat.reduceMul, Int.reduceToNat, Int.reduceLE, Int.reduceLT, Int.reduceEq, Int.reduceNeg]
      repeat (refine And.intro (by first | omega | (constructor <;> omega) | kernel_rfl) ?_)
      refine CallW.mk (isOne_fn n) ?_
      try simp (config := { maxSteps := 10000000 }) only [go_sem, reduceIte, reduceCtorEq, Nat.reduceEqDiff, Nat.reduceLT, Nat.reduceLeDiff, Nat.reduceAdd, Nat.reduceBEq, Nat.reduceMul, Int.reduceToNat, Int.reduceLE, Int.reduceLT, Int.reduceEq, Int.reduceNeg]
      try simp (config := { maxSteps := 10000000 }) only [go_sem, reduceIte, reduceCtorEq, Nat.reduceEqDiff, Nat.reduceLT, Nat.reduceLeDiff, Nat.reduceAdd, Nat.reduceBEq, Nat.reduceMul, Int.reduceToNat, Int.reduceLE, Int.reduceLT, Int.reduceEq, Int.reduceNeg, hd]
      repeat (refine And.intro (by first | omega | (constructor <;> omega) | kernel_rfl) ?_)
      refine CallW.mk (natGcd_fn z.natAbs n (by omega) (by omega)) ?_
      try simp (config := { maxSteps := 10000000 }) only [go_sem, reduceIte, reduceCtorEq, Nat.reduceEqDiff, Nat.reduceLT, Nat.reduceLeDiff, Nat.reduceAdd, Nat.reduceBEq, Nat.reduceMul, Int.reduceToNat, Int.reduceLE, Int.reduceLT, Int.reduceEq, Int.reduceNeg]
      repeat (refine And.intro (by first | omega | (constructor <;> omega) | kernel_rfl) ?_)
      refine CallW.mk (isOne_fn (Nat.gcd z.natAbs n)) ?_
      try simp (config := { maxSteps := 10000000 }) only [go_sem, reduceIte, reduceCtorEq, Nat.reduceEqDiff, Nat.reduceLT, Nat.reduceLeDiff, Nat.reduceAdd, Nat.reduceBEq, Nat.reduceMul, Int.reduceToNat, Int.reduceLE, Int.reduceLT, Int.reduceEq, Int.reduceNeg]
      try simp (config := { maxSteps := 10000000 }) only [go_sem, reduceIte, reduceCtorEq, Nat.reduceEqDiff, Nat.reduceLT, Nat.reduceLeDiff, Nat.reduceAdd, Nat.reduceBEq, Nat.reduceMul, Int.reduceToNat, Int.reduceLE, Int.reduceLT, Int.reduceEq, Int.reduceNeg, hd2]
      have c1 := natDiv_fn z.natAbs (Nat.gcd z.natAbs n) hg0 (by omega) (by omega)
      rw [← m1] at c1
      repeat (refine And.intro (by first | omega | (constructor <;> omega) | kernel_rfl) ?_)
      refine CallW.mk (c1) ?_
      try simp (config := { maxSteps := 10000000 }) only [go_sem, reduceIte, reduceCtorEq, Nat.reduceEqDiff, Nat.reduceLT, Nat.reduceLeDiff, Nat.reduceAdd, Nat.reduceBEq, Nat.reduceMul, Int.reduceToNat, Int.reduceLE, Int.reduceLT, Int.reduceEq, Int.reduceNeg]
      have c2 := natDiv_fn n (Nat.gcd z.natAbs n) hg0 (by omega) (by omega)
      rw [← m2] at c2
      repeat (refine And.intro (by first | omega | (constructor <;> omega) | kernel_rfl) ?_)
      refine CallW.mk (c2) ?_
      try simp (config := { maxSteps := 10000000 }) only [go_sem, reduceIte, reduceCtorEq, Nat.reduceEqDiff, Nat.reduceLT, Nat.reduceLeDiff, Nat.reduceAdd, Nat.reduceBEq, Nat.reduceMul, Int.reduceToNat, Int.reduceLE, Int.reduceLT, Int.reduceEq, Int.reduceNeg]
      try simp (config := { maxSteps := 10000000 }) only [go_sem, reduceIte, reduceCtorEq, Nat.reduceEqDiff, Nat.reduceLT, Nat.reduceLeDiff, Nat.reduceAdd, Nat.reduceBEq, Nat.reduceMul, Int.reduceToNat, Int.reduceLE, Int.reduceLT, Int.reduceEq, Int.reduceNeg, hA, hB]
theorem sgn_abs (s : Bool) (a : Nat) : (sgn s a).natAbs = a := by unfold sgn; split <;> omega
theorem sgn_neg (s : Bool) (a : Nat) : decide (sgn s a < 0) = (s && decide (0 < a)) := by
  unfold sgn
  cases s
  · simp
  · simp <;> omega
theorem l04Low_fn (s : Bool) (a b : Nat) (hb : b ≠ 0) (ha : nl a ≤ 60) (hbl : nl b ≤ 60) : Fn Try.prog 149 [⟨.bool, s⟩, ⟨tInts, natL a⟩, ⟨tInts, natL b⟩] true [⟨tRat, oD (capR (_root_.mkRat (sgn s a) b))⟩] := by
  obtain ⟨m1, m2, m3⟩ := mk_abs (z := sgn s a) hb
  rw [sgn_abs] at m1 m2
  rw [sgn_neg] at m3
  generalize hq : _root_.mkRat (sgn s a) b = q at *
  have hg0 : 0 < Nat.gcd a b := Nat.gcd_pos_of_pos_right _ (Nat.pos_of_ne_zero hb)
  have hl1 := nl_mono (Nat.div_le_self a (Nat.gcd a b))
  have hl2 := nl_mono (Nat.div_le_self b (Nat.gcd a b))
  have hl3 := nl_mono (Nat.gcd_le_right a (Nat.pos_of_ne_zero hb))
  rw [← m1] at hl1
  rw [← m2] at hl2
  have hb0 : ¬ (nl b : Int) = 0 := fun h => hb (nl_eq_zero.1 (by omega))
  have ht1 := l02Trim_fn (natL a)
  rw [trimL_natL] at ht1
  have ht2 := l02Trim_fn (natL b)
  rw [trimL_natL] at ht2
  have hqs : sgn s q.num.natAbs = q.num := by
    have h1 : (0 < a) → 0 < q.num.natAbs := fun h => by
      rw [m1]; exact Nat.div_pos (Nat.le_of_dvd h (Nat.gcd_dvd_left ..)) hg0
    have h2 : a = 0 → q.num.natAbs = 0 := fun h => by rw [m1, h, Nat.zero_div]
    unfold sgn
    cases s
    · have : ¬ q.num < 0 := by simpa using m3
      simp only [Bool.false_eq_true, if_false]; omega
    · simp only [if_true]
      rcases Nat.eq_zero_or_pos a with h | h
      · have := h2 h; omega
      · have := h1 h
        have : q.num < 0 := by simpa [h] using m3
        omega
  have hpath : (decide (b = 1) = true ∧ a = q.num.natAbs ∧ b = q.den) ∨ (decide (b = 1) = false ∧ decide (Nat.gcd a b = 1) = true ∧ a = q.num.natAbs ∧ b = q.den) ∨ (decide (b = 1) = false ∧ decide (Nat.gcd a b = 1) = false) := by
    by_cases h1 : b = 1
    · refine .inl ⟨decide_eq_true h1, ?_, ?_⟩
      · rw [m1, h1, Nat.gcd_one_right, Nat.div_one]
      · rw [m2, h1, Nat.gcd_one_right, Nat.div_one]
    · by_cases h2 : Nat.gcd a b = 1
      · exact .inr (.inl ⟨decide_eq_false h1, decide_eq_true h2, by rw [m1, h2, Nat.div_one], by rw [m2, h2, Nat.div_one]⟩)
      · exact .inr (.inr ⟨decide_eq_false h1, decide_eq_false h2⟩)
  have hob : small q → Fn Try.prog 129 [⟨.bool, s⟩, ⟨tInts, natL q.num.natAbs⟩] true [⟨tBig, bigD q.num⟩] := fun hs => l03Make_to hqs (by have := hs.1; omega)
  have hend : small q ∨ (24 : Int) < nl q.num.natAbs ∨ (¬ (24 : Int) < nl q.num.natAbs ∧ (24 : Int) < nl q.den) := by unfold small; omega
  rcases hpath with ⟨hd, e1, e2⟩ | ⟨hd, hd2, e1, e2⟩ | ⟨hd, hd2⟩
  · rcases hend with hs | hA | ⟨hA, hB⟩
    · rw [capR_s hs]
      have hA : ¬ (24 : Int) < nl q.num.natAbs := by have := hs.1; omega
      have hB : ¬ (24 : Int) < nl q.den := by have := hs.2; omega
      have hob := hob hs
      rw [← e1] at hA hob; rw [← e2] at hB
      refine fn_enter tabOK mixes Try.func149 rfl rfl _ Try.ntmps149 _ Try.results149 (by simp) fun hwf => ?_
      try simp (config := { maxSteps := 10000000 }) only [go_sem, reduceIte, reduceCtorEq, Nat.reduceEqDiff, Nat.reduceLT, Nat.reduceLeDiff, Nat.reduceAdd, Nat.reduceBEq, Nat.reduceMul, Int.reduceToNat, Int.reduceLE, Int.reduceLT, Int.reduceEq, Int.reduceNeg]
      repeat (refine And.intro (by first | omega | (constructor <;> omega) | kernel_rfl) ?_)
      refine CallW.mk (ht1) ?_
      try simp (config := { maxSteps := 10000000 }) only [go_sem, reduceIte, reduceCtorEq, Nat.reduceEqDiff, Nat.reduceLT, Nat.reduceLeDiff, Nat.reduceAdd, Nat.reduceBEq, Nat.reduceMul, Int.reduceToNat, Int.reduceLE, Int.reduceLT, Int.reduceEq, Int.reduceNeg]
      repeat (refine And.intro (by first | omega | (constructor <;> omega) | kernel_rfl) ?_)
      refine CallW.mk (ht2) ?_
      try simp (config := { maxSteps := 10000000 }) only [go_sem, reduceIte, reduceCtorEq, Nat.reduceEqDiff, Nat.reduceLT, Nat.reduceLeDiff, Nat.reduceAdd, Nat.reduceBEq, Nat.reduceMul, Int.reduceToNat, Int.reduceLE, Int.reduceLT, Int.reduceEq, Int.reduceNeg]
      try simp (config := { maxSteps := 10000000 }) only [go_sem, reduceIte, reduceCtorEq, Nat.reduceEqDiff, Nat.reduceLT, Nat.reduceLeDiff, Nat.reduceAdd, Nat.reduceBEq, Nat.reduceMul, Int.reduceToNat, Int.reduceLE, Int.reduceLT, Int.reduceEq, Int.reduceNeg, hb0]
      repeat (refine And.intro (by first | omega | (constructor <;> omega) | kernel_rfl) ?_)
      refine CallW.mk (l04One_fn b) ?_
      try simp (config := { maxSteps := 10000000 }) only [go_sem, reduceIte, reduceCtorEq, Nat.reduceEqDiff, Nat.reduceLT, Nat.reduceLeDiff, Nat.reduceAdd, Nat.reduceBEq, Nat.reduceMul, Int.reduceToNat, Int.reduceLE, Int.reduceLT, Int.reduceEq, Int.reduceNeg]
      try simp (config := { maxSteps := 10000000 }) only [go_sem, reduceIte, reduceCtorEq, Nat.reduceEqDiff, Nat.reduceLT, Nat.reduceLeDiff, Nat.reduceAdd, Nat.reduceBEq, Nat.reduceMul, Int.reduceToNat, Int.reduceLE, Int.reduceLT, Int.reduceEq, Int.reduceNeg, hd, hA, hB]
      repeat (refine And.intro (by first | omega | (constructor <;> omega) | kernel_rfl) ?_)
      refine CallW.mk (hob) ?_
      try simp (config := { maxSteps := 10000000 }) only [go_sem, reduceIte, reduceCtorEq, Nat.reduceEqDiff, Nat.reduceLT, Nat.reduceLeDiff, Nat.reduceAdd, Nat.reduceBEq, Nat.reduceMul, Int.reduceToNat, Int.reduceLE, Int.reduceLT, Int.reduceEq, Int.reduceNeg]
      repeat (refine And.intro (by first | omega | (constructor <;> omega) | kernel_rfl) ?_)
      try simp (config := { maxSteps := 10000000 }) only [go_sem, reduceIte, reduceCtorEq, Nat.reduceEqDiff, Nat.reduceLT, Nat.reduceLeDiff, Nat.reduceAdd, Nat.reduceBEq, Nat.reduceMul, Int.reduceToNat, Int.reduceLE, Int.reduceLT, Int.reduceEq, Int.reduceNeg, e2]
      try omega
    · rw [capR_none (by unfold small; omega)]
      rw [← e1] at hA
      refine fn_enter tabOK mixes Try.func149 rfl rfl _ Try.ntmps149 _ Try.results149 (by simp) fun hwf => ?_
      try simp (config := { maxSteps := 10000000 }) only [go_sem, reduceIte, reduceCtorEq, Nat.reduceEqDiff, Nat.reduceLT, Nat.reduceLeDiff, Nat.reduceAdd, Nat.reduceBEq, Nat.reduceMul, Int.reduceToNat, Int.reduceLE, Int.reduceLT, Int.reduceEq, Int.reduceNeg]
      repeat (refine And.intro (by first | omega | (constructor <;> omega) | kernel_rfl) ?_)
      refine CallW.mk (ht1) ?_
      try simp (config := { maxSteps := 10000000 }) only [go_sem, reduceIte, reduceCtorEq, Nat.reduceEqDiff, Nat.reduceLT, Nat.reduceLeDiff, Nat.reduceAdd, Nat.reduceBEq, Nat.reduceMul, Int.reduceToNat, Int.reduceLE, Int.reduceLT, Int.reduceEq, Int.reduceNeg]
      repeat (refine And.intro (by first | omega | (constructor <;> omega) | kernel_rfl) ?_)
      refine CallW.mk (ht2) ?_
      try simp (config := { maxSteps := 10000000 }) only [go_sem, reduceIte, reduceCtorEq, Nat.reduceEqDiff, Nat.reduceLT, Nat.reduceLeDiff, Nat.reduceAdd, Nat.reduceBEq, Nat.reduceMul, Int.reduceToNat, Int.reduceLE, Int.reduceLT, Int.reduceEq, Int.reduceNeg]
      try simp (config := { maxSteps := 10000000 }) only [go_sem, reduceIte, reduceCtorEq, Nat.reduceEqDiff, Nat.reduceLT, Nat.reduceLeDiff, Nat.reduceAdd, Nat.reduceBEq, Nat.reduceMul, Int.reduceToNat, Int.reduceLE, Int.reduceLT, Int.reduceEq, Int.reduceNeg, hb0]
      repeat (refine And.intro (by first | omega | (constructor <;> omega) | kernel_rfl) ?_)
      refine CallW.mk (l04One_fn b) ?_
      try simp (config := { maxSteps := 10000000 }) only [go_sem, reduceIte, reduceCtorEq, Nat.reduceEqDiff, Nat.reduceLT, Nat.reduceLeDiff, Nat.reduceAdd, Nat.reduceBEq, Nat.reduceMul, Int.reduceToNat, Int.reduceLE, Int.reduceLT, Int.reduceEq, Int.reduceNeg]
      try simp (config := { maxSteps := 10000000 }) only [go_sem, reduceIte, reduceCtorEq, Nat.reduceEqDiff, Nat.reduceLT, Nat.reduceLeDiff, Nat.reduceAdd, Nat.reduceBEq, Nat.reduceMul, Int.reduceToNat, Int.reduceLE, Int.reduceLT, Int.reduceEq, Int.reduceNeg, hd, hA]
    · rw [capR_none (by unfold small; omega)]
      rw [← e1] at hA; rw [← e2] at hB
      refine fn_enter tabOK mixes Try.func149 rfl rfl _ Try.ntmps149 _ Try.results149 (by simp) fun hwf => ?_
      try simp (config := { maxSteps := 10000000 }) only [go_sem, reduceIte, reduceCtorEq, Nat.reduceEqDiff, Nat.reduceLT, Nat.reduceLeDiff, Nat.reduceAdd, Nat.reduceBEq, Nat.reduceMul, Int.reduceToNat, Int.reduceLE, Int.reduceLT, Int.reduceEq, Int.reduceNeg]
      repeat (refine And.intro (by first | omega | (constructor <;> omega) | kernel_rfl) ?_)
      refine CallW.mk (ht1) ?_
      try simp (config := { maxSteps := 10000000 }) only [go_sem, reduceIte, reduceCtorEq, Nat.reduceEqDiff, Nat.reduceLT, Nat.reduceLeDiff, Nat.reduceAdd, Nat.reduceBEq, Nat.reduceMul, Int.reduceToNat, Int.reduceLE, Int.reduceLT, Int.reduceEq, Int.reduceNeg]
      repeat (refine And.intro (by first | omega | (constructor <;> omega) | kernel_rfl) ?_)
      refine CallW.mk (ht2) ?_
      try simp (config := { maxSteps := 10000000 }) only [go_sem, reduceIte, reduceCtorEq, Nat.reduceEqDiff, Nat.reduceLT, Nat.reduceLeDiff, Nat.reduceAdd, Nat.reduceBEq, Nat.reduceMul, Int.reduceToNat, Int.reduceLE, Int.reduceLT, Int.reduceEq, Int.reduceNeg]
      try simp (config := { maxSteps := 10000000 }) only [go_sem, reduceIte, reduceCtorEq, Nat.reduceEqDiff, Nat.reduceLT, Nat.reduceLeDiff, Nat.reduceAdd, Nat.reduceBEq, Nat.reduceMul, Int.reduceToNat, Int.reduceLE, Int.reduceLT, Int.reduceEq, Int.reduceNeg, hb0]
      repeat (refine And.intro (by first | omega | (constructor <;> omega) | kernel_rfl) ?_)
      refine CallW.mk (l04One_fn b) ?_
      try simp (config := { maxSteps := 10000000 }) only [go_sem, reduceIte, reduceCtorEq, Nat.reduceEqDiff, Nat.reduceLT, Nat.reduceLeDiff, Nat.reduceAdd, Nat.reduceBEq, Nat.reduceMul, Int.reduceToNat, Int.reduceLE, Int.reduceLT, Int.reduceEq, Int.reduceNeg]
      try simp (config := { maxSteps := 10000000 }) only [go_sem, reduceIte, reduceCtorEq, Nat.reduceEqDiff, Nat.reduceLT, Nat.reduceLeDiff, Nat.reduceAdd, Nat.reduceBEq, Nat.reduceMul, Int.reduceToNat, Int.reduceLE, Int.reduceLT, Int.reduceEq, Int.reduceNeg, hd, hA, hB]
  · rcases hend with hs | hA | ⟨hA, hB⟩
    · rw [capR_s hs]
      have hA : ¬ (24 : Int) < nl q.num.natAbs := by have := hs.1; omega
      have hB : ¬ (24 : Int) < nl q.den := by have := hs.2; omega
      have hob := hob hs
      rw [← e1] at hA hob; rw [← e2] at hB
      refine fn_enter tabOK mixes Try.func149 rfl rfl _ Try.ntmps149 _ Try.results149 (by simp) fun hwf => ?_
      try simp (config := { maxSteps := 10000000 }) only [go_sem, reduceIte, reduceCtorEq, Nat.reduceEqDiff, Nat.reduceLT, Nat.reduceLeDiff, Nat.reduceAdd, Nat.reduceBEq, Nat.reduceMul, Int.reduceToNat, Int.reduceLE, Int.reduceLT, Int.reduceEq, Int.reduceNeg]
      repeat (refine And.intro (by first | omega | (constructor <;> omega) | kernel_rfl) ?_)
      refine CallW.mk (ht1) ?_
      try simp (config := { maxSteps := 10000000 }) only [go_sem, reduceIte, reduceCtorEq, Nat.reduceEqDiff, Nat.reduceLT, Nat.reduceLeDiff, Nat.reduceAdd, Nat.reduceBEq, Nat.reduceMul, Int.reduceToNat, Int.reduceLE, Int.reduceLT, Int.reduceEq, Int.reduceNeg]
      repeat (refine And.intro (by first | omega | (constructor <;> omega) | kernel_rfl) ?_)
      refine CallW.mk (ht2) ?_
      try simp (config := { maxSteps := 10000000 }) only [go_sem, reduceIte, reduceCtorEq, Nat.reduceEqDiff, Nat.reduceLT, Nat.reduceLeDiff, Nat.reduceAdd, Nat.reduceBEq, Nat.reduceMul, Int.reduceToNat, Int.reduceLE, Int.reduceLT, Int.reduceEq, Int.reduceNeg]
      try simp (config := { maxSteps := 10000000 }) only [go_sem, reduceIte, reduceCtorEq, Nat.reduceEqDiff, Nat.reduceLT, Nat.reduceLeDiff, Nat.reduceAdd, Nat.reduceBEq, Nat.reduceMul, Int.reduceToNat, Int.reduceLE, Int.reduceLT, Int.reduceEq, Int.reduceNeg, hb0]
      repeat (refine And.intro (by first | omega | (constructor <;> omega) | kernel_rfl) ?_)
      refine CallW.mk (l04One_fn b) ?_
      try simp (config := { maxSteps := 10000000 }) only [go_sem, reduceIte, reduceCtorEq, Nat.reduceEqDiff, Nat.reduceLT, Nat.reduceLeDiff, Nat.reduceAdd, Nat.reduceBEq, Nat.reduceMul, Int.reduceToNat, Int.reduceLE, Int.reduceLT, Int.reduceEq, Int.reduceNeg]
      try simp (config := { maxSteps := 10000000 }) only [go_sem, reduceIte, reduceCtorEq, Nat.reduceEqDiff, Nat.reduceLT, Nat.reduceLeDiff, Nat.reduceAdd, Nat.reduceBEq, Nat.reduceMul, Int.reduceToNat, Int.reduceLE, Int.reduceLT, Int.reduceEq, Int.reduceNeg, hd]
      repeat (refine And.intro (by first | omega | (constructor <;> omega) | kernel_rfl) ?_)
      refine CallW.mk (l02Gcd_fn a b (by omega) (by omega)) ?_
      try simp (config := { maxSteps := 10000000 }) only [go_sem, reduceIte, reduceCtorEq, Nat.reduceEqDiff, Nat.reduceLT, Nat.reduceLeDiff, Nat.reduceAdd, Nat.reduceBEq, Nat.reduceMul, Int.reduceToNat, Int.reduceLE, Int.reduceLT, Int.reduceEq, Int.reduceNeg]
      repeat (refine And.intro (by first | omega | (constructor <;> omega) | kernel_rfl) ?_)
      refine CallW.mk (l04One_fn (Nat.gcd a b)) ?_
      try simp (config := { maxSteps := 10000000 }) only [go_sem, reduceIte, reduceCtorEq, Nat.reduceEqDiff, Nat.reduceLT, Nat.reduceLeDiff, Nat.reduceAdd, Nat.reduceBEq, Nat.reduceMul, Int.reduceToNat, Int.reduceLE, Int.reduceLT, Int.reduceEq, Int.reduceNeg]
      try simp (config := { maxSteps := 10000000 }) only [go_sem, reduceIte, reduceCtorEq, Nat.reduceEqDiff, Nat.reduceLT, Nat.reduceLeDiff, Nat.reduceAdd, Nat.reduceBEq, Nat.reduceMul, Int.reduceToNat, Int.reduceLE, Int.reduceLT, Int.reduceEq, Int.reduceNeg, hd2, hA, hB]
      repeat (refine And.intro (by first | omega | (constructor <;> omega) | kernel_rfl) ?_)
      refine CallW.mk (hob) ?_
      try simp (config := { maxSteps := 10000000 }) only [go_sem, reduceIte, reduceCtorEq, Nat.reduceEqDiff, Nat.reduceLT, Nat.reduceLeDiff, Nat.reduceAdd, Nat.reduceBEq, Nat.reduceMul, Int.reduceToNat, Int.reduceLE, Int.reduceLT, Int.reduceEq, Int.reduceNeg]
      repeat (refine And.intro (by first | omega | (constructor <;> omega) | kernel_rfl) ?_)
      try simp (config := { maxSteps := 10000000 }) only [go_sem, reduceIte, reduceCtorEq, Nat.reduceEqDiff, Nat.reduceLT, Nat.reduceLeDiff, Nat.reduceAdd, Nat.reduceBEq, Nat.reduceMul, Int.reduceToNat, Int.reduceLE, Int.reduceLT, Int.reduceEq, Int.reduceNeg, e2]
      try omega
    · rw [capR_none (by unfold small; omega)]
      rw [← e1] at hA
      refine fn_enter tabOK mixes Try.func149 rfl rfl _ Try.ntmps149 _ Try.results149 (by simp) fun hwf => ?_
      try simp (config := { maxSteps := 10000000 }) only [go_sem, reduceIte, reduceCtorEq, Nat.reduceEqDiff, Nat.reduceLT, Nat.reduceLeDiff, Nat.reduceAdd, Nat.reduceBEq, Nat.reduceMul, Int.reduceToNat, Int.reduceLE, Int.reduceLT, Int.reduceEq, Int.reduceNeg]
      repeat (refine And.intro (by first | omega | (constructor <;> omega) | kernel_rfl) ?_)
      refine CallW.mk (ht1) ?_
      try simp (config := { maxSteps := 10000000 }) only [go_sem, reduceIte, reduceCtorEq, Nat.reduceEqDiff, Nat.reduceLT, Nat.reduceLeDiff, Nat.reduceAdd, Nat.reduceBEq, Nat.reduceMul, Int.reduceToNat, Int.reduceLE, Int.reduceLT, Int.reduceEq, Int.reduceNeg]
      repeat (refine And.intro (by first | omega | (constructor <;> omega) | kernel_rfl) ?_)
      refine CallW.mk (ht2) ?_
      try simp (config := { maxSteps := 10000000 }) only [go_sem, reduceIte, reduceCtorEq, Nat.reduceEqDiff, Nat.reduceLT, Nat.reduceLeDiff, Nat.reduceAdd, Nat.reduceBEq, Nat.reduceMul, Int.reduceToNat, Int.reduceLE, Int.reduceLT, Int.reduceEq, Int.reduceNeg]
      try simp (config := { maxSteps := 10000000 }) only [go_sem, reduceIte, reduceCtorEq, Nat.reduceEqDiff, Nat.reduceLT, Nat.reduceLeDiff, Nat.reduceAdd, Nat.reduceBEq, Nat.reduceMul, Int.reduceToNat, Int.reduceLE, Int.reduceLT, Int.reduceEq, Int.reduceNeg, hb0]
      repeat (refine And.intro (by first | omega | (constructor <;> omega) | kernel_rfl) ?_)
      refine CallW.mk (l04One_fn b) ?_
      try simp (config := { maxSteps := 10000000 }) only [go_sem, reduceIte, reduceCtorEq, Nat.reduceEqDiff, Nat.reduceLT, Nat.reduceLeDiff, Nat.reduceAdd, Nat.reduceBEq, Nat.reduceMul, Int.reduceToNat, Int.reduceLE, Int.reduceLT, Int.reduceEq, Int.reduceNeg]
      try simp (config := { maxSteps := 10000000 }) only [go_sem, reduceIte, reduceCtorEq, Nat.reduceEqDiff, Nat.reduceLT, Nat.reduceLeDiff, Nat.reduceAdd, Nat.reduceBEq, Nat.reduceMul, Int.reduceToNat, Int.reduceLE, Int.reduceLT, Int.reduceEq, Int.reduceNeg, hd]
      repeat (refine And.intro (by first | omega | (constructor <;> omega) | kernel_rfl) ?_)
      refine CallW.mk (l02Gcd_fn a b (by omega) (by omega)) ?_
      try simp (config := { maxSteps := 10000000 }) only [go_sem, reduceIte, reduceCtorEq, Nat.reduceEqDiff, Nat.reduceLT, Nat.reduceLeDiff, Nat.reduceAdd, Nat.reduceBEq, Nat.reduceMul, Int.reduceToNat, Int.reduceLE, Int.reduceLT, Int.reduceEq, Int.reduceNeg]
      repeat (refine And.intro (by first | omega | (constructor <;> omega) | kernel_rfl) ?_)
      refine CallW.mk (l04One_fn (Nat.gcd a b)) ?_
      try simp (config := { maxSteps := 10000000 }) only [go_sem, reduceIte, reduceCtorEq, Nat.reduceEqDiff, Nat.reduceLT, Nat.reduceLeDiff, Nat.reduceAdd, Nat.reduceBEq, Nat.reduceMul, Int.reduceToNat, Int.reduceLE, Int.reduceLT, Int.reduceEq, Int.reduceNeg]
      try simp (config := { maxSteps := 10000000 }) only [go_sem, reduceIte, reduceCtorEq, Nat.reduceEqDiff, Nat.reduceLT, Nat.reduceLeDiff, Nat.reduceAdd, Nat.reduceBEq, Nat.reduceMul, Int.reduceToNat, Int.reduceLE, Int.reduceLT, Int.reduceEq, Int.reduceNeg, hd2, hA]
    · rw [capR_none (by unfold small; omega)]
      rw [← e1] at hA; rw [← e2] at hB
      refine fn_enter tabOK mixes Try.func149 rfl rfl _ Try.ntmps149 _ Try.results149 (by simp) fun hwf => ?_
      try simp (config := { maxSteps := 10000000 }) only [go_sem, reduceIte, reduceCtorEq, Nat.reduceEqDiff, Nat.reduceLT, Nat.reduceLeDiff, Nat.reduceAdd, Nat.reduceBEq, Nat.reduceMul, Int.reduceToNat, Int.reduceLE, Int.reduceLT, Int.reduceEq, Int.reduceNeg]
      repeat (refine And.intro (by first | omega | (constructor <;> omega) | kernel_rfl) ?_)
      refine CallW.mk (ht1) ?_
      try simp (config := { maxSteps := 10000000 }) only [go_sem, reduceIte, reduceCtorEq, Nat.reduceEqDiff, Nat.reduceLT, Nat.reduceLeDiff, Nat.reduceAdd, Nat.reduceBEq, Nat.reduceMul, Int.reduceToNat, Int.reduceLE, Int.reduceLT, Int.reduceEq, Int.reduceNeg]
      repeat (refine And.intro (by first | omega | (constructor <;> omega) | kernel_rfl) ?_)
      refine CallW.mk (ht2) ?_
      try simp (config := { maxSteps := 10000000 }) only [go_sem, reduceIte, reduceCtorEq, Nat.reduceEqDiff, Nat.reduceLT, Nat.reduceLeDiff, Nat.reduceAdd, Nat.reduceBEq, Nat.reduceMul, Int.reduceToNat, Int.reduceLE, Int.reduceLT, Int.reduceEq, Int.reduceNeg]
      try simp (config := { maxSteps := 10000000 }) only [go_sem, reduceIte, reduceCtorEq, Nat.reduceEqDiff, Nat.reduceLT, Nat.reduceLeDiff, Nat.reduceAdd, Nat.reduceBEq, Nat.reduceMul, Int.reduceToNat, Int.reduceLE, Int.reduceLT, Int.reduceEq, Int.reduceNeg, hb0]
      repeat (refine And.intro (by first | omega | (constructor <;> omega) | kernel_rfl) ?_)
      refine CallW.mk (l04One_fn b) ?_
      try simp (config := { maxSteps := 10000000 }) only [go_sem, reduceIte, reduceCtorEq, Nat.reduceEqDiff, Nat.reduceLT, Nat.reduceLeDiff, Nat.reduceAdd, Nat.reduceBEq, Nat.reduceMul, Int.reduceToNat, Int.reduceLE, Int.reduceLT, Int.reduceEq, Int.reduceNeg]
      try simp (config := { maxSteps := 10000000 }) only [go_sem, reduceIte, reduceCtorEq, Nat.reduceEqDiff, Nat.reduceLT, Nat.reduceLeDiff, Nat.reduceAdd, Nat.reduceBEq, Nat.reduceMul, Int.reduceToNat, Int.reduceLE, Int.reduceLT, Int.reduceEq, Int.reduceNeg, hd]
      repeat (refine And.intro (by first | omega | (constructor <;> omega) | kernel_rfl) ?_)
      refine CallW.mk (l02Gcd_fn a b (by omega) (by omega)) ?_
      try simp (config := { maxSteps := 10000000 }) only [go_sem, reduceIte, reduceCtorEq, Nat.reduceEqDiff, Nat.reduceLT, Nat.reduceLeDiff, Nat.reduceAdd, Nat.reduceBEq, Nat.reduceMul, Int.reduceToNat, Int.reduceLE, Int.reduceLT, Int.reduceEq, Int.reduceNeg]
      repeat (refine And.intro (by first | omega | (constructor <;> omega) | kernel_rfl) ?_)
      refine CallW.mk (l04One_fn (Nat.gcd a b)) ?_
      try simp (config := { maxSteps := 10000000 }) only [go_sem, reduceIte, reduceCtorEq, Nat.reduceEqDiff, Nat.reduceLT, Nat.reduceLeDiff, Nat.reduceAdd, Nat.reduceBEq, Nat.reduceMul, Int.reduceToNat, Int.reduceLE, Int.reduceLT, Int.reduceEq, Int.reduceNeg]
      try simp (config := { maxSteps := 10000000 }) only [go_sem, reduceIte, reduceCtorEq, Nat.reduceEqDiff, Nat.reduceLT, Nat.reduceLeDiff, Nat.reduceAdd, Nat.reduceBEq, Nat.reduceMul, Int.reduceToNat, Int.reduceLE, Int.reduceLT, Int.reduceEq, Int.reduceNeg, hd2, hA, hB]
  · rcases hend with hs | hA | ⟨hA, hB⟩
    · rw [capR_s hs]
      have hA : ¬ (24 : Int) < nl q.num.natAbs := by have := hs.1; omega
      have hB : ¬ (24 : Int) < nl q.den := by have := hs.2; omega
      have hob := hob hs
      refine fn_enter tabOK mixes Try.func149 rfl rfl _ Try.ntmps149 _ Try.results149 (by simp) fun hwf => ?_
      try simp (config := { maxSteps := 10000000 }) only [go_sem, reduceIte, reduceCtorEq, Nat.reduceEqDiff, Nat.reduceLT, Nat.reduceLeDiff, Nat.reduceAdd, Nat.reduceBEq, Nat.reduceMul, Int.reduceToNat, Int.reduceLE, Int.reduceLT, Int.reduceEq, Int.reduceNeg]
      repeat (refine And.intro (by first | omega | (constructor <;> omega) | kernel_rfl) ?_)
      refine CallW.mk (ht1) ?_
      try simp (config := { maxSteps := 10000000 }) only [go_sem, reduceIte, reduceCtorEq, Nat.reduceEqDiff, Nat.reduceLT, Nat.reduceLeDiff, Nat.reduceAdd, Nat.reduceBEq, Nat.reduceMul, Int.reduceToNat, Int.reduceLE, Int.reduceLT, Int.reduceEq, Int.reduceNeg]
      repeat (refine And.intro (by first | omega | (constructor <;> omega) | kernel_rfl) ?_)
      refine CallW.mk (ht2) ?_
      try simp (config := { maxSteps := 10000000 }) only [go_sem, reduceIte, reduceCtorEq, Nat.reduceEqDiff, Nat.reduceLT, Nat.reduceLeDiff, Nat.reduceAdd, Nat.reduceBEq, Nat.reduceMul, Int.reduceToNat, Int.reduceLE, Int.reduceLT, Int.reduceEq, Int.reduceNeg]
      try simp (config := { maxSteps := 10000000 }) only [go_sem, reduceIte, reduceCtorEq, Nat.reduceEqDiff, Nat.reduceLT, Nat.reduceLeDiff, Nat.reduceAdd, Nat.reduceBEq, Nat.reduceMul, Int.reduceToNat, Int.reduceLE, Int.reduceLT, Int.reduceEq, Int.reduceNeg, hb0]
      repeat (refine And.intro (by first | omega | (constructor <;> omega) | kernel_rfl) ?_)
      refine CallW.mk (l04One_fn b) ?_
      try simp (config := { maxSteps := 10000000 }) only [go_sem, reduceIte, reduceCtorEq, Nat.reduceEqDiff, Nat.reduceLT, Nat.reduceLeDiff, Nat.reduceAdd, Nat.reduceBEq, Nat.reduceMul, Int.reduceToNat, Int.reduceLE, Int.reduceLT, Int.reduceEq, Int.reduceNeg]
      try simp (config := { maxSteps := 10000000 }) only [go_sem, reduceIte, reduceCtorEq, Nat.reduceEqDiff, Nat.reduceLT, Nat.reduceLeDiff, Nat.reduceAdd, Nat.reduceBEq, Nat.reduceMul, Int.reduceToNat, Int.reduceLE, Int.reduceLT, Int.reduceEq, Int.reduceNeg, hd]
      repeat (refine And.intro (by first | omega | (constructor <;> omega) | kernel_rfl) ?_)
      refine CallW.mk (l02Gcd_fn a b (by omega) (by omega)) ?_
      try simp (config := { maxSteps := 10000000 }) only [go_sem, reduceIte, reduceCtorEq, Nat.reduceEqDiff, Nat.reduceLT, Nat.reduceLeDiff, Nat.reduceAdd, Nat.reduceBEq, Nat.reduceMul, Int.reduceToNat, Int.reduceLE, Int.reduceLT, Int.reduceEq, Int.reduceNeg]
      repeat (refine And.intro (by first | omega | (constructor <;> omega) | kernel_rfl) ?_)
      refine CallW.mk (l04One_fn (Nat.gcd a b)) ?_
      try simp (config := { maxSteps := 10000000 }) only [go_sem, reduceIte, reduceCtorEq, Nat.reduceEqDiff, Nat.reduceLT, Nat.reduceLeDiff, Nat.reduceAdd, Nat.reduceBEq, Nat.reduceMul, Int.reduceToNat, Int.reduceLE, Int.reduceLT, Int.reduceEq, Int.reduceNeg]
      try simp (config := { maxSteps := 10000000 }) only [go_sem, reduceIte, reduceCtorEq, Nat.reduceEqDiff, Nat.reduceLT, Nat.reduceLeDiff, Nat.reduceAdd, Nat.reduceBEq, Nat.reduceMul, Int.reduceToNat, Int.reduceLE, Int.reduceLT, Int.reduceEq, Int.reduceNeg, hd2]
      have c1 := l02Div_fn a (Nat.gcd a b) hg0 (by omega) (by omega)
      rw [← m1] at c1
      repeat (refine And.intro (by first | omega | (constructor <;> omega) | kernel_rfl) ?_)
      refine CallW.mk (c1) ?_
      try simp (config := { maxSteps := 10000000 }) only [go_sem, reduceIte, reduceCtorEq, Nat.reduceEqDiff, Nat.reduceLT, Nat.reduceLeDiff, Nat.reduceAdd, Nat.reduceBEq, Nat.reduceMul, Int.reduceToNat, Int.reduceLE, Int.reduceLT, Int.reduceEq, Int.reduceNeg]
      have c2 := l02Div_fn b (Nat.gcd a b) hg0 (by omega) (by omega)
      rw [← m2] at c2
      repeat (refine And.intro (by first | omega | (constructor <;> omega) | kernel_rfl) ?_)
      refine CallW.mk (c2) ?_
      try simp (config := { maxSteps := 10000000 }) only [go_sem, reduceIte, reduceCtorEq, Nat.reduceEqDiff, Nat.reduceLT, Nat.reduceLeDiff, Nat.reduceAdd, Nat.reduceBEq, Nat.reduceMul, Int.reduceToNat, Int.reduceLE, Int.reduceLT, Int.reduceEq, Int.reduceNeg]
      try simp (config := { maxSteps := 10000000 }) only [go_sem, reduceIte, reduceCtorEq, Nat.reduceEqDiff, Nat.reduceLT, Nat.reduceLeDiff, Nat.reduceAdd, Nat.reduceBEq, Nat.reduceMul, Int.reduceToNat, Int.reduceLE, Int.reduceLT, Int.reduceEq, Int.reduceNeg, hA, hB]
      repeat (refine And.intro (by first | omega | (constructor <;> omega) | kernel_rfl) ?_)
      refine CallW.mk (hob) ?_
      try simp (config := { maxSteps := 10000000 }) only [go_sem, reduceIte, reduceCtorEq, Nat.reduceEqDiff, Nat.reduceLT, Nat.reduceLeDiff, Nat.reduceAdd, Nat.reduceBEq, Nat.reduceMul, Int.reduceToNat, Int.reduceLE, Int.reduceLT, Int.reduceEq, Int.reduceNeg]
      repeat (refine And.intro (by first | omega | (constructor <;> omega) | kernel_rfl) ?_)
      try simp (config := { maxSteps := 10000000 }) only [go_sem, reduceIte, reduceCtorEq, Nat.reduceEqDiff, Nat.reduceLT, Nat.reduceLeDiff, Nat.reduceAdd, Nat.reduceBEq, Nat.reduceMul, Int.reduceToNat, Int.reduceLE, Int.reduceLT, Int.reduceEq, Int.reduceNeg]
      try omega
    · rw [capR_none (by unfold small; omega)]
      refine fn_enter tabOK mixes Try.func149 rfl rfl _ Try.ntmps149 _ Try.results149 (by simp) fun hwf => ?_
      try simp (config := { maxSteps := 10000000 }) only [go_sem, reduceIte, reduceCtorEq, Nat.reduceEqDiff, Nat.reduceLT, Nat.reduceLeDiff, Nat.reduceAdd, Nat.reduceBEq, Nat.reduceMul, Int.reduceToNat, Int.reduceLE, Int.reduceLT, Int.reduceEq, Int.reduceNeg]
      repeat (refine And.intro (by first | omega | (constructor <;> omega) | kernel_rfl) ?_)
      refine CallW.mk (ht1) ?_
      try simp (config := { maxSteps := 10000000 }) only [go_sem, reduceIte, reduceCtorEq, Nat.reduceEqDiff, Nat.reduceLT, Nat.reduceLeDiff, Nat.reduceAdd, Nat.reduceBEq, Nat.reduceMul, Int.reduceToNat, Int.reduceLE, Int.reduceLT, Int.reduceEq, Int.reduceNeg]
      repeat (refine And.intro (by first | omega | (constructor <;> omega) | kernel_rfl) ?_)
      refine CallW.mk (ht2) ?_
      try simp (config := { maxSteps := 10000000 }) only [go_sem, reduceIte, reduceCtorEq, Nat.reduceEqDiff, Nat.reduceLT, Nat.reduceLeDiff, Nat.reduceAdd, Nat.reduceBEq, Nat.reduceMul, Int.reduceToNat, Int.reduceLE, Int.reduceLT, Int.reduceEq, Int.reduceNeg]
      try simp (config := { maxSteps := 10000000 }) only [go_sem, reduceIte, reduceCtorEq, Nat.reduceEqDiff, Nat.reduceLT, Nat.reduceLeDiff, Nat.reduceAdd, Nat.reduceBEq, Nat.reduceMul, Int.reduceToNat, Int.reduceLE, Int.reduceLT, Int.reduceEq, Int.reduceNeg, hb0]
      repeat (refine And.intro (by first | omega | (constructor <;> omega) | kernel_rfl) ?_)
      refine CallW.mk (l04One_fn b) ?_
      try simp (config := { maxSteps := 10000000 }) only [go_sem, reduceIte, reduceCtorEq, Nat.reduceEqDiff, Nat.reduceLT, Nat.reduceLeDiff, Nat.reduceAdd, Nat.reduceBEq, Nat.reduceMul, Int.reduceToNat, Int.reduceLE, Int.reduceLT, Int.reduceEq, Int.reduceNeg]
      try simp (config := { maxSteps := 10000000 }) only [go_sem, reduceIte, reduceCtorEq, Nat.reduceEqDiff, Nat.reduceLT, Nat.reduceLeDiff, Nat.reduceAdd, Nat.reduceBEq, Nat.reduceMul, Int.reduceToNat, Int.reduceLE, Int.reduceLT, Int.reduceEq, Int.reduceNeg, hd]
      repeat (refine And.intro (by first | omega | (constructor <;> omega) | kernel_rfl) ?_)
      refine CallW.mk (l02Gcd_fn a b (by omega) (by omega)) ?_
      try simp (config := { maxSteps := 10000000 }) only [go_sem, reduceIte, reduceCtorEq, Nat.reduceEqDiff, Nat.reduceLT, Nat.reduceLeDiff, Nat.reduceAdd, Nat.reduceBEq, Nat.reduceMul, Int.reduceToNat, Int.reduceLE, Int.reduceLT, Int.reduceEq, Int.reduceNeg]
      repeat (refine And.intro (by first | omega | (constructor <;> omega) | kernel_rfl) ?_)
      refine CallW.mk (l04One_fn (Nat.gcd a b)) ?_
      try simp (config := { maxSteps := 10000000 }) only [go_sem, reduceIte, reduceCtorEq, Nat.reduceEqDiff, Nat.reduceLT, Nat.reduceLeDiff, Nat.reduceAdd, Nat.reduceBEq, Nat.reduceMul, Int.reduceToNat, Int.reduceLE, Int.reduceLT, Int.reduceEq, Int.reduceNeg]
      try simp (config := { maxSteps := 10000000 }) only [go_sem, reduceIte, reduceCtorEq, Nat.reduceEqDiff, Nat.reduceLT, Nat.reduceLeDiff, Nat.reduceAdd, Nat.reduceBEq, Nat.reduceMul, Int.reduceToNat, Int.reduceLE, Int.reduceLT, Int.reduceEq, Int.reduceNeg, hd2]
      have c1 := l02Div_fn a (Nat.gcd a b) hg0 (by omega) (by omega)
      rw [← m1] at c1
      repeat (refine And.intro (by first | omega | (constructor <;> omega) | kernel_rfl) ?_)
      refine CallW.mk (c1) ?_
      try simp (config := { maxSteps := 10000000 }) only [go_sem, reduceIte, reduceCtorEq, Nat.reduceEqDiff, Nat.reduceLT, Nat.reduceLeDiff, Nat.reduceAdd, Nat.reduceBEq, Nat.reduceMul, Int.reduceToNat, Int.reduceLE, Int.reduceLT, Int.reduceEq, Int.reduceNeg]
      have c2 := l02Div_fn b (Nat.gcd a b) hg0 (by omega) (by omega)
      rw [← m2] at c2
      repeat (refine And.intro (by first | omega | (constructor <;> omega) | kernel_rfl) ?_)
      refine CallW.mk (c2) ?_
      try simp (config := { maxSteps := 10000000 }) only [go_sem, reduceIte, reduceCtorEq, Nat.reduceEqDiff, Nat.reduceLT, Nat.reduceLeDiff, Nat.reduceAdd, Nat.reduceBEq, Nat.reduceMul, Int.reduceToNat, Int.reduceLE, Int.reduceLT, Int.reduceEq, Int.reduceNeg]
      try simp (config := { maxSteps := 10000000 }) only [go_sem, reduceIte, reduceCtorEq, Nat.reduceEqDiff, Nat.reduceLT, Nat.reduceLeDiff, Nat.reduceAdd, Nat.reduceBEq, Nat.reduceMul, Int.reduceToNat, Int.reduceLE, Int.reduceLT, Int.reduceEq, Int.reduceNeg, hA]
    · rw [capR_none (by unfold small; omega)]
      refine fn_enter tabOK mixes Try.func149 rfl rfl _ Try.ntmps149 _ Try.results149 (by simp) fun hwf => ?_
      try simp (config := { maxSteps := 10000000 }) only [go_sem, reduceIte, reduceCtorEq, Nat.reduceEqDiff, Nat.reduceLT, Nat.reduceLeDiff, Nat.reduceAdd, Nat.reduceBEq, Nat.reduceMul, Int.reduceToNat, Int.reduceLE, Int.reduceLT, Int.reduceEq, Int.reduceNeg]
      repeat (refine And.intro (by first | omega | (constructor <;> omega) | kernel_rfl) ?_)
      refine CallW.mk (ht1) ?_
      try simp (config := { maxSteps := 10000000 }) only [go_sem, reduceIte, reduceCtorEq, Nat.reduceEqDiff, Nat.reduceLT, Nat.reduceLeDiff, Nat.reduceAdd, Nat.reduceBEq, Nat.reduceMul, Int.reduceToNat, Int.reduceLE, Int.reduceLT, Int.reduceEq, Int.reduceNeg]
      repeat (refine And.intro (by first | omega | (constructor <;> omega) | kernel_rfl) ?_)
      refine CallW.mk (ht2) ?_
      try simp (config := { maxSteps := 10000000 }) only [go_sem, reduceIte, reduceCtorEq, Nat.reduceEqDiff, Nat.reduceLT, Nat.reduceLeDiff, Nat.reduceAdd, Nat.reduceBEq, Nat.reduceMul, Int.reduceToNat, Int.reduceLE, Int.reduceLT, Int.reduceEq, Int.reduceNeg]
      try simp (config := { maxSteps := 10000000 }) only [go_sem, reduceIte, reduceCtorEq, Nat.reduceEqDiff, Nat.reduceLT, Nat.reduceLeDiff, Nat.reduceAdd, Nat.reduceBEq, Nat.reduceMul, Int.reduceToNat, Int.reduceLE, Int.reduceLT, Int.reduceEq, Int.reduceNeg, hb0]
      repeat (refine And.intro (by first | omega | (constructor <;> omega) | kernel_rfl) ?_)
      refine CallW.mk (l04One_fn b) ?_
      try simp (config := { maxSteps := 10000000 }) only [go_sem, reduceIte, reduceCtorEq, Nat.reduceEqDiff, Nat.reduceLT, Nat.reduceLeDiff, Nat.reduceAdd, Nat.reduceBEq, Nat.reduceMul, Int.reduceToNat, Int.reduceLE, Int.reduceLT, Int.reduceEq, Int.reduceNeg]
      try simp (config := { maxSteps := 10000000 }) only [go_sem, reduceIte, reduceCtorEq, Nat.reduceEqDiff, Nat.reduceLT, Nat.reduceLeDiff, Nat.reduceAdd, Nat.reduceBEq, Nat.reduceMul, Int.reduceToNat, Int.reduceLE, Int.reduceLT, Int.reduceEq, Int.reduceNeg, hd]
      repeat (refine And.intro (by first | omega | (constructor <;> omega) | kernel_rfl) ?_)
      refine CallW.mk (l02Gcd_fn a b (by omega) (by omega)) ?_
      try simp (config := { maxSteps := 10000000 }) only [go_sem, reduceIte, reduceCtorEq, Nat.reduceEqDiff, Nat.reduceLT, Nat.reduceLeDiff, Nat.reduceAdd, Nat.reduceBEq, Nat.reduceMul, Int.reduceToNat, Int.reduceLE, Int.reduceLT, Int.reduceEq, Int.reduceNeg]
      repeat (refine And.intro (by first | omega | (constructor <;> omega) | kernel_rfl) ?_)
      refine CallW.mk (l04One_fn (Nat.gcd a b)) ?_
      try simp (config := { maxSteps := 10000000 }) only [go_sem, reduceIte, reduceCtorEq, Nat.reduceEqDiff, Nat.reduceLT, Nat.reduceLeDiff, Nat.reduceAdd, Nat.reduceBEq, Nat.reduceMul, Int.reduceToNat, Int.reduceLE, Int.reduceLT, Int.reduceEq, Int.reduceNeg]
      try simp (config := { maxSteps := 10000000 }) only [go_sem, reduceIte, reduceCtorEq, Nat.reduceEqDiff, Nat.reduceLT, Nat.reduceLeDiff, Nat.reduceAdd, Nat.reduceBEq, Nat.reduceMul, Int.reduceToNat, Int.reduceLE, Int.reduceLT, Int.reduceEq, Int.reduceNeg, hd2]
      have c1 := l02Div_fn a (Nat.gcd a b) hg0 (by omega) (by omega)
      rw [← m1] at c1
      repeat (refine And.intro (by first | omega | (constructor <;> omega) | kernel_rfl) ?_)
      refine CallW.mk (c1) ?_
      try simp (config := { maxSteps := 10000000 }) only [go_sem, reduceIte, reduceCtorEq, Nat.reduceEqDiff, Nat.reduceLT, Nat.reduceLeDiff, Nat.reduceAdd, Nat.reduceBEq, Nat.reduceMul, Int.reduceToNat, Int.reduceLE, Int.reduceLT, Int.reduceEq, Int.reduceNeg]
      have c2 := l02Div_fn b (Nat.gcd a b) hg0 (by omega) (by omega)
      rw [← m2] at c2
      repeat (refine And.intro (by first | omega | (constructor <;> omega) | kernel_rfl) ?_)
      refine CallW.mk (c2) ?_
      try simp (config := { maxSteps := 10000000 }) only [go_sem, reduceIte, reduceCtorEq, Nat.reduceEqDiff, Nat.reduceLT, Nat.reduceLeDiff, Nat.reduceAdd, Nat.reduceBEq, Nat.reduceMul, Int.reduceToNat, Int.reduceLE, Int.reduceLT, Int.reduceEq, Int.reduceNeg]
      try simp (config := { maxSteps := 10000000 }) only [go_sem, reduceIte, reduceCtorEq, Nat.reduceEqDiff, Nat.reduceLT, Nat.reduceLeDiff, Nat.reduceAdd, Nat.reduceBEq, Nat.reduceMul, Int.reduceToNat, Int.reduceLE, Int.reduceLT, Int.reduceEq, Int.reduceNeg, hA, hB]
end Go.Proofs.Ytjkbecgenjhaaaa.DW

/-
  Fractions: sums, products, comparisons.
-/
namespace Go.Proofs.Ytjkbecgenjhaaaa.DW
open Go.RowKit
attribute [go_sem] Option.isSome_none bigD_nat
theorem oD_some (q : Rat) : oD (some q) = ((decide (q.num < 0), natL q.num.natAbs), natL q.den) := rfl
theorem oD_none : oD none = ((false, []), []) := rfl
theorem isGood_n : Fn Try.prog 112 [⟨tRat, ((false, []), [])⟩] false [⟨.bool, false⟩] := isGood_fn none
theorem isGood_s (q : Rat) : Fn Try.prog 112 [⟨tRat, ratD q⟩] false [⟨.bool, true⟩] := isGood_fn (some q)
theorem ratCmp_fn (x y : Option Rat) (hx : okO x) (hy : okO y) : Fn Try.prog 78 [⟨tRat, oD x⟩, ⟨tRat, oD y⟩] false [⟨.int, cmpO x y⟩] := by
  cases x with
  | none =>
    refine fn_enter tabOK mixes Try.func78 rfl rfl _ Try.ntmps78 _ Try.results78 (by simp) fun hwf => ?_
    try simp (config := { maxSteps := 10000000 }) only [go_sem, reduceIte, reduceCtorEq, Nat.reduceEqDiff, Nat.reduceLT, Nat.reduceLeDiff, Nat.reduceAdd, Nat.reduceBEq, Nat.reduceMul, Int.reduceToNat, Int.reduceLE, Int.reduceLT, Int.reduceEq, Int.reduceNeg]
    repeat (refine And.intro (by first | omega | (constructor <;> omega) | kernel_rfl) ?_)
    refine CallW.mk (isGood_n) ?_
    try simp (config := { maxSteps := 10000000 }) only [go_sem, reduceIte, reduceCtorEq, Nat.reduceEqDiff, Nat.reduceLT, Nat.reduceLeDiff, Nat.reduceAdd, Nat.reduceBEq, Nat.reduceMul, Int.reduceToNat, Int.reduceLE, Int.reduceLT, Int.reduceEq, Int.reduceNeg]
    rfl
  | some p =>
    cases y with
    | none =>
      refine fn_enter tabOK mixes Try.func78 rfl rfl _ Try.ntmps78 _ Try.results78 (by simp) fun hwf => ?_
      try simp (config := { maxSteps := 10000000 }) only [go_sem, reduceIte, reduceCtorEq, Nat.reduceEqDiff, Nat.reduceLT, Nat.reduceLeDiff, Nat.reduceAdd, Nat.reduceBEq, Nat.reduceMul, Int.reduceToNat, Int.reduceLE, Int.reduceLT, Int.reduceEq, Int.reduceNeg]
      repeat (refine And.intro (by first | omega | (constructor <;> omega) | kernel_rfl) ?_)
      refine CallW.mk (isGood_s p) ?_
      try simp (config := { maxSteps := 10000000 }) only [go_sem, reduceIte, reduceCtorEq, Nat.reduceEqDiff, Nat.reduceLT, Nat.reduceLeDiff, Nat.reduceAdd, Nat.reduceBEq, Nat.reduceMul, Int.reduceToNat, Int.reduceLE, Int.reduceLT, Int.reduceEq, Int.reduceNeg]
      repeat (refine And.intro (by first | omega | (constructor <;> omega) | kernel_rfl) ?_)
      refine CallW.mk (isGood_n) ?_
      try simp (config := { maxSteps := 10000000 }) only [go_sem, reduceIte, reduceCtorEq, Nat.reduceEqDiff, Nat.reduceLT, Nat.reduceLeDiff, Nat.reduceAdd, Nat.reduceBEq, Nat.reduceMul, Int.reduceToNat, Int.reduceLE, Int.reduceLT, Int.reduceEq, Int.reduceNeg]
      rfl
    | some q =>
      obtain ⟨p1, p2⟩ := hx p rfl
      obtain ⟨q1, q2⟩ := hy q rfl
      refine fn_enter tabOK mixes Try.func78 rfl rfl _ Try.ntmps78 _ Try.results78 (by simp) fun hwf => ?_
      try simp (config := { maxSteps := 10000000 }) only [go_sem, reduceIte, reduceCtorEq, Nat.reduceEqDiff, Nat.reduceLT, Nat.reduceLeDiff, Nat.reduceAdd, Nat.reduceBEq, Nat.reduceMul, Int.reduceToNat, Int.reduceLE, Int.reduceLT, Int.reduceEq, Int.reduceNeg]
      repeat (refine And.intro (by first | omega | (constructor <;> omega) | kernel_rfl) ?_)
      refine CallW.mk (isGood_s p) ?_
      try simp (config := { maxSteps := 10000000 }) only [go_sem, reduceIte, reduceCtorEq, Nat.reduceEqDiff, Nat.reduceLT, Nat.reduceLeDiff, Nat.reduceAdd, Nat.reduceBEq, Nat.reduceMul, Int.reduceToNat, Int.reduceLE, Int.reduceLT, Int.reduceEq, Int.reduceNeg]
      repeat (refine And.intro (by first | omega | (constructor <;> omega) | kernel_rfl) ?_)
      refine CallW.mk (isGood_s q) ?_
      try simp (config := { maxSteps := 10000000 }) only [go_sem, reduceIte, reduceCtorEq, Nat.reduceEqDiff, Nat.reduceLT, Nat.reduceLeDiff, Nat.reduceAdd, Nat.reduceBEq, Nat.reduceMul, Int.reduceToNat, Int.reduceLE, Int.reduceLT, Int.reduceEq, Int.reduceNeg]
      repeat (refine And.intro (by first | omega | (constructor <;> omega) | kernel_rfl) ?_)
      refine CallW.mk (bigMulN_fn p.num q.den (by omega) (by omega)) ?_
      try simp (config := { maxSteps := 10000000 }) only [go_sem, reduceIte, reduceCtorEq, Nat.reduceEqDiff, Nat.reduceLT, Nat.reduceLeDiff, Nat.reduceAdd, Nat.reduceBEq, Nat.reduceMul, Int.reduceToNat, Int.reduceLE, Int.reduceLT, Int.reduceEq, Int.reduceNeg]
      repeat (refine And.intro (by first | omega | (constructor <;> omega) | kernel_rfl) ?_)
      refine CallW.mk (bigMulN_fn q.num p.den (by omega) (by omega)) ?_
      try simp (config := { maxSteps := 10000000 }) only [go_sem, reduceIte, reduceCtorEq, Nat.reduceEqDiff, Nat.reduceLT, Nat.reduceLeDiff, Nat.reduceAdd, Nat.reduceBEq, Nat.reduceMul, Int.reduceToNat, Int.reduceLE, Int.reduceLT, Int.reduceEq, Int.reduceNeg]
      repeat (refine And.intro (by first | omega | (constructor <;> omega) | kernel_rfl) ?_)
      refine CallW.mk (bigCmp_fn (p.num * q.den) (q.num * p.den)) ?_
      try simp (config := { maxSteps := 10000000 }) only [go_sem, reduceIte, reduceCtorEq, Nat.reduceEqDiff, Nat.reduceLT, Nat.reduceLeDiff, Nat.reduceAdd, Nat.reduceBEq, Nat.reduceMul, Int.reduceToNat, Int.reduceLE, Int.reduceLT, Int.reduceEq, Int.reduceNeg]
      repeat (refine And.intro (by first | omega | (constructor <;> omega) | kernel_rfl) ?_)
      exact (cmpQ_eq p q).symm
theorem nl_mulZ (a : Int) (n : Nat) : nl (a * (n : Int)).natAbs ≤ nl a.natAbs + nl n := by
  rw [Int.natAbs_mul, Int.natAbs_natCast]; exact nl_mul _ _
theorem nl_addZ (a b : Int) : nl (a + b).natAbs ≤ max (nl a.natAbs) (nl b.natAbs) + 1 := Nat.le_trans (nl_mono (Int.natAbs_add_le a b)) (nl_add _ _)
theorem nl_mulI (a b : Int) : nl (a * b).natAbs ≤ nl a.natAbs + nl b.natAbs := by
  rw [Int.natAbs_mul]; exact nl_mul _ _
theorem den_mul_ne (p q : Rat) : p.den * q.den ≠ 0 := Nat.mul_ne_zero p.den_nz q.den_nz
theorem ratAdd_fn (x y : Option Rat) (hx : okO x) (hy : okO y) : Fn Try.prog 152 [⟨tRat, oD x⟩, ⟨tRat, oD y⟩] true [⟨tRat, oD (addO x y)⟩] := by
  cases x with
  | none =>
    refine fn_enter tabOK mixes Try.func152 rfl rfl _ Try.ntmps152 _ Try.results152 (by simp) fun hwf => ?_
    try simp (config := { maxSteps := 10000000 }) only [go_sem, reduceIte, reduceCtorEq, Nat.reduceEqDiff, Nat.reduceLT, Nat.reduceLeDiff, Nat.reduceAdd, Nat.reduceBEq, Nat.reduceMul, Int.reduceToNat, Int.reduceLE, Int.reduceLT, Int.reduceEq, Int.reduceNeg]
    repeat (refine And.intro (by first | omega | (constructor <;> omega) | kernel_rfl) ?_)
    refine CallW.mk (isGood_n) ?_
    try simp (config := { maxSteps := 10000000 }) only [go_sem, reduceIte, reduceCtorEq, Nat.reduceEqDiff, Nat.reduceLT, Nat.reduceLeDiff, Nat.reduceAdd, Nat.reduceBEq, Nat.reduceMul, Int.reduceToNat, Int.reduceLE, Int.reduceLT, Int.reduceEq, Int.reduceNeg]
    try simp (config := { maxSteps := 10000000 }) only [go_sem, reduceIte, reduceCtorEq, Nat.reduceEqDiff, Nat.reduceLT, Nat.reduceLeDiff, Nat.reduceAdd, Nat.reduceBEq, Nat.reduceMul, Int.reduceToNat, Int.reduceLE, Int.reduceLT, Int.reduceEq, Int.reduceNeg, addO]
  | some p =>
    cases y with
    | none =>
      refine fn_enter tabOK mixes Try.func152 rfl rfl _ Try.ntmps152 _ Try.results152 (by simp) fun hwf => ?_
      try simp (config := { maxSteps := 10000000 }) only [go_sem, reduceIte, reduceCtorEq, Nat.reduceEqDiff, Nat.reduceLT, Nat.reduceLeDiff, Nat.reduceAdd, Nat.reduceBEq, Nat.reduceMul, Int.reduceToNat, Int.reduceLE, Int.reduceLT, Int.reduceEq, Int.reduceNeg]
      repeat (refine And.intro (by first | omega | (constructor <;> omega) | kernel_rfl) ?_)
      refine CallW.mk (isGood_s p) ?_
      try simp (config := { maxSteps := 10000000 }) only [go_sem, reduceIte, reduceCtorEq, Nat.reduceEqDiff, Nat.reduceLT, Nat.reduceLeDiff, Nat.reduceAdd, Nat.reduceBEq, Nat.reduceMul, Int.reduceToNat, Int.reduceLE, Int.reduceLT, Int.reduceEq, Int.reduceNeg]
      repeat (refine And.intro (by first | omega | (constructor <;> omega) | kernel_rfl) ?_)
      refine CallW.mk (isGood_n) ?_
      try simp (config := { maxSteps := 10000000 }) only [go_sem, reduceIte, reduceCtorEq, Nat.reduceEqDiff, Nat.reduceLT, Nat.reduceLeDiff, Nat.reduceAdd, Nat.reduceBEq, Nat.reduceMul, Int.reduceToNat, Int.reduceLE, Int.reduceLT, Int.reduceEq, Int.reduceNeg]
      try simp (config := { maxSteps := 10000000 }) only [go_sem, reduceIte, reduceCtorEq, Nat.reduceEqDiff, Nat.reduceLT, Nat.reduceLeDiff, Nat.reduceAdd, Nat.reduceBEq, Nat.reduceMul, Int.reduceToNat, Int.reduceLE, Int.reduceLT, Int.reduceEq, Int.reduceNeg, addO]
    | some q =>
      obtain ⟨p1, p2⟩ := hx p rfl
      obtain ⟨q1, q2⟩ := hy q rfl
      have b1 := nl_mulZ p.num q.den
      have b2 := nl_mulZ q.num p.den
      have b3 := nl_addZ (p.num * q.den) (q.num * p.den)
      have b4 := nl_mul p.den q.den
      have hm := ratMake_end (p.num * q.den + q.num * p.den) (p.den * q.den) (den_mul_ne p q) (by omega) (by omega)
      rw [← add_mk] at hm
      have e : addO (some p) (some q) = capR (p + q) := rfl
      rw [e]
      refine fn_enter tabOK mixes Try.func152 rfl rfl _ Try.ntmps152 _ Try.results152 (by simp) fun hwf => ?_
      try simp (config := { maxSteps := 10000000 }) only [go_sem, reduceIte, reduceCtorEq, Nat.reduceEqDiff, Nat.reduceLT, Nat.reduceLeDiff, Nat.reduceAdd, Nat.reduceBEq, Nat.reduceMul, Int.reduceToNat, Int.reduceLE, Int.reduceLT, Int.reduceEq, Int.reduceNeg]
      repeat (refine And.intro (by first | omega | (constructor <;> omega) | kernel_rfl) ?_)
      refine CallW.mk (isGood_s p) ?_
      try simp (config := { maxSteps := 10000000 }) only [go_sem, reduceIte, reduceCtorEq, Nat.reduceEqDiff, Nat.reduceLT, Nat.reduceLeDiff, Nat.reduceAdd, Nat.reduceBEq, Nat.reduceMul, Int.reduceToNat, Int.reduceLE, Int.reduceLT, Int.reduceEq, Int.reduceNeg]
      repeat (refine And.intro (by first | omega | (constructor <;> omega) | kernel_rfl) ?_)
      refine CallW.mk (isGood_s q) ?_
      try simp (config := { maxSteps := 10000000 }) only [go_sem, reduceIte, reduceCtorEq, Nat.reduceEqDiff, Nat.reduceLT, Nat.reduceLeDiff, Nat.reduceAdd, Nat.reduceBEq, Nat.reduceMul, Int.reduceToNat, Int.reduceLE, Int.reduceLT, Int.reduceEq, Int.reduceNeg]
      repeat (refine And.intro (by first | omega | (constructor <;> omega) | kernel_rfl) ?_)
      refine CallW.mk (bigMulN_fn p.num q.den (by omega) (by omega)) ?_
      try simp (config := { maxSteps := 10000000 }) only [go_sem, reduceIte, reduceCtorEq, Nat.reduceEqDiff, Nat.reduceLT, Nat.reduceLeDiff, Nat.reduceAdd, Nat.reduceBEq, Nat.reduceMul, Int.reduceToNat, Int.reduceLE, Int.reduceLT, Int.reduceEq, Int.reduceNeg]
      repeat (refine And.intro (by first | omega | (constructor <;> omega) | kernel_rfl) ?_)
      refine CallW.mk (bigMulN_fn q.num p.den (by omega) (by omega)) ?_
      try simp (config := { maxSteps := 10000000 }) only [go_sem, reduceIte, reduceCtorEq, Nat.reduceEqDiff, Nat.reduceLT, Nat.reduceLeDiff, Nat.reduceAdd, Nat.reduceBEq, Nat.reduceMul, Int.reduceToNat, Int.reduceLE, Int.reduceLT, Int.reduceEq, Int.reduceNeg]
      repeat (refine And.intro (by first | omega | (constructor <;> omega) | kernel_rfl) ?_)
      refine CallW.mk (bigAdd_fn (p.num * q.den) (q.num * p.den) (by omega) (by omega)) ?_
      try simp (config := { maxSteps := 10000000 }) only [go_sem, reduceIte, reduceCtorEq, Nat.reduceEqDiff, Nat.reduceLT, Nat.reduceLeDiff, Nat.reduceAdd, Nat.reduceBEq, Nat.reduceMul, Int.reduceToNat, Int.reduceLE, Int.reduceLT, Int.reduceEq, Int.reduceNeg]
      repeat (refine And.intro (by first | omega | (constructor <;> omega) | kernel_rfl) ?_)
      refine CallW.mk (natMul_fn p.den q.den (by omega) (by omega)) ?_
      try simp (config := { maxSteps := 10000000 }) only [go_sem, reduceIte, reduceCtorEq, Nat.reduceEqDiff, Nat.reduceLT, Nat.reduceLeDiff, Nat.reduceAdd, Nat.reduceBEq, Nat.reduceMul, Int.reduceToNat, Int.reduceLE, Int.reduceLT, Int.reduceEq, Int.reduceNeg]
      repeat (refine And.intro (by first | omega | (constructor <;> omega) | kernel_rfl) ?_)
      refine CallW.mk (hm) ?_
      try simp (config := { maxSteps := 10000000 }) only [go_sem, reduceIte, reduceCtorEq, Nat.reduceEqDiff, Nat.reduceLT, Nat.reduceLeDiff, Nat.reduceAdd, Nat.reduceBEq, Nat.reduceMul, Int.reduceToNat, Int.reduceLE, Int.reduceLT, Int.reduceEq, Int.reduceNeg]
      all_goals repeat (refine And.intro (by first | omega | (constructor <;> omega) | kernel_rfl) ?_)
      all_goals first | kernel_rfl | omega | rfl
theorem ratNeg_fn (x : Option Rat) : Fn Try.prog 153 [⟨tRat, oD x⟩] false [⟨tRat, oD (negO x)⟩] := by
  cases x with
  | none =>
    have hb := bigNeg_fn 0
    rw [Int.neg_zero, bigD_zero] at hb
    refine fn_enter tabOK mixes Try.func153 rfl rfl _ Try.ntmps153 _ Try.results153 (by simp) fun hwf => ?_
    try simp (config := { maxSteps := 10000000 }) only [go_sem, reduceIte, reduceCtorEq, Nat.reduceEqDiff, Nat.reduceLT, Nat.reduceLeDiff, Nat.reduceAdd, Nat.reduceBEq, Nat.reduceMul, Int.reduceToNat, Int.reduceLE, Int.reduceLT, Int.reduceEq, Int.reduceNeg]
    repeat (refine And.intro (by first | omega | (constructor <;> omega) | kernel_rfl) ?_)
    refine CallW.mk (hb) ?_
    try simp (config := { maxSteps := 10000000 }) only [go_sem, reduceIte, reduceCtorEq, Nat.reduceEqDiff, Nat.reduceLT, Nat.reduceLeDiff, Nat.reduceAdd, Nat.reduceBEq, Nat.reduceMul, Int.reduceToNat, Int.reduceLE, Int.reduceLT, Int.reduceEq, Int.reduceNeg]
    try simp (config := { maxSteps := 10000000 }) only [go_sem, reduceIte, reduceCtorEq, Nat.reduceEqDiff, Nat.reduceLT, Nat.reduceLeDiff, Nat.reduceAdd, Nat.reduceBEq, Nat.reduceMul, Int.reduceToNat, Int.reduceLE, Int.reduceLT, Int.reduceEq, Int.reduceNeg, negO]
    all_goals repeat (refine And.intro (by first | omega | (constructor <;> omega) | kernel_rfl) ?_)
    all_goals first | kernel_rfl | omega | rfl
  | some p =>
    refine fn_enter tabOK mixes Try.func153 rfl rfl _ Try.ntmps153 _ Try.results153 (by simp) fun hwf => ?_
    try simp (config := { maxSteps := 10000000 }) only [go_sem, reduceIte, reduceCtorEq, Nat.reduceEqDiff, Nat.reduceLT, Nat.reduceLeDiff, Nat.reduceAdd, Nat.reduceBEq, Nat.reduceMul, Int.reduceToNat, Int.reduceLE, Int.reduceLT, Int.reduceEq, Int.reduceNeg]
    repeat (refine And.intro (by first | omega | (constructor <;> omega) | kernel_rfl) ?_)
    refine CallW.mk (bigNeg_fn p.num) ?_
    try simp (config := { maxSteps := 10000000 }) only [go_sem, reduceIte, reduceCtorEq, Nat.reduceEqDiff, Nat.reduceLT, Nat.reduceLeDiff, Nat.reduceAdd, Nat.reduceBEq, Nat.reduceMul, Int.reduceToNat, Int.reduceLE, Int.reduceLT, Int.reduceEq, Int.reduceNeg]
    try simp (config := { maxSteps := 10000000 }) only [go_sem, reduceIte, reduceCtorEq, Nat.reduceEqDiff, Nat.reduceLT, Nat.reduceLeDiff, Nat.reduceAdd, Nat.reduceBEq, Nat.reduceMul, Int.reduceToNat, Int.reduceLE, Int.reduceLT, Int.reduceEq, Int.reduceNeg, negO, Rat.neg_num, Rat.neg_den]
    all_goals repeat (refine And.intro (by first | omega | (constructor <;> omega) | kernel_rfl) ?_)
    all_goals first | kernel_rfl | omega | rfl
theorem ratSub_fn (x y : Option Rat) (hx : okO x) (hy : okO y) : Fn Try.prog 123 [⟨tRat, oD x⟩, ⟨tRat, oD y⟩] true [⟨tRat, oD (subO x y)⟩] := by
  show Fn _ _ _ _ [⟨tRat, oD (addO x (negO y))⟩]
  have h1 := ratNeg_fn y
  have h2 := ratAdd_fn x (negO y) hx (okO_neg hy)
  refine fn_enter tabOK mixes Try.func123 rfl rfl _ Try.ntmps123 _ Try.results123 (by simp) fun hwf => ?_
  try simp (config := { maxSteps := 10000000 }) only [go_sem, reduceIte, reduceCtorEq, Nat.reduceEqDiff, Nat.reduceLT, Nat.reduceLeDiff, Nat.reduceAdd, Nat.reduceBEq, Nat.reduceMul, Int.reduceToNat, Int.reduceLE, Int.reduceLT, Int.reduceEq, Int.reduceNeg]
  repeat (refine And.intro (by first | omega | (constructor <;> omega) | kernel_rfl) ?_)
  refine CallW.mk (h1) ?_
  try simp (config := { maxSteps := 10000000 }) only [go_sem, reduceIte, reduceCtorEq, Nat.reduceEqDiff, Nat.reduceLT, Nat.reduceLeDiff, Nat.reduceAdd, Nat.reduceBEq, Nat.reduceMul, Int.reduceToNat, Int.reduceLE, Int.reduceLT, Int.reduceEq, Int.reduceNeg]
  repeat (refine And.intro (by first | omega | (constructor <;> omega) | kernel_rfl) ?_)
  refine CallW.mk (h2) ?_
  try simp (config := { maxSteps := 10000000 }) only [go_sem, reduceIte, reduceCtorEq, Nat.reduceEqDiff, Nat.reduceLT, Nat.reduceLeDiff, Nat.reduceAdd, Nat.reduceBEq, Nat.reduceMul, Int.reduceToNat, Int.reduceLE, Int.reduceLT, Int.reduceEq, Int.reduceNeg]
  all_goals repeat (refine And.intro (by first | omega | (constructor <;> omega) | kernel_rfl) ?_)
  all_goals first | kernel_rfl | omega | rfl
theorem cmpQ_zero (p : Rat) : cmpQ p 0 = cmpZ p.num 0 := by
  rw [cmpQ_eq]
  simp
theorem ratSign_fn (x : Option Rat) : Fn Try.prog 154 [⟨tRat, oD x⟩] false [⟨.int, sgnO x⟩] := by
  cases x with
  | none =>
    refine fn_enter tabOK mixes Try.func154 rfl rfl _ Try.ntmps154 _ Try.results154 (by simp) fun hwf => ?_
    try simp (config := { maxSteps := 10000000 }) only [go_sem, reduceIte, reduceCtorEq, Nat.reduceEqDiff, Nat.reduceLT, Nat.reduceLeDiff, Nat.reduceAdd, Nat.reduceBEq, Nat.reduceMul, Int.reduceToNat, Int.reduceLE, Int.reduceLT, Int.reduceEq, Int.reduceNeg]
    repeat (refine And.intro (by first | omega | (constructor <;> omega) | kernel_rfl) ?_)
    refine CallW.mk (isGood_n) ?_
    try simp (config := { maxSteps := 10000000 }) only [go_sem, reduceIte, reduceCtorEq, Nat.reduceEqDiff, Nat.reduceLT, Nat.reduceLeDiff, Nat.reduceAdd, Nat.reduceBEq, Nat.reduceMul, Int.reduceToNat, Int.reduceLE, Int.reduceLT, Int.reduceEq, Int.reduceNeg]
    try simp (config := { maxSteps := 10000000 }) only [go_sem, reduceIte, reduceCtorEq, Nat.reduceEqDiff, Nat.reduceLT, Nat.reduceLeDiff, Nat.reduceAdd, Nat.reduceBEq, Nat.reduceMul, Int.reduceToNat, Int.reduceLE, Int.reduceLT, Int.reduceEq, Int.reduceNeg, sgnO]
  | some p =>
    have e : sgnO (some p) = cmpZ p.num 0 := cmpQ_zero p
    rw [e]
    by_cases h0 : (nl p.num.natAbs : Int) = 0
    · have : p.num = 0 := by have := nl_eq_zero.1 (show nl p.num.natAbs = 0 by omega); omega
      refine fn_enter tabOK mixes Try.func154 rfl rfl _ Try.ntmps154 _ Try.results154 (by simp) fun hwf => ?_
      try simp (config := { maxSteps := 10000000 }) only [go_sem, reduceIte, reduceCtorEq, Nat.reduceEqDiff, Nat.reduceLT, Nat.reduceLeDiff, Nat.reduceAdd, Nat.reduceBEq, Nat.reduceMul, Int.reduceToNat, Int.reduceLE, Int.reduceLT, Int.reduceEq, Int.reduceNeg]
      repeat (refine And.intro (by first | omega | (constructor <;> omega) | kernel_rfl) ?_)
      refine CallW.mk (isGood_s p) ?_
      try simp (config := { maxSteps := 10000000 }) only [go_sem, reduceIte, reduceCtorEq, Nat.reduceEqDiff, Nat.reduceLT, Nat.reduceLeDiff, Nat.reduceAdd, Nat.reduceBEq, Nat.reduceMul, Int.reduceToNat, Int.reduceLE, Int.reduceLT, Int.reduceEq, Int.reduceNeg]
      try simp (config := { maxSteps := 10000000 }) only [go_sem, reduceIte, reduceCtorEq, Nat.reduceEqDiff, Nat.reduceLT, Nat.reduceLeDiff, Nat.reduceAdd, Nat.reduceBEq, Nat.reduceMul, Int.reduceToNat, Int.reduceLE, Int.reduceLT, Int.reduceEq, Int.reduceNeg, h0]
      simp [cmpZ, this]
    · have h1 : p.num ≠ 0 := fun h => h0 (by rw [h]; simp [nl_zero])
      by_cases h2 : p.num < 0
      · refine fn_enter tabOK mixes Try.func154 rfl rfl _ Try.ntmps154 _ Try.results154 (by simp) fun hwf => ?_
        try simp (config := { maxSteps := 10000000 }) only [go_sem, reduceIte, reduceCtorEq, Nat.reduceEqDiff, Nat.reduceLT, Nat.reduceLeDiff, Nat.reduceAdd, Nat.reduceBEq, Nat.reduceMul, Int.reduceToNat, Int.reduceLE, Int.reduceLT, Int.reduceEq, Int.reduceNeg]
        repeat (refine And.intro (by first | omega | (constructor <;> omega) | kernel_rfl) ?_)
        refine CallW.mk (isGood_s p) ?_
        try simp (config := { maxSteps := 10000000 }) only [go_sem, reduceIte, reduceCtorEq, Nat.reduceEqDiff, Nat.reduceLT, Nat.reduceLeDiff, Nat.reduceAdd, Nat.reduceBEq, Nat.reduceMul, Int.reduceToNat, Int.reduceLE, Int.reduceLT, Int.reduceEq, Int.reduceNeg]
        try simp (config := { maxSteps := 10000000 }) only [go_sem, reduceIte, reduceCtorEq, Nat.reduceEqDiff, Nat.reduceLT, Nat.reduceLeDiff, Nat.reduceAdd, Nat.reduceBEq, Nat.reduceMul, Int.reduceToNat, Int.reduceLE, Int.reduceLT, Int.reduceEq, Int.reduceNeg, h0, h2]
        simp [cmpZ, h2]
      · have h3 : 0 < p.num := by omega
        refine fn_enter tabOK mixes Try.func154 rfl rfl _ Try.ntmps154 _ Try.results154 (by simp) fun hwf => ?_
        try simp (config := { maxSteps := 10000000 }) only [go_sem, reduceIte, reduceCtorEq, Nat.reduceEqDiff, Nat.reduceLT, Nat.reduceLeDiff, Nat.reduceAdd, Nat.reduceBEq, Nat.reduceMul, Int.reduceToNat, Int.reduceLE, Int.reduceLT, Int.reduceEq, Int.reduceNeg]
        repeat (refine And.intro (by first | omega | (constructor <;> omega) | kernel_rfl) ?_)
        refine CallW.mk (isGood_s p) ?_
        try simp (config := { maxSteps := 10000000 }) only [go_sem, reduceIte, reduceCtorEq, Nat.reduceEqDiff, Nat.reduceLT, Nat.reduceLeDiff, Nat.reduceAdd, Nat.reduceBEq, Nat.reduceMul, Int.reduceToNat, Int.reduceLE, Int.reduceLT, Int.reduceEq, Int.reduceNeg]
        try simp (config := { maxSteps := 10000000 }) only [go_sem, reduceIte, reduceCtorEq, Nat.reduceEqDiff, Nat.reduceLT, Nat.reduceLeDiff, Nat.reduceAdd, Nat.reduceBEq, Nat.reduceMul, Int.reduceToNat, Int.reduceLE, Int.reduceLT, Int.reduceEq, Int.reduceNeg, h0, h2]
        simp [cmpZ, h2, h3]
noncomputable def maxO : Option Rat → Option Rat → Option Rat
  | some p, some q => if 0 ≤ cmpQ p q then some p else some q
  | _, _ => none
noncomputable def minO : Option Rat → Option Rat → Option Rat
  | some p, some q => if cmpQ p q ≤ 0 then some p else some q
  | _, _ => none
theorem okO_max {x y : Option Rat} (hx : okO x) (hy : okO y) : okO (maxO x y) := by
  unfold maxO
  split
  · split
    · exact hx
    · exact hy
  · exact okO_none
theorem okO_min {x y : Option Rat} (hx : okO x) (hy : okO y) : okO (minO x y) := by
  unfold minO
  split
  · split
    · exact hx
    · exact hy
  · exact okO_none
theorem ratMax_fn (x y : Option Rat) (hx : okO x) (hy : okO y) : Fn Try.prog 126 [⟨tRat, oD x⟩, ⟨tRat, oD y⟩] false [⟨tRat, oD (maxO x y)⟩] := by
  cases x with
  | none =>
    refine fn_enter tabOK mixes Try.func126 rfl rfl _ Try.ntmps126 _ Try.results126 (by simp) fun hwf => ?_
    try simp (config := { maxSteps := 10000000 }) only [go_sem, reduceIte, reduceCtorEq, Nat.reduceEqDiff, Nat.reduceLT, Nat.reduceLeDiff, Nat.reduceAdd, Nat.reduceBEq, Nat.reduceMul, Int.reduceToNat, Int.reduceLE, Int.reduceLT, Int.reduceEq, Int.reduceNeg]
    repeat (refine And.intro (by first | omega | (constructor <;> omega) | kernel_rfl) ?_)
    refine CallW.mk (isGood_n) ?_
    try simp (config := { maxSteps := 10000000 }) only [go_sem, reduceIte, reduceCtorEq, Nat.reduceEqDiff, Nat.reduceLT, Nat.reduceLeDiff, Nat.reduceAdd, Nat.reduceBEq, Nat.reduceMul, Int.reduceToNat, Int.reduceLE, Int.reduceLT, Int.reduceEq, Int.reduceNeg]
    try simp (config := { maxSteps := 10000000 }) only [go_sem, reduceIte, reduceCtorEq, Nat.reduceEqDiff, Nat.reduceLT, Nat.reduceLeDiff, Nat.reduceAdd, Nat.reduceBEq, Nat.reduceMul, Int.reduceToNat, Int.reduceLE, Int.reduceLT, Int.reduceEq, Int.reduceNeg, maxO]
  | some p =>
    cases y with
    | none =>
      refine fn_enter tabOK mixes Try.func126 rfl rfl _ Try.ntmps126 _ Try.results126 (by simp) fun hwf => ?_
      try simp (config := { maxSteps := 10000000 }) only [go_sem, reduceIte, reduceCtorEq, Nat.reduceEqDiff, Nat.reduceLT, Nat.reduceLeDiff, Nat.reduceAdd, Nat.reduceBEq, Nat.reduceMul, Int.reduceToNat, Int.reduceLE, Int.reduceLT, Int.reduceEq, Int.reduceNeg]
      repeat (refine And.intro (by first | omega | (constructor <;> omega) | kernel_rfl) ?_)
      refine CallW.mk (isGood_s p) ?_
      try simp (config := { maxSteps := 10000000 }) only [go_sem, reduceIte, reduceCtorEq, Nat.reduceEqDiff, Nat.reduceLT, Nat.reduceLeDiff, Nat.reduceAdd, Nat.reduceBEq, Nat.reduceMul, Int.reduceToNat, Int.reduceLE, Int.reduceLT, Int.reduceEq, Int.reduceNeg]
      repeat (refine And.intro (by first | omega | (constructor <;> omega) | kernel_rfl) ?_)
      refine CallW.mk (isGood_n) ?_
      try simp (config := { maxSteps := 10000000 }) only [go_sem, reduceIte, reduceCtorEq, Nat.reduceEqDiff, Nat.reduceLT, Nat.reduceLeDiff, Nat.reduceAdd, Nat.reduceBEq, Nat.reduceMul, Int.reduceToNat, Int.reduceLE, Int.reduceLT, Int.reduceEq, Int.reduceNeg]
      try simp (config := { maxSteps := 10000000 }) only [go_sem, reduceIte, reduceCtorEq, Nat.reduceEqDiff, Nat.reduceLT, Nat.reduceLeDiff, Nat.reduceAdd, Nat.reduceBEq, Nat.reduceMul, Int.reduceToNat, Int.reduceLE, Int.reduceLT, Int.reduceEq, Int.reduceNeg, maxO]
    | some q =>
      have hc := ratCmp_fn (some p) (some q) hx hy
      have e : cmpO (some p) (some q) = cmpQ p q := rfl
      rw [e] at hc
      by_cases h : 0 ≤ cmpQ p q
      · have e2 : maxO (some p) (some q) = some p := if_pos h
        rw [e2]
        refine fn_enter tabOK mixes Try.func126 rfl rfl _ Try.ntmps126 _ Try.results126 (by simp) fun hwf => ?_
        try simp (config := { maxSteps := 10000000 }) only [go_sem, reduceIte, reduceCtorEq, Nat.reduceEqDiff, Nat.reduceLT, Nat.reduceLeDiff, Nat.reduceAdd, Nat.reduceBEq, Nat.reduceMul, Int.reduceToNat, Int.reduceLE, Int.reduceLT, Int.reduceEq, Int.reduceNeg]
        repeat (refine And.intro (by first | omega | (constructor <;> omega) | kernel_rfl) ?_)
        refine CallW.mk (isGood_s p) ?_
        try simp (config := { maxSteps := 10000000 }) only [go_sem, reduceIte, reduceCtorEq, Nat.reduceEqDiff, Nat.reduceLT, Nat.reduceLeDiff, Nat.reduceAdd, Nat.reduceBEq, Nat.reduceMul, Int.reduceToNat, Int.reduceLE, Int.reduceLT, Int.reduceEq, Int.reduceNeg]
        repeat (refine And.intro (by first | omega | (constructor <;> omega) | kernel_rfl) ?_)
        refine CallW.mk (isGood_s q) ?_
        try simp (config := { maxSteps := 10000000 }) only [go_sem, reduceIte, reduceCtorEq, Nat.reduceEqDiff, Nat.reduceLT, Nat.reduceLeDiff, Nat.reduceAdd, Nat.reduceBEq, Nat.reduceMul, Int.reduceToNat, Int.reduceLE, Int.reduceLT, Int.reduceEq, Int.reduceNeg]
        repeat (refine And.intro (by first | omega | (constructor <;> omega) | kernel_rfl) ?_)
        refine CallW.mk (hc) ?_
        try simp (config := { maxSteps := 10000000 }) only [go_sem, reduceIte, reduceCtorEq, Nat.reduceEqDiff, Nat.reduceLT, Nat.reduceLeDiff, Nat.reduceAdd, Nat.reduceBEq, Nat.reduceMul, Int.reduceToNat, Int.reduceLE, Int.reduceLT, Int.reduceEq, Int.reduceNeg]
        try simp (config := { maxSteps := 10000000 }) only [go_sem, reduceIte, reduceCtorEq, Nat.reduceEqDiff, Nat.reduceLT, Nat.reduceLeDiff, Nat.reduceAdd, Nat.reduceBEq, Nat.reduceMul, Int.reduceToNat, Int.reduceLE, Int.reduceLT, Int.reduceEq, Int.reduceNeg, h]
      · have e2 : maxO (some p) (some q) = some q := if_neg h
        rw [e2]
        refine fn_enter tabOK mixes Try.func126 rfl rfl _ Try.ntmps126 _ Try.results126 (by simp) fun hwf => ?_
        try simp (config := { maxSteps := 10000000 }) only [go_sem, reduceIte, reduceCtorEq, Nat.reduceEqDiff, Nat.reduceLT, Nat.reduceLeDiff, Nat.reduceAdd, Nat.reduceBEq, Nat.reduceMul, Int.reduceToNat, Int.reduceLE, Int.reduceLT, Int.reduceEq, Int.reduceNeg]
        repeat (refine And.intro (by first | omega | (constructor <;> omega) | kernel_rfl) ?_)
        refine CallW.mk (isGood_s p) ?_
        try simp (config := { maxSteps := 10000000 }) only [go_sem, reduceIte, reduceCtorEq, Nat.reduceEqDiff, Nat.reduceLT, Nat.reduceLeDiff, Nat.reduceAdd, Nat.reduceBEq, Nat.reduceMul, Int.reduceToNat, Int.reduceLE, Int.reduceLT, Int.reduceEq, Int.reduceNeg]
        repeat (refine And.intro (by first | omega | (constructor <;> omega) | kernel_rfl) ?_)
        refine CallW.mk (isGood_s q) ?_
        try simp (config := { maxSteps := 10000000 }) only [go_sem, reduceIte, reduceCtorEq, Nat.reduceEqDiff, Nat.reduceLT, Nat.reduceLeDiff, Nat.reduceAdd, Nat.reduceBEq, Nat.reduceMul, Int.reduceToNat, Int.reduceLE, Int.reduceLT, Int.reduceEq, Int.reduceNeg]
        repeat (refine And.intro (by first | omega | (constructor <;> omega) | kernel_rfl) ?_)
        refine CallW.mk (hc) ?_
        try simp (config := { maxSteps := 10000000 }) only [go_sem, reduceIte, reduceCtorEq, Nat.reduceEqDiff, Nat.reduceLT, Nat.reduceLeDiff, Nat.reduceAdd, Nat.reduceBEq, Nat.reduceMul, Int.reduceToNat, Int.reduceLE, Int.reduceLT, Int.reduceEq, Int.reduceNeg]
        try simp (config := { maxSteps := 10000000 }) only [go_sem, reduceIte, reduceCtorEq, Nat.reduceEqDiff, Nat.reduceLT, Nat.reduceLeDiff, Nat.reduceAdd, Nat.reduceBEq, Nat.reduceMul, Int.reduceToNat, Int.reduceLE, Int.reduceLT, Int.reduceEq, Int.reduceNeg, h]
theorem ownRat_fn (r : DR) (h1 : r.1.2.length ≤ 1000000) (h2 : r.2.length ≤ 1000000) : Fn Try.prog 81 [⟨tRat, r⟩] true [⟨tRat, r⟩] := by
  obtain ⟨⟨s, a⟩, d⟩ := r
  refine fn_enter tabOK mixes Try.func81 rfl rfl _ Try.ntmps81 _ Try.results81 (by simp) fun hwf => ?_
  try simp (config := { maxSteps := 10000000 }) only [go_sem, reduceIte, reduceCtorEq, Nat.reduceEqDiff, Nat.reduceLT, Nat.reduceLeDiff, Nat.reduceAdd, Nat.reduceBEq, Nat.reduceMul, Int.reduceToNat, Int.reduceLE, Int.reduceLT, Int.reduceEq, Int.reduceNeg]
  repeat (refine And.intro (by first | omega | (constructor <;> omega) | kernel_rfl) ?_)
  refine CallW.mk (clone_fn a h1) ?_
  try simp (config := { maxSteps := 10000000 }) only [go_sem, reduceIte, reduceCtorEq, Nat.reduceEqDiff, Nat.reduceLT, Nat.reduceLeDiff, Nat.reduceAdd, Nat.reduceBEq, Nat.reduceMul, Int.reduceToNat, Int.reduceLE, Int.reduceLT, Int.reduceEq, Int.reduceNeg]
  repeat (refine And.intro (by first | omega | (constructor <;> omega) | kernel_rfl) ?_)
  refine CallW.mk (clone_fn d h2) ?_
  try simp (config := { maxSteps := 10000000 }) only [go_sem, reduceIte, reduceCtorEq, Nat.reduceEqDiff, Nat.reduceLT, Nat.reduceLeDiff, Nat.reduceAdd, Nat.reduceBEq, Nat.reduceMul, Int.reduceToNat, Int.reduceLE, Int.reduceLT, Int.reduceEq, Int.reduceNeg]
  all_goals repeat (refine And.intro (by first | omega | (constructor <;> omega) | kernel_rfl) ?_)
  all_goals first | kernel_rfl | omega | rfl
theorem ownO_fn (x : Option Rat) (hx : okO x) : Fn Try.prog 81 [⟨tRat, oD x⟩] true [⟨tRat, oD x⟩] := by
  refine ownRat_fn _ ?_ ?_
  · cases x with
    | none => exact Nat.zero_le _
    | some q => have := (hx q rfl).1; show nl q.num.natAbs ≤ _; omega
  · cases x with
    | none => exact Nat.zero_le _
    | some q => have := (hx q rfl).2; show nl q.den ≤ _; omega
end Go.Proofs.Ytjkbecgenjhaaaa.DW

/-
  Fractions: sums, products, comparisons, of the reference.
-/
namespace Go.Proofs.Ytjkbecgenjhaaaa.DW
open Go.RowKit
theorem sgn_mulN (x : Int) (n : Nat) : sgn (decide (x < 0)) (x.natAbs * n) = x * n := by
  unfold sgn
  by_cases h : x < 0
  · simp only [h, decide_true, if_true, Int.natCast_mul]
    rw [show (x.natAbs : Int) = -x by omega, Int.neg_mul, Int.neg_neg]
  · simp only [h, decide_false, Bool.false_eq_true, if_false, Int.natCast_mul]
    rw [show (x.natAbs : Int) = x by omega]
theorem l04Cmp_fn (p q : Rat) (hp : small p) (hq : small q) : Fn Try.prog 107 [⟨tRat, ratD p⟩, ⟨tRat, ratD q⟩] false [⟨.int, cmpQ p q⟩] := by
  obtain ⟨p1, p2⟩ := hp
  obtain ⟨q1, q2⟩ := hq
  have b1 := nl_mul p.num.natAbs q.den
  have b2 := nl_mul q.num.natAbs p.den
  refine fn_enter tabOK mixes Try.func107 rfl rfl _ Try.ntmps107 _ Try.results107 (by simp) fun hwf => ?_
  try simp (config := { maxSteps := 10000000 }) only [go_sem, reduceIte, reduceCtorEq, Nat.reduceEqDiff, Nat.reduceLT, Nat.reduceLeDiff, Nat.reduceAdd, Nat.reduceBEq, Nat.reduceMul, Int.reduceToNat, Int.reduceLE, Int.reduceLT, Int.reduceEq, Int.reduceNeg]
  repeat (refine And.intro (by first | omega | (constructor <;> omega) | kernel_rfl) ?_)
  refine CallW.mk (l02Mul_fn p.num.natAbs q.den (by omega) (by omega)) ?_
  try simp (config := { maxSteps := 10000000 }) only [go_sem, reduceIte, reduceCtorEq, Nat.reduceEqDiff, Nat.reduceLT, Nat.reduceLeDiff, Nat.reduceAdd, Nat.reduceBEq, Nat.reduceMul, Int.reduceToNat, Int.reduceLE, Int.reduceLT, Int.reduceEq, Int.reduceNeg]
  repeat (refine And.intro (by first | omega | (constructor <;> omega) | kernel_rfl) ?_)
  refine CallW.mk (l03Make_to (sgn_mulN p.num q.den) (by omega)) ?_
  try simp (config := { maxSteps := 10000000 }) only [go_sem, reduceIte, reduceCtorEq, Nat.reduceEqDiff, Nat.reduceLT, Nat.reduceLeDiff, Nat.reduceAdd, Nat.reduceBEq, Nat.reduceMul, Int.reduceToNat, Int.reduceLE, Int.reduceLT, Int.reduceEq, Int.reduceNeg]
  repeat (refine And.intro (by first | omega | (constructor <;> omega) | kernel_rfl) ?_)
  refine CallW.mk (l02Mul_fn q.num.natAbs p.den (by omega) (by omega)) ?_
  try simp (config := { maxSteps := 10000000 }) only [go_sem, reduceIte, reduceCtorEq, Nat.reduceEqDiff, Nat.reduceLT, Nat.reduceLeDiff, Nat.reduceAdd, Nat.reduceBEq, Nat.reduceMul, Int.reduceToNat, Int.reduceLE, Int.reduceLT, Int.reduceEq, Int.reduceNeg]
  repeat (refine And.intro (by first | omega | (constructor <;> omega) | kernel_rfl) ?_)
  refine CallW.mk (l03Make_to (sgn_mulN q.num p.den) (by omega)) ?_
  try simp (config := { maxSteps := 10000000 }) only [go_sem, reduceIte, reduceCtorEq, Nat.reduceEqDiff, Nat.reduceLT, Nat.reduceLeDiff, Nat.reduceAdd, Nat.reduceBEq, Nat.reduceMul, Int.reduceToNat, Int.reduceLE, Int.reduceLT, Int.reduceEq, Int.reduceNeg]
  repeat (refine And.intro (by first | omega | (constructor <;> omega) | kernel_rfl) ?_)
  refine CallW.mk (l03Cmp_fn (p.num * q.den) (q.num * p.den)) ?_
  try simp (config := { maxSteps := 10000000 }) only [go_sem, reduceIte, reduceCtorEq, Nat.reduceEqDiff, Nat.reduceLT, Nat.reduceLeDiff, Nat.reduceAdd, Nat.reduceBEq, Nat.reduceMul, Int.reduceToNat, Int.reduceLE, Int.reduceLT, Int.reduceEq, Int.reduceNeg]
  repeat (refine And.intro (by first | omega | (constructor <;> omega) | kernel_rfl) ?_)
  exact (cmpQ_eq p q).symm
theorem specRatCmp_fn (r s : DR) : Fn Try.prog 75 [⟨tRat, r⟩, ⟨tRat, s⟩] false [⟨.int, cmpO (rdO r) (rdO s)⟩] := by
  cases hr : okR r
  · rw [okR_f hr]
    refine fn_enter tabOK mixes Try.func75 rfl rfl _ Try.ntmps75 _ Try.results75 (by simp) fun hwf => ?_
    try simp (config := { maxSteps := 10000000 }) only [go_sem, reduceIte, reduceCtorEq, Nat.reduceEqDiff, Nat.reduceLT, Nat.reduceLeDiff, Nat.reduceAdd, Nat.reduceBEq, Nat.reduceMul, Int.reduceToNat, Int.reduceLE, Int.reduceLT, Int.reduceEq, Int.reduceNeg]
    repeat (refine And.intro (by first | omega | (constructor <;> omega) | kernel_rfl) ?_)
    refine CallW.mk (specRatOk_fn r) ?_
    try simp (config := { maxSteps := 10000000 }) only [go_sem, reduceIte, reduceCtorEq, Nat.reduceEqDiff, Nat.reduceLT, Nat.reduceLeDiff, Nat.reduceAdd, Nat.reduceBEq, Nat.reduceMul, Int.reduceToNat, Int.reduceLE, Int.reduceLT, Int.reduceEq, Int.reduceNeg]
    try simp (config := { maxSteps := 10000000 }) only [go_sem, reduceIte, reduceCtorEq, Nat.reduceEqDiff, Nat.reduceLT, Nat.reduceLeDiff, Nat.reduceAdd, Nat.reduceBEq, Nat.reduceMul, Int.reduceToNat, Int.reduceLE, Int.reduceLT, Int.reduceEq, Int.reduceNeg, hr]
    rfl
  · cases hs : okR s
    · rw [okR_f hs]
      have e : cmpO (rdO r) none = 0 := by unfold cmpO; cases rdO r <;> rfl
      rw [e]
      refine fn_enter tabOK mixes Try.func75 rfl rfl _ Try.ntmps75 _ Try.results75 (by simp) fun hwf => ?_
      try simp (config := { maxSteps := 10000000 }) only [go_sem, reduceIte, reduceCtorEq, Nat.reduceEqDiff, Nat.reduceLT, Nat.reduceLeDiff, Nat.reduceAdd, Nat.reduceBEq, Nat.reduceMul, Int.reduceToNat, Int.reduceLE, Int.reduceLT, Int.reduceEq, Int.reduceNeg]
      repeat (refine And.intro (by first | omega | (constructor <;> omega) | kernel_rfl) ?_)
      refine CallW.mk (specRatOk_fn r) ?_
      try simp (config := { maxSteps := 10000000 }) only [go_sem, reduceIte, reduceCtorEq, Nat.reduceEqDiff, Nat.reduceLT, Nat.reduceLeDiff, Nat.reduceAdd, Nat.reduceBEq, Nat.reduceMul, Int.reduceToNat, Int.reduceLE, Int.reduceLT, Int.reduceEq, Int.reduceNeg]
      try simp (config := { maxSteps := 10000000 }) only [go_sem, reduceIte, reduceCtorEq, Nat.reduceEqDiff, Nat.reduceLT, Nat.reduceLeDiff, Nat.reduceAdd, Nat.reduceBEq, Nat.reduceMul, Int.reduceToNat, Int.reduceLE, Int.reduceLT, Int.reduceEq, Int.reduceNeg, hr]
      repeat (refine And.intro (by first | omega | (constructor <;> omega) | kernel_rfl) ?_)
      refine CallW.mk (specRatOk_fn s) ?_
      try simp (config := { maxSteps := 10000000 }) only [go_sem, reduceIte, reduceCtorEq, Nat.reduceEqDiff, Nat.reduceLT, Nat.reduceLeDiff, Nat.reduceAdd, Nat.reduceBEq, Nat.reduceMul, Int.reduceToNat, Int.reduceLE, Int.reduceLT, Int.reduceEq, Int.reduceNeg]
      try simp (config := { maxSteps := 10000000 }) only [go_sem, reduceIte, reduceCtorEq, Nat.reduceEqDiff, Nat.reduceLT, Nat.reduceLeDiff, Nat.reduceAdd, Nat.reduceBEq, Nat.reduceMul, Int.reduceToNat, Int.reduceLE, Int.reduceLT, Int.reduceEq, Int.reduceNeg, hs]
    · obtain ⟨p, hp, rfl, e1⟩ := okR_t hr
      obtain ⟨q, hq, rfl, e2⟩ := okR_t hs
      rw [e1, e2]
      have hr' : okR ((decide (p.num < 0), natL p.num.natAbs), natL p.den) = true := hr
      have hs' : okR ((decide (q.num < 0), natL q.num.natAbs), natL q.den) = true := hs
      refine fn_enter tabOK mixes Try.func75 rfl rfl _ Try.ntmps75 _ Try.results75 (by simp) fun hwf => ?_
      try simp (config := { maxSteps := 10000000 }) only [go_sem, reduceIte, reduceCtorEq, Nat.reduceEqDiff, Nat.reduceLT, Nat.reduceLeDiff, Nat.reduceAdd, Nat.reduceBEq, Nat.reduceMul, Int.reduceToNat, Int.reduceLE, Int.reduceLT, Int.reduceEq, Int.reduceNeg]
      repeat (refine And.intro (by first | omega | (constructor <;> omega) | kernel_rfl) ?_)
      refine CallW.mk (specRatOk_fn (ratD p)) ?_
      try simp (config := { maxSteps := 10000000 }) only [go_sem, reduceIte, reduceCtorEq, Nat.reduceEqDiff, Nat.reduceLT, Nat.reduceLeDiff, Nat.reduceAdd, Nat.reduceBEq, Nat.reduceMul, Int.reduceToNat, Int.reduceLE, Int.reduceLT, Int.reduceEq, Int.reduceNeg]
      try simp (config := { maxSteps := 10000000 }) only [go_sem, reduceIte, reduceCtorEq, Nat.reduceEqDiff, Nat.reduceLT, Nat.reduceLeDiff, Nat.reduceAdd, Nat.reduceBEq, Nat.reduceMul, Int.reduceToNat, Int.reduceLE, Int.reduceLT, Int.reduceEq, Int.reduceNeg, hr']
      repeat (refine And.intro (by first | omega | (constructor <;> omega) | kernel_rfl) ?_)
      refine CallW.mk (specRatOk_fn (ratD q)) ?_
      try simp (config := { maxSteps := 10000000 }) only [go_sem, reduceIte, reduceCtorEq, Nat.reduceEqDiff, Nat.reduceLT, Nat.reduceLeDiff, Nat.reduceAdd, Nat.reduceBEq, Nat.reduceMul, Int.reduceToNat, Int.reduceLE, Int.reduceLT, Int.reduceEq, Int.reduceNeg]
      try simp (config := { maxSteps := 10000000 }) only [go_sem, reduceIte, reduceCtorEq, Nat.reduceEqDiff, Nat.reduceLT, Nat.reduceLeDiff, Nat.reduceAdd, Nat.reduceBEq, Nat.reduceMul, Int.reduceToNat, Int.reduceLE, Int.reduceLT, Int.reduceEq, Int.reduceNeg, hs']
      repeat (refine And.intro (by first | omega | (constructor <;> omega) | kernel_rfl) ?_)
      refine CallW.mk (l04Cmp_fn p q hp hq) ?_
      try simp (config := { maxSteps := 10000000 }) only [go_sem, reduceIte, reduceCtorEq, Nat.reduceEqDiff, Nat.reduceLT, Nat.reduceLeDiff, Nat.reduceAdd, Nat.reduceBEq, Nat.reduceMul, Int.reduceToNat, Int.reduceLE, Int.reduceLT, Int.reduceEq, Int.reduceNeg]
      rfl
theorem l04Copy_fn (r : DR) (h1 : r.1.2.length ≤ 16777216) (h2 : r.2.length ≤ 16777216) : Fn Try.prog 79 [⟨tRat, r⟩] true [⟨tRat, r⟩] := by
  obtain ⟨⟨s, a⟩, d⟩ := r
  simp only at h1 h2
  refine fn_enter tabOK mixes Try.func79 rfl rfl _ Try.ntmps79 _ Try.results79 (by simp) fun hwf => ?_
  try simp (config := { maxSteps := 10000000 }) only [go_sem, reduceIte, reduceCtorEq, Nat.reduceEqDiff, Nat.reduceLT, Nat.reduceLeDiff, Nat.reduceAdd, Nat.reduceBEq, Nat.reduceMul, Int.reduceToNat, Int.reduceLE, Int.reduceLT, Int.reduceEq, Int.reduceNeg]
  all_goals repeat (refine And.intro (by first | omega | (constructor <;> omega) | kernel_rfl) ?_)
  all_goals first | kernel_rfl | omega | rfl
theorem copyD_fn (p : Rat) (hp : small p) : Fn Try.prog 79 [⟨tRat, ratD p⟩] true [⟨tRat, ratD p⟩] := l04Copy_fn _ (by have := hp.1; show nl p.num.natAbs ≤ _; omega) (by have := hp.2; show nl p.den ≤ _; omega)
theorem specRatMax_fn (r s : DR) : Fn Try.prog 80 [⟨tRat, r⟩, ⟨tRat, s⟩] true [⟨tRat, oD (maxO (rdO r) (rdO s))⟩] := by
  cases hr : okR r
  · rw [okR_f hr]
    have e : maxO none (rdO s) = none := rfl
    rw [e]
    refine fn_enter tabOK mixes Try.func80 rfl rfl _ Try.ntmps80 _ Try.results80 (by simp) fun hwf => ?_
    try simp (config := { maxSteps := 10000000 }) only [go_sem, reduceIte, reduceCtorEq, Nat.reduceEqDiff, Nat.reduceLT, Nat.reduceLeDiff, Nat.reduceAdd, Nat.reduceBEq, Nat.reduceMul, Int.reduceToNat, Int.reduceLE, Int.reduceLT, Int.reduceEq, Int.reduceNeg]
    repeat (refine And.intro (by first | omega | (constructor <;> omega) | kernel_rfl) ?_)
    refine CallW.mk (specRatOk_fn r) ?_
    try simp (config := { maxSteps := 10000000 }) only [go_sem, reduceIte, reduceCtorEq, Nat.reduceEqDiff, Nat.reduceLT, Nat.reduceLeDiff, Nat.reduceAdd, Nat.reduceBEq, Nat.reduceMul, Int.reduceToNat, Int.reduceLE, Int.reduceLT, Int.reduceEq, Int.reduceNeg]
    try simp (config := { maxSteps := 10000000 }) only [go_sem, reduceIte, reduceCtorEq, Nat.reduceEqDiff, Nat.reduceLT, Nat.reduceLeDiff, Nat.reduceAdd, Nat.reduceBEq, Nat.reduceMul, Int.reduceToNat, Int.reduceLE, Int.reduceLT, Int.reduceEq, Int.reduceNeg, hr]
  · cases hs : okR s
    · rw [okR_f hs]
      have e : maxO (rdO r) none = none := by unfold maxO; cases rdO r <;> rfl
      rw [e]
      refine fn_enter tabOK mixes Try.func80 rfl rfl _ Try.ntmps80 _ Try.results80 (by simp) fun hwf => ?_
      try simp (config := { maxSteps := 10000000 }) only [go_sem, reduceIte, reduceCtorEq, Nat.reduceEqDiff, Nat.reduceLT, Nat.reduceLeDiff, Nat.reduceAdd, Nat.reduceBEq, Nat.reduceMul, Int.reduceToNat, Int.reduceLE, Int.reduceLT, Int.reduceEq, Int.reduceNeg]
      repeat (refine And.intro (by first | omega | (constructor <;> omega) | kernel_rfl) ?_)
      refine CallW.mk (specRatOk_fn r) ?_
      try simp (config := { maxSteps := 10000000 }) only [go_sem, reduceIte, reduceCtorEq, Nat.reduceEqDiff, Nat.reduceLT, Nat.reduceLeDiff, Nat.reduceAdd, Nat.reduceBEq, Nat.reduceMul, Int.reduceToNat, Int.reduceLE, Int.reduceLT, Int.reduceEq, Int.reduceNeg]
      try simp (config := { maxSteps := 10000000 }) only [go_sem, reduceIte, reduceCtorEq, Nat.reduceEqDiff, Nat.reduceLT, Nat.reduceLeDiff, Nat.reduceAdd, Nat.reduceBEq, Nat.reduceMul, Int.reduceToNat, Int.reduceLE, Int.reduceLT, Int.reduceEq, Int.reduceNeg, hr]
      repeat (refine And.intro (by first | omega | (constructor <;> omega) | kernel_rfl) ?_)
      refine CallW.mk (specRatOk_fn s) ?_
      try simp (config := { maxSteps := 10000000 }) only [go_sem, reduceIte, reduceCtorEq, Nat.reduceEqDiff, Nat.reduceLT, Nat.reduceLeDiff, Nat.reduceAdd, Nat.reduceBEq, Nat.reduceMul, Int.reduceToNat, Int.reduceLE, Int.reduceLT, Int.reduceEq, Int.reduceNeg]
      try simp (config := { maxSteps := 10000000 }) only [go_sem, reduceIte, reduceCtorEq, Nat.reduceEqDiff, Nat.reduceLT, Nat.reduceLeDiff, Nat.reduceAdd, Nat.reduceBEq, Nat.reduceMul, Int.reduceToNat, Int.reduceLE, Int.reduceLT, Int.reduceEq, Int.reduceNeg, hs]
    · obtain ⟨p, hp, rfl, e1⟩ := okR_t hr
      obtain ⟨q, hq, rfl, e2⟩ := okR_t hs
      rw [e1, e2]
      have hr' : okR ((decide (p.num < 0), natL p.num.natAbs), natL p.den) = true := hr
      have hs' : okR ((decide (q.num < 0), natL q.num.natAbs), natL q.den) = true := hs
      by_cases h : 0 ≤ cmpQ p q
      · have e3 : maxO (some p) (some q) = some p := if_pos h
        rw [e3]
        refine fn_enter tabOK mixes Try.func80 rfl rfl _ Try.ntmps80 _ Try.results80 (by simp) fun hwf => ?_
        try simp (config := { maxSteps := 10000000 }) only [go_sem, reduceIte, reduceCtorEq, Nat.reduceEqDiff, Nat.reduceLT, Nat.reduceLeDiff, Nat.reduceAdd, Nat.reduceBEq, Nat.reduceMul, Int.reduceToNat, Int.reduceLE, Int.reduceLT, Int.reduceEq, Int.reduceNeg]
        repeat (refine And.intro (by first | omega | (constructor <;> omega) | kernel_rfl) ?_)
        refine CallW.mk (specRatOk_fn (ratD p)) ?_
        try simp (config := { maxSteps := 10000000 }) only [go_sem, reduceIte, reduceCtorEq, Nat.reduceEqDiff, Nat.reduceLT, Nat.reduceLeDiff, Nat.reduceAdd, Nat.reduceBEq, Nat.reduceMul, Int.reduceToNat, Int.reduceLE, Int.reduceLT, Int.reduceEq, Int.reduceNeg]
        try simp (config := { maxSteps := 10000000 }) only [go_sem, reduceIte, reduceCtorEq, Nat.reduceEqDiff, Nat.reduceLT, Nat.reduceLeDiff, Nat.reduceAdd, Nat.reduceBEq, Nat.reduceMul, Int.reduceToNat, Int.reduceLE, Int.reduceLT, Int.reduceEq, Int.reduceNeg, hr']
        repeat (refine And.intro (by first | omega | (constructor <;> omega) | kernel_rfl) ?_)
        refine CallW.mk (specRatOk_fn (ratD q)) ?_
        try simp (config := { maxSteps := 10000000 }) only [go_sem, reduceIte, reduceCtorEq, Nat.reduceEqDiff, Nat.reduceLT, Nat.reduceLeDiff, Nat.reduceAdd, Nat.reduceBEq, Nat.reduceMul, Int.reduceToNat, Int.reduceLE, Int.reduceLT, Int.reduceEq, Int.reduceNeg]
        try simp (config := { maxSteps := 10000000 }) only [go_sem, reduceIte, reduceCtorEq, Nat.reduceEqDiff, Nat.reduceLT, Nat.reduceLeDiff, Nat.reduceAdd, Nat.reduceBEq, Nat.reduceMul, Int.reduceToNat, Int.reduceLE, Int.reduceLT, Int.reduceEq, Int.reduceNeg, hs']
        repeat (refine And.intro (by first | omega | (constructor <;> omega) | kernel_rfl) ?_)
        refine CallW.mk (l04Cmp_fn p q hp hq) ?_
        try simp (config := { maxSteps := 10000000 }) only [go_sem, reduceIte, reduceCtorEq, Nat.reduceEqDiff, Nat.reduceLT, Nat.reduceLeDiff, Nat.reduceAdd, Nat.reduceBEq, Nat.reduceMul, Int.reduceToNat, Int.reduceLE, Int.reduceLT, Int.reduceEq, Int.reduceNeg]
        try simp (config := { maxSteps := 10000000 }) only [go_sem, reduceIte, reduceCtorEq, Nat.reduceEqDiff, Nat.reduceLT, Nat.reduceLeDiff, Nat.reduceAdd, Nat.reduceBEq, Nat.reduceMul, Int.reduceToNat, Int.reduceLE, Int.reduceLT, Int.reduceEq, Int.reduceNeg, h]
        repeat (refine And.intro (by first | omega | (constructor <;> omega) | kernel_rfl) ?_)
        refine CallW.mk (copyD_fn p hp) ?_
        try simp (config := { maxSteps := 10000000 }) only [go_sem, reduceIte, reduceCtorEq, Nat.reduceEqDiff, Nat.reduceLT, Nat.reduceLeDiff, Nat.reduceAdd, Nat.reduceBEq, Nat.reduceMul, Int.reduceToNat, Int.reduceLE, Int.reduceLT, Int.reduceEq, Int.reduceNeg]
      · have e3 : maxO (some p) (some q) = some q := if_neg h
        rw [e3]
        refine fn_enter tabOK mixes Try.func80 rfl rfl _ Try.ntmps80 _ Try.results80 (by simp) fun hwf => ?_
        try simp (config := { maxSteps := 10000000 }) only [go_sem, reduceIte, reduceCtorEq, Nat.reduceEqDiff, Nat.reduceLT, Nat.reduceLeDiff, Nat.reduceAdd, Nat.reduceBEq, Nat.reduceMul, Int.reduceToNat, Int.reduceLE, Int.reduceLT, Int.reduceEq, Int.reduceNeg]
        repeat (refine And.intro (by first | omega | (constructor <;> omega) | kernel_rfl) ?_)
        refine CallW.mk (specRatOk_fn (ratD p)) ?_
        try simp (config := { maxSteps := 10000000 }) only [go_sem, reduceIte, reduceCtorEq, Nat.reduceEqDiff, Nat.reduceLT, Nat.reduceLeDiff, Nat.reduceAdd, Nat.reduceBEq, Nat.reduceMul, Int.reduceToNat, Int.reduceLE, Int.reduceLT, Int.reduceEq, Int.reduceNeg]
        try simp (config := { maxSteps := 10000000 }) only [go_sem, reduceIte, reduceCtorEq, Nat.reduceEqDiff, Nat.reduceLT, Nat.reduceLeDiff, Nat.reduceAdd, Nat.reduceBEq, Nat.reduceMul, Int.reduceToNat, Int.reduceLE, Int.reduceLT, Int.reduceEq, Int.reduceNeg, hr']
        repeat (refine And.intro (by first | omega | (constructor <;> omega) | kernel_rfl) ?_)
        refine CallW.mk (specRatOk_fn (ratD q)) ?_
        try simp (config := { maxSteps := 10000000 }) only [go_sem, reduceIte, reduceCtorEq, Nat.reduceEqDiff, Nat.reduceLT, Nat.reduceLeDiff, Nat.reduceAdd, Nat.reduceBEq, Nat.reduceMul, Int.reduceToNat, Int.reduceLE, Int.reduceLT, Int.reduceEq, Int.reduceNeg]
        try simp (config := { maxSteps := 10000000 }) only [go_sem, reduceIte, reduceCtorEq, Nat.reduceEqDiff, Nat.reduceLT, Nat.reduceLeDiff, Nat.reduceAdd, Nat.reduceBEq, Nat.reduceMul, Int.reduceToNat, Int.reduceLE, Int.reduceLT, Int.reduceEq, Int.reduceNeg, hs']
        repeat (refine And.intro (by first | omega | (constructor <;> omega) | kernel_rfl) ?_)
        refine CallW.mk (l04Cmp_fn p q hp hq) ?_
        try simp (config := { maxSteps := 10000000 }) only [go_sem, reduceIte, reduceCtorEq, Nat.reduceEqDiff, Nat.reduceLT, Nat.reduceLeDiff, Nat.reduceAdd, Nat.reduceBEq, Nat.reduceMul, Int.reduceToNat, Int.reduceLE, Int.reduceLT, Int.reduceEq, Int.reduceNeg]
        try simp (config := { maxSteps := 10000000 }) only [go_sem, reduceIte, reduceCtorEq, Nat.reduceEqDiff, Nat.reduceLT, Nat.reduceLeDiff, Nat.reduceAdd, Nat.reduceBEq, Nat.reduceMul, Int.reduceToNat, Int.reduceLE, Int.reduceLT, Int.reduceEq, Int.reduceNeg, h]
        repeat (refine And.intro (by first | omega | (constructor <;> omega) | kernel_rfl) ?_)
        refine CallW.mk (copyD_fn q hq) ?_
        try simp (config := { maxSteps := 10000000 }) only [go_sem, reduceIte, reduceCtorEq, Nat.reduceEqDiff, Nat.reduceLT, Nat.reduceLeDiff, Nat.reduceAdd, Nat.reduceBEq, Nat.reduceMul, Int.reduceToNat, Int.reduceLE, Int.reduceLT, Int.reduceEq, Int.reduceNeg]
theorem specRatSign_fn (r : DR) : Fn Try.prog 124 [⟨tRat, r⟩] false [⟨.int, sgnO (rdO r)⟩] := by
  cases hr : okR r
  · rw [okR_f hr]
    refine fn_enter tabOK mixes Try.func124 rfl rfl _ Try.ntmps124 _ Try.results124 (by simp) fun hwf => ?_
    try simp (config := { maxSteps := 10000000 }) only [go_sem, reduceIte, reduceCtorEq, Nat.reduceEqDiff, Nat.reduceLT, Nat.reduceLeDiff, Nat.reduceAdd, Nat.reduceBEq, Nat.reduceMul, Int.reduceToNat, Int.reduceLE, Int.reduceLT, Int.reduceEq, Int.reduceNeg]
    repeat (refine And.intro (by first | omega | (constructor <;> omega) | kernel_rfl) ?_)
    refine CallW.mk (specRatOk_fn r) ?_
    try simp (config := { maxSteps := 10000000 }) only [go_sem, reduceIte, reduceCtorEq, Nat.reduceEqDiff, Nat.reduceLT, Nat.reduceLeDiff, Nat.reduceAdd, Nat.reduceBEq, Nat.reduceMul, Int.reduceToNat, Int.reduceLE, Int.reduceLT, Int.reduceEq, Int.reduceNeg]
    try simp (config := { maxSteps := 10000000 }) only [go_sem, reduceIte, reduceCtorEq, Nat.reduceEqDiff, Nat.reduceLT, Nat.reduceLeDiff, Nat.reduceAdd, Nat.reduceBEq, Nat.reduceMul, Int.reduceToNat, Int.reduceLE, Int.reduceLT, Int.reduceEq, Int.reduceNeg, hr]
    rfl
  · obtain ⟨p, hp, rfl, e1⟩ := okR_t hr
    rw [e1]
    have hr' : okR ((decide (p.num < 0), natL p.num.natAbs), natL p.den) = true := hr
    have e : sgnO (some p) = cmpZ p.num 0 := cmpQ_zero p
    rw [e]
    by_cases h0 : (nl p.num.natAbs : Int) = 0
    · have : p.num = 0 := by have := nl_eq_zero.1 (show nl p.num.natAbs = 0 by omega); omega
      refine fn_enter tabOK mixes Try.func124 rfl rfl _ Try.ntmps124 _ Try.results124 (by simp) fun hwf => ?_
      try simp (config := { maxSteps := 10000000 }) only [go_sem, reduceIte, reduceCtorEq, Nat.reduceEqDiff, Nat.reduceLT, Nat.reduceLeDiff, Nat.reduceAdd, Nat.reduceBEq, Nat.reduceMul, Int.reduceToNat, Int.reduceLE, Int.reduceLT, Int.reduceEq, Int.reduceNeg]
      repeat (refine And.intro (by first | omega | (constructor <;> omega) | kernel_rfl) ?_)
      refine CallW.mk (specRatOk_fn (ratD p)) ?_
      try simp (config := { maxSteps := 10000000 }) only [go_sem, reduceIte, reduceCtorEq, Nat.reduceEqDiff, Nat.reduceLT, Nat.reduceLeDiff, Nat.reduceAdd, Nat.reduceBEq, Nat.reduceMul, Int.reduceToNat, Int.reduceLE, Int.reduceLT, Int.reduceEq, Int.reduceNeg]
      try simp (config := { maxSteps := 10000000 }) only [go_sem, reduceIte, reduceCtorEq, Nat.reduceEqDiff, Nat.reduceLT, Nat.reduceLeDiff, Nat.reduceAdd, Nat.reduceBEq, Nat.reduceMul, Int.reduceToNat, Int.reduceLE, Int.reduceLT, Int.reduceEq, Int.reduceNeg, hr']
      try simp (config := { maxSteps := 10000000 }) only [go_sem, reduceIte, reduceCtorEq, Nat.reduceEqDiff, Nat.reduceLT, Nat.reduceLeDiff, Nat.reduceAdd, Nat.reduceBEq, Nat.reduceMul, Int.reduceToNat, Int.reduceLE, Int.reduceLT, Int.reduceEq, Int.reduceNeg, h0]
      simp [cmpZ, this]
    · have h1 : p.num ≠ 0 := fun h => h0 (by rw [h]; simp [nl_zero])
      by_cases h2 : p.num < 0
      · refine fn_enter tabOK mixes Try.func124 rfl rfl _ Try.ntmps124 _ Try.results124 (by simp) fun hwf => ?_
        try simp (config := { maxSteps := 10000000 }) only [go_sem, reduceIte, reduceCtorEq, Nat.reduceEqDiff, Nat.reduceLT, Nat.reduceLeDiff, Nat.reduceAdd, Nat.reduceBEq, Nat.reduceMul, Int.reduceToNat, Int.reduceLE, Int.reduceLT, Int.reduceEq, Int.reduceNeg]
        repeat (refine And.intro (by first | omega | (constructor <;> omega) | kernel_rfl) ?_)
        refine CallW.mk (specRatOk_fn (ratD p)) ?_
        try simp (config := { maxSteps := 10000000 }) only [go_sem, reduceIte, reduceCtorEq, Nat.reduceEqDiff, Nat.reduceLT, Nat.reduceLeDiff, Nat.reduceAdd, Nat.reduceBEq, Nat.reduceMul, Int.reduceToNat, Int.reduceLE, Int.reduceLT, Int.reduceEq, Int.reduceNeg]
        try simp (config := { maxSteps := 10000000 }) only [go_sem, reduceIte, reduceCtorEq, Nat.reduceEqDiff, Nat.reduceLT, Nat.reduceLeDiff, Nat.reduceAdd, Nat.reduceBEq, Nat.reduceMul, Int.reduceToNat, Int.reduceLE, Int.reduceLT, Int.reduceEq, Int.reduceNeg, hr']
        try simp (config := { maxSteps := 10000000 }) only [go_sem, reduceIte, reduceCtorEq, Nat.reduceEqDiff, Nat.reduceLT, Nat.reduceLeDiff, Nat.reduceAdd, Nat.reduceBEq, Nat.reduceMul, Int.reduceToNat, Int.reduceLE, Int.reduceLT, Int.reduceEq, Int.reduceNeg, h0, h2]
        simp [cmpZ, h2]
      · have h3 : 0 < p.num := by omega
        refine fn_enter tabOK mixes Try.func124 rfl rfl _ Try.ntmps124 _ Try.results124 (by simp) fun hwf => ?_
        try simp (config := { maxSteps := 10000000 }) only [go_sem, reduceIte, reduceCtorEq, Nat.reduceEqDiff, Nat.reduceLT, Nat.reduceLeDiff, Nat.reduceAdd, Nat.reduceBEq, Nat.reduceMul, Int.reduceToNat, Int.reduceLE, Int.reduceLT, Int.reduceEq, Int.reduceNeg]
        repeat (refine And.intro (by first | omega | (constructor <;> omega) | kernel_rfl) ?_)
        refine CallW.mk (specRatOk_fn (ratD p)) ?_
        try simp (config := { maxSteps := 10000000 }) only [go_sem, reduceIte, reduceCtorEq, Nat.reduceEqDiff, Nat.reduceLT, Nat.reduceLeDiff, Nat.reduceAdd, Nat.reduceBEq, Nat.reduceMul, Int.reduceToNat, Int.reduceLE, Int.reduceLT, Int.reduceEq, Int.reduceNeg]
        try simp (config := { maxSteps := 10000000 }) only [go_sem, reduceIte, reduceCtorEq, Nat.reduceEqDiff, Nat.reduceLT, Nat.reduceLeDiff, Nat.reduceAdd, Nat.reduceBEq, Nat.reduceMul, Int.reduceToNat, Int.reduceLE, Int.reduceLT, Int.reduceEq, Int.reduceNeg, hr']
        try simp (config := { maxSteps := 10000000 }) only [go_sem, reduceIte, reduceCtorEq, Nat.reduceEqDiff, Nat.reduceLT, Nat.reduceLeDiff, Nat.reduceAdd, Nat.reduceBEq, Nat.reduceMul, Int.reduceToNat, Int.reduceLE, Int.reduceLT, Int.reduceEq, Int.reduceNeg, h0, h2]
        simp [cmpZ, h2, h3]
theorem sgn_negZ (z : Int) : sgn (!decide (z < 0)) z.natAbs = -z := by
  unfold sgn
  by_cases h : z < 0
  · simp [h]; omega
  · simp [h]; omega
theorem l04Neg_fn (p : Rat) (hp : small p) : Fn Try.prog 118 [⟨tRat, ratD p⟩] true [⟨tRat, ratD (-p)⟩] := by
  obtain ⟨p1, p2⟩ := hp
  refine fn_enter tabOK mixes Try.func118 rfl rfl _ Try.ntmps118 _ Try.results118 (by simp) fun hwf => ?_
  try simp (config := { maxSteps := 10000000 }) only [go_sem, reduceIte, reduceCtorEq, Nat.reduceEqDiff, Nat.reduceLT, Nat.reduceLeDiff, Nat.reduceAdd, Nat.reduceBEq, Nat.reduceMul, Int.reduceToNat, Int.reduceLE, Int.reduceLT, Int.reduceEq, Int.reduceNeg]
  repeat (refine And.intro (by first | omega | (constructor <;> omega) | kernel_rfl) ?_)
  refine CallW.mk (l03Make_to (sgn_negZ p.num) (by omega)) ?_
  try simp (config := { maxSteps := 10000000 }) only [go_sem, reduceIte, reduceCtorEq, Nat.reduceEqDiff, Nat.reduceLT, Nat.reduceLeDiff, Nat.reduceAdd, Nat.reduceBEq, Nat.reduceMul, Int.reduceToNat, Int.reduceLE, Int.reduceLT, Int.reduceEq, Int.reduceNeg]
  try simp (config := { maxSteps := 10000000 }) only [go_sem, reduceIte, reduceCtorEq, Nat.reduceEqDiff, Nat.reduceLT, Nat.reduceLeDiff, Nat.reduceAdd, Nat.reduceBEq, Nat.reduceMul, Int.reduceToNat, Int.reduceLE, Int.reduceLT, Int.reduceEq, Int.reduceNeg, Rat.neg_num, Rat.neg_den]
  all_goals repeat (refine And.intro (by first | omega | (constructor <;> omega) | kernel_rfl) ?_)
  all_goals first | kernel_rfl | omega | rfl
theorem natL_1 : natL 1 = [1] := natL_one (by decide) (by decide)
theorem l04Add_fn (p q : Rat) (hp : small p) (hq : small q) : Fn Try.prog 117 [⟨tRat, ratD p⟩, ⟨tRat, ratD q⟩] true [⟨tRat, oD (capR (p + q))⟩] := by
  obtain ⟨p1, p2⟩ := hp
  obtain ⟨q1, q2⟩ := hq
  have b1 := nl_mulZ p.num q.den
  have b2 := nl_mulZ q.num p.den
  have b3 := nl_addZ (p.num * q.den) (q.num * p.den)
  have b4 := nl_mul p.den q.den
  have b5 := nl_mul p.num.natAbs q.den
  have b6 := nl_mul q.num.natAbs p.den
  have b7 := nl_addZ p.num q.num
  have hl := l04Low_fn (decide (p.num * q.den + q.num * p.den < 0)) (p.num * q.den + q.num * p.den).natAbs (p.den * q.den) (den_mul_ne p q) (by omega) (by omega)
  rw [sgn_bigD, ← add_mk] at hl
  by_cases h1 : p.den = 1
  · by_cases h2 : q.den = 1
    · have hl1 := l04Low_fn (decide (p.num + q.num < 0)) (p.num + q.num).natAbs 1 (by decide) (by omega) (by have := nl_small (n := 1) (by decide); omega)
      have e : _root_.mkRat (p.num + q.num) 1 = p + q := by rw [add_mk, h1, h2]; simp
      rw [sgn_bigD, natL_1, e] at hl1
      have d1 : decide (p.den = 1) = true := decide_eq_true h1
      have d2 : decide (q.den = 1) = true := decide_eq_true h2
      refine fn_enter tabOK mixes Try.func117 rfl rfl _ Try.ntmps117 _ Try.results117 (by simp) fun hwf => ?_
      try simp (config := { maxSteps := 10000000 }) only [go_sem, reduceIte, reduceCtorEq, Nat.reduceEqDiff, Nat.reduceLT, Nat.reduceLeDiff, Nat.reduceAdd, Nat.reduceBEq, Nat.reduceMul, Int.reduceToNat, Int.reduceLE, Int.reduceLT, Int.reduceEq, Int.reduceNeg]
      repeat (refine And.intro (by first | omega | (constructor <;> omega) | kernel_rfl) ?_)
      refine CallW.mk (l04One_fn p.den) ?_
      try simp (config := { maxSteps := 10000000 }) only [go_sem, reduceIte, reduceCtorEq, Nat.reduceEqDiff, Nat.reduceLT, Nat.reduceLeDiff, Nat.reduceAdd, Nat.reduceBEq, Nat.reduceMul, Int.reduceToNat, Int.reduceLE, Int.reduceLT, Int.reduceEq, Int.reduceNeg]
      try simp (config := { maxSteps := 10000000 }) only [go_sem, reduceIte, reduceCtorEq, Nat.reduceEqDiff, Nat.reduceLT, Nat.reduceLeDiff, Nat.reduceAdd, Nat.reduceBEq, Nat.reduceMul, Int.reduceToNat, Int.reduceLE, Int.reduceLT, Int.reduceEq, Int.reduceNeg, d1]
      repeat (refine And.intro (by first | omega | (constructor <;> omega) | kernel_rfl) ?_)
      refine CallW.mk (l04One_fn q.den) ?_
      try simp (config := { maxSteps := 10000000 }) only [go_sem, reduceIte, reduceCtorEq, Nat.reduceEqDiff, Nat.reduceLT, Nat.reduceLeDiff, Nat.reduceAdd, Nat.reduceBEq, Nat.reduceMul, Int.reduceToNat, Int.reduceLE, Int.reduceLT, Int.reduceEq, Int.reduceNeg]
      try simp (config := { maxSteps := 10000000 }) only [go_sem, reduceIte, reduceCtorEq, Nat.reduceEqDiff, Nat.reduceLT, Nat.reduceLeDiff, Nat.reduceAdd, Nat.reduceBEq, Nat.reduceMul, Int.reduceToNat, Int.reduceLE, Int.reduceLT, Int.reduceEq, Int.reduceNeg, d2]
      repeat (refine And.intro (by first | omega | (constructor <;> omega) | kernel_rfl) ?_)
      refine CallW.mk (l03Add_fn p.num q.num (by omega) (by omega)) ?_
      try simp (config := { maxSteps := 10000000 }) only [go_sem, reduceIte, reduceCtorEq, Nat.reduceEqDiff, Nat.reduceLT, Nat.reduceLeDiff, Nat.reduceAdd, Nat.reduceBEq, Nat.reduceMul, Int.reduceToNat, Int.reduceLE, Int.reduceLT, Int.reduceEq, Int.reduceNeg]
      repeat (refine And.intro (by first | omega | (constructor <;> omega) | kernel_rfl) ?_)
      refine CallW.mk (hl1) ?_
      try simp (config := { maxSteps := 10000000 }) only [go_sem, reduceIte, reduceCtorEq, Nat.reduceEqDiff, Nat.reduceLT, Nat.reduceLeDiff, Nat.reduceAdd, Nat.reduceBEq, Nat.reduceMul, Int.reduceToNat, Int.reduceLE, Int.reduceLT, Int.reduceEq, Int.reduceNeg]
      all_goals repeat (refine And.intro (by first | omega | (constructor <;> omega) | kernel_rfl) ?_)
      all_goals first | kernel_rfl | omega | rfl
    · have d1 : decide (p.den = 1) = true := decide_eq_true h1
      have d2 : decide (q.den = 1) = false := decide_eq_false h2
      refine fn_enter tabOK mixes Try.func117 rfl rfl _ Try.ntmps117 _ Try.results117 (by simp) fun hwf => ?_
      try simp (config := { maxSteps := 10000000 }) only [go_sem, reduceIte, reduceCtorEq, Nat.reduceEqDiff, Nat.reduceLT, Nat.reduceLeDiff, Nat.reduceAdd, Nat.reduceBEq, Nat.reduceMul, Int.reduceToNat, Int.reduceLE, Int.reduceLT, Int.reduceEq, Int.reduceNeg]
      repeat (refine And.intro (by first | omega | (constructor <;> omega) | kernel_rfl) ?_)
      refine CallW.mk (l04One_fn p.den) ?_
      try simp (config := { maxSteps := 10000000 }) only [go_sem, reduceIte, reduceCtorEq, Nat.reduceEqDiff, Nat.reduceLT, Nat.reduceLeDiff, Nat.reduceAdd, Nat.reduceBEq, Nat.reduceMul, Int.reduceToNat, Int.reduceLE, Int.reduceLT, Int.reduceEq, Int.reduceNeg]
      try simp (config := { maxSteps := 10000000 }) only [go_sem, reduceIte, reduceCtorEq, Nat.reduceEqDiff, Nat.reduceLT, Nat.reduceLeDiff, Nat.reduceAdd, Nat.reduceBEq, Nat.reduceMul, Int.reduceToNat, Int.reduceLE, Int.reduceLT, Int.reduceEq, Int.reduceNeg, d1]
      repeat (refine And.intro (by first | omega | (constructor <;> omega) | kernel_rfl) ?_)
      refine CallW.mk (l04One_fn q.den) ?_
      try simp (config := { maxSteps := 10000000 }) only [go_sem, reduceIte, reduceCtorEq, Nat.reduceEqDiff, Nat.reduceLT, Nat.reduceLeDiff, Nat.reduceAdd, Nat.reduceBEq, Nat.reduceMul, Int.reduceToNat, Int.reduceLE, Int.reduceLT, Int.reduceEq, Int.reduceNeg]
      try simp (config := { maxSteps := 10000000 }) only [go_sem, reduceIte, reduceCtorEq, Nat.reduceEqDiff, Nat.reduceLT, Nat.reduceLeDiff, Nat.reduceAdd, Nat.reduceBEq, Nat.reduceMul, Int.reduceToNat, Int.reduceLE, Int.reduceLT, Int.reduceEq, Int.reduceNeg, d2]
      repeat (refine And.intro (by first | omega | (constructor <;> omega) | kernel_rfl) ?_)
      refine CallW.mk (l02Mul_fn p.num.natAbs q.den (by omega) (by omega)) ?_
      try simp (config := { maxSteps := 10000000 }) only [go_sem, reduceIte, reduceCtorEq, Nat.reduceEqDiff, Nat.reduceLT, Nat.reduceLeDiff, Nat.reduceAdd, Nat.reduceBEq, Nat.reduceMul, Int.reduceToNat, Int.reduceLE, Int.reduceLT, Int.reduceEq, Int.reduceNeg]
      repeat (refine And.intro (by first | omega | (constructor <;> omega) | kernel_rfl) ?_)
      refine CallW.mk (l03Make_to (sgn_mulN p.num q.den) (by omega)) ?_
      try simp (config := { maxSteps := 10000000 }) only [go_sem, reduceIte, reduceCtorEq, Nat.reduceEqDiff, Nat.reduceLT, Nat.reduceLeDiff, Nat.reduceAdd, Nat.reduceBEq, Nat.reduceMul, Int.reduceToNat, Int.reduceLE, Int.reduceLT, Int.reduceEq, Int.reduceNeg]
      repeat (refine And.intro (by first | omega | (constructor <;> omega) | kernel_rfl) ?_)
      refine CallW.mk (l02Mul_fn q.num.natAbs p.den (by omega) (by omega)) ?_
      try simp (config := { maxSteps := 10000000 }) only [go_sem, reduceIte, reduceCtorEq, Nat.reduceEqDiff, Nat.reduceLT, Nat.reduceLeDiff, Nat.reduceAdd, Nat.reduceBEq, Nat.reduceMul, Int.reduceToNat, Int.reduceLE, Int.reduceLT, Int.reduceEq, Int.reduceNeg]
      repeat (refine And.intro (by first | omega | (constructor <;> omega) | kernel_rfl) ?_)
      refine CallW.mk (l03Make_to (sgn_mulN q.num p.den) (by omega)) ?_
      try simp (config := { maxSteps := 10000000 }) only [go_sem, reduceIte, reduceCtorEq, Nat.reduceEqDiff, Nat.reduceLT, Nat.reduceLeDiff, Nat.reduceAdd, Nat.reduceBEq, Nat.reduceMul, Int.reduceToNat, Int.reduceLE, Int.reduceLT, Int.reduceEq, Int.reduceNeg]
      repeat (refine And.intro (by first | omega | (constructor <;> omega) | kernel_rfl) ?_)
      refine CallW.mk (l03Add_fn (p.num * q.den) (q.num * p.den) (by omega) (by omega)) ?_
      try simp (config := { maxSteps := 10000000 }) only [go_sem, reduceIte, reduceCtorEq, Nat.reduceEqDiff, Nat.reduceLT, Nat.reduceLeDiff, Nat.reduceAdd, Nat.reduceBEq, Nat.reduceMul, Int.reduceToNat, Int.reduceLE, Int.reduceLT, Int.reduceEq, Int.reduceNeg]
      repeat (refine And.intro (by first | omega | (constructor <;> omega) | kernel_rfl) ?_)
      refine CallW.mk (l02Mul_fn p.den q.den (by omega) (by omega)) ?_
      try simp (config := { maxSteps := 10000000 }) only [go_sem, reduceIte, reduceCtorEq, Nat.reduceEqDiff, Nat.reduceLT, Nat.reduceLeDiff, Nat.reduceAdd, Nat.reduceBEq, Nat.reduceMul, Int.reduceToNat, Int.reduceLE, Int.reduceLT, Int.reduceEq, Int.reduceNeg]
      repeat (refine And.intro (by first | omega | (constructor <;> omega) | kernel_rfl) ?_)
      refine CallW.mk (hl) ?_
      try simp (config := { maxSteps := 10000000 }) only [go_sem, reduceIte, reduceCtorEq, Nat.reduceEqDiff, Nat.reduceLT, Nat.reduceLeDiff, Nat.reduceAdd, Nat.reduceBEq, Nat.reduceMul, Int.reduceToNat, Int.reduceLE, Int.reduceLT, Int.reduceEq, Int.reduceNeg]
      all_goals repeat (refine And.intro (by first | omega | (constructor <;> omega) | kernel_rfl) ?_)
      all_goals first | kernel_rfl | omega | rfl
  · have d1 : decide (p.den = 1) = false := decide_eq_false h1
    refine fn_enter tabOK mixes Try.func117 rfl rfl _ Try.ntmps117 _ Try.results117 (by simp) fun hwf => ?_
    try simp (config := { maxSteps := 10000000 }) only [go_sem, reduceIte, reduceCtorEq, Nat.reduceEqDiff, Nat.reduceLT, Nat.reduceLeDiff, Nat.reduceAdd, Nat.reduceBEq, Nat.reduceMul, Int.reduceToNat, Int.reduceLE, Int.reduceLT, Int.reduceEq, Int.reduceNeg]
    repeat (refine And.intro (by first | omega | (constructor <;> omega) | kernel_rfl) ?_)
    refine CallW.mk (l04One_fn p.den) ?_
    try simp (config := { maxSteps := 10000000 }) only [go_sem, reduceIte, reduceCtorEq, Nat.reduceEqDiff, Nat.reduceLT, Nat.reduceLeDiff, Nat.reduceAdd, Nat.reduceBEq, Nat.reduceMul, Int.reduceToNat, Int.reduceLE, Int.reduceLT, Int.reduceEq, Int.reduceNeg]
    try simp (config := { maxSteps := 10000000 }) only [go_sem, reduceIte, reduceCtorEq, Nat.reduceEqDiff, Nat.reduceLT, Nat.reduceLeDiff, Nat.reduceAdd, Nat.reduceBEq, Nat.reduceMul, Int.reduceToNat, Int.reduceLE, Int.reduceLT, Int.reduceEq, Int.reduceNeg, d1]
    repeat (refine And.intro (by first | omega | (constructor <;> omega) | kernel_rfl) ?_)
    refine CallW.mk (l02Mul_fn p.num.natAbs q.den (by omega) (by omega)) ?_
    try simp (config := { maxSteps := 10000000 }) only [go_sem, reduceIte, reduceCtorEq, Nat.reduceEqDiff, Nat.reduceLT, Nat.reduceLeDiff, Nat.reduceAdd, Nat.reduceBEq, Nat.reduceMul, Int.reduceToNat, Int.reduceLE, Int.reduceLT, Int.reduceEq, Int.reduceNeg]
    repeat (refine And.intro (by first | omega | (constructor <;> omega) | kernel_rfl) ?_)
    refine CallW.mk (l03Make_to (sgn_mulN p.num q.den) (by omega)) ?_
    try simp (config := { maxSteps := 10000000 }) only [go_sem, reduceIte, reduceCtorEq, Nat.reduceEqDiff, Nat.reduceLT, Nat.reduceLeDiff, Nat.reduceAdd, Nat.reduceBEq, Nat.reduceMul, Int.reduceToNat, Int.reduceLE, Int.reduceLT, Int.reduceEq, Int.reduceNeg]
    repeat (refine And.intro (by first | omega | (constructor <;> omega) | kernel_rfl) ?_)
    refine CallW.mk (l02Mul_fn q.num.natAbs p.den (by omega) (by omega)) ?_
    try simp (config := { maxSteps := 10000000 }) only [go_sem, reduceIte, reduceCtorEq, Nat.reduceEqDiff, Nat.reduceLT, Nat.reduceLeDiff, Nat.reduceAdd, Nat.reduceBEq, Nat.reduceMul, Int.reduceToNat, Int.reduceLE, Int.reduceLT, Int.reduceEq, Int.reduceNeg]
    repeat (refine And.intro (by first | omega | (constructor <;> omega) | kernel_rfl) ?_)
    refine CallW.mk (l03Make_to (sgn_mulN q.num p.den) (by omega)) ?_
    try simp (config := { maxSteps := 10000000 }) only [go_sem, reduceIte, reduceCtorEq, Nat.reduceEqDiff, Nat.reduceLT, Nat.reduceLeDiff, Nat.reduceAdd, Nat.reduceBEq, Nat.reduceMul, Int.reduceToNat, Int.reduceLE, Int.reduceLT, Int.reduceEq, Int.reduceNeg]
    repeat (refine And.intro (by first | omega | (constructor <;> omega) | kernel_rfl) ?_)
    refine CallW.mk (l03Add_fn (p.num * q.den) (q.num * p.den) (by omega) (by omega)) ?_
    try simp (config := { maxSteps := 10000000 }) only [go_sem, reduceIte, reduceCtorEq, Nat.reduceEqDiff, Nat.reduceLT, Nat.reduceLeDiff, Nat.reduceAdd, Nat.reduceBEq, Nat.reduceMul, Int.reduceToNat, Int.reduceLE, Int.reduceLT, Int.reduceEq, Int.reduceNeg]
    repeat (refine And.intro (by first | omega | (constructor <;> omega) | kernel_rfl) ?_)
    refine CallW.mk (l02Mul_fn p.den q.den (by omega) (by omega)) ?_
    try simp (config := { maxSteps := 10000000 }) only [go_sem, reduceIte, reduceCtorEq, Nat.reduceEqDiff, Nat.reduceLT, Nat.reduceLeDiff, Nat.reduceAdd, Nat.reduceBEq, Nat.reduceMul, Int.reduceToNat, Int.reduceLE, Int.reduceLT, Int.reduceEq, Int.reduceNeg]
    repeat (refine And.intro (by first | omega | (constructor <;> omega) | kernel_rfl) ?_)
    refine CallW.mk (hl) ?_
    try simp (config := { maxSteps := 10000000 }) only [go_sem, reduceIte, reduceCtorEq, Nat.reduceEqDiff, Nat.reduceLT, Nat.reduceLeDiff, Nat.reduceAdd, Nat.reduceBEq, Nat.reduceMul, Int.reduceToNat, Int.reduceLE, Int.reduceLT, Int.reduceEq, Int.reduceNeg]
    all_goals repeat (refine And.intro (by first | omega | (constructor <;> omega) | kernel_rfl) ?_)
    all_goals first | kernel_rfl | omega | rfl
end Go.Proofs.Ytjkbecgenjhaaaa.DW

/-
  Lists of fractions: validity, comparison, the greatest one.
-/
namespace Go.Proofs.Ytjkbecgenjhaaaa.DW
open Go.RowKit
theorem indexFunc_rat_fn (F : FuncId) (p : DR → Bool) (hF : ∀ x : DR, Fn Try.prog F [⟨tRat, x⟩] false [⟨.bool, p x⟩]) (l : List DR) : Fn Try.prog 140 [⟨.slice tRat, l⟩, ⟨.cst (.fn F), ()⟩] false [⟨.int, ixf (t := tRat) p l⟩] := by
  refine fn_enter tabOK mixes Try.func140 rfl rfl _ Try.ntmps140 _ Try.results140 (by simp) fun hwf => ?_
  have hl : l.length ≤ 9223372036854775807 := (hwf ⟨.slice tRat, l⟩ (by simp)).1
  try simp (config := { maxSteps := 10000000 }) only [go_sem, reduceIte, reduceCtorEq, Nat.reduceEqDiff, Nat.reduceLT, Nat.reduceLeDiff, Nat.reduceAdd, Nat.reduceBEq, Nat.reduceMul, Int.reduceToNat, Int.reduceLE, Int.reduceLT, Int.reduceEq, Int.reduceNeg]
  refine LoopG.intro _ _ _ (fun i : Nat => ⟨[(0, .sl tRat l), (1, .sc (.func (.func F) #[] #[])), (7, .sc (.int .i64 l.length)), (8, .sc (.int .i64 i))], []⟩) (fun i => ∀ j < i, j < l.length → p (nth (t := tRat) l j) = false) (fun i => l.length - i) 0 ?_ (fun j h => by simp at h) ?_
  · refine Wk.mk [] ?_
    try simp (config := { maxSteps := 10000000 }) only [go_sem, reduceIte, reduceCtorEq, Nat.reduceEqDiff, Nat.reduceLT, Nat.reduceLeDiff, Nat.reduceAdd, Nat.reduceBEq, Nat.reduceMul, Int.reduceToNat, Int.reduceLE, Int.reduceLT, Int.reduceEq, Int.reduceNeg]
    try (and_intros <;> first | rfl | omega | exact ⟨_, rfl⟩)
  · rintro i h2
    try simp (config := { maxSteps := 10000000 }) only [go_sem, reduceIte, reduceCtorEq, Nat.reduceEqDiff, Nat.reduceLT, Nat.reduceLeDiff, Nat.reduceAdd, Nat.reduceBEq, Nat.reduceMul, Int.reduceToNat, Int.reduceLE, Int.reduceLT, Int.reduceEq, Int.reduceNeg]
    refine CondW_dec (fun h3 => ?_) (fun h3 => ?_)
    · try simp (config := { maxSteps := 10000000 }) only [go_sem, reduceIte, reduceCtorEq, Nat.reduceEqDiff, Nat.reduceLT, Nat.reduceLeDiff, Nat.reduceAdd, Nat.reduceBEq, Nat.reduceMul, Int.reduceToNat, Int.reduceLE, Int.reduceLT, Int.reduceEq, Int.reduceNeg]
      repeat (refine And.intro (by first | omega | (constructor <;> omega) | kernel_rfl) ?_)
      repeat (refine And.intro (by first | omega | (constructor <;> omega) | kernel_rfl) ?_)
      refine CallW.mk (hF (nth (t := tRat) l i)) ?_
      try simp (config := { maxSteps := 10000000 }) only [go_sem, reduceIte, reduceCtorEq, Nat.reduceEqDiff, Nat.reduceLT, Nat.reduceLeDiff, Nat.reduceAdd, Nat.reduceBEq, Nat.reduceMul, Int.reduceToNat, Int.reduceLE, Int.reduceLT, Int.reduceEq, Int.reduceNeg]
      refine CondW_b (fun h4 => ?_) (fun h4 => ?_)
      · try simp (config := { maxSteps := 10000000 }) only [go_sem, reduceIte, reduceCtorEq, Nat.reduceEqDiff, Nat.reduceLT, Nat.reduceLeDiff, Nat.reduceAdd, Nat.reduceBEq, Nat.reduceMul, Int.reduceToNat, Int.reduceLE, Int.reduceLT, Int.reduceEq, Int.reduceNeg]
        exact (ixf_at (by omega) h4 (fun j hj => h2 j hj (by omega))).symm
      · try simp (config := { maxSteps := 10000000 }) only [go_sem, reduceIte, reduceCtorEq, Nat.reduceEqDiff, Nat.reduceLT, Nat.reduceLeDiff, Nat.reduceAdd, Nat.reduceBEq, Nat.reduceMul, Int.reduceToNat, Int.reduceLE, Int.reduceLT, Int.reduceEq, Int.reduceNeg]
        repeat (refine And.intro (by first | omega | (constructor <;> omega) | kernel_rfl) ?_)
        refine LoopK.mk (i + 1) ?_ (fun j hj hl => ?_) (by omega)
        · refine Wk.mk [] ?_
          try simp (config := { maxSteps := 10000000 }) only [go_sem, reduceIte, reduceCtorEq, Nat.reduceEqDiff, Nat.reduceLT, Nat.reduceLeDiff, Nat.reduceAdd, Nat.reduceBEq, Nat.reduceMul, Int.reduceToNat, Int.reduceLE, Int.reduceLT, Int.reduceEq, Int.reduceNeg]
          try (and_intros <;> first | rfl | omega | exact ⟨_, rfl⟩)
        · by_cases hj2 : j < i
          · exact h2 j hj2 hl
          · rw [show j = i by omega]; exact h4
    · try simp (config := { maxSteps := 10000000 }) only [go_sem, reduceIte, reduceCtorEq, Nat.reduceEqDiff, Nat.reduceLT, Nat.reduceLeDiff, Nat.reduceAdd, Nat.reduceBEq, Nat.reduceMul, Int.reduceToNat, Int.reduceLE, Int.reduceLT, Int.reduceEq, Int.reduceNeg]
      exact (ixf_none fun j hj => h2 j (by omega) hj).symm
theorem containsFunc_rat_fn (F : FuncId) (p : DR → Bool) (hF : ∀ x : DR, Fn Try.prog F [⟨tRat, x⟩] false [⟨.bool, p x⟩]) (l : List DR) : Fn Try.prog 109 [⟨.slice tRat, l⟩, ⟨.cst (.fn F), ()⟩] false [⟨.bool, l.any p⟩] := by
  refine fn_enter tabOK mixes Try.func109 rfl rfl _ Try.ntmps109 _ Try.results109 (by simp) fun hwf => ?_
  try simp (config := { maxSteps := 10000000 }) only [go_sem, reduceIte, reduceCtorEq, Nat.reduceEqDiff, Nat.reduceLT, Nat.reduceLeDiff, Nat.reduceAdd, Nat.reduceBEq, Nat.reduceMul, Int.reduceToNat, Int.reduceLE, Int.reduceLT, Int.reduceEq, Int.reduceNeg]
  repeat (refine And.intro (by first | omega | (constructor <;> omega) | kernel_rfl) ?_)
  refine CallW.mk (indexFunc_rat_fn F p hF l) ?_
  try simp (config := { maxSteps := 10000000 }) only [go_sem, reduceIte, reduceCtorEq, Nat.reduceEqDiff, Nat.reduceLT, Nat.reduceLeDiff, Nat.reduceAdd, Nat.reduceBEq, Nat.reduceMul, Int.reduceToNat, Int.reduceLE, Int.reduceLT, Int.reduceEq, Int.reduceNeg]
  exact ixf_any
theorem allRatsC_fn (r : DR) : Fn Try.prog 110 [⟨tRat, r⟩] false [⟨.bool, !okR r⟩] := by
  refine fn_enter tabOK mixes Try.func110 rfl rfl _ Try.ntmps110 _ Try.results110 (by simp) fun hwf => ?_
  try simp (config := { maxSteps := 10000000 }) only [go_sem, reduceIte, reduceCtorEq, Nat.reduceEqDiff, Nat.reduceLT, Nat.reduceLeDiff, Nat.reduceAdd, Nat.reduceBEq, Nat.reduceMul, Int.reduceToNat, Int.reduceLE, Int.reduceLT, Int.reduceEq, Int.reduceNeg]
  repeat (refine And.intro (by first | omega | (constructor <;> omega) | kernel_rfl) ?_)
  refine CallW.mk (implRatOk_fn r) ?_
  try simp (config := { maxSteps := 10000000 }) only [go_sem, reduceIte, reduceCtorEq, Nat.reduceEqDiff, Nat.reduceLT, Nat.reduceLeDiff, Nat.reduceAdd, Nat.reduceBEq, Nat.reduceMul, Int.reduceToNat, Int.reduceLE, Int.reduceLT, Int.reduceEq, Int.reduceNeg]
theorem allRats_fn (l : List DR) : Fn Try.prog 77 [⟨.slice tRat, l⟩] false [⟨.bool, !(l.any fun r => !okR r)⟩] := by
  refine fn_enter tabOK mixes Try.func77 rfl rfl _ Try.ntmps77 _ Try.results77 (by simp) fun hwf => ?_
  try simp (config := { maxSteps := 10000000 }) only [go_sem, reduceIte, reduceCtorEq, Nat.reduceEqDiff, Nat.reduceLT, Nat.reduceLeDiff, Nat.reduceAdd, Nat.reduceBEq, Nat.reduceMul, Int.reduceToNat, Int.reduceLE, Int.reduceLT, Int.reduceEq, Int.reduceNeg]
  repeat (refine And.intro (by first | omega | (constructor <;> omega) | kernel_rfl) ?_)
  refine CallW.mk (containsFunc_rat_fn _ _ allRatsC_fn l) ?_
  try simp (config := { maxSteps := 10000000 }) only [go_sem, reduceIte, reduceCtorEq, Nat.reduceEqDiff, Nat.reduceLT, Nat.reduceLeDiff, Nat.reduceAdd, Nat.reduceBEq, Nat.reduceMul, Int.reduceToNat, Int.reduceLE, Int.reduceLT, Int.reduceEq, Int.reduceNeg]
theorem okR_oD {r : DR} (h : okR r = true) : oD (rdO r) = r := by
  obtain ⟨q, _, e1, e2⟩ := okR_t h
  rw [e2, e1]; rfl
theorem all_ok {l : List DR} (h : l.any (fun r => !okR r) = false) {i : Nat} (hi : i < l.length) : okR (nth (t := tRat) l i) = true := by
  rw [List.any_eq_false] at h
  rw [nth_lt hi]
  have := h _ (List.getElem_mem hi)
  simpa using this
theorem any_bad {l : List DR} {i : Nat} (hi : i < l.length) (h : okR (nth (t := tRat) l i) = false) : l.any (fun r => !okR r) = true := by
  rw [nth_lt hi] at h
  exact List.any_eq_true.2 ⟨_, List.getElem_mem hi, by rw [h]; rfl⟩
def fasterP (v w : List DR) : Prop := v.length = w.length ∧ v.any (fun r => !okR r) = false ∧ w.any (fun r => !okR r) = false ∧ ∀ i < v.length, 0 ≤ cmpO (rdO (nth (t := tRat) v i)) (rdO (nth (t := tRat) w i))
theorem implFaster_fn (v w : List DR) : Fn Try.prog 37 [⟨.slice tRat, v⟩, ⟨.slice tRat, w⟩] false [⟨.bool, bdec (fasterP v w)⟩] := by
  by_cases h1 : (v.length : Int) = w.length
  rotate_left
  · rw [bdec_f fun h => h1 (by rw [h.1])]
    refine fn_enter tabOK mixes Try.func37 rfl rfl _ Try.ntmps37 _ Try.results37 (by simp) fun hwf => ?_
    try simp (config := { maxSteps := 10000000 }) only [go_sem, reduceIte, reduceCtorEq, Nat.reduceEqDiff, Nat.reduceLT, Nat.reduceLeDiff, Nat.reduceAdd, Nat.reduceBEq, Nat.reduceMul, Int.reduceToNat, Int.reduceLE, Int.reduceLT, Int.reduceEq, Int.reduceNeg, h1]
  cases h2 : v.any (fun r => !okR r)
  rotate_left
  · rw [bdec_f fun h => by rw [h.2.1] at h2; cases h2]
    refine fn_enter tabOK mixes Try.func37 rfl rfl _ Try.ntmps37 _ Try.results37 (by simp) fun hwf => ?_
    try simp (config := { maxSteps := 10000000 }) only [go_sem, reduceIte, reduceCtorEq, Nat.reduceEqDiff, Nat.reduceLT, Nat.reduceLeDiff, Nat.reduceAdd, Nat.reduceBEq, Nat.reduceMul, Int.reduceToNat, Int.reduceLE, Int.reduceLT, Int.reduceEq, Int.reduceNeg, h1]
    repeat (refine And.intro (by first | omega | (constructor <;> omega) | kernel_rfl) ?_)
    refine CallW.mk (allRats_fn v) ?_
    try simp (config := { maxSteps := 10000000 }) only [go_sem, reduceIte, reduceCtorEq, Nat.reduceEqDiff, Nat.reduceLT, Nat.reduceLeDiff, Nat.reduceAdd, Nat.reduceBEq, Nat.reduceMul, Int.reduceToNat, Int.reduceLE, Int.reduceLT, Int.reduceEq, Int.reduceNeg]
    try simp (config := { maxSteps := 10000000 }) only [go_sem, reduceIte, reduceCtorEq, Nat.reduceEqDiff, Nat.reduceLT, Nat.reduceLeDiff, Nat.reduceAdd, Nat.reduceBEq, Nat.reduceMul, Int.reduceToNat, Int.reduceLE, Int.reduceLT, Int.reduceEq, Int.reduceNeg, h2]
  cases h3 : w.any (fun r => !okR r)
  rotate_left
  · rw [bdec_f fun h => by rw [h.2.2.1] at h3; cases h3]
    refine fn_enter tabOK mixes Try.func37 rfl rfl _ Try.ntmps37 _ Try.results37 (by simp) fun hwf => ?_
    try simp (config := { maxSteps := 10000000 }) only [go_sem, reduceIte, reduceCtorEq, Nat.reduceEqDiff, Nat.reduceLT, Nat.reduceLeDiff, Nat.reduceAdd, Nat.reduceBEq, Nat.reduceMul, Int.reduceToNat, Int.reduceLE, Int.reduceLT, Int.reduceEq, Int.reduceNeg, h1]
    repeat (refine And.intro (by first | omega | (constructor <;> omega) | kernel_rfl) ?_)
    refine CallW.mk (allRats_fn v) ?_
    try simp (config := { maxSteps := 10000000 }) only [go_sem, reduceIte, reduceCtorEq, Nat.reduceEqDiff, Nat.reduceLT, Nat.reduceLeDiff, Nat.reduceAdd, Nat.reduceBEq, Nat.reduceMul, Int.reduceToNat, Int.reduceLE, Int.reduceLT, Int.reduceEq, Int.reduceNeg]
    try simp (config := { maxSteps := 10000000 }) only [go_sem, reduceIte, reduceCtorEq, Nat.reduceEqDiff, Nat.reduceLT, Nat.reduceLeDiff, Nat.reduceAdd, Nat.reduceBEq, Nat.reduceMul, Int.reduceToNat, Int.reduceLE, Int.reduceLT, Int.reduceEq, Int.reduceNeg, h2]
    repeat (refine And.intro (by first | omega | (constructor <;> omega) | kernel_rfl) ?_)
    refine CallW.mk (allRats_fn w) ?_
    try simp (config := { maxSteps := 10000000 }) only [go_sem, reduceIte, reduceCtorEq, Nat.reduceEqDiff, Nat.reduceLT, Nat.reduceLeDiff, Nat.reduceAdd, Nat.reduceBEq, Nat.reduceMul, Int.reduceToNat, Int.reduceLE, Int.reduceLT, Int.reduceEq, Int.reduceNeg]
    try simp (config := { maxSteps := 10000000 }) only [go_sem, reduceIte, reduceCtorEq, Nat.reduceEqDiff, Nat.reduceLT, Nat.reduceLeDiff, Nat.reduceAdd, Nat.reduceBEq, Nat.reduceMul, Int.reduceToNat, Int.reduceLE, Int.reduceLT, Int.reduceEq, Int.reduceNeg, h3]
  refine fn_enter tabOK mixes Try.func37 rfl rfl _ Try.ntmps37 _ Try.results37 (by simp) fun hwf => ?_
  have hl : v.length ≤ 9223372036854775807 := (hwf ⟨.slice tRat, v⟩ (by simp)).1
  try simp (config := { maxSteps := 10000000 }) only [go_sem, reduceIte, reduceCtorEq, Nat.reduceEqDiff, Nat.reduceLT, Nat.reduceLeDiff, Nat.reduceAdd, Nat.reduceBEq, Nat.reduceMul, Int.reduceToNat, Int.reduceLE, Int.reduceLT, Int.reduceEq, Int.reduceNeg, h1]
  repeat (refine And.intro (by first | omega | (constructor <;> omega) | kernel_rfl) ?_)
  refine CallW.mk (allRats_fn v) ?_
  try simp (config := { maxSteps := 10000000 }) only [go_sem, reduceIte, reduceCtorEq, Nat.reduceEqDiff, Nat.reduceLT, Nat.reduceLeDiff, Nat.reduceAdd, Nat.reduceBEq, Nat.reduceMul, Int.reduceToNat, Int.reduceLE, Int.reduceLT, Int.reduceEq, Int.reduceNeg]
  try simp (config := { maxSteps := 10000000 }) only [go_sem, reduceIte, reduceCtorEq, Nat.reduceEqDiff, Nat.reduceLT, Nat.reduceLeDiff, Nat.reduceAdd, Nat.reduceBEq, Nat.reduceMul, Int.reduceToNat, Int.reduceLE, Int.reduceLT, Int.reduceEq, Int.reduceNeg, h2]
  repeat (refine And.intro (by first | omega | (constructor <;> omega) | kernel_rfl) ?_)
  refine CallW.mk (allRats_fn w) ?_
  try simp (config := { maxSteps := 10000000 }) only [go_sem, reduceIte, reduceCtorEq, Nat.reduceEqDiff, Nat.reduceLT, Nat.reduceLeDiff, Nat.reduceAdd, Nat.reduceBEq, Nat.reduceMul, Int.reduceToNat, Int.reduceLE, Int.reduceLT, Int.reduceEq, Int.reduceNeg]
  try simp (config := { maxSteps := 10000000 }) only [go_sem, reduceIte, reduceCtorEq, Nat.reduceEqDiff, Nat.reduceLT, Nat.reduceLeDiff, Nat.reduceAdd, Nat.reduceBEq, Nat.reduceMul, Int.reduceToNat, Int.reduceLE, Int.reduceLT, Int.reduceEq, Int.reduceNeg, h3]
  refine LoopG.intro _ _ _ (fun i : Nat => ⟨[(0, .sl tRat v), (1, .sl tRat w), (21, .sl tRat v), (22, .sc (.int .i64 w.length)), (23, .sc (.int .i64 i))], []⟩) (fun i => ∀ j < i, j < v.length → 0 ≤ cmpO (rdO (nth (t := tRat) v j)) (rdO (nth (t := tRat) w j))) (fun i => v.length - i) 0 ?_ (fun j h => by omega) ?_
  · refine Wk.mk [] ?_
    try simp (config := { maxSteps := 10000000 }) only [go_sem, reduceIte, reduceCtorEq, Nat.reduceEqDiff, Nat.reduceLT, Nat.reduceLeDiff, Nat.reduceAdd, Nat.reduceBEq, Nat.reduceMul, Int.reduceToNat, Int.reduceLE, Int.reduceLT, Int.reduceEq, Int.reduceNeg]
    try (and_intros <;> first | rfl | omega | exact ⟨_, rfl⟩)
  · rintro i g1
    try simp (config := { maxSteps := 10000000 }) only [go_sem, reduceIte, reduceCtorEq, Nat.reduceEqDiff, Nat.reduceLT, Nat.reduceLeDiff, Nat.reduceAdd, Nat.reduceBEq, Nat.reduceMul, Int.reduceToNat, Int.reduceLE, Int.reduceLT, Int.reduceEq, Int.reduceNeg]
    refine CondW_dec (fun hA => ?_) (fun hA => ?_)
    · have ev := okR_oD (all_ok h2 (i := i) (by omega))
      have ew := okR_oD (all_ok h3 (i := i) (by omega))
      have hc := ratCmp_fn (rdO (nth (t := tRat) v i)) (rdO (nth (t := tRat) w i)) (okO_rdO _) (okO_rdO _)
      rw [ev, ew] at hc
      try simp (config := { maxSteps := 10000000 }) only [go_sem, reduceIte, reduceCtorEq, Nat.reduceEqDiff, Nat.reduceLT, Nat.reduceLeDiff, Nat.reduceAdd, Nat.reduceBEq, Nat.reduceMul, Int.reduceToNat, Int.reduceLE, Int.reduceLT, Int.reduceEq, Int.reduceNeg]
      repeat (refine And.intro (by first | omega | (constructor <;> omega) | kernel_rfl) ?_)
      repeat (refine And.intro (by first | omega | (constructor <;> omega) | kernel_rfl) ?_)
      refine CallW.mk (hc) ?_
      try simp (config := { maxSteps := 10000000 }) only [go_sem, reduceIte, reduceCtorEq, Nat.reduceEqDiff, Nat.reduceLT, Nat.reduceLeDiff, Nat.reduceAdd, Nat.reduceBEq, Nat.reduceMul, Int.reduceToNat, Int.reduceLE, Int.reduceLT, Int.reduceEq, Int.reduceNeg]
      repeat (refine And.intro (by first | omega | (constructor <;> omega) | kernel_rfl) ?_)
      refine CondW_dec (fun hB => ?_) (fun hB => ?_)
      · rw [bdec_f fun h => by have := h.2.2.2 i (by omega); omega]
        try simp (config := { maxSteps := 10000000 }) only [go_sem, reduceIte, reduceCtorEq, Nat.reduceEqDiff, Nat.reduceLT, Nat.reduceLeDiff, Nat.reduceAdd, Nat.reduceBEq, Nat.reduceMul, Int.reduceToNat, Int.reduceLE, Int.reduceLT, Int.reduceEq, Int.reduceNeg]
      · try simp (config := { maxSteps := 10000000 }) only [go_sem, reduceIte, reduceCtorEq, Nat.reduceEqDiff, Nat.reduceLT, Nat.reduceLeDiff, Nat.reduceAdd, Nat.reduceBEq, Nat.reduceMul, Int.reduceToNat, Int.reduceLE, Int.reduceLT, Int.reduceEq, Int.reduceNeg]
        repeat (refine And.intro (by first | omega | (constructor <;> omega) | kernel_rfl) ?_)
        refine LoopK.mk (i + 1) ?_ (fun j hj hjl => ?_) (by omega)
        · refine Wk.mk [] ?_
          try simp (config := { maxSteps := 10000000 }) only [go_sem, reduceIte, reduceCtorEq, Nat.reduceEqDiff, Nat.reduceLT, Nat.reduceLeDiff, Nat.reduceAdd, Nat.reduceBEq, Nat.reduceMul, Int.reduceToNat, Int.reduceLE, Int.reduceLT, Int.reduceEq, Int.reduceNeg]
          try (and_intros <;> first | rfl | omega | exact ⟨_, rfl⟩)
        · by_cases hji : j < i
          · exact g1 j hji hjl
          · rw [show j = i by omega]; omega
    · rw [bdec_t ⟨by omega, h2, h3, fun i hi => g1 i (by omega) hi⟩]
      try simp (config := { maxSteps := 10000000 }) only [go_sem, reduceIte, reduceCtorEq, Nat.reduceEqDiff, Nat.reduceLT, Nat.reduceLeDiff, Nat.reduceAdd, Nat.reduceBEq, Nat.reduceMul, Int.reduceToNat, Int.reduceLE, Int.reduceLT, Int.reduceEq, Int.reduceNeg]
theorem specFaster_fn (v w : List DR) : Fn Try.prog 35 [⟨.slice tRat, v⟩, ⟨.slice tRat, w⟩] false [⟨.bool, bdec (fasterP v w)⟩] := by
  by_cases h1 : (v.length : Int) = w.length
  rotate_left
  · rw [bdec_f fun h => h1 (by rw [h.1])]
    refine fn_enter tabOK mixes Try.func35 rfl rfl _ Try.ntmps35 _ Try.results35 (by simp) fun hwf => ?_
    try simp (config := { maxSteps := 10000000 }) only [go_sem, reduceIte, reduceCtorEq, Nat.reduceEqDiff, Nat.reduceLT, Nat.reduceLeDiff, Nat.reduceAdd, Nat.reduceBEq, Nat.reduceMul, Int.reduceToNat, Int.reduceLE, Int.reduceLT, Int.reduceEq, Int.reduceNeg, h1]
  refine fn_enter tabOK mixes Try.func35 rfl rfl _ Try.ntmps35 _ Try.results35 (by simp) fun hwf => ?_
  have hl : v.length ≤ 9223372036854775807 := (hwf ⟨.slice tRat, v⟩ (by simp)).1
  try simp (config := { maxSteps := 10000000 }) only [go_sem, reduceIte, reduceCtorEq, Nat.reduceEqDiff, Nat.reduceLT, Nat.reduceLeDiff, Nat.reduceAdd, Nat.reduceBEq, Nat.reduceMul, Int.reduceToNat, Int.reduceLE, Int.reduceLT, Int.reduceEq, Int.reduceNeg, h1]
  refine LoopG.intro _ _ _ (fun i : Nat => ⟨[(0, .sl tRat v), (1, .sl tRat w), (12, .sl tRat v), (13, .sc (.int .i64 w.length)), (14, .sc (.int .i64 i))], []⟩) (fun i => ∀ j < i, j < v.length → okR (nth (t := tRat) v j) = true ∧ okR (nth (t := tRat) w j) = true ∧ 0 ≤ cmpO (rdO (nth (t := tRat) v j)) (rdO (nth (t := tRat) w j))) (fun i => v.length - i) 0 ?_ (fun j h => by omega) ?_
  · refine Wk.mk [] ?_
    try simp (config := { maxSteps := 10000000 }) only [go_sem, reduceIte, reduceCtorEq, Nat.reduceEqDiff, Nat.reduceLT, Nat.reduceLeDiff, Nat.reduceAdd, Nat.reduceBEq, Nat.reduceMul, Int.reduceToNat, Int.reduceLE, Int.reduceLT, Int.reduceEq, Int.reduceNeg]
    try (and_intros <;> first | rfl | omega | exact ⟨_, rfl⟩)
  · rintro i g1
    try simp (config := { maxSteps := 10000000 }) only [go_sem, reduceIte, reduceCtorEq, Nat.reduceEqDiff, Nat.reduceLT, Nat.reduceLeDiff, Nat.reduceAdd, Nat.reduceBEq, Nat.reduceMul, Int.reduceToNat, Int.reduceLE, Int.reduceLT, Int.reduceEq, Int.reduceNeg]
    refine CondW_dec (fun hA => ?_) (fun hA => ?_)
    · cases h2 : okR (nth (t := tRat) v i)
      · rw [bdec_f fun h => by have hh := h.2.1; rw [any_bad (by omega) h2] at hh; cases hh]
        try simp (config := { maxSteps := 10000000 }) only [go_sem, reduceIte, reduceCtorEq, Nat.reduceEqDiff, Nat.reduceLT, Nat.reduceLeDiff, Nat.reduceAdd, Nat.reduceBEq, Nat.reduceMul, Int.reduceToNat, Int.reduceLE, Int.reduceLT, Int.reduceEq, Int.reduceNeg]
        repeat (refine And.intro (by first | omega | (constructor <;> omega) | kernel_rfl) ?_)
        repeat (refine And.intro (by first | omega | (constructor <;> omega) | kernel_rfl) ?_)
        refine CallW.mk (specRatOk_fn (nth (t := tRat) v i)) ?_
        try simp (config := { maxSteps := 10000000 }) only [go_sem, reduceIte, reduceCtorEq, Nat.reduceEqDiff, Nat.reduceLT, Nat.reduceLeDiff, Nat.reduceAdd, Nat.reduceBEq, Nat.reduceMul, Int.reduceToNat, Int.reduceLE, Int.reduceLT, Int.reduceEq, Int.reduceNeg]
        try simp (config := { maxSteps := 10000000 }) only [go_sem, reduceIte, reduceCtorEq, Nat.reduceEqDiff, Nat.reduceLT, Nat.reduceLeDiff, Nat.reduceAdd, Nat.reduceBEq, Nat.reduceMul, Int.reduceToNat, Int.reduceLE, Int.reduceLT, Int.reduceEq, Int.reduceNeg, h2]
        all_goals repeat (refine And.intro (by first | omega | (constructor <;> omega) | kernel_rfl) ?_)
        all_goals first | kernel_rfl | omega | rfl
      cases h3 : okR (nth (t := tRat) w i)
      · rw [bdec_f fun h => by have hh := h.2.2.1; rw [any_bad (l := w) (by omega) h3] at hh; cases hh]
        try simp (config := { maxSteps := 10000000 }) only [go_sem, reduceIte, reduceCtorEq, Nat.reduceEqDiff, Nat.reduceLT, Nat.reduceLeDiff, Nat.reduceAdd, Nat.reduceBEq, Nat.reduceMul, Int.reduceToNat, Int.reduceLE, Int.reduceLT, Int.reduceEq, Int.reduceNeg]
        repeat (refine And.intro (by first | omega | (constructor <;> omega) | kernel_rfl) ?_)
        repeat (refine And.intro (by first | omega | (constructor <;> omega) | kernel_rfl) ?_)
        refine CallW.mk (specRatOk_fn (nth (t := tRat) v i)) ?_
        try simp (config := { maxSteps := 10000000 }) only [go_sem, reduceIte, reduceCtorEq, Nat.reduceEqDiff, Nat.reduceLT, Nat.reduceLeDiff, Nat.reduceAdd, Nat.reduceBEq, Nat.reduceMul, Int.reduceToNat, Int.reduceLE, Int.reduceLT, Int.reduceEq, Int.reduceNeg]
        try simp (config := { maxSteps := 10000000 }) only [go_sem, reduceIte, reduceCtorEq, Nat.reduceEqDiff, Nat.reduceLT, Nat.reduceLeDiff, Nat.reduceAdd, Nat.reduceBEq, Nat.reduceMul, Int.reduceToNat, Int.reduceLE, Int.reduceLT, Int.reduceEq, Int.reduceNeg, h2]
        repeat (refine And.intro (by first | omega | (constructor <;> omega) | kernel_rfl) ?_)
        repeat (refine And.intro (by first | omega | (constructor <;> omega) | kernel_rfl) ?_)
        refine CallW.mk (specRatOk_fn (nth (t := tRat) w i)) ?_
        try simp (config := { maxSteps := 10000000 }) only [go_sem, reduceIte, reduceCtorEq, Nat.reduceEqDiff, Nat.reduceLT, Nat.reduceLeDiff, Nat.reduceAdd, Nat.reduceBEq, Nat.reduceMul, Int.reduceToNat, Int.reduceLE, Int.reduceLT, Int.reduceEq, Int.reduceNeg]
        try simp (config := { maxSteps := 10000000 }) only [go_sem, reduceIte, reduceCtorEq, Nat.reduceEqDiff, Nat.reduceLT, Nat.reduceLeDiff, Nat.reduceAdd, Nat.reduceBEq, Nat.reduceMul, Int.reduceToNat, Int.reduceLE, Int.reduceLT, Int.reduceEq, Int.reduceNeg, h3]
        all_goals repeat (refine And.intro (by first | omega | (constructor <;> omega) | kernel_rfl) ?_)
        all_goals first | kernel_rfl | omega | rfl
      try simp (config := { maxSteps := 10000000 }) only [go_sem, reduceIte, reduceCtorEq, Nat.reduceEqDiff, Nat.reduceLT, Nat.reduceLeDiff, Nat.reduceAdd, Nat.reduceBEq, Nat.reduceMul, Int.reduceToNat, Int.reduceLE, Int.reduceLT, Int.reduceEq, Int.reduceNeg]
      repeat (refine And.intro (by first | omega | (constructor <;> omega) | kernel_rfl) ?_)
      repeat (refine And.intro (by first | omega | (constructor <;> omega) | kernel_rfl) ?_)
      refine CallW.mk (specRatOk_fn (nth (t := tRat) v i)) ?_
      try simp (config := { maxSteps := 10000000 }) only [go_sem, reduceIte, reduceCtorEq, Nat.reduceEqDiff, Nat.reduceLT, Nat.reduceLeDiff, Nat.reduceAdd, Nat.reduceBEq, Nat.reduceMul, Int.reduceToNat, Int.reduceLE, Int.reduceLT, Int.reduceEq, Int.reduceNeg]
      try simp (config := { maxSteps := 10000000 }) only [go_sem, reduceIte, reduceCtorEq, Nat.reduceEqDiff, Nat.reduceLT, Nat.reduceLeDiff, Nat.reduceAdd, Nat.reduceBEq, Nat.reduceMul, Int.reduceToNat, Int.reduceLE, Int.reduceLT, Int.reduceEq, Int.reduceNeg, h2]
      repeat (refine And.intro (by first | omega | (constructor <;> omega) | kernel_rfl) ?_)
      repeat (refine And.intro (by first | omega | (constructor <;> omega) | kernel_rfl) ?_)
      refine CallW.mk (specRatOk_fn (nth (t := tRat) w i)) ?_
      try simp (config := { maxSteps := 10000000 }) only [go_sem, reduceIte, reduceCtorEq, Nat.reduceEqDiff, Nat.reduceLT, Nat.reduceLeDiff, Nat.reduceAdd, Nat.reduceBEq, Nat.reduceMul, Int.reduceToNat, Int.reduceLE, Int.reduceLT, Int.reduceEq, Int.reduceNeg]
      try simp (config := { maxSteps := 10000000 }) only [go_sem, reduceIte, reduceCtorEq, Nat.reduceEqDiff, Nat.reduceLT, Nat.reduceLeDiff, Nat.reduceAdd, Nat.reduceBEq, Nat.reduceMul, Int.reduceToNat, Int.reduceLE, Int.reduceLT, Int.reduceEq, Int.reduceNeg, h3]
      repeat (refine And.intro (by first | omega | (constructor <;> omega) | kernel_rfl) ?_)
      repeat (refine And.intro (by first | omega | (constructor <;> omega) | kernel_rfl) ?_)
      refine CallW.mk (specRatCmp_fn (nth (t := tRat) v i) (nth (t := tRat) w i)) ?_
      try simp (config := { maxSteps := 10000000 }) only [go_sem, reduceIte, reduceCtorEq, Nat.reduceEqDiff, Nat.reduceLT, Nat.reduceLeDiff, Nat.reduceAdd, Nat.reduceBEq, Nat.reduceMul, Int.reduceToNat, Int.reduceLE, Int.reduceLT, Int.reduceEq, Int.reduceNeg]
      repeat (refine And.intro (by first | omega | (constructor <;> omega) | kernel_rfl) ?_)
      refine CondW_dec (fun hB => ?_) (fun hB => ?_)
      · rw [bdec_f fun h => by have := h.2.2.2 i (by omega); omega]
        try simp (config := { maxSteps := 10000000 }) only [go_sem, reduceIte, reduceCtorEq, Nat.reduceEqDiff, Nat.reduceLT, Nat.reduceLeDiff, Nat.reduceAdd, Nat.reduceBEq, Nat.reduceMul, Int.reduceToNat, Int.reduceLE, Int.reduceLT, Int.reduceEq, Int.reduceNeg]
      · try simp (config := { maxSteps := 10000000 }) only [go_sem, reduceIte, reduceCtorEq, Nat.reduceEqDiff, Nat.reduceLT, Nat.reduceLeDiff, Nat.reduceAdd, Nat.reduceBEq, Nat.reduceMul, Int.reduceToNat, Int.reduceLE, Int.reduceLT, Int.reduceEq, Int.reduceNeg]
        repeat (refine And.intro (by first | omega | (constructor <;> omega) | kernel_rfl) ?_)
        refine LoopK.mk (i + 1) ?_ (fun j hj hjl => ?_) (by omega)
        · refine Wk.mk [] ?_
          try simp (config := { maxSteps := 10000000 }) only [go_sem, reduceIte, reduceCtorEq, Nat.reduceEqDiff, Nat.reduceLT, Nat.reduceLeDiff, Nat.reduceAdd, Nat.reduceBEq, Nat.reduceMul, Int.reduceToNat, Int.reduceLE, Int.reduceLT, Int.reduceEq, Int.reduceNeg]
          try (and_intros <;> first | rfl | omega | exact ⟨_, rfl⟩)
        · by_cases hji : j < i
          · exact g1 j hji hjl
          · rw [show j = i by omega]; exact ⟨h2, h3, by omega⟩
    · have all : ∀ (l : List DR), (∀ j < l.length, okR (nth (t := tRat) l j) = true) → l.any (fun r => !okR r) = false := by
        intro l hl
        rw [List.any_eq_false]
        intro r hr
        obtain ⟨j, hj, rfl⟩ := List.getElem_of_mem hr
        have := hl j hj
        rw [nth_lt hj] at this
        simp [this]
      rw [bdec_t ⟨by omega, all v fun j hj => (g1 j (by omega) hj).1, all w fun j hj => (g1 j (by omega) (by omega)).2.1, fun j hj => (g1 j (by omega) hj).2.2⟩]
      try simp (config := { maxSteps := 10000000 }) only [go_sem, reduceIte, reduceCtorEq, Nat.reduceEqDiff, Nat.reduceLT, Nat.reduceLeDiff, Nat.reduceAdd, Nat.reduceBEq, Nat.reduceMul, Int.reduceToNat, Int.reduceLE, Int.reduceLT, Int.reduceEq, Int.reduceNeg]
end Go.Proofs.Ytjkbecgenjhaaaa.DW

/-
  The greatest one of fractions.
-/
namespace Go.Proofs.Ytjkbecgenjhaaaa.DW
open Go.RowKit
noncomputable def foldM (b : Option Rat) (l : List DR) : Option Rat := l.foldl (fun b r => maxO b (rdO r)) b
noncomputable def peakO : List DR → Option Rat
  | [] => none
  | r :: l => foldM (rdO r) (r :: l)
theorem foldM_snoc (b : Option Rat) (l : List DR) (r : DR) : foldM b (l ++ [r]) = maxO (foldM b l) (rdO r) := by
  simp [foldM, List.foldl_append]
theorem foldM_take {b : Option Rat} {l : List DR} {i : Nat} (h : i < l.length) : foldM b (l.take (i + 1)) = maxO (foldM b (l.take i)) (rdO (nth (t := tRat) l i)) := by
  rw [List.take_succ_eq_append_getElem h, foldM_snoc, nth_lt h]
theorem maxO_none_l (y : Option Rat) : maxO none y = none := rfl
theorem maxO_none_r (x : Option Rat) : maxO x none = none := by cases x <;> rfl
theorem foldM_none (l : List DR) : foldM none l = none := by
  induction l with
  | nil => rfl
  | cons r l ih => show foldM (maxO none (rdO r)) l = none; rw [maxO_none_l]; exact ih
theorem foldM_bad {b : Option Rat} {l : List DR} (h : l.any (fun r => !okR r) = true) : foldM b l = none := by
  induction l generalizing b with
  | nil => cases h
  | cons r l ih =>
    rw [List.any_cons, Bool.or_eq_true] at h
    show foldM (maxO b (rdO r)) l = none
    rcases h with h | h
    · rw [okR_f (by simpa using h), maxO_none_r]; exact foldM_none l
    · exact ih h
theorem okO_fold {b : Option Rat} (l : List DR) (h : okO b) : okO (foldM b l) := by
  induction l generalizing b with
  | nil => exact h
  | cons r l ih => exact ih (okO_max h (okO_rdO r))
theorem cmpQ_self (p : Rat) : cmpQ p p = 0 := by
  rw [cmpQ_eq]; unfold cmpZ; rw [if_neg (Int.lt_irrefl _), if_neg (Int.lt_irrefl _)]
theorem maxO_self (x : Option Rat) : maxO x x = x := by
  cases x with
  | none => rfl
  | some p => show (if 0 ≤ cmpQ p p then some p else some p) = some p; split <;> rfl
theorem cmpQ_swap {p q : Rat} : 0 < cmpQ q p ↔ ¬ 0 ≤ cmpQ p q := by
  rw [cmpQ_eq, cmpQ_eq]
  unfold cmpZ
  split <;> split <;> (try split) <;> (try split) <;> omega
theorem specPeak_fn (w : List DR) (hs : ∀ r ∈ w, r.1.2.length ≤ 16777216 ∧ r.2.length ≤ 16777216) : Fn Try.prog 38 [⟨.slice tRat, w⟩] false [⟨tRat, oD (peakO w)⟩] := by
  by_cases hlen : (w.length : Int) = 0
  · have : w = [] := List.eq_nil_of_length_eq_zero (by omega)
    have hp : peakO w = none := by rw [this]; rfl
    rw [hp]
    refine fn_enter tabOK mixes Try.func38 rfl rfl _ Try.ntmps38 _ Try.results38 (by simp) fun hwf => ?_
    try simp (config := { maxSteps := 10000000 }) only [go_sem, reduceIte, reduceCtorEq, Nat.reduceEqDiff, Nat.reduceLT, Nat.reduceLeDiff, Nat.reduceAdd, Nat.reduceBEq, Nat.reduceMul, Int.reduceToNat, Int.reduceLE, Int.reduceLT, Int.reduceEq, Int.reduceNeg, hlen]
  cases w with
  | nil => exact absurd rfl hlen
  | cons r0 l =>
    have hlen2 : (0 : Int) < (r0 :: l).length := by omega
    have hpk : peakO (r0 :: l) = foldM (rdO r0) (r0 :: l) := rfl
    have hn0 : nth (t := tRat) (r0 :: l) 0 = r0 := rfl
    have hs0 := hs r0 List.mem_cons_self
    rw [hpk]
    generalize hw : r0 :: l = w at *
    have hcp := l04Copy_fn r0 hs0.1 hs0.2
    refine fn_enter tabOK mixes Try.func38 rfl rfl _ Try.ntmps38 _ Try.results38 (by simp) fun hwf => ?_
    have hl : w.length ≤ 9223372036854775807 := (hwf ⟨.slice tRat, w⟩ (by simp)).1
    try simp (config := { maxSteps := 10000000 }) only [go_sem, reduceIte, reduceCtorEq, Nat.reduceEqDiff, Nat.reduceLT, Nat.reduceLeDiff, Nat.reduceAdd, Nat.reduceBEq, Nat.reduceMul, Int.reduceToNat, Int.reduceLE, Int.reduceLT, Int.reduceEq, Int.reduceNeg, hlen]
    repeat (refine And.intro (by first | omega | (constructor <;> omega) | kernel_rfl) ?_)
    rw [hn0]
    repeat (refine And.intro (by first | omega | (constructor <;> omega) | kernel_rfl) ?_)
    refine CallW.mk (hcp) ?_
    try simp (config := { maxSteps := 10000000 }) only [go_sem, reduceIte, reduceCtorEq, Nat.reduceEqDiff, Nat.reduceLT, Nat.reduceLeDiff, Nat.reduceAdd, Nat.reduceBEq, Nat.reduceMul, Int.reduceToNat, Int.reduceLE, Int.reduceLT, Int.reduceEq, Int.reduceNeg]
    refine LoopG.intro _ _ _ (fun x : Nat × DR => ⟨[(2, .ptr 0 0), (3, .ptr 3 0), (14, .sl tRat w), (15, .sc (.int .i64 w.length)), (16, .sc (.int .i64 x.1))], [(3, .box [.sc (.bool x.2.1.1), .sl .int x.2.1.2, .sl .int x.2.2]), (0, .box [.sc (.bool false), .sc (.slice none 0 0), .sc (.slice none 0 0)])]⟩) (fun x => x.1 ≤ w.length ∧ rdO x.2 = foldM (rdO r0) (w.take x.1) ∧ (0 < x.1 → x.2 = oD (rdO x.2))) (fun x => w.length - x.1) (0, r0) ?_ ⟨Nat.zero_le _, rfl, fun h => absurd h (Nat.lt_irrefl 0)⟩ ?_
    · refine Wk.mk [] ?_
      try simp (config := { maxSteps := 10000000 }) only [go_sem, reduceIte, reduceCtorEq, Nat.reduceEqDiff, Nat.reduceLT, Nat.reduceLeDiff, Nat.reduceAdd, Nat.reduceBEq, Nat.reduceMul, Int.reduceToNat, Int.reduceLE, Int.reduceLT, Int.reduceEq, Int.reduceNeg]
      try (and_intros <;> first | rfl | omega | exact ⟨_, rfl⟩)
    · rintro ⟨j, b⟩ ⟨g1, g2, g3⟩
      simp only at g1 g2 g3
      try simp (config := { maxSteps := 10000000 }) only [go_sem, reduceIte, reduceCtorEq, Nat.reduceEqDiff, Nat.reduceLT, Nat.reduceLeDiff, Nat.reduceAdd, Nat.reduceBEq, Nat.reduceMul, Int.reduceToNat, Int.reduceLE, Int.reduceLT, Int.reduceEq, Int.reduceNeg]
      refine CondW_dec (fun hA => ?_) (fun hA => ?_)
      · try simp (config := { maxSteps := 10000000 }) only [go_sem, reduceIte, reduceCtorEq, Nat.reduceEqDiff, Nat.reduceLT, Nat.reduceLeDiff, Nat.reduceAdd, Nat.reduceBEq, Nat.reduceMul, Int.reduceToNat, Int.reduceLE, Int.reduceLT, Int.reduceEq, Int.reduceNeg]
        repeat (refine And.intro (by first | omega | (constructor <;> omega) | kernel_rfl) ?_)
        repeat (refine And.intro (by first | omega | (constructor <;> omega) | kernel_rfl) ?_)
        refine CallW.mk (specRatMax_fn b (nth (t := tRat) w j)) ?_
        try simp (config := { maxSteps := 10000000 }) only [go_sem, reduceIte, reduceCtorEq, Nat.reduceEqDiff, Nat.reduceLT, Nat.reduceLeDiff, Nat.reduceAdd, Nat.reduceBEq, Nat.reduceMul, Int.reduceToNat, Int.reduceLE, Int.reduceLT, Int.reduceEq, Int.reduceNeg]
        repeat (refine And.intro (by first | omega | (constructor <;> omega) | kernel_rfl) ?_)
        have hok := okO_max (okO_rdO b) (okO_rdO (nth (t := tRat) w j))
        refine LoopK.mk (j + 1, oD (maxO (rdO b) (rdO (nth (t := tRat) w j)))) ?_ ⟨by simp only; omega, by simp only; rw [rdO_oD hok, g2, foldM_take (by omega)], fun _ => by simp only; rw [rdO_oD hok]⟩ (by simp only; omega)
        refine Wk.mk [] ?_
        try simp (config := { maxSteps := 10000000 }) only [go_sem, reduceIte, reduceCtorEq, Nat.reduceEqDiff, Nat.reduceLT, Nat.reduceLeDiff, Nat.reduceAdd, Nat.reduceBEq, Nat.reduceMul, Int.reduceToNat, Int.reduceLE, Int.reduceLT, Int.reduceEq, Int.reduceNeg]
        try (and_intros <;> first | rfl | omega | exact ⟨_, rfl⟩)
      · have hj : j = w.length := by omega
        have hb := g3 (by omega)
        rw [g2, hj, List.take_length] at hb
        try simp (config := { maxSteps := 10000000 }) only [go_sem, reduceIte, reduceCtorEq, Nat.reduceEqDiff, Nat.reduceLT, Nat.reduceLeDiff, Nat.reduceAdd, Nat.reduceBEq, Nat.reduceMul, Int.reduceToNat, Int.reduceLE, Int.reduceLT, Int.reduceEq, Int.reduceNeg]
        rw [hb]
        and_intros <;> first | rfl | omega | exact ⟨_, rfl⟩
theorem maxFunc_fn (r0 : DR) (l : List DR) (hall : ∀ r ∈ r0 :: l, okR r = true) : Fn Try.prog 82 [⟨.slice tRat, r0 :: l⟩, ⟨.cst (.fn 78), ()⟩] false [⟨tRat, oD (foldM (rdO r0) (r0 :: l))⟩] := by
  have hlen : ¬ ((r0 :: l).length : Int) < 1 := by simp only [List.length_cons]; omega
  have hlen2 : (0 : Int) < (r0 :: l).length := by omega
  have hn0 : nth (t := tRat) (r0 :: l) 0 = r0 := rfl
  have hr0 := okR_oD (hall r0 List.mem_cons_self)
  have h1 : foldM (rdO r0) ((r0 :: l).take 1) = rdO r0 := maxO_self _
  generalize hw : r0 :: l = w at *
  refine fn_enter tabOK mixes Try.func82 rfl rfl _ Try.ntmps82 _ Try.results82 (by simp) fun hwf => ?_
  have hl : w.length ≤ 9223372036854775807 := (hwf ⟨.slice tRat, w⟩ (by simp)).1
  try simp (config := { maxSteps := 10000000 }) only [go_sem, reduceIte, reduceCtorEq, Nat.reduceEqDiff, Nat.reduceLT, Nat.reduceLeDiff, Nat.reduceAdd, Nat.reduceBEq, Nat.reduceMul, Int.reduceToNat, Int.reduceLE, Int.reduceLT, Int.reduceEq, Int.reduceNeg, hlen]
  repeat (refine And.intro (by first | omega | (constructor <;> omega) | kernel_rfl) ?_)
  rw [hn0]
  refine LoopG.intro _ _ _ (fun j : Nat => ⟨[(0, .sl tRat w), (1, .sc (.func (.func 78) #[] #[])), (4, .ptr 0 0), (5, .ptr 1 0), (6, .sc (.int .i64 j))], [(1, .box [.sc (.bool (oD (foldM (rdO r0) (w.take j))).1.1), .sl .int (oD (foldM (rdO r0) (w.take j))).1.2, .sl .int (oD (foldM (rdO r0) (w.take j))).2]), (0, .box [.sc (.bool false), .sc (.slice none 0 0), .sc (.slice none 0 0)])]⟩) (fun j => 1 ≤ j ∧ j ≤ w.length) (fun j => w.length - j) 1 ?_ ⟨Nat.le_refl _, by omega⟩ ?_
  · refine Wk.mk [] ?_
    try simp (config := { maxSteps := 10000000 }) only [go_sem, reduceIte, reduceCtorEq, Nat.reduceEqDiff, Nat.reduceLT, Nat.reduceLeDiff, Nat.reduceAdd, Nat.reduceBEq, Nat.reduceMul, Int.reduceToNat, Int.reduceLE, Int.reduceLT, Int.reduceEq, Int.reduceNeg]
    try (and_intros <;> first | rfl | omega | exact ⟨_, rfl⟩)
    all_goals (rw [h1, hr0]; (and_intros <;> first | rfl | omega | exact ⟨_, rfl⟩))
  · rintro j ⟨g1, g2⟩
    try simp (config := { maxSteps := 10000000 }) only [go_sem, reduceIte, reduceCtorEq, Nat.reduceEqDiff, Nat.reduceLT, Nat.reduceLeDiff, Nat.reduceAdd, Nat.reduceBEq, Nat.reduceMul, Int.reduceToNat, Int.reduceLE, Int.reduceLT, Int.reduceEq, Int.reduceNeg]
    refine CondW_dec (fun hA => ?_) (fun hA => ?_)
    · have hok := okO_fold (w.take j) (okO_rdO r0)
      have hjr : okR (nth (t := tRat) w j) = true := by rw [nth_lt (by omega)]; exact hall _ (List.getElem_mem (by omega))
      have ej := okR_oD hjr
      have hft := foldM_take (b := rdO r0) (l := w) (i := j) (by omega)
      have hc := ratCmp_fn (rdO (nth (t := tRat) w j)) (foldM (rdO r0) (w.take j)) (okO_rdO _) hok
      rw [ej] at hc
      try simp (config := { maxSteps := 10000000 }) only [go_sem, reduceIte, reduceCtorEq, Nat.reduceEqDiff, Nat.reduceLT, Nat.reduceLeDiff, Nat.reduceAdd, Nat.reduceBEq, Nat.reduceMul, Int.reduceToNat, Int.reduceLE, Int.reduceLT, Int.reduceEq, Int.reduceNeg]
      repeat (refine And.intro (by first | omega | (constructor <;> omega) | kernel_rfl) ?_)
      repeat (refine And.intro (by first | omega | (constructor <;> omega) | kernel_rfl) ?_)
      refine CallW.mk (hc) ?_
      try simp (config := { maxSteps := 10000000 }) only [go_sem, reduceIte, reduceCtorEq, Nat.reduceEqDiff, Nat.reduceLT, Nat.reduceLeDiff, Nat.reduceAdd, Nat.reduceBEq, Nat.reduceMul, Int.reduceToNat, Int.reduceLE, Int.reduceLT, Int.reduceEq, Int.reduceNeg]
      repeat (refine And.intro (by first | omega | (constructor <;> omega) | kernel_rfl) ?_)
      by_cases hB : 0 < cmpO (rdO (nth (t := tRat) w j)) (foldM (rdO r0) (w.take j))
      · have hm : foldM (rdO r0) (w.take (j + 1)) = rdO (nth (t := tRat) w j) := by
          rw [hft]
          cases hx : foldM (rdO r0) (w.take j) with
          | none => rw [hx] at hB; cases hy : rdO (nth (t := tRat) w j) <;> rw [hy] at hB <;> exact absurd hB (Int.lt_irrefl 0)
          | some p =>
            cases hy : rdO (nth (t := tRat) w j) with
            | none => rw [okR, hy] at hjr; cases hjr
            | some q => rw [hx, hy] at hB; exact if_neg (cmpQ_swap.1 hB)
        try simp (config := { maxSteps := 10000000 }) only [go_sem, reduceIte, reduceCtorEq, Nat.reduceEqDiff, Nat.reduceLT, Nat.reduceLeDiff, Nat.reduceAdd, Nat.reduceBEq, Nat.reduceMul, Int.reduceToNat, Int.reduceLE, Int.reduceLT, Int.reduceEq, Int.reduceNeg, hB]
        repeat (refine And.intro (by first | omega | (constructor <;> omega) | kernel_rfl) ?_)
        refine LoopK.mk (j + 1) ?_ ⟨by omega, by omega⟩ (by omega)
        refine Wk.mk [] ?_
        try simp (config := { maxSteps := 10000000 }) only [go_sem, reduceIte, reduceCtorEq, Nat.reduceEqDiff, Nat.reduceLT, Nat.reduceLeDiff, Nat.reduceAdd, Nat.reduceBEq, Nat.reduceMul, Int.reduceToNat, Int.reduceLE, Int.reduceLT, Int.reduceEq, Int.reduceNeg]
        try (and_intros <;> first | rfl | omega | exact ⟨_, rfl⟩)
        all_goals (rw [hm, ej]; (and_intros <;> first | rfl | omega | exact ⟨_, rfl⟩))
      · have hm : foldM (rdO r0) (w.take (j + 1)) = foldM (rdO r0) (w.take j) := by
          rw [hft]
          cases hx : foldM (rdO r0) (w.take j) with
          | none => rfl
          | some p =>
            cases hy : rdO (nth (t := tRat) w j) with
            | none => rw [okR, hy] at hjr; cases hjr
            | some q =>
              rw [hx, hy] at hB
              exact if_pos (Classical.byContradiction fun h => hB (cmpQ_swap.2 h))
        try simp (config := { maxSteps := 10000000 }) only [go_sem, reduceIte, reduceCtorEq, Nat.reduceEqDiff, Nat.reduceLT, Nat.reduceLeDiff, Nat.reduceAdd, Nat.reduceBEq, Nat.reduceMul, Int.reduceToNat, Int.reduceLE, Int.reduceLT, Int.reduceEq, Int.reduceNeg, hB]
        repeat (refine And.intro (by first | omega | (constructor <;> omega) | kernel_rfl) ?_)
        refine LoopK.mk (j + 1) ?_ ⟨by omega, by omega⟩ (by omega)
        refine Wk.mk [] ?_
        try simp (config := { maxSteps := 10000000 }) only [go_sem, reduceIte, reduceCtorEq, Nat.reduceEqDiff, Nat.reduceLT, Nat.reduceLeDiff, Nat.reduceAdd, Nat.reduceBEq, Nat.reduceMul, Int.reduceToNat, Int.reduceLE, Int.reduceLT, Int.reduceEq, Int.reduceNeg]
        try (and_intros <;> first | rfl | omega | exact ⟨_, rfl⟩)
        all_goals (rw [hm]; (and_intros <;> first | rfl | omega | exact ⟨_, rfl⟩))
    · have hj : j = w.length := by omega
      try simp (config := { maxSteps := 10000000 }) only [go_sem, reduceIte, reduceCtorEq, Nat.reduceEqDiff, Nat.reduceLT, Nat.reduceLeDiff, Nat.reduceAdd, Nat.reduceBEq, Nat.reduceMul, Int.reduceToNat, Int.reduceLE, Int.reduceLT, Int.reduceEq, Int.reduceNeg]
      rw [hj, List.take_length]
      and_intros <;> first | rfl | omega | exact ⟨_, rfl⟩
theorem implPeak_fn (w : List DR) : Fn Try.prog 39 [⟨.slice tRat, w⟩] true [⟨tRat, oD (peakO w)⟩] := by
  by_cases hlen : (w.length : Int) = 0
  · have : w = [] := List.eq_nil_of_length_eq_zero (by omega)
    have hp : peakO w = none := by rw [this]; rfl
    rw [hp]
    refine fn_enter tabOK mixes Try.func39 rfl rfl _ Try.ntmps39 _ Try.results39 (by simp) fun hwf => ?_
    try simp (config := { maxSteps := 10000000 }) only [go_sem, reduceIte, reduceCtorEq, Nat.reduceEqDiff, Nat.reduceLT, Nat.reduceLeDiff, Nat.reduceAdd, Nat.reduceBEq, Nat.reduceMul, Int.reduceToNat, Int.reduceLE, Int.reduceLT, Int.reduceEq, Int.reduceNeg, hlen]
  cases hbad : w.any (fun r => !okR r)
  · cases w with
    | nil => exact absurd rfl hlen
    | cons r0 l =>
      have hall : ∀ r ∈ r0 :: l, okR r = true := fun r hr => by
        rw [List.any_eq_false] at hbad
        have := hbad r hr
        simpa using this
      have hm := maxFunc_fn r0 l hall
      have hok := okO_fold (r0 :: l) (okO_rdO r0)
      have ho := ownO_fn _ hok
      have hpk : peakO (r0 :: l) = foldM (rdO r0) (r0 :: l) := rfl
      rw [hpk]
      generalize hw : r0 :: l = w at *
      refine fn_enter tabOK mixes Try.func39 rfl rfl _ Try.ntmps39 _ Try.results39 (by simp) fun hwf => ?_
      try simp (config := { maxSteps := 10000000 }) only [go_sem, reduceIte, reduceCtorEq, Nat.reduceEqDiff, Nat.reduceLT, Nat.reduceLeDiff, Nat.reduceAdd, Nat.reduceBEq, Nat.reduceMul, Int.reduceToNat, Int.reduceLE, Int.reduceLT, Int.reduceEq, Int.reduceNeg, hlen]
      repeat (refine And.intro (by first | omega | (constructor <;> omega) | kernel_rfl) ?_)
      refine CallW.mk (allRats_fn w) ?_
      try simp (config := { maxSteps := 10000000 }) only [go_sem, reduceIte, reduceCtorEq, Nat.reduceEqDiff, Nat.reduceLT, Nat.reduceLeDiff, Nat.reduceAdd, Nat.reduceBEq, Nat.reduceMul, Int.reduceToNat, Int.reduceLE, Int.reduceLT, Int.reduceEq, Int.reduceNeg]
      try simp (config := { maxSteps := 10000000 }) only [go_sem, reduceIte, reduceCtorEq, Nat.reduceEqDiff, Nat.reduceLT, Nat.reduceLeDiff, Nat.reduceAdd, Nat.reduceBEq, Nat.reduceMul, Int.reduceToNat, Int.reduceLE, Int.reduceLT, Int.reduceEq, Int.reduceNeg, hbad]
      repeat (refine And.intro (by first | omega | (constructor <;> omega) | kernel_rfl) ?_)
      refine CallW.mk (hm) ?_
      try simp (config := { maxSteps := 10000000 }) only [go_sem, reduceIte, reduceCtorEq, Nat.reduceEqDiff, Nat.reduceLT, Nat.reduceLeDiff, Nat.reduceAdd, Nat.reduceBEq, Nat.reduceMul, Int.reduceToNat, Int.reduceLE, Int.reduceLT, Int.reduceEq, Int.reduceNeg]
      repeat (refine And.intro (by first | omega | (constructor <;> omega) | kernel_rfl) ?_)
      refine CallW.mk (ho) ?_
      try simp (config := { maxSteps := 10000000 }) only [go_sem, reduceIte, reduceCtorEq, Nat.reduceEqDiff, Nat.reduceLT, Nat.reduceLeDiff, Nat.reduceAdd, Nat.reduceBEq, Nat.reduceMul, Int.reduceToNat, Int.reduceLE, Int.reduceLT, Int.reduceEq, Int.reduceNeg]
      all_goals repeat (refine And.intro (by first | omega | (constructor <;> omega) | kernel_rfl) ?_)
      all_goals first | kernel_rfl | omega | rfl
  · have hp : peakO w = none := by
      cases w with
      | nil => rfl
      | cons r0 l => exact foldM_bad hbad
    rw [hp]
    refine fn_enter tabOK mixes Try.func39 rfl rfl _ Try.ntmps39 _ Try.results39 (by simp) fun hwf => ?_
    try simp (config := { maxSteps := 10000000 }) only [go_sem, reduceIte, reduceCtorEq, Nat.reduceEqDiff, Nat.reduceLT, Nat.reduceLeDiff, Nat.reduceAdd, Nat.reduceBEq, Nat.reduceMul, Int.reduceToNat, Int.reduceLE, Int.reduceLT, Int.reduceEq, Int.reduceNeg, hlen]
    repeat (refine And.intro (by first | omega | (constructor <;> omega) | kernel_rfl) ?_)
    refine CallW.mk (allRats_fn w) ?_
    try simp (config := { maxSteps := 10000000 }) only [go_sem, reduceIte, reduceCtorEq, Nat.reduceEqDiff, Nat.reduceLT, Nat.reduceLeDiff, Nat.reduceAdd, Nat.reduceBEq, Nat.reduceMul, Int.reduceToNat, Int.reduceLE, Int.reduceLT, Int.reduceEq, Int.reduceNeg]
    try simp (config := { maxSteps := 10000000 }) only [go_sem, reduceIte, reduceCtorEq, Nat.reduceEqDiff, Nat.reduceLT, Nat.reduceLeDiff, Nat.reduceAdd, Nat.reduceBEq, Nat.reduceMul, Int.reduceToNat, Int.reduceLE, Int.reduceLT, Int.reduceEq, Int.reduceNeg, hbad]
end Go.Proofs.Ytjkbecgenjhaaaa.DW

/-
  From contracts on data to contracts on calls. No program here.
-/
namespace Go.Proofs.Ytjkbecgenjhaaaa.DW
open Go.RowKit
abbrev Arg (w : World) (v : Value) (d : Dat) : Prop := ∃ fp, DRep w v d fp
theorem Arg.int {w : World} {n : Int} (h : I64 n) : Arg w (.int .i64 n) ⟨.int, n⟩ := ⟨[], [_], .inr ⟨rfl, rfl⟩, rfl, rfl, h⟩
theorem Arg.bool {w : World} {b : Bool} : Arg w (.bool b) ⟨.bool, b⟩ := ⟨[], [_], .inr ⟨rfl, rfl⟩, rfl, rfl⟩
theorem Arg.str {w : World} {s : ByteArray} (h : s.size ≤ maxLen) : Arg w (.string s) ⟨.str, s⟩ := ⟨[], [_], .inr ⟨rfl, rfl⟩, rfl, rfl, h⟩
theorem Arg.sl {w : World} {v : Value} {a : Ty} {l : List a.den} (h : Has (Rp.slice a.rp a.pos) w [v] l) : Arg w v ⟨.slice a, l⟩ := by
  obtain ⟨fp, h⟩ := h
  exact ⟨fp, [v], .inr ⟨rfl, rfl⟩, h⟩
theorem Arg.agg {w : World} {cs : List Value} {t : Ty} {x : t.den} (ht : t.isAgg = true) (h : Has t.rp w cs x) : Arg w (.agg cs.toArray) ⟨t, x⟩ := by
  obtain ⟨fp, h⟩ := h
  exact ⟨fp, cs, .inl ⟨ht, rfl⟩, h⟩
section
variable {P : Program} {f : FuncId} {args : List Dat} {own : Bool} {t : Ty} {x : t.den} {w : World} {vs : List Value}
theorem Fn.go (h : Fn P f args own [⟨t, x⟩]) (ha : All2 (Arg w) vs args) : Calls P f vs.toArray w fun e w' => Below w.heap.size w w' ∧ ∃ v, e = .returned v ∧ ∃ fp, DRep w' v ⟨t, x⟩ fp ∧ (own = true → OwnFp w.heap.size w' fp) := by
  refine (h.2 w vs (fun _ => True) (ha.mono fun v d _ ⟨fp, h⟩ => ⟨fp, h, fun _ _ => trivial⟩)).mono fun e w' ⟨hb, v, he, hr⟩ => ⟨hb, v, he, ?_⟩
  obtain ⟨fp, h1, h2, _⟩ := hr
  exact ⟨fp, h1, h2⟩
theorem Fn.bool {b : Bool} (h : Fn P f args own [⟨.bool, b⟩]) (ha : All2 (Arg w) vs args) : Calls P f vs.toArray w (Post (fun v w' => v = .bool b ∧ Below w.heap.size w w')) := by
  refine (h.go ha).mono fun e w' ⟨hb, v, he, fp, ⟨cs, hp, hr⟩, _⟩ => ⟨v, he, ?_, hb⟩
  rcases hp with ⟨h, _⟩ | ⟨_, rfl⟩
  · cases h
  · exact List.cons.inj hr.1 |>.1
theorem Fn.int {n : Int} (h : Fn P f args own [⟨.int, n⟩]) (ha : All2 (Arg w) vs args) : Calls P f vs.toArray w (Post (fun v w' => v = .int .i64 n ∧ Below w.heap.size w w')) := by
  refine (h.go ha).mono fun e w' ⟨hb, v, he, fp, ⟨cs, hp, hr⟩, _⟩ => ⟨v, he, ?_, hb⟩
  rcases hp with ⟨h, _⟩ | ⟨_, rfl⟩
  · cases h
  · exact List.cons.inj hr.1 |>.1
theorem Fn.slHas {a : Ty} {l : List a.den} (h : Fn P f args own [⟨.slice a, l⟩]) (ha : All2 (Arg w) vs args) : Calls P f vs.toArray w (Post (fun v w' => Has (Rp.slice a.rp a.pos) w' [v] l ∧ Below w.heap.size w w')) := by
  refine (h.go ha).mono fun e w' ⟨hb, v, he, fp, ⟨cs, hp, hr⟩, _⟩ => ⟨v, he, ?_, hb⟩
  rcases hp with ⟨h, _⟩ | ⟨_, rfl⟩
  · cases h
  · exact ⟨fp, hr⟩
theorem Fn.slOwn {a : Ty} {l : List a.den} (h : Fn P f args true [⟨.slice a, l⟩]) (ha : All2 (Arg w) vs args) : Calls P f vs.toArray w (Post (Own1Post (Rp.slice a.rp a.pos) l w)) := by
  refine (h.go ha).mono fun e w' ⟨hb, v, he, fp, ⟨cs, hp, hr⟩, ho⟩ => ⟨v, he, ?_, hb⟩
  rcases hp with ⟨h, _⟩ | ⟨_, rfl⟩
  · cases h
  · exact ⟨fp, hr, ho rfl⟩
/-- A struct as a result: what is known of it. -/
structure HasR {α : Type} (A : Rp α) (w : World) (cs : List Value) (a : α) : Prop where
  has : Has A w cs a
theorem Fn.aggHas (ht : t.isAgg = true) (h : Fn P f args own [⟨t, x⟩]) (ha : All2 (Arg w) vs args) : Calls P f vs.toArray w (Post (fun v w' => (∃ cs, v = .agg cs.toArray ∧ HasR t.rp w' cs x) ∧ Below w.heap.size w w')) := by
  refine (h.go ha).mono fun e w' ⟨hb, v, he, fp, ⟨cs, hp, hr⟩, _⟩ => ⟨v, he, ?_, hb⟩
  rcases hp with ⟨_, hv⟩ | ⟨h, _⟩
  · exact ⟨cs, hv, ⟨fp, hr⟩⟩
  · rw [ht] at h; cases h
theorem Fn.aggOwn (ht : t.isAgg = true) (h : Fn P f args true [⟨t, x⟩]) (ha : All2 (Arg w) vs args) : Calls P f vs.toArray w (Post (OwnPost t.rp x w)) := by
  refine (h.go ha).mono fun e w' ⟨hb, v, he, fp, ⟨cs, hp, hr⟩, ho⟩ => ⟨v, he, ?_, hb⟩
  rcases hp with ⟨_, hv⟩ | ⟨h, _⟩
  · exact ⟨cs, hv, fp, hr, ho rfl⟩
  · rw [ht] at h; cases h
end
end Go.Proofs.Ytjkbecgenjhaaaa.DW

/-
  PeakSquare: the contracts of calls.
-/
namespace Go.Proofs.Ytjkbecgenjhaaaa
open Go.RowKit DW
theorem tRatS_mem {l : DRatS} {r : DRat} (h : r ∈ l) : tRat r ≤ tRatS l := by
  induction l with
  | nil => cases h
  | cons x l ih =>
    simp only [tRatS]
    rcases List.mem_cons.1 h with rfl | h
    · omega
    · have := ih h; omega
theorem implPeak_c (v1 : Value) (w : DRatS) (W : World) (h1 : Has RRatS W [v1] w) :
    Calls Try.prog 39 #[v1] W (Post (OwnPost RRat (oD (peakO w)) W)) :=
  (implPeak_fn w).aggOwn rfl (vs := [v1]) ⟨Arg.sl (a := DW.tRat) h1, trivial⟩
theorem specPeak_c (v1 : Value) (w : DRatS) (W : World) (h1 : Has RRatS W [v1] w) (hs : w.length + tRatS w ≤ 1048576) :
    Calls Try.prog 38 #[v1] W (Post (fun v w' => (∃ cs, v = .agg cs.toArray ∧ HasR RRat w' cs (oD (peakO w))) ∧ Below W.heap.size W w')) :=
  (specPeak_fn w (fun r hr => by
    have h := tRatS_mem hr
    simp only [tRat, tBigInt] at h
    exact ⟨by omega, by omega⟩)).aggHas rfl (vs := [v1]) ⟨Arg.sl (a := DW.tRat) h1, trivial⟩
theorem tRat_oD {x : Option Rat} (h : okO x) : tRat (oD x) ≤ 48 := by
  cases x with
  | none => decide
  | some q =>
    obtain ⟨h1, h2⟩ := h q rfl
    show nl q.num.natAbs + nl q.den ≤ 48
    omega
theorem okO_peak (w : DRatS) : okO (peakO w) := by
  cases w with
  | nil => exact okO_none
  | cons r l => exact okO_fold _ (okO_rdO r)
end Go.Proofs.Ytjkbecgenjhaaaa

/-
  The law FnExactPeakSquare returns true: the walk through it by the contracts.
-/
namespace Go.Proofs.Ytjkbecgenjhaaaa
open Go.RowKit

set_option maxRecDepth 100000 in
set_option maxHeartbeats 2000000 in
theorem law_FnExactPeakSquare (a0 : Value) (x0 : DRatS) (w : World) (hx0 : Has RRatS w [a0] x0) :
    Calls Try.prog 8 #[a0] w (Post fun r w' => r = .bool true ∧ Below w.heap.size w w') := by
  have A0 := Lib.hid hx0; clear hx0
  have hb0 := Below.refl w.heap.size w
  go_enter Try.func8, Try.ntmps8
  go_wp2_with fail
  have hp1 := (Below.refl w.heap.size w)
  refine (szRatS_any _ _ _ _ (A0.out.below hp1) (by omega) (by omega)).mono ?_
  rintro e w1 ⟨v, rfl, rfl, hc1⟩
  have hs1 := Below.up hp1 hc1 (by simp <;> omega)
  have hb1 := hs1
  have hz1 := hs1.size
  have hr0 := szr_lo 1048576 ((x0.length + tRatS x0)) (by omega)
  go_wp2_with fail
  · go_ret
    exact ⟨_, rfl, rfl, hb1⟩
  have hge0 : 0 ≤ szr 1048576 ((x0.length + tRatS x0)) := by assumption
  have hok := (szr_ok hge0).1
  have hle0 : (x0.length + tRatS x0) ≤ 1048576 := by omega
  have HLE0 := Lib.hid hle0; clear hle0
  clear hok hr0 hge0
  have hp2 := (Below.refl w1.heap.size w1)
  refine (toRatS_any _ _ _ ((A0.out.below hb1).below hp2) HLE0.out).mono ?_
  rintro e w2 ⟨vhq0, rfl, hq0, hc2⟩
  have hs2 := Below.up hp2 hc2 (by simp <;> omega)
  have hb2 := hb1.trans (hs2.mono hb1.size)
  have hz2 := hs2.size
  obtain ⟨adq0, capq0, rfl, hclq0, hcmq0⟩ := hq0.has.len_slice
  clear hclq0 hcmq0
  have Fq01 := Lib.hid hq0
  clear hq0
  go_wp2_with fail
  have hp3 := (Below.refl w2.heap.size w2)
  refine (specPeak_c _ _ _ ((Fq01.out.below hp3)).has HLE0.out).mono ?_
  rintro e w3 ⟨v, rfl, ⟨csw0, rfl, hw0⟩, hc3⟩
  have hs3 := Below.up hp3 hc3 (by simp <;> omega)
  have hb3 := hb2.trans (hs3.mono hb2.size)
  have hz3 := hs3.size
  have hw0 := hw0.has
  obtain ⟨w0_0, w0_1, w0_2, rfl⟩ := list3 hw0.len
  have ow0_0 := hw0.one 0 _ rfl
  have ow0_1 := hw0.one 1 _ rfl
  have ow0_2 := hw0.one 2 _ rfl
  have Fw0 := Lib.hid hw0; clear hw0
  go_wp2_with fail
  have hp4 := ((Below.refl w3.heap.size w3).alloc (by simp <;> omega) (Obj.cells #[w0_0, w0_1, w0_2] 51))
  refine (toRatS_any _ _ _ ((A0.out.below hb3).below hp4) HLE0.out).mono ?_
  rintro e w4 ⟨vhX0, rfl, hX0, hc4⟩
  have hs4 := Below.up hp4 hc4 (by simp <;> omega)
  have hb4 := hb3.trans (hs4.mono hb3.size)
  have hz4 := hs4.size
  have hw4 := hs4
  have bw0_4 : w4.cell? ⟨w3.heap.size, 0, none⟩ = some w0_0 := (hc4.cell (p := ⟨w3.heap.size, 0, none⟩) (by simp <;> omega)).trans (by simp [go_sem])
  have bw1_4 : w4.cell? ⟨w3.heap.size, 1, none⟩ = some w0_1 := (hc4.cell (p := ⟨w3.heap.size, 1, none⟩) (by simp <;> omega)).trans (by simp [go_sem])
  have bw2_4 : w4.cell? ⟨w3.heap.size, 2, none⟩ = some w0_2 := (hc4.cell (p := ⟨w3.heap.size, 2, none⟩) (by simp <;> omega)).trans (by simp [go_sem])
  have bw_lt4 : w3.heap.size < w4.heap.size := Nat.lt_of_lt_of_le (by simp <;> omega) hc4.size
  have bw_L := bw_lt4
  obtain ⟨adX0, capX0, rfl, hclX0, hcmX0⟩ := hX0.has.len_slice
  clear hclX0 hcmX0
  have FX02 := Lib.hid (Own.inn (Own.mono (base' := w3.heap.size + 1) hX0 (by simp)))
  clear hX0
  go_wp2_with fail
  have hp5 := (Below.refl w4.heap.size w4)
  refine (implPeak_c _ _ _ ((FX02.out.below hp5 (by omega)).own (Nat.le_refl _)).has).mono ?_
  rintro e w5 ⟨v, rfl, ⟨cshg0, rfl, hg0⟩, hc5⟩
  have hs5 := Below.up hp5 hc5 (by simp <;> omega)
  have hb5 := hb4.trans (hs5.mono hb4.size)
  have hz5 := hs5.size
  have hw5 := hw4.trans (hs5.mono hw4.size)
  have bw0_5 : w5.cell? ⟨w3.heap.size, 0, none⟩ = some w0_0 := (hs5.cell (p := ⟨w3.heap.size, 0, none⟩) bw_lt4).trans bw0_4
  have bw1_5 : w5.cell? ⟨w3.heap.size, 1, none⟩ = some w0_1 := (hs5.cell (p := ⟨w3.heap.size, 1, none⟩) bw_lt4).trans bw1_4
  have bw2_5 : w5.cell? ⟨w3.heap.size, 2, none⟩ = some w0_2 := (hs5.cell (p := ⟨w3.heap.size, 2, none⟩) bw_lt4).trans bw2_4
  have bw_lt5 : w3.heap.size < w5.heap.size := Nat.lt_of_lt_of_le bw_lt4 hs5.size
  clear bw0_4 bw1_4 bw2_4 bw_lt4
  obtain ⟨g0_0, g0_1, g0_2, rfl⟩ := list3 hg0.has.len
  have og0_0 := hg0.has.one 0 _ rfl
  have og0_1 := hg0.has.one 1 _ rfl
  have og0_2 := hg0.has.one 2 _ rfl
  have Fg03 := Lib.hid (Own.inn (Own.mono (base' := w4.heap.size) hg0 (by simp)))
  clear hg0
  go_wp2_with fail
  have hp6 := ((Below.refl w5.heap.size w5).alloc (by simp <;> omega) (Obj.cells #[g0_0, g0_1, g0_2] 51))
  refine (eqRat_any _ _ _ _ _ _ _ _ _ (((Fg03.out.below hp6 (by omega)).own (Nat.le_refl _)).has) ((Fw0.out.below hw5).below hp6)).mono ?_
  rintro e w6 ⟨v, rfl, rfl, hc6⟩
  have hs6 := Below.up hp6 hc6 (by simp <;> omega)
  have hb6 := hb5.trans (hs6.mono hb5.size)
  have hz6 := hs6.size
  have hw6 := hw5.trans (hs6.mono hw5.size)
  have bw0_6 : w6.cell? ⟨w3.heap.size, 0, none⟩ = some w0_0 := (hs6.cell (p := ⟨w3.heap.size, 0, none⟩) bw_lt5).trans bw0_5
  have bw1_6 : w6.cell? ⟨w3.heap.size, 1, none⟩ = some w0_1 := (hs6.cell (p := ⟨w3.heap.size, 1, none⟩) bw_lt5).trans bw1_5
  have bw2_6 : w6.cell? ⟨w3.heap.size, 2, none⟩ = some w0_2 := (hs6.cell (p := ⟨w3.heap.size, 2, none⟩) bw_lt5).trans bw2_5
  have bw_lt6 : w3.heap.size < w6.heap.size := Nat.lt_of_lt_of_le bw_lt5 hs6.size
  clear bw0_5 bw1_5 bw2_5 bw_lt5
  have bg0_6 : w6.cell? ⟨w5.heap.size, 0, none⟩ = some g0_0 := (hc6.cell (p := ⟨w5.heap.size, 0, none⟩) (by simp <;> omega)).trans (by simp [go_sem])
  have bg1_6 : w6.cell? ⟨w5.heap.size, 1, none⟩ = some g0_1 := (hc6.cell (p := ⟨w5.heap.size, 1, none⟩) (by simp <;> omega)).trans (by simp [go_sem])
  have bg2_6 : w6.cell? ⟨w5.heap.size, 2, none⟩ = some g0_2 := (hc6.cell (p := ⟨w5.heap.size, 2, none⟩) (by simp <;> omega)).trans (by simp [go_sem])
  have bg_lt6 : w5.heap.size < w6.heap.size := Nat.lt_of_lt_of_le (by simp <;> omega) hc6.size
  have bg_L := bg_lt6
  rw [eqb_true rfl]
  go_wp2_with fail
  have hp7 := (Below.refl w6.heap.size w6)
  refine (toRatS_any _ _ _ ((A0.out.below hb6).below hp7) HLE0.out).mono ?_
  rintro e w7 ⟨vhq4, rfl, hq4, hc7⟩
  have hs7 := Below.up hp7 hc7 (by simp <;> omega)
  have hb7 := hb6.trans (hs7.mono hb6.size)
  have hz7 := hs7.size
  have hw7 := hw6.trans (hs7.mono hw6.size)
  have bw0_7 : w7.cell? ⟨w3.heap.size, 0, none⟩ = some w0_0 := (hs7.cell (p := ⟨w3.heap.size, 0, none⟩) bw_lt6).trans bw0_6
  have bw1_7 : w7.cell? ⟨w3.heap.size, 1, none⟩ = some w0_1 := (hs7.cell (p := ⟨w3.heap.size, 1, none⟩) bw_lt6).trans bw1_6
  have bw2_7 : w7.cell? ⟨w3.heap.size, 2, none⟩ = some w0_2 := (hs7.cell (p := ⟨w3.heap.size, 2, none⟩) bw_lt6).trans bw2_6
  have bw_lt7 : w3.heap.size < w7.heap.size := Nat.lt_of_lt_of_le bw_lt6 hs7.size
  clear bw0_6 bw1_6 bw2_6 bw_lt6
  have bg0_7 : w7.cell? ⟨w5.heap.size, 0, none⟩ = some g0_0 := (hs7.cell (p := ⟨w5.heap.size, 0, none⟩) bg_lt6).trans bg0_6
  have bg1_7 : w7.cell? ⟨w5.heap.size, 1, none⟩ = some g0_1 := (hs7.cell (p := ⟨w5.heap.size, 1, none⟩) bg_lt6).trans bg1_6
  have bg2_7 : w7.cell? ⟨w5.heap.size, 2, none⟩ = some g0_2 := (hs7.cell (p := ⟨w5.heap.size, 2, none⟩) bg_lt6).trans bg2_6
  have bg_lt7 : w5.heap.size < w7.heap.size := Nat.lt_of_lt_of_le bg_lt6 hs7.size
  clear bg0_6 bg1_6 bg2_6 bg_lt6
  obtain ⟨adq4, capq4, rfl, hclq4, hcmq4⟩ := hq4.has.len_slice
  clear hclq4 hcmq4
  have Fq45 := Lib.hid hq4
  clear hq4
  go_wp2_with fail
  have hp8 := (Below.refl w7.heap.size w7)
  refine (eqRatS_any _ _ _ _ _ ((((((FX02.out.below hs5 (by omega)).below hs6 (by omega)).below hs7 (by omega)).below hp8 (by omega)).own (Nat.le_refl _)).has) ((Fq45.out.below hp8)).has).mono ?_
  rintro e w8 ⟨v, rfl, rfl, hc8⟩
  have hs8 := Below.up hp8 hc8 (by simp <;> omega)
  have hb8 := hb7.trans (hs8.mono hb7.size)
  have hz8 := hs8.size
  have hw8 := hw7.trans (hs8.mono hw7.size)
  have bw0_8 : w8.cell? ⟨w3.heap.size, 0, none⟩ = some w0_0 := (hs8.cell (p := ⟨w3.heap.size, 0, none⟩) bw_lt7).trans bw0_7
  have bw1_8 : w8.cell? ⟨w3.heap.size, 1, none⟩ = some w0_1 := (hs8.cell (p := ⟨w3.heap.size, 1, none⟩) bw_lt7).trans bw1_7
  have bw2_8 : w8.cell? ⟨w3.heap.size, 2, none⟩ = some w0_2 := (hs8.cell (p := ⟨w3.heap.size, 2, none⟩) bw_lt7).trans bw2_7
  have bw_lt8 : w3.heap.size < w8.heap.size := Nat.lt_of_lt_of_le bw_lt7 hs8.size
  clear bw0_7 bw1_7 bw2_7 bw_lt7
  have bg0_8 : w8.cell? ⟨w5.heap.size, 0, none⟩ = some g0_0 := (hs8.cell (p := ⟨w5.heap.size, 0, none⟩) bg_lt7).trans bg0_7
  have bg1_8 : w8.cell? ⟨w5.heap.size, 1, none⟩ = some g0_1 := (hs8.cell (p := ⟨w5.heap.size, 1, none⟩) bg_lt7).trans bg1_7
  have bg2_8 : w8.cell? ⟨w5.heap.size, 2, none⟩ = some g0_2 := (hs8.cell (p := ⟨w5.heap.size, 2, none⟩) bg_lt7).trans bg2_7
  have bg_lt8 : w5.heap.size < w8.heap.size := Nat.lt_of_lt_of_le bg_lt7 hs8.size
  clear bg0_7 bg1_7 bg2_7 bg_lt7
  rw [eqb_true rfl]
  have hcn0 : cnRatS x0 ≤ 3145728 := by have := cnRatS_le x0; have := HLE0.out; omega
  go_wp2_with fail
  have hp9 := (Below.refl w8.heap.size w8)
  obtain ⟨fp9, hr9, hn9, hfp9⟩ := (((((FX02.out.below hs5 (by omega)).below hs6 (by omega)).below hs7 (by omega)).below hs8 (by omega)).below hp9 (by omega))
  refine (markRatS_any _ _ (1) fp9 _ hr9 hn9 (fun b hb => (hfp9 b hb).2.2) (by omega) (by omega)).mono ?_
  rintro e w9 ⟨v, rfl, rfl, hm9, hu9⟩
  have hz9 := hu9.size
  have hl9 : Below (w3.heap.size + 1) w8 w9 := hu9.below (fun b hb => (hfp9 b hb).1) (by omega)
  have hb9 := hb8.trans (hl9.mono (by omega))
  have hw9 := hw8.trans (hl9.mono (by omega))
  have bw0_9 : w9.cell? ⟨w3.heap.size, 0, none⟩ = some w0_0 := (hu9.cell bw_lt8 (fun hm => by have h1 := (hfp9 _ hm).1; have h2 := (hfp9 _ hm).2.1; omega) 0).trans bw0_8
  have bw1_9 : w9.cell? ⟨w3.heap.size, 1, none⟩ = some w0_1 := (hu9.cell bw_lt8 (fun hm => by have h1 := (hfp9 _ hm).1; have h2 := (hfp9 _ hm).2.1; omega) 1).trans bw1_8
  have bw2_9 : w9.cell? ⟨w3.heap.size, 2, none⟩ = some w0_2 := (hu9.cell bw_lt8 (fun hm => by have h1 := (hfp9 _ hm).1; have h2 := (hfp9 _ hm).2.1; omega) 2).trans bw2_8
  have bw_lt9 : w3.heap.size < w9.heap.size := Nat.lt_of_lt_of_le bw_lt8 hz9
  clear bw0_8 bw1_8 bw2_8 bw_lt8
  have bg0_9 : w9.cell? ⟨w5.heap.size, 0, none⟩ = some g0_0 := (hu9.cell bg_lt8 (fun hm => by have h1 := (hfp9 _ hm).1; have h2 := (hfp9 _ hm).2.1; omega) 0).trans bg0_8
  have bg1_9 : w9.cell? ⟨w5.heap.size, 1, none⟩ = some g0_1 := (hu9.cell bg_lt8 (fun hm => by have h1 := (hfp9 _ hm).1; have h2 := (hfp9 _ hm).2.1; omega) 1).trans bg1_8
  have bg2_9 : w9.cell? ⟨w5.heap.size, 2, none⟩ = some g0_2 := (hu9.cell bg_lt8 (fun hm => by have h1 := (hfp9 _ hm).1; have h2 := (hfp9 _ hm).2.1; omega) 2).trans bg2_8
  have bg_lt9 : w5.heap.size < w9.heap.size := Nat.lt_of_lt_of_le bg_lt8 hz9
  clear bg0_8 bg1_8 bg2_8 bg_lt8
  have Fg06 := Lib.hid (OwnIn.frame (((Fg03.out.below hs6 (by omega)).below hs7 (by omega)).below hs8 (by omega)) (fun b h1 h2 => hu9.block b (by omega) (fun hm => by have h3 := (hfp9 b hm).1; have h4 := (hfp9 b hm).2.1; omega)))
  have FMX0 := Lib.hid (Has.of hm9)
  clear hr9 hn9 hm9
  generalize hkk : (1 + ((cnRatS x0 : Nat) : Int) : Int) = kk
  have hk0 : 0 ≤ kk := by omega
  go_wp2_with fail
  have hp10 := (Below.refl w9.heap.size w9)
  refine (eqRat_any _ _ _ _ _ _ _ _ _ (((Fg06.out.below hp10 (by omega)).own (Nat.le_refl _)).has) ((Fw0.out.below hw9).below hp10)).mono ?_
  rintro e w10 ⟨v, rfl, rfl, hc10⟩
  have hs10 := Below.up hp10 hc10 (by simp <;> omega)
  have hb10 := hb9.trans (hs10.mono hb9.size)
  have hz10 := hs10.size
  have hw10 := hw9.trans (hs10.mono hw9.size)
  have bw0_10 : w10.cell? ⟨w3.heap.size, 0, none⟩ = some w0_0 := (hs10.cell (p := ⟨w3.heap.size, 0, none⟩) bw_lt9).trans bw0_9
  have bw1_10 : w10.cell? ⟨w3.heap.size, 1, none⟩ = some w0_1 := (hs10.cell (p := ⟨w3.heap.size, 1, none⟩) bw_lt9).trans bw1_9
  have bw2_10 : w10.cell? ⟨w3.heap.size, 2, none⟩ = some w0_2 := (hs10.cell (p := ⟨w3.heap.size, 2, none⟩) bw_lt9).trans bw2_9
  have bw_lt10 : w3.heap.size < w10.heap.size := Nat.lt_of_lt_of_le bw_lt9 hs10.size
  clear bw0_9 bw1_9 bw2_9 bw_lt9
  have bg0_10 : w10.cell? ⟨w5.heap.size, 0, none⟩ = some g0_0 := (hs10.cell (p := ⟨w5.heap.size, 0, none⟩) bg_lt9).trans bg0_9
  have bg1_10 : w10.cell? ⟨w5.heap.size, 1, none⟩ = some g0_1 := (hs10.cell (p := ⟨w5.heap.size, 1, none⟩) bg_lt9).trans bg1_9
  have bg2_10 : w10.cell? ⟨w5.heap.size, 2, none⟩ = some g0_2 := (hs10.cell (p := ⟨w5.heap.size, 2, none⟩) bg_lt9).trans bg2_9
  have bg_lt10 : w5.heap.size < w10.heap.size := Nat.lt_of_lt_of_le bg_lt9 hs10.size
  clear bg0_9 bg1_9 bg2_9 bg_lt9
  rw [eqb_true rfl]
  have hcg : cnRat (DW.oD (DW.peakO x0)) ≤ 3145728 := by have h1 := cnRat_le (DW.oD (DW.peakO x0)); have h2 := tRat_oD (okO_peak x0); omega
  go_wp2_with fail
  have hp11 := (Below.refl w10.heap.size w10)
  obtain ⟨fp11, hr11, hn11, hfp11⟩ := ((Fg06.out.below hs10 (by omega)).below hp11 (by omega))
  refine (markRat_any _ _ _ _ (1) fp11 _ hr11 hn11 (fun b hb => (hfp11 b hb).2.2) (by omega) (by omega)).mono ?_
  rintro e w11 ⟨v, rfl, rfl, hm11, hu11⟩
  have hz11 := hu11.size
  have hl11 : Below (w4.heap.size) w10 w11 := hu11.below (fun b hb => (hfp11 b hb).1) (by omega)
  have hb11 := hb10.trans (hl11.mono (by omega))
  have hw11 := hw10.trans (hl11.mono (by omega))
  have bw0_11 : w11.cell? ⟨w3.heap.size, 0, none⟩ = some w0_0 := (hu11.cell bw_lt10 (fun hm => by have h1 := (hfp11 _ hm).1; have h2 := (hfp11 _ hm).2.1; omega) 0).trans bw0_10
  have bw1_11 : w11.cell? ⟨w3.heap.size, 1, none⟩ = some w0_1 := (hu11.cell bw_lt10 (fun hm => by have h1 := (hfp11 _ hm).1; have h2 := (hfp11 _ hm).2.1; omega) 1).trans bw1_10
  have bw2_11 : w11.cell? ⟨w3.heap.size, 2, none⟩ = some w0_2 := (hu11.cell bw_lt10 (fun hm => by have h1 := (hfp11 _ hm).1; have h2 := (hfp11 _ hm).2.1; omega) 2).trans bw2_10
  have bw_lt11 : w3.heap.size < w11.heap.size := Nat.lt_of_lt_of_le bw_lt10 hz11
  clear bw0_10 bw1_10 bw2_10 bw_lt10
  have bg0_11 : w11.cell? ⟨w5.heap.size, 0, none⟩ = some g0_0 := (hu11.cell bg_lt10 (fun hm => by have h1 := (hfp11 _ hm).1; have h2 := (hfp11 _ hm).2.1; omega) 0).trans bg0_10
  have bg1_11 : w11.cell? ⟨w5.heap.size, 1, none⟩ = some g0_1 := (hu11.cell bg_lt10 (fun hm => by have h1 := (hfp11 _ hm).1; have h2 := (hfp11 _ hm).2.1; omega) 1).trans bg1_10
  have bg2_11 : w11.cell? ⟨w5.heap.size, 2, none⟩ = some g0_2 := (hu11.cell bg_lt10 (fun hm => by have h1 := (hfp11 _ hm).1; have h2 := (hfp11 _ hm).2.1; omega) 2).trans bg2_10
  have bg_lt11 : w5.heap.size < w11.heap.size := Nat.lt_of_lt_of_le bg_lt10 hz11
  clear bg0_10 bg1_10 bg2_10 bg_lt10
  have FMg0 := Lib.hid (Has.of hm11)
  clear hr11 hn11 hm11
  go_wp2_with fail
  have hp12 := (Below.refl w11.heap.size w11)
  refine (heldRat_any _ _ _ _ _ _ (FMg0.out.below hp12) (by omega) (by omega)).mono ?_
  rintro e w12 ⟨v, rfl, rfl, hc12⟩
  have hs12 := Below.up hp12 hc12 (by simp <;> omega)
  have hb12 := hb11.trans (hs12.mono hb11.size)
  have hz12 := hs12.size
  have hw12 := hw11.trans (hs12.mono hw11.size)
  have bw0_12 : w12.cell? ⟨w3.heap.size, 0, none⟩ = some w0_0 := (hs12.cell (p := ⟨w3.heap.size, 0, none⟩) bw_lt11).trans bw0_11
  have bw1_12 : w12.cell? ⟨w3.heap.size, 1, none⟩ = some w0_1 := (hs12.cell (p := ⟨w3.heap.size, 1, none⟩) bw_lt11).trans bw1_11
  have bw2_12 : w12.cell? ⟨w3.heap.size, 2, none⟩ = some w0_2 := (hs12.cell (p := ⟨w3.heap.size, 2, none⟩) bw_lt11).trans bw2_11
  have bw_lt12 : w3.heap.size < w12.heap.size := Nat.lt_of_lt_of_le bw_lt11 hs12.size
  clear bw0_11 bw1_11 bw2_11 bw_lt11
  have bg0_12 : w12.cell? ⟨w5.heap.size, 0, none⟩ = some g0_0 := (hs12.cell (p := ⟨w5.heap.size, 0, none⟩) bg_lt11).trans bg0_11
  have bg1_12 : w12.cell? ⟨w5.heap.size, 1, none⟩ = some g0_1 := (hs12.cell (p := ⟨w5.heap.size, 1, none⟩) bg_lt11).trans bg1_11
  have bg2_12 : w12.cell? ⟨w5.heap.size, 2, none⟩ = some g0_2 := (hs12.cell (p := ⟨w5.heap.size, 2, none⟩) bg_lt11).trans bg2_11
  have bg_lt12 : w5.heap.size < w12.heap.size := Nat.lt_of_lt_of_le bg_lt11 hs12.size
  clear bg0_11 bg1_11 bg2_11 bg_lt11
  generalize hmm : (1 + ((cnRat (DW.oD (DW.peakO x0)) : Nat) : Int)) = mm
  have hm0 : 0 ≤ mm := by omega
  go_wp2_with fail
  have hp13 := (Below.refl w12.heap.size w12)
  refine (toRatS_any _ _ _ ((A0.out.below hb12).below hp13) HLE0.out).mono ?_
  rintro e w13 ⟨vhq7, rfl, hq7, hc13⟩
  have hs13 := Below.up hp13 hc13 (by simp <;> omega)
  have hb13 := hb12.trans (hs13.mono hb12.size)
  have hz13 := hs13.size
  have hw13 := hw12.trans (hs13.mono hw12.size)
  have bw0_13 : w13.cell? ⟨w3.heap.size, 0, none⟩ = some w0_0 := (hs13.cell (p := ⟨w3.heap.size, 0, none⟩) bw_lt12).trans bw0_12
  have bw1_13 : w13.cell? ⟨w3.heap.size, 1, none⟩ = some w0_1 := (hs13.cell (p := ⟨w3.heap.size, 1, none⟩) bw_lt12).trans bw1_12
  have bw2_13 : w13.cell? ⟨w3.heap.size, 2, none⟩ = some w0_2 := (hs13.cell (p := ⟨w3.heap.size, 2, none⟩) bw_lt12).trans bw2_12
  have bw_lt13 : w3.heap.size < w13.heap.size := Nat.lt_of_lt_of_le bw_lt12 hs13.size
  clear bw0_12 bw1_12 bw2_12 bw_lt12
  have bg0_13 : w13.cell? ⟨w5.heap.size, 0, none⟩ = some g0_0 := (hs13.cell (p := ⟨w5.heap.size, 0, none⟩) bg_lt12).trans bg0_12
  have bg1_13 : w13.cell? ⟨w5.heap.size, 1, none⟩ = some g0_1 := (hs13.cell (p := ⟨w5.heap.size, 1, none⟩) bg_lt12).trans bg1_12
  have bg2_13 : w13.cell? ⟨w5.heap.size, 2, none⟩ = some g0_2 := (hs13.cell (p := ⟨w5.heap.size, 2, none⟩) bg_lt12).trans bg2_12
  have bg_lt13 : w5.heap.size < w13.heap.size := Nat.lt_of_lt_of_le bg_lt12 hs13.size
  clear bg0_12 bg1_12 bg2_12 bg_lt12
  obtain ⟨adq7, capq7, rfl, hclq7, hcmq7⟩ := hq7.has.len_slice
  clear hclq7 hcmq7
  have Fq78 := Lib.hid hq7
  clear hq7
  go_wp2_with fail
  have hp14 := (Below.refl w13.heap.size w13)
  refine (implPeak_c _ _ _ ((Fq78.out.below hp14)).has).mono ?_
  rintro e w14 ⟨v, rfl, ⟨cshg1, rfl, hg1⟩, hc14⟩
  have hs14 := Below.up hp14 hc14 (by simp <;> omega)
  have hb14 := hb13.trans (hs14.mono hb13.size)
  have hz14 := hs14.size
  have hw14 := hw13.trans (hs14.mono hw13.size)
  have bw0_14 : w14.cell? ⟨w3.heap.size, 0, none⟩ = some w0_0 := (hs14.cell (p := ⟨w3.heap.size, 0, none⟩) bw_lt13).trans bw0_13
  have bw1_14 : w14.cell? ⟨w3.heap.size, 1, none⟩ = some w0_1 := (hs14.cell (p := ⟨w3.heap.size, 1, none⟩) bw_lt13).trans bw1_13
  have bw2_14 : w14.cell? ⟨w3.heap.size, 2, none⟩ = some w0_2 := (hs14.cell (p := ⟨w3.heap.size, 2, none⟩) bw_lt13).trans bw2_13
  have bw_lt14 : w3.heap.size < w14.heap.size := Nat.lt_of_lt_of_le bw_lt13 hs14.size
  clear bw0_13 bw1_13 bw2_13 bw_lt13
  have bg0_14 : w14.cell? ⟨w5.heap.size, 0, none⟩ = some g0_0 := (hs14.cell (p := ⟨w5.heap.size, 0, none⟩) bg_lt13).trans bg0_13
  have bg1_14 : w14.cell? ⟨w5.heap.size, 1, none⟩ = some g0_1 := (hs14.cell (p := ⟨w5.heap.size, 1, none⟩) bg_lt13).trans bg1_13
  have bg2_14 : w14.cell? ⟨w5.heap.size, 2, none⟩ = some g0_2 := (hs14.cell (p := ⟨w5.heap.size, 2, none⟩) bg_lt13).trans bg2_13
  have bg_lt14 : w5.heap.size < w14.heap.size := Nat.lt_of_lt_of_le bg_lt13 hs14.size
  clear bg0_13 bg1_13 bg2_13 bg_lt13
  obtain ⟨g1_0, g1_1, g1_2, rfl⟩ := list3 hg1.has.len
  have og1_0 := hg1.has.one 0 _ rfl
  have og1_1 := hg1.has.one 1 _ rfl
  have og1_2 := hg1.has.one 2 _ rfl
  have Fqg19 := Lib.hid hg1
  clear hg1
  go_wp2_with fail
  have hp15 := ((Below.refl w14.heap.size w14).alloc (by simp <;> omega) (Obj.cells #[g1_0, g1_1, g1_2] 51))
  refine (eqRat_any _ _ _ _ _ _ _ _ _ ((Fqg19.out.below hp15)).has ((Fw0.out.below hw14).below hp15)).mono ?_
  rintro e w15 ⟨v, rfl, rfl, hc15⟩
  have hs15 := Below.up hp15 hc15 (by simp <;> omega)
  have hb15 := hb14.trans (hs15.mono hb14.size)
  have hz15 := hs15.size
  have hw15 := hw14.trans (hs15.mono hw14.size)
  have bw0_15 : w15.cell? ⟨w3.heap.size, 0, none⟩ = some w0_0 := (hs15.cell (p := ⟨w3.heap.size, 0, none⟩) bw_lt14).trans bw0_14
  have bw1_15 : w15.cell? ⟨w3.heap.size, 1, none⟩ = some w0_1 := (hs15.cell (p := ⟨w3.heap.size, 1, none⟩) bw_lt14).trans bw1_14
  have bw2_15 : w15.cell? ⟨w3.heap.size, 2, none⟩ = some w0_2 := (hs15.cell (p := ⟨w3.heap.size, 2, none⟩) bw_lt14).trans bw2_14
  have bw_lt15 : w3.heap.size < w15.heap.size := Nat.lt_of_lt_of_le bw_lt14 hs15.size
  clear bw0_14 bw1_14 bw2_14 bw_lt14
  have bg0_15 : w15.cell? ⟨w5.heap.size, 0, none⟩ = some g0_0 := (hs15.cell (p := ⟨w5.heap.size, 0, none⟩) bg_lt14).trans bg0_14
  have bg1_15 : w15.cell? ⟨w5.heap.size, 1, none⟩ = some g0_1 := (hs15.cell (p := ⟨w5.heap.size, 1, none⟩) bg_lt14).trans bg1_14
  have bg2_15 : w15.cell? ⟨w5.heap.size, 2, none⟩ = some g0_2 := (hs15.cell (p := ⟨w5.heap.size, 2, none⟩) bg_lt14).trans bg2_14
  have bg_lt15 : w5.heap.size < w15.heap.size := Nat.lt_of_lt_of_le bg_lt14 hs15.size
  clear bg0_14 bg1_14 bg2_14 bg_lt14
  have bh0_15 : w15.cell? ⟨w14.heap.size, 0, none⟩ = some g1_0 := (hc15.cell (p := ⟨w14.heap.size, 0, none⟩) (by simp <;> omega)).trans (by simp [go_sem])
  have bh1_15 : w15.cell? ⟨w14.heap.size, 1, none⟩ = some g1_1 := (hc15.cell (p := ⟨w14.heap.size, 1, none⟩) (by simp <;> omega)).trans (by simp [go_sem])
  have bh2_15 : w15.cell? ⟨w14.heap.size, 2, none⟩ = some g1_2 := (hc15.cell (p := ⟨w14.heap.size, 2, none⟩) (by simp <;> omega)).trans (by simp [go_sem])
  have bh_lt15 : w14.heap.size < w15.heap.size := Nat.lt_of_lt_of_le (by simp <;> omega) hc15.size
  have bh_L := bh_lt15
  rw [eqb_true rfl]
  go_wp2_with fail
  have hp16 := (Below.refl w15.heap.size w15)
  refine (heldRat_any _ _ _ _ _ _ (((((FMg0.out.below hs12).below hs13).below hs14).below hs15).below hp16) (by omega) (by omega)).mono ?_
  rintro e w16 ⟨v, rfl, rfl, hc16⟩
  have hs16 := Below.up hp16 hc16 (by simp <;> omega)
  have hb16 := hb15.trans (hs16.mono hb15.size)
  have hz16 := hs16.size
  have hw16 := hw15.trans (hs16.mono hw15.size)
  have bw0_16 : w16.cell? ⟨w3.heap.size, 0, none⟩ = some w0_0 := (hs16.cell (p := ⟨w3.heap.size, 0, none⟩) bw_lt15).trans bw0_15
  have bw1_16 : w16.cell? ⟨w3.heap.size, 1, none⟩ = some w0_1 := (hs16.cell (p := ⟨w3.heap.size, 1, none⟩) bw_lt15).trans bw1_15
  have bw2_16 : w16.cell? ⟨w3.heap.size, 2, none⟩ = some w0_2 := (hs16.cell (p := ⟨w3.heap.size, 2, none⟩) bw_lt15).trans bw2_15
  have bw_lt16 : w3.heap.size < w16.heap.size := Nat.lt_of_lt_of_le bw_lt15 hs16.size
  clear bw0_15 bw1_15 bw2_15 bw_lt15
  have bg0_16 : w16.cell? ⟨w5.heap.size, 0, none⟩ = some g0_0 := (hs16.cell (p := ⟨w5.heap.size, 0, none⟩) bg_lt15).trans bg0_15
  have bg1_16 : w16.cell? ⟨w5.heap.size, 1, none⟩ = some g0_1 := (hs16.cell (p := ⟨w5.heap.size, 1, none⟩) bg_lt15).trans bg1_15
  have bg2_16 : w16.cell? ⟨w5.heap.size, 2, none⟩ = some g0_2 := (hs16.cell (p := ⟨w5.heap.size, 2, none⟩) bg_lt15).trans bg2_15
  have bg_lt16 : w5.heap.size < w16.heap.size := Nat.lt_of_lt_of_le bg_lt15 hs16.size
  clear bg0_15 bg1_15 bg2_15 bg_lt15
  have bh0_16 : w16.cell? ⟨w14.heap.size, 0, none⟩ = some g1_0 := (hs16.cell (p := ⟨w14.heap.size, 0, none⟩) bh_lt15).trans bh0_15
  have bh1_16 : w16.cell? ⟨w14.heap.size, 1, none⟩ = some g1_1 := (hs16.cell (p := ⟨w14.heap.size, 1, none⟩) bh_lt15).trans bh1_15
  have bh2_16 : w16.cell? ⟨w14.heap.size, 2, none⟩ = some g1_2 := (hs16.cell (p := ⟨w14.heap.size, 2, none⟩) bh_lt15).trans bh2_15
  have bh_lt16 : w14.heap.size < w16.heap.size := Nat.lt_of_lt_of_le bh_lt15 hs16.size
  clear bh0_15 bh1_15 bh2_15 bh_lt15
  rw [hmm]
  go_wp2
  go_ret
  exact ⟨_, rfl, rfl, hb16⟩
end Go.Proofs.Ytjkbecgenjhaaaa

/-
  IsFasterEverywhere: the contracts of calls.
-/
namespace Go.Proofs.Ytjkbecgenjhaaaa
open Go.RowKit DW
theorem implFaster_c (v1 v2 : Value) (v w : DRatS) (W : World) (h1 : Has RRatS W [v1] v) (h2 : Has RRatS W [v2] w) :
    Calls Try.prog 37 #[v1, v2] W (Post (fun r W' => r = .bool (bdec (fasterP v w)) ∧ Below W.heap.size W W')) :=
  (implFaster_fn v w).bool (vs := [v1, v2]) ⟨Arg.sl (a := DW.tRat) h1, Arg.sl (a := DW.tRat) h2, trivial⟩
theorem specFaster_c (v1 v2 : Value) (v w : DRatS) (W : World) (h1 : Has RRatS W [v1] v) (h2 : Has RRatS W [v2] w) :
    Calls Try.prog 35 #[v1, v2] W (Post (fun r W' => r = .bool (bdec (fasterP v w)) ∧ Below W.heap.size W W')) :=
  (specFaster_fn v w).bool (vs := [v1, v2]) ⟨Arg.sl (a := DW.tRat) h1, Arg.sl (a := DW.tRat) h2, trivial⟩
end Go.Proofs.Ytjkbecgenjhaaaa
