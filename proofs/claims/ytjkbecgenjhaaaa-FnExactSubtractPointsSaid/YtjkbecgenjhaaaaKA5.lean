/-
  Texts of a proof, one behind another: Dw16, Dw18, Ints, Own, Copy, PtOr, Dw19, LawSubtractPoints.
-/
import Derived.Deep.AppendLies
import Derived.Test.YtjkbecgenjhaaaaProg
import Derived.Deep.RegionHeld3
import Derived.Deep.RegionLaw
import Derived.Test.YtjkbecgenjhaaaaKA4
set_option linter.all false
/-
  Lists of fractions: validity, comparison, the greatest one.
-/
namespace Go.Proofs.Ytjkbecgenjhaaaa.DW
open Go.RowKit
theorem indexFunc_rat_fn (F : FuncId) (p : DR → Bool) (hF : ∀ x : DR, Fn Try.prog F [⟨tRat, x⟩] false [⟨.bool, p x⟩]) (l : List DR) : Fn Try.prog 140 [⟨.slice tRat, l⟩, ⟨.cst (.fn F), ()⟩] false [⟨.int, ixf (t := tRat) p l⟩] := by
  refine fn_enter tabOK mixes Try.func140 rfl rfl _ Try.ntmps140 _ Try.results140 (by simp) fun hwf => ?_
  have hl : l.length ≤ 9223372036854775807 := (hwf ⟨.slice tRat, l⟩ (by simp)).1
  try simp (config := { maxSteps := 10000000 }) only [go_sem, reduceIte, reduceCtorEq, Nat.reduceEqDiff, Nat.reduceLT, Nat.reduceLeDiff, Nat.reduceAdd, Nat.reduceBEq, Nat.reduceMul, Int.reduceToNat, Int.reduceLE, Int.reduceLT, Int.reduceEq, Int.reduceNeg]
  refine LoopG.intro _ _ _ (fun i : Nat => ⟨[(0, .sl tRat l), (1, .sc (.func (.func F) #[] #[])), (7, .sc (.int .i64 l.length)), (8, .sc (.int .i64 i))], []⟩) (fun i => ∀ j < i, j < l.length → p (nth (t := tRat) l j) = false) (fun i => l.length - i) 0 ?_ (fun j h => by simp at h) ?_
  · refine Wk.mk [] ?_
    try simp (config := { maxSteps := 10000000 }) only [go_sem, reduceIte, reduceCtorEq, Nat.reduceEqDiff, Nat.reduceLT, Nat.reduceLeDiff, Nat.reduceAdd, Nat.reduceBEq, Nat.reduceMul, Int.reduceToNat, Int.reduceLE, Int.reduceLT, Int.reduceEq, Int.reduceNeg]
    try (and_intros <;> first | rfl | omega | exact ⟨_, rfl⟩)
  · rintro i h2
    try simp (config := { maxSteps := 10000000 }) only [go_sem, reduceIte, reduceCtorEq, Nat.reduceEqDiff, Nat.reduceLT, Nat.reduceLeDiff, Nat.reduceAdd, Nat.reduceBEq, Nat.reduceMul, Int.reduceToNat, Int.reduceLE, Int.reduceLT, Int.reduceEq, Int.reduceNeg]
    refine CondW_dec (fun h3 => ?_) (fun h3 => ?_)
    · try simp (config := { maxSteps := 10000000 }) only [go_sem, reduceIte, reduceCtorEq, Nat.reduceEqDiff, Nat.reduceLT, Nat.reduceLeDiff, Nat.reduceAdd, Nat.reduceBEq, Nat.reduceMul, Int.reduceToNat, Int.reduceLE, Int.reduceLT, Int.reduceEq, Int.reduceNeg]
      repeat (refine And.intro (by first | omega | (constructor <;> omega) | kernel_rfl) ?_)
      repeat (refine And.intro (by first | omega | (constructor <;> omega) | kernel_rfl) ?_)
      refine CallW.mk (hF (nth (t := tRat) l i)) ?_
      try simp (config := { maxSteps := 10000000 }) only [go_sem, reduceIte, reduceCtorEq, Nat.reduceEqDiff, Nat.reduceLT, Nat.reduceLeDiff, Nat.reduceAdd, Nat.reduceBEq, Nat.reduceMul, Int.reduceToNat, Int.reduceLE, Int.reduceLT, Int.reduceEq, Int.reduceNeg]
      refine CondW_b (fun h4 => ?_) (fun h4 => ?_)
      · try simp (config := { maxSteps := 10000000 }) only [go_sem, reduceIte, reduceCtorEq, Nat.reduceEqDiff, Nat.reduceLT, Nat.reduceLeDiff, Nat.reduceAdd, Nat.reduceBEq, Nat.reduceMul, Int.reduceToNat, Int.reduceLE, Int.reduceLT, Int.reduceEq, Int.reduceNeg]
        exact (ixf_at (by omega) h4 (fun j hj => h2 j hj (by omega))).symm
      · try simp (config := { maxSteps := 10000000 }) only [go_sem, reduceIte, reduceCtorEq, Nat.reduceEqDiff, Nat.reduceLT, Nat.reduceLeDiff, Nat.reduceAdd, Nat.reduceBEq, Nat.reduceMul, Int.reduceToNat, Int.reduceLE, Int.reduceLT, Int.reduceEq, Int.reduceNeg]
        repeat (refine And.intro (by first | omega | (constructor <;> omega) | kernel_rfl) ?_)
        refine LoopK.mk (i + 1) ?_ (fun j hj hl => ?_) (by omega)
        · refine Wk.mk [] ?_
          try simp (config := { maxSteps := 10000000 }) only [go_sem, reduceIte, reduceCtorEq, Nat.reduceEqDiff, Nat.reduceLT, Nat.reduceLeDiff, Nat.reduceAdd, Nat.reduceBEq, Nat.reduceMul, Int.reduceToNat, Int.reduceLE, Int.reduceLT, Int.reduceEq, Int.reduceNeg]
          try (and_intros <;> first | rfl | omega | exact ⟨_, rfl⟩)
        · by_cases hj2 : j < i
          · exact h2 j hj2 hl
          · rw [show j = i by omega]; exact h4
    · try simp (config := { maxSteps := 10000000 }) only [go_sem, reduceIte, reduceCtorEq, Nat.reduceEqDiff, Nat.reduceLT, Nat.reduceLeDiff, Nat.reduceAdd, Nat.reduceBEq, Nat.reduceMul, Int.reduceToNat, Int.reduceLE, Int.reduceLT, Int.reduceEq, Int.reduceNeg]
      exact (ixf_none fun j hj => h2 j (by omega) hj).symm
theorem containsFunc_rat_fn (F : FuncId) (p : DR → Bool) (hF : ∀ x : DR, Fn Try.prog F [⟨tRat, x⟩] false [⟨.bool, p x⟩]) (l : List DR) : Fn Try.prog 109 [⟨.slice tRat, l⟩, ⟨.cst (.fn F), ()⟩] false [⟨.bool, l.any p⟩] := by
  refine fn_enter tabOK mixes Try.func109 rfl rfl _ Try.ntmps109 _ Try.results109 (by simp) fun hwf => ?_
  try simp (config := { maxSteps := 10000000 }) only [go_sem, reduceIte, reduceCtorEq, Nat.reduceEqDiff, Nat.reduceLT, Nat.reduceLeDiff, Nat.reduceAdd, Nat.reduceBEq, Nat.reduceMul, Int.reduceToNat, Int.reduceLE, Int.reduceLT, Int.reduceEq, Int.reduceNeg]
  repeat (refine And.intro (by first | omega | (constructor <;> omega) | kernel_rfl) ?_)
  refine CallW.mk (indexFunc_rat_fn F p hF l) ?_
  try simp (config := { maxSteps := 10000000 }) only [go_sem, reduceIte, reduceCtorEq, Nat.reduceEqDiff, Nat.reduceLT, Nat.reduceLeDiff, Nat.reduceAdd, Nat.reduceBEq, Nat.reduceMul, Int.reduceToNat, Int.reduceLE, Int.reduceLT, Int.reduceEq, Int.reduceNeg]
  exact ixf_any
theorem allRatsC_fn (r : DR) : Fn Try.prog 110 [⟨tRat, r⟩] false [⟨.bool, !okR r⟩] := by
  refine fn_enter tabOK mixes Try.func110 rfl rfl _ Try.ntmps110 _ Try.results110 (by simp) fun hwf => ?_
  try simp (config := { maxSteps := 10000000 }) only [go_sem, reduceIte, reduceCtorEq, Nat.reduceEqDiff, Nat.reduceLT, Nat.reduceLeDiff, Nat.reduceAdd, Nat.reduceBEq, Nat.reduceMul, Int.reduceToNat, Int.reduceLE, Int.reduceLT, Int.reduceEq, Int.reduceNeg]
  repeat (refine And.intro (by first | omega | (constructor <;> omega) | kernel_rfl) ?_)
  refine CallW.mk (implRatOk_fn r) ?_
  try simp (config := { maxSteps := 10000000 }) only [go_sem, reduceIte, reduceCtorEq, Nat.reduceEqDiff, Nat.reduceLT, Nat.reduceLeDiff, Nat.reduceAdd, Nat.reduceBEq, Nat.reduceMul, Int.reduceToNat, Int.reduceLE, Int.reduceLT, Int.reduceEq, Int.reduceNeg]
theorem allRats_fn (l : List DR) : Fn Try.prog 77 [⟨.slice tRat, l⟩] false [⟨.bool, !(l.any fun r => !okR r)⟩] := by
  refine fn_enter tabOK mixes Try.func77 rfl rfl _ Try.ntmps77 _ Try.results77 (by simp) fun hwf => ?_
  try simp (config := { maxSteps := 10000000 }) only [go_sem, reduceIte, reduceCtorEq, Nat.reduceEqDiff, Nat.reduceLT, Nat.reduceLeDiff, Nat.reduceAdd, Nat.reduceBEq, Nat.reduceMul, Int.reduceToNat, Int.reduceLE, Int.reduceLT, Int.reduceEq, Int.reduceNeg]
  repeat (refine And.intro (by first | omega | (constructor <;> omega) | kernel_rfl) ?_)
  refine CallW.mk (containsFunc_rat_fn _ _ allRatsC_fn l) ?_
  try simp (config := { maxSteps := 10000000 }) only [go_sem, reduceIte, reduceCtorEq, Nat.reduceEqDiff, Nat.reduceLT, Nat.reduceLeDiff, Nat.reduceAdd, Nat.reduceBEq, Nat.reduceMul, Int.reduceToNat, Int.reduceLE, Int.reduceLT, Int.reduceEq, Int.reduceNeg]
theorem okR_oD {r : DR} (h : okR r = true) : oD (rdO r) = r := by
  obtain ⟨q, _, e1, e2⟩ := okR_t h
  rw [e2, e1]; rfl
theorem all_ok {l : List DR} (h : l.any (fun r => !okR r) = false) {i : Nat} (hi : i < l.length) : okR (nth (t := tRat) l i) = true := by
  rw [List.any_eq_false] at h
  rw [nth_lt hi]
  have := h _ (List.getElem_mem hi)
  simpa using this
theorem any_bad {l : List DR} {i : Nat} (hi : i < l.length) (h : okR (nth (t := tRat) l i) = false) : l.any (fun r => !okR r) = true := by
  rw [nth_lt hi] at h
  exact List.any_eq_true.2 ⟨_, List.getElem_mem hi, by rw [h]; rfl⟩
def fasterP (v w : List DR) : Prop := v.length = w.length ∧ v.any (fun r => !okR r) = false ∧ w.any (fun r => !okR r) = false ∧ ∀ i < v.length, 0 ≤ cmpO (rdO (nth (t := tRat) v i)) (rdO (nth (t := tRat) w i))
theorem implFaster_fn (v w : List DR) : Fn Try.prog 37 [⟨.slice tRat, v⟩, ⟨.slice tRat, w⟩] false [⟨.bool, bdec (fasterP v w)⟩] := by
  by_cases h1 : (v.length : Int) = w.length
  rotate_left
  · rw [bdec_f fun h => h1 (by rw [h.1])]
    refine fn_enter tabOK mixes Try.func37 rfl rfl _ Try.ntmps37 _ Try.results37 (by simp) fun hwf => ?_
    try simp (config := { maxSteps := 10000000 }) only [go_sem, reduceIte, reduceCtorEq, Nat.reduceEqDiff, Nat.reduceLT, Nat.reduceLeDiff, Nat.reduceAdd, Nat.reduceBEq, Nat.reduceMul, Int.reduceToNat, Int.reduceLE, Int.reduceLT, Int.reduceEq, Int.reduceNeg, h1]
  cases h2 : v.any (fun r => !okR r)
  rotate_left
  · rw [bdec_f fun h => by rw [h.2.1] at h2; cases h2]
    refine fn_enter tabOK mixes Try.func37 rfl rfl _ Try.ntmps37 _ Try.results37 (by simp) fun hwf => ?_
    try simp (config := { maxSteps := 10000000 }) only [go_sem, reduceIte, reduceCtorEq, Nat.reduceEqDiff, Nat.reduceLT, Nat.reduceLeDiff, Nat.reduceAdd, Nat.reduceBEq, Nat.reduceMul, Int.reduceToNat, Int.reduceLE, Int.reduceLT, Int.reduceEq, Int.reduceNeg, h1]
    repeat (refine And.intro (by first | omega | (constructor <;> omega) | kernel_rfl) ?_)
    refine CallW.mk (allRats_fn v) ?_
    try simp (config := { maxSteps := 10000000 }) only [go_sem, reduceIte, reduceCtorEq, Nat.reduceEqDiff, Nat.reduceLT, Nat.reduceLeDiff, Nat.reduceAdd, Nat.reduceBEq, Nat.reduceMul, Int.reduceToNat, Int.reduceLE, Int.reduceLT, Int.reduceEq, Int.reduceNeg]
    try simp (config := { maxSteps := 10000000 }) only [go_sem, reduceIte, reduceCtorEq, Nat.reduceEqDiff, Nat.reduceLT, Nat.reduceLeDiff, Nat.reduceAdd, Nat.reduceBEq, Nat.reduceMul, Int.reduceToNat, Int.reduceLE, Int.reduceLT, Int.reduceEq, Int.reduceNeg, h2]
  cases h3 : w.any (fun r => !okR r)
  rotate_left
  · rw [bdec_f fun h => by rw [h.2.2.1] at h3; cases h3]
    refine fn_enter tabOK mixes Try.func37 rfl rfl _ Try.ntmps37 _ Try.results37 (by simp) fun hwf => ?_
    try simp (config := { maxSteps := 10000000 }) only [go_sem, reduceIte, reduceCtorEq, Nat.reduceEqDiff, Nat.reduceLT, Nat.reduceLeDiff, Nat.reduceAdd, Nat.reduceBEq, Nat.reduceMul, Int.reduceToNat, Int.reduceLE, Int.reduceLT, Int.reduceEq, Int.reduceNeg, h1]
    repeat (refine And.intro (by first | omega | (constructor <;> omega) | kernel_rfl) ?_)
    refine CallW.mk (allRats_fn v) ?_
    try simp (config := { maxSteps := 10000000 }) only [go_sem, reduceIte, reduceCtorEq, Nat.reduceEqDiff, Nat.reduceLT, Nat.reduceLeDiff, Nat.reduceAdd, Nat.reduceBEq, Nat.reduceMul, Int.reduceToNat, Int.reduceLE, Int.reduceLT, Int.reduceEq, Int.reduceNeg]
    try simp (config := { maxSteps := 10000000 }) only [go_sem, reduceIte, reduceCtorEq, Nat.reduceEqDiff, Nat.reduceLT, Nat.reduceLeDiff, Nat.reduceAdd, Nat.reduceBEq, Nat.reduceMul, Int.reduceToNat, Int.reduceLE, Int.reduceLT, Int.reduceEq, Int.reduceNeg, h2]
    repeat (refine And.intro (by first | omega | (constructor <;> omega) | kernel_rfl) ?_)
    refine CallW.mk (allRats_fn w) ?_
    try simp (config := { maxSteps := 10000000 }) only [go_sem, reduceIte, reduceCtorEq, Nat.reduceEqDiff, Nat.reduceLT, Nat.reduceLeDiff, Nat.reduceAdd, Nat.reduceBEq, Nat.reduceMul, Int.reduceToNat, Int.reduceLE, Int.reduceLT, Int.reduceEq, Int.reduceNeg]
    try simp (config := { maxSteps := 10000000 }) only [go_sem, reduceIte, reduceCtorEq, Nat.reduceEqDiff, Nat.reduceLT, Nat.reduceLeDiff, Nat.reduceAdd, Nat.reduceBEq, Nat.reduceMul, Int.reduceToNat, Int.reduceLE, Int.reduceLT, Int.reduceEq, Int.reduceNeg, h3]
  refine fn_enter tabOK mixes Try.func37 rfl rfl _ Try.ntmps37 _ Try.results37 (by simp) fun hwf => ?_
  have hl : v.length ≤ 9223372036854775807 := (hwf ⟨.slice tRat, v⟩ (by simp)).1
  try simp (config := { maxSteps := 10000000 }) only [go_sem, reduceIte, reduceCtorEq, Nat.reduceEqDiff, Nat.reduceLT, Nat.reduceLeDiff, Nat.reduceAdd, Nat.reduceBEq, Nat.reduceMul, Int.reduceToNat, Int.reduceLE, Int.reduceLT, Int.reduceEq, Int.reduceNeg, h1]
  repeat (refine And.intro (by first | omega | (constructor <;> omega) | kernel_rfl) ?_)
  refine CallW.mk (allRats_fn v) ?_
  try simp (config := { maxSteps := 10000000 }) only [go_sem, reduceIte, reduceCtorEq, Nat.reduceEqDiff, Nat.reduceLT, Nat.reduceLeDiff, Nat.reduceAdd, Nat.reduceBEq, Nat.reduceMul, Int.reduceToNat, Int.reduceLE, Int.reduceLT, Int.reduceEq, Int.reduceNeg]
  try simp (config := { maxSteps := 10000000 }) only [go_sem, reduceIte, reduceCtorEq, Nat.reduceEqDiff, Nat.reduceLT, Nat.reduceLeDiff, Nat.reduceAdd, Nat.reduceBEq, Nat.reduceMul, Int.reduceToNat, Int.reduceLE, Int.reduceLT, Int.reduceEq, Int.reduceNeg, h2]
  repeat (refine And.intro (by first | omega | (constructor <;> omega) | kernel_rfl) ?_)
  refine CallW.mk (allRats_fn w) ?_
  try simp (config := { maxSteps := 10000000 }) only [go_sem, reduceIte, reduceCtorEq, Nat.reduceEqDiff, Nat.reduceLT, Nat.reduceLeDiff, Nat.reduceAdd, Nat.reduceBEq, Nat.reduceMul, Int.reduceToNat, Int.reduceLE, Int.reduceLT, Int.reduceEq, Int.reduceNeg]
  try simp (config := { maxSteps := 10000000 }) only [go_sem, reduceIte, reduceCtorEq, Nat.reduceEqDiff, Nat.reduceLT, Nat.reduceLeDiff, Nat.reduceAdd, Nat.reduceBEq, Nat.reduceMul, Int.reduceToNat, Int.reduceLE, Int.reduceLT, Int.reduceEq, Int.reduceNeg, h3]
  refine LoopG.intro _ _ _ (fun i : Nat => ⟨[(0, .sl tRat v), (1, .sl tRat w), (21, .sl tRat v), (22, .sc (.int .i64 w.length)), (23, .sc (.int .i64 i))], []⟩) (fun i => ∀ j < i, j < v.length → 0 ≤ cmpO (rdO (nth (t := tRat) v j)) (rdO (nth (t := tRat) w j))) (fun i => v.length - i) 0 ?_ (fun j h => by omega) ?_
  · refine Wk.mk [] ?_
    try simp (config := { maxSteps := 10000000 }) only [go_sem, reduceIte, reduceCtorEq, Nat.reduceEqDiff, Nat.reduceLT, Nat.reduceLeDiff, Nat.reduceAdd, Nat.reduceBEq, Nat.reduceMul, Int.reduceToNat, Int.reduceLE, Int.reduceLT, Int.reduceEq, Int.reduceNeg]
    try (and_intros <;> first | rfl | omega | exact ⟨_, rfl⟩)
  · rintro i g1
    try simp (config := { maxSteps := 10000000 }) only [go_sem, reduceIte, reduceCtorEq, Nat.reduceEqDiff, Nat.reduceLT, Nat.reduceLeDiff, Nat.reduceAdd, Nat.reduceBEq, Nat.reduceMul, Int.reduceToNat, Int.reduceLE, Int.reduceLT, Int.reduceEq, Int.reduceNeg]
    refine CondW_dec (fun hA => ?_) (fun hA => ?_)
    · have ev := okR_oD (all_ok h2 (i := i) (by omega))
      have ew := okR_oD (all_ok h3 (i := i) (by omega))
      have hc := ratCmp_fn (rdO (nth (t := tRat) v i)) (rdO (nth (t := tRat) w i)) (okO_rdO _) (okO_rdO _)
      rw [ev, ew] at hc
      try simp (config := { maxSteps := 10000000 }) only [go_sem, reduceIte, reduceCtorEq, Nat.reduceEqDiff, Nat.reduceLT, Nat.reduceLeDiff, Nat.reduceAdd, Nat.reduceBEq, Nat.reduceMul, Int.reduceToNat, Int.reduceLE, Int.reduceLT, Int.reduceEq, Int.reduceNeg]
      repeat (refine And.intro (by first | omega | (constructor <;> omega) | kernel_rfl) ?_)
      repeat (refine And.intro (by first | omega | (constructor <;> omega) | kernel_rfl) ?_)
      refine CallW.mk (hc) ?_
      try simp (config := { maxSteps := 10000000 }) only [go_sem, reduceIte, reduceCtorEq, Nat.reduceEqDiff, Nat.reduceLT, Nat.reduceLeDiff, Nat.reduceAdd, Nat.reduceBEq, Nat.reduceMul, Int.reduceToNat, Int.reduceLE, Int.reduceLT, Int.reduceEq, Int.reduceNeg]
      repeat (refine And.intro (by first | omega | (constructor <;> omega) | kernel_rfl) ?_)
      refine CondW_dec (fun hB => ?_) (fun hB => ?_)
      · rw [bdec_f fun h => by have := h.2.2.2 i (by omega); omega]
        try simp (config := { maxSteps := 10000000 }) only [go_sem, reduceIte, reduceCtorEq, Nat.reduceEqDiff, Nat.reduceLT, Nat.reduceLeDiff, Nat.reduceAdd, Nat.reduceBEq, Nat.reduceMul, Int.reduceToNat, Int.reduceLE, Int.reduceLT, Int.reduceEq, Int.reduceNeg]
      · try simp (config := { maxSteps := 10000000 }) only [go_sem, reduceIte, reduceCtorEq, Nat.reduceEqDiff, Nat.reduceLT, Nat.reduceLeDiff, Nat.reduceAdd, Nat.reduceBEq, Nat.reduceMul, Int.reduceToNat, Int.reduceLE, Int.reduceLT, Int.reduceEq, Int.reduceNeg]
        repeat (refine And.intro (by first | omega | (constructor <;> omega) | kernel_rfl) ?_)
        refine LoopK.mk (i + 1) ?_ (fun j hj hjl => ?_) (by omega)
        · refine Wk.mk [] ?_
          try simp (config := { maxSteps := 10000000 }) only [go_sem, reduceIte, reduceCtorEq, Nat.reduceEqDiff, Nat.reduceLT, Nat.reduceLeDiff, Nat.reduceAdd, Nat.reduceBEq, Nat.reduceMul, Int.reduceToNat, Int.reduceLE, Int.reduceLT, Int.reduceEq, Int.reduceNeg]
          try (and_intros <;> first | rfl | omega | exact ⟨_, rfl⟩)
        · by_cases hji : j < i
          · exact g1 j hji hjl
          · rw [show j = i by omega]; omega
    · rw [bdec_t ⟨by omega, h2, h3, fun i hi => g1 i (by omega) hi⟩]
      try simp (config := { maxSteps := 10000000 }) only [go_sem, reduceIte, reduceCtorEq, Nat.reduceEqDiff, Nat.reduceLT, Nat.reduceLeDiff, Nat.reduceAdd, Nat.reduceBEq, Nat.reduceMul, Int.reduceToNat, Int.reduceLE, Int.reduceLT, Int.reduceEq, Int.reduceNeg]
theorem specFaster_fn (v w : List DR) : Fn Try.prog 35 [⟨.slice tRat, v⟩, ⟨.slice tRat, w⟩] false [⟨.bool, bdec (fasterP v w)⟩] := by
  by_cases h1 : (v.length : Int) = w.length
  rotate_left
  · rw [bdec_f fun h => h1 (by rw [h.1])]
    refine fn_enter tabOK mixes Try.func35 rfl rfl _ Try.ntmps35 _ Try.results35 (by simp) fun hwf => ?_
    try simp (config := { maxSteps := 10000000 }) only [go_sem, reduceIte, reduceCtorEq, Nat.reduceEqDiff, Nat.reduceLT, Nat.reduceLeDiff, Nat.reduceAdd, Nat.reduceBEq, Nat.reduceMul, Int.reduceToNat, Int.reduceLE, Int.reduceLT, Int.reduceEq, Int.reduceNeg, h1]
  refine fn_enter tabOK mixes Try.func35 rfl rfl _ Try.ntmps35 _ Try.results35 (by simp) fun hwf => ?_
  have hl : v.length ≤ 9223372036854775807 := (hwf ⟨.slice tRat, v⟩ (by simp)).1
  try simp (config := { maxSteps := 10000000 }) only [go_sem, reduceIte, reduceCtorEq, Nat.reduceEqDiff, Nat.reduceLT, Nat.reduceLeDiff, Nat.reduceAdd, Nat.reduceBEq, Nat.reduceMul, Int.reduceToNat, Int.reduceLE, Int.reduceLT, Int.reduceEq, Int.reduceNeg, h1]
  refine LoopG.intro _ _ _ (fun i : Nat => ⟨[(0, .sl tRat v), (1, .sl tRat w), (12, .sl tRat v), (13, .sc (.int .i64 w.length)), (14, .sc (.int .i64 i))], []⟩) (fun i => ∀ j < i, j < v.length → okR (nth (t := tRat) v j) = true ∧ okR (nth (t := tRat) w j) = true ∧ 0 ≤ cmpO (rdO (nth (t := tRat) v j)) (rdO (nth (t := tRat) w j))) (fun i => v.length - i) 0 ?_ (fun j h => by omega) ?_
  · refine Wk.mk [] ?_
    try simp (config := { maxSteps := 10000000 }) only [go_sem, reduceIte, reduceCtorEq, Nat.reduceEqDiff, Nat.reduceLT, Nat.reduceLeDiff, Nat.reduceAdd, Nat.reduceBEq, Nat.reduceMul, Int.reduceToNat, Int.reduceLE, Int.reduceLT, Int.reduceEq, Int.reduceNeg]
    try (and_intros <;> first | rfl | omega | exact ⟨_, rfl⟩)
  · rintro i g1
    try simp (config := { maxSteps := 10000000 }) only [go_sem, reduceIte, reduceCtorEq, Nat.reduceEqDiff, Nat.reduceLT, Nat.reduceLeDiff, Nat.reduceAdd, Nat.reduceBEq, Nat.reduceMul, Int.reduceToNat, Int.reduceLE, Int.reduceLT, Int.reduceEq, Int.reduceNeg]
    refine CondW_dec (fun hA => ?_) (fun hA => ?_)
    · cases h2 : okR (nth (t := tRat) v i)
      · rw [bdec_f fun h => by have hh := h.2.1; rw [any_bad (by omega) h2] at hh; cases hh]
        try simp (config := { maxSteps := 10000000 }) only [go_sem, reduceIte, reduceCtorEq, Nat.reduceEqDiff, Nat.reduceLT, Nat.reduceLeDiff, Nat.reduceAdd, Nat.reduceBEq, Nat.reduceMul, Int.reduceToNat, Int.reduceLE, Int.reduceLT, Int.reduceEq, Int.reduceNeg]
        repeat (refine And.intro (by first | omega | (constructor <;> omega) | kernel_rfl) ?_)
        repeat (refine And.intro (by first | omega | (constructor <;> omega) | kernel_rfl) ?_)
        refine CallW.mk (specRatOk_fn (nth (t := tRat) v i)) ?_
        try simp (config := { maxSteps := 10000000 }) only [go_sem, reduceIte, reduceCtorEq, Nat.reduceEqDiff, Nat.reduceLT, Nat.reduceLeDiff, Nat.reduceAdd, Nat.reduceBEq, Nat.reduceMul, Int.reduceToNat, Int.reduceLE, Int.reduceLT, Int.reduceEq, Int.reduceNeg]
        try simp (config := { maxSteps := 10000000 }) only [go_sem, reduceIte, reduceCtorEq, Nat.reduceEqDiff, Nat.reduceLT, Nat.reduceLeDiff, Nat.reduceAdd, Nat.reduceBEq, Nat.reduceMul, Int.reduceToNat, Int.reduceLE, Int.reduceLT, Int.reduceEq, Int.reduceNeg, h2]
        all_goals repeat (refine And.intro (by first | omega | (constructor <;> omega) | kernel_rfl) ?_)
        all_goals first | kernel_rfl | omega | rfl
      cases h3 : okR (nth (t := tRat) w i)
      · rw [bdec_f fun h => by have hh := h.2.2.1; rw [any_bad (l := w) (by omega) h3] at hh; cases hh]
        try simp (config := { maxSteps := 10000000 }) only [go_sem, reduceIte, reduceCtorEq, Nat.reduceEqDiff, Nat.reduceLT, Nat.reduceLeDiff, Nat.reduceAdd, Nat.reduceBEq, Nat.reduceMul, Int.reduceToNat, Int.reduceLE, Int.reduceLT, Int.reduceEq, Int.reduceNeg]
        repeat (refine And.intro (by first | omega | (constructor <;> omega) | kernel_rfl) ?_)
        repeat (refine And.intro (by first | omega | (constructor <;> omega) | kernel_rfl) ?_)
        refine CallW.mk (specRatOk_fn (nth (t := tRat) v i)) ?_
        try simp (config := { maxSteps := 10000000 }) only [go_sem, reduceIte, reduceCtorEq, Nat.reduceEqDiff, Nat.reduceLT, Nat.reduceLeDiff, Nat.reduceAdd, Nat.reduceBEq, Nat.reduceMul, Int.reduceToNat, Int.reduceLE, Int.reduceLT, Int.reduceEq, Int.reduceNeg]
        try simp (config := { maxSteps := 10000000 }) only [go_sem, reduceIte, reduceCtorEq, Nat.reduceEqDiff, Nat.reduceLT, Nat.reduceLeDiff, Nat.reduceAdd, Nat.reduceBEq, Nat.reduceMul, Int.reduceToNat, Int.reduceLE, Int.reduceLT, Int.reduceEq, Int.reduceNeg, h2]
        repeat (refine And.intro (by first | omega | (constructor <;> omega) | kernel_rfl) ?_)
        repeat (refine And.intro (by first | omega | (constructor <;> omega) | kernel_rfl) ?_)
        refine CallW.mk (specRatOk_fn (nth (t := tRat) w i)) ?_
        try simp (config := { maxSteps := 10000000 }) only [go_sem, reduceIte, reduceCtorEq, Nat.reduceEqDiff, Nat.reduceLT, Nat.reduceLeDiff, Nat.reduceAdd, Nat.reduceBEq, Nat.reduceMul, Int.reduceToNat, Int.reduceLE, Int.reduceLT, Int.reduceEq, Int.reduceNeg]
        try simp (config := { maxSteps := 10000000 }) only [go_sem, reduceIte, reduceCtorEq, Nat.reduceEqDiff, Nat.reduceLT, Nat.reduceLeDiff, Nat.reduceAdd, Nat.reduceBEq, Nat.reduceMul, Int.reduceToNat, Int.reduceLE, Int.reduceLT, Int.reduceEq, Int.reduceNeg, h3]
        all_goals repeat (refine And.intro (by first | omega | (constructor <;> omega) | kernel_rfl) ?_)
        all_goals first | kernel_rfl | omega | rfl
      try simp (config := { maxSteps := 10000000 }) only [go_sem, reduceIte, reduceCtorEq, Nat.reduceEqDiff, Nat.reduceLT, Nat.reduceLeDiff, Nat.reduceAdd, Nat.reduceBEq, Nat.reduceMul, Int.reduceToNat, Int.reduceLE, Int.reduceLT, Int.reduceEq, Int.reduceNeg]
      repeat (refine And.intro (by first | omega | (constructor <;> omega) | kernel_rfl) ?_)
      repeat (refine And.intro (by first | omega | (constructor <;> omega) | kernel_rfl) ?_)
      refine CallW.mk (specRatOk_fn (nth (t := tRat) v i)) ?_
      try simp (config := { maxSteps := 10000000 }) only [go_sem, reduceIte, reduceCtorEq, Nat.reduceEqDiff, Nat.reduceLT, Nat.reduceLeDiff, Nat.reduceAdd, Nat.reduceBEq, Nat.reduceMul, Int.reduceToNat, Int.reduceLE, Int.reduceLT, Int.reduceEq, Int.reduceNeg]
      try simp (config := { maxSteps := 10000000 }) only [go_sem, reduceIte, reduceCtorEq, Nat.reduceEqDiff, Nat.reduceLT, Nat.reduceLeDiff, Nat.reduceAdd, Nat.reduceBEq, Nat.reduceMul, Int.reduceToNat, Int.reduceLE, Int.reduceLT, Int.reduceEq, Int.reduceNeg, h2]
      repeat (refine And.intro (by first | omega | (constructor <;> omega) | kernel_rfl) ?_)
      repeat (refine And.intro (by first | omega | (constructor <;> omega) | kernel_rfl) ?_)
      refine CallW.mk (specRatOk_fn (nth (t := tRat) w i)) ?_
      try simp (config := { maxSteps := 10000000 }) only [go_sem, reduceIte, reduceCtorEq, Nat.reduceEqDiff, Nat.reduceLT, Nat.reduceLeDiff, Nat.reduceAdd, Nat.reduceBEq, Nat.reduceMul, Int.reduceToNat, Int.reduceLE, Int.reduceLT, Int.reduceEq, Int.reduceNeg]
      try simp (config := { maxSteps := 10000000 }) only [go_sem, reduceIte, reduceCtorEq, Nat.reduceEqDiff, Nat.reduceLT, Nat.reduceLeDiff, Nat.reduceAdd, Nat.reduceBEq, Nat.reduceMul, Int.reduceToNat, Int.reduceLE, Int.reduceLT, Int.reduceEq, Int.reduceNeg, h3]
      repeat (refine And.intro (by first | omega | (constructor <;> omega) | kernel_rfl) ?_)
      repeat (refine And.intro (by first | omega | (constructor <;> omega) | kernel_rfl) ?_)
      refine CallW.mk (specRatCmp_fn (nth (t := tRat) v i) (nth (t := tRat) w i)) ?_
      try simp (config := { maxSteps := 10000000 }) only [go_sem, reduceIte, reduceCtorEq, Nat.reduceEqDiff, Nat.reduceLT, Nat.reduceLeDiff, Nat.reduceAdd, Nat.reduceBEq, Nat.reduceMul, Int.reduceToNat, Int.reduceLE, Int.reduceLT, Int.reduceEq, Int.reduceNeg]
      repeat (refine And.intro (by first | omega | (constructor <;> omega) | kernel_rfl) ?_)
      refine CondW_dec (fun hB => ?_) (fun hB => ?_)
      · rw [bdec_f fun h => by have := h.2.2.2 i (by omega); omega]
        try simp (config := { maxSteps := 10000000 }) only [go_sem, reduceIte, reduceCtorEq, Nat.reduceEqDiff, Nat.reduceLT, Nat.reduceLeDiff, Nat.reduceAdd, Nat.reduceBEq, Nat.reduceMul, Int.reduceToNat, Int.reduceLE, Int.reduceLT, Int.reduceEq, Int.reduceNeg]
      · try simp (config := { maxSteps := 10000000 }) only [go_sem, reduceIte, reduceCtorEq, Nat.reduceEqDiff, Nat.reduceLT, Nat.reduceLeDiff, Nat.reduceAdd, Nat.reduceBEq, Nat.reduceMul, Int.reduceToNat, Int.reduceLE, Int.reduceLT, Int.reduceEq, Int.reduceNeg]
        repeat (refine And.intro (by first | omega | (constructor <;> omega) | kernel_rfl) ?_)
        refine LoopK.mk (i + 1) ?_ (fun j hj hjl => ?_) (by omega)
        · refine Wk.mk [] ?_
          try simp (config := { maxSteps := 10000000 }) only [go_sem, reduceIte, reduceCtorEq, Nat.reduceEqDiff, Nat.reduceLT, Nat.reduceLeDiff, Nat.reduceAdd, Nat.reduceBEq, Nat.reduceMul, Int.reduceToNat, Int.reduceLE, Int.reduceLT, Int.reduceEq, Int.reduceNeg]
          try (and_intros <;> first | rfl | omega | exact ⟨_, rfl⟩)
        · by_cases hji : j < i
          · exact g1 j hji hjl
          · rw [show j = i by omega]; exact ⟨h2, h3, by omega⟩
    · have all : ∀ (l : List DR), (∀ j < l.length, okR (nth (t := tRat) l j) = true) → l.any (fun r => !okR r) = false := by
        intro l hl
        rw [List.any_eq_false]
        intro r hr
        obtain ⟨j, hj, rfl⟩ := List.getElem_of_mem hr
        have := hl j hj
        rw [nth_lt hj] at this
        simp [this]
      rw [bdec_t ⟨by omega, all v fun j hj => (g1 j (by omega) hj).1, all w fun j hj => (g1 j (by omega) (by omega)).2.1, fun j hj => (g1 j (by omega) hj).2.2⟩]
      try simp (config := { maxSteps := 10000000 }) only [go_sem, reduceIte, reduceCtorEq, Nat.reduceEqDiff, Nat.reduceLT, Nat.reduceLeDiff, Nat.reduceAdd, Nat.reduceBEq, Nat.reduceMul, Int.reduceToNat, Int.reduceLE, Int.reduceLT, Int.reduceEq, Int.reduceNeg]
end Go.Proofs.Ytjkbecgenjhaaaa.DW

/-
  Points: validity; the length of a move.
-/
namespace Go.Proofs.Ytjkbecgenjhaaaa.DW
open Go.RowKit
attribute [go_sem] Prod.eta
abbrev DP : Type := DR × DR
noncomputable def okPt (p : DP) : Bool := okR p.1 && okR p.2
theorem implIsValidPoint_fn (p : DP) : Fn Try.prog 121 [⟨tPoint, p⟩] false [⟨.bool, okPt p⟩] := by
  cases h : okR p.1
  · refine fn_enter tabOK mixes Try.func121 rfl rfl _ Try.ntmps121 _ Try.results121 (by simp) fun hwf => ?_
    try simp (config := { maxSteps := 10000000 }) only [go_sem, reduceIte, reduceCtorEq, Nat.reduceEqDiff, Nat.reduceLT, Nat.reduceLeDiff, Nat.reduceAdd, Nat.reduceBEq, Nat.reduceMul, Int.reduceToNat, Int.reduceLE, Int.reduceLT, Int.reduceEq, Int.reduceNeg]
    repeat (refine And.intro (by first | omega | (constructor <;> omega) | kernel_rfl) ?_)
    refine CallW.mk (implRatOk_fn p.1) ?_
    try simp (config := { maxSteps := 10000000 }) only [go_sem, reduceIte, reduceCtorEq, Nat.reduceEqDiff, Nat.reduceLT, Nat.reduceLeDiff, Nat.reduceAdd, Nat.reduceBEq, Nat.reduceMul, Int.reduceToNat, Int.reduceLE, Int.reduceLT, Int.reduceEq, Int.reduceNeg]
    try simp (config := { maxSteps := 10000000 }) only [go_sem, reduceIte, reduceCtorEq, Nat.reduceEqDiff, Nat.reduceLT, Nat.reduceLeDiff, Nat.reduceAdd, Nat.reduceBEq, Nat.reduceMul, Int.reduceToNat, Int.reduceLE, Int.reduceLT, Int.reduceEq, Int.reduceNeg, h]
    repeat (refine And.intro (by first | omega | (constructor <;> omega) | kernel_rfl) ?_)
    simp [okPt, h]
  · refine fn_enter tabOK mixes Try.func121 rfl rfl _ Try.ntmps121 _ Try.results121 (by simp) fun hwf => ?_
    try simp (config := { maxSteps := 10000000 }) only [go_sem, reduceIte, reduceCtorEq, Nat.reduceEqDiff, Nat.reduceLT, Nat.reduceLeDiff, Nat.reduceAdd, Nat.reduceBEq, Nat.reduceMul, Int.reduceToNat, Int.reduceLE, Int.reduceLT, Int.reduceEq, Int.reduceNeg]
    repeat (refine And.intro (by first | omega | (constructor <;> omega) | kernel_rfl) ?_)
    refine CallW.mk (implRatOk_fn p.1) ?_
    try simp (config := { maxSteps := 10000000 }) only [go_sem, reduceIte, reduceCtorEq, Nat.reduceEqDiff, Nat.reduceLT, Nat.reduceLeDiff, Nat.reduceAdd, Nat.reduceBEq, Nat.reduceMul, Int.reduceToNat, Int.reduceLE, Int.reduceLT, Int.reduceEq, Int.reduceNeg]
    try simp (config := { maxSteps := 10000000 }) only [go_sem, reduceIte, reduceCtorEq, Nat.reduceEqDiff, Nat.reduceLT, Nat.reduceLeDiff, Nat.reduceAdd, Nat.reduceBEq, Nat.reduceMul, Int.reduceToNat, Int.reduceLE, Int.reduceLT, Int.reduceEq, Int.reduceNeg, h]
    repeat (refine And.intro (by first | omega | (constructor <;> omega) | kernel_rfl) ?_)
    refine CallW.mk (implRatOk_fn p.2) ?_
    try simp (config := { maxSteps := 10000000 }) only [go_sem, reduceIte, reduceCtorEq, Nat.reduceEqDiff, Nat.reduceLT, Nat.reduceLeDiff, Nat.reduceAdd, Nat.reduceBEq, Nat.reduceMul, Int.reduceToNat, Int.reduceLE, Int.reduceLT, Int.reduceEq, Int.reduceNeg]
    repeat (refine And.intro (by first | omega | (constructor <;> omega) | kernel_rfl) ?_)
    simp [okPt, h]
theorem specIsValidPoint_fn (p : DP) : Fn Try.prog 116 [⟨tPoint, p⟩] false [⟨.bool, okPt p⟩] := by
  cases h : okR p.1
  · refine fn_enter tabOK mixes Try.func116 rfl rfl _ Try.ntmps116 _ Try.results116 (by simp) fun hwf => ?_
    try simp (config := { maxSteps := 10000000 }) only [go_sem, reduceIte, reduceCtorEq, Nat.reduceEqDiff, Nat.reduceLT, Nat.reduceLeDiff, Nat.reduceAdd, Nat.reduceBEq, Nat.reduceMul, Int.reduceToNat, Int.reduceLE, Int.reduceLT, Int.reduceEq, Int.reduceNeg]
    repeat (refine And.intro (by first | omega | (constructor <;> omega) | kernel_rfl) ?_)
    refine CallW.mk (specRatOk_fn p.1) ?_
    try simp (config := { maxSteps := 10000000 }) only [go_sem, reduceIte, reduceCtorEq, Nat.reduceEqDiff, Nat.reduceLT, Nat.reduceLeDiff, Nat.reduceAdd, Nat.reduceBEq, Nat.reduceMul, Int.reduceToNat, Int.reduceLE, Int.reduceLT, Int.reduceEq, Int.reduceNeg]
    try simp (config := { maxSteps := 10000000 }) only [go_sem, reduceIte, reduceCtorEq, Nat.reduceEqDiff, Nat.reduceLT, Nat.reduceLeDiff, Nat.reduceAdd, Nat.reduceBEq, Nat.reduceMul, Int.reduceToNat, Int.reduceLE, Int.reduceLT, Int.reduceEq, Int.reduceNeg, h]
    repeat (refine And.intro (by first | omega | (constructor <;> omega) | kernel_rfl) ?_)
    simp [okPt, h]
  · refine fn_enter tabOK mixes Try.func116 rfl rfl _ Try.ntmps116 _ Try.results116 (by simp) fun hwf => ?_
    try simp (config := { maxSteps := 10000000 }) only [go_sem, reduceIte, reduceCtorEq, Nat.reduceEqDiff, Nat.reduceLT, Nat.reduceLeDiff, Nat.reduceAdd, Nat.reduceBEq, Nat.reduceMul, Int.reduceToNat, Int.reduceLE, Int.reduceLT, Int.reduceEq, Int.reduceNeg]
    repeat (refine And.intro (by first | omega | (constructor <;> omega) | kernel_rfl) ?_)
    refine CallW.mk (specRatOk_fn p.1) ?_
    try simp (config := { maxSteps := 10000000 }) only [go_sem, reduceIte, reduceCtorEq, Nat.reduceEqDiff, Nat.reduceLT, Nat.reduceLeDiff, Nat.reduceAdd, Nat.reduceBEq, Nat.reduceMul, Int.reduceToNat, Int.reduceLE, Int.reduceLT, Int.reduceEq, Int.reduceNeg]
    try simp (config := { maxSteps := 10000000 }) only [go_sem, reduceIte, reduceCtorEq, Nat.reduceEqDiff, Nat.reduceLT, Nat.reduceLeDiff, Nat.reduceAdd, Nat.reduceBEq, Nat.reduceMul, Int.reduceToNat, Int.reduceLE, Int.reduceLT, Int.reduceEq, Int.reduceNeg, h]
    repeat (refine And.intro (by first | omega | (constructor <;> omega) | kernel_rfl) ?_)
    refine CallW.mk (specRatOk_fn p.2) ?_
    try simp (config := { maxSteps := 10000000 }) only [go_sem, reduceIte, reduceCtorEq, Nat.reduceEqDiff, Nat.reduceLT, Nat.reduceLeDiff, Nat.reduceAdd, Nat.reduceBEq, Nat.reduceMul, Int.reduceToNat, Int.reduceLE, Int.reduceLT, Int.reduceEq, Int.reduceNeg]
    repeat (refine And.intro (by first | omega | (constructor <;> omega) | kernel_rfl) ?_)
    simp [okPt, h]
theorem indexFunc_pt_fn (F : FuncId) (p : DP → Bool) (hF : ∀ x : DP, Fn Try.prog F [⟨tPoint, x⟩] false [⟨.bool, p x⟩]) (l : List DP) : Fn Try.prog 150 [⟨.slice tPoint, l⟩, ⟨.cst (.fn F), ()⟩] false [⟨.int, ixf (t := tPoint) p l⟩] := by
  refine fn_enter tabOK mixes Try.func150 rfl rfl _ Try.ntmps150 _ Try.results150 (by simp) fun hwf => ?_
  have hl : l.length ≤ 9223372036854775807 := (hwf ⟨.slice tPoint, l⟩ (by simp)).1
  try simp (config := { maxSteps := 10000000 }) only [go_sem, reduceIte, reduceCtorEq, Nat.reduceEqDiff, Nat.reduceLT, Nat.reduceLeDiff, Nat.reduceAdd, Nat.reduceBEq, Nat.reduceMul, Int.reduceToNat, Int.reduceLE, Int.reduceLT, Int.reduceEq, Int.reduceNeg]
  refine LoopG.intro _ _ _ (fun i : Nat => ⟨[(0, .sl tPoint l), (1, .sc (.func (.func F) #[] #[])), (7, .sc (.int .i64 l.length)), (8, .sc (.int .i64 i))], []⟩) (fun i => ∀ j < i, j < l.length → p (nth (t := tPoint) l j) = false) (fun i => l.length - i) 0 ?_ (fun j h => by simp at h) ?_
  · refine Wk.mk [] ?_
    try simp (config := { maxSteps := 10000000 }) only [go_sem, reduceIte, reduceCtorEq, Nat.reduceEqDiff, Nat.reduceLT, Nat.reduceLeDiff, Nat.reduceAdd, Nat.reduceBEq, Nat.reduceMul, Int.reduceToNat, Int.reduceLE, Int.reduceLT, Int.reduceEq, Int.reduceNeg]
    try (and_intros <;> first | rfl | omega | exact ⟨_, rfl⟩)
  · rintro i h2
    try simp (config := { maxSteps := 10000000 }) only [go_sem, reduceIte, reduceCtorEq, Nat.reduceEqDiff, Nat.reduceLT, Nat.reduceLeDiff, Nat.reduceAdd, Nat.reduceBEq, Nat.reduceMul, Int.reduceToNat, Int.reduceLE, Int.reduceLT, Int.reduceEq, Int.reduceNeg]
    refine CondW_dec (fun h3 => ?_) (fun h3 => ?_)
    · try simp (config := { maxSteps := 10000000 }) only [go_sem, reduceIte, reduceCtorEq, Nat.reduceEqDiff, Nat.reduceLT, Nat.reduceLeDiff, Nat.reduceAdd, Nat.reduceBEq, Nat.reduceMul, Int.reduceToNat, Int.reduceLE, Int.reduceLT, Int.reduceEq, Int.reduceNeg]
      repeat (refine And.intro (by first | omega | (constructor <;> omega) | kernel_rfl) ?_)
      repeat (refine And.intro (by first | omega | (constructor <;> omega) | kernel_rfl) ?_)
      refine CallW.mk (hF (nth (t := tPoint) l i)) ?_
      try simp (config := { maxSteps := 10000000 }) only [go_sem, reduceIte, reduceCtorEq, Nat.reduceEqDiff, Nat.reduceLT, Nat.reduceLeDiff, Nat.reduceAdd, Nat.reduceBEq, Nat.reduceMul, Int.reduceToNat, Int.reduceLE, Int.reduceLT, Int.reduceEq, Int.reduceNeg]
      refine CondW_b (fun h4 => ?_) (fun h4 => ?_)
      · try simp (config := { maxSteps := 10000000 }) only [go_sem, reduceIte, reduceCtorEq, Nat.reduceEqDiff, Nat.reduceLT, Nat.reduceLeDiff, Nat.reduceAdd, Nat.reduceBEq, Nat.reduceMul, Int.reduceToNat, Int.reduceLE, Int.reduceLT, Int.reduceEq, Int.reduceNeg]
        exact (ixf_at (by omega) h4 (fun j hj => h2 j hj (by omega))).symm
      · try simp (config := { maxSteps := 10000000 }) only [go_sem, reduceIte, reduceCtorEq, Nat.reduceEqDiff, Nat.reduceLT, Nat.reduceLeDiff, Nat.reduceAdd, Nat.reduceBEq, Nat.reduceMul, Int.reduceToNat, Int.reduceLE, Int.reduceLT, Int.reduceEq, Int.reduceNeg]
        repeat (refine And.intro (by first | omega | (constructor <;> omega) | kernel_rfl) ?_)
        refine LoopK.mk (i + 1) ?_ (fun j hj hl => ?_) (by omega)
        · refine Wk.mk [] ?_
          try simp (config := { maxSteps := 10000000 }) only [go_sem, reduceIte, reduceCtorEq, Nat.reduceEqDiff, Nat.reduceLT, Nat.reduceLeDiff, Nat.reduceAdd, Nat.reduceBEq, Nat.reduceMul, Int.reduceToNat, Int.reduceLE, Int.reduceLT, Int.reduceEq, Int.reduceNeg]
          try (and_intros <;> first | rfl | omega | exact ⟨_, rfl⟩)
        · by_cases hj2 : j < i
          · exact h2 j hj2 hl
          · rw [show j = i by omega]; exact h4
    · try simp (config := { maxSteps := 10000000 }) only [go_sem, reduceIte, reduceCtorEq, Nat.reduceEqDiff, Nat.reduceLT, Nat.reduceLeDiff, Nat.reduceAdd, Nat.reduceBEq, Nat.reduceMul, Int.reduceToNat, Int.reduceLE, Int.reduceLT, Int.reduceEq, Int.reduceNeg]
      exact (ixf_none fun j hj => h2 j (by omega) hj).symm
theorem containsFunc_pt_fn (F : FuncId) (p : DP → Bool) (hF : ∀ x : DP, Fn Try.prog F [⟨tPoint, x⟩] false [⟨.bool, p x⟩]) (l : List DP) : Fn Try.prog 119 [⟨.slice tPoint, l⟩, ⟨.cst (.fn F), ()⟩] false [⟨.bool, l.any p⟩] := by
  refine fn_enter tabOK mixes Try.func119 rfl rfl _ Try.ntmps119 _ Try.results119 (by simp) fun hwf => ?_
  try simp (config := { maxSteps := 10000000 }) only [go_sem, reduceIte, reduceCtorEq, Nat.reduceEqDiff, Nat.reduceLT, Nat.reduceLeDiff, Nat.reduceAdd, Nat.reduceBEq, Nat.reduceMul, Int.reduceToNat, Int.reduceLE, Int.reduceLT, Int.reduceEq, Int.reduceNeg]
  repeat (refine And.intro (by first | omega | (constructor <;> omega) | kernel_rfl) ?_)
  refine CallW.mk (indexFunc_pt_fn F p hF l) ?_
  try simp (config := { maxSteps := 10000000 }) only [go_sem, reduceIte, reduceCtorEq, Nat.reduceEqDiff, Nat.reduceLT, Nat.reduceLeDiff, Nat.reduceAdd, Nat.reduceBEq, Nat.reduceMul, Int.reduceToNat, Int.reduceLE, Int.reduceLT, Int.reduceEq, Int.reduceNeg]
  exact ixf_any
theorem arePointsC_fn (p : DP) : Fn Try.prog 120 [⟨tPoint, p⟩] false [⟨.bool, !okPt p⟩] := by
  refine fn_enter tabOK mixes Try.func120 rfl rfl _ Try.ntmps120 _ Try.results120 (by simp) fun hwf => ?_
  try simp (config := { maxSteps := 10000000 }) only [go_sem, reduceIte, reduceCtorEq, Nat.reduceEqDiff, Nat.reduceLT, Nat.reduceLeDiff, Nat.reduceAdd, Nat.reduceBEq, Nat.reduceMul, Int.reduceToNat, Int.reduceLE, Int.reduceLT, Int.reduceEq, Int.reduceNeg]
  repeat (refine And.intro (by first | omega | (constructor <;> omega) | kernel_rfl) ?_)
  refine CallW.mk (implIsValidPoint_fn p) ?_
  try simp (config := { maxSteps := 10000000 }) only [go_sem, reduceIte, reduceCtorEq, Nat.reduceEqDiff, Nat.reduceLT, Nat.reduceLeDiff, Nat.reduceAdd, Nat.reduceBEq, Nat.reduceMul, Int.reduceToNat, Int.reduceLE, Int.reduceLT, Int.reduceEq, Int.reduceNeg]
theorem arePoints_fn (l : List DP) : Fn Try.prog 88 [⟨.slice tPoint, l⟩] false [⟨.bool, !(l.any fun p => !okPt p)⟩] := by
  refine fn_enter tabOK mixes Try.func88 rfl rfl _ Try.ntmps88 _ Try.results88 (by simp) fun hwf => ?_
  try simp (config := { maxSteps := 10000000 }) only [go_sem, reduceIte, reduceCtorEq, Nat.reduceEqDiff, Nat.reduceLT, Nat.reduceLeDiff, Nat.reduceAdd, Nat.reduceBEq, Nat.reduceMul, Int.reduceToNat, Int.reduceLE, Int.reduceLT, Int.reduceEq, Int.reduceNeg]
  repeat (refine And.intro (by first | omega | (constructor <;> omega) | kernel_rfl) ?_)
  refine CallW.mk (containsFunc_pt_fn _ _ arePointsC_fn l) ?_
  try simp (config := { maxSteps := 10000000 }) only [go_sem, reduceIte, reduceCtorEq, Nat.reduceEqDiff, Nat.reduceLT, Nat.reduceLeDiff, Nat.reduceAdd, Nat.reduceBEq, Nat.reduceMul, Int.reduceToNat, Int.reduceLE, Int.reduceLT, Int.reduceEq, Int.reduceNeg]
theorem arePoints2_fn (p q : DP) : Fn Try.prog 88 [⟨.slice tPoint, [p, q]⟩] false [⟨.bool, okPt p && okPt q⟩] := by
  have h := arePoints_fn [p, q]
  have e : (!([p, q].any fun p => !okPt p)) = (okPt p && okPt q) := by simp
  rw [e] at h; exact h
theorem arePoints1_fn (p : DP) : Fn Try.prog 88 [⟨.slice tPoint, [p]⟩] false [⟨.bool, okPt p⟩] := by
  have h := arePoints_fn [p]
  have e : (!([p].any fun p => !okPt p)) = okPt p := by simp
  rw [e] at h; exact h
noncomputable def sizeO (x : Option Rat) : Option Rat := if sgnO x < 0 then negO x else x
theorem okO_size {x : Option Rat} (h : okO x) : okO (sizeO x) := by
  unfold sizeO; split
  · exact okO_neg h
  · exact h
theorem sizeO_none : sizeO none = none := by unfold sizeO; split <;> rfl
theorem size_fn (x : Option Rat) : Fn Try.prog 127 [⟨tRat, oD x⟩] false [⟨tRat, oD (sizeO x)⟩] := by
  have h1 := ratSign_fn x
  have h2 := ratNeg_fn x
  unfold sizeO
  by_cases h : sgnO x < 0
  · rw [if_pos h]
    refine fn_enter tabOK mixes Try.func127 rfl rfl _ Try.ntmps127 _ Try.results127 (by simp) fun hwf => ?_
    try simp (config := { maxSteps := 10000000 }) only [go_sem, reduceIte, reduceCtorEq, Nat.reduceEqDiff, Nat.reduceLT, Nat.reduceLeDiff, Nat.reduceAdd, Nat.reduceBEq, Nat.reduceMul, Int.reduceToNat, Int.reduceLE, Int.reduceLT, Int.reduceEq, Int.reduceNeg]
    repeat (refine And.intro (by first | omega | (constructor <;> omega) | kernel_rfl) ?_)
    refine CallW.mk (h1) ?_
    try simp (config := { maxSteps := 10000000 }) only [go_sem, reduceIte, reduceCtorEq, Nat.reduceEqDiff, Nat.reduceLT, Nat.reduceLeDiff, Nat.reduceAdd, Nat.reduceBEq, Nat.reduceMul, Int.reduceToNat, Int.reduceLE, Int.reduceLT, Int.reduceEq, Int.reduceNeg]
    try simp (config := { maxSteps := 10000000 }) only [go_sem, reduceIte, reduceCtorEq, Nat.reduceEqDiff, Nat.reduceLT, Nat.reduceLeDiff, Nat.reduceAdd, Nat.reduceBEq, Nat.reduceMul, Int.reduceToNat, Int.reduceLE, Int.reduceLT, Int.reduceEq, Int.reduceNeg, h]
    repeat (refine And.intro (by first | omega | (constructor <;> omega) | kernel_rfl) ?_)
    refine CallW.mk (h2) ?_
    try simp (config := { maxSteps := 10000000 }) only [go_sem, reduceIte, reduceCtorEq, Nat.reduceEqDiff, Nat.reduceLT, Nat.reduceLeDiff, Nat.reduceAdd, Nat.reduceBEq, Nat.reduceMul, Int.reduceToNat, Int.reduceLE, Int.reduceLT, Int.reduceEq, Int.reduceNeg]
    all_goals repeat (refine And.intro (by first | omega | (constructor <;> omega) | kernel_rfl) ?_)
    all_goals first | kernel_rfl | omega | rfl
  · rw [if_neg h]
    refine fn_enter tabOK mixes Try.func127 rfl rfl _ Try.ntmps127 _ Try.results127 (by simp) fun hwf => ?_
    try simp (config := { maxSteps := 10000000 }) only [go_sem, reduceIte, reduceCtorEq, Nat.reduceEqDiff, Nat.reduceLT, Nat.reduceLeDiff, Nat.reduceAdd, Nat.reduceBEq, Nat.reduceMul, Int.reduceToNat, Int.reduceLE, Int.reduceLT, Int.reduceEq, Int.reduceNeg]
    repeat (refine And.intro (by first | omega | (constructor <;> omega) | kernel_rfl) ?_)
    refine CallW.mk (h1) ?_
    try simp (config := { maxSteps := 10000000 }) only [go_sem, reduceIte, reduceCtorEq, Nat.reduceEqDiff, Nat.reduceLT, Nat.reduceLeDiff, Nat.reduceAdd, Nat.reduceBEq, Nat.reduceMul, Int.reduceToNat, Int.reduceLE, Int.reduceLT, Int.reduceEq, Int.reduceNeg]
    try simp (config := { maxSteps := 10000000 }) only [go_sem, reduceIte, reduceCtorEq, Nat.reduceEqDiff, Nat.reduceLT, Nat.reduceLeDiff, Nat.reduceAdd, Nat.reduceBEq, Nat.reduceMul, Int.reduceToNat, Int.reduceLE, Int.reduceLT, Int.reduceEq, Int.reduceNeg, h]
    all_goals repeat (refine And.intro (by first | omega | (constructor <;> omega) | kernel_rfl) ?_)
    all_goals first | kernel_rfl | omega | rfl
theorem specRatNeg_fn (r : DR) : Fn Try.prog 125 [⟨tRat, r⟩] true [⟨tRat, oD (negO (rdO r))⟩] := by
  cases hr : okR r
  · rw [okR_f hr]
    have e : negO none = none := rfl
    rw [e]
    refine fn_enter tabOK mixes Try.func125 rfl rfl _ Try.ntmps125 _ Try.results125 (by simp) fun hwf => ?_
    try simp (config := { maxSteps := 10000000 }) only [go_sem, reduceIte, reduceCtorEq, Nat.reduceEqDiff, Nat.reduceLT, Nat.reduceLeDiff, Nat.reduceAdd, Nat.reduceBEq, Nat.reduceMul, Int.reduceToNat, Int.reduceLE, Int.reduceLT, Int.reduceEq, Int.reduceNeg]
    repeat (refine And.intro (by first | omega | (constructor <;> omega) | kernel_rfl) ?_)
    refine CallW.mk (specRatOk_fn r) ?_
    try simp (config := { maxSteps := 10000000 }) only [go_sem, reduceIte, reduceCtorEq, Nat.reduceEqDiff, Nat.reduceLT, Nat.reduceLeDiff, Nat.reduceAdd, Nat.reduceBEq, Nat.reduceMul, Int.reduceToNat, Int.reduceLE, Int.reduceLT, Int.reduceEq, Int.reduceNeg]
    try simp (config := { maxSteps := 10000000 }) only [go_sem, reduceIte, reduceCtorEq, Nat.reduceEqDiff, Nat.reduceLT, Nat.reduceLeDiff, Nat.reduceAdd, Nat.reduceBEq, Nat.reduceMul, Int.reduceToNat, Int.reduceLE, Int.reduceLT, Int.reduceEq, Int.reduceNeg, hr]
  · obtain ⟨p, hp, rfl, e1⟩ := okR_t hr
    rw [e1]
    have hr' : okR ((decide (p.num < 0), natL p.num.natAbs), natL p.den) = true := hr
    have e : negO (some p) = some (-p) := rfl
    rw [e]
    refine fn_enter tabOK mixes Try.func125 rfl rfl _ Try.ntmps125 _ Try.results125 (by simp) fun hwf => ?_
    try simp (config := { maxSteps := 10000000 }) only [go_sem, reduceIte, reduceCtorEq, Nat.reduceEqDiff, Nat.reduceLT, Nat.reduceLeDiff, Nat.reduceAdd, Nat.reduceBEq, Nat.reduceMul, Int.reduceToNat, Int.reduceLE, Int.reduceLT, Int.reduceEq, Int.reduceNeg]
    repeat (refine And.intro (by first | omega | (constructor <;> omega) | kernel_rfl) ?_)
    refine CallW.mk (specRatOk_fn (ratD p)) ?_
    try simp (config := { maxSteps := 10000000 }) only [go_sem, reduceIte, reduceCtorEq, Nat.reduceEqDiff, Nat.reduceLT, Nat.reduceLeDiff, Nat.reduceAdd, Nat.reduceBEq, Nat.reduceMul, Int.reduceToNat, Int.reduceLE, Int.reduceLT, Int.reduceEq, Int.reduceNeg]
    try simp (config := { maxSteps := 10000000 }) only [go_sem, reduceIte, reduceCtorEq, Nat.reduceEqDiff, Nat.reduceLT, Nat.reduceLeDiff, Nat.reduceAdd, Nat.reduceBEq, Nat.reduceMul, Int.reduceToNat, Int.reduceLE, Int.reduceLT, Int.reduceEq, Int.reduceNeg, hr']
    repeat (refine And.intro (by first | omega | (constructor <;> omega) | kernel_rfl) ?_)
    refine CallW.mk (l04Neg_fn p hp) ?_
    try simp (config := { maxSteps := 10000000 }) only [go_sem, reduceIte, reduceCtorEq, Nat.reduceEqDiff, Nat.reduceLT, Nat.reduceLeDiff, Nat.reduceAdd, Nat.reduceBEq, Nat.reduceMul, Int.reduceToNat, Int.reduceLE, Int.reduceLT, Int.reduceEq, Int.reduceNeg]
    all_goals repeat (refine And.intro (by first | omega | (constructor <;> omega) | kernel_rfl) ?_)
    all_goals first | kernel_rfl | omega | rfl
theorem subO_none_l (y : Option Rat) : subO none y = none := rfl
theorem subO_none_r (x : Option Rat) : subO x none = none := by cases x <;> rfl
theorem specRatSub_fn (r s : DR) : Fn Try.prog 87 [⟨tRat, r⟩, ⟨tRat, s⟩] true [⟨tRat, oD (subO (rdO r) (rdO s))⟩] := by
  cases hr : okR r
  · rw [okR_f hr, subO_none_l]
    refine fn_enter tabOK mixes Try.func87 rfl rfl _ Try.ntmps87 _ Try.results87 (by simp) fun hwf => ?_
    try simp (config := { maxSteps := 10000000 }) only [go_sem, reduceIte, reduceCtorEq, Nat.reduceEqDiff, Nat.reduceLT, Nat.reduceLeDiff, Nat.reduceAdd, Nat.reduceBEq, Nat.reduceMul, Int.reduceToNat, Int.reduceLE, Int.reduceLT, Int.reduceEq, Int.reduceNeg]
    repeat (refine And.intro (by first | omega | (constructor <;> omega) | kernel_rfl) ?_)
    refine CallW.mk (specRatOk_fn r) ?_
    try simp (config := { maxSteps := 10000000 }) only [go_sem, reduceIte, reduceCtorEq, Nat.reduceEqDiff, Nat.reduceLT, Nat.reduceLeDiff, Nat.reduceAdd, Nat.reduceBEq, Nat.reduceMul, Int.reduceToNat, Int.reduceLE, Int.reduceLT, Int.reduceEq, Int.reduceNeg]
    try simp (config := { maxSteps := 10000000 }) only [go_sem, reduceIte, reduceCtorEq, Nat.reduceEqDiff, Nat.reduceLT, Nat.reduceLeDiff, Nat.reduceAdd, Nat.reduceBEq, Nat.reduceMul, Int.reduceToNat, Int.reduceLE, Int.reduceLT, Int.reduceEq, Int.reduceNeg, hr]
  · cases hs : okR s
    · rw [okR_f hs, subO_none_r]
      refine fn_enter tabOK mixes Try.func87 rfl rfl _ Try.ntmps87 _ Try.results87 (by simp) fun hwf => ?_
      try simp (config := { maxSteps := 10000000 }) only [go_sem, reduceIte, reduceCtorEq, Nat.reduceEqDiff, Nat.reduceLT, Nat.reduceLeDiff, Nat.reduceAdd, Nat.reduceBEq, Nat.reduceMul, Int.reduceToNat, Int.reduceLE, Int.reduceLT, Int.reduceEq, Int.reduceNeg]
      repeat (refine And.intro (by first | omega | (constructor <;> omega) | kernel_rfl) ?_)
      refine CallW.mk (specRatOk_fn r) ?_
      try simp (config := { maxSteps := 10000000 }) only [go_sem, reduceIte, reduceCtorEq, Nat.reduceEqDiff, Nat.reduceLT, Nat.reduceLeDiff, Nat.reduceAdd, Nat.reduceBEq, Nat.reduceMul, Int.reduceToNat, Int.reduceLE, Int.reduceLT, Int.reduceEq, Int.reduceNeg]
      try simp (config := { maxSteps := 10000000 }) only [go_sem, reduceIte, reduceCtorEq, Nat.reduceEqDiff, Nat.reduceLT, Nat.reduceLeDiff, Nat.reduceAdd, Nat.reduceBEq, Nat.reduceMul, Int.reduceToNat, Int.reduceLE, Int.reduceLT, Int.reduceEq, Int.reduceNeg, hr]
      repeat (refine And.intro (by first | omega | (constructor <;> omega) | kernel_rfl) ?_)
      refine CallW.mk (specRatOk_fn s) ?_
      try simp (config := { maxSteps := 10000000 }) only [go_sem, reduceIte, reduceCtorEq, Nat.reduceEqDiff, Nat.reduceLT, Nat.reduceLeDiff, Nat.reduceAdd, Nat.reduceBEq, Nat.reduceMul, Int.reduceToNat, Int.reduceLE, Int.reduceLT, Int.reduceEq, Int.reduceNeg]
      try simp (config := { maxSteps := 10000000 }) only [go_sem, reduceIte, reduceCtorEq, Nat.reduceEqDiff, Nat.reduceLT, Nat.reduceLeDiff, Nat.reduceAdd, Nat.reduceBEq, Nat.reduceMul, Int.reduceToNat, Int.reduceLE, Int.reduceLT, Int.reduceEq, Int.reduceNeg, hs]
    · obtain ⟨p, hp, rfl, e1⟩ := okR_t hr
      obtain ⟨q, hq, rfl, e2⟩ := okR_t hs
      rw [e1, e2]
      have hr' : okR ((decide (p.num < 0), natL p.num.natAbs), natL p.den) = true := hr
      have hs' : okR ((decide (q.num < 0), natL q.num.natAbs), natL q.den) = true := hs
      have e : subO (some p) (some q) = capR (p + -q) := rfl
      rw [e]
      refine fn_enter tabOK mixes Try.func87 rfl rfl _ Try.ntmps87 _ Try.results87 (by simp) fun hwf => ?_
      try simp (config := { maxSteps := 10000000 }) only [go_sem, reduceIte, reduceCtorEq, Nat.reduceEqDiff, Nat.reduceLT, Nat.reduceLeDiff, Nat.reduceAdd, Nat.reduceBEq, Nat.reduceMul, Int.reduceToNat, Int.reduceLE, Int.reduceLT, Int.reduceEq, Int.reduceNeg]
      repeat (refine And.intro (by first | omega | (constructor <;> omega) | kernel_rfl) ?_)
      refine CallW.mk (specRatOk_fn (ratD p)) ?_
      try simp (config := { maxSteps := 10000000 }) only [go_sem, reduceIte, reduceCtorEq, Nat.reduceEqDiff, Nat.reduceLT, Nat.reduceLeDiff, Nat.reduceAdd, Nat.reduceBEq, Nat.reduceMul, Int.reduceToNat, Int.reduceLE, Int.reduceLT, Int.reduceEq, Int.reduceNeg]
      try simp (config := { maxSteps := 10000000 }) only [go_sem, reduceIte, reduceCtorEq, Nat.reduceEqDiff, Nat.reduceLT, Nat.reduceLeDiff, Nat.reduceAdd, Nat.reduceBEq, Nat.reduceMul, Int.reduceToNat, Int.reduceLE, Int.reduceLT, Int.reduceEq, Int.reduceNeg, hr']
      repeat (refine And.intro (by first | omega | (constructor <;> omega) | kernel_rfl) ?_)
      refine CallW.mk (specRatOk_fn (ratD q)) ?_
      try simp (config := { maxSteps := 10000000 }) only [go_sem, reduceIte, reduceCtorEq, Nat.reduceEqDiff, Nat.reduceLT, Nat.reduceLeDiff, Nat.reduceAdd, Nat.reduceBEq, Nat.reduceMul, Int.reduceToNat, Int.reduceLE, Int.reduceLT, Int.reduceEq, Int.reduceNeg]
      try simp (config := { maxSteps := 10000000 }) only [go_sem, reduceIte, reduceCtorEq, Nat.reduceEqDiff, Nat.reduceLT, Nat.reduceLeDiff, Nat.reduceAdd, Nat.reduceBEq, Nat.reduceMul, Int.reduceToNat, Int.reduceLE, Int.reduceLT, Int.reduceEq, Int.reduceNeg, hs']
      repeat (refine And.intro (by first | omega | (constructor <;> omega) | kernel_rfl) ?_)
      refine CallW.mk (l04Neg_fn q hq) ?_
      try simp (config := { maxSteps := 10000000 }) only [go_sem, reduceIte, reduceCtorEq, Nat.reduceEqDiff, Nat.reduceLT, Nat.reduceLeDiff, Nat.reduceAdd, Nat.reduceBEq, Nat.reduceMul, Int.reduceToNat, Int.reduceLE, Int.reduceLT, Int.reduceEq, Int.reduceNeg]
      repeat (refine And.intro (by first | omega | (constructor <;> omega) | kernel_rfl) ?_)
      refine CallW.mk (l04Add_fn p (-q) hp (small_neg hq)) ?_
      try simp (config := { maxSteps := 10000000 }) only [go_sem, reduceIte, reduceCtorEq, Nat.reduceEqDiff, Nat.reduceLT, Nat.reduceLeDiff, Nat.reduceAdd, Nat.reduceBEq, Nat.reduceMul, Int.reduceToNat, Int.reduceLE, Int.reduceLT, Int.reduceEq, Int.reduceNeg]
      all_goals repeat (refine And.intro (by first | omega | (constructor <;> omega) | kernel_rfl) ?_)
      all_goals first | kernel_rfl | omega | rfl
theorem l24Size_fn (x : Option Rat) (hx : okO x) : Fn Try.prog 90 [⟨tRat, oD x⟩] false [⟨tRat, oD (sizeO x)⟩] := by
  have h1 := specRatSign_fn (oD x)
  have h2 := specRatNeg_fn (oD x)
  rw [rdO_oD hx] at h1 h2
  unfold sizeO
  by_cases h : sgnO x < 0
  · rw [if_pos h]
    refine fn_enter tabOK mixes Try.func90 rfl rfl _ Try.ntmps90 _ Try.results90 (by simp) fun hwf => ?_
    try simp (config := { maxSteps := 10000000 }) only [go_sem, reduceIte, reduceCtorEq, Nat.reduceEqDiff, Nat.reduceLT, Nat.reduceLeDiff, Nat.reduceAdd, Nat.reduceBEq, Nat.reduceMul, Int.reduceToNat, Int.reduceLE, Int.reduceLT, Int.reduceEq, Int.reduceNeg]
    repeat (refine And.intro (by first | omega | (constructor <;> omega) | kernel_rfl) ?_)
    refine CallW.mk (h1) ?_
    try simp (config := { maxSteps := 10000000 }) only [go_sem, reduceIte, reduceCtorEq, Nat.reduceEqDiff, Nat.reduceLT, Nat.reduceLeDiff, Nat.reduceAdd, Nat.reduceBEq, Nat.reduceMul, Int.reduceToNat, Int.reduceLE, Int.reduceLT, Int.reduceEq, Int.reduceNeg]
    try simp (config := { maxSteps := 10000000 }) only [go_sem, reduceIte, reduceCtorEq, Nat.reduceEqDiff, Nat.reduceLT, Nat.reduceLeDiff, Nat.reduceAdd, Nat.reduceBEq, Nat.reduceMul, Int.reduceToNat, Int.reduceLE, Int.reduceLT, Int.reduceEq, Int.reduceNeg, h]
    repeat (refine And.intro (by first | omega | (constructor <;> omega) | kernel_rfl) ?_)
    refine CallW.mk (h2) ?_
    try simp (config := { maxSteps := 10000000 }) only [go_sem, reduceIte, reduceCtorEq, Nat.reduceEqDiff, Nat.reduceLT, Nat.reduceLeDiff, Nat.reduceAdd, Nat.reduceBEq, Nat.reduceMul, Int.reduceToNat, Int.reduceLE, Int.reduceLT, Int.reduceEq, Int.reduceNeg]
    all_goals repeat (refine And.intro (by first | omega | (constructor <;> omega) | kernel_rfl) ?_)
    all_goals first | kernel_rfl | omega | rfl
  · rw [if_neg h]
    refine fn_enter tabOK mixes Try.func90 rfl rfl _ Try.ntmps90 _ Try.results90 (by simp) fun hwf => ?_
    try simp (config := { maxSteps := 10000000 }) only [go_sem, reduceIte, reduceCtorEq, Nat.reduceEqDiff, Nat.reduceLT, Nat.reduceLeDiff, Nat.reduceAdd, Nat.reduceBEq, Nat.reduceMul, Int.reduceToNat, Int.reduceLE, Int.reduceLT, Int.reduceEq, Int.reduceNeg]
    repeat (refine And.intro (by first | omega | (constructor <;> omega) | kernel_rfl) ?_)
    refine CallW.mk (h1) ?_
    try simp (config := { maxSteps := 10000000 }) only [go_sem, reduceIte, reduceCtorEq, Nat.reduceEqDiff, Nat.reduceLT, Nat.reduceLeDiff, Nat.reduceAdd, Nat.reduceBEq, Nat.reduceMul, Int.reduceToNat, Int.reduceLE, Int.reduceLT, Int.reduceEq, Int.reduceNeg]
    try simp (config := { maxSteps := 10000000 }) only [go_sem, reduceIte, reduceCtorEq, Nat.reduceEqDiff, Nat.reduceLT, Nat.reduceLeDiff, Nat.reduceAdd, Nat.reduceBEq, Nat.reduceMul, Int.reduceToNat, Int.reduceLE, Int.reduceLT, Int.reduceEq, Int.reduceNeg, h]
    all_goals repeat (refine And.intro (by first | omega | (constructor <;> omega) | kernel_rfl) ?_)
    all_goals first | kernel_rfl | omega | rfl
theorem maxO_n1 (y : Option Rat) : maxO none y = none := rfl
theorem maxO_n2 (x : Option Rat) : maxO x none = none := by cases x <;> rfl
noncomputable def mvO (p q : DP) : Option Rat := maxO (sizeO (subO (rdO q.1) (rdO p.1))) (sizeO (subO (rdO q.2) (rdO p.2)))
theorem okO_mv (p q : DP) : okO (mvO p q) := okO_max (okO_size (okO_sub _ _)) (okO_size (okO_sub _ _))
theorem mvO_bad {p q : DP} (h : (okPt p && okPt q) = false) : mvO p q = none := by
  unfold mvO
  have hb : rdO p.1 = none ∨ rdO p.2 = none ∨ rdO q.1 = none ∨ rdO q.2 = none := by
    simp only [okPt, Bool.and_eq_false_iff] at h
    rcases h with (h | h) | (h | h)
    · exact .inl (okR_f h)
    · exact .inr (.inl (okR_f h))
    · exact .inr (.inr (.inl (okR_f h)))
    · exact .inr (.inr (.inr (okR_f h)))
  rcases hb with h | h | h | h <;> rw [h]
  · rw [subO_none_r, sizeO_none, maxO_n1]
  · rw [subO_none_r, sizeO_none, maxO_n2]
  · rw [subO_none_l, sizeO_none, maxO_n1]
  · rw [subO_none_l, sizeO_none, maxO_n2]
theorem moveLength_fn (p q : DP) : Fn Try.prog 91 [⟨tPoint, p⟩, ⟨tPoint, q⟩] false [⟨tRat, oD (mvO p q)⟩] := by
  cases hb : okPt p && okPt q
  · rw [mvO_bad hb]
    refine fn_enter tabOK mixes Try.func91 rfl rfl _ Try.ntmps91 _ Try.results91 (by simp) fun hwf => ?_
    try simp (config := { maxSteps := 10000000 }) only [go_sem, reduceIte, reduceCtorEq, Nat.reduceEqDiff, Nat.reduceLT, Nat.reduceLeDiff, Nat.reduceAdd, Nat.reduceBEq, Nat.reduceMul, Int.reduceToNat, Int.reduceLE, Int.reduceLT, Int.reduceEq, Int.reduceNeg]
    repeat (refine And.intro (by first | omega | (constructor <;> omega) | kernel_rfl) ?_)
    refine CallW.mk (arePoints2_fn p q) ?_
    try simp (config := { maxSteps := 10000000 }) only [go_sem, reduceIte, reduceCtorEq, Nat.reduceEqDiff, Nat.reduceLT, Nat.reduceLeDiff, Nat.reduceAdd, Nat.reduceBEq, Nat.reduceMul, Int.reduceToNat, Int.reduceLE, Int.reduceLT, Int.reduceEq, Int.reduceNeg]
    try simp (config := { maxSteps := 10000000 }) only [go_sem, reduceIte, reduceCtorEq, Nat.reduceEqDiff, Nat.reduceLT, Nat.reduceLeDiff, Nat.reduceAdd, Nat.reduceBEq, Nat.reduceMul, Int.reduceToNat, Int.reduceLE, Int.reduceLT, Int.reduceEq, Int.reduceNeg, hb]
  · have hb' := hb
    simp only [okPt, Bool.and_eq_true] at hb'
    obtain ⟨⟨p1, p2⟩, ⟨q1, q2⟩⟩ := hb'
    have c1 := ratSub_fn (rdO q.1) (rdO p.1) (okO_rdO _) (okO_rdO _)
    have c2 := ratSub_fn (rdO q.2) (rdO p.2) (okO_rdO _) (okO_rdO _)
    rw [okR_oD q1, okR_oD p1] at c1
    rw [okR_oD q2, okR_oD p2] at c2
    have c3 := size_fn (subO (rdO q.1) (rdO p.1))
    have c4 := size_fn (subO (rdO q.2) (rdO p.2))
    have c5 := ratMax_fn (sizeO (subO (rdO q.1) (rdO p.1))) (sizeO (subO (rdO q.2) (rdO p.2))) (okO_size (okO_sub _ _)) (okO_size (okO_sub _ _))
    unfold mvO
    refine fn_enter tabOK mixes Try.func91 rfl rfl _ Try.ntmps91 _ Try.results91 (by simp) fun hwf => ?_
    try simp (config := { maxSteps := 10000000 }) only [go_sem, reduceIte, reduceCtorEq, Nat.reduceEqDiff, Nat.reduceLT, Nat.reduceLeDiff, Nat.reduceAdd, Nat.reduceBEq, Nat.reduceMul, Int.reduceToNat, Int.reduceLE, Int.reduceLT, Int.reduceEq, Int.reduceNeg]
    repeat (refine And.intro (by first | omega | (constructor <;> omega) | kernel_rfl) ?_)
    refine CallW.mk (arePoints2_fn p q) ?_
    try simp (config := { maxSteps := 10000000 }) only [go_sem, reduceIte, reduceCtorEq, Nat.reduceEqDiff, Nat.reduceLT, Nat.reduceLeDiff, Nat.reduceAdd, Nat.reduceBEq, Nat.reduceMul, Int.reduceToNat, Int.reduceLE, Int.reduceLT, Int.reduceEq, Int.reduceNeg]
    try simp (config := { maxSteps := 10000000 }) only [go_sem, reduceIte, reduceCtorEq, Nat.reduceEqDiff, Nat.reduceLT, Nat.reduceLeDiff, Nat.reduceAdd, Nat.reduceBEq, Nat.reduceMul, Int.reduceToNat, Int.reduceLE, Int.reduceLT, Int.reduceEq, Int.reduceNeg, hb]
    repeat (refine And.intro (by first | omega | (constructor <;> omega) | kernel_rfl) ?_)
    refine CallW.mk (c1) ?_
    try simp (config := { maxSteps := 10000000 }) only [go_sem, reduceIte, reduceCtorEq, Nat.reduceEqDiff, Nat.reduceLT, Nat.reduceLeDiff, Nat.reduceAdd, Nat.reduceBEq, Nat.reduceMul, Int.reduceToNat, Int.reduceLE, Int.reduceLT, Int.reduceEq, Int.reduceNeg]
    repeat (refine And.intro (by first | omega | (constructor <;> omega) | kernel_rfl) ?_)
    refine CallW.mk (c3) ?_
    try simp (config := { maxSteps := 10000000 }) only [go_sem, reduceIte, reduceCtorEq, Nat.reduceEqDiff, Nat.reduceLT, Nat.reduceLeDiff, Nat.reduceAdd, Nat.reduceBEq, Nat.reduceMul, Int.reduceToNat, Int.reduceLE, Int.reduceLT, Int.reduceEq, Int.reduceNeg]
    repeat (refine And.intro (by first | omega | (constructor <;> omega) | kernel_rfl) ?_)
    refine CallW.mk (c2) ?_
    try simp (config := { maxSteps := 10000000 }) only [go_sem, reduceIte, reduceCtorEq, Nat.reduceEqDiff, Nat.reduceLT, Nat.reduceLeDiff, Nat.reduceAdd, Nat.reduceBEq, Nat.reduceMul, Int.reduceToNat, Int.reduceLE, Int.reduceLT, Int.reduceEq, Int.reduceNeg]
    repeat (refine And.intro (by first | omega | (constructor <;> omega) | kernel_rfl) ?_)
    refine CallW.mk (c4) ?_
    try simp (config := { maxSteps := 10000000 }) only [go_sem, reduceIte, reduceCtorEq, Nat.reduceEqDiff, Nat.reduceLT, Nat.reduceLeDiff, Nat.reduceAdd, Nat.reduceBEq, Nat.reduceMul, Int.reduceToNat, Int.reduceLE, Int.reduceLT, Int.reduceEq, Int.reduceNeg]
    repeat (refine And.intro (by first | omega | (constructor <;> omega) | kernel_rfl) ?_)
    refine CallW.mk (c5) ?_
    try simp (config := { maxSteps := 10000000 }) only [go_sem, reduceIte, reduceCtorEq, Nat.reduceEqDiff, Nat.reduceLT, Nat.reduceLeDiff, Nat.reduceAdd, Nat.reduceBEq, Nat.reduceMul, Int.reduceToNat, Int.reduceLE, Int.reduceLT, Int.reduceEq, Int.reduceNeg]
    all_goals repeat (refine And.intro (by first | omega | (constructor <;> omega) | kernel_rfl) ?_)
    all_goals first | kernel_rfl | omega | rfl
theorem implMoveLength_fn (p q : DP) : Fn Try.prog 51 [⟨tPoint, p⟩, ⟨tPoint, q⟩] true [⟨tRat, oD (mvO p q)⟩] := by
  have ho := ownO_fn _ (okO_mv p q)
  refine fn_enter tabOK mixes Try.func51 rfl rfl _ Try.ntmps51 _ Try.results51 (by simp) fun hwf => ?_
  try simp (config := { maxSteps := 10000000 }) only [go_sem, reduceIte, reduceCtorEq, Nat.reduceEqDiff, Nat.reduceLT, Nat.reduceLeDiff, Nat.reduceAdd, Nat.reduceBEq, Nat.reduceMul, Int.reduceToNat, Int.reduceLE, Int.reduceLT, Int.reduceEq, Int.reduceNeg]
  repeat (refine And.intro (by first | omega | (constructor <;> omega) | kernel_rfl) ?_)
  refine CallW.mk (moveLength_fn p q) ?_
  try simp (config := { maxSteps := 10000000 }) only [go_sem, reduceIte, reduceCtorEq, Nat.reduceEqDiff, Nat.reduceLT, Nat.reduceLeDiff, Nat.reduceAdd, Nat.reduceBEq, Nat.reduceMul, Int.reduceToNat, Int.reduceLE, Int.reduceLT, Int.reduceEq, Int.reduceNeg]
  repeat (refine And.intro (by first | omega | (constructor <;> omega) | kernel_rfl) ?_)
  refine CallW.mk (ho) ?_
  try simp (config := { maxSteps := 10000000 }) only [go_sem, reduceIte, reduceCtorEq, Nat.reduceEqDiff, Nat.reduceLT, Nat.reduceLeDiff, Nat.reduceAdd, Nat.reduceBEq, Nat.reduceMul, Int.reduceToNat, Int.reduceLE, Int.reduceLT, Int.reduceEq, Int.reduceNeg]
  all_goals repeat (refine And.intro (by first | omega | (constructor <;> omega) | kernel_rfl) ?_)
  all_goals first | kernel_rfl | omega | rfl
theorem specMoveLength_fn (p q : DP) : Fn Try.prog 50 [⟨tPoint, p⟩, ⟨tPoint, q⟩] true [⟨tRat, oD (mvO p q)⟩] := by
  have c1 := specRatSub_fn q.1 p.1
  have c2 := specRatSub_fn q.2 p.2
  have c3 := l24Size_fn (subO (rdO q.1) (rdO p.1)) (okO_sub _ _)
  have c4 := l24Size_fn (subO (rdO q.2) (rdO p.2)) (okO_sub _ _)
  have c5 := specRatMax_fn (oD (sizeO (subO (rdO q.1) (rdO p.1)))) (oD (sizeO (subO (rdO q.2) (rdO p.2))))
  rw [rdO_oD (okO_size (okO_sub _ _)), rdO_oD (okO_size (okO_sub _ _))] at c5
  unfold mvO
  refine fn_enter tabOK mixes Try.func50 rfl rfl _ Try.ntmps50 _ Try.results50 (by simp) fun hwf => ?_
  try simp (config := { maxSteps := 10000000 }) only [go_sem, reduceIte, reduceCtorEq, Nat.reduceEqDiff, Nat.reduceLT, Nat.reduceLeDiff, Nat.reduceAdd, Nat.reduceBEq, Nat.reduceMul, Int.reduceToNat, Int.reduceLE, Int.reduceLT, Int.reduceEq, Int.reduceNeg]
  repeat (refine And.intro (by first | omega | (constructor <;> omega) | kernel_rfl) ?_)
  refine CallW.mk (c1) ?_
  try simp (config := { maxSteps := 10000000 }) only [go_sem, reduceIte, reduceCtorEq, Nat.reduceEqDiff, Nat.reduceLT, Nat.reduceLeDiff, Nat.reduceAdd, Nat.reduceBEq, Nat.reduceMul, Int.reduceToNat, Int.reduceLE, Int.reduceLT, Int.reduceEq, Int.reduceNeg]
  repeat (refine And.intro (by first | omega | (constructor <;> omega) | kernel_rfl) ?_)
  refine CallW.mk (c3) ?_
  try simp (config := { maxSteps := 10000000 }) only [go_sem, reduceIte, reduceCtorEq, Nat.reduceEqDiff, Nat.reduceLT, Nat.reduceLeDiff, Nat.reduceAdd, Nat.reduceBEq, Nat.reduceMul, Int.reduceToNat, Int.reduceLE, Int.reduceLT, Int.reduceEq, Int.reduceNeg]
  repeat (refine And.intro (by first | omega | (constructor <;> omega) | kernel_rfl) ?_)
  refine CallW.mk (c2) ?_
  try simp (config := { maxSteps := 10000000 }) only [go_sem, reduceIte, reduceCtorEq, Nat.reduceEqDiff, Nat.reduceLT, Nat.reduceLeDiff, Nat.reduceAdd, Nat.reduceBEq, Nat.reduceMul, Int.reduceToNat, Int.reduceLE, Int.reduceLT, Int.reduceEq, Int.reduceNeg]
  repeat (refine And.intro (by first | omega | (constructor <;> omega) | kernel_rfl) ?_)
  refine CallW.mk (c4) ?_
  try simp (config := { maxSteps := 10000000 }) only [go_sem, reduceIte, reduceCtorEq, Nat.reduceEqDiff, Nat.reduceLT, Nat.reduceLeDiff, Nat.reduceAdd, Nat.reduceBEq, Nat.reduceMul, Int.reduceToNat, Int.reduceLE, Int.reduceLT, Int.reduceEq, Int.reduceNeg]
  repeat (refine And.intro (by first | omega | (constructor <;> omega) | kernel_rfl) ?_)
  refine CallW.mk (c5) ?_
  try simp (config := { maxSteps := 10000000 }) only [go_sem, reduceIte, reduceCtorEq, Nat.reduceEqDiff, Nat.reduceLT, Nat.reduceLeDiff, Nat.reduceAdd, Nat.reduceBEq, Nat.reduceMul, Int.reduceToNat, Int.reduceLE, Int.reduceLT, Int.reduceEq, Int.reduceNeg]
  all_goals repeat (refine And.intro (by first | omega | (constructor <;> omega) | kernel_rfl) ?_)
  all_goals first | kernel_rfl | omega | rfl
end Go.Proofs.Ytjkbecgenjhaaaa.DW

/-
  Slices of integers that are built by append: one by one, or a whole slice at once. No program here.
-/
namespace Go.Proofs.Ytjkbecgenjhaaaa
open Go.RowKit

section
variable {o : Bool} {base : Nat} {w w' : World} {e : TypeId} {v : Value} {l : List Int}
theorem GrowInt.row (h : Grow Rp.int o base w e v l) : w.ownsRow base e 1 v l.length (l.map (Value.int .i64)) ∧ ∀ x ∈ l, I64 x := by
  obtain ⟨xs, fps, ho, hl, he, _, _⟩ := h
  have hxl : xs.length = l.length := by have := ho.1; simpa [Rp.int] using this
  have hall : ∀ (i : Nat) (x : Int), l[i]? = some x → xs[i]? = some (Value.int .i64 x) ∧ I64 x := by
    intro i x hx
    obtain ⟨f, cs, _, hr, hc⟩ := he i x hx
    obtain ⟨rfl, _, hI⟩ := hr
    exact ⟨by simpa [Rp.int] using hc 0 _ rfl, hI⟩
  have hxs : xs = l.map (Value.int .i64) := by
    apply List.ext_getElem?
    intro i
    rw [List.getElem?_map]
    rcases Nat.lt_or_ge i l.length with hi | hi
    · have := (hall i l[i] (List.getElem?_eq_getElem hi)).1
      rw [this, List.getElem?_eq_getElem hi]; rfl
    · rw [List.getElem?_eq_none (by omega), List.getElem?_eq_none hi]; rfl
  refine ⟨hxs ▸ ho, fun x hx => ?_⟩
  obtain ⟨i, hi, rfl⟩ := List.getElem_of_mem hx
  exact (hall i _ (List.getElem?_eq_getElem hi)).2
theorem flatten_nils (n : Nat) : (List.replicate n ([] : List Nat)).flatten = [] := by
  induction n with
  | zero => rfl
  | succ n ih => simp
theorem GrowInt.of (h : w.ownsRow base e 1 v l.length (l.map (Value.int .i64))) (hI : ∀ x ∈ l, I64 x) : Grow Rp.int o base w e v l := by
  refine ⟨l.map (Value.int .i64), List.replicate l.length [], h, by simp, fun i x hx => ?_, fun b hb => ?_, fun _ => ⟨?_, fun b hb => ?_⟩⟩
  · have hi := (List.getElem?_eq_some_iff.1 hx).1
    refine ⟨[], [.int .i64 x], by simp [hi], ⟨rfl, rfl, hI x (List.mem_of_getElem? hx)⟩, fun j c hc => ?_⟩
    cases j with
    | zero => simp at hc; subst hc; simp [Rp.int, hx]
    | succ j => simp at hc
  · rw [flatten_nils] at hb; cases hb
  · rw [flatten_nils]; exact List.nodup_nil
  · rw [flatten_nils] at hb; cases hb
theorem Grow.of_empty {α : Type} {A : Rp α} {o : Bool} {base g : Nat} {w : World} {e : TypeId} (hg : w.heap[g]? = some (.cells #[] e (0, 0))) (hb : base ≤ g) : Grow A o base w e (.slice (some ⟨g, 0, none⟩) 0 0) [] :=
  ⟨[], [], ⟨by simp, .inr ⟨g, 0, #[], rfl, hb, hg, Nat.le_refl _, Nat.zero_le _, by simp, by simp⟩⟩, rfl, fun i x h => by simp at h, fun b h => by simp at h, fun _ => ⟨by simp, fun b h => by simp at h⟩⟩
end

section
variable {P : Program} (w : World)
theorem run_append_of_none {base : Nat} (t ty e : TypeId) (i : TypeInfo) (size : Nat) (ht : P.underlying t = some (.slice e)) (hi : P.info? e = some i)
    (v : Value) (n : Nat) (xs : List Value) (hown : w.ownsRow base e size v n xs) (c : Nat) : (Builtin.append_ #[t, t] ty #[v, .slice none 0 c]).run P w = .ok v w := by
  rcases hown.2 with ⟨rfl, rfl⟩ | ⟨g, cap, cur, rfl, _, _, hnc, _⟩
  · simp [Builtin.append_, run_underlying ht, sizeOf, typeInfo, hi, Builtin.lenOf, Builtin.firstCells]
  · simp [Builtin.append_, run_underlying ht, sizeOf, typeInfo, hi, Builtin.lenOf, Builtin.firstCells, hnc, storeCells]

/-- 'append(v, y...)', integers. -/
theorem run_append_ints {o : Bool} {base : Nat} {v : Value} {l m : List Int} (t ty e : TypeId) (i : TypeInfo) (ht : P.underlying t = some (.slice e)) (hi : P.info? e = some i) (hz : i.zero = some (.int .i64 0))
    (hsize : i.size = 1) (hby : i.bytes = 8) (h : Grow Rp.int o base w e v l) (y : Value) (hy : Has RIntS w [y] m) (hlen : l.length + m.length ≤ 17592186044416) (hbase : base ≤ w.heap.size) :
    ∃ v' w', (Builtin.append_ #[t, t] ty #[v, y]).run P w = .ok v' w' ∧ Grow Rp.int o base w' e v' (l ++ m) ∧ w.grownBy w' v.ownBlock ∧ (v'.ownBlock = v.ownBlock ∨ v'.ownBlock = some w.heap.size) := by
  obtain ⟨ho, hI⟩ := GrowInt.row h
  obtain ⟨ad, c, rfl, hmc, hc, hg⟩ := hy.elems
  have hIm : ∀ x ∈ m, I64 x := by
    intro x hx
    obtain ⟨j, hj, rfl⟩ := List.getElem_of_mem hx
    obtain ⟨_, _, cs, _, _, hxx, _⟩ := hg j hj
    obtain ⟨c0, rfl⟩ := list1 hxx.len
    exact hxx.int.2
  have hIa : ∀ x ∈ l ++ m, I64 x := fun x hx => (List.mem_append.1 hx).elim (hI x) (hIm x)
  cases ad with
  | none =>
    have hm0 : m = [] := by
      rcases m with _ | ⟨x, m⟩
      · rfl
      · obtain ⟨_, _, _, h, _⟩ := hg 0 (by simp); cases h
    subst hm0
    refine ⟨v, w, run_append_of_none w t ty e i 1 ht hi v l.length _ ho c, by simpa using h, World.grownBy.refl w _, .inl rfl⟩
  | some a =>
    have hnews : ∀ j u, (m.map (Value.int .i64))[j]? = some u → w.cell? (a.add j) = some u := by
      intro j u hu
      rw [List.getElem?_map] at hu
      obtain ⟨x, hx, rfl⟩ := Option.map_eq_some_iff.1 hu
      have hj := (List.getElem?_eq_some_iff.1 hx).1
      obtain ⟨b, off, cs, hab, _, hxx, hcs⟩ := hg j hj
      injection hab with hab
      subst hab
      obtain ⟨c0, rfl⟩ := list1 hxx.len
      have h1 := hcs 0 _ rfl
      rw [hxx.int.1] at h1
      have hadd : (⟨b, off, none⟩ : Addr).add j = ⟨b, off + j, none⟩ := by
        unfold Addr.add
        by_cases hk : j = 0
        · subst hk; rfl
        · rw [if_neg hk]
      rw [hadd]
      have hxe : m[j] = x := by have := List.getElem?_eq_getElem hj; rw [hx] at this; injection this with this; exact this.symm
      rw [hxe] at h1
      simpa [Rp.int] using h1
    obtain ⟨v', w', hrun, h2, h3, _, h5⟩ := run_append_own_at (P := P) w base t ty e i (.int .i64 0) 1 8 ht hi hz hsize hby rfl (by omega) v l.length _ ho a m.length c (m.map (Value.int .i64)) (by simp) hnews
      (fun u hu => by obtain ⟨x, _, rfl⟩ := List.mem_map.1 hu; rfl) (by unfold maxLen; omega) (by omega) hbase
    exact ⟨v', w', hrun, GrowInt.of (by simpa using h2) hIa, h3, h5⟩

theorem wpList_append_ints {ops : Array Oper} {rest : List Oper} {op : Oper} {a : Act} {Q : Exit → Act → World → Prop} {o : Bool} {base : Nat} {v : Value} {l m : List Int} (hgd : op.guard = none) (s y : Operand) (t : TypeId)
    (hop : op.op = .call { callee := .builtin .append, args := #[s, y], argTypes := #[t, t] }) (e : TypeId) (i : TypeInfo) (ht : P.underlying t = some (.slice e)) (hi : P.info? e = some i) (hz : i.zero = some (.int .i64 0))
    (hsize : i.size = 1) (hby : i.bytes = 8) (hs : a.eval s = v) (h : Grow Rp.int o base w e v l) (yv : Value) (hyv : a.eval y = yv) (hy : Has RIntS w [yv] m) (hlen : l.length + m.length ≤ 17592186044416) (hbase : base ≤ w.heap.size)
    (hK : ∀ v' w', Grow Rp.int o base w' e v' (l ++ m) → w.grownBy w' v.ownBlock → (v'.ownBlock = v.ownBlock ∨ v'.ownBlock = some w.heap.size) → wpList P ops Q rest (a.put op.dst v') w') : wpList P ops Q (op :: rest) a w := by
  refine wpList_plain hgd fun K hK' => ?_
  obtain ⟨v', w', hrun, h2, h3, h4⟩ := run_append_ints (P := P) w t op.type e i ht hi hz hsize hby h yv hy hlen hbase
  unfold Oper.wp execOp
  simp only [hop, resolve, invoke, builtin, Sem.run_bind, Sem.run_pure, Result.andThen_ok, List.map_toArray, List.map_cons, List.map_nil, hs, hyv, hrun]
  exact hK' _ _ (hK v' w' h2 h3 h4)
theorem step_append_ints {ops : Array Oper} {op : Oper} {a : Act} {K : Act → World → Prop} {Q : Exit → Act → World → Prop} {E : Prop} {o : Bool} {base : Nat} {v : Value} {l m : List Int} (hgd : op.guard = none) (s y : Operand) (t : TypeId)
    (hop : op.op = .call { callee := .builtin .append, args := #[s, y], argTypes := #[t, t] }) (e : TypeId) (i : TypeInfo) (ht : P.underlying t = some (.slice e)) (hi : P.info? e = some i) (hz : i.zero = some (.int .i64 0))
    (hsize : i.size = 1) (hby : i.bytes = 8) (hs : a.eval s = v) (h : Grow Rp.int o base w e v l) (yv : Value) (hyv : a.eval y = yv) (hy : Has RIntS w [yv] m) (hlen : l.length + m.length ≤ 17592186044416) (hbase : base ≤ w.heap.size)
    (hK : ∀ v' w', Grow Rp.int o base w' e v' (l ++ m) → w.grownBy w' v.ownBlock → (v'.ownBlock = v.ownBlock ∨ v'.ownBlock = some w.heap.size) → K (a.put op.dst v') w') :
    if Region.wanted op (yielded ops a.tmps) = true then Oper.wp P op a w K Q else E := by
  rw [if_pos (by simp [Region.wanted, hgd])]
  obtain ⟨v', w', hrun, h2, h3, h4⟩ := run_append_ints (P := P) w t op.type e i ht hi hz hsize hby h yv hy hlen hbase
  unfold Oper.wp execOp
  simp only [hop, resolve, invoke, builtin, Sem.run_bind, Sem.run_pure, Result.andThen_ok, List.map_toArray, List.map_cons, List.map_nil, hs, hyv, hrun]
  exact hK v' w' h2 h3 h4
end

theorem GrowInt.keep {o : Bool} {base : Nat} {w w' : World} {e : TypeId} {v : Value} {l : List Int} (h : Grow Rp.int o base w e v l) {row : Option Nat} (hgr : w.grownBy w' row) (hne : ∀ k, v.ownBlock = some k → some k ≠ row) : Grow Rp.int o base w' e v l := by
  obtain ⟨h1, h2⟩ := GrowInt.row h
  refine GrowInt.of (h1.kept hgr ?_) h2
  cases hv : v.ownBlock with
  | none => exact .inl rfl
  | some k => exact .inr (hne k hv)

/-- A step of a region: a copy of a slice of integers, appended to an empty literal in block g; three cells of a box are as they were. -/
theorem step_copy_ints {P : Program} {ops : Array Oper} {op : Oper} {a : Act} {K : Act → World → Prop} {Q : Exit → Act → World → Prop} {E : Prop} {B g b0 : Nat} {w W : World} {m : List Int} {v0 v1 v2 : Value} (hgd : op.guard = none) (s y : Operand) (t : TypeId)
    (hop : op.op = .call { callee := .builtin .append, args := #[s, y], argTypes := #[t, t] }) (e : TypeId) (i : TypeInfo) (ht : P.underlying t = some (.slice e)) (hi : P.info? e = some i) (hz : i.zero = some (.int .i64 0))
    (hsize : i.size = 1) (hby : i.bytes = 8) (hs : a.eval s = .slice (some ⟨g, 0, none⟩) 0 0) (yv : Value) (hyv : a.eval y = yv) (hg : W.heap[g]? = some (.cells #[] e (0, 0))) (hBg : w.heap.size ≤ g) (hB : B ≤ g) (hb : Below w.heap.size w W)
    (hy : Has RIntS w [yv] m) (hlen : m.length ≤ 1099511627776) (hS : W.cell? ⟨b0, 0, none⟩ = some v0 ∧ W.cell? ⟨b0, 1, none⟩ = some v1 ∧ W.cell? ⟨b0, 2, none⟩ = some v2) (hb0 : b0 < g)
    (hK : ∀ ad cap W', Grow Rp.int true B W' e (.slice ad m.length cap) m → W.grownBy W' (some g) → (∀ k, (Value.slice ad m.length cap).ownBlock = some k → (k = g ∨ k = W.heap.size) ∧ k < W'.heap.size) → Below w.heap.size w W' → W.heap.size ≤ W'.heap.size →
      W'.cell? ⟨b0, 0, none⟩ = some v0 ∧ W'.cell? ⟨b0, 1, none⟩ = some v1 ∧ W'.cell? ⟨b0, 2, none⟩ = some v2 → (∀ k, k < g → ∀ o p, W'.cell? ⟨k, o, p⟩ = W.cell? ⟨k, o, p⟩) → (∀ k, k < g → ∀ o p, W'.frozen? ⟨k, o, p⟩ = W.frozen? ⟨k, o, p⟩) → K (a.put op.dst (.slice ad m.length cap)) W') :
    if Region.wanted op (yielded ops a.tmps) = true then Oper.wp P op a W K Q else E := by
  have hgl : g < W.heap.size := by
    rcases Nat.lt_or_ge g W.heap.size with h | h
    · exact h
    · rw [Array.getElem?_eq_none h] at hg; cases hg
  refine step_append_ints (P := P) W hgd s y t hop e i ht hi hz hsize hby hs (Grow.of_empty (o := true) (base := B) hg hB) yv hyv (hy.below hb) (by simp; omega) (by omega) ?_
  intro v' W' hg' hgr hat
  simp only [List.nil_append] at hg'
  obtain ⟨ad, cap, rfl, _⟩ := hg'.form
  have hsz := hgr.size
  refine hK ad cap W' hg' hgr (fun k hk => ⟨?_, ?_⟩) (hb.grown hgr (by omega) (fun k hk => by simp [Value.ownBlock] at hk; omega)) hsz ⟨?_, ?_, ?_⟩ (fun k hk o p => hgr.cell_far ⟨k, o, p⟩ (by simp; omega) (by simp [Value.ownBlock]; omega)) (fun k hk o p => hgr.frozen_far ⟨k, o, p⟩ (by simp; omega) (by simp [Value.ownBlock]; omega))
  · rcases hat with h | h
    · rw [hk] at h; simp [Value.ownBlock] at h; exact .inl h
    · rw [hk] at h; injection h with h; exact .inr h
  · exact (ownsRow_lt (GrowInt.row hg').1 hk).2
  · exact (hgr.cell_far ⟨b0, 0, none⟩ (by simp; omega) (by simp [Value.ownBlock]; omega)).trans hS.1
  · exact (hgr.cell_far ⟨b0, 1, none⟩ (by simp; omega) (by simp [Value.ownBlock]; omega)).trans hS.2.1
  · exact (hgr.cell_far ⟨b0, 2, none⟩ (by simp; omega) (by simp [Value.ownBlock]; omega)).trans hS.2.2
end Go.Proofs.Ytjkbecgenjhaaaa

/-
  Copies in memory of the call's own: numbers' limbs, fractions, points, motions.
-/
namespace Go.Proofs.Ytjkbecgenjhaaaa
open Go.RowKit
theorem infoI : (Try.prog.info? 3).map (fun i => (i.zero, i.size, i.bytes)) = some (some (.int .i64 0), 1, 8) := by kernel_rfl

set_option maxRecDepth 100000 in
set_option maxHeartbeats 400000 in
theorem clone_any (v : Value) (l : DIntS) (w : World) (hl : Has RIntS w [v] l) (hs : l.length ≤ 1099511627776) :
    Calls Try.prog 115 #[v] w (Post (Own1Post RIntS l w)) := by
  obtain ⟨i0, hi, hz0, hz1, hz2⟩ := info_parts infoI
  have HL := Lib.hid hl
  obtain ⟨ad, c, rfl, hc, hm⟩ := hl.len_slice
  unfold maxLen at hm
  clear hl
  cases ad with
  | none =>
    have h0 : l = [] := by
      obtain ⟨fp, a, c', h1, _, _, h4⟩ := HL.out
      rcases h4 with ⟨h, _⟩ | ⟨_, _, _, _, h, _⟩
      · exact h
      · injection h1 with h1; injection h1 with h1; rw [h] at h1; cases h1
    subst h0
    have hq : ∀ W, (binOp .eql 30 (.slice none 0 c) (.slice none 0 0)).run Try.prog W = .ok (.bool true) W := fun (W : World) => Lib.run_eql_slice_nil (P := Try.prog) W 30 3 none 0 c 0 0 Try.underlying30
    go_enter Try.func115, Try.ntmps115
    go_wp2
    go_ret
    exact ⟨_, rfl, ⟨[], ⟨none, 0, rfl, Nat.le_refl _, Nat.zero_le _, .inl ⟨rfl, rfl⟩⟩, List.nodup_nil, fun b hb => by cases hb⟩, Below.refl _ _⟩
  | some a =>
    have hq : ∀ W, (binOp .eql 30 (.slice (some a) l.length c) (.slice none 0 0)).run Try.prog W = .ok (.bool false) W := fun (W : World) => Lib.run_eql_slice_nil (P := Try.prog) W 30 3 (some a) l.length c 0 0 Try.underlying30
    have HG := Lib.hid (Grow.lit Rp.int true w 3 (Nat.le_refl _))
    go_enter Try.func115, Try.ntmps115
    go_wp2_with (at_builtin; refine wpList_append_ints _ rfl _ _ _ rfl 3 i0 Try.underlying30 hi hz0 hz1 hz2 rfl HG.out _ rfl (HL.out.below ((Below.refl _ _).alloc (Nat.le_refl _) _)) (by simp; omega) (by simp) ?_)
    intro v' w' hg hgr hat
    have hb : Below w.heap.size w w' := ((Below.refl _ _).alloc (Nat.le_refl _) _).grown hgr (by simp) (fun k hk => by simp [Value.ownBlock] at hk; omega)
    go_wp2
    go_ret
    exact ⟨_, rfl, hg.own, hb⟩

set_option maxRecDepth 100000 in
set_option maxHeartbeats 400000 in
theorem ownRat_any (c0 c1 c2 : Value) (x : DRat) (w : World) (hx : Has RRat w [c0, c1, c2] x) (hs1 : x.1.2.length ≤ 1099511627776) (hs2 : x.2.length ≤ 1099511627776) :
    Calls Try.prog 81 #[.agg #[c0, c1, c2]] w (Post (OwnPost RRat x w)) := by
  obtain ⟨hx0, hx1⟩ := hx.split [c0, c1] [c2] rfl
  obtain ⟨hx00, hx01⟩ := hx0.split [c0] [c1] rfl
  obtain rfl := hx00.bool
  have HX1 := Lib.hid hx01; have HX2 := Lib.hid hx1
  clear hx hx0 hx1 hx00 hx01
  have HS1 := Lib.hid hs1; have HS2 := Lib.hid hs2; clear hs1 hs2
  go_enter Try.func81, Try.ntmps81
  go_wp2
  go_region_held3 (fun w' => w'.cell? ⟨w.heap.size, 0, none⟩ = some (.bool x.1.1) ∧ w'.cell? ⟨w.heap.size, 1, none⟩ = some c1 ∧ w'.cell? ⟨w.heap.size, 2, none⟩ = some c2)
    (first | go_keep | exact ⟨hk1_0, hk1_1, hk1_2⟩ | exact ⟨hk2_0, hk2_1, hk2_2⟩)
    (first
      | (go_at_call_of 115 c1; refine (clone_any _ _ _ (HX1.out.below ((((Below.refl w.heap.size w).alloc (Nat.le_refl _) _).alloc (by simp <;> omega) _).drew)) HS1.out).mono ?_; rintro e w1 ⟨v1, rfl, ho1, hc1⟩; have hk1_0 : w1.cell? ⟨w.heap.size, 0, none⟩ = some (.bool x.1.1) := (hc1.cell (p := ⟨w.heap.size, 0, none⟩) (by simp <;> omega)).trans (by simp [go_sem]); have hk1_1 : w1.cell? ⟨w.heap.size, 1, none⟩ = some c1 := (hc1.cell (p := ⟨w.heap.size, 1, none⟩) (by simp <;> omega)).trans (by simp [go_sem]); have hk1_2 : w1.cell? ⟨w.heap.size, 2, none⟩ = some c2 := (hc1.cell (p := ⟨w.heap.size, 2, none⟩) (by simp <;> omega)).trans (by simp [go_sem]); obtain ⟨ad1, cap1, rfl, _, _⟩ := ho1.has.len_slice; obtain ⟨hcr1, hfr1⟩ := bcell hc1; have hz1 := hc1.size; simp at hz1; have hlt0 : w.heap.size < w1.heap.size := (by omega); have hlt1 : w.heap.size + 1 < w1.heap.size := (by omega); have hbq : Below w.heap.size w w1 := Below.up ((((Below.refl w.heap.size w).alloc (Nat.le_refl _) _).alloc (by simp <;> omega) _).drew) hc1 (by simp <;> omega); simp only [World.size_drew, World.size_alloc] at ho1)
      | (go_at_call_of 115 c2; refine (clone_any _ _ _ (HX2.out.below hbq) HS2.out).mono ?_; rintro e w2 ⟨v2, rfl, ho2, hc2⟩; have hk2_0 := (hc2.cell (p := ⟨w.heap.size, 0, none⟩) hlt0).trans hk1_0; have hk2_1 := (hc2.cell (p := ⟨w.heap.size, 1, none⟩) hlt0).trans hk1_1; have hk2_2 := (hc2.cell (p := ⟨w.heap.size, 2, none⟩) hlt0).trans hk1_2; obtain ⟨ad2, cap2, rfl, _, _⟩ := ho2.has.len_slice; obtain ⟨hcr2, hfr2⟩ := bcell hc2; have HO1 := Lib.hid (ho1.inn.below hc2 (Nat.le_refl _)); have HO2 := Lib.hid ho2.inn; have hbw2 := Below.up hbq hc2 (by omega); clear ho1 ho2))
  rename_i hh
  clear hh
  go_wp2
  refine bodyPost_ret (v := .agg #[.bool x.1.1, .slice ad1 x.1.2.length cap1, .slice ad2 x.2.length cap2]) (by simp [results, go_sem, hcr2, hlt1, hcr1]) rfl ⟨_, rfl, ⟨[.bool x.1.1, .slice ad1 x.1.2.length cap1, .slice ad2 x.2.length cap2], rfl, ?_⟩, ?_⟩
  · have G1 := ((HO1.out.setCell (p := ⟨w.heap.size + 1, 0, none⟩) (.inl (by simp)) (.bool x.1.1)).setCell (p := ⟨w.heap.size + 1, 1, none⟩) (.inl (by simp)) (.slice ad1 x.1.2.length cap1)).setCell (p := ⟨w.heap.size + 1, 2, none⟩) (.inl (by simp)) (.slice ad2 x.2.length cap2)
    have G2 := ((HO2.out.setCell (p := ⟨w.heap.size + 1, 0, none⟩) (.inl hlt1) (.bool x.1.1)).setCell (p := ⟨w.heap.size + 1, 1, none⟩) (.inl hlt1) (.slice ad1 x.1.2.length cap1)).setCell (p := ⟨w.heap.size + 1, 2, none⟩) (.inl hlt1) (.slice ad2 x.2.length cap2)
    exact OwnIn.own (OwnIn.pair (OwnIn.pair (OwnIn.bool (w.heap.size + 1 + 1) _ x.1.1) G1 (by omega) (by omega) (by omega)) G2 (by omega) (by omega) (by have := hc2.size; omega)) (by omega)
  · exact ((hbw2.setCell (p := ⟨w.heap.size + 1, 0, none⟩) (by simp) _).setCell (p := ⟨w.heap.size + 1, 1, none⟩) (by simp) _).setCell (p := ⟨w.heap.size + 1, 2, none⟩) (by simp) _
end Go.Proofs.Ytjkbecgenjhaaaa

/-
  The reference's copies of fractions and points.
-/
namespace Go.Proofs.Ytjkbecgenjhaaaa
open Go.RowKit

theorem heap_new {w : World} {o : Obj} {g : Nat} (h : g = w.heap.size) : (w.alloc o).heap[g]? = some o := by subst h; show (w.heap.push o)[w.heap.size]? = some o; simp
theorem heap_old {w : World} {o x : Obj} {g : Nat} (h : g < w.heap.size) (hx : w.heap[g]? = some x) : (w.alloc o).heap[g]? = some x := by
  rw [← hx]
  show (w.heap.push o)[g]? = w.heap[g]?
  rw [Array.getElem?_push, if_neg (Nat.ne_of_lt h)]
theorem heap_drew' {w : World} {o : Obj} {g : Nat} (h : w.heap[g]? = some o) : w.drew.heap[g]? = some o := h

/-- The value's memory lies from block 'base' on. -/
def New {α : Type} (A : Rp α) (base : Nat) (w : World) (cs : List Value) (a : α) : Prop := ∃ fp, A.rep w cs a fp ∧ ∀ b ∈ fp, base ≤ b
theorem Own.new {α : Type} {A : Rp α} {base : Nat} {w : World} {cs : List Value} {a : α} (h : Own A base w cs a) : New A base w cs a := let ⟨fp, hr, _, ho⟩ := h; ⟨fp, hr, fun b hb => (ho b hb).1⟩
theorem New.has {α : Type} {A : Rp α} {base : Nat} {w : World} {cs : List Value} {a : α} (h : New A base w cs a) : Has A w cs a := let ⟨fp, hr, _⟩ := h; ⟨fp, hr⟩
theorem New.below {α : Type} {A : Rp α} {base : Nat} {w w' : World} {cs : List Value} {a : α} (h : New A base w cs a) (hb : Below w.heap.size w w') : New A base w' cs a :=
  let ⟨fp, hr, ho⟩ := h; ⟨fp, A.frame hr fun b hb' => hb.block b (A.lt hr b hb'), ho⟩
theorem New.mono {α : Type} {A : Rp α} {base base' : Nat} {w : World} {cs : List Value} {a : α} (h : New A base w cs a) (hb : base' ≤ base) : New A base' w cs a := let ⟨fp, hr, ho⟩ := h; ⟨fp, hr, fun b hb' => Nat.le_trans hb (ho b hb')⟩
theorem New.frame {α : Type} {A : Rp α} {base : Nat} {w w' : World} {cs : List Value} {a : α} (h : New A base w cs a) (hf : ∀ b, base ≤ b → b < w.heap.size → w'.heap[b]? = w.heap[b]?) : New A base w' cs a :=
  let ⟨fp, hr, ho⟩ := h; ⟨fp, A.frame hr fun b hb' => hf b (ho b hb') (A.lt hr b hb'), ho⟩
theorem New.setCell {α : Type} {A : Rp α} {base : Nat} {w : World} {cs : List Value} {a : α} (h : New A base w cs a) {p : Addr} (hp : p.block < base) (v : Value) : New A base (w.setCell p v) cs a :=
  h.frame fun b h1 _ => Below.heap_setCell _ _ _ _ (by omega)
theorem New.pair {α β : Type} {A : Rp α} {B : Rp β} {base : Nat} {w : World} {a : α} {b : β} {cs1 cs2 : List Value} (h1 : New A base w cs1 a) (h2 : New B base w cs2 b) : New (Rp.prod A B) base w (cs1 ++ cs2) (a, b) :=
  let ⟨f1, r1, o1⟩ := h1; let ⟨f2, r2, o2⟩ := h2; ⟨f1 ++ f2, rep_pair r1 r2, fun b hb => (List.mem_append.1 hb).elim (o1 b) (o2 b)⟩
theorem New.bool (base : Nat) (w : World) (b : Bool) : New Rp.bool base w [.bool b] b := ⟨[], ⟨rfl, rfl⟩, fun _ h => by cases h⟩
theorem New.int (base : Nat) (w : World) {n : Int} (h : I64 n) : New Rp.int base w [.int .i64 n] n := ⟨[], ⟨rfl, rfl, h⟩, fun _ h => by cases h⟩
def NewPost {α : Type} (A : Rp α) (a : α) (w : World) : Value → World → Prop := fun v w' => (∃ cs, v = .agg cs.toArray ∧ New A w.heap.size w' cs a) ∧ Below w.heap.size w w'
theorem Has.pair {α β : Type} {A : Rp α} {B : Rp β} {w : World} {a : α} {b : β} {cs1 cs2 : List Value} (h1 : Has A w cs1 a) (h2 : Has B w cs2 b) : Has (Rp.prod A B) w (cs1 ++ cs2) (a, b) := let ⟨f1, r1⟩ := h1; let ⟨f2, r2⟩ := h2; ⟨f1 ++ f2, rep_pair r1 r2⟩
theorem Has.ofBool (w : World) (b : Bool) : Has Rp.bool w [.bool b] b := ⟨[], rfl, rfl⟩
theorem Has.ofInt (w : World) {n : Int} (h : I64 n) : Has Rp.int w [.int .i64 n] n := ⟨[], rfl, rfl, h⟩
theorem OwnPost.newPost {α : Type} {A : Rp α} {a : α} {w w' : World} {v : Value} (h : OwnPost A a w v w') : NewPost A a w v w' := let ⟨⟨cs, h1, h2⟩, h3⟩ := h; ⟨⟨cs, h1, h2.new⟩, h3⟩

set_option maxRecDepth 100000 in
set_option maxHeartbeats 400000 in
theorem l04Copy_any (c0 c1 c2 : Value) (x : DRat) (w : World) (hx : Has RRat w [c0, c1, c2] x) (hs1 : x.1.2.length ≤ 1099511627776) (hs2 : x.2.length ≤ 1099511627776) :
    Calls Try.prog 79 #[.agg #[c0, c1, c2]] w (Post (NewPost RRat x w)) := by
  obtain ⟨i0, hi, hz0, hz1, hz2⟩ := info_parts infoI
  obtain ⟨hx0, hx1⟩ := hx.split [c0, c1] [c2] rfl
  obtain ⟨hx00, hx01⟩ := hx0.split [c0] [c1] rfl
  obtain rfl := hx00.bool
  have HX1 := Lib.hid hx01; have HX2 := Lib.hid hx1
  clear hx hx0 hx1 hx00 hx01
  have HS1 := Lib.hid hs1; have HS2 := Lib.hid hs2; clear hs1 hs2
  go_enter Try.func79, Try.ntmps79
  go_wp2
  go_region_held3 (fun w' => w'.cell? ⟨w.heap.size, 0, none⟩ = some (.bool x.1.1) ∧ w'.cell? ⟨w.heap.size, 1, none⟩ = some c1 ∧ w'.cell? ⟨w.heap.size, 2, none⟩ = some c2)
    (first | go_keep | assumption)
    (first
      | (refine step_copy_ints (P := Try.prog) (b0 := w.heap.size) (B := w.heap.size + 1 + 1) (v0 := .bool x.1.1) (v1 := c1) (v2 := c2) (by rfl) (.tmp 6) (.tmp 9) _ (by rfl) 3 i0 Try.underlying30 hi hz0 hz1 hz2 (by rfl) _ (by rfl) ?_ ?_ ?_ ?_ HX1.out HS1.out (by assumption) ?_ ?_
         · (repeat (first | with_reducible refine heap_drew' ?_ | (with_reducible refine heap_new ?_; (first | omega | (simp; done) | (simp <;> omega)); done) | (with_reducible refine heap_old ?_ ?_; (· (first | omega | (simp; done) | (simp <;> omega)))) | (refine (hgr2.block _ ?_ ?_).trans ?_; (· (first | omega | (simp; done) | (simp <;> omega))); (· (first | omega | (simp; done) | (simp <;> omega)))) | fail))
         · (first | omega | (simp; done) | (simp <;> omega))
         · (first | omega | (simp; done) | (simp <;> omega))
         · (repeat (first | with_reducible exact hbw2 | refine Below.drew ?_ | exact Below.refl _ _ | (refine Below.alloc ?_ (by first | omega | (simp; done) | (simp <;> omega)) _)))
         · (first | omega | (simp; done) | (simp <;> omega))
         intro ad1 cap1 w1 hg1 hgr1 hat1 hbw1 hzz1 hS1 hcr1 hfr1
         first | simp at hzz1 | skip
         have hl01 : w.heap.size < w1.heap.size := by omega
         have hl11 : w.heap.size + 1 < w1.heap.size := by omega
         first
           | (have hlx : w2.heap.size ≤ w1.heap.size := by omega
              have hgn : Grow Rp.int true (w.heap.size + 1 + 1) w1 3 (.slice ad2 _ cap2) _ := GrowInt.keep (Grow.below hg2 (by repeat (first | refine Below.drew ?_ | exact Below.refl _ _ | (refine Below.alloc ?_ (by first | omega | (simp; done) | (simp <;> omega)) _)))) hgr1 (fun k hk => by have h1 := hat2 k hk; intro e; injection e with e; first | omega | (simp at h1; omega) | (simp at h1 e; omega))
              clear hg2)
           | skip)
      | (refine step_copy_ints (P := Try.prog) (b0 := w.heap.size) (B := w.heap.size + 1 + 1) (v0 := .bool x.1.1) (v1 := c1) (v2 := c2) (by rfl) (.tmp 12) (.tmp 14) _ (by rfl) 3 i0 Try.underlying30 hi hz0 hz1 hz2 (by rfl) _ (by rfl) ?_ ?_ ?_ ?_ HX2.out HS2.out (by assumption) ?_ ?_
         · (repeat (first | with_reducible refine heap_drew' ?_ | (with_reducible refine heap_new ?_; (first | omega | (simp; done) | (simp <;> omega)); done) | (with_reducible refine heap_old ?_ ?_; (· (first | omega | (simp; done) | (simp <;> omega)))) | (refine (hgr1.block _ ?_ ?_).trans ?_; (· (first | omega | (simp; done) | (simp <;> omega))); (· (first | omega | (simp; done) | (simp <;> omega)))) | fail))
         · (first | omega | (simp; done) | (simp <;> omega))
         · (first | omega | (simp; done) | (simp <;> omega))
         · (repeat (first | with_reducible exact hbw1 | refine Below.drew ?_ | exact Below.refl _ _ | (refine Below.alloc ?_ (by first | omega | (simp; done) | (simp <;> omega)) _)))
         · (first | omega | (simp; done) | (simp <;> omega))
         intro ad2 cap2 w2 hg2 hgr2 hat2 hbw2 hzz2 hS2 hcr2 hfr2
         first | simp at hzz2 | skip
         have hl02 : w.heap.size < w2.heap.size := by omega
         have hl12 : w.heap.size + 1 < w2.heap.size := by omega
         first
           | (have hlx : w1.heap.size ≤ w2.heap.size := by omega
              have hgn : Grow Rp.int true (w.heap.size + 1 + 1) w2 3 (.slice ad1 _ cap1) _ := GrowInt.keep (Grow.below hg1 (by repeat (first | refine Below.drew ?_ | exact Below.refl _ _ | (refine Below.alloc ?_ (by first | omega | (simp; done) | (simp <;> omega)) _)))) hgr2 (fun k hk => by have h1 := hat1 k hk; intro e; injection e with e; first | omega | (simp at h1; omega) | (simp at h1 e; omega))
              clear hg1)
           | skip)
)
  all_goals (
    rename_i hh
    clear hh
    go_wp2
    first
      | (have G1 := Lib.hid (Own.new (((((hgn.own (p := Nat.one_pos)).inn.setCell (p := ⟨w.heap.size + 1, 0, none⟩) (.inl (by simp)) (.bool x.1.1)).setCell (p := ⟨w.heap.size + 1, 1, none⟩) (.inl (by simp)) (.slice ad1 x.1.2.length cap1)).setCell (p := ⟨w.heap.size + 1, 2, none⟩) (.inl (by simp)) (.slice ad2 x.2.length cap2)).own (lo2 := w.heap.size) (by omega)))
         have G2 := Lib.hid (Own.new (((((hg2.own (p := Nat.one_pos)).inn.setCell (p := ⟨w.heap.size + 1, 0, none⟩) (.inl (by simp)) (.bool x.1.1)).setCell (p := ⟨w.heap.size + 1, 1, none⟩) (.inl (by simp)) (.slice ad1 x.1.2.length cap1)).setCell (p := ⟨w.heap.size + 1, 2, none⟩) (.inl (by simp)) (.slice ad2 x.2.length cap2)).own (lo2 := w.heap.size) (by omega)))
         have HB := Lib.hid hbw2)
      | (have G1 := Lib.hid (Own.new (((((hg1.own (p := Nat.one_pos)).inn.setCell (p := ⟨w.heap.size + 1, 0, none⟩) (.inl (by simp)) (.bool x.1.1)).setCell (p := ⟨w.heap.size + 1, 1, none⟩) (.inl (by simp)) (.slice ad1 x.1.2.length cap1)).setCell (p := ⟨w.heap.size + 1, 2, none⟩) (.inl (by simp)) (.slice ad2 x.2.length cap2)).own (lo2 := w.heap.size) (by omega)))
         have G2 := Lib.hid (Own.new (((((hgn.own (p := Nat.one_pos)).inn.setCell (p := ⟨w.heap.size + 1, 0, none⟩) (.inl (by simp)) (.bool x.1.1)).setCell (p := ⟨w.heap.size + 1, 1, none⟩) (.inl (by simp)) (.slice ad1 x.1.2.length cap1)).setCell (p := ⟨w.heap.size + 1, 2, none⟩) (.inl (by simp)) (.slice ad2 x.2.length cap2)).own (lo2 := w.heap.size) (by omega)))
         have HB := Lib.hid hbw1)
    refine bodyPost_ret (v := .agg #[.bool x.1.1, .slice ad1 x.1.2.length cap1, .slice ad2 x.2.length cap2]) (by first | (simp [results, go_sem, hcr2, hfr2, hcr1, hfr1, hl11, hl12]; done) | trace_state) rfl ⟨_, rfl, ⟨[.bool x.1.1, .slice ad1 x.1.2.length cap1, .slice ad2 x.2.length cap2], rfl, ?_⟩, ?_⟩
    · exact New.pair (cs1 := [.bool x.1.1, .slice ad1 x.1.2.length cap1]) (cs2 := [.slice ad2 x.2.length cap2]) (New.pair (cs1 := [.bool x.1.1]) (cs2 := [.slice ad1 x.1.2.length cap1]) (New.bool _ _ _) G1.out) G2.out
    · exact ((HB.out.setCell (p := ⟨w.heap.size + 1, 0, none⟩) (by simp) _).setCell (p := ⟨w.heap.size + 1, 1, none⟩) (by simp) _).setCell (p := ⟨w.heap.size + 1, 2, none⟩) (by simp) _)
end Go.Proofs.Ytjkbecgenjhaaaa

/-
  A point that was computed, or none. Printed by a program.
-/
namespace Go.Proofs.Ytjkbecgenjhaaaa
open Go.RowKit DW
set_option maxRecDepth 100000 in
set_option maxHeartbeats 2000000 in
theorem pointOr_any (c0 c1 c2 c3 c4 c5 : Value) (x : DPoint) (w : World) (hx : Has RPoint w [c0, c1, c2, c3, c4, c5] x) (hg : DW.Fn Try.prog 151 [⟨DW.tPoint, x⟩] false [⟨.bool, true⟩]) :
    Calls Try.prog 122 #[.agg #[c0, c1, c2, c3, c4, c5]] w (Post fun v w' => v = .agg #[c0, c1, c2, c3, c4, c5] ∧ Below w.heap.size w w') := by
  have HX := Lib.hid hx
  have ho0 := hx.one 0 c0 rfl
  have ho1 := hx.one 1 c1 rfl
  have ho2 := hx.one 2 c2 rfl
  have ho3 := hx.one 3 c3 rfl
  have ho4 := hx.one 4 c4 rfl
  have ho5 := hx.one 5 c5 rfl
  have HG := Lib.hid hg
  clear hx hg
  go_enter Try.func122, Try.ntmps122
  go_wp2_with fail
  have hp1 := ((Below.refl w.heap.size w).alloc (Nat.le_refl _) (Obj.cells #[c0, c1, c2, c3, c4, c5] 53)).alloc (by simp <;> omega) (Obj.cells #[.bool false, .slice none 0 0, .slice none 0 0, .bool false, .slice none 0 0, .slice none 0 0] 53)
  refine (HG.out.bool (vs := [.agg #[c0, c1, c2, c3, c4, c5]]) ⟨Arg.agg (t := DW.tPoint) (cs := [c0, c1, c2, c3, c4, c5]) rfl (HX.out.below hp1), trivial⟩).mono ?_
  rintro e w1 ⟨v, rfl, rfl, hc1⟩
  have hb1 := Below.up hp1 hc1 (by simp <;> omega)
  have hlt1 : w.heap.size + 1 < w1.heap.size := Nat.lt_of_lt_of_le (by simp <;> omega) hc1.size
  obtain ⟨hcr1, hfr1⟩ := bcell hc1
  go_wp2
  refine bodyPost_ret (v := .agg #[c0, c1, c2, c3, c4, c5]) (by simp [results, go_sem, hlt1, hcr1]) rfl ⟨_, rfl, rfl, ?_⟩
  exact ((((((hb1).setCell (p := ⟨w.heap.size + 1, 0, none⟩) (by simp) c0).setCell (p := ⟨w.heap.size + 1, 1, none⟩) (by simp) c1).setCell (p := ⟨w.heap.size + 1, 2, none⟩) (by simp) c2).setCell (p := ⟨w.heap.size + 1, 3, none⟩) (by simp) c3).setCell (p := ⟨w.heap.size + 1, 4, none⟩) (by simp) c4).setCell (p := ⟨w.heap.size + 1, 5, none⟩) (by simp) c5
set_option maxRecDepth 100000 in
set_option maxHeartbeats 2000000 in
theorem l05Valid_any (c0 c1 c2 c3 c4 c5 : Value) (x : DPoint) (w : World) (hx : Has RPoint w [c0, c1, c2, c3, c4, c5] x) (hg : DW.Fn Try.prog 116 [⟨DW.tPoint, x⟩] false [⟨.bool, true⟩]) :
    Calls Try.prog 86 #[.agg #[c0, c1, c2, c3, c4, c5]] w (Post fun v w' => v = .agg #[c0, c1, c2, c3, c4, c5] ∧ Below w.heap.size w w') := by
  have HX := Lib.hid hx
  have ho0 := hx.one 0 c0 rfl
  have ho1 := hx.one 1 c1 rfl
  have ho2 := hx.one 2 c2 rfl
  have ho3 := hx.one 3 c3 rfl
  have ho4 := hx.one 4 c4 rfl
  have ho5 := hx.one 5 c5 rfl
  have HG := Lib.hid hg
  clear hx hg
  go_enter Try.func86, Try.ntmps86
  go_wp2_with fail
  have hp1 := ((Below.refl w.heap.size w).alloc (Nat.le_refl _) (Obj.cells #[c0, c1, c2, c3, c4, c5] 53)).alloc (by simp <;> omega) (Obj.cells #[.bool false, .slice none 0 0, .slice none 0 0, .bool false, .slice none 0 0, .slice none 0 0] 53)
  refine (HG.out.bool (vs := [.agg #[c0, c1, c2, c3, c4, c5]]) ⟨Arg.agg (t := DW.tPoint) (cs := [c0, c1, c2, c3, c4, c5]) rfl (HX.out.below hp1), trivial⟩).mono ?_
  rintro e w1 ⟨v, rfl, rfl, hc1⟩
  have hb1 := Below.up hp1 hc1 (by simp <;> omega)
  have hlt1 : w.heap.size + 1 < w1.heap.size := Nat.lt_of_lt_of_le (by simp <;> omega) hc1.size
  obtain ⟨hcr1, hfr1⟩ := bcell hc1
  go_wp2
  refine bodyPost_ret (v := .agg #[c0, c1, c2, c3, c4, c5]) (by simp [results, go_sem, hlt1, hcr1]) rfl ⟨_, rfl, rfl, ?_⟩
  exact ((((((hb1).setCell (p := ⟨w.heap.size + 1, 0, none⟩) (by simp) c0).setCell (p := ⟨w.heap.size + 1, 1, none⟩) (by simp) c1).setCell (p := ⟨w.heap.size + 1, 2, none⟩) (by simp) c2).setCell (p := ⟨w.heap.size + 1, 3, none⟩) (by simp) c3).setCell (p := ⟨w.heap.size + 1, 4, none⟩) (by simp) c4).setCell (p := ⟨w.heap.size + 1, 5, none⟩) (by simp) c5
end Go.Proofs.Ytjkbecgenjhaaaa

/-
  Differences of points.
-/
namespace Go.Proofs.Ytjkbecgenjhaaaa.DW
open Go.RowKit
abbrev ptZ : DP := (rZ, rZ)
/-- A point of two numbers, if both are there. -/
def ptO (x y : Option Rat) : DP := if x.isSome && y.isSome then (oD x, oD y) else ptZ
theorem isGoodPoint_fn (x y : Option Rat) : Fn Try.prog 151 [⟨tPoint, (oD x, oD y)⟩] false [⟨.bool, x.isSome && y.isSome⟩] := by
  cases hx : x.isSome
  · refine fn_enter tabOK mixes Try.func151 rfl rfl _ Try.ntmps151 _ Try.results151 (by simp) fun hwf => ?_
    try simp (config := { maxSteps := 10000000 }) only [go_sem, reduceIte, reduceCtorEq, Nat.reduceEqDiff, Nat.reduceLT, Nat.reduceLeDiff, Nat.reduceAdd, Nat.reduceBEq, Nat.reduceMul, Int.reduceToNat, Int.reduceLE, Int.reduceLT, Int.reduceEq, Int.reduceNeg]
    repeat (refine And.intro (by first | omega | (constructor <;> omega) | kernel_rfl) ?_)
    refine CallW.mk (isGood_fn x) ?_
    try simp (config := { maxSteps := 10000000 }) only [go_sem, reduceIte, reduceCtorEq, Nat.reduceEqDiff, Nat.reduceLT, Nat.reduceLeDiff, Nat.reduceAdd, Nat.reduceBEq, Nat.reduceMul, Int.reduceToNat, Int.reduceLE, Int.reduceLT, Int.reduceEq, Int.reduceNeg]
    try simp (config := { maxSteps := 10000000 }) only [go_sem, reduceIte, reduceCtorEq, Nat.reduceEqDiff, Nat.reduceLT, Nat.reduceLeDiff, Nat.reduceAdd, Nat.reduceBEq, Nat.reduceMul, Int.reduceToNat, Int.reduceLE, Int.reduceLT, Int.reduceEq, Int.reduceNeg, hx]
    repeat (refine And.intro (by first | omega | (constructor <;> omega) | kernel_rfl) ?_)
  · refine fn_enter tabOK mixes Try.func151 rfl rfl _ Try.ntmps151 _ Try.results151 (by simp) fun hwf => ?_
    try simp (config := { maxSteps := 10000000 }) only [go_sem, reduceIte, reduceCtorEq, Nat.reduceEqDiff, Nat.reduceLT, Nat.reduceLeDiff, Nat.reduceAdd, Nat.reduceBEq, Nat.reduceMul, Int.reduceToNat, Int.reduceLE, Int.reduceLT, Int.reduceEq, Int.reduceNeg]
    repeat (refine And.intro (by first | omega | (constructor <;> omega) | kernel_rfl) ?_)
    refine CallW.mk (isGood_fn x) ?_
    try simp (config := { maxSteps := 10000000 }) only [go_sem, reduceIte, reduceCtorEq, Nat.reduceEqDiff, Nat.reduceLT, Nat.reduceLeDiff, Nat.reduceAdd, Nat.reduceBEq, Nat.reduceMul, Int.reduceToNat, Int.reduceLE, Int.reduceLT, Int.reduceEq, Int.reduceNeg]
    try simp (config := { maxSteps := 10000000 }) only [go_sem, reduceIte, reduceCtorEq, Nat.reduceEqDiff, Nat.reduceLT, Nat.reduceLeDiff, Nat.reduceAdd, Nat.reduceBEq, Nat.reduceMul, Int.reduceToNat, Int.reduceLE, Int.reduceLT, Int.reduceEq, Int.reduceNeg, hx]
    repeat (refine And.intro (by first | omega | (constructor <;> omega) | kernel_rfl) ?_)
    refine CallW.mk (isGood_fn y) ?_
    try simp (config := { maxSteps := 10000000 }) only [go_sem, reduceIte, reduceCtorEq, Nat.reduceEqDiff, Nat.reduceLT, Nat.reduceLeDiff, Nat.reduceAdd, Nat.reduceBEq, Nat.reduceMul, Int.reduceToNat, Int.reduceLE, Int.reduceLT, Int.reduceEq, Int.reduceNeg]
    repeat (refine And.intro (by first | omega | (constructor <;> omega) | kernel_rfl) ?_)
theorem pointOr_no (x y : Option Rat) (h : (x.isSome && y.isSome) = false) : Fn Try.prog 122 [⟨tPoint, (oD x, oD y)⟩] true [⟨tPoint, ptZ⟩] := by
  have h1 := isGoodPoint_fn x y
  rw [h] at h1
  refine fn_enter tabOK mixes Try.func122 rfl rfl _ Try.ntmps122 _ Try.results122 (by simp) fun hwf => ?_
  try simp (config := { maxSteps := 10000000 }) only [go_sem, reduceIte, reduceCtorEq, Nat.reduceEqDiff, Nat.reduceLT, Nat.reduceLeDiff, Nat.reduceAdd, Nat.reduceBEq, Nat.reduceMul, Int.reduceToNat, Int.reduceLE, Int.reduceLT, Int.reduceEq, Int.reduceNeg]
  repeat (refine And.intro (by first | omega | (constructor <;> omega) | kernel_rfl) ?_)
  refine CallW.mk (h1) ?_
  try simp (config := { maxSteps := 10000000 }) only [go_sem, reduceIte, reduceCtorEq, Nat.reduceEqDiff, Nat.reduceLT, Nat.reduceLeDiff, Nat.reduceAdd, Nat.reduceBEq, Nat.reduceMul, Int.reduceToNat, Int.reduceLE, Int.reduceLT, Int.reduceEq, Int.reduceNeg]
  all_goals repeat (refine And.intro (by first | omega | (constructor <;> omega) | kernel_rfl) ?_)
  all_goals first | kernel_rfl | omega | rfl
theorem pointOr_yes (x y : Option Rat) (h : (x.isSome && y.isSome) = true) : FnS Try.prog 122 [⟨tPoint, (oD x, oD y)⟩] 0 := by
  have h1 := isGoodPoint_fn x y
  rw [h] at h1
  refine FnS.of1 (enters Try.func122 rfl rfl) rfl fun w cs hc => ?_
  obtain ⟨c0, c1, c2, c3, c4, c5, rfl⟩ := list6 hc.len
  exact pointOr_any c0 c1 c2 c3 c4 c5 _ w hc h1
theorem l05Valid_no (p : DP) (h : okPt p = false) : Fn Try.prog 86 [⟨tPoint, p⟩] true [⟨tPoint, ptZ⟩] := by
  have h1 := specIsValidPoint_fn p
  rw [h] at h1
  refine fn_enter tabOK mixes Try.func86 rfl rfl _ Try.ntmps86 _ Try.results86 (by simp) fun hwf => ?_
  try simp (config := { maxSteps := 10000000 }) only [go_sem, reduceIte, reduceCtorEq, Nat.reduceEqDiff, Nat.reduceLT, Nat.reduceLeDiff, Nat.reduceAdd, Nat.reduceBEq, Nat.reduceMul, Int.reduceToNat, Int.reduceLE, Int.reduceLT, Int.reduceEq, Int.reduceNeg]
  repeat (refine And.intro (by first | omega | (constructor <;> omega) | kernel_rfl) ?_)
  refine CallW.mk (h1) ?_
  try simp (config := { maxSteps := 10000000 }) only [go_sem, reduceIte, reduceCtorEq, Nat.reduceEqDiff, Nat.reduceLT, Nat.reduceLeDiff, Nat.reduceAdd, Nat.reduceBEq, Nat.reduceMul, Int.reduceToNat, Int.reduceLE, Int.reduceLT, Int.reduceEq, Int.reduceNeg]
  all_goals repeat (refine And.intro (by first | omega | (constructor <;> omega) | kernel_rfl) ?_)
  all_goals first | kernel_rfl | omega | rfl
theorem l05Valid_yes (p : DP) (h : okPt p = true) : FnS Try.prog 86 [⟨tPoint, p⟩] 0 := by
  have h1 := specIsValidPoint_fn p
  rw [h] at h1
  refine FnS.of1 (enters Try.func86 rfl rfl) rfl fun w cs hc => ?_
  obtain ⟨c0, c1, c2, c3, c4, c5, rfl⟩ := list6 hc.len
  exact l05Valid_any c0 c1 c2 c3 c4 c5 _ w hc h1
theorem okPt_oD {x y : Option Rat} (hx : okO x) (hy : okO y) : okPt (oD x, oD y) = (x.isSome && y.isSome) := by
  unfold okPt okR
  rw [rdO_oD hx, rdO_oD hy]
theorem difference_fn (a b x y : Option Rat) (ha : okO a) (hb : okO b) (hx : okO x) (hy : okO y) : Fn Try.prog 89 [⟨tPoint, (oD a, oD b)⟩, ⟨tPoint, (oD x, oD y)⟩] true [⟨tPoint, ptO (subO a x) (subO b y)⟩] := by
  have c1 := ratSub_fn a x ha hx
  have c2 := ratSub_fn b y hb hy
  cases h : ((subO a x).isSome && (subO b y).isSome)
  · have c3 := pointOr_no _ _ h
    have e : ptO (subO a x) (subO b y) = ptZ := by unfold ptO; rw [h]; rfl
    rw [e]
    refine fn_enter tabOK mixes Try.func89 rfl rfl _ Try.ntmps89 _ Try.results89 (by simp) fun hwf => ?_
    try simp (config := { maxSteps := 10000000 }) only [go_sem, reduceIte, reduceCtorEq, Nat.reduceEqDiff, Nat.reduceLT, Nat.reduceLeDiff, Nat.reduceAdd, Nat.reduceBEq, Nat.reduceMul, Int.reduceToNat, Int.reduceLE, Int.reduceLT, Int.reduceEq, Int.reduceNeg]
    repeat (refine And.intro (by first | omega | (constructor <;> omega) | kernel_rfl) ?_)
    refine CallW.mk (c1) ?_
    try simp (config := { maxSteps := 10000000 }) only [go_sem, reduceIte, reduceCtorEq, Nat.reduceEqDiff, Nat.reduceLT, Nat.reduceLeDiff, Nat.reduceAdd, Nat.reduceBEq, Nat.reduceMul, Int.reduceToNat, Int.reduceLE, Int.reduceLT, Int.reduceEq, Int.reduceNeg]
    repeat (refine And.intro (by first | omega | (constructor <;> omega) | kernel_rfl) ?_)
    refine CallW.mk (c2) ?_
    try simp (config := { maxSteps := 10000000 }) only [go_sem, reduceIte, reduceCtorEq, Nat.reduceEqDiff, Nat.reduceLT, Nat.reduceLeDiff, Nat.reduceAdd, Nat.reduceBEq, Nat.reduceMul, Int.reduceToNat, Int.reduceLE, Int.reduceLT, Int.reduceEq, Int.reduceNeg]
    repeat (refine And.intro (by first | omega | (constructor <;> omega) | kernel_rfl) ?_)
    refine CallW.mk (c3) ?_
    try simp (config := { maxSteps := 10000000 }) only [go_sem, reduceIte, reduceCtorEq, Nat.reduceEqDiff, Nat.reduceLT, Nat.reduceLeDiff, Nat.reduceAdd, Nat.reduceBEq, Nat.reduceMul, Int.reduceToNat, Int.reduceLE, Int.reduceLT, Int.reduceEq, Int.reduceNeg]
    all_goals repeat (refine And.intro (by first | omega | (constructor <;> omega) | kernel_rfl) ?_)
    all_goals first | kernel_rfl | omega | rfl
  · have c3 := pointOr_yes _ _ h
    have e : ptO (subO a x) (subO b y) = (oD (subO a x), oD (subO b y)) := by unfold ptO; rw [h]; rfl
    rw [e]
    refine fn_enter tabOK mixes Try.func89 rfl rfl _ Try.ntmps89 _ Try.results89 (by simp) fun hwf => ?_
    try simp (config := { maxSteps := 10000000 }) only [go_sem, reduceIte, reduceCtorEq, Nat.reduceEqDiff, Nat.reduceLT, Nat.reduceLeDiff, Nat.reduceAdd, Nat.reduceBEq, Nat.reduceMul, Int.reduceToNat, Int.reduceLE, Int.reduceLT, Int.reduceEq, Int.reduceNeg]
    repeat (refine And.intro (by first | omega | (constructor <;> omega) | kernel_rfl) ?_)
    refine CallW.mk (c1) ?_
    try simp (config := { maxSteps := 10000000 }) only [go_sem, reduceIte, reduceCtorEq, Nat.reduceEqDiff, Nat.reduceLT, Nat.reduceLeDiff, Nat.reduceAdd, Nat.reduceBEq, Nat.reduceMul, Int.reduceToNat, Int.reduceLE, Int.reduceLT, Int.reduceEq, Int.reduceNeg]
    repeat (refine And.intro (by first | omega | (constructor <;> omega) | kernel_rfl) ?_)
    refine CallW.mk (c2) ?_
    try simp (config := { maxSteps := 10000000 }) only [go_sem, reduceIte, reduceCtorEq, Nat.reduceEqDiff, Nat.reduceLT, Nat.reduceLeDiff, Nat.reduceAdd, Nat.reduceBEq, Nat.reduceMul, Int.reduceToNat, Int.reduceLE, Int.reduceLT, Int.reduceEq, Int.reduceNeg]
    repeat (refine And.intro (by first | omega | (constructor <;> omega) | kernel_rfl) ?_)
    refine CallW.s (c3) ?_
    try simp (config := { maxSteps := 10000000 }) only [go_sem, reduceIte, reduceCtorEq, Nat.reduceEqDiff, Nat.reduceLT, Nat.reduceLeDiff, Nat.reduceAdd, Nat.reduceBEq, Nat.reduceMul, Int.reduceToNat, Int.reduceLE, Int.reduceLT, Int.reduceEq, Int.reduceNeg]
    all_goals repeat (refine And.intro (by first | omega | (constructor <;> omega) | kernel_rfl) ?_)
    all_goals first | kernel_rfl | omega | rfl
/-- The difference of two points. -/
noncomputable def subP (p q : DP) : DP := ptO (subO (rdO p.1) (rdO q.1)) (subO (rdO p.2) (rdO q.2))
theorem subP_bad {p q : DP} (h : (okPt p && okPt q) = false) : subP p q = ptZ := by
  unfold subP ptO
  rw [if_neg]
  intro h2
  rw [Bool.and_eq_true] at h2
  have k1 : ∀ {x y : DR}, (subO (rdO x) (rdO y)).isSome = true → okR x = true ∧ okR y = true := by
    intro x y h
    unfold okR
    cases hx : rdO x with
    | none => rw [hx, subO_none_l] at h; cases h
    | some u => cases hy : rdO y with
      | none => rw [hy, subO_none_r] at h; cases h
      | some v => exact ⟨rfl, rfl⟩
  obtain ⟨a1, a2⟩ := k1 h2.1
  obtain ⟨b1, b2⟩ := k1 h2.2
  unfold okPt at h
  rw [a1, a2, b1, b2] at h
  cases h
theorem implSubtractPoints_fn (p q : DP) : Fn Try.prog 46 [⟨tPoint, p⟩, ⟨tPoint, q⟩] true [⟨tPoint, subP p q⟩] := by
  have h1 := arePoints2_fn p q
  cases h : (okPt p && okPt q)
  · rw [h] at h1
    rw [subP_bad h]
    refine fn_enter tabOK mixes Try.func46 rfl rfl _ Try.ntmps46 _ Try.results46 (by simp) fun hwf => ?_
    try simp (config := { maxSteps := 10000000 }) only [go_sem, reduceIte, reduceCtorEq, Nat.reduceEqDiff, Nat.reduceLT, Nat.reduceLeDiff, Nat.reduceAdd, Nat.reduceBEq, Nat.reduceMul, Int.reduceToNat, Int.reduceLE, Int.reduceLT, Int.reduceEq, Int.reduceNeg]
    repeat (refine And.intro (by first | omega | (constructor <;> omega) | kernel_rfl) ?_)
    refine CallW.mk (h1) ?_
    try simp (config := { maxSteps := 10000000 }) only [go_sem, reduceIte, reduceCtorEq, Nat.reduceEqDiff, Nat.reduceLT, Nat.reduceLeDiff, Nat.reduceAdd, Nat.reduceBEq, Nat.reduceMul, Int.reduceToNat, Int.reduceLE, Int.reduceLT, Int.reduceEq, Int.reduceNeg]
    all_goals repeat (refine And.intro (by first | omega | (constructor <;> omega) | kernel_rfl) ?_)
    all_goals first | kernel_rfl | omega | rfl
  · rw [h] at h1
    obtain ⟨hp, hq⟩ := Bool.and_eq_true_iff.1 h
    obtain ⟨hp1, hp2⟩ := Bool.and_eq_true_iff.1 (show (okR p.1 && okR p.2) = true from hp)
    obtain ⟨hq1, hq2⟩ := Bool.and_eq_true_iff.1 (show (okR q.1 && okR q.2) = true from hq)
    have h2 := difference_fn (rdO p.1) (rdO p.2) (rdO q.1) (rdO q.2) (okO_rdO _) (okO_rdO _) (okO_rdO _) (okO_rdO _)
    rw [okR_oD hp1, okR_oD hp2, okR_oD hq1, okR_oD hq2] at h2
    unfold subP
    refine fn_enter tabOK mixes Try.func46 rfl rfl _ Try.ntmps46 _ Try.results46 (by simp) fun hwf => ?_
    try simp (config := { maxSteps := 10000000 }) only [go_sem, reduceIte, reduceCtorEq, Nat.reduceEqDiff, Nat.reduceLT, Nat.reduceLeDiff, Nat.reduceAdd, Nat.reduceBEq, Nat.reduceMul, Int.reduceToNat, Int.reduceLE, Int.reduceLT, Int.reduceEq, Int.reduceNeg]
    repeat (refine And.intro (by first | omega | (constructor <;> omega) | kernel_rfl) ?_)
    refine CallW.mk (h1) ?_
    try simp (config := { maxSteps := 10000000 }) only [go_sem, reduceIte, reduceCtorEq, Nat.reduceEqDiff, Nat.reduceLT, Nat.reduceLeDiff, Nat.reduceAdd, Nat.reduceBEq, Nat.reduceMul, Int.reduceToNat, Int.reduceLE, Int.reduceLT, Int.reduceEq, Int.reduceNeg]
    repeat (refine And.intro (by first | omega | (constructor <;> omega) | kernel_rfl) ?_)
    refine CallW.mk (h2) ?_
    try simp (config := { maxSteps := 10000000 }) only [go_sem, reduceIte, reduceCtorEq, Nat.reduceEqDiff, Nat.reduceLT, Nat.reduceLeDiff, Nat.reduceAdd, Nat.reduceBEq, Nat.reduceMul, Int.reduceToNat, Int.reduceLE, Int.reduceLT, Int.reduceEq, Int.reduceNeg]
    all_goals repeat (refine And.intro (by first | omega | (constructor <;> omega) | kernel_rfl) ?_)
    all_goals first | kernel_rfl | omega | rfl
theorem specSubtractPoints_fn (p q : DP) : Fn Try.prog 44 [⟨tPoint, p⟩, ⟨tPoint, q⟩] true [⟨tPoint, subP p q⟩] := by
  have c1 := specRatSub_fn p.1 q.1
  have c2 := specRatSub_fn p.2 q.2
  have hok := okPt_oD (okO_sub (rdO p.1) (rdO q.1)) (okO_sub (rdO p.2) (rdO q.2))
  cases h : ((subO (rdO p.1) (rdO q.1)).isSome && (subO (rdO p.2) (rdO q.2)).isSome)
  · have c3 := l05Valid_no _ (hok.trans h)
    have e : subP p q = ptZ := by unfold subP ptO; rw [h]; rfl
    rw [e]
    refine fn_enter tabOK mixes Try.func44 rfl rfl _ Try.ntmps44 _ Try.results44 (by simp) fun hwf => ?_
    try simp (config := { maxSteps := 10000000 }) only [go_sem, reduceIte, reduceCtorEq, Nat.reduceEqDiff, Nat.reduceLT, Nat.reduceLeDiff, Nat.reduceAdd, Nat.reduceBEq, Nat.reduceMul, Int.reduceToNat, Int.reduceLE, Int.reduceLT, Int.reduceEq, Int.reduceNeg]
    repeat (refine And.intro (by first | omega | (constructor <;> omega) | kernel_rfl) ?_)
    refine CallW.mk (c1) ?_
    try simp (config := { maxSteps := 10000000 }) only [go_sem, reduceIte, reduceCtorEq, Nat.reduceEqDiff, Nat.reduceLT, Nat.reduceLeDiff, Nat.reduceAdd, Nat.reduceBEq, Nat.reduceMul, Int.reduceToNat, Int.reduceLE, Int.reduceLT, Int.reduceEq, Int.reduceNeg]
    repeat (refine And.intro (by first | omega | (constructor <;> omega) | kernel_rfl) ?_)
    refine CallW.mk (c2) ?_
    try simp (config := { maxSteps := 10000000 }) only [go_sem, reduceIte, reduceCtorEq, Nat.reduceEqDiff, Nat.reduceLT, Nat.reduceLeDiff, Nat.reduceAdd, Nat.reduceBEq, Nat.reduceMul, Int.reduceToNat, Int.reduceLE, Int.reduceLT, Int.reduceEq, Int.reduceNeg]
    repeat (refine And.intro (by first | omega | (constructor <;> omega) | kernel_rfl) ?_)
    refine CallW.mk (c3) ?_
    try simp (config := { maxSteps := 10000000 }) only [go_sem, reduceIte, reduceCtorEq, Nat.reduceEqDiff, Nat.reduceLT, Nat.reduceLeDiff, Nat.reduceAdd, Nat.reduceBEq, Nat.reduceMul, Int.reduceToNat, Int.reduceLE, Int.reduceLT, Int.reduceEq, Int.reduceNeg]
    all_goals repeat (refine And.intro (by first | omega | (constructor <;> omega) | kernel_rfl) ?_)
    all_goals first | kernel_rfl | omega | rfl
  · have c3 := l05Valid_yes _ (hok.trans h)
    have e : subP p q = (oD (subO (rdO p.1) (rdO q.1)), oD (subO (rdO p.2) (rdO q.2))) := by unfold subP ptO; rw [h]; rfl
    rw [e]
    refine fn_enter tabOK mixes Try.func44 rfl rfl _ Try.ntmps44 _ Try.results44 (by simp) fun hwf => ?_
    try simp (config := { maxSteps := 10000000 }) only [go_sem, reduceIte, reduceCtorEq, Nat.reduceEqDiff, Nat.reduceLT, Nat.reduceLeDiff, Nat.reduceAdd, Nat.reduceBEq, Nat.reduceMul, Int.reduceToNat, Int.reduceLE, Int.reduceLT, Int.reduceEq, Int.reduceNeg]
    repeat (refine And.intro (by first | omega | (constructor <;> omega) | kernel_rfl) ?_)
    refine CallW.mk (c1) ?_
    try simp (config := { maxSteps := 10000000 }) only [go_sem, reduceIte, reduceCtorEq, Nat.reduceEqDiff, Nat.reduceLT, Nat.reduceLeDiff, Nat.reduceAdd, Nat.reduceBEq, Nat.reduceMul, Int.reduceToNat, Int.reduceLE, Int.reduceLT, Int.reduceEq, Int.reduceNeg]
    repeat (refine And.intro (by first | omega | (constructor <;> omega) | kernel_rfl) ?_)
    refine CallW.mk (c2) ?_
    try simp (config := { maxSteps := 10000000 }) only [go_sem, reduceIte, reduceCtorEq, Nat.reduceEqDiff, Nat.reduceLT, Nat.reduceLeDiff, Nat.reduceAdd, Nat.reduceBEq, Nat.reduceMul, Int.reduceToNat, Int.reduceLE, Int.reduceLT, Int.reduceEq, Int.reduceNeg]
    repeat (refine And.intro (by first | omega | (constructor <;> omega) | kernel_rfl) ?_)
    refine CallW.s (c3) ?_
    try simp (config := { maxSteps := 10000000 }) only [go_sem, reduceIte, reduceCtorEq, Nat.reduceEqDiff, Nat.reduceLT, Nat.reduceLeDiff, Nat.reduceAdd, Nat.reduceBEq, Nat.reduceMul, Int.reduceToNat, Int.reduceLE, Int.reduceLT, Int.reduceEq, Int.reduceNeg]
    all_goals repeat (refine And.intro (by first | omega | (constructor <;> omega) | kernel_rfl) ?_)
    all_goals first | kernel_rfl | omega | rfl
theorem tRat_oD' {x : Option Rat} (h : okO x) : Go.Proofs.Ytjkbecgenjhaaaa.tRat (oD x) ≤ 48 := by
  cases x with
  | none => decide
  | some q =>
    obtain ⟨h1, h2⟩ := h q rfl
    show nl q.num.natAbs + nl q.den ≤ 48
    omega
theorem cn_ptO {x y : Option Rat} (hx : okO x) (hy : okO y) : cnPoint (ptO x y) ≤ 288 := by
  have h1 := cnPoint_le (ptO x y)
  have h2 : Go.Proofs.Ytjkbecgenjhaaaa.tPoint (ptO x y) ≤ 96 := by
    unfold ptO
    split
    · have := tRat_oD' hx; have := tRat_oD' hy
      show Go.Proofs.Ytjkbecgenjhaaaa.tRat (oD x) + Go.Proofs.Ytjkbecgenjhaaaa.tRat (oD y) ≤ 96
      omega
    · decide
  omega
theorem cn_subP (p q : DP) : cnPoint (subP p q) ≤ 3145728 := by
  have := cn_ptO (okO_sub (rdO p.1) (rdO q.1)) (okO_sub (rdO p.2) (rdO q.2))
  show cnPoint (ptO _ _) ≤ _
  omega
end Go.Proofs.Ytjkbecgenjhaaaa.DW

/-
  The law FnExactSubtractPoints returns true: the walk through it on data, by the contracts.
-/
namespace Go.Proofs.Ytjkbecgenjhaaaa.DW
open Go.RowKit

set_option maxRecDepth 100000 in
set_option maxHeartbeats 8000000 in
theorem lawSubtractPoints_fn (x0 : DPoint) (x1 : DPoint) : Fn Try.prog 9 [⟨DW.tPoint, x0⟩, ⟨DW.tPoint, x1⟩] false [⟨.bool, true⟩] := by
  refine fn_enter tabOK mixes Try.func9 rfl rfl _ Try.ntmps9 _ Try.results9 (by simp) fun hwf => ?_
  try simp (config := { maxSteps := 10000000 }) only [go_sem, reduceIte, reduceCtorEq, Nat.reduceEqDiff, Nat.reduceLT, Nat.reduceLeDiff, Nat.reduceAdd, Nat.reduceBEq, Nat.reduceMul, Int.reduceToNat, Int.reduceLE, Int.reduceLT, Int.reduceEq, Int.reduceNeg]
  repeat (refine And.intro (by first | omega | (constructor <;> omega) | kernel_rfl) ?_)
  refine CallW.mk (szPoint_fn x0 1048576 (by omega) (by omega)) ?_
  try simp (config := { maxSteps := 10000000 }) only [go_sem, reduceIte, reduceCtorEq, Nat.reduceEqDiff, Nat.reduceLT, Nat.reduceLeDiff, Nat.reduceAdd, Nat.reduceBEq, Nat.reduceMul, Int.reduceToNat, Int.reduceLE, Int.reduceLT, Int.reduceEq, Int.reduceNeg]
  repeat (refine And.intro (by first | omega | (constructor <;> omega) | kernel_rfl) ?_)
  have hr0 := szr_lo 1048576 (Go.Proofs.Ytjkbecgenjhaaaa.tPoint x0) (by omega)
  refine CondW_dec (fun hlt => ?_) (fun hge0 => ?_)
  · try simp (config := { maxSteps := 10000000 }) only [go_sem, reduceIte, reduceCtorEq, Nat.reduceEqDiff, Nat.reduceLT, Nat.reduceLeDiff, Nat.reduceAdd, Nat.reduceBEq, Nat.reduceMul, Int.reduceToNat, Int.reduceLE, Int.reduceLT, Int.reduceEq, Int.reduceNeg]
  have hge0' : 0 ≤ szr 1048576 (Go.Proofs.Ytjkbecgenjhaaaa.tPoint x0) := by omega
  try simp (config := { maxSteps := 10000000 }) only [go_sem, reduceIte, reduceCtorEq, Nat.reduceEqDiff, Nat.reduceLT, Nat.reduceLeDiff, Nat.reduceAdd, Nat.reduceBEq, Nat.reduceMul, Int.reduceToNat, Int.reduceLE, Int.reduceLT, Int.reduceEq, Int.reduceNeg]
  repeat (refine And.intro (by first | omega | (constructor <;> omega) | kernel_rfl) ?_)
  refine CallW.mk (szPoint_fn x1 (szr 1048576 (Go.Proofs.Ytjkbecgenjhaaaa.tPoint x0)) (by omega) (by omega)) ?_
  try simp (config := { maxSteps := 10000000 }) only [go_sem, reduceIte, reduceCtorEq, Nat.reduceEqDiff, Nat.reduceLT, Nat.reduceLeDiff, Nat.reduceAdd, Nat.reduceBEq, Nat.reduceMul, Int.reduceToNat, Int.reduceLE, Int.reduceLT, Int.reduceEq, Int.reduceNeg]
  repeat (refine And.intro (by first | omega | (constructor <;> omega) | kernel_rfl) ?_)
  have hr1 := szr_lo (szr 1048576 (Go.Proofs.Ytjkbecgenjhaaaa.tPoint x0)) (Go.Proofs.Ytjkbecgenjhaaaa.tPoint x1) (by omega)
  refine CondW_dec (fun hlt => ?_) (fun hge1 => ?_)
  · try simp (config := { maxSteps := 10000000 }) only [go_sem, reduceIte, reduceCtorEq, Nat.reduceEqDiff, Nat.reduceLT, Nat.reduceLeDiff, Nat.reduceAdd, Nat.reduceBEq, Nat.reduceMul, Int.reduceToNat, Int.reduceLE, Int.reduceLT, Int.reduceEq, Int.reduceNeg]
  have hge1' : 0 ≤ szr (szr 1048576 (Go.Proofs.Ytjkbecgenjhaaaa.tPoint x0)) (Go.Proofs.Ytjkbecgenjhaaaa.tPoint x1) := by omega
  have hs0 := (szr_ok hge0').1
  have hs1 := (szr_ok hge1').1
  have hle0 : Go.Proofs.Ytjkbecgenjhaaaa.tPoint x0 ≤ 1048576 := by omega
  have hle1 : Go.Proofs.Ytjkbecgenjhaaaa.tPoint x1 ≤ 1048576 := by omega
  clear hr0 hs0 hge0 hge0' hr1 hs1 hge1 hge1'
  try simp (config := { maxSteps := 10000000 }) only [go_sem, reduceIte, reduceCtorEq, Nat.reduceEqDiff, Nat.reduceLT, Nat.reduceLeDiff, Nat.reduceAdd, Nat.reduceBEq, Nat.reduceMul, Int.reduceToNat, Int.reduceLE, Int.reduceLT, Int.reduceEq, Int.reduceNeg]
  repeat (refine And.intro (by first | omega | (constructor <;> omega) | kernel_rfl) ?_)
  refine CallW.mk (toPoint_fn x0 hle0) ?_
  try simp (config := { maxSteps := 10000000 }) only [go_sem, reduceIte, reduceCtorEq, Nat.reduceEqDiff, Nat.reduceLT, Nat.reduceLeDiff, Nat.reduceAdd, Nat.reduceBEq, Nat.reduceMul, Int.reduceToNat, Int.reduceLE, Int.reduceLT, Int.reduceEq, Int.reduceNeg]
  repeat (refine And.intro (by first | omega | (constructor <;> omega) | kernel_rfl) ?_)
  refine CallW.mk (toPoint_fn x1 hle1) ?_
  try simp (config := { maxSteps := 10000000 }) only [go_sem, reduceIte, reduceCtorEq, Nat.reduceEqDiff, Nat.reduceLT, Nat.reduceLeDiff, Nat.reduceAdd, Nat.reduceBEq, Nat.reduceMul, Int.reduceToNat, Int.reduceLE, Int.reduceLT, Int.reduceEq, Int.reduceNeg]
  repeat (refine And.intro (by first | omega | (constructor <;> omega) | kernel_rfl) ?_)
  refine CallW.mk (specSubtractPoints_fn x0 x1) ?_
  try simp (config := { maxSteps := 10000000 }) only [go_sem, reduceIte, reduceCtorEq, Nat.reduceEqDiff, Nat.reduceLT, Nat.reduceLeDiff, Nat.reduceAdd, Nat.reduceBEq, Nat.reduceMul, Int.reduceToNat, Int.reduceLE, Int.reduceLT, Int.reduceEq, Int.reduceNeg]
  repeat (refine And.intro (by first | omega | (constructor <;> omega) | kernel_rfl) ?_)
  refine CallW.mx (toPoint_fn x0 hle0) ?_
  try simp (config := { maxSteps := 10000000 }) only [go_sem, reduceIte, reduceCtorEq, Nat.reduceEqDiff, Nat.reduceLT, Nat.reduceLeDiff, Nat.reduceAdd, Nat.reduceBEq, Nat.reduceMul, Int.reduceToNat, Int.reduceLE, Int.reduceLT, Int.reduceEq, Int.reduceNeg]
  repeat (refine And.intro (by first | omega | (constructor <;> omega) | kernel_rfl) ?_)
  refine CallW.mx (toPoint_fn x1 hle1) ?_
  try simp (config := { maxSteps := 10000000 }) only [go_sem, reduceIte, reduceCtorEq, Nat.reduceEqDiff, Nat.reduceLT, Nat.reduceLeDiff, Nat.reduceAdd, Nat.reduceBEq, Nat.reduceMul, Int.reduceToNat, Int.reduceLE, Int.reduceLT, Int.reduceEq, Int.reduceNeg]
  repeat (refine And.intro (by first | omega | (constructor <;> omega) | kernel_rfl) ?_)
  refine CallW.mx (implSubtractPoints_fn x0 x1) ?_
  try simp (config := { maxSteps := 10000000 }) only [go_sem, reduceIte, reduceCtorEq, Nat.reduceEqDiff, Nat.reduceLT, Nat.reduceLeDiff, Nat.reduceAdd, Nat.reduceBEq, Nat.reduceMul, Int.reduceToNat, Int.reduceLE, Int.reduceLT, Int.reduceEq, Int.reduceNeg]
  repeat (refine And.intro (by first | omega | (constructor <;> omega) | kernel_rfl) ?_)
  refine CallW.mx (eqPoint_fn (subP x0 x1) (subP x0 x1)) ?_
  try simp (config := { maxSteps := 10000000 }) only [go_sem, reduceIte, reduceCtorEq, Nat.reduceEqDiff, Nat.reduceLT, Nat.reduceLeDiff, Nat.reduceAdd, Nat.reduceBEq, Nat.reduceMul, Int.reduceToNat, Int.reduceLE, Int.reduceLT, Int.reduceEq, Int.reduceNeg]
  repeat (refine And.intro (by first | omega | (constructor <;> omega) | kernel_rfl) ?_)
  refine CallW.mk (toPoint_fn x0 hle0) ?_
  try simp (config := { maxSteps := 10000000 }) only [go_sem, reduceIte, reduceCtorEq, Nat.reduceEqDiff, Nat.reduceLT, Nat.reduceLeDiff, Nat.reduceAdd, Nat.reduceBEq, Nat.reduceMul, Int.reduceToNat, Int.reduceLE, Int.reduceLT, Int.reduceEq, Int.reduceNeg]
  repeat (refine And.intro (by first | omega | (constructor <;> omega) | kernel_rfl) ?_)
  refine CallW.mx (eqPoint_fn x0 x0) ?_
  try simp (config := { maxSteps := 10000000 }) only [go_sem, reduceIte, reduceCtorEq, Nat.reduceEqDiff, Nat.reduceLT, Nat.reduceLeDiff, Nat.reduceAdd, Nat.reduceBEq, Nat.reduceMul, Int.reduceToNat, Int.reduceLE, Int.reduceLT, Int.reduceEq, Int.reduceNeg]
  repeat (refine And.intro (by first | omega | (constructor <;> omega) | kernel_rfl) ?_)
  refine CallW.mk (toPoint_fn x1 hle1) ?_
  try simp (config := { maxSteps := 10000000 }) only [go_sem, reduceIte, reduceCtorEq, Nat.reduceEqDiff, Nat.reduceLT, Nat.reduceLeDiff, Nat.reduceAdd, Nat.reduceBEq, Nat.reduceMul, Int.reduceToNat, Int.reduceLE, Int.reduceLT, Int.reduceEq, Int.reduceNeg]
  repeat (refine And.intro (by first | omega | (constructor <;> omega) | kernel_rfl) ?_)
  refine CallW.mx (eqPoint_fn x1 x1) ?_
  try simp (config := { maxSteps := 10000000 }) only [go_sem, reduceIte, reduceCtorEq, Nat.reduceEqDiff, Nat.reduceLT, Nat.reduceLeDiff, Nat.reduceAdd, Nat.reduceBEq, Nat.reduceMul, Int.reduceToNat, Int.reduceLE, Int.reduceLT, Int.reduceEq, Int.reduceNeg]
  have hc0 : Go.Proofs.Ytjkbecgenjhaaaa.cnPoint x0 ≤ 3145728 := by have := Go.Proofs.Ytjkbecgenjhaaaa.cnPoint_le x0; omega
  repeat (refine And.intro (by first | omega | (constructor <;> omega) | kernel_rfl) ?_)
  refine CallW.m (markPoint_fn x0 1 (by omega) (by omega)) ?_
  try simp (config := { maxSteps := 10000000 }) only [go_sem, reduceIte, reduceCtorEq, Nat.reduceEqDiff, Nat.reduceLT, Nat.reduceLeDiff, Nat.reduceAdd, Nat.reduceBEq, Nat.reduceMul, Int.reduceToNat, Int.reduceLE, Int.reduceLT, Int.reduceEq, Int.reduceNeg]
  have hc1 : Go.Proofs.Ytjkbecgenjhaaaa.cnPoint x1 ≤ 3145728 := by have := Go.Proofs.Ytjkbecgenjhaaaa.cnPoint_le x1; omega
  repeat (refine And.intro (by first | omega | (constructor <;> omega) | kernel_rfl) ?_)
  refine CallW.m (markPoint_fn x1 (1 + (Go.Proofs.Ytjkbecgenjhaaaa.cnPoint x0 : Nat)) (by omega) (by omega)) ?_
  try simp (config := { maxSteps := 10000000 }) only [go_sem, reduceIte, reduceCtorEq, Nat.reduceEqDiff, Nat.reduceLT, Nat.reduceLeDiff, Nat.reduceAdd, Nat.reduceBEq, Nat.reduceMul, Int.reduceToNat, Int.reduceLE, Int.reduceLT, Int.reduceEq, Int.reduceNeg]
  have hkf : decide ((1 : Int) + (Go.Proofs.Ytjkbecgenjhaaaa.cnPoint x0 : Int) + (Go.Proofs.Ytjkbecgenjhaaaa.cnPoint x1 : Int) < 0) = false := decide_eq_false (by omega)
  try simp (config := { maxSteps := 10000000 }) only [go_sem, reduceIte, reduceCtorEq, Nat.reduceEqDiff, Nat.reduceLT, Nat.reduceLeDiff, Nat.reduceAdd, Nat.reduceBEq, Nat.reduceMul, Int.reduceToNat, Int.reduceLE, Int.reduceLT, Int.reduceEq, Int.reduceNeg, hkf]
  repeat (refine And.intro (by first | omega | (constructor <;> omega) | kernel_rfl) ?_)
  refine CallW.mx (eqPoint_fn (subP x0 x1) (subP x0 x1)) ?_
  try simp (config := { maxSteps := 10000000 }) only [go_sem, reduceIte, reduceCtorEq, Nat.reduceEqDiff, Nat.reduceLT, Nat.reduceLeDiff, Nat.reduceAdd, Nat.reduceBEq, Nat.reduceMul, Int.reduceToNat, Int.reduceLE, Int.reduceLT, Int.reduceEq, Int.reduceNeg]
  have hcg := cn_subP x0 x1
  repeat (refine And.intro (by first | omega | (constructor <;> omega) | kernel_rfl) ?_)
  refine CallW.m (markPoint_fn (subP x0 x1) 1 (by omega) (by omega)) ?_
  try simp (config := { maxSteps := 10000000 }) only [go_sem, reduceIte, reduceCtorEq, Nat.reduceEqDiff, Nat.reduceLT, Nat.reduceLeDiff, Nat.reduceAdd, Nat.reduceBEq, Nat.reduceMul, Int.reduceToNat, Int.reduceLE, Int.reduceLT, Int.reduceEq, Int.reduceNeg]
  repeat (refine And.intro (by first | omega | (constructor <;> omega) | kernel_rfl) ?_)
  refine CallW.mx (heldPoint_fn (subP x0 x1) 1 (by omega) (by omega)) ?_
  try simp (config := { maxSteps := 10000000 }) only [go_sem, reduceIte, reduceCtorEq, Nat.reduceEqDiff, Nat.reduceLT, Nat.reduceLeDiff, Nat.reduceAdd, Nat.reduceBEq, Nat.reduceMul, Int.reduceToNat, Int.reduceLE, Int.reduceLT, Int.reduceEq, Int.reduceNeg]
  repeat (refine And.intro (by first | omega | (constructor <;> omega) | kernel_rfl) ?_)
  refine CondW_dec (fun hlt => absurd hlt (by omega)) (fun _ => ?_)
  try simp (config := { maxSteps := 10000000 }) only [go_sem, reduceIte, reduceCtorEq, Nat.reduceEqDiff, Nat.reduceLT, Nat.reduceLeDiff, Nat.reduceAdd, Nat.reduceBEq, Nat.reduceMul, Int.reduceToNat, Int.reduceLE, Int.reduceLT, Int.reduceEq, Int.reduceNeg]
  repeat (refine And.intro (by first | omega | (constructor <;> omega) | kernel_rfl) ?_)
  refine CallW.mk (toPoint_fn x0 hle0) ?_
  try simp (config := { maxSteps := 10000000 }) only [go_sem, reduceIte, reduceCtorEq, Nat.reduceEqDiff, Nat.reduceLT, Nat.reduceLeDiff, Nat.reduceAdd, Nat.reduceBEq, Nat.reduceMul, Int.reduceToNat, Int.reduceLE, Int.reduceLT, Int.reduceEq, Int.reduceNeg]
  repeat (refine And.intro (by first | omega | (constructor <;> omega) | kernel_rfl) ?_)
  refine CallW.mk (toPoint_fn x1 hle1) ?_
  try simp (config := { maxSteps := 10000000 }) only [go_sem, reduceIte, reduceCtorEq, Nat.reduceEqDiff, Nat.reduceLT, Nat.reduceLeDiff, Nat.reduceAdd, Nat.reduceBEq, Nat.reduceMul, Int.reduceToNat, Int.reduceLE, Int.reduceLT, Int.reduceEq, Int.reduceNeg]
  repeat (refine And.intro (by first | omega | (constructor <;> omega) | kernel_rfl) ?_)
  refine CallW.mx (implSubtractPoints_fn x0 x1) ?_
  try simp (config := { maxSteps := 10000000 }) only [go_sem, reduceIte, reduceCtorEq, Nat.reduceEqDiff, Nat.reduceLT, Nat.reduceLeDiff, Nat.reduceAdd, Nat.reduceBEq, Nat.reduceMul, Int.reduceToNat, Int.reduceLE, Int.reduceLT, Int.reduceEq, Int.reduceNeg]
  repeat (refine And.intro (by first | omega | (constructor <;> omega) | kernel_rfl) ?_)
  refine CallW.mx (eqPoint_fn (subP x0 x1) (subP x0 x1)) ?_
  try simp (config := { maxSteps := 10000000 }) only [go_sem, reduceIte, reduceCtorEq, Nat.reduceEqDiff, Nat.reduceLT, Nat.reduceLeDiff, Nat.reduceAdd, Nat.reduceBEq, Nat.reduceMul, Int.reduceToNat, Int.reduceLE, Int.reduceLT, Int.reduceEq, Int.reduceNeg]
  repeat (refine And.intro (by first | omega | (constructor <;> omega) | kernel_rfl) ?_)
  refine CallW.mx (heldPoint_fn (subP x0 x1) 1 (by omega) (by omega)) ?_
  try simp (config := { maxSteps := 10000000 }) only [go_sem, reduceIte, reduceCtorEq, Nat.reduceEqDiff, Nat.reduceLT, Nat.reduceLeDiff, Nat.reduceAdd, Nat.reduceBEq, Nat.reduceMul, Int.reduceToNat, Int.reduceLE, Int.reduceLT, Int.reduceEq, Int.reduceNeg]
  repeat (refine And.intro (by first | omega | (constructor <;> omega) | kernel_rfl) ?_)
  refine CondW_dec (fun hlt => absurd hlt (by omega)) (fun _ => ?_)
  try simp (config := { maxSteps := 10000000 }) only [go_sem, reduceIte, reduceCtorEq, Nat.reduceEqDiff, Nat.reduceLT, Nat.reduceLeDiff, Nat.reduceAdd, Nat.reduceBEq, Nat.reduceMul, Int.reduceToNat, Int.reduceLE, Int.reduceLT, Int.reduceEq, Int.reduceNeg]
end Go.Proofs.Ytjkbecgenjhaaaa.DW
namespace Go.Proofs.Ytjkbecgenjhaaaa
open Go.RowKit DW
theorem law_FnExactSubtractPoints (a0_0 a0_1 a0_2 a0_3 a0_4 a0_5 : Value) (x0 : DPoint) (a1_0 a1_1 a1_2 a1_3 a1_4 a1_5 : Value) (x1 : DPoint) (w : World) (hx0 : Has RPoint w [a0_0, a0_1, a0_2, a0_3, a0_4, a0_5] x0) (hx1 : Has RPoint w [a1_0, a1_1, a1_2, a1_3, a1_4, a1_5] x1) :
    Calls Try.prog 9 #[.agg #[a0_0, a0_1, a0_2, a0_3, a0_4, a0_5], .agg #[a1_0, a1_1, a1_2, a1_3, a1_4, a1_5]] w (Post fun r w' => r = .bool true ∧ Below w.heap.size w w') :=
  (DW.lawSubtractPoints_fn x0 x1).bool (vs := [.agg #[a0_0, a0_1, a0_2, a0_3, a0_4, a0_5], .agg #[a1_0, a1_1, a1_2, a1_3, a1_4, a1_5]]) ⟨Arg.agg (t := DW.tPoint) (cs := [a0_0, a0_1, a0_2, a0_3, a0_4, a0_5]) rfl hx0, Arg.agg (t := DW.tPoint) (cs := [a1_0, a1_1, a1_2, a1_3, a1_4, a1_5]) rfl hx1, trivial⟩
end Go.Proofs.Ytjkbecgenjhaaaa
