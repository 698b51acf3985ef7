/-
  Texts of a proof, one behind another: Dw16, Dw18, CtMove, LawMoveLength.
-/
import Derived.Test.YtjkbecgenjhaaaaKA4
set_option linter.all false
/-
  Lists of fractions: validity, comparison, the greatest one.
-/
namespace Go.Proofs.Ytjkbecgenjhaaaa.DW
open Go.RowKit
theorem indexFunc_rat_fn (F : FuncId) (p : DR → Bool) (hF : ∀ x : DR, Fn Try.prog F [⟨tRat, x⟩] false [⟨.bool, p x⟩]) (l : List DR) : Fn Try.prog 140 [⟨.slice tRat, l⟩, ⟨.cst (.fn F), ()⟩] false [⟨.int, ixf (t := tRat) p l⟩] := by
  refine fn_enter tabOK mixes Try.func140 rfl rfl _ Try.ntmps140 _ Try.results140 (by simp) fun hwf => ?_
  have hl : l.length ≤ 9223372036854775807 := (hwf ⟨.slice tRat, l⟩ (by simp)).1
  try simp (config := { maxSteps := 10000000 }) only [go_sem, reduceIte, reduceCtorEq, Nat.reduceEqDiff, Nat.reduceLT, Nat.reduceLeDiff, Nat.reduceAdd, Nat.reduceBEq, Nat.reduceMul, Int.reduceToNat, Int.reduceLE, Int.reduceLT, Int.reduceEq, Int.reduceNeg]
  refine LoopG.intro _ _ _ (fun i : Nat => ⟨[(0, .sl tRat l), (1, .sc (.func (.func F) #[] #[])), (7, .sc (.int .i64 l.length)), (8, .sc (.int .i64 i))], []⟩) (fun i => ∀ j < i, j < l.length → p (nth (t := tRat) l j) = false) (fun i => l.length - i) 0 ?_ (fun j h => by simp at h) ?_
  · refine Wk.mk [] ?_
    try simp (config := { maxSteps := 10000000 }) only [go_sem, reduceIte, reduceCtorEq, Nat.reduceEqDiff, Nat.reduceLT, Nat.reduceLeDiff, Nat.reduceAdd, Nat.reduceBEq, Nat.reduceMul, Int.reduceToNat, Int.reduceLE, Int.reduceLT, Int.reduceEq, Int.reduceNeg]
    try (and_intros <;> first | rfl | omega | exact ⟨_, rfl⟩)
  · rintro i h2
    try simp (config := { maxSteps := 10000000 }) only [go_sem, reduceIte, reduceCtorEq, Nat.reduceEqDiff, Nat.reduceLT, Nat.reduceLeDiff, Nat.reduceAdd, Nat.reduceBEq, Nat.reduceMul, Int.reduceToNat, Int.reduceLE, Int.reduceLT, Int.reduceEq, Int.reduceNeg]
    refine CondW_dec (fun h3 => ?_) (fun h3 => ?_)
    · try simp (config := { maxSteps := 10000000 }) only [go_sem, reduceIte, reduceCtorEq, Nat.reduceEqDiff, Nat.reduceLT, Nat.reduceLeDiff, Nat.reduceAdd, Nat.reduceBEq, Nat.reduceMul, Int.reduceToNat, Int.reduceLE, Int.reduceLT, Int.reduceEq, Int.reduceNeg]
      repeat (refine And.intro (by first | omega | (constructor <;> omega) | kernel_rfl) ?_)
      repeat (refine And.intro (by first | omega | (constructor <;> omega) | kernel_rfl) ?_)
      refine CallW.mk (hF (nth (t := tRat) l i)) ?_
      try simp (config := { maxSteps := 10000000 }) only [go_sem, reduceIte, reduceCtorEq, Nat.reduceEqDiff, Nat.reduceLT, Nat.reduceLeDiff, Nat.reduceAdd, Nat.reduceBEq, Nat.reduceMul, Int.reduceToNat, Int.reduceLE, Int.reduceLT, Int.reduceEq, Int.reduceNeg]
      refine CondW_b (fun h4 => ?_) (fun h4 => ?_)
      · try simp (config := { maxSteps := 10000000 }) only [go_sem, reduceIte, reduceCtorEq, Nat.reduceEqDiff, Nat.reduceLT, Nat.reduceLeDiff, Nat.reduceAdd, Nat.reduceBEq, Nat.reduceMul, Int.reduceToNat, Int.reduceLE, Int.reduceLT, Int.reduceEq, Int.reduceNeg]
        exact (ixf_at (by omega) h4 (fun j hj => h2 j hj (by omega))).symm
      · try simp (config := { maxSteps := 10000000 }) only [go_sem, reduceIte, reduceCtorEq, Nat.reduceEqDiff, Nat.reduceLT, Nat.reduceLeDiff, Nat.reduceAdd, Nat.reduceBEq, Nat.reduceMul, Int.reduceToNat, Int.reduceLE, Int.reduceLT, Int.reduceEq, Int.reduceNeg]
        repeat (refine And.intro (by first | omega | (constructor <;> omega) | kernel_rfl) ?_)
        refine LoopK.mk (i + 1) ?_ (fun j hj hl => ?_) (by omega)
        · refine Wk.mk [] ?_
          try simp (config := { maxSteps := 10000000 }) only [go_sem, reduceIte, reduceCtorEq, Nat.reduceEqDiff, Nat.reduceLT, Nat.reduceLeDiff, Nat.reduceAdd, Nat.reduceBEq, Nat.reduceMul, Int.reduceToNat, Int.reduceLE, Int.reduceLT, Int.reduceEq, Int.reduceNeg]
          try (and_intros <;> first | rfl | omega | exact ⟨_, rfl⟩)
        · by_cases hj2 : j < i
          · exact h2 j hj2 hl
          · rw [show j = i by omega]; exact h4
    · try simp (config := { maxSteps := 10000000 }) only [go_sem, reduceIte, reduceCtorEq, Nat.reduceEqDiff, Nat.reduceLT, Nat.reduceLeDiff, Nat.reduceAdd, Nat.reduceBEq, Nat.reduceMul, Int.reduceToNat, Int.reduceLE, Int.reduceLT, Int.reduceEq, Int.reduceNeg]
      exact (ixf_none fun j hj => h2 j (by omega) hj).symm
theorem containsFunc_rat_fn (F : FuncId) (p : DR → Bool) (hF : ∀ x : DR, Fn Try.prog F [⟨tRat, x⟩] false [⟨.bool, p x⟩]) (l : List DR) : Fn Try.prog 109 [⟨.slice tRat, l⟩, ⟨.cst (.fn F), ()⟩] false [⟨.bool, l.any p⟩] := by
  refine fn_enter tabOK mixes Try.func109 rfl rfl _ Try.ntmps109 _ Try.results109 (by simp) fun hwf => ?_
  try simp (config := { maxSteps := 10000000 }) only [go_sem, reduceIte, reduceCtorEq, Nat.reduceEqDiff, Nat.reduceLT, Nat.reduceLeDiff, Nat.reduceAdd, Nat.reduceBEq, Nat.reduceMul, Int.reduceToNat, Int.reduceLE, Int.reduceLT, Int.reduceEq, Int.reduceNeg]
  repeat (refine And.intro (by first | omega | (constructor <;> omega) | kernel_rfl) ?_)
  refine CallW.mk (indexFunc_rat_fn F p hF l) ?_
  try simp (config := { maxSteps := 10000000 }) only [go_sem, reduceIte, reduceCtorEq, Nat.reduceEqDiff, Nat.reduceLT, Nat.reduceLeDiff, Nat.reduceAdd, Nat.reduceBEq, Nat.reduceMul, Int.reduceToNat, Int.reduceLE, Int.reduceLT, Int.reduceEq, Int.reduceNeg]
  exact ixf_any
theorem allRatsC_fn (r : DR) : Fn Try.prog 110 [⟨tRat, r⟩] false [⟨.bool, !okR r⟩] := by
  refine fn_enter tabOK mixes Try.func110 rfl rfl _ Try.ntmps110 _ Try.results110 (by simp) fun hwf => ?_
  try simp (config := { maxSteps := 10000000 }) only [go_sem, reduceIte, reduceCtorEq, Nat.reduceEqDiff, Nat.reduceLT, Nat.reduceLeDiff, Nat.reduceAdd, Nat.reduceBEq, Nat.reduceMul, Int.reduceToNat, Int.reduceLE, Int.reduceLT, Int.reduceEq, Int.reduceNeg]
  repeat (refine And.intro (by first | omega | (constructor <;> omega) | kernel_rfl) ?_)
  refine CallW.mk (implRatOk_fn r) ?_
  try simp (config := { maxSteps := 10000000 }) only [go_sem, reduceIte, reduceCtorEq, Nat.reduceEqDiff, Nat.reduceLT, Nat.reduceLeDiff, Nat.reduceAdd, Nat.reduceBEq, Nat.reduceMul, Int.reduceToNat, Int.reduceLE, Int.reduceLT, Int.reduceEq, Int.reduceNeg]
theorem allRats_fn (l : List DR) : Fn Try.prog 77 [⟨.slice tRat, l⟩] false [⟨.bool, !(l.any fun r => !okR r)⟩] := by
  refine fn_enter tabOK mixes Try.func77 rfl rfl _ Try.ntmps77 _ Try.results77 (by simp) fun hwf => ?_
  try simp (config := { maxSteps := 10000000 }) only [go_sem, reduceIte, reduceCtorEq, Nat.reduceEqDiff, Nat.reduceLT, Nat.reduceLeDiff, Nat.reduceAdd, Nat.reduceBEq, Nat.reduceMul, Int.reduceToNat, Int.reduceLE, Int.reduceLT, Int.reduceEq, Int.reduceNeg]
  repeat (refine And.intro (by first | omega | (constructor <;> omega) | kernel_rfl) ?_)
  refine CallW.mk (containsFunc_rat_fn _ _ allRatsC_fn l) ?_
  try simp (config := { maxSteps := 10000000 }) only [go_sem, reduceIte, reduceCtorEq, Nat.reduceEqDiff, Nat.reduceLT, Nat.reduceLeDiff, Nat.reduceAdd, Nat.reduceBEq, Nat.reduceMul, Int.reduceToNat, Int.reduceLE, Int.reduceLT, Int.reduceEq, Int.reduceNeg]
theorem okR_oD {r : DR} (h : okR r = true) : oD (rdO r) = r := by
  obtain ⟨q, _, e1, e2⟩ := okR_t h
  rw [e2, e1]; rfl
theorem all_ok {l : List DR} (h : l.any (fun r => !okR r) = false) {i : Nat} (hi : i < l.length) : okR (nth (t := tRat) l i) = true := by
  rw [List.any_eq_false] at h
  rw [nth_lt hi]
  have := h _ (List.getElem_mem hi)
  simpa using this
theorem any_bad {l : List DR} {i : Nat} (hi : i < l.length) (h : okR (nth (t := tRat) l i) = false) : l.any (fun r => !okR r) = true := by
  rw [nth_lt hi] at h
  exact List.any_eq_true.2 ⟨_, List.getElem_mem hi, by rw [h]; rfl⟩
def fasterP (v w : List DR) : Prop := v.length = w.length ∧ v.any (fun r => !okR r) = false ∧ w.any (fun r => !okR r) = false ∧ ∀ i < v.length, 0 ≤ cmpO (rdO (nth (t := tRat) v i)) (rdO (nth (t := tRat) w i))
theorem implFaster_fn (v w : List DR) : Fn Try.prog 37 [⟨.slice tRat, v⟩, ⟨.slice tRat, w⟩] false [⟨.bool, bdec (fasterP v w)⟩] := by
  by_cases h1 : (v.length : Int) = w.length
  rotate_left
  · rw [bdec_f fun h => h1 (by rw [h.1])]
    refine fn_enter tabOK mixes Try.func37 rfl rfl _ Try.ntmps37 _ Try.results37 (by simp) fun hwf => ?_
    try simp (config := { maxSteps := 10000000 }) only [go_sem, reduceIte, reduceCtorEq, Nat.reduceEqDiff, Nat.reduceLT, Nat.reduceLeDiff, Nat.reduceAdd, Nat.reduceBEq, Nat.reduceMul, Int.reduceToNat, Int.reduceLE, Int.reduceLT, Int.reduceEq, Int.reduceNeg, h1]
  cases h2 : v.any (fun r => !okR r)
  rotate_left
  · rw [bdec_f fun h => by rw [h.2.1] at h2; cases h2]
    refine fn_enter tabOK mixes Try.func37 rfl rfl _ Try.ntmps37 _ Try.results37 (by simp) fun hwf => ?_
    try simp (config := { maxSteps := 10000000 }) only [go_sem, reduceIte, reduceCtorEq, Nat.reduceEqDiff, Nat.reduceLT, Nat.reduceLeDiff, Nat.reduceAdd, Nat.reduceBEq, Nat.reduceMul, Int.reduceToNat, Int.reduceLE, Int.reduceLT, Int.reduceEq, Int.reduceNeg, h1]
    repeat (refine And.intro (by first | omega | (constructor <;> omega) | kernel_rfl) ?_)
    refine CallW.mk (allRats_fn v) ?_
    try simp (config := { maxSteps := 10000000 }) only [go_sem, reduceIte, reduceCtorEq, Nat.reduceEqDiff, Nat.reduceLT, Nat.reduceLeDiff, Nat.reduceAdd, Nat.reduceBEq, Nat.reduceMul, Int.reduceToNat, Int.reduceLE, Int.reduceLT, Int.reduceEq, Int.reduceNeg]
    try simp (config := { maxSteps := 10000000 }) only [go_sem, reduceIte, reduceCtorEq, Nat.reduceEqDiff, Nat.reduceLT, Nat.reduceLeDiff, Nat.reduceAdd, Nat.reduceBEq, Nat.reduceMul, Int.reduceToNat, Int.reduceLE, Int.reduceLT, Int.reduceEq, Int.reduceNeg, h2]
  cases h3 : w.any (fun r => !okR r)
  rotate_left
  · rw [bdec_f fun h => by rw [h.2.2.1] at h3; cases h3]
    refine fn_enter tabOK mixes Try.func37 rfl rfl _ Try.ntmps37 _ Try.results37 (by simp) fun hwf => ?_
    try simp (config := { maxSteps := 10000000 }) only [go_sem, reduceIte, reduceCtorEq, Nat.reduceEqDiff, Nat.reduceLT, Nat.reduceLeDiff, Nat.reduceAdd, Nat.reduceBEq, Nat.reduceMul, Int.reduceToNat, Int.reduceLE, Int.reduceLT, Int.reduceEq, Int.reduceNeg, h1]
    repeat (refine And.intro (by first | omega | (constructor <;> omega) | kernel_rfl) ?_)
    refine CallW.mk (allRats_fn v) ?_
    try simp (config := { maxSteps := 10000000 }) only [go_sem, reduceIte, reduceCtorEq, Nat.reduceEqDiff, Nat.reduceLT, Nat.reduceLeDiff, Nat.reduceAdd, Nat.reduceBEq, Nat.reduceMul, Int.reduceToNat, Int.reduceLE, Int.reduceLT, Int.reduceEq, Int.reduceNeg]
    try simp (config := { maxSteps := 10000000 }) only [go_sem, reduceIte, reduceCtorEq, Nat.reduceEqDiff, Nat.reduceLT, Nat.reduceLeDiff, Nat.reduceAdd, Nat.reduceBEq, Nat.reduceMul, Int.reduceToNat, Int.reduceLE, Int.reduceLT, Int.reduceEq, Int.reduceNeg, h2]
    repeat (refine And.intro (by first | omega | (constructor <;> omega) | kernel_rfl) ?_)
    refine CallW.mk (allRats_fn w) ?_
    try simp (config := { maxSteps := 10000000 }) only [go_sem, reduceIte, reduceCtorEq, Nat.reduceEqDiff, Nat.reduceLT, Nat.reduceLeDiff, Nat.reduceAdd, Nat.reduceBEq, Nat.reduceMul, Int.reduceToNat, Int.reduceLE, Int.reduceLT, Int.reduceEq, Int.reduceNeg]
    try simp (config := { maxSteps := 10000000 }) only [go_sem, reduceIte, reduceCtorEq, Nat.reduceEqDiff, Nat.reduceLT, Nat.reduceLeDiff, Nat.reduceAdd, Nat.reduceBEq, Nat.reduceMul, Int.reduceToNat, Int.reduceLE, Int.reduceLT, Int.reduceEq, Int.reduceNeg, h3]
  refine fn_enter tabOK mixes Try.func37 rfl rfl _ Try.ntmps37 _ Try.results37 (by simp) fun hwf => ?_
  have hl : v.length ≤ 9223372036854775807 := (hwf ⟨.slice tRat, v⟩ (by simp)).1
  try simp (config := { maxSteps := 10000000 }) only [go_sem, reduceIte, reduceCtorEq, Nat.reduceEqDiff, Nat.reduceLT, Nat.reduceLeDiff, Nat.reduceAdd, Nat.reduceBEq, Nat.reduceMul, Int.reduceToNat, Int.reduceLE, Int.reduceLT, Int.reduceEq, Int.reduceNeg, h1]
  repeat (refine And.intro (by first | omega | (constructor <;> omega) | kernel_rfl) ?_)
  refine CallW.mk (allRats_fn v) ?_
  try simp (config := { maxSteps := 10000000 }) only [go_sem, reduceIte, reduceCtorEq, Nat.reduceEqDiff, Nat.reduceLT, Nat.reduceLeDiff, Nat.reduceAdd, Nat.reduceBEq, Nat.reduceMul, Int.reduceToNat, Int.reduceLE, Int.reduceLT, Int.reduceEq, Int.reduceNeg]
  try simp (config := { maxSteps := 10000000 }) only [go_sem, reduceIte, reduceCtorEq, Nat.reduceEqDiff, Nat.reduceLT, Nat.reduceLeDiff, Nat.reduceAdd, Nat.reduceBEq, Nat.reduceMul, Int.reduceToNat, Int.reduceLE, Int.reduceLT, Int.reduceEq, Int.reduceNeg, h2]
  repeat (refine And.intro (by first | omega | (constructor <;> omega) | kernel_rfl) ?_)
  refine CallW.mk (allRats_fn w) ?_
  try simp (config := { maxSteps := 10000000 }) only [go_sem, reduceIte, reduceCtorEq, Nat.reduceEqDiff, Nat.reduceLT, Nat.reduceLeDiff, Nat.reduceAdd, Nat.reduceBEq, Nat.reduceMul, Int.reduceToNat, Int.reduceLE, Int.reduceLT, Int.reduceEq, Int.reduceNeg]
  try simp (config := { maxSteps := 10000000 }) only [go_sem, reduceIte, reduceCtorEq, Nat.reduceEqDiff, Nat.reduceLT, Nat.reduceLeDiff, Nat.reduceAdd, Nat.reduceBEq, Nat.reduceMul, Int.reduceToNat, Int.reduceLE, Int.reduceLT, Int.reduceEq, Int.reduceNeg, h3]
  refine LoopG.intro _ _ _ (fun i : Nat => ⟨[(0, .sl tRat v), (1, .sl tRat w), (21, .sl tRat v), (22, .sc (.int .i64 w.length)), (23, .sc (.int .i64 i))], []⟩) (fun i => ∀ j < i, j < v.length → 0 ≤ cmpO (rdO (nth (t := tRat) v j)) (rdO (nth (t := tRat) w j))) (fun i => v.length - i) 0 ?_ (fun j h => by omega) ?_
  · refine Wk.mk [] ?_
    try simp (config := { maxSteps := 10000000 }) only [go_sem, reduceIte, reduceCtorEq, Nat.reduceEqDiff, Nat.reduceLT, Nat.reduceLeDiff, Nat.reduceAdd, Nat.reduceBEq, Nat.reduceMul, Int.reduceToNat, Int.reduceLE, Int.reduceLT, Int.reduceEq, Int.reduceNeg]
    try (and_intros <;> first | rfl | omega | exact ⟨_, rfl⟩)
  · rintro i g1
    try simp (config := { maxSteps := 10000000 }) only [go_sem, reduceIte, reduceCtorEq, Nat.reduceEqDiff, Nat.reduceLT, Nat.reduceLeDiff, Nat.reduceAdd, Nat.reduceBEq, Nat.reduceMul, Int.reduceToNat, Int.reduceLE, Int.reduceLT, Int.reduceEq, Int.reduceNeg]
    refine CondW_dec (fun hA => ?_) (fun hA => ?_)
    · have ev := okR_oD (all_ok h2 (i := i) (by omega))
      have ew := okR_oD (all_ok h3 (i := i) (by omega))
      have hc := ratCmp_fn (rdO (nth (t := tRat) v i)) (rdO (nth (t := tRat) w i)) (okO_rdO _) (okO_rdO _)
      rw [ev, ew] at hc
      try simp (config := { maxSteps := 10000000 }) only [go_sem, reduceIte, reduceCtorEq, Nat.reduceEqDiff, Nat.reduceLT, Nat.reduceLeDiff, Nat.reduceAdd, Nat.reduceBEq, Nat.reduceMul, Int.reduceToNat, Int.reduceLE, Int.reduceLT, Int.reduceEq, Int.reduceNeg]
      repeat (refine And.intro (by first | omega | (constructor <;> omega) | kernel_rfl) ?_)
      repeat (refine And.intro (by first | omega | (constructor <;> omega) | kernel_rfl) ?_)
      refine CallW.mk (hc) ?_
      try simp (config := { maxSteps := 10000000 }) only [go_sem, reduceIte, reduceCtorEq, Nat.reduceEqDiff, Nat.reduceLT, Nat.reduceLeDiff, Nat.reduceAdd, Nat.reduceBEq, Nat.reduceMul, Int.reduceToNat, Int.reduceLE, Int.reduceLT, Int.reduceEq, Int.reduceNeg]
      repeat (refine And.intro (by first | omega | (constructor <;> omega) | kernel_rfl) ?_)
      refine CondW_dec (fun hB => ?_) (fun hB => ?_)
      · rw [bdec_f fun h => by have := h.2.2.2 i (by omega); omega]
        try simp (config := { maxSteps := 10000000 }) only [go_sem, reduceIte, reduceCtorEq, Nat.reduceEqDiff, Nat.reduceLT, Nat.reduceLeDiff, Nat.reduceAdd, Nat.reduceBEq, Nat.reduceMul, Int.reduceToNat, Int.reduceLE, Int.reduceLT, Int.reduceEq, Int.reduceNeg]
      · try simp (config := { maxSteps := 10000000 }) only [go_sem, reduceIte, reduceCtorEq, Nat.reduceEqDiff, Nat.reduceLT, Nat.reduceLeDiff, Nat.reduceAdd, Nat.reduceBEq, Nat.reduceMul, Int.reduceToNat, Int.reduceLE, Int.reduceLT, Int.reduceEq, Int.reduceNeg]
        repeat (refine And.intro (by first | omega | (constructor <;> omega) | kernel_rfl) ?_)
        refine LoopK.mk (i + 1) ?_ (fun j hj hjl => ?_) (by omega)
        · refine Wk.mk [] ?_
          try simp (config := { maxSteps := 10000000 }) only [go_sem, reduceIte, reduceCtorEq, Nat.reduceEqDiff, Nat.reduceLT, Nat.reduceLeDiff, Nat.reduceAdd, Nat.reduceBEq, Nat.reduceMul, Int.reduceToNat, Int.reduceLE, Int.reduceLT, Int.reduceEq, Int.reduceNeg]
          try (and_intros <;> first | rfl | omega | exact ⟨_, rfl⟩)
        · by_cases hji : j < i
          · exact g1 j hji hjl
          · rw [show j = i by omega]; omega
    · rw [bdec_t ⟨by omega, h2, h3, fun i hi => g1 i (by omega) hi⟩]
      try simp (config := { maxSteps := 10000000 }) only [go_sem, reduceIte, reduceCtorEq, Nat.reduceEqDiff, Nat.reduceLT, Nat.reduceLeDiff, Nat.reduceAdd, Nat.reduceBEq, Nat.reduceMul, Int.reduceToNat, Int.reduceLE, Int.reduceLT, Int.reduceEq, Int.reduceNeg]
theorem specFaster_fn (v w : List DR) : Fn Try.prog 35 [⟨.slice tRat, v⟩, ⟨.slice tRat, w⟩] false [⟨.bool, bdec (fasterP v w)⟩] := by
  by_cases h1 : (v.length : Int) = w.length
  rotate_left
  · rw [bdec_f fun h => h1 (by rw [h.1])]
    refine fn_enter tabOK mixes Try.func35 rfl rfl _ Try.ntmps35 _ Try.results35 (by simp) fun hwf => ?_
    try simp (config := { maxSteps := 10000000 }) only [go_sem, reduceIte, reduceCtorEq, Nat.reduceEqDiff, Nat.reduceLT, Nat.reduceLeDiff, Nat.reduceAdd, Nat.reduceBEq, Nat.reduceMul, Int.reduceToNat, Int.reduceLE, Int.reduceLT, Int.reduceEq, Int.reduceNeg, h1]
  refine fn_enter tabOK mixes Try.func35 rfl rfl _ Try.ntmps35 _ Try.results35 (by simp) fun hwf => ?_
  have hl : v.length ≤ 9223372036854775807 := (hwf ⟨.slice tRat, v⟩ (by simp)).1
  try simp (config := { maxSteps := 10000000 }) only [go_sem, reduceIte, reduceCtorEq, Nat.reduceEqDiff, Nat.reduceLT, Nat.reduceLeDiff, Nat.reduceAdd, Nat.reduceBEq, Nat.reduceMul, Int.reduceToNat, Int.reduceLE, Int.reduceLT, Int.reduceEq, Int.reduceNeg, h1]
  refine LoopG.intro _ _ _ (fun i : Nat => ⟨[(0, .sl tRat v), (1, .sl tRat w), (12, .sl tRat v), (13, .sc (.int .i64 w.length)), (14, .sc (.int .i64 i))], []⟩) (fun i => ∀ j < i, j < v.length → okR (nth (t := tRat) v j) = true ∧ okR (nth (t := tRat) w j) = true ∧ 0 ≤ cmpO (rdO (nth (t := tRat) v j)) (rdO (nth (t := tRat) w j))) (fun i => v.length - i) 0 ?_ (fun j h => by omega) ?_
  · refine Wk.mk [] ?_
    try simp (config := { maxSteps := 10000000 }) only [go_sem, reduceIte, reduceCtorEq, Nat.reduceEqDiff, Nat.reduceLT, Nat.reduceLeDiff, Nat.reduceAdd, Nat.reduceBEq, Nat.reduceMul, Int.reduceToNat, Int.reduceLE, Int.reduceLT, Int.reduceEq, Int.reduceNeg]
    try (and_intros <;> first | rfl | omega | exact ⟨_, rfl⟩)
  · rintro i g1
    try simp (config := { maxSteps := 10000000 }) only [go_sem, reduceIte, reduceCtorEq, Nat.reduceEqDiff, Nat.reduceLT, Nat.reduceLeDiff, Nat.reduceAdd, Nat.reduceBEq, Nat.reduceMul, Int.reduceToNat, Int.reduceLE, Int.reduceLT, Int.reduceEq, Int.reduceNeg]
    refine CondW_dec (fun hA => ?_) (fun hA => ?_)
    · cases h2 : okR (nth (t := tRat) v i)
      · rw [bdec_f fun h => by have hh := h.2.1; rw [any_bad (by omega) h2] at hh; cases hh]
        try simp (config := { maxSteps := 10000000 }) only [go_sem, reduceIte, reduceCtorEq, Nat.reduceEqDiff, Nat.reduceLT, Nat.reduceLeDiff, Nat.reduceAdd, Nat.reduceBEq, Nat.reduceMul, Int.reduceToNat, Int.reduceLE, Int.reduceLT, Int.reduceEq, Int.reduceNeg]
        repeat (refine And.intro (by first | omega | (constructor <;> omega) | kernel_rfl) ?_)
        repeat (refine And.intro (by first | omega | (constructor <;> omega) | kernel_rfl) ?_)
        refine CallW.mk (specRatOk_fn (nth (t := tRat) v i)) ?_
        try simp (config := { maxSteps := 10000000 }) only [go_sem, reduceIte, reduceCtorEq, Nat.reduceEqDiff, Nat.reduceLT, Nat.reduceLeDiff, Nat.reduceAdd, Nat.reduceBEq, Nat.reduceMul, Int.reduceToNat, Int.reduceLE, Int.reduceLT, Int.reduceEq, Int.reduceNeg]
        try simp (config := { maxSteps := 10000000 }) only [go_sem, reduceIte, reduceCtorEq, Nat.reduceEqDiff, Nat.reduceLT, Nat.reduceLeDiff, Nat.reduceAdd, Nat.reduceBEq, Nat.reduceMul, Int.reduceToNat, Int.reduceLE, Int.reduceLT, Int.reduceEq, Int.reduceNeg, h2]
        all_goals repeat (refine And.intro (by first | omega | (constructor <;> omega) | kernel_rfl) ?_)
        all_goals first | kernel_rfl | omega | rfl
      cases h3 : okR (nth (t := tRat) w i)
      · rw [bdec_f fun h => by have hh := h.2.2.1; rw [any_bad (l := w) (by omega) h3] at hh; cases hh]
        try simp (config := { maxSteps := 10000000 }) only [go_sem, reduceIte, reduceCtorEq, Nat.reduceEqDiff, Nat.reduceLT, Nat.reduceLeDiff, Nat.reduceAdd, Nat.reduceBEq, Nat.reduceMul, Int.reduceToNat, Int.reduceLE, Int.reduceLT, Int.reduceEq, Int.reduceNeg]
        repeat (refine And.intro (by first | omega | (constructor <;> omega) | kernel_rfl) ?_)
        repeat (refine And.intro (by first | omega | (constructor <;> omega) | kernel_rfl) ?_)
        refine CallW.mk (specRatOk_fn (nth (t := tRat) v i)) ?_
        try simp (config := { maxSteps := 10000000 }) only [go_sem, reduceIte, reduceCtorEq, Nat.reduceEqDiff, Nat.reduceLT, Nat.reduceLeDiff, Nat.reduceAdd, Nat.reduceBEq, Nat.reduceMul, Int.reduceToNat, Int.reduceLE, Int.reduceLT, Int.reduceEq, Int.reduceNeg]
        try simp (config := { maxSteps := 10000000 }) only [go_sem, reduceIte, reduceCtorEq, Nat.reduceEqDiff, Nat.reduceLT, Nat.reduceLeDiff, Nat.reduceAdd, Nat.reduceBEq, Nat.reduceMul, Int.reduceToNat, Int.reduceLE, Int.reduceLT, Int.reduceEq, Int.reduceNeg, h2]
        repeat (refine And.intro (by first | omega | (constructor <;> omega) | kernel_rfl) ?_)
        repeat (refine And.intro (by first | omega | (constructor <;> omega) | kernel_rfl) ?_)
        refine CallW.mk (specRatOk_fn (nth (t := tRat) w i)) ?_
        try simp (config := { maxSteps := 10000000 }) only [go_sem, reduceIte, reduceCtorEq, Nat.reduceEqDiff, Nat.reduceLT, Nat.reduceLeDiff, Nat.reduceAdd, Nat.reduceBEq, Nat.reduceMul, Int.reduceToNat, Int.reduceLE, Int.reduceLT, Int.reduceEq, Int.reduceNeg]
        try simp (config := { maxSteps := 10000000 }) only [go_sem, reduceIte, reduceCtorEq, Nat.reduceEqDiff, Nat.reduceLT, Nat.reduceLeDiff, Nat.reduceAdd, Nat.reduceBEq, Nat.reduceMul, Int.reduceToNat, Int.reduceLE, Int.reduceLT, Int.reduceEq, Int.reduceNeg, h3]
        all_goals repeat (refine And.intro (by first | omega | (constructor <;> omega) | kernel_rfl) ?_)
        all_goals first | kernel_rfl | omega | rfl
      try simp (config := { maxSteps := 10000000 }) only [go_sem, reduceIte, reduceCtorEq, Nat.reduceEqDiff, Nat.reduceLT, Nat.reduceLeDiff, Nat.reduceAdd, Nat.reduceBEq, Nat.reduceMul, Int.reduceToNat, Int.reduceLE, Int.reduceLT, Int.reduceEq, Int.reduceNeg]
      repeat (refine And.intro (by first | omega | (constructor <;> omega) | kernel_rfl) ?_)
      repeat (refine And.intro (by first | omega | (constructor <;> omega) | kernel_rfl) ?_)
      refine CallW.mk (specRatOk_fn (nth (t := tRat) v i)) ?_
      try simp (config := { maxSteps := 10000000 }) only [go_sem, reduceIte, reduceCtorEq, Nat.reduceEqDiff, Nat.reduceLT, Nat.reduceLeDiff, Nat.reduceAdd, Nat.reduceBEq, Nat.reduceMul, Int.reduceToNat, Int.reduceLE, Int.reduceLT, Int.reduceEq, Int.reduceNeg]
      try simp (config := { maxSteps := 10000000 }) only [go_sem, reduceIte, reduceCtorEq, Nat.reduceEqDiff, Nat.reduceLT, Nat.reduceLeDiff, Nat.reduceAdd, Nat.reduceBEq, Nat.reduceMul, Int.reduceToNat, Int.reduceLE, Int.reduceLT, Int.reduceEq, Int.reduceNeg, h2]
      repeat (refine And.intro (by first | omega | (constructor <;> omega) | kernel_rfl) ?_)
      repeat (refine And.intro (by first | omega | (constructor <;> omega) | kernel_rfl) ?_)
      refine CallW.mk (specRatOk_fn (nth (t := tRat) w i)) ?_
      try simp (config := { maxSteps := 10000000 }) only [go_sem, reduceIte, reduceCtorEq, Nat.reduceEqDiff, Nat.reduceLT, Nat.reduceLeDiff, Nat.reduceAdd, Nat.reduceBEq, Nat.reduceMul, Int.reduceToNat, Int.reduceLE, Int.reduceLT, Int.reduceEq, Int.reduceNeg]
      try simp (config := { maxSteps := 10000000 }) only [go_sem, reduceIte, reduceCtorEq, Nat.reduceEqDiff, Nat.reduceLT, Nat.reduceLeDiff, Nat.reduceAdd, Nat.reduceBEq, Nat.reduceMul, Int.reduceToNat, Int.reduceLE, Int.reduceLT, Int.reduceEq, Int.reduceNeg, h3]
      repeat (refine And.intro (by first | omega | (constructor <;> omega) | kernel_rfl) ?_)
      repeat (refine And.intro (by first | omega | (constructor <;> omega) | kernel_rfl) ?_)
      refine CallW.mk (specRatCmp_fn (nth (t := tRat) v i) (nth (t := tRat) w i)) ?_
      try simp (config := { maxSteps := 10000000 }) only [go_sem, reduceIte, reduceCtorEq, Nat.reduceEqDiff, Nat.reduceLT, Nat.reduceLeDiff, Nat.reduceAdd, Nat.reduceBEq, Nat.reduceMul, Int.reduceToNat, Int.reduceLE, Int.reduceLT, Int.reduceEq, Int.reduceNeg]
      repeat (refine And.intro (by first | omega | (constructor <;> omega) | kernel_rfl) ?_)
      refine CondW_dec (fun hB => ?_) (fun hB => ?_)
      · rw [bdec_f fun h => by have := h.2.2.2 i (by omega); omega]
        try simp (config := { maxSteps := 10000000 }) only [go_sem, reduceIte, reduceCtorEq, Nat.reduceEqDiff, Nat.reduceLT, Nat.reduceLeDiff, Nat.reduceAdd, Nat.reduceBEq, Nat.reduceMul, Int.reduceToNat, Int.reduceLE, Int.reduceLT, Int.reduceEq, Int.reduceNeg]
      · try simp (config := { maxSteps := 10000000 }) only [go_sem, reduceIte, reduceCtorEq, Nat.reduceEqDiff, Nat.reduceLT, Nat.reduceLeDiff, Nat.reduceAdd, Nat.reduceBEq, Nat.reduceMul, Int.reduceToNat, Int.reduceLE, Int.reduceLT, Int.reduceEq, Int.reduceNeg]
        repeat (refine And.intro (by first | omega | (constructor <;> omega) | kernel_rfl) ?_)
        refine LoopK.mk (i + 1) ?_ (fun j hj hjl => ?_) (by omega)
        · refine Wk.mk [] ?_
          try simp (config := { maxSteps := 10000000 }) only [go_sem, reduceIte, reduceCtorEq, Nat.reduceEqDiff, Nat.reduceLT, Nat.reduceLeDiff, Nat.reduceAdd, Nat.reduceBEq, Nat.reduceMul, Int.reduceToNat, Int.reduceLE, Int.reduceLT, Int.reduceEq, Int.reduceNeg]
          try (and_intros <;> first | rfl | omega | exact ⟨_, rfl⟩)
        · by_cases hji : j < i
          · exact g1 j hji hjl
          · rw [show j = i by omega]; exact ⟨h2, h3, by omega⟩
    · have all : ∀ (l : List DR), (∀ j < l.length, okR (nth (t := tRat) l j) = true) → l.any (fun r => !okR r) = false := by
        intro l hl
        rw [List.any_eq_false]
        intro r hr
        obtain ⟨j, hj, rfl⟩ := List.getElem_of_mem hr
        have := hl j hj
        rw [nth_lt hj] at this
        simp [this]
      rw [bdec_t ⟨by omega, all v fun j hj => (g1 j (by omega) hj).1, all w fun j hj => (g1 j (by omega) (by omega)).2.1, fun j hj => (g1 j (by omega) hj).2.2⟩]
      try simp (config := { maxSteps := 10000000 }) only [go_sem, reduceIte, reduceCtorEq, Nat.reduceEqDiff, Nat.reduceLT, Nat.reduceLeDiff, Nat.reduceAdd, Nat.reduceBEq, Nat.reduceMul, Int.reduceToNat, Int.reduceLE, Int.reduceLT, Int.reduceEq, Int.reduceNeg]
end Go.Proofs.Ytjkbecgenjhaaaa.DW

/-
  Points: validity; the length of a move.
-/
namespace Go.Proofs.Ytjkbecgenjhaaaa.DW
open Go.RowKit
attribute [go_sem] Prod.eta
abbrev DP : Type := DR × DR
noncomputable def okPt (p : DP) : Bool := okR p.1 && okR p.2
theorem implIsValidPoint_fn (p : DP) : Fn Try.prog 121 [⟨tPoint, p⟩] false [⟨.bool, okPt p⟩] := by
  cases h : okR p.1
  · refine fn_enter tabOK mixes Try.func121 rfl rfl _ Try.ntmps121 _ Try.results121 (by simp) fun hwf => ?_
    try simp (config := { maxSteps := 10000000 }) only [go_sem, reduceIte, reduceCtorEq, Nat.reduceEqDiff, Nat.reduceLT, Nat.reduceLeDiff, Nat.reduceAdd, Nat.reduceBEq, Nat.reduceMul, Int.reduceToNat, Int.reduceLE, Int.reduceLT, Int.reduceEq, Int.reduceNeg]
    repeat (refine And.intro (by first | omega | (constructor <;> omega) | kernel_rfl) ?_)
    refine CallW.mk (implRatOk_fn p.1) ?_
    try simp (config := { maxSteps := 10000000 }) only [go_sem, reduceIte, reduceCtorEq, Nat.reduceEqDiff, Nat.reduceLT, Nat.reduceLeDiff, Nat.reduceAdd, Nat.reduceBEq, Nat.reduceMul, Int.reduceToNat, Int.reduceLE, Int.reduceLT, Int.reduceEq, Int.reduceNeg]
    try simp (config := { maxSteps := 10000000 }) only [go_sem, reduceIte, reduceCtorEq, Nat.reduceEqDiff, Nat.reduceLT, Nat.reduceLeDiff, Nat.reduceAdd, Nat.reduceBEq, Nat.reduceMul, Int.reduceToNat, Int.reduceLE, Int.reduceLT, Int.reduceEq, Int.reduceNeg, h]
    repeat (refine And.intro (by first | omega | (constructor <;> omega) | kernel_rfl) ?_)
    simp [okPt, h]
  · refine fn_enter tabOK mixes Try.func121 rfl rfl _ Try.ntmps121 _ Try.results121 (by simp) fun hwf => ?_
    try simp (config := { maxSteps := 10000000 }) only [go_sem, reduceIte, reduceCtorEq, Nat.reduceEqDiff, Nat.reduceLT, Nat.reduceLeDiff, Nat.reduceAdd, Nat.reduceBEq, Nat.reduceMul, Int.reduceToNat, Int.reduceLE, Int.reduceLT, Int.reduceEq, Int.reduceNeg]
    repeat (refine And.intro (by first | omega | (constructor <;> omega) | kernel_rfl) ?_)
    refine CallW.mk (implRatOk_fn p.1) ?_
    try simp (config := { maxSteps := 10000000 }) only [go_sem, reduceIte, reduceCtorEq, Nat.reduceEqDiff, Nat.reduceLT, Nat.reduceLeDiff, Nat.reduceAdd, Nat.reduceBEq, Nat.reduceMul, Int.reduceToNat, Int.reduceLE, Int.reduceLT, Int.reduceEq, Int.reduceNeg]
    try simp (config := { maxSteps := 10000000 }) only [go_sem, reduceIte, reduceCtorEq, Nat.reduceEqDiff, Nat.reduceLT, Nat.reduceLeDiff, Nat.reduceAdd, Nat.reduceBEq, Nat.reduceMul, Int.reduceToNat, Int.reduceLE, Int.reduceLT, Int.reduceEq, Int.reduceNeg, h]
    repeat (refine And.intro (by first | omega | (constructor <;> omega) | kernel_rfl) ?_)
    refine CallW.mk (implRatOk_fn p.2) ?_
    try simp (config := { maxSteps := 10000000 }) only [go_sem, reduceIte, reduceCtorEq, Nat.reduceEqDiff, Nat.reduceLT, Nat.reduceLeDiff, Nat.reduceAdd, Nat.reduceBEq, Nat.reduceMul, Int.reduceToNat, Int.reduceLE, Int.reduceLT, Int.reduceEq, Int.reduceNeg]
    repeat (refine And.intro (by first | omega | (constructor <;> omega) | kernel_rfl) ?_)
    simp [okPt, h]
theorem specIsValidPoint_fn (p : DP) : Fn Try.prog 116 [⟨tPoint, p⟩] false [⟨.bool, okPt p⟩] := by
  cases h : okR p.1
  · refine fn_enter tabOK mixes Try.func116 rfl rfl _ Try.ntmps116 _ Try.results116 (by simp) fun hwf => ?_
    try simp (config := { maxSteps := 10000000 }) only [go_sem, reduceIte, reduceCtorEq, Nat.reduceEqDiff, Nat.reduceLT, Nat.reduceLeDiff, Nat.reduceAdd, Nat.reduceBEq, Nat.reduceMul, Int.reduceToNat, Int.reduceLE, Int.reduceLT, Int.reduceEq, Int.reduceNeg]
    repeat (refine And.intro (by first | omega | (constructor <;> omega) | kernel_rfl) ?_)
    refine CallW.mk (specRatOk_fn p.1) ?_
    try simp (config := { maxSteps := 10000000 }) only [go_sem, reduceIte, reduceCtorEq, Nat.reduceEqDiff, Nat.reduceLT, Nat.reduceLeDiff, Nat.reduceAdd, Nat.reduceBEq, Nat.reduceMul, Int.reduceToNat, Int.reduceLE, Int.reduceLT, Int.reduceEq, Int.reduceNeg]
    try simp (config := { maxSteps := 10000000 }) only [go_sem, reduceIte, reduceCtorEq, Nat.reduceEqDiff, Nat.reduceLT, Nat.reduceLeDiff, Nat.reduceAdd, Nat.reduceBEq, Nat.reduceMul, Int.reduceToNat, Int.reduceLE, Int.reduceLT, Int.reduceEq, Int.reduceNeg, h]
    repeat (refine And.intro (by first | omega | (constructor <;> omega) | kernel_rfl) ?_)
    simp [okPt, h]
  · refine fn_enter tabOK mixes Try.func116 rfl rfl _ Try.ntmps116 _ Try.results116 (by simp) fun hwf => ?_
    try simp (config := { maxSteps := 10000000 }) only [go_sem, reduceIte, reduceCtorEq, Nat.reduceEqDiff, Nat.reduceLT, Nat.reduceLeDiff, Nat.reduceAdd, Nat.reduceBEq, Nat.reduceMul, Int.reduceToNat, Int.reduceLE, Int.reduceLT, Int.reduceEq, Int.reduceNeg]
    repeat (refine And.intro (by first | omega | (constructor <;> omega) | kernel_rfl) ?_)
    refine CallW.mk (specRatOk_fn p.1) ?_
    try simp (config := { maxSteps := 10000000 }) only [go_sem, reduceIte, reduceCtorEq, Nat.reduceEqDiff, Nat.reduceLT, Nat.reduceLeDiff, Nat.reduceAdd, Nat.reduceBEq, Nat.reduceMul, Int.reduceToNat, Int.reduceLE, Int.reduceLT, Int.reduceEq, Int.reduceNeg]
    try simp (config := { maxSteps := 10000000 }) only [go_sem, reduceIte, reduceCtorEq, Nat.reduceEqDiff, Nat.reduceLT, Nat.reduceLeDiff, Nat.reduceAdd, Nat.reduceBEq, Nat.reduceMul, Int.reduceToNat, Int.reduceLE, Int.reduceLT, Int.reduceEq, Int.reduceNeg, h]
    repeat (refine And.intro (by first | omega | (constructor <;> omega) | kernel_rfl) ?_)
    refine CallW.mk (specRatOk_fn p.2) ?_
    try simp (config := { maxSteps := 10000000 }) only [go_sem, reduceIte, reduceCtorEq, Nat.reduceEqDiff, Nat.reduceLT, Nat.reduceLeDiff, Nat.reduceAdd, Nat.reduceBEq, Nat.reduceMul, Int.reduceToNat, Int.reduceLE, Int.reduceLT, Int.reduceEq, Int.reduceNeg]
    repeat (refine And.intro (by first | omega | (constructor <;> omega) | kernel_rfl) ?_)
    simp [okPt, h]
theorem indexFunc_pt_fn (F : FuncId) (p : DP → Bool) (hF : ∀ x : DP, Fn Try.prog F [⟨tPoint, x⟩] false [⟨.bool, p x⟩]) (l : List DP) : Fn Try.prog 150 [⟨.slice tPoint, l⟩, ⟨.cst (.fn F), ()⟩] false [⟨.int, ixf (t := tPoint) p l⟩] := by
  refine fn_enter tabOK mixes Try.func150 rfl rfl _ Try.ntmps150 _ Try.results150 (by simp) fun hwf => ?_
  have hl : l.length ≤ 9223372036854775807 := (hwf ⟨.slice tPoint, l⟩ (by simp)).1
  try simp (config := { maxSteps := 10000000 }) only [go_sem, reduceIte, reduceCtorEq, Nat.reduceEqDiff, Nat.reduceLT, Nat.reduceLeDiff, Nat.reduceAdd, Nat.reduceBEq, Nat.reduceMul, Int.reduceToNat, Int.reduceLE, Int.reduceLT, Int.reduceEq, Int.reduceNeg]
  refine LoopG.intro _ _ _ (fun i : Nat => ⟨[(0, .sl tPoint l), (1, .sc (.func (.func F) #[] #[])), (7, .sc (.int .i64 l.length)), (8, .sc (.int .i64 i))], []⟩) (fun i => ∀ j < i, j < l.length → p (nth (t := tPoint) l j) = false) (fun i => l.length - i) 0 ?_ (fun j h => by simp at h) ?_
  · refine Wk.mk [] ?_
    try simp (config := { maxSteps := 10000000 }) only [go_sem, reduceIte, reduceCtorEq, Nat.reduceEqDiff, Nat.reduceLT, Nat.reduceLeDiff, Nat.reduceAdd, Nat.reduceBEq, Nat.reduceMul, Int.reduceToNat, Int.reduceLE, Int.reduceLT, Int.reduceEq, Int.reduceNeg]
    try (and_intros <;> first | rfl | omega | exact ⟨_, rfl⟩)
  · rintro i h2
    try simp (config := { maxSteps := 10000000 }) only [go_sem, reduceIte, reduceCtorEq, Nat.reduceEqDiff, Nat.reduceLT, Nat.reduceLeDiff, Nat.reduceAdd, Nat.reduceBEq, Nat.reduceMul, Int.reduceToNat, Int.reduceLE, Int.reduceLT, Int.reduceEq, Int.reduceNeg]
    refine CondW_dec (fun h3 => ?_) (fun h3 => ?_)
    · try simp (config := { maxSteps := 10000000 }) only [go_sem, reduceIte, reduceCtorEq, Nat.reduceEqDiff, Nat.reduceLT, Nat.reduceLeDiff, Nat.reduceAdd, Nat.reduceBEq, Nat.reduceMul, Int.reduceToNat, Int.reduceLE, Int.reduceLT, Int.reduceEq, Int.reduceNeg]
      repeat (refine And.intro (by first | omega | (constructor <;> omega) | kernel_rfl) ?_)
      repeat (refine And.intro (by first | omega | (constructor <;> omega) | kernel_rfl) ?_)
      refine CallW.mk (hF (nth (t := tPoint) l i)) ?_
      try simp (config := { maxSteps := 10000000 }) only [go_sem, reduceIte, reduceCtorEq, Nat.reduceEqDiff, Nat.reduceLT, Nat.reduceLeDiff, Nat.reduceAdd, Nat.reduceBEq, Nat.reduceMul, Int.reduceToNat, Int.reduceLE, Int.reduceLT, Int.reduceEq, Int.reduceNeg]
      refine CondW_b (fun h4 => ?_) (fun h4 => ?_)
      · try simp (config := { maxSteps := 10000000 }) only [go_sem, reduceIte, reduceCtorEq, Nat.reduceEqDiff, Nat.reduceLT, Nat.reduceLeDiff, Nat.reduceAdd, Nat.reduceBEq, Nat.reduceMul, Int.reduceToNat, Int.reduceLE, Int.reduceLT, Int.reduceEq, Int.reduceNeg]
        exact (ixf_at (by omega) h4 (fun j hj => h2 j hj (by omega))).symm
      · try simp (config := { maxSteps := 10000000 }) only [go_sem, reduceIte, reduceCtorEq, Nat.reduceEqDiff, Nat.reduceLT, Nat.reduceLeDiff, Nat.reduceAdd, Nat.reduceBEq, Nat.reduceMul, Int.reduceToNat, Int.reduceLE, Int.reduceLT, Int.reduceEq, Int.reduceNeg]
        repeat (refine And.intro (by first | omega | (constructor <;> omega) | kernel_rfl) ?_)
        refine LoopK.mk (i + 1) ?_ (fun j hj hl => ?_) (by omega)
        · refine Wk.mk [] ?_
          try simp (config := { maxSteps := 10000000 }) only [go_sem, reduceIte, reduceCtorEq, Nat.reduceEqDiff, Nat.reduceLT, Nat.reduceLeDiff, Nat.reduceAdd, Nat.reduceBEq, Nat.reduceMul, Int.reduceToNat, Int.reduceLE, Int.reduceLT, Int.reduceEq, Int.reduceNeg]
          try (and_intros <;> first | rfl | omega | exact ⟨_, rfl⟩)
        · by_cases hj2 : j < i
          · exact h2 j hj2 hl
          · rw [show j = i by omega]; exact h4
    · try simp (config := { maxSteps := 10000000 }) only [go_sem, reduceIte, reduceCtorEq, Nat.reduceEqDiff, Nat.reduceLT, Nat.reduceLeDiff, Nat.reduceAdd, Nat.reduceBEq, Nat.reduceMul, Int.reduceToNat, Int.reduceLE, Int.reduceLT, Int.reduceEq, Int.reduceNeg]
      exact (ixf_none fun j hj => h2 j (by omega) hj).symm
theorem containsFunc_pt_fn (F : FuncId) (p : DP → Bool) (hF : ∀ x : DP, Fn Try.prog F [⟨tPoint, x⟩] false [⟨.bool, p x⟩]) (l : List DP) : Fn Try.prog 119 [⟨.slice tPoint, l⟩, ⟨.cst (.fn F), ()⟩] false [⟨.bool, l.any p⟩] := by
  refine fn_enter tabOK mixes Try.func119 rfl rfl _ Try.ntmps119 _ Try.results119 (by simp) fun hwf => ?_
  try simp (config := { maxSteps := 10000000 }) only [go_sem, reduceIte, reduceCtorEq, Nat.reduceEqDiff, Nat.reduceLT, Nat.reduceLeDiff, Nat.reduceAdd, Nat.reduceBEq, Nat.reduceMul, Int.reduceToNat, Int.reduceLE, Int.reduceLT, Int.reduceEq, Int.reduceNeg]
  repeat (refine And.intro (by first | omega | (constructor <;> omega) | kernel_rfl) ?_)
  refine CallW.mk (indexFunc_pt_fn F p hF l) ?_
  try simp (config := { maxSteps := 10000000 }) only [go_sem, reduceIte, reduceCtorEq, Nat.reduceEqDiff, Nat.reduceLT, Nat.reduceLeDiff, Nat.reduceAdd, Nat.reduceBEq, Nat.reduceMul, Int.reduceToNat, Int.reduceLE, Int.reduceLT, Int.reduceEq, Int.reduceNeg]
  exact ixf_any
theorem arePointsC_fn (p : DP) : Fn Try.prog 120 [⟨tPoint, p⟩] false [⟨.bool, !okPt p⟩] := by
  refine fn_enter tabOK mixes Try.func120 rfl rfl _ Try.ntmps120 _ Try.results120 (by simp) fun hwf => ?_
  try simp (config := { maxSteps := 10000000 }) only [go_sem, reduceIte, reduceCtorEq, Nat.reduceEqDiff, Nat.reduceLT, Nat.reduceLeDiff, Nat.reduceAdd, Nat.reduceBEq, Nat.reduceMul, Int.reduceToNat, Int.reduceLE, Int.reduceLT, Int.reduceEq, Int.reduceNeg]
  repeat (refine And.intro (by first | omega | (constructor <;> omega) | kernel_rfl) ?_)
  refine CallW.mk (implIsValidPoint_fn p) ?_
  try simp (config := { maxSteps := 10000000 }) only [go_sem, reduceIte, reduceCtorEq, Nat.reduceEqDiff, Nat.reduceLT, Nat.reduceLeDiff, Nat.reduceAdd, Nat.reduceBEq, Nat.reduceMul, Int.reduceToNat, Int.reduceLE, Int.reduceLT, Int.reduceEq, Int.reduceNeg]
theorem arePoints_fn (l : List DP) : Fn Try.prog 88 [⟨.slice tPoint, l⟩] false [⟨.bool, !(l.any fun p => !okPt p)⟩] := by
  refine fn_enter tabOK mixes Try.func88 rfl rfl _ Try.ntmps88 _ Try.results88 (by simp) fun hwf => ?_
  try simp (config := { maxSteps := 10000000 }) only [go_sem, reduceIte, reduceCtorEq, Nat.reduceEqDiff, Nat.reduceLT, Nat.reduceLeDiff, Nat.reduceAdd, Nat.reduceBEq, Nat.reduceMul, Int.reduceToNat, Int.reduceLE, Int.reduceLT, Int.reduceEq, Int.reduceNeg]
  repeat (refine And.intro (by first | omega | (constructor <;> omega) | kernel_rfl) ?_)
  refine CallW.mk (containsFunc_pt_fn _ _ arePointsC_fn l) ?_
  try simp (config := { maxSteps := 10000000 }) only [go_sem, reduceIte, reduceCtorEq, Nat.reduceEqDiff, Nat.reduceLT, Nat.reduceLeDiff, Nat.reduceAdd, Nat.reduceBEq, Nat.reduceMul, Int.reduceToNat, Int.reduceLE, Int.reduceLT, Int.reduceEq, Int.reduceNeg]
theorem arePoints2_fn (p q : DP) : Fn Try.prog 88 [⟨.slice tPoint, [p, q]⟩] false [⟨.bool, okPt p && okPt q⟩] := by
  have h := arePoints_fn [p, q]
  have e : (!([p, q].any fun p => !okPt p)) = (okPt p && okPt q) := by simp
  rw [e] at h; exact h
theorem arePoints1_fn (p : DP) : Fn Try.prog 88 [⟨.slice tPoint, [p]⟩] false [⟨.bool, okPt p⟩] := by
  have h := arePoints_fn [p]
  have e : (!([p].any fun p => !okPt p)) = okPt p := by simp
  rw [e] at h; exact h
noncomputable def sizeO (x : Option Rat) : Option Rat := if sgnO x < 0 then negO x else x
theorem okO_size {x : Option Rat} (h : okO x) : okO (sizeO x) := by
  unfold sizeO; split
  · exact okO_neg h
  · exact h
theorem sizeO_none : sizeO none = none := by unfold sizeO; split <;> rfl
theorem size_fn (x : Option Rat) : Fn Try.prog 127 [⟨tRat, oD x⟩] false [⟨tRat, oD (sizeO x)⟩] := by
  have h1 := ratSign_fn x
  have h2 := ratNeg_fn x
  unfold sizeO
  by_cases h : sgnO x < 0
  · rw [if_pos h]
    refine fn_enter tabOK mixes Try.func127 rfl rfl _ Try.ntmps127 _ Try.results127 (by simp) fun hwf => ?_
    try simp (config := { maxSteps := 10000000 }) only [go_sem, reduceIte, reduceCtorEq, Nat.reduceEqDiff, Nat.reduceLT, Nat.reduceLeDiff, Nat.reduceAdd, Nat.reduceBEq, Nat.reduceMul, Int.reduceToNat, Int.reduceLE, Int.reduceLT, Int.reduceEq, Int.reduceNeg]
    repeat (refine And.intro (by first | omega | (constructor <;> omega) | kernel_rfl) ?_)
    refine CallW.mk (h1) ?_
    try simp (config := { maxSteps := 10000000 }) only [go_sem, reduceIte, reduceCtorEq, Nat.reduceEqDiff, Nat.reduceLT, Nat.reduceLeDiff, Nat.reduceAdd, Nat.reduceBEq, Nat.reduceMul, Int.reduceToNat, Int.reduceLE, Int.reduceLT, Int.reduceEq, Int.reduceNeg]
    try simp (config := { maxSteps := 10000000 }) only [go_sem, reduceIte, reduceCtorEq, Nat.reduceEqDiff, Nat.reduceLT, Nat.reduceLeDiff, Nat.reduceAdd, Nat.reduceBEq, Nat.reduceMul, Int.reduceToNat, Int.reduceLE, Int.reduceLT, Int.reduceEq, Int.reduceNeg, h]
    repeat (refine And.intro (by first | omega | (constructor <;> omega) | kernel_rfl) ?_)
    refine CallW.mk (h2) ?_
    try simp (config := { maxSteps := 10000000 }) only [go_sem, reduceIte, reduceCtorEq, Nat.reduceEqDiff, Nat.reduceLT, Nat.reduceLeDiff, Nat.reduceAdd, Nat.reduceBEq, Nat.reduceMul, Int.reduceToNat, Int.reduceLE, Int.reduceLT, Int.reduceEq, Int.reduceNeg]
    all_goals repeat (refine And.intro (by first | omega | (constructor <;> omega) | kernel_rfl) ?_)
    all_goals first | kernel_rfl | omega | rfl
  · rw [if_neg h]
    refine fn_enter tabOK mixes Try.func127 rfl rfl _ Try.ntmps127 _ Try.results127 (by simp) fun hwf => ?_
    try simp (config := { maxSteps := 10000000 }) only [go_sem, reduceIte, reduceCtorEq, Nat.reduceEqDiff, Nat.reduceLT, Nat.reduceLeDiff, Nat.reduceAdd, Nat.reduceBEq, Nat.reduceMul, Int.reduceToNat, Int.reduceLE, Int.reduceLT, Int.reduceEq, Int.reduceNeg]
    repeat (refine And.intro (by first | omega | (constructor <;> omega) | kernel_rfl) ?_)
    refine CallW.mk (h1) ?_
    try simp (config := { maxSteps := 10000000 }) only [go_sem, reduceIte, reduceCtorEq, Nat.reduceEqDiff, Nat.reduceLT, Nat.reduceLeDiff, Nat.reduceAdd, Nat.reduceBEq, Nat.reduceMul, Int.reduceToNat, Int.reduceLE, Int.reduceLT, Int.reduceEq, Int.reduceNeg]
    try simp (config := { maxSteps := 10000000 }) only [go_sem, reduceIte, reduceCtorEq, Nat.reduceEqDiff, Nat.reduceLT, Nat.reduceLeDiff, Nat.reduceAdd, Nat.reduceBEq, Nat.reduceMul, Int.reduceToNat, Int.reduceLE, Int.reduceLT, Int.reduceEq, Int.reduceNeg, h]
    all_goals repeat (refine And.intro (by first | omega | (constructor <;> omega) | kernel_rfl) ?_)
    all_goals first | kernel_rfl | omega | rfl
theorem specRatNeg_fn (r : DR) : Fn Try.prog 125 [⟨tRat, r⟩] true [⟨tRat, oD (negO (rdO r))⟩] := by
  cases hr : okR r
  · rw [okR_f hr]
    have e : negO none = none := rfl
    rw [e]
    refine fn_enter tabOK mixes Try.func125 rfl rfl _ Try.ntmps125 _ Try.results125 (by simp) fun hwf => ?_
    try simp (config := { maxSteps := 10000000 }) only [go_sem, reduceIte, reduceCtorEq, Nat.reduceEqDiff, Nat.reduceLT, Nat.reduceLeDiff, Nat.reduceAdd, Nat.reduceBEq, Nat.reduceMul, Int.reduceToNat, Int.reduceLE, Int.reduceLT, Int.reduceEq, Int.reduceNeg]
    repeat (refine And.intro (by first | omega | (constructor <;> omega) | kernel_rfl) ?_)
    refine CallW.mk (specRatOk_fn r) ?_
    try simp (config := { maxSteps := 10000000 }) only [go_sem, reduceIte, reduceCtorEq, Nat.reduceEqDiff, Nat.reduceLT, Nat.reduceLeDiff, Nat.reduceAdd, Nat.reduceBEq, Nat.reduceMul, Int.reduceToNat, Int.reduceLE, Int.reduceLT, Int.reduceEq, Int.reduceNeg]
    try simp (config := { maxSteps := 10000000 }) only [go_sem, reduceIte, reduceCtorEq, Nat.reduceEqDiff, Nat.reduceLT, Nat.reduceLeDiff, Nat.reduceAdd, Nat.reduceBEq, Nat.reduceMul, Int.reduceToNat, Int.reduceLE, Int.reduceLT, Int.reduceEq, Int.reduceNeg, hr]
  · obtain ⟨p, hp, rfl, e1⟩ := okR_t hr
    rw [e1]
    have hr' : okR ((decide (p.num < 0), natL p.num.natAbs), natL p.den) = true := hr
    have e : negO (some p) = some (-p) := rfl
    rw [e]
    refine fn_enter tabOK mixes Try.func125 rfl rfl _ Try.ntmps125 _ Try.results125 (by simp) fun hwf => ?_
    try simp (config := { maxSteps := 10000000 }) only [go_sem, reduceIte, reduceCtorEq, Nat.reduceEqDiff, Nat.reduceLT, Nat.reduceLeDiff, Nat.reduceAdd, Nat.reduceBEq, Nat.reduceMul, Int.reduceToNat, Int.reduceLE, Int.reduceLT, Int.reduceEq, Int.reduceNeg]
    repeat (refine And.intro (by first | omega | (constructor <;> omega) | kernel_rfl) ?_)
    refine CallW.mk (specRatOk_fn (ratD p)) ?_
    try simp (config := { maxSteps := 10000000 }) only [go_sem, reduceIte, reduceCtorEq, Nat.reduceEqDiff, Nat.reduceLT, Nat.reduceLeDiff, Nat.reduceAdd, Nat.reduceBEq, Nat.reduceMul, Int.reduceToNat, Int.reduceLE, Int.reduceLT, Int.reduceEq, Int.reduceNeg]
    try simp (config := { maxSteps := 10000000 }) only [go_sem, reduceIte, reduceCtorEq, Nat.reduceEqDiff, Nat.reduceLT, Nat.reduceLeDiff, Nat.reduceAdd, Nat.reduceBEq, Nat.reduceMul, Int.reduceToNat, Int.reduceLE, Int.reduceLT, Int.reduceEq, Int.reduceNeg, hr']
    repeat (refine And.intro (by first | omega | (constructor <;> omega) | kernel_rfl) ?_)
    refine CallW.mk (l04Neg_fn p hp) ?_
    try simp (config := { maxSteps := 10000000 }) only [go_sem, reduceIte, reduceCtorEq, Nat.reduceEqDiff, Nat.reduceLT, Nat.reduceLeDiff, Nat.reduceAdd, Nat.reduceBEq, Nat.reduceMul, Int.reduceToNat, Int.reduceLE, Int.reduceLT, Int.reduceEq, Int.reduceNeg]
    all_goals repeat (refine And.intro (by first | omega | (constructor <;> omega) | kernel_rfl) ?_)
    all_goals first | kernel_rfl | omega | rfl
theorem subO_none_l (y : Option Rat) : subO none y = none := rfl
theorem subO_none_r (x : Option Rat) : subO x none = none := by cases x <;> rfl
theorem specRatSub_fn (r s : DR) : Fn Try.prog 87 [⟨tRat, r⟩, ⟨tRat, s⟩] true [⟨tRat, oD (subO (rdO r) (rdO s))⟩] := by
  cases hr : okR r
  · rw [okR_f hr, subO_none_l]
    refine fn_enter tabOK mixes Try.func87 rfl rfl _ Try.ntmps87 _ Try.results87 (by simp) fun hwf => ?_
    try simp (config := { maxSteps := 10000000 }) only [go_sem, reduceIte, reduceCtorEq, Nat.reduceEqDiff, Nat.reduceLT, Nat.reduceLeDiff, Nat.reduceAdd, Nat.reduceBEq, Nat.reduceMul, Int.reduceToNat, Int.reduceLE, Int.reduceLT, Int.reduceEq, Int.reduceNeg]
    repeat (refine And.intro (by first | omega | (constructor <;> omega) | kernel_rfl) ?_)
    refine CallW.mk (specRatOk_fn r) ?_
    try simp (config := { maxSteps := 10000000 }) only [go_sem, reduceIte, reduceCtorEq, Nat.reduceEqDiff, Nat.reduceLT, Nat.reduceLeDiff, Nat.reduceAdd, Nat.reduceBEq, Nat.reduceMul, Int.reduceToNat, Int.reduceLE, Int.reduceLT, Int.reduceEq, Int.reduceNeg]
    try simp (config := { maxSteps := 10000000 }) only [go_sem, reduceIte, reduceCtorEq, Nat.reduceEqDiff, Nat.reduceLT, Nat.reduceLeDiff, Nat.reduceAdd, Nat.reduceBEq, Nat.reduceMul, Int.reduceToNat, Int.reduceLE, Int.reduceLT, Int.reduceEq, Int.reduceNeg, hr]
  · cases hs : okR s
    · rw [okR_f hs, subO_none_r]
      refine fn_enter tabOK mixes Try.func87 rfl rfl _ Try.ntmps87 _ Try.results87 (by simp) fun hwf => ?_
      try simp (config := { maxSteps := 10000000 }) only [go_sem, reduceIte, reduceCtorEq, Nat.reduceEqDiff, Nat.reduceLT, Nat.reduceLeDiff, Nat.reduceAdd, Nat.reduceBEq, Nat.reduceMul, Int.reduceToNat, Int.reduceLE, Int.reduceLT, Int.reduceEq, Int.reduceNeg]
      repeat (refine And.intro (by first | omega | (constructor <;> omega) | kernel_rfl) ?_)
      refine CallW.mk (specRatOk_fn r) ?_
      try simp (config := { maxSteps := 10000000 }) only [go_sem, reduceIte, reduceCtorEq, Nat.reduceEqDiff, Nat.reduceLT, Nat.reduceLeDiff, Nat.reduceAdd, Nat.reduceBEq, Nat.reduceMul, Int.reduceToNat, Int.reduceLE, Int.reduceLT, Int.reduceEq, Int.reduceNeg]
      try simp (config := { maxSteps := 10000000 }) only [go_sem, reduceIte, reduceCtorEq, Nat.reduceEqDiff, Nat.reduceLT, Nat.reduceLeDiff, Nat.reduceAdd, Nat.reduceBEq, Nat.reduceMul, Int.reduceToNat, Int.reduceLE, Int.reduceLT, Int.reduceEq, Int.reduceNeg, hr]
      repeat (refine And.intro (by first | omega | (constructor <;> omega) | kernel_rfl) ?_)
      refine CallW.mk (specRatOk_fn s) ?_
      try simp (config := { maxSteps := 10000000 }) only [go_sem, reduceIte, reduceCtorEq, Nat.reduceEqDiff, Nat.reduceLT, Nat.reduceLeDiff, Nat.reduceAdd, Nat.reduceBEq, Nat.reduceMul, Int.reduceToNat, Int.reduceLE, Int.reduceLT, Int.reduceEq, Int.reduceNeg]
      try simp (config := { maxSteps := 10000000 }) only [go_sem, reduceIte, reduceCtorEq, Nat.reduceEqDiff, Nat.reduceLT, Nat.reduceLeDiff, Nat.reduceAdd, Nat.reduceBEq, Nat.reduceMul, Int.reduceToNat, Int.reduceLE, Int.reduceLT, Int.reduceEq, Int.reduceNeg, hs]
    · obtain ⟨p, hp, rfl, e1⟩ := okR_t hr
      obtain ⟨q, hq, rfl, e2⟩ := okR_t hs
      rw [e1, e2]
      have hr' : okR ((decide (p.num < 0), natL p.num.natAbs), natL p.den) = true := hr
      have hs' : okR ((decide (q.num < 0), natL q.num.natAbs), natL q.den) = true := hs
      have e : subO (some p) (some q) = capR (p + -q) := rfl
      rw [e]
      refine fn_enter tabOK mixes Try.func87 rfl rfl _ Try.ntmps87 _ Try.results87 (by simp) fun hwf => ?_
      try simp (config := { maxSteps := 10000000 }) only [go_sem, reduceIte, reduceCtorEq, Nat.reduceEqDiff, Nat.reduceLT, Nat.reduceLeDiff, Nat.reduceAdd, Nat.reduceBEq, Nat.reduceMul, Int.reduceToNat, Int.reduceLE, Int.reduceLT, Int.reduceEq, Int.reduceNeg]
      repeat (refine And.intro (by first | omega | (constructor <;> omega) | kernel_rfl) ?_)
      refine CallW.mk (specRatOk_fn (ratD p)) ?_
      try simp (config := { maxSteps := 10000000 }) only [go_sem, reduceIte, reduceCtorEq, Nat.reduceEqDiff, Nat.reduceLT, Nat.reduceLeDiff, Nat.reduceAdd, Nat.reduceBEq, Nat.reduceMul, Int.reduceToNat, Int.reduceLE, Int.reduceLT, Int.reduceEq, Int.reduceNeg]
      try simp (config := { maxSteps := 10000000 }) only [go_sem, reduceIte, reduceCtorEq, Nat.reduceEqDiff, Nat.reduceLT, Nat.reduceLeDiff, Nat.reduceAdd, Nat.reduceBEq, Nat.reduceMul, Int.reduceToNat, Int.reduceLE, Int.reduceLT, Int.reduceEq, Int.reduceNeg, hr']
      repeat (refine And.intro (by first | omega | (constructor <;> omega) | kernel_rfl) ?_)
      refine CallW.mk (specRatOk_fn (ratD q)) ?_
      try simp (config := { maxSteps := 10000000 }) only [go_sem, reduceIte, reduceCtorEq, Nat.reduceEqDiff, Nat.reduceLT, Nat.reduceLeDiff, Nat.reduceAdd, Nat.reduceBEq, Nat.reduceMul, Int.reduceToNat, Int.reduceLE, Int.reduceLT, Int.reduceEq, Int.reduceNeg]
      try simp (config := { maxSteps := 10000000 }) only [go_sem, reduceIte, reduceCtorEq, Nat.reduceEqDiff, Nat.reduceLT, Nat.reduceLeDiff, Nat.reduceAdd, Nat.reduceBEq, Nat.reduceMul, Int.reduceToNat, Int.reduceLE, Int.reduceLT, Int.reduceEq, Int.reduceNeg, hs']
      repeat (refine And.intro (by first | omega | (constructor <;> omega) | kernel_rfl) ?_)
      refine CallW.mk (l04Neg_fn q hq) ?_
      try simp (config := { maxSteps := 10000000 }) only [go_sem, reduceIte, reduceCtorEq, Nat.reduceEqDiff, Nat.reduceLT, Nat.reduceLeDiff, Nat.reduceAdd, Nat.reduceBEq, Nat.reduceMul, Int.reduceToNat, Int.reduceLE, Int.reduceLT, Int.reduceEq, Int.reduceNeg]
      repeat (refine And.intro (by first | omega | (constructor <;> omega) | kernel_rfl) ?_)
      refine CallW.mk (l04Add_fn p (-q) hp (small_neg hq)) ?_
      try simp (config := { maxSteps := 10000000 }) only [go_sem, reduceIte, reduceCtorEq, Nat.reduceEqDiff, Nat.reduceLT, Nat.reduceLeDiff, Nat.reduceAdd, Nat.reduceBEq, Nat.reduceMul, Int.reduceToNat, Int.reduceLE, Int.reduceLT, Int.reduceEq, Int.reduceNeg]
      all_goals repeat (refine And.intro (by first | omega | (constructor <;> omega) | kernel_rfl) ?_)
      all_goals first | kernel_rfl | omega | rfl
theorem l24Size_fn (x : Option Rat) (hx : okO x) : Fn Try.prog 90 [⟨tRat, oD x⟩] false [⟨tRat, oD (sizeO x)⟩] := by
  have h1 := specRatSign_fn (oD x)
  have h2 := specRatNeg_fn (oD x)
  rw [rdO_oD hx] at h1 h2
  unfold sizeO
  by_cases h : sgnO x < 0
  · rw [if_pos h]
    refine fn_enter tabOK mixes Try.func90 rfl rfl _ Try.ntmps90 _ Try.results90 (by simp) fun hwf => ?_
    try simp (config := { maxSteps := 10000000 }) only [go_sem, reduceIte, reduceCtorEq, Nat.reduceEqDiff, Nat.reduceLT, Nat.reduceLeDiff, Nat.reduceAdd, Nat.reduceBEq, Nat.reduceMul, Int.reduceToNat, Int.reduceLE, Int.reduceLT, Int.reduceEq, Int.reduceNeg]
    repeat (refine And.intro (by first | omega | (constructor <;> omega) | kernel_rfl) ?_)
    refine CallW.mk (h1) ?_
    try simp (config := { maxSteps := 10000000 }) only [go_sem, reduceIte, reduceCtorEq, Nat.reduceEqDiff, Nat.reduceLT, Nat.reduceLeDiff, Nat.reduceAdd, Nat.reduceBEq, Nat.reduceMul, Int.reduceToNat, Int.reduceLE, Int.reduceLT, Int.reduceEq, Int.reduceNeg]
    try simp (config := { maxSteps := 10000000 }) only [go_sem, reduceIte, reduceCtorEq, Nat.reduceEqDiff, Nat.reduceLT, Nat.reduceLeDiff, Nat.reduceAdd, Nat.reduceBEq, Nat.reduceMul, Int.reduceToNat, Int.reduceLE, Int.reduceLT, Int.reduceEq, Int.reduceNeg, h]
    repeat (refine And.intro (by first | omega | (constructor <;> omega) | kernel_rfl) ?_)
    refine CallW.mk (h2) ?_
    try simp (config := { maxSteps := 10000000 }) only [go_sem, reduceIte, reduceCtorEq, Nat.reduceEqDiff, Nat.reduceLT, Nat.reduceLeDiff, Nat.reduceAdd, Nat.reduceBEq, Nat.reduceMul, Int.reduceToNat, Int.reduceLE, Int.reduceLT, Int.reduceEq, Int.reduceNeg]
    all_goals repeat (refine And.intro (by first | omega | (constructor <;> omega) | kernel_rfl) ?_)
    all_goals first | kernel_rfl | omega | rfl
  · rw [if_neg h]
    refine fn_enter tabOK mixes Try.func90 rfl rfl _ Try.ntmps90 _ Try.results90 (by simp) fun hwf => ?_
    try simp (config := { maxSteps := 10000000 }) only [go_sem, reduceIte, reduceCtorEq, Nat.reduceEqDiff, Nat.reduceLT, Nat.reduceLeDiff, Nat.reduceAdd, Nat.reduceBEq, Nat.reduceMul, Int.reduceToNat, Int.reduceLE, Int.reduceLT, Int.reduceEq, Int.reduceNeg]
    repeat (refine And.intro (by first | omega | (constructor <;> omega) | kernel_rfl) ?_)
    refine CallW.mk (h1) ?_
    try simp (config := { maxSteps := 10000000 }) only [go_sem, reduceIte, reduceCtorEq, Nat.reduceEqDiff, Nat.reduceLT, Nat.reduceLeDiff, Nat.reduceAdd, Nat.reduceBEq, Nat.reduceMul, Int.reduceToNat, Int.reduceLE, Int.reduceLT, Int.reduceEq, Int.reduceNeg]
    try simp (config := { maxSteps := 10000000 }) only [go_sem, reduceIte, reduceCtorEq, Nat.reduceEqDiff, Nat.reduceLT, Nat.reduceLeDiff, Nat.reduceAdd, Nat.reduceBEq, Nat.reduceMul, Int.reduceToNat, Int.reduceLE, Int.reduceLT, Int.reduceEq, Int.reduceNeg, h]
    all_goals repeat (refine And.intro (by first | omega | (constructor <;> omega) | kernel_rfl) ?_)
    all_goals first | kernel_rfl | omega | rfl
theorem maxO_n1 (y : Option Rat) : maxO none y = none := rfl
theorem maxO_n2 (x : Option Rat) : maxO x none = none := by cases x <;> rfl
noncomputable def mvO (p q : DP) : Option Rat := maxO (sizeO (subO (rdO q.1) (rdO p.1))) (sizeO (subO (rdO q.2) (rdO p.2)))
theorem okO_mv (p q : DP) : okO (mvO p q) := okO_max (okO_size (okO_sub _ _)) (okO_size (okO_sub _ _))
theorem mvO_bad {p q : DP} (h : (okPt p && okPt q) = false) : mvO p q = none := by
  unfold mvO
  have hb : rdO p.1 = none ∨ rdO p.2 = none ∨ rdO q.1 = none ∨ rdO q.2 = none := by
    simp only [okPt, Bool.and_eq_false_iff] at h
    rcases h with (h | h) | (h | h)
    · exact .inl (okR_f h)
    · exact .inr (.inl (okR_f h))
    · exact .inr (.inr (.inl (okR_f h)))
    · exact .inr (.inr (.inr (okR_f h)))
  rcases hb with h | h | h | h <;> rw [h]
  · rw [subO_none_r, sizeO_none, maxO_n1]
  · rw [subO_none_r, sizeO_none, maxO_n2]
  · rw [subO_none_l, sizeO_none, maxO_n1]
  · rw [subO_none_l, sizeO_none, maxO_n2]
theorem moveLength_fn (p q : DP) : Fn Try.prog 91 [⟨tPoint, p⟩, ⟨tPoint, q⟩] false [⟨tRat, oD (mvO p q)⟩] := by
  cases hb : okPt p && okPt q
  · rw [mvO_bad hb]
    refine fn_enter tabOK mixes Try.func91 rfl rfl _ Try.ntmps91 _ Try.results91 (by simp) fun hwf => ?_
    try simp (config := { maxSteps := 10000000 }) only [go_sem, reduceIte, reduceCtorEq, Nat.reduceEqDiff, Nat.reduceLT, Nat.reduceLeDiff, Nat.reduceAdd, Nat.reduceBEq, Nat.reduceMul, Int.reduceToNat, Int.reduceLE, Int.reduceLT, Int.reduceEq, Int.reduceNeg]
    repeat (refine And.intro (by first | omega | (constructor <;> omega) | kernel_rfl) ?_)
    refine CallW.mk (arePoints2_fn p q) ?_
    try simp (config := { maxSteps := 10000000 }) only [go_sem, reduceIte, reduceCtorEq, Nat.reduceEqDiff, Nat.reduceLT, Nat.reduceLeDiff, Nat.reduceAdd, Nat.reduceBEq, Nat.reduceMul, Int.reduceToNat, Int.reduceLE, Int.reduceLT, Int.reduceEq, Int.reduceNeg]
    try simp (config := { maxSteps := 10000000 }) only [go_sem, reduceIte, reduceCtorEq, Nat.reduceEqDiff, Nat.reduceLT, Nat.reduceLeDiff, Nat.reduceAdd, Nat.reduceBEq, Nat.reduceMul, Int.reduceToNat, Int.reduceLE, Int.reduceLT, Int.reduceEq, Int.reduceNeg, hb]
  · have hb' := hb
    simp only [okPt, Bool.and_eq_true] at hb'
    obtain ⟨⟨p1, p2⟩, ⟨q1, q2⟩⟩ := hb'
    have c1 := ratSub_fn (rdO q.1) (rdO p.1) (okO_rdO _) (okO_rdO _)
    have c2 := ratSub_fn (rdO q.2) (rdO p.2) (okO_rdO _) (okO_rdO _)
    rw [okR_oD q1, okR_oD p1] at c1
    rw [okR_oD q2, okR_oD p2] at c2
    have c3 := size_fn (subO (rdO q.1) (rdO p.1))
    have c4 := size_fn (subO (rdO q.2) (rdO p.2))
    have c5 := ratMax_fn (sizeO (subO (rdO q.1) (rdO p.1))) (sizeO (subO (rdO q.2) (rdO p.2))) (okO_size (okO_sub _ _)) (okO_size (okO_sub _ _))
    unfold mvO
    refine fn_enter tabOK mixes Try.func91 rfl rfl _ Try.ntmps91 _ Try.results91 (by simp) fun hwf => ?_
    try simp (config := { maxSteps := 10000000 }) only [go_sem, reduceIte, reduceCtorEq, Nat.reduceEqDiff, Nat.reduceLT, Nat.reduceLeDiff, Nat.reduceAdd, Nat.reduceBEq, Nat.reduceMul, Int.reduceToNat, Int.reduceLE, Int.reduceLT, Int.reduceEq, Int.reduceNeg]
    repeat (refine And.intro (by first | omega | (constructor <;> omega) | kernel_rfl) ?_)
    refine CallW.mk (arePoints2_fn p q) ?_
    try simp (config := { maxSteps := 10000000 }) only [go_sem, reduceIte, reduceCtorEq, Nat.reduceEqDiff, Nat.reduceLT, Nat.reduceLeDiff, Nat.reduceAdd, Nat.reduceBEq, Nat.reduceMul, Int.reduceToNat, Int.reduceLE, Int.reduceLT, Int.reduceEq, Int.reduceNeg]
    try simp (config := { maxSteps := 10000000 }) only [go_sem, reduceIte, reduceCtorEq, Nat.reduceEqDiff, Nat.reduceLT, Nat.reduceLeDiff, Nat.reduceAdd, Nat.reduceBEq, Nat.reduceMul, Int.reduceToNat, Int.reduceLE, Int.reduceLT, Int.reduceEq, Int.reduceNeg, hb]
    repeat (refine And.intro (by first | omega | (constructor <;> omega) | kernel_rfl) ?_)
    refine CallW.mk (c1) ?_
    try simp (config := { maxSteps := 10000000 }) only [go_sem, reduceIte, reduceCtorEq, Nat.reduceEqDiff, Nat.reduceLT, Nat.reduceLeDiff, Nat.reduceAdd, Nat.reduceBEq, Nat.reduceMul, Int.reduceToNat, Int.reduceLE, Int.reduceLT, Int.reduceEq, Int.reduceNeg]
    repeat (refine And.intro (by first | omega | (constructor <;> omega) | kernel_rfl) ?_)
    refine CallW.mk (c3) ?_
    try simp (config := { maxSteps := 10000000 }) only [go_sem, reduceIte, reduceCtorEq, Nat.reduceEqDiff, Nat.reduceLT, Nat.reduceLeDiff, Nat.reduceAdd, Nat.reduceBEq, Nat.reduceMul, Int.reduceToNat, Int.reduceLE, Int.reduceLT, Int.reduceEq, Int.reduceNeg]
    repeat (refine And.intro (by first | omega | (constructor <;> omega) | kernel_rfl) ?_)
    refine CallW.mk (c2) ?_
    try simp (config := { maxSteps := 10000000 }) only [go_sem, reduceIte, reduceCtorEq, Nat.reduceEqDiff, Nat.reduceLT, Nat.reduceLeDiff, Nat.reduceAdd, Nat.reduceBEq, Nat.reduceMul, Int.reduceToNat, Int.reduceLE, Int.reduceLT, Int.reduceEq, Int.reduceNeg]
    repeat (refine And.intro (by first | omega | (constructor <;> omega) | kernel_rfl) ?_)
    refine CallW.mk (c4) ?_
    try simp (config := { maxSteps := 10000000 }) only [go_sem, reduceIte, reduceCtorEq, Nat.reduceEqDiff, Nat.reduceLT, Nat.reduceLeDiff, Nat.reduceAdd, Nat.reduceBEq, Nat.reduceMul, Int.reduceToNat, Int.reduceLE, Int.reduceLT, Int.reduceEq, Int.reduceNeg]
    repeat (refine And.intro (by first | omega | (constructor <;> omega) | kernel_rfl) ?_)
    refine CallW.mk (c5) ?_
    try simp (config := { maxSteps := 10000000 }) only [go_sem, reduceIte, reduceCtorEq, Nat.reduceEqDiff, Nat.reduceLT, Nat.reduceLeDiff, Nat.reduceAdd, Nat.reduceBEq, Nat.reduceMul, Int.reduceToNat, Int.reduceLE, Int.reduceLT, Int.reduceEq, Int.reduceNeg]
    all_goals repeat (refine And.intro (by first | omega | (constructor <;> omega) | kernel_rfl) ?_)
    all_goals first | kernel_rfl | omega | rfl
theorem implMoveLength_fn (p q : DP) : Fn Try.prog 51 [⟨tPoint, p⟩, ⟨tPoint, q⟩] true [⟨tRat, oD (mvO p q)⟩] := by
  have ho := ownO_fn _ (okO_mv p q)
  refine fn_enter tabOK mixes Try.func51 rfl rfl _ Try.ntmps51 _ Try.results51 (by simp) fun hwf => ?_
  try simp (config := { maxSteps := 10000000 }) only [go_sem, reduceIte, reduceCtorEq, Nat.reduceEqDiff, Nat.reduceLT, Nat.reduceLeDiff, Nat.reduceAdd, Nat.reduceBEq, Nat.reduceMul, Int.reduceToNat, Int.reduceLE, Int.reduceLT, Int.reduceEq, Int.reduceNeg]
  repeat (refine And.intro (by first | omega | (constructor <;> omega) | kernel_rfl) ?_)
  refine CallW.mk (moveLength_fn p q) ?_
  try simp (config := { maxSteps := 10000000 }) only [go_sem, reduceIte, reduceCtorEq, Nat.reduceEqDiff, Nat.reduceLT, Nat.reduceLeDiff, Nat.reduceAdd, Nat.reduceBEq, Nat.reduceMul, Int.reduceToNat, Int.reduceLE, Int.reduceLT, Int.reduceEq, Int.reduceNeg]
  repeat (refine And.intro (by first | omega | (constructor <;> omega) | kernel_rfl) ?_)
  refine CallW.mk (ho) ?_
  try simp (config := { maxSteps := 10000000 }) only [go_sem, reduceIte, reduceCtorEq, Nat.reduceEqDiff, Nat.reduceLT, Nat.reduceLeDiff, Nat.reduceAdd, Nat.reduceBEq, Nat.reduceMul, Int.reduceToNat, Int.reduceLE, Int.reduceLT, Int.reduceEq, Int.reduceNeg]
  all_goals repeat (refine And.intro (by first | omega | (constructor <;> omega) | kernel_rfl) ?_)
  all_goals first | kernel_rfl | omega | rfl
theorem specMoveLength_fn (p q : DP) : Fn Try.prog 50 [⟨tPoint, p⟩, ⟨tPoint, q⟩] true [⟨tRat, oD (mvO p q)⟩] := by
  have c1 := specRatSub_fn q.1 p.1
  have c2 := specRatSub_fn q.2 p.2
  have c3 := l24Size_fn (subO (rdO q.1) (rdO p.1)) (okO_sub _ _)
  have c4 := l24Size_fn (subO (rdO q.2) (rdO p.2)) (okO_sub _ _)
  have c5 := specRatMax_fn (oD (sizeO (subO (rdO q.1) (rdO p.1)))) (oD (sizeO (subO (rdO q.2) (rdO p.2))))
  rw [rdO_oD (okO_size (okO_sub _ _)), rdO_oD (okO_size (okO_sub _ _))] at c5
  unfold mvO
  refine fn_enter tabOK mixes Try.func50 rfl rfl _ Try.ntmps50 _ Try.results50 (by simp) fun hwf => ?_
  try simp (config := { maxSteps := 10000000 }) only [go_sem, reduceIte, reduceCtorEq, Nat.reduceEqDiff, Nat.reduceLT, Nat.reduceLeDiff, Nat.reduceAdd, Nat.reduceBEq, Nat.reduceMul, Int.reduceToNat, Int.reduceLE, Int.reduceLT, Int.reduceEq, Int.reduceNeg]
  repeat (refine And.intro (by first | omega | (constructor <;> omega) | kernel_rfl) ?_)
  refine CallW.mk (c1) ?_
  try simp (config := { maxSteps := 10000000 }) only [go_sem, reduceIte, reduceCtorEq, Nat.reduceEqDiff, Nat.reduceLT, Nat.reduceLeDiff, Nat.reduceAdd, Nat.reduceBEq, Nat.reduceMul, Int.reduceToNat, Int.reduceLE, Int.reduceLT, Int.reduceEq, Int.reduceNeg]
  repeat (refine And.intro (by first | omega | (constructor <;> omega) | kernel_rfl) ?_)
  refine CallW.mk (c3) ?_
  try simp (config := { maxSteps := 10000000 }) only [go_sem, reduceIte, reduceCtorEq, Nat.reduceEqDiff, Nat.reduceLT, Nat.reduceLeDiff, Nat.reduceAdd, Nat.reduceBEq, Nat.reduceMul, Int.reduceToNat, Int.reduceLE, Int.reduceLT, Int.reduceEq, Int.reduceNeg]
  repeat (refine And.intro (by first | omega | (constructor <;> omega) | kernel_rfl) ?_)
  refine CallW.mk (c2) ?_
  try simp (config := { maxSteps := 10000000 }) only [go_sem, reduceIte, reduceCtorEq, Nat.reduceEqDiff, Nat.reduceLT, Nat.reduceLeDiff, Nat.reduceAdd, Nat.reduceBEq, Nat.reduceMul, Int.reduceToNat, Int.reduceLE, Int.reduceLT, Int.reduceEq, Int.reduceNeg]
  repeat (refine And.intro (by first | omega | (constructor <;> omega) | kernel_rfl) ?_)
  refine CallW.mk (c4) ?_
  try simp (config := { maxSteps := 10000000 }) only [go_sem, reduceIte, reduceCtorEq, Nat.reduceEqDiff, Nat.reduceLT, Nat.reduceLeDiff, Nat.reduceAdd, Nat.reduceBEq, Nat.reduceMul, Int.reduceToNat, Int.reduceLE, Int.reduceLT, Int.reduceEq, Int.reduceNeg]
  repeat (refine And.intro (by first | omega | (constructor <;> omega) | kernel_rfl) ?_)
  refine CallW.mk (c5) ?_
  try simp (config := { maxSteps := 10000000 }) only [go_sem, reduceIte, reduceCtorEq, Nat.reduceEqDiff, Nat.reduceLT, Nat.reduceLeDiff, Nat.reduceAdd, Nat.reduceBEq, Nat.reduceMul, Int.reduceToNat, Int.reduceLE, Int.reduceLT, Int.reduceEq, Int.reduceNeg]
  all_goals repeat (refine And.intro (by first | omega | (constructor <;> omega) | kernel_rfl) ?_)
  all_goals first | kernel_rfl | omega | rfl
end Go.Proofs.Ytjkbecgenjhaaaa.DW

/-
  MoveLength: the contracts of calls.
-/
namespace Go.Proofs.Ytjkbecgenjhaaaa
open Go.RowKit DW
theorem implMove_c (a0 a1 a2 a3 a4 a5 b0 b1 b2 b3 b4 b5 : Value) (p q : DPoint) (W : World) (h1 : Has RPoint W [a0, a1, a2, a3, a4, a5] p) (h2 : Has RPoint W [b0, b1, b2, b3, b4, b5] q) :
    Calls Try.prog 51 #[.agg #[a0, a1, a2, a3, a4, a5], .agg #[b0, b1, b2, b3, b4, b5]] W (Post (OwnPost RRat (oD (mvO p q)) W)) :=
  (implMoveLength_fn p q).aggOwn rfl (vs := [.agg #[a0, a1, a2, a3, a4, a5], .agg #[b0, b1, b2, b3, b4, b5]]) ⟨Arg.agg (t := DW.tPoint) (cs := [a0, a1, a2, a3, a4, a5]) rfl h1, Arg.agg (t := DW.tPoint) (cs := [b0, b1, b2, b3, b4, b5]) rfl h2, trivial⟩
theorem specMove_c (a0 a1 a2 a3 a4 a5 b0 b1 b2 b3 b4 b5 : Value) (p q : DPoint) (W : World) (h1 : Has RPoint W [a0, a1, a2, a3, a4, a5] p) (h2 : Has RPoint W [b0, b1, b2, b3, b4, b5] q) :
    Calls Try.prog 50 #[.agg #[a0, a1, a2, a3, a4, a5], .agg #[b0, b1, b2, b3, b4, b5]] W (Post (fun v w' => (∃ cs, v = .agg cs.toArray ∧ HasR RRat w' cs (oD (mvO p q))) ∧ Below W.heap.size W w')) :=
  (specMoveLength_fn p q).aggHas rfl (vs := [.agg #[a0, a1, a2, a3, a4, a5], .agg #[b0, b1, b2, b3, b4, b5]]) ⟨Arg.agg (t := DW.tPoint) (cs := [a0, a1, a2, a3, a4, a5]) rfl h1, Arg.agg (t := DW.tPoint) (cs := [b0, b1, b2, b3, b4, b5]) rfl h2, trivial⟩
theorem cnRat_mv (p q : DPoint) : cnRat (oD (mvO p q)) ≤ 3145728 := by
  have h1 := cnRat_le (oD (mvO p q))
  have h2 : ∀ {x : Option Rat}, okO x → tRat (oD x) ≤ 48 := by
    intro x h
    cases x with
    | none => decide
    | some q =>
      obtain ⟨h1, h2⟩ := h q rfl
      show nl q.num.natAbs + nl q.den ≤ 48
      omega
  have := h2 (okO_mv p q)
  omega
end Go.Proofs.Ytjkbecgenjhaaaa

/-
  The law FnExactMoveLength returns true: the walk through it on data, by the contracts.
-/
namespace Go.Proofs.Ytjkbecgenjhaaaa.DW
open Go.RowKit

set_option maxRecDepth 100000 in
set_option maxHeartbeats 8000000 in
theorem lawMoveLength_fn (x0 : DPoint) (x1 : DPoint) : Fn Try.prog 10 [⟨DW.tPoint, x0⟩, ⟨DW.tPoint, x1⟩] false [⟨.bool, true⟩] := by
  refine fn_enter tabOK mixes Try.func10 rfl rfl _ Try.ntmps10 _ Try.results10 (by simp) fun hwf => ?_
  try simp (config := { maxSteps := 10000000 }) only [go_sem, reduceIte, reduceCtorEq, Nat.reduceEqDiff, Nat.reduceLT, Nat.reduceLeDiff, Nat.reduceAdd, Nat.reduceBEq, Nat.reduceMul, Int.reduceToNat, Int.reduceLE, Int.reduceLT, Int.reduceEq, Int.reduceNeg]
  repeat (refine And.intro (by first | omega | (constructor <;> omega) | kernel_rfl) ?_)
  refine CallW.mk (szPoint_fn x0 1048576 (by omega) (by omega)) ?_
  try simp (config := { maxSteps := 10000000 }) only [go_sem, reduceIte, reduceCtorEq, Nat.reduceEqDiff, Nat.reduceLT, Nat.reduceLeDiff, Nat.reduceAdd, Nat.reduceBEq, Nat.reduceMul, Int.reduceToNat, Int.reduceLE, Int.reduceLT, Int.reduceEq, Int.reduceNeg]
  repeat (refine And.intro (by first | omega | (constructor <;> omega) | kernel_rfl) ?_)
  have hr0 := szr_lo 1048576 (Go.Proofs.Ytjkbecgenjhaaaa.tPoint x0) (by omega)
  refine CondW_dec (fun hlt => ?_) (fun hge0 => ?_)
  · try simp (config := { maxSteps := 10000000 }) only [go_sem, reduceIte, reduceCtorEq, Nat.reduceEqDiff, Nat.reduceLT, Nat.reduceLeDiff, Nat.reduceAdd, Nat.reduceBEq, Nat.reduceMul, Int.reduceToNat, Int.reduceLE, Int.reduceLT, Int.reduceEq, Int.reduceNeg]
  have hge0' : 0 ≤ szr 1048576 (Go.Proofs.Ytjkbecgenjhaaaa.tPoint x0) := by omega
  try simp (config := { maxSteps := 10000000 }) only [go_sem, reduceIte, reduceCtorEq, Nat.reduceEqDiff, Nat.reduceLT, Nat.reduceLeDiff, Nat.reduceAdd, Nat.reduceBEq, Nat.reduceMul, Int.reduceToNat, Int.reduceLE, Int.reduceLT, Int.reduceEq, Int.reduceNeg]
  repeat (refine And.intro (by first | omega | (constructor <;> omega) | kernel_rfl) ?_)
  refine CallW.mk (szPoint_fn x1 (szr 1048576 (Go.Proofs.Ytjkbecgenjhaaaa.tPoint x0)) (by omega) (by omega)) ?_
  try simp (config := { maxSteps := 10000000 }) only [go_sem, reduceIte, reduceCtorEq, Nat.reduceEqDiff, Nat.reduceLT, Nat.reduceLeDiff, Nat.reduceAdd, Nat.reduceBEq, Nat.reduceMul, Int.reduceToNat, Int.reduceLE, Int.reduceLT, Int.reduceEq, Int.reduceNeg]
  repeat (refine And.intro (by first | omega | (constructor <;> omega) | kernel_rfl) ?_)
  have hr1 := szr_lo (szr 1048576 (Go.Proofs.Ytjkbecgenjhaaaa.tPoint x0)) (Go.Proofs.Ytjkbecgenjhaaaa.tPoint x1) (by omega)
  refine CondW_dec (fun hlt => ?_) (fun hge1 => ?_)
  · try simp (config := { maxSteps := 10000000 }) only [go_sem, reduceIte, reduceCtorEq, Nat.reduceEqDiff, Nat.reduceLT, Nat.reduceLeDiff, Nat.reduceAdd, Nat.reduceBEq, Nat.reduceMul, Int.reduceToNat, Int.reduceLE, Int.reduceLT, Int.reduceEq, Int.reduceNeg]
  have hge1' : 0 ≤ szr (szr 1048576 (Go.Proofs.Ytjkbecgenjhaaaa.tPoint x0)) (Go.Proofs.Ytjkbecgenjhaaaa.tPoint x1) := by omega
  have hs0 := (szr_ok hge0').1
  have hs1 := (szr_ok hge1').1
  have hle0 : Go.Proofs.Ytjkbecgenjhaaaa.tPoint x0 ≤ 1048576 := by omega
  have hle1 : Go.Proofs.Ytjkbecgenjhaaaa.tPoint x1 ≤ 1048576 := by omega
  clear hr0 hs0 hge0 hge0' hr1 hs1 hge1 hge1'
  try simp (config := { maxSteps := 10000000 }) only [go_sem, reduceIte, reduceCtorEq, Nat.reduceEqDiff, Nat.reduceLT, Nat.reduceLeDiff, Nat.reduceAdd, Nat.reduceBEq, Nat.reduceMul, Int.reduceToNat, Int.reduceLE, Int.reduceLT, Int.reduceEq, Int.reduceNeg]
  repeat (refine And.intro (by first | omega | (constructor <;> omega) | kernel_rfl) ?_)
  refine CallW.mk (toPoint_fn x0 hle0) ?_
  try simp (config := { maxSteps := 10000000 }) only [go_sem, reduceIte, reduceCtorEq, Nat.reduceEqDiff, Nat.reduceLT, Nat.reduceLeDiff, Nat.reduceAdd, Nat.reduceBEq, Nat.reduceMul, Int.reduceToNat, Int.reduceLE, Int.reduceLT, Int.reduceEq, Int.reduceNeg]
  repeat (refine And.intro (by first | omega | (constructor <;> omega) | kernel_rfl) ?_)
  refine CallW.mk (toPoint_fn x1 hle1) ?_
  try simp (config := { maxSteps := 10000000 }) only [go_sem, reduceIte, reduceCtorEq, Nat.reduceEqDiff, Nat.reduceLT, Nat.reduceLeDiff, Nat.reduceAdd, Nat.reduceBEq, Nat.reduceMul, Int.reduceToNat, Int.reduceLE, Int.reduceLT, Int.reduceEq, Int.reduceNeg]
  repeat (refine And.intro (by first | omega | (constructor <;> omega) | kernel_rfl) ?_)
  refine CallW.mk (specMoveLength_fn x0 x1) ?_
  try simp (config := { maxSteps := 10000000 }) only [go_sem, reduceIte, reduceCtorEq, Nat.reduceEqDiff, Nat.reduceLT, Nat.reduceLeDiff, Nat.reduceAdd, Nat.reduceBEq, Nat.reduceMul, Int.reduceToNat, Int.reduceLE, Int.reduceLT, Int.reduceEq, Int.reduceNeg]
  repeat (refine And.intro (by first | omega | (constructor <;> omega) | kernel_rfl) ?_)
  refine CallW.mx (toPoint_fn x0 hle0) ?_
  try simp (config := { maxSteps := 10000000 }) only [go_sem, reduceIte, reduceCtorEq, Nat.reduceEqDiff, Nat.reduceLT, Nat.reduceLeDiff, Nat.reduceAdd, Nat.reduceBEq, Nat.reduceMul, Int.reduceToNat, Int.reduceLE, Int.reduceLT, Int.reduceEq, Int.reduceNeg]
  repeat (refine And.intro (by first | omega | (constructor <;> omega) | kernel_rfl) ?_)
  refine CallW.mx (toPoint_fn x1 hle1) ?_
  try simp (config := { maxSteps := 10000000 }) only [go_sem, reduceIte, reduceCtorEq, Nat.reduceEqDiff, Nat.reduceLT, Nat.reduceLeDiff, Nat.reduceAdd, Nat.reduceBEq, Nat.reduceMul, Int.reduceToNat, Int.reduceLE, Int.reduceLT, Int.reduceEq, Int.reduceNeg]
  repeat (refine And.intro (by first | omega | (constructor <;> omega) | kernel_rfl) ?_)
  refine CallW.mx (implMoveLength_fn x0 x1) ?_
  try simp (config := { maxSteps := 10000000 }) only [go_sem, reduceIte, reduceCtorEq, Nat.reduceEqDiff, Nat.reduceLT, Nat.reduceLeDiff, Nat.reduceAdd, Nat.reduceBEq, Nat.reduceMul, Int.reduceToNat, Int.reduceLE, Int.reduceLT, Int.reduceEq, Int.reduceNeg]
  repeat (refine And.intro (by first | omega | (constructor <;> omega) | kernel_rfl) ?_)
  refine CallW.mx (eqRat_fn (oD (mvO x0 x1)) (oD (mvO x0 x1))) ?_
  try simp (config := { maxSteps := 10000000 }) only [go_sem, reduceIte, reduceCtorEq, Nat.reduceEqDiff, Nat.reduceLT, Nat.reduceLeDiff, Nat.reduceAdd, Nat.reduceBEq, Nat.reduceMul, Int.reduceToNat, Int.reduceLE, Int.reduceLT, Int.reduceEq, Int.reduceNeg]
  repeat (refine And.intro (by first | omega | (constructor <;> omega) | kernel_rfl) ?_)
  refine CallW.mk (toPoint_fn x0 hle0) ?_
  try simp (config := { maxSteps := 10000000 }) only [go_sem, reduceIte, reduceCtorEq, Nat.reduceEqDiff, Nat.reduceLT, Nat.reduceLeDiff, Nat.reduceAdd, Nat.reduceBEq, Nat.reduceMul, Int.reduceToNat, Int.reduceLE, Int.reduceLT, Int.reduceEq, Int.reduceNeg]
  repeat (refine And.intro (by first | omega | (constructor <;> omega) | kernel_rfl) ?_)
  refine CallW.mx (eqPoint_fn x0 x0) ?_
  try simp (config := { maxSteps := 10000000 }) only [go_sem, reduceIte, reduceCtorEq, Nat.reduceEqDiff, Nat.reduceLT, Nat.reduceLeDiff, Nat.reduceAdd, Nat.reduceBEq, Nat.reduceMul, Int.reduceToNat, Int.reduceLE, Int.reduceLT, Int.reduceEq, Int.reduceNeg]
  repeat (refine And.intro (by first | omega | (constructor <;> omega) | kernel_rfl) ?_)
  refine CallW.mk (toPoint_fn x1 hle1) ?_
  try simp (config := { maxSteps := 10000000 }) only [go_sem, reduceIte, reduceCtorEq, Nat.reduceEqDiff, Nat.reduceLT, Nat.reduceLeDiff, Nat.reduceAdd, Nat.reduceBEq, Nat.reduceMul, Int.reduceToNat, Int.reduceLE, Int.reduceLT, Int.reduceEq, Int.reduceNeg]
  repeat (refine And.intro (by first | omega | (constructor <;> omega) | kernel_rfl) ?_)
  refine CallW.mx (eqPoint_fn x1 x1) ?_
  try simp (config := { maxSteps := 10000000 }) only [go_sem, reduceIte, reduceCtorEq, Nat.reduceEqDiff, Nat.reduceLT, Nat.reduceLeDiff, Nat.reduceAdd, Nat.reduceBEq, Nat.reduceMul, Int.reduceToNat, Int.reduceLE, Int.reduceLT, Int.reduceEq, Int.reduceNeg]
  have hc0 : Go.Proofs.Ytjkbecgenjhaaaa.cnPoint x0 ≤ 3145728 := by have := Go.Proofs.Ytjkbecgenjhaaaa.cnPoint_le x0; omega
  repeat (refine And.intro (by first | omega | (constructor <;> omega) | kernel_rfl) ?_)
  refine CallW.m (markPoint_fn x0 1 (by omega) (by omega)) ?_
  try simp (config := { maxSteps := 10000000 }) only [go_sem, reduceIte, reduceCtorEq, Nat.reduceEqDiff, Nat.reduceLT, Nat.reduceLeDiff, Nat.reduceAdd, Nat.reduceBEq, Nat.reduceMul, Int.reduceToNat, Int.reduceLE, Int.reduceLT, Int.reduceEq, Int.reduceNeg]
  have hc1 : Go.Proofs.Ytjkbecgenjhaaaa.cnPoint x1 ≤ 3145728 := by have := Go.Proofs.Ytjkbecgenjhaaaa.cnPoint_le x1; omega
  repeat (refine And.intro (by first | omega | (constructor <;> omega) | kernel_rfl) ?_)
  refine CallW.m (markPoint_fn x1 (1 + (Go.Proofs.Ytjkbecgenjhaaaa.cnPoint x0 : Nat)) (by omega) (by omega)) ?_
  try simp (config := { maxSteps := 10000000 }) only [go_sem, reduceIte, reduceCtorEq, Nat.reduceEqDiff, Nat.reduceLT, Nat.reduceLeDiff, Nat.reduceAdd, Nat.reduceBEq, Nat.reduceMul, Int.reduceToNat, Int.reduceLE, Int.reduceLT, Int.reduceEq, Int.reduceNeg]
  have hkf : decide ((1 : Int) + (Go.Proofs.Ytjkbecgenjhaaaa.cnPoint x0 : Int) + (Go.Proofs.Ytjkbecgenjhaaaa.cnPoint x1 : Int) < 0) = false := decide_eq_false (by omega)
  try simp (config := { maxSteps := 10000000 }) only [go_sem, reduceIte, reduceCtorEq, Nat.reduceEqDiff, Nat.reduceLT, Nat.reduceLeDiff, Nat.reduceAdd, Nat.reduceBEq, Nat.reduceMul, Int.reduceToNat, Int.reduceLE, Int.reduceLT, Int.reduceEq, Int.reduceNeg, hkf]
  repeat (refine And.intro (by first | omega | (constructor <;> omega) | kernel_rfl) ?_)
  refine CallW.mx (eqRat_fn (oD (mvO x0 x1)) (oD (mvO x0 x1))) ?_
  try simp (config := { maxSteps := 10000000 }) only [go_sem, reduceIte, reduceCtorEq, Nat.reduceEqDiff, Nat.reduceLT, Nat.reduceLeDiff, Nat.reduceAdd, Nat.reduceBEq, Nat.reduceMul, Int.reduceToNat, Int.reduceLE, Int.reduceLT, Int.reduceEq, Int.reduceNeg]
  have hcg := cnRat_mv x0 x1
  repeat (refine And.intro (by first | omega | (constructor <;> omega) | kernel_rfl) ?_)
  refine CallW.m (markRat_fn (oD (mvO x0 x1)) 1 (by omega) (by omega)) ?_
  try simp (config := { maxSteps := 10000000 }) only [go_sem, reduceIte, reduceCtorEq, Nat.reduceEqDiff, Nat.reduceLT, Nat.reduceLeDiff, Nat.reduceAdd, Nat.reduceBEq, Nat.reduceMul, Int.reduceToNat, Int.reduceLE, Int.reduceLT, Int.reduceEq, Int.reduceNeg]
  repeat (refine And.intro (by first | omega | (constructor <;> omega) | kernel_rfl) ?_)
  refine CallW.mx (heldRat_fn (oD (mvO x0 x1)) 1 (by omega) (by omega)) ?_
  try simp (config := { maxSteps := 10000000 }) only [go_sem, reduceIte, reduceCtorEq, Nat.reduceEqDiff, Nat.reduceLT, Nat.reduceLeDiff, Nat.reduceAdd, Nat.reduceBEq, Nat.reduceMul, Int.reduceToNat, Int.reduceLE, Int.reduceLT, Int.reduceEq, Int.reduceNeg]
  repeat (refine And.intro (by first | omega | (constructor <;> omega) | kernel_rfl) ?_)
  refine CondW_dec (fun hlt => absurd hlt (by omega)) (fun _ => ?_)
  try simp (config := { maxSteps := 10000000 }) only [go_sem, reduceIte, reduceCtorEq, Nat.reduceEqDiff, Nat.reduceLT, Nat.reduceLeDiff, Nat.reduceAdd, Nat.reduceBEq, Nat.reduceMul, Int.reduceToNat, Int.reduceLE, Int.reduceLT, Int.reduceEq, Int.reduceNeg]
  repeat (refine And.intro (by first | omega | (constructor <;> omega) | kernel_rfl) ?_)
  refine CallW.mk (toPoint_fn x0 hle0) ?_
  try simp (config := { maxSteps := 10000000 }) only [go_sem, reduceIte, reduceCtorEq, Nat.reduceEqDiff, Nat.reduceLT, Nat.reduceLeDiff, Nat.reduceAdd, Nat.reduceBEq, Nat.reduceMul, Int.reduceToNat, Int.reduceLE, Int.reduceLT, Int.reduceEq, Int.reduceNeg]
  repeat (refine And.intro (by first | omega | (constructor <;> omega) | kernel_rfl) ?_)
  refine CallW.mk (toPoint_fn x1 hle1) ?_
  try simp (config := { maxSteps := 10000000 }) only [go_sem, reduceIte, reduceCtorEq, Nat.reduceEqDiff, Nat.reduceLT, Nat.reduceLeDiff, Nat.reduceAdd, Nat.reduceBEq, Nat.reduceMul, Int.reduceToNat, Int.reduceLE, Int.reduceLT, Int.reduceEq, Int.reduceNeg]
  repeat (refine And.intro (by first | omega | (constructor <;> omega) | kernel_rfl) ?_)
  refine CallW.mx (implMoveLength_fn x0 x1) ?_
  try simp (config := { maxSteps := 10000000 }) only [go_sem, reduceIte, reduceCtorEq, Nat.reduceEqDiff, Nat.reduceLT, Nat.reduceLeDiff, Nat.reduceAdd, Nat.reduceBEq, Nat.reduceMul, Int.reduceToNat, Int.reduceLE, Int.reduceLT, Int.reduceEq, Int.reduceNeg]
  repeat (refine And.intro (by first | omega | (constructor <;> omega) | kernel_rfl) ?_)
  refine CallW.mx (eqRat_fn (oD (mvO x0 x1)) (oD (mvO x0 x1))) ?_
  try simp (config := { maxSteps := 10000000 }) only [go_sem, reduceIte, reduceCtorEq, Nat.reduceEqDiff, Nat.reduceLT, Nat.reduceLeDiff, Nat.reduceAdd, Nat.reduceBEq, Nat.reduceMul, Int.reduceToNat, Int.reduceLE, Int.reduceLT, Int.reduceEq, Int.reduceNeg]
  repeat (refine And.intro (by first | omega | (constructor <;> omega) | kernel_rfl) ?_)
  refine CallW.mx (heldRat_fn (oD (mvO x0 x1)) 1 (by omega) (by omega)) ?_
  try simp (config := { maxSteps := 10000000 }) only [go_sem, reduceIte, reduceCtorEq, Nat.reduceEqDiff, Nat.reduceLT, Nat.reduceLeDiff, Nat.reduceAdd, Nat.reduceBEq, Nat.reduceMul, Int.reduceToNat, Int.reduceLE, Int.reduceLT, Int.reduceEq, Int.reduceNeg]
  repeat (refine And.intro (by first | omega | (constructor <;> omega) | kernel_rfl) ?_)
  refine CondW_dec (fun hlt => absurd hlt (by omega)) (fun _ => ?_)
  try simp (config := { maxSteps := 10000000 }) only [go_sem, reduceIte, reduceCtorEq, Nat.reduceEqDiff, Nat.reduceLT, Nat.reduceLeDiff, Nat.reduceAdd, Nat.reduceBEq, Nat.reduceMul, Int.reduceToNat, Int.reduceLE, Int.reduceLT, Int.reduceEq, Int.reduceNeg]
end Go.Proofs.Ytjkbecgenjhaaaa.DW
namespace Go.Proofs.Ytjkbecgenjhaaaa
open Go.RowKit DW
theorem law_FnExactMoveLength (a0_0 a0_1 a0_2 a0_3 a0_4 a0_5 : Value) (x0 : DPoint) (a1_0 a1_1 a1_2 a1_3 a1_4 a1_5 : Value) (x1 : DPoint) (w : World) (hx0 : Has RPoint w [a0_0, a0_1, a0_2, a0_3, a0_4, a0_5] x0) (hx1 : Has RPoint w [a1_0, a1_1, a1_2, a1_3, a1_4, a1_5] x1) :
    Calls Try.prog 10 #[.agg #[a0_0, a0_1, a0_2, a0_3, a0_4, a0_5], .agg #[a1_0, a1_1, a1_2, a1_3, a1_4, a1_5]] w (Post fun r w' => r = .bool true ∧ Below w.heap.size w w') :=
  (DW.lawMoveLength_fn x0 x1).bool (vs := [.agg #[a0_0, a0_1, a0_2, a0_3, a0_4, a0_5], .agg #[a1_0, a1_1, a1_2, a1_3, a1_4, a1_5]]) ⟨Arg.agg (t := DW.tPoint) (cs := [a0_0, a0_1, a0_2, a0_3, a0_4, a0_5]) rfl hx0, Arg.agg (t := DW.tPoint) (cs := [a1_0, a1_1, a1_2, a1_3, a1_4, a1_5]) rfl hx1, trivial⟩
end Go.Proofs.Ytjkbecgenjhaaaa
