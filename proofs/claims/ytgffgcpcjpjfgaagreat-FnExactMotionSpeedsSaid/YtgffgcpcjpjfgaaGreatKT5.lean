/-
  Texts of a proof, one behind another: Dw18, Dw21, Dw14, Dw15, CnO, Dw22, Dw17, Dw28, DwV, Dw29, Dw30, Dw31, Dw32, Dw33, Dw34, Rept, Dw35, Dw36, Dw37, SpdZ, OpensP.
-/
import Derived.Shelf.Bits.Mul64
import Derived.Laws.CopyOwn
import Derived.Deep.LoopGhost
import Derived.Test.YtgffgcpcjpjfgaaGreatKT4
set_option linter.all false
/-
  Points: validity; the length of a move.
-/
namespace Go.Proofs.YtgffgcpcjpjfgaaGreat.DW
open Go.RowKit
attribute [go_sem] Prod.eta
abbrev DP : Type := DR × DR
noncomputable def okPt (p : DP) : Bool := okR p.1 && okR p.2
theorem implIsValidPoint_fn (p : DP) : Fn Tryz.prog 122 [⟨tPoint, p⟩] false [⟨.bool, okPt p⟩] := by
  cases h : okR p.1
  · refine fn_enter tabOK mixes Tryz.func122 rfl rfl _ Tryz.ntmps122 _ Tryz.results122 (by simp) fun hwf => ?_
    try simp (config := { maxSteps := 10000000 }) only [go_sem, reduceIte, reduceCtorEq, Nat.reduceEqDiff, Nat.reduceLT, Nat.reduceLeDiff, Nat.reduceAdd, Nat.reduceBEq, Nat.reduceMul, Int.reduceToNat, Int.reduceLE, Int.reduceLT, Int.reduceEq, Int.reduceNeg]
    repeat (refine And.intro (by first | omega | (constructor <;> omega) | kernel_rfl) ?_)
    refine CallW.mk (implRatOk_fn p.1) ?_
    try simp (config := { maxSteps := 10000000 }) only [go_sem, reduceIte, reduceCtorEq, Nat.reduceEqDiff, Nat.reduceLT, Nat.reduceLeDiff, Nat.reduceAdd, Nat.reduceBEq, Nat.reduceMul, Int.reduceToNat, Int.reduceLE, Int.reduceLT, Int.reduceEq, Int.reduceNeg]
    try simp (config := { maxSteps := 10000000 }) only [go_sem, reduceIte, reduceCtorEq, Nat.reduceEqDiff, Nat.reduceLT, Nat.reduceLeDiff, Nat.reduceAdd, Nat.reduceBEq, Nat.reduceMul, Int.reduceToNat, Int.reduceLE, Int.reduceLT, Int.reduceEq, Int.reduceNeg, h]
    repeat (refine And.intro (by first | omega | (constructor <;> omega) | kernel_rfl) ?_)
    simp [okPt, h]
  · refine fn_enter tabOK mixes Tryz.func122 rfl rfl _ Tryz.ntmps122 _ Tryz.results122 (by simp) fun hwf => ?_
    try simp (config := { maxSteps := 10000000 }) only [go_sem, reduceIte, reduceCtorEq, Nat.reduceEqDiff, Nat.reduceLT, Nat.reduceLeDiff, Nat.reduceAdd, Nat.reduceBEq, Nat.reduceMul, Int.reduceToNat, Int.reduceLE, Int.reduceLT, Int.reduceEq, Int.reduceNeg]
    repeat (refine And.intro (by first | omega | (constructor <;> omega) | kernel_rfl) ?_)
    refine CallW.mk (implRatOk_fn p.1) ?_
    try simp (config := { maxSteps := 10000000 }) only [go_sem, reduceIte, reduceCtorEq, Nat.reduceEqDiff, Nat.reduceLT, Nat.reduceLeDiff, Nat.reduceAdd, Nat.reduceBEq, Nat.reduceMul, Int.reduceToNat, Int.reduceLE, Int.reduceLT, Int.reduceEq, Int.reduceNeg]
    try simp (config := { maxSteps := 10000000 }) only [go_sem, reduceIte, reduceCtorEq, Nat.reduceEqDiff, Nat.reduceLT, Nat.reduceLeDiff, Nat.reduceAdd, Nat.reduceBEq, Nat.reduceMul, Int.reduceToNat, Int.reduceLE, Int.reduceLT, Int.reduceEq, Int.reduceNeg, h]
    repeat (refine And.intro (by first | omega | (constructor <;> omega) | kernel_rfl) ?_)
    refine CallW.mk (implRatOk_fn p.2) ?_
    try simp (config := { maxSteps := 10000000 }) only [go_sem, reduceIte, reduceCtorEq, Nat.reduceEqDiff, Nat.reduceLT, Nat.reduceLeDiff, Nat.reduceAdd, Nat.reduceBEq, Nat.reduceMul, Int.reduceToNat, Int.reduceLE, Int.reduceLT, Int.reduceEq, Int.reduceNeg]
    repeat (refine And.intro (by first | omega | (constructor <;> omega) | kernel_rfl) ?_)
    simp [okPt, h]
theorem indexFunc_pt_fn (F : FuncId) (p : DP → Bool) (hF : ∀ x : DP, Fn Tryz.prog F [⟨tPoint, x⟩] false [⟨.bool, p x⟩]) (l : List DP) : Fn Tryz.prog 174 [⟨.slice tPoint, l⟩, ⟨.cst (.fn F), ()⟩] false [⟨.int, ixf (t := tPoint) p l⟩] := by
  refine fn_enter tabOK mixes Tryz.func174 rfl rfl _ Tryz.ntmps174 _ Tryz.results174 (by simp) fun hwf => ?_
  have hl : l.length ≤ 9223372036854775807 := (hwf ⟨.slice tPoint, l⟩ (by simp)).1
  try simp (config := { maxSteps := 10000000 }) only [go_sem, reduceIte, reduceCtorEq, Nat.reduceEqDiff, Nat.reduceLT, Nat.reduceLeDiff, Nat.reduceAdd, Nat.reduceBEq, Nat.reduceMul, Int.reduceToNat, Int.reduceLE, Int.reduceLT, Int.reduceEq, Int.reduceNeg]
  refine LoopG.intro _ _ _ (fun i : Nat => ⟨[(0, .sl tPoint l), (1, .sc (.func (.func F) #[] #[])), (7, .sc (.int .i64 l.length)), (8, .sc (.int .i64 i))], []⟩) (fun i => ∀ j < i, j < l.length → p (nth (t := tPoint) l j) = false) (fun i => l.length - i) 0 ?_ (fun j h => by simp at h) ?_
  · refine Wk.mk [] ?_
    try simp (config := { maxSteps := 10000000 }) only [go_sem, reduceIte, reduceCtorEq, Nat.reduceEqDiff, Nat.reduceLT, Nat.reduceLeDiff, Nat.reduceAdd, Nat.reduceBEq, Nat.reduceMul, Int.reduceToNat, Int.reduceLE, Int.reduceLT, Int.reduceEq, Int.reduceNeg]
    try (and_intros <;> first | rfl | omega | exact ⟨_, rfl⟩)
  · rintro i h2
    try simp (config := { maxSteps := 10000000 }) only [go_sem, reduceIte, reduceCtorEq, Nat.reduceEqDiff, Nat.reduceLT, Nat.reduceLeDiff, Nat.reduceAdd, Nat.reduceBEq, Nat.reduceMul, Int.reduceToNat, Int.reduceLE, Int.reduceLT, Int.reduceEq, Int.reduceNeg]
    refine CondW_dec (fun h3 => ?_) (fun h3 => ?_)
    · try simp (config := { maxSteps := 10000000 }) only [go_sem, reduceIte, reduceCtorEq, Nat.reduceEqDiff, Nat.reduceLT, Nat.reduceLeDiff, Nat.reduceAdd, Nat.reduceBEq, Nat.reduceMul, Int.reduceToNat, Int.reduceLE, Int.reduceLT, Int.reduceEq, Int.reduceNeg]
      repeat (refine And.intro (by first | omega | (constructor <;> omega) | kernel_rfl) ?_)
      repeat (refine And.intro (by first | omega | (constructor <;> omega) | kernel_rfl) ?_)
      refine CallW.mk (hF (nth (t := tPoint) l i)) ?_
      try simp (config := { maxSteps := 10000000 }) only [go_sem, reduceIte, reduceCtorEq, Nat.reduceEqDiff, Nat.reduceLT, Nat.reduceLeDiff, Nat.reduceAdd, Nat.reduceBEq, Nat.reduceMul, Int.reduceToNat, Int.reduceLE, Int.reduceLT, Int.reduceEq, Int.reduceNeg]
      refine CondW_b (fun h4 => ?_) (fun h4 => ?_)
      · try simp (config := { maxSteps := 10000000 }) only [go_sem, reduceIte, reduceCtorEq, Nat.reduceEqDiff, Nat.reduceLT, Nat.reduceLeDiff, Nat.reduceAdd, Nat.reduceBEq, Nat.reduceMul, Int.reduceToNat, Int.reduceLE, Int.reduceLT, Int.reduceEq, Int.reduceNeg]
        exact (ixf_at (by omega) h4 (fun j hj => h2 j hj (by omega))).symm
      · try simp (config := { maxSteps := 10000000 }) only [go_sem, reduceIte, reduceCtorEq, Nat.reduceEqDiff, Nat.reduceLT, Nat.reduceLeDiff, Nat.reduceAdd, Nat.reduceBEq, Nat.reduceMul, Int.reduceToNat, Int.reduceLE, Int.reduceLT, Int.reduceEq, Int.reduceNeg]
        repeat (refine And.intro (by first | omega | (constructor <;> omega) | kernel_rfl) ?_)
        refine LoopK.mk (i + 1) ?_ (fun j hj hl => ?_) (by omega)
        · refine Wk.mk [] ?_
          try simp (config := { maxSteps := 10000000 }) only [go_sem, reduceIte, reduceCtorEq, Nat.reduceEqDiff, Nat.reduceLT, Nat.reduceLeDiff, Nat.reduceAdd, Nat.reduceBEq, Nat.reduceMul, Int.reduceToNat, Int.reduceLE, Int.reduceLT, Int.reduceEq, Int.reduceNeg]
          try (and_intros <;> first | rfl | omega | exact ⟨_, rfl⟩)
        · by_cases hj2 : j < i
          · exact h2 j hj2 hl
          · rw [show j = i by omega]; exact h4
    · try simp (config := { maxSteps := 10000000 }) only [go_sem, reduceIte, reduceCtorEq, Nat.reduceEqDiff, Nat.reduceLT, Nat.reduceLeDiff, Nat.reduceAdd, Nat.reduceBEq, Nat.reduceMul, Int.reduceToNat, Int.reduceLE, Int.reduceLT, Int.reduceEq, Int.reduceNeg]
      exact (ixf_none fun j hj => h2 j (by omega) hj).symm
theorem containsFunc_pt_fn (F : FuncId) (p : DP → Bool) (hF : ∀ x : DP, Fn Tryz.prog F [⟨tPoint, x⟩] false [⟨.bool, p x⟩]) (l : List DP) : Fn Tryz.prog 120 [⟨.slice tPoint, l⟩, ⟨.cst (.fn F), ()⟩] false [⟨.bool, l.any p⟩] := by
  refine fn_enter tabOK mixes Tryz.func120 rfl rfl _ Tryz.ntmps120 _ Tryz.results120 (by simp) fun hwf => ?_
  try simp (config := { maxSteps := 10000000 }) only [go_sem, reduceIte, reduceCtorEq, Nat.reduceEqDiff, Nat.reduceLT, Nat.reduceLeDiff, Nat.reduceAdd, Nat.reduceBEq, Nat.reduceMul, Int.reduceToNat, Int.reduceLE, Int.reduceLT, Int.reduceEq, Int.reduceNeg]
  repeat (refine And.intro (by first | omega | (constructor <;> omega) | kernel_rfl) ?_)
  refine CallW.mk (indexFunc_pt_fn F p hF l) ?_
  try simp (config := { maxSteps := 10000000 }) only [go_sem, reduceIte, reduceCtorEq, Nat.reduceEqDiff, Nat.reduceLT, Nat.reduceLeDiff, Nat.reduceAdd, Nat.reduceBEq, Nat.reduceMul, Int.reduceToNat, Int.reduceLE, Int.reduceLT, Int.reduceEq, Int.reduceNeg]
  exact ixf_any
theorem arePointsC_fn (p : DP) : Fn Tryz.prog 121 [⟨tPoint, p⟩] false [⟨.bool, !okPt p⟩] := by
  refine fn_enter tabOK mixes Tryz.func121 rfl rfl _ Tryz.ntmps121 _ Tryz.results121 (by simp) fun hwf => ?_
  try simp (config := { maxSteps := 10000000 }) only [go_sem, reduceIte, reduceCtorEq, Nat.reduceEqDiff, Nat.reduceLT, Nat.reduceLeDiff, Nat.reduceAdd, Nat.reduceBEq, Nat.reduceMul, Int.reduceToNat, Int.reduceLE, Int.reduceLT, Int.reduceEq, Int.reduceNeg]
  repeat (refine And.intro (by first | omega | (constructor <;> omega) | kernel_rfl) ?_)
  refine CallW.mk (implIsValidPoint_fn p) ?_
  try simp (config := { maxSteps := 10000000 }) only [go_sem, reduceIte, reduceCtorEq, Nat.reduceEqDiff, Nat.reduceLT, Nat.reduceLeDiff, Nat.reduceAdd, Nat.reduceBEq, Nat.reduceMul, Int.reduceToNat, Int.reduceLE, Int.reduceLT, Int.reduceEq, Int.reduceNeg]
theorem arePoints_fn (l : List DP) : Fn Tryz.prog 80 [⟨.slice tPoint, l⟩] false [⟨.bool, !(l.any fun p => !okPt p)⟩] := by
  refine fn_enter tabOK mixes Tryz.func80 rfl rfl _ Tryz.ntmps80 _ Tryz.results80 (by simp) fun hwf => ?_
  try simp (config := { maxSteps := 10000000 }) only [go_sem, reduceIte, reduceCtorEq, Nat.reduceEqDiff, Nat.reduceLT, Nat.reduceLeDiff, Nat.reduceAdd, Nat.reduceBEq, Nat.reduceMul, Int.reduceToNat, Int.reduceLE, Int.reduceLT, Int.reduceEq, Int.reduceNeg]
  repeat (refine And.intro (by first | omega | (constructor <;> omega) | kernel_rfl) ?_)
  refine CallW.mk (containsFunc_pt_fn _ _ arePointsC_fn l) ?_
  try simp (config := { maxSteps := 10000000 }) only [go_sem, reduceIte, reduceCtorEq, Nat.reduceEqDiff, Nat.reduceLT, Nat.reduceLeDiff, Nat.reduceAdd, Nat.reduceBEq, Nat.reduceMul, Int.reduceToNat, Int.reduceLE, Int.reduceLT, Int.reduceEq, Int.reduceNeg]
theorem arePoints2_fn (p q : DP) : Fn Tryz.prog 80 [⟨.slice tPoint, [p, q]⟩] false [⟨.bool, okPt p && okPt q⟩] := by
  have h := arePoints_fn [p, q]
  have e : (!([p, q].any fun p => !okPt p)) = (okPt p && okPt q) := by simp
  rw [e] at h; exact h
noncomputable def sizeO (x : Option Rat) : Option Rat := if sgnO x < 0 then negO x else x
theorem okO_size {x : Option Rat} (h : okO x) : okO (sizeO x) := by
  unfold sizeO; split
  · exact okO_neg h
  · exact h
theorem sizeO_none : sizeO none = none := by unfold sizeO; split <;> rfl
theorem size_fn (x : Option Rat) : Fn Tryz.prog 106 [⟨tRat, oD x⟩] false [⟨tRat, oD (sizeO x)⟩] := by
  have h1 := ratSign_fn x
  have h2 := ratNeg_fn x
  unfold sizeO
  by_cases h : sgnO x < 0
  · rw [if_pos h]
    refine fn_enter tabOK mixes Tryz.func106 rfl rfl _ Tryz.ntmps106 _ Tryz.results106 (by simp) fun hwf => ?_
    try simp (config := { maxSteps := 10000000 }) only [go_sem, reduceIte, reduceCtorEq, Nat.reduceEqDiff, Nat.reduceLT, Nat.reduceLeDiff, Nat.reduceAdd, Nat.reduceBEq, Nat.reduceMul, Int.reduceToNat, Int.reduceLE, Int.reduceLT, Int.reduceEq, Int.reduceNeg]
    repeat (refine And.intro (by first | omega | (constructor <;> omega) | kernel_rfl) ?_)
    refine CallW.mk (h1) ?_
    try simp (config := { maxSteps := 10000000 }) only [go_sem, reduceIte, reduceCtorEq, Nat.reduceEqDiff, Nat.reduceLT, Nat.reduceLeDiff, Nat.reduceAdd, Nat.reduceBEq, Nat.reduceMul, Int.reduceToNat, Int.reduceLE, Int.reduceLT, Int.reduceEq, Int.reduceNeg]
    try simp (config := { maxSteps := 10000000 }) only [go_sem, reduceIte, reduceCtorEq, Nat.reduceEqDiff, Nat.reduceLT, Nat.reduceLeDiff, Nat.reduceAdd, Nat.reduceBEq, Nat.reduceMul, Int.reduceToNat, Int.reduceLE, Int.reduceLT, Int.reduceEq, Int.reduceNeg, h]
    repeat (refine And.intro (by first | omega | (constructor <;> omega) | kernel_rfl) ?_)
    refine CallW.mk (h2) ?_
    try simp (config := { maxSteps := 10000000 }) only [go_sem, reduceIte, reduceCtorEq, Nat.reduceEqDiff, Nat.reduceLT, Nat.reduceLeDiff, Nat.reduceAdd, Nat.reduceBEq, Nat.reduceMul, Int.reduceToNat, Int.reduceLE, Int.reduceLT, Int.reduceEq, Int.reduceNeg]
    all_goals repeat (refine And.intro (by first | omega | (constructor <;> omega) | kernel_rfl) ?_)
    all_goals first | kernel_rfl | omega | rfl
  · rw [if_neg h]
    refine fn_enter tabOK mixes Tryz.func106 rfl rfl _ Tryz.ntmps106 _ Tryz.results106 (by simp) fun hwf => ?_
    try simp (config := { maxSteps := 10000000 }) only [go_sem, reduceIte, reduceCtorEq, Nat.reduceEqDiff, Nat.reduceLT, Nat.reduceLeDiff, Nat.reduceAdd, Nat.reduceBEq, Nat.reduceMul, Int.reduceToNat, Int.reduceLE, Int.reduceLT, Int.reduceEq, Int.reduceNeg]
    repeat (refine And.intro (by first | omega | (constructor <;> omega) | kernel_rfl) ?_)
    refine CallW.mk (h1) ?_
    try simp (config := { maxSteps := 10000000 }) only [go_sem, reduceIte, reduceCtorEq, Nat.reduceEqDiff, Nat.reduceLT, Nat.reduceLeDiff, Nat.reduceAdd, Nat.reduceBEq, Nat.reduceMul, Int.reduceToNat, Int.reduceLE, Int.reduceLT, Int.reduceEq, Int.reduceNeg]
    try simp (config := { maxSteps := 10000000 }) only [go_sem, reduceIte, reduceCtorEq, Nat.reduceEqDiff, Nat.reduceLT, Nat.reduceLeDiff, Nat.reduceAdd, Nat.reduceBEq, Nat.reduceMul, Int.reduceToNat, Int.reduceLE, Int.reduceLT, Int.reduceEq, Int.reduceNeg, h]
    all_goals repeat (refine And.intro (by first | omega | (constructor <;> omega) | kernel_rfl) ?_)
    all_goals first | kernel_rfl | omega | rfl
theorem specRatNeg_fn (r : DR) : Fn Tryz.prog 150 [⟨tRat, r⟩] true [⟨tRat, oD (negO (rdO r))⟩] := by
  cases hr : okR r
  · rw [okR_f hr]
    have e : negO none = none := rfl
    rw [e]
    refine fn_enter tabOK mixes Tryz.func150 rfl rfl _ Tryz.ntmps150 _ Tryz.results150 (by simp) fun hwf => ?_
    try simp (config := { maxSteps := 10000000 }) only [go_sem, reduceIte, reduceCtorEq, Nat.reduceEqDiff, Nat.reduceLT, Nat.reduceLeDiff, Nat.reduceAdd, Nat.reduceBEq, Nat.reduceMul, Int.reduceToNat, Int.reduceLE, Int.reduceLT, Int.reduceEq, Int.reduceNeg]
    repeat (refine And.intro (by first | omega | (constructor <;> omega) | kernel_rfl) ?_)
    refine CallW.mk (specRatOk_fn r) ?_
    try simp (config := { maxSteps := 10000000 }) only [go_sem, reduceIte, reduceCtorEq, Nat.reduceEqDiff, Nat.reduceLT, Nat.reduceLeDiff, Nat.reduceAdd, Nat.reduceBEq, Nat.reduceMul, Int.reduceToNat, Int.reduceLE, Int.reduceLT, Int.reduceEq, Int.reduceNeg]
    try simp (config := { maxSteps := 10000000 }) only [go_sem, reduceIte, reduceCtorEq, Nat.reduceEqDiff, Nat.reduceLT, Nat.reduceLeDiff, Nat.reduceAdd, Nat.reduceBEq, Nat.reduceMul, Int.reduceToNat, Int.reduceLE, Int.reduceLT, Int.reduceEq, Int.reduceNeg, hr]
  · obtain ⟨p, hp, rfl, e1⟩ := okR_t hr
    rw [e1]
    have hr' : okR ((decide (p.num < 0), natL p.num.natAbs), natL p.den) = true := hr
    have e : negO (some p) = some (-p) := rfl
    rw [e]
    refine fn_enter tabOK mixes Tryz.func150 rfl rfl _ Tryz.ntmps150 _ Tryz.results150 (by simp) fun hwf => ?_
    try simp (config := { maxSteps := 10000000 }) only [go_sem, reduceIte, reduceCtorEq, Nat.reduceEqDiff, Nat.reduceLT, Nat.reduceLeDiff, Nat.reduceAdd, Nat.reduceBEq, Nat.reduceMul, Int.reduceToNat, Int.reduceLE, Int.reduceLT, Int.reduceEq, Int.reduceNeg]
    repeat (refine And.intro (by first | omega | (constructor <;> omega) | kernel_rfl) ?_)
    refine CallW.mk (specRatOk_fn (ratD p)) ?_
    try simp (config := { maxSteps := 10000000 }) only [go_sem, reduceIte, reduceCtorEq, Nat.reduceEqDiff, Nat.reduceLT, Nat.reduceLeDiff, Nat.reduceAdd, Nat.reduceBEq, Nat.reduceMul, Int.reduceToNat, Int.reduceLE, Int.reduceLT, Int.reduceEq, Int.reduceNeg]
    try simp (config := { maxSteps := 10000000 }) only [go_sem, reduceIte, reduceCtorEq, Nat.reduceEqDiff, Nat.reduceLT, Nat.reduceLeDiff, Nat.reduceAdd, Nat.reduceBEq, Nat.reduceMul, Int.reduceToNat, Int.reduceLE, Int.reduceLT, Int.reduceEq, Int.reduceNeg, hr']
    repeat (refine And.intro (by first | omega | (constructor <;> omega) | kernel_rfl) ?_)
    refine CallW.mk (l04Neg_fn p hp) ?_
    try simp (config := { maxSteps := 10000000 }) only [go_sem, reduceIte, reduceCtorEq, Nat.reduceEqDiff, Nat.reduceLT, Nat.reduceLeDiff, Nat.reduceAdd, Nat.reduceBEq, Nat.reduceMul, Int.reduceToNat, Int.reduceLE, Int.reduceLT, Int.reduceEq, Int.reduceNeg]
    all_goals repeat (refine And.intro (by first | omega | (constructor <;> omega) | kernel_rfl) ?_)
    all_goals first | kernel_rfl | omega | rfl
theorem subO_none_l (y : Option Rat) : subO none y = none := rfl
theorem subO_none_r (x : Option Rat) : subO x none = none := by cases x <;> rfl
theorem specRatSub_fn (r s : DR) : Fn Tryz.prog 96 [⟨tRat, r⟩, ⟨tRat, s⟩] true [⟨tRat, oD (subO (rdO r) (rdO s))⟩] := by
  cases hr : okR r
  · rw [okR_f hr, subO_none_l]
    refine fn_enter tabOK mixes Tryz.func96 rfl rfl _ Tryz.ntmps96 _ Tryz.results96 (by simp) fun hwf => ?_
    try simp (config := { maxSteps := 10000000 }) only [go_sem, reduceIte, reduceCtorEq, Nat.reduceEqDiff, Nat.reduceLT, Nat.reduceLeDiff, Nat.reduceAdd, Nat.reduceBEq, Nat.reduceMul, Int.reduceToNat, Int.reduceLE, Int.reduceLT, Int.reduceEq, Int.reduceNeg]
    repeat (refine And.intro (by first | omega | (constructor <;> omega) | kernel_rfl) ?_)
    refine CallW.mk (specRatOk_fn r) ?_
    try simp (config := { maxSteps := 10000000 }) only [go_sem, reduceIte, reduceCtorEq, Nat.reduceEqDiff, Nat.reduceLT, Nat.reduceLeDiff, Nat.reduceAdd, Nat.reduceBEq, Nat.reduceMul, Int.reduceToNat, Int.reduceLE, Int.reduceLT, Int.reduceEq, Int.reduceNeg]
    try simp (config := { maxSteps := 10000000 }) only [go_sem, reduceIte, reduceCtorEq, Nat.reduceEqDiff, Nat.reduceLT, Nat.reduceLeDiff, Nat.reduceAdd, Nat.reduceBEq, Nat.reduceMul, Int.reduceToNat, Int.reduceLE, Int.reduceLT, Int.reduceEq, Int.reduceNeg, hr]
  · cases hs : okR s
    · rw [okR_f hs, subO_none_r]
      refine fn_enter tabOK mixes Tryz.func96 rfl rfl _ Tryz.ntmps96 _ Tryz.results96 (by simp) fun hwf => ?_
      try simp (config := { maxSteps := 10000000 }) only [go_sem, reduceIte, reduceCtorEq, Nat.reduceEqDiff, Nat.reduceLT, Nat.reduceLeDiff, Nat.reduceAdd, Nat.reduceBEq, Nat.reduceMul, Int.reduceToNat, Int.reduceLE, Int.reduceLT, Int.reduceEq, Int.reduceNeg]
      repeat (refine And.intro (by first | omega | (constructor <;> omega) | kernel_rfl) ?_)
      refine CallW.mk (specRatOk_fn r) ?_
      try simp (config := { maxSteps := 10000000 }) only [go_sem, reduceIte, reduceCtorEq, Nat.reduceEqDiff, Nat.reduceLT, Nat.reduceLeDiff, Nat.reduceAdd, Nat.reduceBEq, Nat.reduceMul, Int.reduceToNat, Int.reduceLE, Int.reduceLT, Int.reduceEq, Int.reduceNeg]
      try simp (config := { maxSteps := 10000000 }) only [go_sem, reduceIte, reduceCtorEq, Nat.reduceEqDiff, Nat.reduceLT, Nat.reduceLeDiff, Nat.reduceAdd, Nat.reduceBEq, Nat.reduceMul, Int.reduceToNat, Int.reduceLE, Int.reduceLT, Int.reduceEq, Int.reduceNeg, hr]
      repeat (refine And.intro (by first | omega | (constructor <;> omega) | kernel_rfl) ?_)
      refine CallW.mk (specRatOk_fn s) ?_
      try simp (config := { maxSteps := 10000000 }) only [go_sem, reduceIte, reduceCtorEq, Nat.reduceEqDiff, Nat.reduceLT, Nat.reduceLeDiff, Nat.reduceAdd, Nat.reduceBEq, Nat.reduceMul, Int.reduceToNat, Int.reduceLE, Int.reduceLT, Int.reduceEq, Int.reduceNeg]
      try simp (config := { maxSteps := 10000000 }) only [go_sem, reduceIte, reduceCtorEq, Nat.reduceEqDiff, Nat.reduceLT, Nat.reduceLeDiff, Nat.reduceAdd, Nat.reduceBEq, Nat.reduceMul, Int.reduceToNat, Int.reduceLE, Int.reduceLT, Int.reduceEq, Int.reduceNeg, hs]
    · obtain ⟨p, hp, rfl, e1⟩ := okR_t hr
      obtain ⟨q, hq, rfl, e2⟩ := okR_t hs
      rw [e1, e2]
      have hr' : okR ((decide (p.num < 0), natL p.num.natAbs), natL p.den) = true := hr
      have hs' : okR ((decide (q.num < 0), natL q.num.natAbs), natL q.den) = true := hs
      have e : subO (some p) (some q) = capR (p + -q) := rfl
      rw [e]
      refine fn_enter tabOK mixes Tryz.func96 rfl rfl _ Tryz.ntmps96 _ Tryz.results96 (by simp) fun hwf => ?_
      try simp (config := { maxSteps := 10000000 }) only [go_sem, reduceIte, reduceCtorEq, Nat.reduceEqDiff, Nat.reduceLT, Nat.reduceLeDiff, Nat.reduceAdd, Nat.reduceBEq, Nat.reduceMul, Int.reduceToNat, Int.reduceLE, Int.reduceLT, Int.reduceEq, Int.reduceNeg]
      repeat (refine And.intro (by first | omega | (constructor <;> omega) | kernel_rfl) ?_)
      refine CallW.mk (specRatOk_fn (ratD p)) ?_
      try simp (config := { maxSteps := 10000000 }) only [go_sem, reduceIte, reduceCtorEq, Nat.reduceEqDiff, Nat.reduceLT, Nat.reduceLeDiff, Nat.reduceAdd, Nat.reduceBEq, Nat.reduceMul, Int.reduceToNat, Int.reduceLE, Int.reduceLT, Int.reduceEq, Int.reduceNeg]
      try simp (config := { maxSteps := 10000000 }) only [go_sem, reduceIte, reduceCtorEq, Nat.reduceEqDiff, Nat.reduceLT, Nat.reduceLeDiff, Nat.reduceAdd, Nat.reduceBEq, Nat.reduceMul, Int.reduceToNat, Int.reduceLE, Int.reduceLT, Int.reduceEq, Int.reduceNeg, hr']
      repeat (refine And.intro (by first | omega | (constructor <;> omega) | kernel_rfl) ?_)
      refine CallW.mk (specRatOk_fn (ratD q)) ?_
      try simp (config := { maxSteps := 10000000 }) only [go_sem, reduceIte, reduceCtorEq, Nat.reduceEqDiff, Nat.reduceLT, Nat.reduceLeDiff, Nat.reduceAdd, Nat.reduceBEq, Nat.reduceMul, Int.reduceToNat, Int.reduceLE, Int.reduceLT, Int.reduceEq, Int.reduceNeg]
      try simp (config := { maxSteps := 10000000 }) only [go_sem, reduceIte, reduceCtorEq, Nat.reduceEqDiff, Nat.reduceLT, Nat.reduceLeDiff, Nat.reduceAdd, Nat.reduceBEq, Nat.reduceMul, Int.reduceToNat, Int.reduceLE, Int.reduceLT, Int.reduceEq, Int.reduceNeg, hs']
      repeat (refine And.intro (by first | omega | (constructor <;> omega) | kernel_rfl) ?_)
      refine CallW.mk (l04Neg_fn q hq) ?_
      try simp (config := { maxSteps := 10000000 }) only [go_sem, reduceIte, reduceCtorEq, Nat.reduceEqDiff, Nat.reduceLT, Nat.reduceLeDiff, Nat.reduceAdd, Nat.reduceBEq, Nat.reduceMul, Int.reduceToNat, Int.reduceLE, Int.reduceLT, Int.reduceEq, Int.reduceNeg]
      repeat (refine And.intro (by first | omega | (constructor <;> omega) | kernel_rfl) ?_)
      refine CallW.mk (l04Add_fn p (-q) hp (small_neg hq)) ?_
      try simp (config := { maxSteps := 10000000 }) only [go_sem, reduceIte, reduceCtorEq, Nat.reduceEqDiff, Nat.reduceLT, Nat.reduceLeDiff, Nat.reduceAdd, Nat.reduceBEq, Nat.reduceMul, Int.reduceToNat, Int.reduceLE, Int.reduceLT, Int.reduceEq, Int.reduceNeg]
      all_goals repeat (refine And.intro (by first | omega | (constructor <;> omega) | kernel_rfl) ?_)
      all_goals first | kernel_rfl | omega | rfl
theorem l24Size_fn (x : Option Rat) (hx : okO x) : Fn Tryz.prog 95 [⟨tRat, oD x⟩] false [⟨tRat, oD (sizeO x)⟩] := by
  have h1 := specRatSign_fn (oD x)
  have h2 := specRatNeg_fn (oD x)
  rw [rdO_oD hx] at h1 h2
  unfold sizeO
  by_cases h : sgnO x < 0
  · rw [if_pos h]
    refine fn_enter tabOK mixes Tryz.func95 rfl rfl _ Tryz.ntmps95 _ Tryz.results95 (by simp) fun hwf => ?_
    try simp (config := { maxSteps := 10000000 }) only [go_sem, reduceIte, reduceCtorEq, Nat.reduceEqDiff, Nat.reduceLT, Nat.reduceLeDiff, Nat.reduceAdd, Nat.reduceBEq, Nat.reduceMul, Int.reduceToNat, Int.reduceLE, Int.reduceLT, Int.reduceEq, Int.reduceNeg]
    repeat (refine And.intro (by first | omega | (constructor <;> omega) | kernel_rfl) ?_)
    refine CallW.mk (h1) ?_
    try simp (config := { maxSteps := 10000000 }) only [go_sem, reduceIte, reduceCtorEq, Nat.reduceEqDiff, Nat.reduceLT, Nat.reduceLeDiff, Nat.reduceAdd, Nat.reduceBEq, Nat.reduceMul, Int.reduceToNat, Int.reduceLE, Int.reduceLT, Int.reduceEq, Int.reduceNeg]
    try simp (config := { maxSteps := 10000000 }) only [go_sem, reduceIte, reduceCtorEq, Nat.reduceEqDiff, Nat.reduceLT, Nat.reduceLeDiff, Nat.reduceAdd, Nat.reduceBEq, Nat.reduceMul, Int.reduceToNat, Int.reduceLE, Int.reduceLT, Int.reduceEq, Int.reduceNeg, h]
    repeat (refine And.intro (by first | omega | (constructor <;> omega) | kernel_rfl) ?_)
    refine CallW.mk (h2) ?_
    try simp (config := { maxSteps := 10000000 }) only [go_sem, reduceIte, reduceCtorEq, Nat.reduceEqDiff, Nat.reduceLT, Nat.reduceLeDiff, Nat.reduceAdd, Nat.reduceBEq, Nat.reduceMul, Int.reduceToNat, Int.reduceLE, Int.reduceLT, Int.reduceEq, Int.reduceNeg]
    all_goals repeat (refine And.intro (by first | omega | (constructor <;> omega) | kernel_rfl) ?_)
    all_goals first | kernel_rfl | omega | rfl
  · rw [if_neg h]
    refine fn_enter tabOK mixes Tryz.func95 rfl rfl _ Tryz.ntmps95 _ Tryz.results95 (by simp) fun hwf => ?_
    try simp (config := { maxSteps := 10000000 }) only [go_sem, reduceIte, reduceCtorEq, Nat.reduceEqDiff, Nat.reduceLT, Nat.reduceLeDiff, Nat.reduceAdd, Nat.reduceBEq, Nat.reduceMul, Int.reduceToNat, Int.reduceLE, Int.reduceLT, Int.reduceEq, Int.reduceNeg]
    repeat (refine And.intro (by first | omega | (constructor <;> omega) | kernel_rfl) ?_)
    refine CallW.mk (h1) ?_
    try simp (config := { maxSteps := 10000000 }) only [go_sem, reduceIte, reduceCtorEq, Nat.reduceEqDiff, Nat.reduceLT, Nat.reduceLeDiff, Nat.reduceAdd, Nat.reduceBEq, Nat.reduceMul, Int.reduceToNat, Int.reduceLE, Int.reduceLT, Int.reduceEq, Int.reduceNeg]
    try simp (config := { maxSteps := 10000000 }) only [go_sem, reduceIte, reduceCtorEq, Nat.reduceEqDiff, Nat.reduceLT, Nat.reduceLeDiff, Nat.reduceAdd, Nat.reduceBEq, Nat.reduceMul, Int.reduceToNat, Int.reduceLE, Int.reduceLT, Int.reduceEq, Int.reduceNeg, h]
    all_goals repeat (refine And.intro (by first | omega | (constructor <;> omega) | kernel_rfl) ?_)
    all_goals first | kernel_rfl | omega | rfl
theorem maxO_n1 (y : Option Rat) : maxO none y = none := rfl
theorem maxO_n2 (x : Option Rat) : maxO x none = none := by cases x <;> rfl
noncomputable def mvO (p q : DP) : Option Rat := maxO (sizeO (subO (rdO q.1) (rdO p.1))) (sizeO (subO (rdO q.2) (rdO p.2)))
theorem okO_mv (p q : DP) : okO (mvO p q) := okO_max (okO_size (okO_sub _ _)) (okO_size (okO_sub _ _))
theorem mvO_bad {p q : DP} (h : (okPt p && okPt q) = false) : mvO p q = none := by
  unfold mvO
  have hb : rdO p.1 = none ∨ rdO p.2 = none ∨ rdO q.1 = none ∨ rdO q.2 = none := by
    simp only [okPt, Bool.and_eq_false_iff] at h
    rcases h with (h | h) | (h | h)
    · exact .inl (okR_f h)
    · exact .inr (.inl (okR_f h))
    · exact .inr (.inr (.inl (okR_f h)))
    · exact .inr (.inr (.inr (okR_f h)))
  rcases hb with h | h | h | h <;> rw [h]
  · rw [subO_none_r, sizeO_none, maxO_n1]
  · rw [subO_none_r, sizeO_none, maxO_n2]
  · rw [subO_none_l, sizeO_none, maxO_n1]
  · rw [subO_none_l, sizeO_none, maxO_n2]
theorem moveLength_fn (p q : DP) : Fn Tryz.prog 54 [⟨tPoint, p⟩, ⟨tPoint, q⟩] false [⟨tRat, oD (mvO p q)⟩] := by
  cases hb : okPt p && okPt q
  · rw [mvO_bad hb]
    refine fn_enter tabOK mixes Tryz.func54 rfl rfl _ Tryz.ntmps54 _ Tryz.results54 (by simp) fun hwf => ?_
    try simp (config := { maxSteps := 10000000 }) only [go_sem, reduceIte, reduceCtorEq, Nat.reduceEqDiff, Nat.reduceLT, Nat.reduceLeDiff, Nat.reduceAdd, Nat.reduceBEq, Nat.reduceMul, Int.reduceToNat, Int.reduceLE, Int.reduceLT, Int.reduceEq, Int.reduceNeg]
    repeat (refine And.intro (by first | omega | (constructor <;> omega) | kernel_rfl) ?_)
    refine CallW.mk (arePoints2_fn p q) ?_
    try simp (config := { maxSteps := 10000000 }) only [go_sem, reduceIte, reduceCtorEq, Nat.reduceEqDiff, Nat.reduceLT, Nat.reduceLeDiff, Nat.reduceAdd, Nat.reduceBEq, Nat.reduceMul, Int.reduceToNat, Int.reduceLE, Int.reduceLT, Int.reduceEq, Int.reduceNeg]
    try simp (config := { maxSteps := 10000000 }) only [go_sem, reduceIte, reduceCtorEq, Nat.reduceEqDiff, Nat.reduceLT, Nat.reduceLeDiff, Nat.reduceAdd, Nat.reduceBEq, Nat.reduceMul, Int.reduceToNat, Int.reduceLE, Int.reduceLT, Int.reduceEq, Int.reduceNeg, hb]
  · have hb' := hb
    simp only [okPt, Bool.and_eq_true] at hb'
    obtain ⟨⟨p1, p2⟩, ⟨q1, q2⟩⟩ := hb'
    have c1 := ratSub_fn (rdO q.1) (rdO p.1) (okO_rdO _) (okO_rdO _)
    have c2 := ratSub_fn (rdO q.2) (rdO p.2) (okO_rdO _) (okO_rdO _)
    rw [okR_oD q1, okR_oD p1] at c1
    rw [okR_oD q2, okR_oD p2] at c2
    have c3 := size_fn (subO (rdO q.1) (rdO p.1))
    have c4 := size_fn (subO (rdO q.2) (rdO p.2))
    have c5 := ratMax_fn (sizeO (subO (rdO q.1) (rdO p.1))) (sizeO (subO (rdO q.2) (rdO p.2))) (okO_size (okO_sub _ _)) (okO_size (okO_sub _ _))
    unfold mvO
    refine fn_enter tabOK mixes Tryz.func54 rfl rfl _ Tryz.ntmps54 _ Tryz.results54 (by simp) fun hwf => ?_
    try simp (config := { maxSteps := 10000000 }) only [go_sem, reduceIte, reduceCtorEq, Nat.reduceEqDiff, Nat.reduceLT, Nat.reduceLeDiff, Nat.reduceAdd, Nat.reduceBEq, Nat.reduceMul, Int.reduceToNat, Int.reduceLE, Int.reduceLT, Int.reduceEq, Int.reduceNeg]
    repeat (refine And.intro (by first | omega | (constructor <;> omega) | kernel_rfl) ?_)
    refine CallW.mk (arePoints2_fn p q) ?_
    try simp (config := { maxSteps := 10000000 }) only [go_sem, reduceIte, reduceCtorEq, Nat.reduceEqDiff, Nat.reduceLT, Nat.reduceLeDiff, Nat.reduceAdd, Nat.reduceBEq, Nat.reduceMul, Int.reduceToNat, Int.reduceLE, Int.reduceLT, Int.reduceEq, Int.reduceNeg]
    try simp (config := { maxSteps := 10000000 }) only [go_sem, reduceIte, reduceCtorEq, Nat.reduceEqDiff, Nat.reduceLT, Nat.reduceLeDiff, Nat.reduceAdd, Nat.reduceBEq, Nat.reduceMul, Int.reduceToNat, Int.reduceLE, Int.reduceLT, Int.reduceEq, Int.reduceNeg, hb]
    repeat (refine And.intro (by first | omega | (constructor <;> omega) | kernel_rfl) ?_)
    refine CallW.mk (c1) ?_
    try simp (config := { maxSteps := 10000000 }) only [go_sem, reduceIte, reduceCtorEq, Nat.reduceEqDiff, Nat.reduceLT, Nat.reduceLeDiff, Nat.reduceAdd, Nat.reduceBEq, Nat.reduceMul, Int.reduceToNat, Int.reduceLE, Int.reduceLT, Int.reduceEq, Int.reduceNeg]
    repeat (refine And.intro (by first | omega | (constructor <;> omega) | kernel_rfl) ?_)
    refine CallW.mk (c3) ?_
    try simp (config := { maxSteps := 10000000 }) only [go_sem, reduceIte, reduceCtorEq, Nat.reduceEqDiff, Nat.reduceLT, Nat.reduceLeDiff, Nat.reduceAdd, Nat.reduceBEq, Nat.reduceMul, Int.reduceToNat, Int.reduceLE, Int.reduceLT, Int.reduceEq, Int.reduceNeg]
    repeat (refine And.intro (by first | omega | (constructor <;> omega) | kernel_rfl) ?_)
    refine CallW.mk (c2) ?_
    try simp (config := { maxSteps := 10000000 }) only [go_sem, reduceIte, reduceCtorEq, Nat.reduceEqDiff, Nat.reduceLT, Nat.reduceLeDiff, Nat.reduceAdd, Nat.reduceBEq, Nat.reduceMul, Int.reduceToNat, Int.reduceLE, Int.reduceLT, Int.reduceEq, Int.reduceNeg]
    repeat (refine And.intro (by first | omega | (constructor <;> omega) | kernel_rfl) ?_)
    refine CallW.mk (c4) ?_
    try simp (config := { maxSteps := 10000000 }) only [go_sem, reduceIte, reduceCtorEq, Nat.reduceEqDiff, Nat.reduceLT, Nat.reduceLeDiff, Nat.reduceAdd, Nat.reduceBEq, Nat.reduceMul, Int.reduceToNat, Int.reduceLE, Int.reduceLT, Int.reduceEq, Int.reduceNeg]
    repeat (refine And.intro (by first | omega | (constructor <;> omega) | kernel_rfl) ?_)
    refine CallW.mk (c5) ?_
    try simp (config := { maxSteps := 10000000 }) only [go_sem, reduceIte, reduceCtorEq, Nat.reduceEqDiff, Nat.reduceLT, Nat.reduceLeDiff, Nat.reduceAdd, Nat.reduceBEq, Nat.reduceMul, Int.reduceToNat, Int.reduceLE, Int.reduceLT, Int.reduceEq, Int.reduceNeg]
    all_goals repeat (refine And.intro (by first | omega | (constructor <;> omega) | kernel_rfl) ?_)
    all_goals first | kernel_rfl | omega | rfl
theorem specMoveLength_fn (p q : DP) : Fn Tryz.prog 48 [⟨tPoint, p⟩, ⟨tPoint, q⟩] true [⟨tRat, oD (mvO p q)⟩] := by
  have c1 := specRatSub_fn q.1 p.1
  have c2 := specRatSub_fn q.2 p.2
  have c3 := l24Size_fn (subO (rdO q.1) (rdO p.1)) (okO_sub _ _)
  have c4 := l24Size_fn (subO (rdO q.2) (rdO p.2)) (okO_sub _ _)
  have c5 := specRatMax_fn (oD (sizeO (subO (rdO q.1) (rdO p.1)))) (oD (sizeO (subO (rdO q.2) (rdO p.2))))
  rw [rdO_oD (okO_size (okO_sub _ _)), rdO_oD (okO_size (okO_sub _ _))] at c5
  unfold mvO
  refine fn_enter tabOK mixes Tryz.func48 rfl rfl _ Tryz.ntmps48 _ Tryz.results48 (by simp) fun hwf => ?_
  try simp (config := { maxSteps := 10000000 }) only [go_sem, reduceIte, reduceCtorEq, Nat.reduceEqDiff, Nat.reduceLT, Nat.reduceLeDiff, Nat.reduceAdd, Nat.reduceBEq, Nat.reduceMul, Int.reduceToNat, Int.reduceLE, Int.reduceLT, Int.reduceEq, Int.reduceNeg]
  repeat (refine And.intro (by first | omega | (constructor <;> omega) | kernel_rfl) ?_)
  refine CallW.mk (c1) ?_
  try simp (config := { maxSteps := 10000000 }) only [go_sem, reduceIte, reduceCtorEq, Nat.reduceEqDiff, Nat.reduceLT, Nat.reduceLeDiff, Nat.reduceAdd, Nat.reduceBEq, Nat.reduceMul, Int.reduceToNat, Int.reduceLE, Int.reduceLT, Int.reduceEq, Int.reduceNeg]
  repeat (refine And.intro (by first | omega | (constructor <;> omega) | kernel_rfl) ?_)
  refine CallW.mk (c3) ?_
  try simp (config := { maxSteps := 10000000 }) only [go_sem, reduceIte, reduceCtorEq, Nat.reduceEqDiff, Nat.reduceLT, Nat.reduceLeDiff, Nat.reduceAdd, Nat.reduceBEq, Nat.reduceMul, Int.reduceToNat, Int.reduceLE, Int.reduceLT, Int.reduceEq, Int.reduceNeg]
  repeat (refine And.intro (by first | omega | (constructor <;> omega) | kernel_rfl) ?_)
  refine CallW.mk (c2) ?_
  try simp (config := { maxSteps := 10000000 }) only [go_sem, reduceIte, reduceCtorEq, Nat.reduceEqDiff, Nat.reduceLT, Nat.reduceLeDiff, Nat.reduceAdd, Nat.reduceBEq, Nat.reduceMul, Int.reduceToNat, Int.reduceLE, Int.reduceLT, Int.reduceEq, Int.reduceNeg]
  repeat (refine And.intro (by first | omega | (constructor <;> omega) | kernel_rfl) ?_)
  refine CallW.mk (c4) ?_
  try simp (config := { maxSteps := 10000000 }) only [go_sem, reduceIte, reduceCtorEq, Nat.reduceEqDiff, Nat.reduceLT, Nat.reduceLeDiff, Nat.reduceAdd, Nat.reduceBEq, Nat.reduceMul, Int.reduceToNat, Int.reduceLE, Int.reduceLT, Int.reduceEq, Int.reduceNeg]
  repeat (refine And.intro (by first | omega | (constructor <;> omega) | kernel_rfl) ?_)
  refine CallW.mk (c5) ?_
  try simp (config := { maxSteps := 10000000 }) only [go_sem, reduceIte, reduceCtorEq, Nat.reduceEqDiff, Nat.reduceLT, Nat.reduceLeDiff, Nat.reduceAdd, Nat.reduceBEq, Nat.reduceMul, Int.reduceToNat, Int.reduceLE, Int.reduceLT, Int.reduceEq, Int.reduceNeg]
  all_goals repeat (refine And.intro (by first | omega | (constructor <;> omega) | kernel_rfl) ?_)
  all_goals first | kernel_rfl | omega | rfl
end Go.Proofs.YtgffgcpcjpjfgaaGreat.DW

/-
  Headings, steps, the length of a motion.
-/
namespace Go.Proofs.YtgffgcpcjpjfgaaGreat.DW
open Go.RowKit
abbrev DS : Type := Int × DP
end Go.Proofs.YtgffgcpcjpjfgaaGreat.DW

/-
  Limits of speed.
-/
namespace Go.Proofs.YtgffgcpcjpjfgaaGreat.DW
open Go.RowKit
theorem natL_minInt : natL 9223372036854775808 = [854775808, 223372036, 9] := by
  rw [natL_pos (by decide), natL_pos (by decide), natL_pos (by decide), natL_zero]; rfl
theorem bigOf_fn (n : Int) : Fn Tryz.prog 99 [⟨.int, n⟩] true [⟨tBig, bigD n⟩] := by
  by_cases h0 : 0 ≤ n
  · have hn : ¬ n < 0 := by omega
    have e : n.natAbs = n.toNat := by omega
    refine fn_enter tabOK mixes Tryz.func99 rfl rfl _ Tryz.ntmps99 _ Tryz.results99 (by simp) fun hwf => ?_
    try simp (config := { maxSteps := 10000000 }) only [go_sem, reduceIte, reduceCtorEq, Nat.reduceEqDiff, Nat.reduceLT, Nat.reduceLeDiff, Nat.reduceAdd, Nat.reduceBEq, Nat.reduceMul, Int.reduceToNat, Int.reduceLE, Int.reduceLT, Int.reduceEq, Int.reduceNeg, h0, hn]
    repeat (refine And.intro (by first | omega | (constructor <;> omega) | kernel_rfl) ?_)
    refine CallW.mk (implNatOf_fn n) ?_
    try simp (config := { maxSteps := 10000000 }) only [go_sem, reduceIte, reduceCtorEq, Nat.reduceEqDiff, Nat.reduceLT, Nat.reduceLeDiff, Nat.reduceAdd, Nat.reduceBEq, Nat.reduceMul, Int.reduceToNat, Int.reduceLE, Int.reduceLT, Int.reduceEq, Int.reduceNeg]
    rw [e]
    all_goals repeat (refine And.intro (by first | omega | (constructor <;> omega) | kernel_rfl) ?_)
    all_goals first | kernel_rfl | omega | rfl
  · by_cases h1 : n = -9223372036854775808
    · subst h1
      have e : natL 9223372036854775807 = natL (9223372036854775807 : Int).toNat := rfl
      have ha := natAdd_fn (9223372036854775807 : Int).toNat (1 : Int).toNat (Nat.le_trans (natL_len3 (n := 9223372036854775807) (by decide)) (by decide)) (Nat.le_trans (nl_small (by decide)) (by decide))
      refine fn_enter tabOK mixes Tryz.func99 rfl rfl _ Tryz.ntmps99 _ Tryz.results99 (by simp) fun hwf => ?_
      try simp (config := { maxSteps := 10000000 }) only [go_sem, reduceIte, reduceCtorEq, Nat.reduceEqDiff, Nat.reduceLT, Nat.reduceLeDiff, Nat.reduceAdd, Nat.reduceBEq, Nat.reduceMul, Int.reduceToNat, Int.reduceLE, Int.reduceLT, Int.reduceEq, Int.reduceNeg]
      repeat (refine And.intro (by first | omega | (constructor <;> omega) | kernel_rfl) ?_)
      refine CallW.mk (implNatOf_fn 9223372036854775807) ?_
      try simp (config := { maxSteps := 10000000 }) only [go_sem, reduceIte, reduceCtorEq, Nat.reduceEqDiff, Nat.reduceLT, Nat.reduceLeDiff, Nat.reduceAdd, Nat.reduceBEq, Nat.reduceMul, Int.reduceToNat, Int.reduceLE, Int.reduceLT, Int.reduceEq, Int.reduceNeg]
      repeat (refine And.intro (by first | omega | (constructor <;> omega) | kernel_rfl) ?_)
      refine CallW.mk (implNatOf_fn 1) ?_
      try simp (config := { maxSteps := 10000000 }) only [go_sem, reduceIte, reduceCtorEq, Nat.reduceEqDiff, Nat.reduceLT, Nat.reduceLeDiff, Nat.reduceAdd, Nat.reduceBEq, Nat.reduceMul, Int.reduceToNat, Int.reduceLE, Int.reduceLT, Int.reduceEq, Int.reduceNeg]
      repeat (refine And.intro (by first | omega | (constructor <;> omega) | kernel_rfl) ?_)
      refine CallW.mk (ha) ?_
      try simp (config := { maxSteps := 10000000 }) only [go_sem, reduceIte, reduceCtorEq, Nat.reduceEqDiff, Nat.reduceLT, Nat.reduceLeDiff, Nat.reduceAdd, Nat.reduceBEq, Nat.reduceMul, Int.reduceToNat, Int.reduceLE, Int.reduceLT, Int.reduceEq, Int.reduceNeg]
      all_goals repeat (refine And.intro (by first | omega | (constructor <;> omega) | kernel_rfl) ?_)
      all_goals first | kernel_rfl | omega | rfl
    · have hn : n < 0 := by omega
      have e : n.natAbs = (-n).toNat := by omega
      refine fn_enter tabOK mixes Tryz.func99 rfl rfl _ Tryz.ntmps99 _ Tryz.results99 (by simp) fun hwf => ?_
      have hI : I64 n := hwf ⟨.int, n⟩ (by simp)
      have hI1 := hI.1
      have hI2 := hI.2
      try simp (config := { maxSteps := 10000000 }) only [go_sem, reduceIte, reduceCtorEq, Nat.reduceEqDiff, Nat.reduceLT, Nat.reduceLeDiff, Nat.reduceAdd, Nat.reduceBEq, Nat.reduceMul, Int.reduceToNat, Int.reduceLE, Int.reduceLT, Int.reduceEq, Int.reduceNeg, h0, h1]
      repeat (refine And.intro (by first | omega | (constructor <;> omega) | kernel_rfl) ?_)
      repeat (refine And.intro (by first | omega | (constructor <;> omega) | kernel_rfl) ?_)
      refine CallW.mk (implNatOf_fn (-n)) ?_
      try simp (config := { maxSteps := 10000000 }) only [go_sem, reduceIte, reduceCtorEq, Nat.reduceEqDiff, Nat.reduceLT, Nat.reduceLeDiff, Nat.reduceAdd, Nat.reduceBEq, Nat.reduceMul, Int.reduceToNat, Int.reduceLE, Int.reduceLT, Int.reduceEq, Int.reduceNeg]
      rw [e]
      simp [hn]
theorem BigIntOf_fn (n : Int) : Fn Tryz.prog 91 [⟨.int, n⟩] true [⟨tBig, bigD n⟩] := by
  by_cases h1 : n = -9223372036854775808
  · subst h1
    have hm := l03Make_to (s := true) (n := 9223372036854775808) (z := -9223372036854775808) rfl (Nat.le_trans (natL_len3 (n := 9223372036854775808) (by decide)) (by decide))
    rw [natL_minInt] at hm
    refine fn_enter tabOK mixes Tryz.func91 rfl rfl _ Tryz.ntmps91 _ Tryz.results91 (by simp) fun hwf => ?_
    try simp (config := { maxSteps := 10000000 }) only [go_sem, reduceIte, reduceCtorEq, Nat.reduceEqDiff, Nat.reduceLT, Nat.reduceLeDiff, Nat.reduceAdd, Nat.reduceBEq, Nat.reduceMul, Int.reduceToNat, Int.reduceLE, Int.reduceLT, Int.reduceEq, Int.reduceNeg]
    repeat (refine And.intro (by first | omega | (constructor <;> omega) | kernel_rfl) ?_)
    refine CallW.mk (hm) ?_
    try simp (config := { maxSteps := 10000000 }) only [go_sem, reduceIte, reduceCtorEq, Nat.reduceEqDiff, Nat.reduceLT, Nat.reduceLeDiff, Nat.reduceAdd, Nat.reduceBEq, Nat.reduceMul, Int.reduceToNat, Int.reduceLE, Int.reduceLT, Int.reduceEq, Int.reduceNeg]
    all_goals repeat (refine And.intro (by first | omega | (constructor <;> omega) | kernel_rfl) ?_)
    all_goals first | kernel_rfl | omega | rfl
  · refine fn_enter tabOK mixes Tryz.func91 rfl rfl _ Tryz.ntmps91 _ Tryz.results91 (by simp) fun hwf => ?_
    have hI : I64 n := hwf ⟨.int, n⟩ (by simp)
    have hI1 := hI.1
    have hI2 := hI.2
    try simp (config := { maxSteps := 10000000 }) only [go_sem, reduceIte, reduceCtorEq, Nat.reduceEqDiff, Nat.reduceLT, Nat.reduceLeDiff, Nat.reduceAdd, Nat.reduceBEq, Nat.reduceMul, Int.reduceToNat, Int.reduceLE, Int.reduceLT, Int.reduceEq, Int.reduceNeg]
    refine CondW_dec (fun h => absurd h h1) (fun _ => ?_)
    try simp (config := { maxSteps := 10000000 }) only [go_sem, reduceIte, reduceCtorEq, Nat.reduceEqDiff, Nat.reduceLT, Nat.reduceLeDiff, Nat.reduceAdd, Nat.reduceBEq, Nat.reduceMul, Int.reduceToNat, Int.reduceLE, Int.reduceLT, Int.reduceEq, Int.reduceNeg]
    refine CondW_dec (fun hn => ?_) (fun hn => ?_)
    · have hm := l03Make_to (s := true) (n := (-n).toNat) (z := n) (by unfold sgn; simp; omega) (Nat.le_trans (natL_len3 (n := -n) (by omega)) (by decide))
      try simp (config := { maxSteps := 10000000 }) only [go_sem, reduceIte, reduceCtorEq, Nat.reduceEqDiff, Nat.reduceLT, Nat.reduceLeDiff, Nat.reduceAdd, Nat.reduceBEq, Nat.reduceMul, Int.reduceToNat, Int.reduceLE, Int.reduceLT, Int.reduceEq, Int.reduceNeg]
      repeat (refine And.intro (by first | omega | (constructor <;> omega) | kernel_rfl) ?_)
      repeat (refine And.intro (by first | omega | (constructor <;> omega) | kernel_rfl) ?_)
      refine CallW.mk (specNatOf_fn (-n)) ?_
      try simp (config := { maxSteps := 10000000 }) only [go_sem, reduceIte, reduceCtorEq, Nat.reduceEqDiff, Nat.reduceLT, Nat.reduceLeDiff, Nat.reduceAdd, Nat.reduceBEq, Nat.reduceMul, Int.reduceToNat, Int.reduceLE, Int.reduceLT, Int.reduceEq, Int.reduceNeg]
      repeat (refine And.intro (by first | omega | (constructor <;> omega) | kernel_rfl) ?_)
      refine CallW.mk (hm) ?_
      try simp (config := { maxSteps := 10000000 }) only [go_sem, reduceIte, reduceCtorEq, Nat.reduceEqDiff, Nat.reduceLT, Nat.reduceLeDiff, Nat.reduceAdd, Nat.reduceBEq, Nat.reduceMul, Int.reduceToNat, Int.reduceLE, Int.reduceLT, Int.reduceEq, Int.reduceNeg]
      all_goals repeat (refine And.intro (by first | omega | (constructor <;> omega) | kernel_rfl) ?_)
      all_goals first | kernel_rfl | omega | rfl
    · have hm := l03Make_to (s := false) (n := n.toNat) (z := n) (by unfold sgn; simp; omega) (Nat.le_trans (natL_len3 (n := n) (by omega)) (by decide))
      try simp (config := { maxSteps := 10000000 }) only [go_sem, reduceIte, reduceCtorEq, Nat.reduceEqDiff, Nat.reduceLT, Nat.reduceLeDiff, Nat.reduceAdd, Nat.reduceBEq, Nat.reduceMul, Int.reduceToNat, Int.reduceLE, Int.reduceLT, Int.reduceEq, Int.reduceNeg]
      repeat (refine And.intro (by first | omega | (constructor <;> omega) | kernel_rfl) ?_)
      refine CallW.mk (specNatOf_fn n) ?_
      try simp (config := { maxSteps := 10000000 }) only [go_sem, reduceIte, reduceCtorEq, Nat.reduceEqDiff, Nat.reduceLT, Nat.reduceLeDiff, Nat.reduceAdd, Nat.reduceBEq, Nat.reduceMul, Int.reduceToNat, Int.reduceLE, Int.reduceLT, Int.reduceEq, Int.reduceNeg]
      repeat (refine And.intro (by first | omega | (constructor <;> omega) | kernel_rfl) ?_)
      refine CallW.mk (hm) ?_
      try simp (config := { maxSteps := 10000000 }) only [go_sem, reduceIte, reduceCtorEq, Nat.reduceEqDiff, Nat.reduceLT, Nat.reduceLeDiff, Nat.reduceAdd, Nat.reduceBEq, Nat.reduceMul, Int.reduceToNat, Int.reduceLE, Int.reduceLT, Int.reduceEq, Int.reduceNeg]
      all_goals repeat (refine And.intro (by first | omega | (constructor <;> omega) | kernel_rfl) ?_)
      all_goals first | kernel_rfl | omega | rfl
def ratI (n : Int) : DR := (bigD n, [1])
theorem ratI_eq (n : Int) : ratI n = ratD (n : Rat) := by
  rw [ratI, ratD, Rat.num_intCast, Rat.den_intCast, natL_1]
attribute [go_sem] ratI
theorem ratInt_fn (n : Int) : Fn Tryz.prog 52 [⟨.int, n⟩] true [⟨tRat, ratI n⟩] := by
  refine fn_enter tabOK mixes Tryz.func52 rfl rfl _ Tryz.ntmps52 _ Tryz.results52 (by simp) fun hwf => ?_
  try simp (config := { maxSteps := 10000000 }) only [go_sem, reduceIte, reduceCtorEq, Nat.reduceEqDiff, Nat.reduceLT, Nat.reduceLeDiff, Nat.reduceAdd, Nat.reduceBEq, Nat.reduceMul, Int.reduceToNat, Int.reduceLE, Int.reduceLT, Int.reduceEq, Int.reduceNeg]
  repeat (refine And.intro (by first | omega | (constructor <;> omega) | kernel_rfl) ?_)
  refine CallW.mk (bigOf_fn n) ?_
  try simp (config := { maxSteps := 10000000 }) only [go_sem, reduceIte, reduceCtorEq, Nat.reduceEqDiff, Nat.reduceLT, Nat.reduceLeDiff, Nat.reduceAdd, Nat.reduceBEq, Nat.reduceMul, Int.reduceToNat, Int.reduceLE, Int.reduceLT, Int.reduceEq, Int.reduceNeg]
  all_goals repeat (refine And.intro (by first | omega | (constructor <;> omega) | kernel_rfl) ?_)
  all_goals first | kernel_rfl | omega | rfl
theorem RatFromInt_fn (n : Int) : Fn Tryz.prog 46 [⟨.int, n⟩] true [⟨tRat, ratI n⟩] := by
  refine fn_enter tabOK mixes Tryz.func46 rfl rfl _ Tryz.ntmps46 _ Tryz.results46 (by simp) fun hwf => ?_
  try simp (config := { maxSteps := 10000000 }) only [go_sem, reduceIte, reduceCtorEq, Nat.reduceEqDiff, Nat.reduceLT, Nat.reduceLeDiff, Nat.reduceAdd, Nat.reduceBEq, Nat.reduceMul, Int.reduceToNat, Int.reduceLE, Int.reduceLT, Int.reduceEq, Int.reduceNeg]
  repeat (refine And.intro (by first | omega | (constructor <;> omega) | kernel_rfl) ?_)
  refine CallW.mk (BigIntOf_fn n) ?_
  try simp (config := { maxSteps := 10000000 }) only [go_sem, reduceIte, reduceCtorEq, Nat.reduceEqDiff, Nat.reduceLT, Nat.reduceLeDiff, Nat.reduceAdd, Nat.reduceBEq, Nat.reduceMul, Int.reduceToNat, Int.reduceLE, Int.reduceLT, Int.reduceEq, Int.reduceNeg]
  all_goals repeat (refine And.intro (by first | omega | (constructor <;> omega) | kernel_rfl) ?_)
  all_goals first | kernel_rfl | omega | rfl
theorem l07Min_fn (a b : Int) : Fn Tryz.prog 126 [⟨.int, a⟩, ⟨.int, b⟩] false [⟨.int, min a b⟩] := by
  refine fn_enter tabOK mixes Tryz.func126 rfl rfl _ Tryz.ntmps126 _ Tryz.results126 (by simp) fun hwf => ?_
  try simp (config := { maxSteps := 10000000 }) only [go_sem, reduceIte, reduceCtorEq, Nat.reduceEqDiff, Nat.reduceLT, Nat.reduceLeDiff, Nat.reduceAdd, Nat.reduceBEq, Nat.reduceMul, Int.reduceToNat, Int.reduceLE, Int.reduceLT, Int.reduceEq, Int.reduceNeg]
  refine CondW_dec (fun h => ?_) (fun h => ?_)
  · try simp (config := { maxSteps := 10000000 }) only [go_sem, reduceIte, reduceCtorEq, Nat.reduceEqDiff, Nat.reduceLT, Nat.reduceLeDiff, Nat.reduceAdd, Nat.reduceBEq, Nat.reduceMul, Int.reduceToNat, Int.reduceLE, Int.reduceLT, Int.reduceEq, Int.reduceNeg]
    omega
  · try simp (config := { maxSteps := 10000000 }) only [go_sem, reduceIte, reduceCtorEq, Nat.reduceEqDiff, Nat.reduceLT, Nat.reduceLeDiff, Nat.reduceAdd, Nat.reduceBEq, Nat.reduceMul, Int.reduceToNat, Int.reduceLE, Int.reduceLT, Int.reduceEq, Int.reduceNeg]
    omega
theorem isSpeed_fn (n : Int) : Fn Tryz.prog 127 [⟨.int, n⟩] false [⟨.bool, decide (1 ≤ n ∧ n ≤ 1000)⟩] := by
  refine fn_enter tabOK mixes Tryz.func127 rfl rfl _ Tryz.ntmps127 _ Tryz.results127 (by simp) fun hwf => ?_
  try simp (config := { maxSteps := 10000000 }) only [go_sem, reduceIte, reduceCtorEq, Nat.reduceEqDiff, Nat.reduceLT, Nat.reduceLeDiff, Nat.reduceAdd, Nat.reduceBEq, Nat.reduceMul, Int.reduceToNat, Int.reduceLE, Int.reduceLT, Int.reduceEq, Int.reduceNeg]
  repeat (refine And.intro (by first | omega | (constructor <;> omega) | kernel_rfl) ?_)
  refine CallW.mk (within_fn n 1 1000) ?_
  try simp (config := { maxSteps := 10000000 }) only [go_sem, reduceIte, reduceCtorEq, Nat.reduceEqDiff, Nat.reduceLT, Nat.reduceLeDiff, Nat.reduceAdd, Nat.reduceBEq, Nat.reduceMul, Int.reduceToNat, Int.reduceLE, Int.reduceLT, Int.reduceEq, Int.reduceNeg]
theorem speedC_fn (n : Int) : Fn Tryz.prog 134 [⟨.int, n⟩] false [⟨.bool, !decide (1 ≤ n ∧ n ≤ 1000)⟩] := by
  refine fn_enter tabOK mixes Tryz.func134 rfl rfl _ Tryz.ntmps134 _ Tryz.results134 (by simp) fun hwf => ?_
  try simp (config := { maxSteps := 10000000 }) only [go_sem, reduceIte, reduceCtorEq, Nat.reduceEqDiff, Nat.reduceLT, Nat.reduceLeDiff, Nat.reduceAdd, Nat.reduceBEq, Nat.reduceMul, Int.reduceToNat, Int.reduceLE, Int.reduceLT, Int.reduceEq, Int.reduceNeg]
  repeat (refine And.intro (by first | omega | (constructor <;> omega) | kernel_rfl) ?_)
  refine CallW.mk (isSpeed_fn n) ?_
  try simp (config := { maxSteps := 10000000 }) only [go_sem, reduceIte, reduceCtorEq, Nat.reduceEqDiff, Nat.reduceLT, Nat.reduceLeDiff, Nat.reduceAdd, Nat.reduceBEq, Nat.reduceMul, Int.reduceToNat, Int.reduceLE, Int.reduceLT, Int.reduceEq, Int.reduceNeg]
end Go.Proofs.YtgffgcpcjpjfgaaGreat.DW

/-
  Limits of speed: both functions.
-/
namespace Go.Proofs.YtgffgcpcjpjfgaaGreat.DW
open Go.RowKit
def limA (n : Int) (l : List Int) (i : Nat) : Int := if 0 < (i : Int) ∧ (i : Int) < n - 1 then min (ni l ((i : Int) - 1).toNat) (ni l i) else 0
def spdL (n : Int) (l : List Int) (k : Nat) : List DR := (List.range k).map fun i => ratI (limA n l i * limA n l i)
def spdOk (n : Int) (l : List Int) : Prop := 1 ≤ n ∧ (l.length : Int) = n - 1 ∧ ∀ x ∈ l, 1 ≤ x ∧ x ≤ 1000
theorem spdL_succ (n : Int) (l : List Int) (k : Nat) : spdL n l (k + 1) = spdL n l k ++ [ratI (limA n l k * limA n l k)] := by
  simp [spdL, List.range_succ]
theorem spdL_len (n : Int) (l : List Int) (k : Nat) : (spdL n l k).length = k := by simp [spdL]
theorem limA_le {n : Int} {l : List Int} (h : spdOk n l) (i : Nat) : 0 ≤ limA n l i ∧ limA n l i ≤ 1000 := by
  unfold limA
  split
  · rename_i hc
    have h1 : ((i : Int) - 1).toNat < l.length := by have := h.2.1; omega
    have h2 : i < l.length := by have := h.2.1; omega
    have e1 := h.2.2 _ (List.getElem_mem h1)
    have e2 := h.2.2 _ (List.getElem_mem h2)
    rw [ni_lt h1, ni_lt h2]
    omega
  · omega
theorem sq_le {k : Int} (h : 0 ≤ k ∧ k ≤ 1000) : 0 ≤ k * k ∧ k * k ≤ 1000000 :=
  ⟨Int.mul_nonneg h.1 h.1, by have := Int.mul_le_mul h.2 h.2 h.1 (by decide : (0 : Int) ≤ 1000); omega⟩
end Go.Proofs.YtgffgcpcjpjfgaaGreat.DW

/-
  Bounds of what numbers take.
-/
namespace Go.Proofs.YtgffgcpcjpjfgaaGreat.DW
open Go.RowKit
theorem okR_len {r : DR} (h : okR r = true) : r.1.2.length ≤ 24 ∧ r.2.length ≤ 24 := by
  obtain ⟨p, hp, rfl, _⟩ := okR_t h
  exact hp
end Go.Proofs.YtgffgcpcjpjfgaaGreat.DW

/-
  The length of a motion.
-/
namespace Go.Proofs.YtgffgcpcjpjfgaaGreat.DW
open Go.RowKit
theorem addO_none_l (y : Option Rat) : addO none y = none := rfl
theorem addO_none_r (x : Option Rat) : addO x none = none := by cases x <;> rfl
theorem specRatAdd_fn (r s : DR) : Fn Tryz.prog 47 [⟨tRat, r⟩, ⟨tRat, s⟩] true [⟨tRat, oD (addO (rdO r) (rdO s))⟩] := by
  cases hr : okR r
  · rw [okR_f hr, addO_none_l]
    refine fn_enter tabOK mixes Tryz.func47 rfl rfl _ Tryz.ntmps47 _ Tryz.results47 (by simp) fun hwf => ?_
    try simp (config := { maxSteps := 10000000 }) only [go_sem, reduceIte, reduceCtorEq, Nat.reduceEqDiff, Nat.reduceLT, Nat.reduceLeDiff, Nat.reduceAdd, Nat.reduceBEq, Nat.reduceMul, Int.reduceToNat, Int.reduceLE, Int.reduceLT, Int.reduceEq, Int.reduceNeg]
    repeat (refine And.intro (by first | omega | (constructor <;> omega) | kernel_rfl) ?_)
    refine CallW.mk (specRatOk_fn r) ?_
    try simp (config := { maxSteps := 10000000 }) only [go_sem, reduceIte, reduceCtorEq, Nat.reduceEqDiff, Nat.reduceLT, Nat.reduceLeDiff, Nat.reduceAdd, Nat.reduceBEq, Nat.reduceMul, Int.reduceToNat, Int.reduceLE, Int.reduceLT, Int.reduceEq, Int.reduceNeg]
    try simp (config := { maxSteps := 10000000 }) only [go_sem, reduceIte, reduceCtorEq, Nat.reduceEqDiff, Nat.reduceLT, Nat.reduceLeDiff, Nat.reduceAdd, Nat.reduceBEq, Nat.reduceMul, Int.reduceToNat, Int.reduceLE, Int.reduceLT, Int.reduceEq, Int.reduceNeg, hr]
  · cases hs : okR s
    · rw [okR_f hs, addO_none_r]
      refine fn_enter tabOK mixes Tryz.func47 rfl rfl _ Tryz.ntmps47 _ Tryz.results47 (by simp) fun hwf => ?_
      try simp (config := { maxSteps := 10000000 }) only [go_sem, reduceIte, reduceCtorEq, Nat.reduceEqDiff, Nat.reduceLT, Nat.reduceLeDiff, Nat.reduceAdd, Nat.reduceBEq, Nat.reduceMul, Int.reduceToNat, Int.reduceLE, Int.reduceLT, Int.reduceEq, Int.reduceNeg]
      repeat (refine And.intro (by first | omega | (constructor <;> omega) | kernel_rfl) ?_)
      refine CallW.mk (specRatOk_fn r) ?_
      try simp (config := { maxSteps := 10000000 }) only [go_sem, reduceIte, reduceCtorEq, Nat.reduceEqDiff, Nat.reduceLT, Nat.reduceLeDiff, Nat.reduceAdd, Nat.reduceBEq, Nat.reduceMul, Int.reduceToNat, Int.reduceLE, Int.reduceLT, Int.reduceEq, Int.reduceNeg]
      try simp (config := { maxSteps := 10000000 }) only [go_sem, reduceIte, reduceCtorEq, Nat.reduceEqDiff, Nat.reduceLT, Nat.reduceLeDiff, Nat.reduceAdd, Nat.reduceBEq, Nat.reduceMul, Int.reduceToNat, Int.reduceLE, Int.reduceLT, Int.reduceEq, Int.reduceNeg, hr]
      repeat (refine And.intro (by first | omega | (constructor <;> omega) | kernel_rfl) ?_)
      refine CallW.mk (specRatOk_fn s) ?_
      try simp (config := { maxSteps := 10000000 }) only [go_sem, reduceIte, reduceCtorEq, Nat.reduceEqDiff, Nat.reduceLT, Nat.reduceLeDiff, Nat.reduceAdd, Nat.reduceBEq, Nat.reduceMul, Int.reduceToNat, Int.reduceLE, Int.reduceLT, Int.reduceEq, Int.reduceNeg]
      try simp (config := { maxSteps := 10000000 }) only [go_sem, reduceIte, reduceCtorEq, Nat.reduceEqDiff, Nat.reduceLT, Nat.reduceLeDiff, Nat.reduceAdd, Nat.reduceBEq, Nat.reduceMul, Int.reduceToNat, Int.reduceLE, Int.reduceLT, Int.reduceEq, Int.reduceNeg, hs]
    · obtain ⟨p, hp, rfl, e1⟩ := okR_t hr
      obtain ⟨q, hq, rfl, e2⟩ := okR_t hs
      rw [e1, e2]
      have hr' : okR ((decide (p.num < 0), natL p.num.natAbs), natL p.den) = true := hr
      have hs' : okR ((decide (q.num < 0), natL q.num.natAbs), natL q.den) = true := hs
      have e : addO (some p) (some q) = capR (p + q) := rfl
      rw [e]
      refine fn_enter tabOK mixes Tryz.func47 rfl rfl _ Tryz.ntmps47 _ Tryz.results47 (by simp) fun hwf => ?_
      try simp (config := { maxSteps := 10000000 }) only [go_sem, reduceIte, reduceCtorEq, Nat.reduceEqDiff, Nat.reduceLT, Nat.reduceLeDiff, Nat.reduceAdd, Nat.reduceBEq, Nat.reduceMul, Int.reduceToNat, Int.reduceLE, Int.reduceLT, Int.reduceEq, Int.reduceNeg]
      repeat (refine And.intro (by first | omega | (constructor <;> omega) | kernel_rfl) ?_)
      refine CallW.mk (specRatOk_fn (ratD p)) ?_
      try simp (config := { maxSteps := 10000000 }) only [go_sem, reduceIte, reduceCtorEq, Nat.reduceEqDiff, Nat.reduceLT, Nat.reduceLeDiff, Nat.reduceAdd, Nat.reduceBEq, Nat.reduceMul, Int.reduceToNat, Int.reduceLE, Int.reduceLT, Int.reduceEq, Int.reduceNeg]
      try simp (config := { maxSteps := 10000000 }) only [go_sem, reduceIte, reduceCtorEq, Nat.reduceEqDiff, Nat.reduceLT, Nat.reduceLeDiff, Nat.reduceAdd, Nat.reduceBEq, Nat.reduceMul, Int.reduceToNat, Int.reduceLE, Int.reduceLT, Int.reduceEq, Int.reduceNeg, hr']
      repeat (refine And.intro (by first | omega | (constructor <;> omega) | kernel_rfl) ?_)
      refine CallW.mk (specRatOk_fn (ratD q)) ?_
      try simp (config := { maxSteps := 10000000 }) only [go_sem, reduceIte, reduceCtorEq, Nat.reduceEqDiff, Nat.reduceLT, Nat.reduceLeDiff, Nat.reduceAdd, Nat.reduceBEq, Nat.reduceMul, Int.reduceToNat, Int.reduceLE, Int.reduceLT, Int.reduceEq, Int.reduceNeg]
      try simp (config := { maxSteps := 10000000 }) only [go_sem, reduceIte, reduceCtorEq, Nat.reduceEqDiff, Nat.reduceLT, Nat.reduceLeDiff, Nat.reduceAdd, Nat.reduceBEq, Nat.reduceMul, Int.reduceToNat, Int.reduceLE, Int.reduceLT, Int.reduceEq, Int.reduceNeg, hs']
      repeat (refine And.intro (by first | omega | (constructor <;> omega) | kernel_rfl) ?_)
      refine CallW.mk (l04Add_fn p q hp hq) ?_
      try simp (config := { maxSteps := 10000000 }) only [go_sem, reduceIte, reduceCtorEq, Nat.reduceEqDiff, Nat.reduceLT, Nat.reduceLeDiff, Nat.reduceAdd, Nat.reduceBEq, Nat.reduceMul, Int.reduceToNat, Int.reduceLE, Int.reduceLT, Int.reduceEq, Int.reduceNeg]
      all_goals repeat (refine And.intro (by first | omega | (constructor <;> omega) | kernel_rfl) ?_)
      all_goals first | kernel_rfl | omega | rfl
theorem okO_0 : okO (some ((0 : Int) : Rat)) := by
  intro q hq; injection hq with hq; subst hq; exact ⟨Nat.le_trans (nl_small (n := 0) (by decide)) (by decide), Nat.le_trans (nl_small (n := 1) (by decide)) (by decide)⟩
theorem ratI_0 : ratI 0 = oD (some ((0 : Int) : Rat)) := ratI_eq 0
end Go.Proofs.YtgffgcpcjpjfgaaGreat.DW

/-
  The greatest one of fractions.
-/
namespace Go.Proofs.YtgffgcpcjpjfgaaGreat.DW
open Go.RowKit
end Go.Proofs.YtgffgcpcjpjfgaaGreat.DW

/-
  Fractions: products, the smaller one, lists in new memory.
-/
namespace Go.Proofs.YtgffgcpcjpjfgaaGreat.DW
open Go.RowKit
theorem mulO_none_l (y : Option Rat) : mulO none y = none := rfl
theorem mulO_none_r (x : Option Rat) : mulO x none = none := by cases x <;> rfl
theorem ratMul_fn (x y : Option Rat) (hx : okO x) (hy : okO y) : Fn Tryz.prog 178 [⟨tRat, oD x⟩, ⟨tRat, oD y⟩] true [⟨tRat, oD (mulO x y)⟩] := by
  cases x with
  | none =>
    refine fn_enter tabOK mixes Tryz.func178 rfl rfl _ Tryz.ntmps178 _ Tryz.results178 (by simp) fun hwf => ?_
    try simp (config := { maxSteps := 10000000 }) only [go_sem, reduceIte, reduceCtorEq, Nat.reduceEqDiff, Nat.reduceLT, Nat.reduceLeDiff, Nat.reduceAdd, Nat.reduceBEq, Nat.reduceMul, Int.reduceToNat, Int.reduceLE, Int.reduceLT, Int.reduceEq, Int.reduceNeg]
    repeat (refine And.intro (by first | omega | (constructor <;> omega) | kernel_rfl) ?_)
    refine CallW.mk (isGood_n) ?_
    try simp (config := { maxSteps := 10000000 }) only [go_sem, reduceIte, reduceCtorEq, Nat.reduceEqDiff, Nat.reduceLT, Nat.reduceLeDiff, Nat.reduceAdd, Nat.reduceBEq, Nat.reduceMul, Int.reduceToNat, Int.reduceLE, Int.reduceLT, Int.reduceEq, Int.reduceNeg]
    try simp (config := { maxSteps := 10000000 }) only [go_sem, reduceIte, reduceCtorEq, Nat.reduceEqDiff, Nat.reduceLT, Nat.reduceLeDiff, Nat.reduceAdd, Nat.reduceBEq, Nat.reduceMul, Int.reduceToNat, Int.reduceLE, Int.reduceLT, Int.reduceEq, Int.reduceNeg, mulO]
  | some p =>
    cases y with
    | none =>
      refine fn_enter tabOK mixes Tryz.func178 rfl rfl _ Tryz.ntmps178 _ Tryz.results178 (by simp) fun hwf => ?_
      try simp (config := { maxSteps := 10000000 }) only [go_sem, reduceIte, reduceCtorEq, Nat.reduceEqDiff, Nat.reduceLT, Nat.reduceLeDiff, Nat.reduceAdd, Nat.reduceBEq, Nat.reduceMul, Int.reduceToNat, Int.reduceLE, Int.reduceLT, Int.reduceEq, Int.reduceNeg]
      repeat (refine And.intro (by first | omega | (constructor <;> omega) | kernel_rfl) ?_)
      refine CallW.mk (isGood_s p) ?_
      try simp (config := { maxSteps := 10000000 }) only [go_sem, reduceIte, reduceCtorEq, Nat.reduceEqDiff, Nat.reduceLT, Nat.reduceLeDiff, Nat.reduceAdd, Nat.reduceBEq, Nat.reduceMul, Int.reduceToNat, Int.reduceLE, Int.reduceLT, Int.reduceEq, Int.reduceNeg]
      repeat (refine And.intro (by first | omega | (constructor <;> omega) | kernel_rfl) ?_)
      refine CallW.mk (isGood_n) ?_
      try simp (config := { maxSteps := 10000000 }) only [go_sem, reduceIte, reduceCtorEq, Nat.reduceEqDiff, Nat.reduceLT, Nat.reduceLeDiff, Nat.reduceAdd, Nat.reduceBEq, Nat.reduceMul, Int.reduceToNat, Int.reduceLE, Int.reduceLT, Int.reduceEq, Int.reduceNeg]
      try simp (config := { maxSteps := 10000000 }) only [go_sem, reduceIte, reduceCtorEq, Nat.reduceEqDiff, Nat.reduceLT, Nat.reduceLeDiff, Nat.reduceAdd, Nat.reduceBEq, Nat.reduceMul, Int.reduceToNat, Int.reduceLE, Int.reduceLT, Int.reduceEq, Int.reduceNeg, mulO]
    | some q =>
      obtain ⟨p1, p2⟩ := hx p rfl
      obtain ⟨q1, q2⟩ := hy q rfl
      have b1 := nl_mulI p.num q.num
      have b4 := nl_mul p.den q.den
      have hm := ratMake_end (p.num * q.num) (p.den * q.den) (den_mul_ne p q) (by omega) (by omega)
      rw [← mul_mk] at hm
      have e : mulO (some p) (some q) = capR (p * q) := rfl
      rw [e]
      refine fn_enter tabOK mixes Tryz.func178 rfl rfl _ Tryz.ntmps178 _ Tryz.results178 (by simp) fun hwf => ?_
      try simp (config := { maxSteps := 10000000 }) only [go_sem, reduceIte, reduceCtorEq, Nat.reduceEqDiff, Nat.reduceLT, Nat.reduceLeDiff, Nat.reduceAdd, Nat.reduceBEq, Nat.reduceMul, Int.reduceToNat, Int.reduceLE, Int.reduceLT, Int.reduceEq, Int.reduceNeg]
      repeat (refine And.intro (by first | omega | (constructor <;> omega) | kernel_rfl) ?_)
      refine CallW.mk (isGood_s p) ?_
      try simp (config := { maxSteps := 10000000 }) only [go_sem, reduceIte, reduceCtorEq, Nat.reduceEqDiff, Nat.reduceLT, Nat.reduceLeDiff, Nat.reduceAdd, Nat.reduceBEq, Nat.reduceMul, Int.reduceToNat, Int.reduceLE, Int.reduceLT, Int.reduceEq, Int.reduceNeg]
      repeat (refine And.intro (by first | omega | (constructor <;> omega) | kernel_rfl) ?_)
      refine CallW.mk (isGood_s q) ?_
      try simp (config := { maxSteps := 10000000 }) only [go_sem, reduceIte, reduceCtorEq, Nat.reduceEqDiff, Nat.reduceLT, Nat.reduceLeDiff, Nat.reduceAdd, Nat.reduceBEq, Nat.reduceMul, Int.reduceToNat, Int.reduceLE, Int.reduceLT, Int.reduceEq, Int.reduceNeg]
      repeat (refine And.intro (by first | omega | (constructor <;> omega) | kernel_rfl) ?_)
      refine CallW.mk (bigMul_fn p.num q.num (by omega) (by omega)) ?_
      try simp (config := { maxSteps := 10000000 }) only [go_sem, reduceIte, reduceCtorEq, Nat.reduceEqDiff, Nat.reduceLT, Nat.reduceLeDiff, Nat.reduceAdd, Nat.reduceBEq, Nat.reduceMul, Int.reduceToNat, Int.reduceLE, Int.reduceLT, Int.reduceEq, Int.reduceNeg]
      repeat (refine And.intro (by first | omega | (constructor <;> omega) | kernel_rfl) ?_)
      refine CallW.mk (natMul_fn p.den q.den (by omega) (by omega)) ?_
      try simp (config := { maxSteps := 10000000 }) only [go_sem, reduceIte, reduceCtorEq, Nat.reduceEqDiff, Nat.reduceLT, Nat.reduceLeDiff, Nat.reduceAdd, Nat.reduceBEq, Nat.reduceMul, Int.reduceToNat, Int.reduceLE, Int.reduceLT, Int.reduceEq, Int.reduceNeg]
      repeat (refine And.intro (by first | omega | (constructor <;> omega) | kernel_rfl) ?_)
      refine CallW.mk (hm) ?_
      try simp (config := { maxSteps := 10000000 }) only [go_sem, reduceIte, reduceCtorEq, Nat.reduceEqDiff, Nat.reduceLT, Nat.reduceLeDiff, Nat.reduceAdd, Nat.reduceBEq, Nat.reduceMul, Int.reduceToNat, Int.reduceLE, Int.reduceLT, Int.reduceEq, Int.reduceNeg]
      all_goals repeat (refine And.intro (by first | omega | (constructor <;> omega) | kernel_rfl) ?_)
      all_goals first | kernel_rfl | omega | rfl
theorem sgn_mulZ (x y : Int) : sgn (!decide (decide (x < 0) = decide (y < 0))) (x.natAbs * y.natAbs) = x * y := by
  unfold sgn
  rw [Int.natCast_mul]
  by_cases h1 : x < 0
  · by_cases h2 : y < 0
    · simp only [h1, h2, decide_true, Bool.not_true, Bool.false_eq_true, if_false]
      rw [show (x.natAbs : Int) = -x by omega, show (y.natAbs : Int) = -y by omega, Int.neg_mul_neg]
    · simp only [h1, h2, decide_true, decide_false, Bool.true_eq_false, Bool.not_false, if_true]
      rw [show (x.natAbs : Int) = -x by omega, show (y.natAbs : Int) = y by omega, Int.neg_mul, Int.neg_neg]
  · by_cases h2 : y < 0
    · simp only [h1, h2, decide_true, decide_false, Bool.false_eq_true, Bool.not_false, if_true]
      rw [show (x.natAbs : Int) = x by omega, show (y.natAbs : Int) = -y by omega, Int.mul_neg, Int.neg_neg]
    · simp only [h1, h2, decide_false, decide_true, Bool.not_true, Bool.false_eq_true, if_false]
      rw [show (x.natAbs : Int) = x by omega, show (y.natAbs : Int) = y by omega]
theorem l04Mul_fn (p q : Rat) (hp : small p) (hq : small q) : Fn Tryz.prog 202 [⟨tRat, ratD p⟩, ⟨tRat, ratD q⟩] true [⟨tRat, oD (capR (p * q))⟩] := by
  obtain ⟨p1, p2⟩ := hp
  obtain ⟨q1, q2⟩ := hq
  have b1 := nl_mul p.num.natAbs q.num.natAbs
  have b4 := nl_mul p.den q.den
  have hl := l04Low_fn (!decide (decide (p.num < 0) = decide (q.num < 0))) (p.num.natAbs * q.num.natAbs) (p.den * q.den) (den_mul_ne p q) (by omega) (by omega)
  rw [sgn_mulZ, ← mul_mk] at hl
  refine fn_enter tabOK mixes Tryz.func202 rfl rfl _ Tryz.ntmps202 _ Tryz.results202 (by simp) fun hwf => ?_
  try simp (config := { maxSteps := 10000000 }) only [go_sem, reduceIte, reduceCtorEq, Nat.reduceEqDiff, Nat.reduceLT, Nat.reduceLeDiff, Nat.reduceAdd, Nat.reduceBEq, Nat.reduceMul, Int.reduceToNat, Int.reduceLE, Int.reduceLT, Int.reduceEq, Int.reduceNeg]
  repeat (refine And.intro (by first | omega | (constructor <;> omega) | kernel_rfl) ?_)
  refine CallW.mk (l02Mul_fn p.num.natAbs q.num.natAbs (by omega) (by omega)) ?_
  try simp (config := { maxSteps := 10000000 }) only [go_sem, reduceIte, reduceCtorEq, Nat.reduceEqDiff, Nat.reduceLT, Nat.reduceLeDiff, Nat.reduceAdd, Nat.reduceBEq, Nat.reduceMul, Int.reduceToNat, Int.reduceLE, Int.reduceLT, Int.reduceEq, Int.reduceNeg]
  repeat (refine And.intro (by first | omega | (constructor <;> omega) | kernel_rfl) ?_)
  refine CallW.mk (l02Mul_fn p.den q.den (by omega) (by omega)) ?_
  try simp (config := { maxSteps := 10000000 }) only [go_sem, reduceIte, reduceCtorEq, Nat.reduceEqDiff, Nat.reduceLT, Nat.reduceLeDiff, Nat.reduceAdd, Nat.reduceBEq, Nat.reduceMul, Int.reduceToNat, Int.reduceLE, Int.reduceLT, Int.reduceEq, Int.reduceNeg]
  repeat (refine And.intro (by first | omega | (constructor <;> omega) | kernel_rfl) ?_)
  refine CallW.mk (hl) ?_
  try simp (config := { maxSteps := 10000000 }) only [go_sem, reduceIte, reduceCtorEq, Nat.reduceEqDiff, Nat.reduceLT, Nat.reduceLeDiff, Nat.reduceAdd, Nat.reduceBEq, Nat.reduceMul, Int.reduceToNat, Int.reduceLE, Int.reduceLT, Int.reduceEq, Int.reduceNeg]
  all_goals repeat (refine And.intro (by first | omega | (constructor <;> omega) | kernel_rfl) ?_)
  all_goals first | kernel_rfl | omega | rfl
theorem specRatMul_fn (r s : DR) : Fn Tryz.prog 177 [⟨tRat, r⟩, ⟨tRat, s⟩] true [⟨tRat, oD (mulO (rdO r) (rdO s))⟩] := by
  cases hr : okR r
  · rw [okR_f hr, mulO_none_l]
    refine fn_enter tabOK mixes Tryz.func177 rfl rfl _ Tryz.ntmps177 _ Tryz.results177 (by simp) fun hwf => ?_
    try simp (config := { maxSteps := 10000000 }) only [go_sem, reduceIte, reduceCtorEq, Nat.reduceEqDiff, Nat.reduceLT, Nat.reduceLeDiff, Nat.reduceAdd, Nat.reduceBEq, Nat.reduceMul, Int.reduceToNat, Int.reduceLE, Int.reduceLT, Int.reduceEq, Int.reduceNeg]
    repeat (refine And.intro (by first | omega | (constructor <;> omega) | kernel_rfl) ?_)
    refine CallW.mk (specRatOk_fn r) ?_
    try simp (config := { maxSteps := 10000000 }) only [go_sem, reduceIte, reduceCtorEq, Nat.reduceEqDiff, Nat.reduceLT, Nat.reduceLeDiff, Nat.reduceAdd, Nat.reduceBEq, Nat.reduceMul, Int.reduceToNat, Int.reduceLE, Int.reduceLT, Int.reduceEq, Int.reduceNeg]
    try simp (config := { maxSteps := 10000000 }) only [go_sem, reduceIte, reduceCtorEq, Nat.reduceEqDiff, Nat.reduceLT, Nat.reduceLeDiff, Nat.reduceAdd, Nat.reduceBEq, Nat.reduceMul, Int.reduceToNat, Int.reduceLE, Int.reduceLT, Int.reduceEq, Int.reduceNeg, hr]
  · cases hs : okR s
    · rw [okR_f hs, mulO_none_r]
      refine fn_enter tabOK mixes Tryz.func177 rfl rfl _ Tryz.ntmps177 _ Tryz.results177 (by simp) fun hwf => ?_
      try simp (config := { maxSteps := 10000000 }) only [go_sem, reduceIte, reduceCtorEq, Nat.reduceEqDiff, Nat.reduceLT, Nat.reduceLeDiff, Nat.reduceAdd, Nat.reduceBEq, Nat.reduceMul, Int.reduceToNat, Int.reduceLE, Int.reduceLT, Int.reduceEq, Int.reduceNeg]
      repeat (refine And.intro (by first | omega | (constructor <;> omega) | kernel_rfl) ?_)
      refine CallW.mk (specRatOk_fn r) ?_
      try simp (config := { maxSteps := 10000000 }) only [go_sem, reduceIte, reduceCtorEq, Nat.reduceEqDiff, Nat.reduceLT, Nat.reduceLeDiff, Nat.reduceAdd, Nat.reduceBEq, Nat.reduceMul, Int.reduceToNat, Int.reduceLE, Int.reduceLT, Int.reduceEq, Int.reduceNeg]
      try simp (config := { maxSteps := 10000000 }) only [go_sem, reduceIte, reduceCtorEq, Nat.reduceEqDiff, Nat.reduceLT, Nat.reduceLeDiff, Nat.reduceAdd, Nat.reduceBEq, Nat.reduceMul, Int.reduceToNat, Int.reduceLE, Int.reduceLT, Int.reduceEq, Int.reduceNeg, hr]
      repeat (refine And.intro (by first | omega | (constructor <;> omega) | kernel_rfl) ?_)
      refine CallW.mk (specRatOk_fn s) ?_
      try simp (config := { maxSteps := 10000000 }) only [go_sem, reduceIte, reduceCtorEq, Nat.reduceEqDiff, Nat.reduceLT, Nat.reduceLeDiff, Nat.reduceAdd, Nat.reduceBEq, Nat.reduceMul, Int.reduceToNat, Int.reduceLE, Int.reduceLT, Int.reduceEq, Int.reduceNeg]
      try simp (config := { maxSteps := 10000000 }) only [go_sem, reduceIte, reduceCtorEq, Nat.reduceEqDiff, Nat.reduceLT, Nat.reduceLeDiff, Nat.reduceAdd, Nat.reduceBEq, Nat.reduceMul, Int.reduceToNat, Int.reduceLE, Int.reduceLT, Int.reduceEq, Int.reduceNeg, hs]
    · obtain ⟨p, hp, rfl, e1⟩ := okR_t hr
      obtain ⟨q, hq, rfl, e2⟩ := okR_t hs
      rw [e1, e2]
      have hr' : okR ((decide (p.num < 0), natL p.num.natAbs), natL p.den) = true := hr
      have hs' : okR ((decide (q.num < 0), natL q.num.natAbs), natL q.den) = true := hs
      have e : mulO (some p) (some q) = capR (p * q) := rfl
      rw [e]
      refine fn_enter tabOK mixes Tryz.func177 rfl rfl _ Tryz.ntmps177 _ Tryz.results177 (by simp) fun hwf => ?_
      try simp (config := { maxSteps := 10000000 }) only [go_sem, reduceIte, reduceCtorEq, Nat.reduceEqDiff, Nat.reduceLT, Nat.reduceLeDiff, Nat.reduceAdd, Nat.reduceBEq, Nat.reduceMul, Int.reduceToNat, Int.reduceLE, Int.reduceLT, Int.reduceEq, Int.reduceNeg]
      repeat (refine And.intro (by first | omega | (constructor <;> omega) | kernel_rfl) ?_)
      refine CallW.mk (specRatOk_fn (ratD p)) ?_
      try simp (config := { maxSteps := 10000000 }) only [go_sem, reduceIte, reduceCtorEq, Nat.reduceEqDiff, Nat.reduceLT, Nat.reduceLeDiff, Nat.reduceAdd, Nat.reduceBEq, Nat.reduceMul, Int.reduceToNat, Int.reduceLE, Int.reduceLT, Int.reduceEq, Int.reduceNeg]
      try simp (config := { maxSteps := 10000000 }) only [go_sem, reduceIte, reduceCtorEq, Nat.reduceEqDiff, Nat.reduceLT, Nat.reduceLeDiff, Nat.reduceAdd, Nat.reduceBEq, Nat.reduceMul, Int.reduceToNat, Int.reduceLE, Int.reduceLT, Int.reduceEq, Int.reduceNeg, hr']
      repeat (refine And.intro (by first | omega | (constructor <;> omega) | kernel_rfl) ?_)
      refine CallW.mk (specRatOk_fn (ratD q)) ?_
      try simp (config := { maxSteps := 10000000 }) only [go_sem, reduceIte, reduceCtorEq, Nat.reduceEqDiff, Nat.reduceLT, Nat.reduceLeDiff, Nat.reduceAdd, Nat.reduceBEq, Nat.reduceMul, Int.reduceToNat, Int.reduceLE, Int.reduceLT, Int.reduceEq, Int.reduceNeg]
      try simp (config := { maxSteps := 10000000 }) only [go_sem, reduceIte, reduceCtorEq, Nat.reduceEqDiff, Nat.reduceLT, Nat.reduceLeDiff, Nat.reduceAdd, Nat.reduceBEq, Nat.reduceMul, Int.reduceToNat, Int.reduceLE, Int.reduceLT, Int.reduceEq, Int.reduceNeg, hs']
      repeat (refine And.intro (by first | omega | (constructor <;> omega) | kernel_rfl) ?_)
      refine CallW.mk (l04Mul_fn p q hp hq) ?_
      try simp (config := { maxSteps := 10000000 }) only [go_sem, reduceIte, reduceCtorEq, Nat.reduceEqDiff, Nat.reduceLT, Nat.reduceLeDiff, Nat.reduceAdd, Nat.reduceBEq, Nat.reduceMul, Int.reduceToNat, Int.reduceLE, Int.reduceLT, Int.reduceEq, Int.reduceNeg]
      all_goals repeat (refine And.intro (by first | omega | (constructor <;> omega) | kernel_rfl) ?_)
      all_goals first | kernel_rfl | omega | rfl
theorem ratMin_fn (x y : Option Rat) (hx : okO x) (hy : okO y) : Fn Tryz.prog 129 [⟨tRat, oD x⟩, ⟨tRat, oD y⟩] false [⟨tRat, oD (minO x y)⟩] := by
  cases x with
  | none =>
    refine fn_enter tabOK mixes Tryz.func129 rfl rfl _ Tryz.ntmps129 _ Tryz.results129 (by simp) fun hwf => ?_
    try simp (config := { maxSteps := 10000000 }) only [go_sem, reduceIte, reduceCtorEq, Nat.reduceEqDiff, Nat.reduceLT, Nat.reduceLeDiff, Nat.reduceAdd, Nat.reduceBEq, Nat.reduceMul, Int.reduceToNat, Int.reduceLE, Int.reduceLT, Int.reduceEq, Int.reduceNeg]
    repeat (refine And.intro (by first | omega | (constructor <;> omega) | kernel_rfl) ?_)
    refine CallW.mk (isGood_n) ?_
    try simp (config := { maxSteps := 10000000 }) only [go_sem, reduceIte, reduceCtorEq, Nat.reduceEqDiff, Nat.reduceLT, Nat.reduceLeDiff, Nat.reduceAdd, Nat.reduceBEq, Nat.reduceMul, Int.reduceToNat, Int.reduceLE, Int.reduceLT, Int.reduceEq, Int.reduceNeg]
    try simp (config := { maxSteps := 10000000 }) only [go_sem, reduceIte, reduceCtorEq, Nat.reduceEqDiff, Nat.reduceLT, Nat.reduceLeDiff, Nat.reduceAdd, Nat.reduceBEq, Nat.reduceMul, Int.reduceToNat, Int.reduceLE, Int.reduceLT, Int.reduceEq, Int.reduceNeg, minO]
  | some p =>
    cases y with
    | none =>
      refine fn_enter tabOK mixes Tryz.func129 rfl rfl _ Tryz.ntmps129 _ Tryz.results129 (by simp) fun hwf => ?_
      try simp (config := { maxSteps := 10000000 }) only [go_sem, reduceIte, reduceCtorEq, Nat.reduceEqDiff, Nat.reduceLT, Nat.reduceLeDiff, Nat.reduceAdd, Nat.reduceBEq, Nat.reduceMul, Int.reduceToNat, Int.reduceLE, Int.reduceLT, Int.reduceEq, Int.reduceNeg]
      repeat (refine And.intro (by first | omega | (constructor <;> omega) | kernel_rfl) ?_)
      refine CallW.mk (isGood_s p) ?_
      try simp (config := { maxSteps := 10000000 }) only [go_sem, reduceIte, reduceCtorEq, Nat.reduceEqDiff, Nat.reduceLT, Nat.reduceLeDiff, Nat.reduceAdd, Nat.reduceBEq, Nat.reduceMul, Int.reduceToNat, Int.reduceLE, Int.reduceLT, Int.reduceEq, Int.reduceNeg]
      repeat (refine And.intro (by first | omega | (constructor <;> omega) | kernel_rfl) ?_)
      refine CallW.mk (isGood_n) ?_
      try simp (config := { maxSteps := 10000000 }) only [go_sem, reduceIte, reduceCtorEq, Nat.reduceEqDiff, Nat.reduceLT, Nat.reduceLeDiff, Nat.reduceAdd, Nat.reduceBEq, Nat.reduceMul, Int.reduceToNat, Int.reduceLE, Int.reduceLT, Int.reduceEq, Int.reduceNeg]
      try simp (config := { maxSteps := 10000000 }) only [go_sem, reduceIte, reduceCtorEq, Nat.reduceEqDiff, Nat.reduceLT, Nat.reduceLeDiff, Nat.reduceAdd, Nat.reduceBEq, Nat.reduceMul, Int.reduceToNat, Int.reduceLE, Int.reduceLT, Int.reduceEq, Int.reduceNeg, minO]
    | some q =>
      have hc := ratCmp_fn (some p) (some q) hx hy
      have e : cmpO (some p) (some q) = cmpQ p q := rfl
      rw [e] at hc
      by_cases h : cmpQ p q ≤ 0
      · have e2 : minO (some p) (some q) = some p := if_pos h
        rw [e2]
        refine fn_enter tabOK mixes Tryz.func129 rfl rfl _ Tryz.ntmps129 _ Tryz.results129 (by simp) fun hwf => ?_
        try simp (config := { maxSteps := 10000000 }) only [go_sem, reduceIte, reduceCtorEq, Nat.reduceEqDiff, Nat.reduceLT, Nat.reduceLeDiff, Nat.reduceAdd, Nat.reduceBEq, Nat.reduceMul, Int.reduceToNat, Int.reduceLE, Int.reduceLT, Int.reduceEq, Int.reduceNeg]
        repeat (refine And.intro (by first | omega | (constructor <;> omega) | kernel_rfl) ?_)
        refine CallW.mk (isGood_s p) ?_
        try simp (config := { maxSteps := 10000000 }) only [go_sem, reduceIte, reduceCtorEq, Nat.reduceEqDiff, Nat.reduceLT, Nat.reduceLeDiff, Nat.reduceAdd, Nat.reduceBEq, Nat.reduceMul, Int.reduceToNat, Int.reduceLE, Int.reduceLT, Int.reduceEq, Int.reduceNeg]
        repeat (refine And.intro (by first | omega | (constructor <;> omega) | kernel_rfl) ?_)
        refine CallW.mk (isGood_s q) ?_
        try simp (config := { maxSteps := 10000000 }) only [go_sem, reduceIte, reduceCtorEq, Nat.reduceEqDiff, Nat.reduceLT, Nat.reduceLeDiff, Nat.reduceAdd, Nat.reduceBEq, Nat.reduceMul, Int.reduceToNat, Int.reduceLE, Int.reduceLT, Int.reduceEq, Int.reduceNeg]
        repeat (refine And.intro (by first | omega | (constructor <;> omega) | kernel_rfl) ?_)
        refine CallW.mk (hc) ?_
        try simp (config := { maxSteps := 10000000 }) only [go_sem, reduceIte, reduceCtorEq, Nat.reduceEqDiff, Nat.reduceLT, Nat.reduceLeDiff, Nat.reduceAdd, Nat.reduceBEq, Nat.reduceMul, Int.reduceToNat, Int.reduceLE, Int.reduceLT, Int.reduceEq, Int.reduceNeg]
        try simp (config := { maxSteps := 10000000 }) only [go_sem, reduceIte, reduceCtorEq, Nat.reduceEqDiff, Nat.reduceLT, Nat.reduceLeDiff, Nat.reduceAdd, Nat.reduceBEq, Nat.reduceMul, Int.reduceToNat, Int.reduceLE, Int.reduceLT, Int.reduceEq, Int.reduceNeg, h]
      · have e2 : minO (some p) (some q) = some q := if_neg h
        rw [e2]
        refine fn_enter tabOK mixes Tryz.func129 rfl rfl _ Tryz.ntmps129 _ Tryz.results129 (by simp) fun hwf => ?_
        try simp (config := { maxSteps := 10000000 }) only [go_sem, reduceIte, reduceCtorEq, Nat.reduceEqDiff, Nat.reduceLT, Nat.reduceLeDiff, Nat.reduceAdd, Nat.reduceBEq, Nat.reduceMul, Int.reduceToNat, Int.reduceLE, Int.reduceLT, Int.reduceEq, Int.reduceNeg]
        repeat (refine And.intro (by first | omega | (constructor <;> omega) | kernel_rfl) ?_)
        refine CallW.mk (isGood_s p) ?_
        try simp (config := { maxSteps := 10000000 }) only [go_sem, reduceIte, reduceCtorEq, Nat.reduceEqDiff, Nat.reduceLT, Nat.reduceLeDiff, Nat.reduceAdd, Nat.reduceBEq, Nat.reduceMul, Int.reduceToNat, Int.reduceLE, Int.reduceLT, Int.reduceEq, Int.reduceNeg]
        repeat (refine And.intro (by first | omega | (constructor <;> omega) | kernel_rfl) ?_)
        refine CallW.mk (isGood_s q) ?_
        try simp (config := { maxSteps := 10000000 }) only [go_sem, reduceIte, reduceCtorEq, Nat.reduceEqDiff, Nat.reduceLT, Nat.reduceLeDiff, Nat.reduceAdd, Nat.reduceBEq, Nat.reduceMul, Int.reduceToNat, Int.reduceLE, Int.reduceLT, Int.reduceEq, Int.reduceNeg]
        repeat (refine And.intro (by first | omega | (constructor <;> omega) | kernel_rfl) ?_)
        refine CallW.mk (hc) ?_
        try simp (config := { maxSteps := 10000000 }) only [go_sem, reduceIte, reduceCtorEq, Nat.reduceEqDiff, Nat.reduceLT, Nat.reduceLeDiff, Nat.reduceAdd, Nat.reduceBEq, Nat.reduceMul, Int.reduceToNat, Int.reduceLE, Int.reduceLT, Int.reduceEq, Int.reduceNeg]
        try simp (config := { maxSteps := 10000000 }) only [go_sem, reduceIte, reduceCtorEq, Nat.reduceEqDiff, Nat.reduceLT, Nat.reduceLeDiff, Nat.reduceAdd, Nat.reduceBEq, Nat.reduceMul, Int.reduceToNat, Int.reduceLE, Int.reduceLT, Int.reduceEq, Int.reduceNeg, h]
theorem specRatMin_fn (r s : DR) : Fn Tryz.prog 124 [⟨tRat, r⟩, ⟨tRat, s⟩] true [⟨tRat, oD (minO (rdO r) (rdO s))⟩] := by
  cases hr : okR r
  · rw [okR_f hr]
    have e : minO none (rdO s) = none := rfl
    rw [e]
    refine fn_enter tabOK mixes Tryz.func124 rfl rfl _ Tryz.ntmps124 _ Tryz.results124 (by simp) fun hwf => ?_
    try simp (config := { maxSteps := 10000000 }) only [go_sem, reduceIte, reduceCtorEq, Nat.reduceEqDiff, Nat.reduceLT, Nat.reduceLeDiff, Nat.reduceAdd, Nat.reduceBEq, Nat.reduceMul, Int.reduceToNat, Int.reduceLE, Int.reduceLT, Int.reduceEq, Int.reduceNeg]
    repeat (refine And.intro (by first | omega | (constructor <;> omega) | kernel_rfl) ?_)
    refine CallW.mk (specRatOk_fn r) ?_
    try simp (config := { maxSteps := 10000000 }) only [go_sem, reduceIte, reduceCtorEq, Nat.reduceEqDiff, Nat.reduceLT, Nat.reduceLeDiff, Nat.reduceAdd, Nat.reduceBEq, Nat.reduceMul, Int.reduceToNat, Int.reduceLE, Int.reduceLT, Int.reduceEq, Int.reduceNeg]
    try simp (config := { maxSteps := 10000000 }) only [go_sem, reduceIte, reduceCtorEq, Nat.reduceEqDiff, Nat.reduceLT, Nat.reduceLeDiff, Nat.reduceAdd, Nat.reduceBEq, Nat.reduceMul, Int.reduceToNat, Int.reduceLE, Int.reduceLT, Int.reduceEq, Int.reduceNeg, hr]
  · cases hs : okR s
    · rw [okR_f hs]
      have e : minO (rdO r) none = none := by unfold minO; cases rdO r <;> rfl
      rw [e]
      refine fn_enter tabOK mixes Tryz.func124 rfl rfl _ Tryz.ntmps124 _ Tryz.results124 (by simp) fun hwf => ?_
      try simp (config := { maxSteps := 10000000 }) only [go_sem, reduceIte, reduceCtorEq, Nat.reduceEqDiff, Nat.reduceLT, Nat.reduceLeDiff, Nat.reduceAdd, Nat.reduceBEq, Nat.reduceMul, Int.reduceToNat, Int.reduceLE, Int.reduceLT, Int.reduceEq, Int.reduceNeg]
      repeat (refine And.intro (by first | omega | (constructor <;> omega) | kernel_rfl) ?_)
      refine CallW.mk (specRatOk_fn r) ?_
      try simp (config := { maxSteps := 10000000 }) only [go_sem, reduceIte, reduceCtorEq, Nat.reduceEqDiff, Nat.reduceLT, Nat.reduceLeDiff, Nat.reduceAdd, Nat.reduceBEq, Nat.reduceMul, Int.reduceToNat, Int.reduceLE, Int.reduceLT, Int.reduceEq, Int.reduceNeg]
      try simp (config := { maxSteps := 10000000 }) only [go_sem, reduceIte, reduceCtorEq, Nat.reduceEqDiff, Nat.reduceLT, Nat.reduceLeDiff, Nat.reduceAdd, Nat.reduceBEq, Nat.reduceMul, Int.reduceToNat, Int.reduceLE, Int.reduceLT, Int.reduceEq, Int.reduceNeg, hr]
      repeat (refine And.intro (by first | omega | (constructor <;> omega) | kernel_rfl) ?_)
      refine CallW.mk (specRatOk_fn s) ?_
      try simp (config := { maxSteps := 10000000 }) only [go_sem, reduceIte, reduceCtorEq, Nat.reduceEqDiff, Nat.reduceLT, Nat.reduceLeDiff, Nat.reduceAdd, Nat.reduceBEq, Nat.reduceMul, Int.reduceToNat, Int.reduceLE, Int.reduceLT, Int.reduceEq, Int.reduceNeg]
      try simp (config := { maxSteps := 10000000 }) only [go_sem, reduceIte, reduceCtorEq, Nat.reduceEqDiff, Nat.reduceLT, Nat.reduceLeDiff, Nat.reduceAdd, Nat.reduceBEq, Nat.reduceMul, Int.reduceToNat, Int.reduceLE, Int.reduceLT, Int.reduceEq, Int.reduceNeg, hs]
    · obtain ⟨p, hp, rfl, e1⟩ := okR_t hr
      obtain ⟨q, hq, rfl, e2⟩ := okR_t hs
      rw [e1, e2]
      have hr' : okR ((decide (p.num < 0), natL p.num.natAbs), natL p.den) = true := hr
      have hs' : okR ((decide (q.num < 0), natL q.num.natAbs), natL q.den) = true := hs
      by_cases h : cmpQ p q ≤ 0
      · have e3 : minO (some p) (some q) = some p := if_pos h
        rw [e3]
        refine fn_enter tabOK mixes Tryz.func124 rfl rfl _ Tryz.ntmps124 _ Tryz.results124 (by simp) fun hwf => ?_
        try simp (config := { maxSteps := 10000000 }) only [go_sem, reduceIte, reduceCtorEq, Nat.reduceEqDiff, Nat.reduceLT, Nat.reduceLeDiff, Nat.reduceAdd, Nat.reduceBEq, Nat.reduceMul, Int.reduceToNat, Int.reduceLE, Int.reduceLT, Int.reduceEq, Int.reduceNeg]
        repeat (refine And.intro (by first | omega | (constructor <;> omega) | kernel_rfl) ?_)
        refine CallW.mk (specRatOk_fn (ratD p)) ?_
        try simp (config := { maxSteps := 10000000 }) only [go_sem, reduceIte, reduceCtorEq, Nat.reduceEqDiff, Nat.reduceLT, Nat.reduceLeDiff, Nat.reduceAdd, Nat.reduceBEq, Nat.reduceMul, Int.reduceToNat, Int.reduceLE, Int.reduceLT, Int.reduceEq, Int.reduceNeg]
        try simp (config := { maxSteps := 10000000 }) only [go_sem, reduceIte, reduceCtorEq, Nat.reduceEqDiff, Nat.reduceLT, Nat.reduceLeDiff, Nat.reduceAdd, Nat.reduceBEq, Nat.reduceMul, Int.reduceToNat, Int.reduceLE, Int.reduceLT, Int.reduceEq, Int.reduceNeg, hr']
        repeat (refine And.intro (by first | omega | (constructor <;> omega) | kernel_rfl) ?_)
        refine CallW.mk (specRatOk_fn (ratD q)) ?_
        try simp (config := { maxSteps := 10000000 }) only [go_sem, reduceIte, reduceCtorEq, Nat.reduceEqDiff, Nat.reduceLT, Nat.reduceLeDiff, Nat.reduceAdd, Nat.reduceBEq, Nat.reduceMul, Int.reduceToNat, Int.reduceLE, Int.reduceLT, Int.reduceEq, Int.reduceNeg]
        try simp (config := { maxSteps := 10000000 }) only [go_sem, reduceIte, reduceCtorEq, Nat.reduceEqDiff, Nat.reduceLT, Nat.reduceLeDiff, Nat.reduceAdd, Nat.reduceBEq, Nat.reduceMul, Int.reduceToNat, Int.reduceLE, Int.reduceLT, Int.reduceEq, Int.reduceNeg, hs']
        repeat (refine And.intro (by first | omega | (constructor <;> omega) | kernel_rfl) ?_)
        refine CallW.mk (l04Cmp_fn p q hp hq) ?_
        try simp (config := { maxSteps := 10000000 }) only [go_sem, reduceIte, reduceCtorEq, Nat.reduceEqDiff, Nat.reduceLT, Nat.reduceLeDiff, Nat.reduceAdd, Nat.reduceBEq, Nat.reduceMul, Int.reduceToNat, Int.reduceLE, Int.reduceLT, Int.reduceEq, Int.reduceNeg]
        try simp (config := { maxSteps := 10000000 }) only [go_sem, reduceIte, reduceCtorEq, Nat.reduceEqDiff, Nat.reduceLT, Nat.reduceLeDiff, Nat.reduceAdd, Nat.reduceBEq, Nat.reduceMul, Int.reduceToNat, Int.reduceLE, Int.reduceLT, Int.reduceEq, Int.reduceNeg, h]
        repeat (refine And.intro (by first | omega | (constructor <;> omega) | kernel_rfl) ?_)
        refine CallW.mk (copyD_fn p hp) ?_
        try simp (config := { maxSteps := 10000000 }) only [go_sem, reduceIte, reduceCtorEq, Nat.reduceEqDiff, Nat.reduceLT, Nat.reduceLeDiff, Nat.reduceAdd, Nat.reduceBEq, Nat.reduceMul, Int.reduceToNat, Int.reduceLE, Int.reduceLT, Int.reduceEq, Int.reduceNeg]
      · have e3 : minO (some p) (some q) = some q := if_neg h
        rw [e3]
        refine fn_enter tabOK mixes Tryz.func124 rfl rfl _ Tryz.ntmps124 _ Tryz.results124 (by simp) fun hwf => ?_
        try simp (config := { maxSteps := 10000000 }) only [go_sem, reduceIte, reduceCtorEq, Nat.reduceEqDiff, Nat.reduceLT, Nat.reduceLeDiff, Nat.reduceAdd, Nat.reduceBEq, Nat.reduceMul, Int.reduceToNat, Int.reduceLE, Int.reduceLT, Int.reduceEq, Int.reduceNeg]
        repeat (refine And.intro (by first | omega | (constructor <;> omega) | kernel_rfl) ?_)
        refine CallW.mk (specRatOk_fn (ratD p)) ?_
        try simp (config := { maxSteps := 10000000 }) only [go_sem, reduceIte, reduceCtorEq, Nat.reduceEqDiff, Nat.reduceLT, Nat.reduceLeDiff, Nat.reduceAdd, Nat.reduceBEq, Nat.reduceMul, Int.reduceToNat, Int.reduceLE, Int.reduceLT, Int.reduceEq, Int.reduceNeg]
        try simp (config := { maxSteps := 10000000 }) only [go_sem, reduceIte, reduceCtorEq, Nat.reduceEqDiff, Nat.reduceLT, Nat.reduceLeDiff, Nat.reduceAdd, Nat.reduceBEq, Nat.reduceMul, Int.reduceToNat, Int.reduceLE, Int.reduceLT, Int.reduceEq, Int.reduceNeg, hr']
        repeat (refine And.intro (by first | omega | (constructor <;> omega) | kernel_rfl) ?_)
        refine CallW.mk (specRatOk_fn (ratD q)) ?_
        try simp (config := { maxSteps := 10000000 }) only [go_sem, reduceIte, reduceCtorEq, Nat.reduceEqDiff, Nat.reduceLT, Nat.reduceLeDiff, Nat.reduceAdd, Nat.reduceBEq, Nat.reduceMul, Int.reduceToNat, Int.reduceLE, Int.reduceLT, Int.reduceEq, Int.reduceNeg]
        try simp (config := { maxSteps := 10000000 }) only [go_sem, reduceIte, reduceCtorEq, Nat.reduceEqDiff, Nat.reduceLT, Nat.reduceLeDiff, Nat.reduceAdd, Nat.reduceBEq, Nat.reduceMul, Int.reduceToNat, Int.reduceLE, Int.reduceLT, Int.reduceEq, Int.reduceNeg, hs']
        repeat (refine And.intro (by first | omega | (constructor <;> omega) | kernel_rfl) ?_)
        refine CallW.mk (l04Cmp_fn p q hp hq) ?_
        try simp (config := { maxSteps := 10000000 }) only [go_sem, reduceIte, reduceCtorEq, Nat.reduceEqDiff, Nat.reduceLT, Nat.reduceLeDiff, Nat.reduceAdd, Nat.reduceBEq, Nat.reduceMul, Int.reduceToNat, Int.reduceLE, Int.reduceLT, Int.reduceEq, Int.reduceNeg]
        try simp (config := { maxSteps := 10000000 }) only [go_sem, reduceIte, reduceCtorEq, Nat.reduceEqDiff, Nat.reduceLT, Nat.reduceLeDiff, Nat.reduceAdd, Nat.reduceBEq, Nat.reduceMul, Int.reduceToNat, Int.reduceLE, Int.reduceLT, Int.reduceEq, Int.reduceNeg, h]
        repeat (refine And.intro (by first | omega | (constructor <;> omega) | kernel_rfl) ?_)
        refine CallW.mk (copyD_fn q hq) ?_
        try simp (config := { maxSteps := 10000000 }) only [go_sem, reduceIte, reduceCtorEq, Nat.reduceEqDiff, Nat.reduceLT, Nat.reduceLeDiff, Nat.reduceAdd, Nat.reduceBEq, Nat.reduceMul, Int.reduceToNat, Int.reduceLE, Int.reduceLT, Int.reduceEq, Int.reduceNeg]
/-- Fractions in memory, one by one. -/
theorem ownRats_fn (l : List DR) (hb : l.length ≤ 1000000000) (h : ∀ r ∈ l, r.1.2.length ≤ 16777216 ∧ r.2.length ≤ 16777216) : Fn Tryz.prog 132 [⟨.slice tRat, l⟩] true [⟨.slice tRat, l⟩] := by
  refine fn_enter tabOK mixes Tryz.func132 rfl rfl _ Tryz.ntmps132 _ Tryz.results132 (by simp) fun hwf => ?_
  have hl : l.length ≤ 9223372036854775807 := (hwf ⟨.slice tRat, l⟩ (by simp)).1
  try simp (config := { maxSteps := 10000000 }) only [go_sem, reduceIte, reduceCtorEq, Nat.reduceEqDiff, Nat.reduceLT, Nat.reduceLeDiff, Nat.reduceAdd, Nat.reduceBEq, Nat.reduceMul, Int.reduceToNat, Int.reduceLE, Int.reduceLT, Int.reduceEq, Int.reduceNeg]
  refine LoopG.intro _ _ _ (fun i : Nat => ⟨[(3, .row 0 0), (7, .sl tRat l), (8, .sc (.int .i64 l.length)), (9, .sc (.int .i64 i))], [(0, .row 36 tRat 0 true (l.take i))]⟩) (fun i => i ≤ l.length) (fun i => l.length - i) 0 ?_ (Nat.zero_le _) ?_
  · refine Wk.mk [] ?_
    try simp (config := { maxSteps := 10000000 }) only [go_sem, reduceIte, reduceCtorEq, Nat.reduceEqDiff, Nat.reduceLT, Nat.reduceLeDiff, Nat.reduceAdd, Nat.reduceBEq, Nat.reduceMul, Int.reduceToNat, Int.reduceLE, Int.reduceLT, Int.reduceEq, Int.reduceNeg]
    try (and_intros <;> first | rfl | omega | exact ⟨_, rfl⟩)
    all_goals (exact ⟨rfl, rfl⟩)
  · rintro i hi
    try simp (config := { maxSteps := 10000000 }) only [go_sem, reduceIte, reduceCtorEq, Nat.reduceEqDiff, Nat.reduceLT, Nat.reduceLeDiff, Nat.reduceAdd, Nat.reduceBEq, Nat.reduceMul, Int.reduceToNat, Int.reduceLE, Int.reduceLT, Int.reduceEq, Int.reduceNeg]
    refine CondW_dec (fun hA => ?_) (fun hA => ?_)
    · have hlt : i < l.length := by omega
      have ht : (List.take i l).length = i := by rw [List.length_take]; omega
      have hm := h (nth (t := tRat) l i) (by rw [nth_lt hlt]; exact List.getElem_mem hlt)
      have c1 := ownRat_fn (nth (t := tRat) l i) hm.1 hm.2
      have e : l.take (i + 1) = l.take i ++ [nth (t := tRat) l i] := by rw [nth_lt hlt]; exact List.take_succ_eq_append_getElem hlt
      try simp (config := { maxSteps := 10000000 }) only [go_sem, reduceIte, reduceCtorEq, Nat.reduceEqDiff, Nat.reduceLT, Nat.reduceLeDiff, Nat.reduceAdd, Nat.reduceBEq, Nat.reduceMul, Int.reduceToNat, Int.reduceLE, Int.reduceLT, Int.reduceEq, Int.reduceNeg]
      repeat (refine And.intro (by first | omega | (constructor <;> omega) | kernel_rfl) ?_)
      repeat (refine And.intro (by first | omega | (constructor <;> omega) | kernel_rfl) ?_)
      refine CallW.mk (c1) ?_
      try simp (config := { maxSteps := 10000000 }) only [go_sem, reduceIte, reduceCtorEq, Nat.reduceEqDiff, Nat.reduceLT, Nat.reduceLeDiff, Nat.reduceAdd, Nat.reduceBEq, Nat.reduceMul, Int.reduceToNat, Int.reduceLE, Int.reduceLT, Int.reduceEq, Int.reduceNeg]
      try simp (config := { maxSteps := 10000000 }) only [go_sem, reduceIte, reduceCtorEq, Nat.reduceEqDiff, Nat.reduceLT, Nat.reduceLeDiff, Nat.reduceAdd, Nat.reduceBEq, Nat.reduceMul, Int.reduceToNat, Int.reduceLE, Int.reduceLT, Int.reduceEq, Int.reduceNeg, ht]
      repeat (refine And.intro (by first | omega | (constructor <;> omega) | kernel_rfl) ?_)
      refine LoopK.mk (i + 1) ?_ (by omega) (by omega)
      refine Wk.mk [] ?_
      try simp (config := { maxSteps := 10000000 }) only [go_sem, reduceIte, reduceCtorEq, Nat.reduceEqDiff, Nat.reduceLT, Nat.reduceLeDiff, Nat.reduceAdd, Nat.reduceBEq, Nat.reduceMul, Int.reduceToNat, Int.reduceLE, Int.reduceLT, Int.reduceEq, Int.reduceNeg]
      try (and_intros <;> first | rfl | omega | exact ⟨_, rfl⟩)
      all_goals (rw [e]; exact ⟨by omega, rfl⟩)
    · rw [List.take_of_length_le (by omega)]
      try simp (config := { maxSteps := 10000000 }) only [go_sem, reduceIte, reduceCtorEq, Nat.reduceEqDiff, Nat.reduceLT, Nat.reduceLeDiff, Nat.reduceAdd, Nat.reduceBEq, Nat.reduceMul, Int.reduceToNat, Int.reduceLE, Int.reduceLT, Int.reduceEq, Int.reduceNeg]
end Go.Proofs.YtgffgcpcjpjfgaaGreat.DW

/-
  Results that may grow; functions that use up what they are handed, called last. No program here.
-/
namespace Go.Proofs.YtgffgcpcjpjfgaaGreat.DW
open Go.RowKit

section
variable {P : Program} {T : TypeId → Option Ty}
/-- The result is a row of the call's own. -/
def RetG (T : TypeId → Option Ty) (rs : List ResultVar) (e : TypeId) (t : Ty) (l : List t.den) (σ : St) : Prop :=
  match rs with
  | [r] => ∃ k ver, aRes T σ r = some (.row k ver) ∧ look σ.mem k = some (.row e t ver true l)
  | _ => False
theorem retG_ok (hT : TabOK P T) {fn : Func} {c : Cx} {σ : St} {Γ : Asg} {a : Act} {w : World} {e : TypeId} {t : Ty} {l : List t.den} (hs : Sim c σ Γ a w) (h : RetG T fn.results.toList e t l σ) :
    ∃ v, (results fn a.tmps).run P w = .ok v w ∧ ∃ fps : List (List Nat), v.oneCell' = true ∧ GrowF t.rp c.base w e v l fps ∧ OwnFp c.base w fps.flatten ∧ ∀ b ∈ fps.flatten, v.ownBlock ≠ some b := by
  unfold RetG at h
  split at h
  · rename_i r hr
    obtain ⟨k, ver, h1, h2⟩ := h
    obtain ⟨u, g1, g2⟩ := aRes_run (P := P) hT hs h1 rfl
    obtain ⟨q1, B, hB, q2⟩ := g2
    rw [h2] at hB; injection hB with hB; subst hB
    obtain ⟨fps, hg, hf, hgd, hon⟩ := hs.mm k _ h2
    have hu : u = Γ.hd k := q2.2 rfl
    have hfr : fn.results = #[r] := toList1 hr
    refine ⟨u, ?_, fps, q1, hu ▸ hg, hf ▸ hon rfl, fun b hb he => ?_⟩
    · rw [results_eq, hfr, List.mapM_toArray, map_eq_pure_bind, Sem.run_bind, Sem.run_bind]
      simp only [List.mapM_cons, List.mapM_nil, Sem.run_bind, g1, Result.andThen_ok, Sem.run_pure]
      simp
    · exact (hgd b (hf ▸ hb)).2 ⟨k, _, h2, by show (Γ.hd k).ownBlock = some b; rw [← hu]; exact he⟩
  · exact h.elim
def KRG (T : TypeId → Option Ty) (rs : List ResultVar) (e : TypeId) (t : Ty) (l : List t.den) (ex : Exit) (σ : St) : Prop :=
  match ex with
  | .normal | .ret => RetG T rs e t l σ
  | _ => False
@[go_sem] theorem KRG_n {rs : List ResultVar} {e : TypeId} {t : Ty} {l : List t.den} {σ : St} : KRG T rs e t l .normal σ = RetG T rs e t l σ := (rfl)
@[go_sem] theorem KRG_r {rs : List ResultVar} {e : TypeId} {t : Ty} {l : List t.den} {σ : St} : KRG T rs e t l .ret σ = RetG T rs e t l σ := (rfl)
attribute [go_sem] RetG
theorem fnG_enter (hT : TabOK P T) (hmix : P.follows .mixedOrders = true) {f : FuncId} {fn : Func} {code : Code} {args : List Dat} {e : TypeId} {t : Ty} {l : List t.den} (hf : P.funcs[f]? = some fn) (hname : (fn.name == "runtime.NumGoroutine") = false) (hb : fn.body = some code) (n : Nat) (hn : fn.ntmps = n) (rs : List ResultVar) (hr : fn.results = rs.toArray) (hna : args.length ≤ n)
    (h : (∀ d ∈ args, Wf d.1 d.2) → AC P T n code (KRG T rs e t l) ⟨argTm 0 args, []⟩) : FnG P f args e t l := by
  subst hn
  have h' : (∀ d ∈ args, Wf d.1 d.2) → AC P T fn.ntmps code (fun e' σ => match e' with
      | .normal | .ret => RetG T fn.results.toList e t l σ
      | _ => False) ⟨argTm 0 args, []⟩ := fun hwf => by
    have := h hwf
    have e : (KRG T rs e t l) = fun e' σ => match e' with
        | .normal | .ret => RetG T fn.results.toList e t l σ
        | _ => False := by
      have hrl : fn.results.toList = rs := by rw [hr]
      rw [hrl]; funext e' σ; cases e' <;> rfl
    rw [e] at this
    exact this
  have := fn_gen (VQ := fun b S w v => ∃ fps : List (List Nat), v.oneCell' = true ∧ GrowF t.rp b w e v l fps ∧ OwnFp b w fps.flatten ∧ ∀ b ∈ fps.flatten, v.ownBlock ≠ some b) hT hmix hf hname hb hna (fun c σ Γ a w hs hq => retG_ok (P := P) hT hs hq) h'
  refine ⟨this.1, fun w vs S ha => (this.2 w vs S ha).mono ?_⟩
  rintro e w' ⟨hb, v, he, fps, q1, q2, q3, q4⟩
  exact ⟨hb, v, fps, he, q1, q2, q3, q4⟩

-- functions that use up what they are handed
def argV (i : Nat) : List AV → Tm
  | [] => []
  | v :: vs => (i, v) :: argV (i + 1) vs
/-- The contract of a function on values of a walk, at the memory of that walk: it may write what that memory's rows hold. -/
def FnB (P : Program) (f : FuncId) (vs : List AV) (M : Mm) (own : Bool) (res : List Dat) : Prop :=
  (∀ vs w, (callFunc f vs).run P w = .ok (.enter f vs) w) ∧
  ∀ (c : Cx) (Γ : Asg) (a : Act) (w : World) (tm : Tm) (us : List Value), Sim c ⟨tm, M⟩ Γ a w → All2 (fun v u => ARep c M Γ w v u) vs us →
    Calls P f us.toArray w fun en w' => Below c.base c.w0 w' ∧ c.base ≤ w'.heap.size ∧ ∃ v, en = .returned v ∧ ResOK own c.base c.S w' v res
theorem argV_ge : ∀ {vs : List AV} {i d : Nat} {v : AV}, look (argV i vs) d = some v → i ≤ d ∧ d < i + vs.length ∧ vs[d - i]? = some v
  | [], _, _, _, h => by cases h
  | e :: ds, i, d, v, h => by
    simp only [argV, look] at h
    split at h
    · rename_i hd; injection h with h; subst hd h; exact ⟨Nat.le_refl _, by simp, by simp⟩
    · obtain ⟨h1, h2, h3⟩ := argV_ge h
      refine ⟨by omega, by simp; omega, ?_⟩
      rw [show d - i = (d - (i + 1)) + 1 by omega]; exact h3
theorem fnB_enter (hT : TabOK P T) (hmix : P.follows .mixedOrders = true) {f : FuncId} {fn : Func} {code : Code} {vs : List AV} {M : Mm} {own : Bool} {res : List Dat} (hf : P.funcs[f]? = some fn) (hname : (fn.name == "runtime.NumGoroutine") = false) (hb : fn.body = some code) (n : Nat) (hn : fn.ntmps = n) (rs : List ResultVar) (hr : fn.results = rs.toArray) (hna : vs.length ≤ n)
    (h : AC P T n code (KR T rs own res) ⟨argV 0 vs, M⟩) : FnB P f vs M own res := by
  subst hn
  refine ⟨fun vs w => ?_, fun c Γ a w tm us hs hv => ?_⟩
  · have h1 : fn.name ≠ "runtime.NumGoroutine" := by simpa using hname
    simp [callFunc, hf, h1, hb]
  · refine calls_of_wp hf hb ?_
    have hlen := hv.len
    let c' : Cx := ⟨c.base, c.w0, c.S, fn.ntmps⟩
    have hs' : Sim c' ⟨argV 0 vs, M⟩ Γ { tmps := us.toArray ++ Array.replicate (fn.ntmps - us.toArray.size) undef, defers := [] } w := by
      refine ⟨fun d v hd => ?_, fun k B hk => hs.mm k B hk, fun k k' B B' b hk hk' => hs.inj k k' B B' b hk hk', fun k k' B B' b hk hk' => hs.disj k k' B B' b hk hk', hs.below, hs.hb, rfl, by simp [c']; omega⟩
      obtain ⟨_, h2, h3⟩ := argV_ge hd
      obtain ⟨u, hu, hr⟩ := hv.get (i := d) (by simpa using h3)
      refine ⟨u, ?_, arep_vrep hr⟩
      have hdl : d < us.length := by omega
      rw [Array.getElem?_append_left (by simpa using hdl)]
      simpa using hu
    have hrl : fn.results.toList = rs := by rw [hr]
    refine AC_wp (c := c') hT hmix h hs' fun e σ' Γ' a' w' hq hs1 => ?_
    have hq' : ∀ (hx : RetOK T σ' own rs res), a'.defers = [] ∧ ∃ v, (results fn a'.tmps).run P w' = .ok v w' ∧ Below c.base c.w0 w' ∧ c.base ≤ w'.heap.size ∧ ∃ u, Ending.returned v = .returned u ∧ ResOK own c.base c.S w' u res := fun hx => by
      obtain ⟨v, h1, h2⟩ := ret_ok (P := P) (fn := fn) hT hs1 (by rw [hrl]; exact hx)
      exact ⟨hs1.defs, v, h1, hs1.below, hs1.hb, v, rfl, h2⟩
    cases e with
    | normal => exact hq' hq
    | ret => exact hq' hq
    | _ => exact hq.elim

-- a call that comes last
/-- Code, as far as walks of every surroundings say. -/
def TW (P : Program) (n : Nat) (x : Code) (Q : Exit → St → Prop) (σ : St) : Prop :=
  ∀ (c : Cx) (Γ : Asg) (a : Act) (w : World) (Q' : Exit → Act → World → Prop), c.n = n → Sim c σ Γ a w → (∀ e σ' Γ' a' w', Q e σ' → Sim c σ' Γ' a' w' → Q' e a' w') → x.wp P Q' a w
theorem TW.of (hT : TabOK P T) (hmix : P.follows .mixedOrders = true) {n : Nat} {x : Code} {Q : Exit → St → Prop} {σ : St} (h : AC P T n x Q σ) : TW P n x Q σ :=
  fun c Γ a w Q' hn hs hQ => AC_wp hT hmix (by rw [hn]; exact h) hs hQ
theorem TW.seq (hT : TabOK P T) (hmix : P.follows .mixedOrders = true) {n : Nat} {x y : Code} {Q : Exit → St → Prop} {σ : St} (h : AC P T n x (thenA (fun σ' => TW P n y Q σ') Q) σ) : TW P n (.seq x y) Q σ :=
  fun c Γ a w Q' hn hs hQ => by
    refine wp_seq (AC_wp hT hmix (show AC P T c.n x _ σ by rw [hn]; exact h) hs fun e σ' Γ' a' w' hq hs' => ?_)
    cases e with
    | normal => exact hq c Γ' a' w' Q' hn hs' hQ
    | _ => exact hQ _ _ _ _ _ hq hs'
theorem TW.then (hT : TabOK P T) (hmix : P.follows .mixedOrders = true) {n : Nat} {x y : Code} {Q : Exit → St → Prop} {σ : St} (h : TW P n x (thenA (fun σ' => AC P T n y Q σ') Q) σ) : TW P n (.seq x y) Q σ :=
  fun c Γ a w Q' hn hs hQ => by
    refine wp_seq (h c Γ a w _ hn hs fun e σ' Γ' a' w' hq hs' => ?_)
    cases e with
    | normal => exact AC_wp hT hmix (show AC P T c.n y Q σ' by rw [hn]; exact hq) hs' hQ
    | _ => exact hQ _ _ _ _ _ hq hs'
theorem went_app {c : Cx} {ops : List Oper} {Q : Exit → Act → World → Prop} {post : List Oper} : ∀ {os : List Oper} {es : List Eff} {σ : St} {Γ : Asg} {a : Act} {w : World}, Went' P c ops σ os es → Sim c σ Γ a w → (∀ Γ' a' w', Sim c (runEs σ (os.zip es)) Γ' a' w' → wpList P ops.toArray Q post a' w') → wpList P ops.toArray Q (os ++ post) a w
  | [], _, σ, Γ, a, w, .nil _, hs, hQ => hQ Γ a w hs
  | o :: os, e :: es, σ, Γ, a, w, .cons h1 h2, hs, hQ => by
    refine wpList_step fun K hK => ?_
    exact h1.step hs (fun _ _ => rfl) (fun _ _ _ _ _ => rfl) (fun _ _ => rfl) fun Γ' a' w' hs' => hK _ _ (went_app h2 hs' hQ)
/-- The value of a result, and what it lays. -/
def resV (own : Bool) (d : Dat) : AV := if own then oav 0 d else av d.1 d.2
def resM' (own : Bool) (d : Dat) : Mm := if own then (ocel 0 d.1 d.2).2 else []
/-- The last call: what is handed over is used up. -/
def TailW (P : Program) (T : TypeId → Option Ty) (n : Nat) (ops : List Oper) (f : FuncId) (xs : List Operand) (d : Nat) (post : List Oper) (own : Bool) (r : Dat) (Q : Exit → St → Prop) (σ : St) : Prop :=
  ∃ τ vs, Wk σ τ ∧ evs (look τ.tmps) xs = some vs ∧ vs.all AV.ok = true ∧ FnB P f vs τ.mem own [r] ∧ d < n ∧ AO P T n ops post ⟨[(d, resV own r)], resM' own r⟩ [] (fun σ' _ => Q .normal σ')
theorem TW.tail (hT : TabOK P T) {n id : Nat} {l : List Oper} (i : Nat) {d : Nat} {f : FuncId} {xs : Array Operand} {tys : Array TypeId} {ty : TypeId} {ps : String} {af : Array Edge} {post : List Oper} {own : Bool} {r : Dat} {Q : Exit → St → Prop} {σ : St}
    (hl : l.drop i = ⟨some d, .call { callee := .value (.func f), args := xs, argTypes := tys }, ty, ps, af, none⟩ :: post)
    (h : AO P T n l (l.take i) σ [] (fun σ1 _ => TailW P T n l f xs.toList d post own r Q σ1)) : TW P n (.region id l.toArray false) Q σ := fun c Γ a w Q' hn hs hQ => by
  subst hn
  obtain ⟨es, σ', h1, h3, h4⟩ := AO_went hT h Same.rfl'
  refine wp_region_lit ?_
  have hsp : l = l.take i ++ l.drop i := (List.take_append_drop i l).symm
  rw [show wpList P l.toArray Q' l a w = wpList P l.toArray Q' (l.take i ++ l.drop i) a w by rw [← hsp]]
  refine went_app h1 hs fun Γ1 a1 w1 hs1 => ?_
  have hs1 := hs1.same h4
  obtain ⟨τ, vs, hwk, hev, hok, hfn, hd, hpost⟩ := h3
  obtain ⟨Γ2, hs2⟩ := wk_sim hs1 hwk
  rw [hl]
  refine wpList_step fun K hK => ?_
  rw [if_pos (by simp [Region.wanted])]
  have hvs := evs_rep hs2 (xs := xs.toList) (fun x _ t e => rfl) hev hok
  have hvs' : All2 (fun v u => ARep c τ.mem Γ2 w1 v u) vs (xs.toList.map a1.eval) := by
    have : ∀ {vs : List AV} {ys : List Operand}, All2 (fun v x => ARep c τ.mem Γ2 w1 v (a1.eval x)) vs ys → All2 (fun v u => ARep c τ.mem Γ2 w1 v u) vs (ys.map a1.eval) := by
      intro vs ys
      induction vs generalizing ys with
      | nil => intro h; cases ys with | nil => trivial | cons => exact h.elim
      | cons v vs ih => intro h; cases ys with
        | nil => exact h.elim
        | cons y ys => exact ⟨h.1, ih h.2⟩
    exact this hvs
  have hrun : (execOp a1.eval ⟨some d, .call { callee := .value (.func f), args := xs, argTypes := tys }, ty, ps, af, none⟩).run P w1 = .ok (.enter f (xs.map a1.eval)) w1 := by
    have h0 := hfn.1 (xs.map a1.eval) w1
    have e1 : a1.eval (.func f) = .func (.func f) #[] #[] := rfl
    simp [execOp, resolve, e1, Deferred.ofValue, invoke, h0]
  unfold Oper.wp
  rw [hrun, Oper.upon_enter]
  have hma : xs.map a1.eval = (xs.toList.map a1.eval).toArray := Array.toList_inj.1 (by rw [Array.toList_map])
  rw [hma]
  refine (hfn.2 c Γ2 a1 w1 τ.tmps _ hs2 hvs').mono ?_
  rintro e w' ⟨hb, hbs, u, rfl, fp, hdr, hown, hfp⟩
  have h0 : Sim c ⟨[], []⟩ ⟨fun _ => 0, fun _ => undef, fun _ => []⟩ a1 w' :=
    ⟨fun d v hd => (by cases hd), fun k B hk => (by cases hk), fun k k' B B' b hk => (by cases hk), fun k k' B B' b hk => (by cases hk), hb, hbs, hs1.defs, hs1.sz⟩
  have hfin : ∃ Γ3, Sim c ⟨[(d, resV own r)], resM' own r⟩ Γ3 (a1.put (some d) u) w' := by
    cases own with
    | true =>
      have ho := hown rfl
      obtain ⟨cs, hpk, hrp⟩ := hdr
      obtain ⟨Γ', s1, r1, _, _, _⟩ := h0.ocel (k := 0) hrp ho (fun b hbb => ⟨.inr (ho.2 b hbb).1, fun ⟨k, B, hB, _⟩ => by cases hB⟩) (fun b hbb j B hj => by cases hj) (fun p hp => rfl)
      refine ⟨Γ', ?_⟩
      have hv : VRep c ((ocel 0 r.1 r.2).2 ++ []) Γ' w' (oav 0 r) u := by
        unfold oav
        rcases hpk with ⟨hag, rfl⟩ | ⟨hag, rfl⟩
        · rw [hag]; exact ⟨cs, rfl, r1⟩
        · rw [hag]
          obtain ⟨v, hv1⟩ := ocel_one (k := 0) (x := r.2) hag
          rw [hv1] at r1 ⊢
          exact crep_vrep r1.1
      have := s1.put (d := some d) hv (fun x hx => by injection hx with hx; subst hx; exact hd)
      simpa [resV, resM', St.put] using this
    | false =>
      refine ⟨⟨fun _ => 0, fun _ => undef, fun _ => []⟩, ?_⟩
      have hv : VRep c [] ⟨fun _ => 0, fun _ => undef, fun _ => []⟩ w' (av r.1 r.2) u := arep_vrep (av_rep hdr fun b hbb => ⟨hfp b hbb, fun ⟨k, B, hB, _⟩ => by cases hB⟩)
      have := h0.put (d := some d) hv (fun x hx => by injection hx with hx; subst hx; exact hd)
      simpa [resV, resM', St.put] using this
  obtain ⟨Γ3, hs3⟩ := hfin
  obtain ⟨es', σ'', g1, g3, g4⟩ := AO_went hT hpost Same.rfl'
  exact hK _ _ (went_list g1 hs3 fun Γ' a' w' hs' => hQ _ _ _ _ _ g3 (hs'.same g4))
theorem fn_tail (hT : TabOK P T) {f : FuncId} {fn : Func} {code : Code} {args : List Dat} {own : Bool} {res : List Dat} (hf : P.funcs[f]? = some fn) (hname : (fn.name == "runtime.NumGoroutine") = false) (hb : fn.body = some code) (n : Nat) (hnt : fn.ntmps = n) (rs : List ResultVar) (hr : fn.results = rs.toArray) (hn' : args.length ≤ n)
    (h : (∀ d ∈ args, Wf d.1 d.2) → TW P n code (KR T rs own res) ⟨argTm 0 args, []⟩) : Fn P f args own res := by
  subst hnt
  have hn := hn'
  have hrl : fn.results.toList = rs := by rw [hr]
  refine ⟨fun vs w => ?_, fun w vs S hargs => ?_⟩
  · have h1 : fn.name ≠ "runtime.NumGoroutine" := by simpa using hname
    simp [callFunc, hf, h1, hb]
  · refine calls_of_wp hf hb ?_
    have hwf : ∀ d ∈ args, Wf d.1 d.2 := by
      clear h hn
      revert hargs
      generalize args = ds
      intro hargs
      induction ds generalizing vs with
      | nil => intro d hd; cases hd
      | cons d ds ih =>
        cases vs with
        | nil => exact hargs.elim
        | cons v vs =>
          obtain ⟨⟨fp, ⟨cs, _, hr⟩, _⟩, h2⟩ := hargs
          intro d' hd'
          rcases List.mem_cons.1 hd' with rfl | hd'
          · exact rep_wf hr
          · exact ih vs h2 d' hd'
    have hlen := hargs.len
    let c : Cx := ⟨w.heap.size, w, S, fn.ntmps⟩
    have hlt : ∀ {d : Dat} {v : Value} {fp : List Nat}, DRep w v d fp → ∀ b ∈ fp, b < w.heap.size := fun ⟨cs, _, hr⟩ => (Ty.rp _).lt hr
    have hs : Sim c ⟨argTm 0 args, []⟩ ⟨fun _ => 0, fun _ => undef, fun _ => []⟩ { tmps := vs.toArray ++ Array.replicate (fn.ntmps - vs.toArray.size) undef, defers := [] } w := by
      refine ⟨fun d v hd => ?_, fun k B hk => (by cases hk), fun k k' B B' b hk => (by cases hk), fun k k' B B' b hk => (by cases hk), Below.refl _ _, Nat.le_refl _, rfl, by simp [c]; omega⟩
      obtain ⟨_, h2, e, h3, rfl⟩ := argTm_ge hd
      have hdl : d < vs.length := by omega
      have hx : ∃ u, vs[d]? = some u ∧ ∃ fp, DRep w u e fp ∧ ∀ b ∈ fp, S b := by
        have hh : ∀ {ds : List Dat} {vs : List Value} {d : Nat}, All2 (fun v d => ∃ fp, DRep w v d fp ∧ ∀ b ∈ fp, S b) vs ds → ds[d]? = some e → ∃ u, vs[d]? = some u ∧ ∃ fp, DRep w u e fp ∧ ∀ b ∈ fp, S b := by
          intro ds
          induction ds with
          | nil => intro vs d _ h; simp at h
          | cons d0 ds ih =>
            intro vs d hA h
            cases vs with
            | nil => exact hA.elim
            | cons v vs =>
              cases d with
              | zero => simp at h; subst h; exact ⟨v, rfl, hA.1⟩
              | succ d => simpa using ih hA.2 (by simpa using h)
        exact hh hargs (by simpa using h3)
      obtain ⟨u, hu, fp, hdr, hS⟩ := hx
      refine ⟨u, ?_, arep_vrep (av_rep hdr fun b hb => ⟨.inl (hS b hb), fun ⟨k, B, hk, _⟩ => by cases hk⟩)⟩
      rw [Array.getElem?_append_left (by simpa using hdl)]
      simpa using hu
    refine (h hwf) c _ _ _ _ rfl hs fun e σ' Γ' a' w' hq hs' => ?_
    have hq' : ∀ (hx : RetOK T σ' own rs res), a'.defers = [] ∧ ∃ v, (results fn a'.tmps).run P w' = .ok v w' ∧ Below w.heap.size w w' ∧ ∃ u, Ending.returned v = .returned u ∧ ResOK own w.heap.size S w' u res := fun hx => by
      obtain ⟨v, h1, h2⟩ := ret_ok (P := P) (fn := fn) hT hs' (by rw [hrl]; exact hx)
      exact ⟨hs'.defs, v, h1, hs'.below, v, rfl, h2⟩
    cases e with
    | normal => exact hq' hq
    | ret => exact hq' hq
    | _ => exact hq.elim
end
end Go.Proofs.YtgffgcpcjpjfgaaGreat.DW

/-
  Limits of speed, as rows that may be written; lists of fractions in new memory.
-/
namespace Go.Proofs.YtgffgcpcjpjfgaaGreat.DW
open Go.RowKit
theorem implSpeedLimitsG (n : Int) (l : List Int) (hl : l.length ≤ 16777216) (hok : spdOk n l) : FnG Tryz.prog 86 [⟨.int, n⟩, ⟨tInts, l⟩] 36 tRat (spdL n l n.toNat) := by
  have h1 : ¬ n < 1 := by have := hok.1; omega
  have h2 := hok.2.1
  have h3 : l.any (fun x => !decide (1 ≤ x ∧ x ≤ 1000)) = false := by
    rw [List.any_eq_false]
    intro x hx
    have := hok.2.2 x hx
    simp [this.1, this.2]
  refine fnG_enter tabOK mixes Tryz.func86 rfl rfl _ Tryz.ntmps86 _ Tryz.results86 (by simp) fun hwf => ?_
  have hll : l.length ≤ 9223372036854775807 := (hwf ⟨tInts, l⟩ (by simp)).1
  have hI : I64 n := hwf ⟨.int, n⟩ (by simp)
  have hI2 := hI.2
  have hi : I64 (n - 1) := by constructor <;> omega
  try simp (config := { maxSteps := 10000000 }) only [go_sem, reduceIte, reduceCtorEq, Nat.reduceEqDiff, Nat.reduceLT, Nat.reduceLeDiff, Nat.reduceAdd, Nat.reduceBEq, Nat.reduceMul, Int.reduceToNat, Int.reduceLE, Int.reduceLT, Int.reduceEq, Int.reduceNeg, h1, h2]
  repeat (refine And.intro (by first | omega | (constructor <;> omega) | kernel_rfl) ?_)
  refine CallW.mk (containsFunc_int_fn _ _ speedC_fn l) ?_
  try simp (config := { maxSteps := 10000000 }) only [go_sem, reduceIte, reduceCtorEq, Nat.reduceEqDiff, Nat.reduceLT, Nat.reduceLeDiff, Nat.reduceAdd, Nat.reduceBEq, Nat.reduceMul, Int.reduceToNat, Int.reduceLE, Int.reduceLT, Int.reduceEq, Int.reduceNeg]
  try simp (config := { maxSteps := 10000000 }) only [go_sem, reduceIte, reduceCtorEq, Nat.reduceEqDiff, Nat.reduceLT, Nat.reduceLeDiff, Nat.reduceAdd, Nat.reduceBEq, Nat.reduceMul, Int.reduceToNat, Int.reduceLE, Int.reduceLT, Int.reduceEq, Int.reduceNeg, h3]
  refine LoopG.intro _ _ _ (fun i : Nat => ⟨[(0, .sc (.int .i64 n)), (1, .sl .int l), (5, .row 0 0), (22, .sc (.int .i64 n)), (23, .sc (.int .i64 i))], [(0, .row 36 tRat 0 true (spdL n l i))]⟩) (fun i => (i : Int) ≤ n) (fun i => (n - i).toNat) 0 ?_ (by omega) ?_
  · refine Wk.mk [] ?_
    try simp (config := { maxSteps := 10000000 }) only [go_sem, reduceIte, reduceCtorEq, Nat.reduceEqDiff, Nat.reduceLT, Nat.reduceLeDiff, Nat.reduceAdd, Nat.reduceBEq, Nat.reduceMul, Int.reduceToNat, Int.reduceLE, Int.reduceLT, Int.reduceEq, Int.reduceNeg]
    try (and_intros <;> first | rfl | omega | exact ⟨_, rfl⟩)
    all_goals (exact ⟨rfl, rfl⟩)
  · intro i hin
    have hk := limA_le hok i
    have hsq := sq_le hk
    try simp (config := { maxSteps := 10000000 }) only [go_sem, reduceIte, reduceCtorEq, Nat.reduceEqDiff, Nat.reduceLT, Nat.reduceLeDiff, Nat.reduceAdd, Nat.reduceBEq, Nat.reduceMul, Int.reduceToNat, Int.reduceLE, Int.reduceLT, Int.reduceEq, Int.reduceNeg]
    refine CondW_dec (fun hA => ?_) (fun hA => ?_)
    · have hpath : (0 < (i : Int) ∧ (i : Int) < n - 1 ∧ limA n l i = min (ni l ((i : Int) - 1).toNat) (ni l i)) ∨ (¬ 0 < (i : Int) ∧ limA n l i = 0) ∨ (0 < (i : Int) ∧ ¬ (i : Int) < n - 1 ∧ limA n l i = 0) := by
        unfold limA
        by_cases g1 : 0 < (i : Int)
        · by_cases g2 : (i : Int) < n - 1
          · exact .inl ⟨g1, g2, if_pos ⟨g1, g2⟩⟩
          · exact .inr (.inr ⟨g1, g2, if_neg fun h => g2 h.2⟩)
        · exact .inr (.inl ⟨g1, if_neg fun h => g1 h.1⟩)
      rcases hpath with ⟨hB, hC, hlim⟩ | ⟨hB, hlim⟩ | ⟨hB, hC, hlim⟩
      · try simp (config := { maxSteps := 10000000 }) only [go_sem, reduceIte, reduceCtorEq, Nat.reduceEqDiff, Nat.reduceLT, Nat.reduceLeDiff, Nat.reduceAdd, Nat.reduceBEq, Nat.reduceMul, Int.reduceToNat, Int.reduceLE, Int.reduceLT, Int.reduceEq, Int.reduceNeg, hA]
        repeat (refine And.intro (by first | omega | (constructor <;> omega) | kernel_rfl) ?_)
        try simp (config := { maxSteps := 10000000 }) only [go_sem, reduceIte, reduceCtorEq, Nat.reduceEqDiff, Nat.reduceLT, Nat.reduceLeDiff, Nat.reduceAdd, Nat.reduceBEq, Nat.reduceMul, Int.reduceToNat, Int.reduceLE, Int.reduceLT, Int.reduceEq, Int.reduceNeg, hB, hC]
        repeat (refine And.intro (by first | omega | (constructor <;> omega) | kernel_rfl) ?_)
        rw [← hlim]
        repeat (refine And.intro (by first | omega | (constructor <;> omega) | kernel_rfl) ?_)
        repeat (refine And.intro (by first | omega | (constructor <;> omega) | kernel_rfl) ?_)
        refine CallW.mk (ratInt_fn (limA n l i * limA n l i)) ?_
        try simp (config := { maxSteps := 10000000 }) only [go_sem, reduceIte, reduceCtorEq, Nat.reduceEqDiff, Nat.reduceLT, Nat.reduceLeDiff, Nat.reduceAdd, Nat.reduceBEq, Nat.reduceMul, Int.reduceToNat, Int.reduceLE, Int.reduceLT, Int.reduceEq, Int.reduceNeg]
        try simp (config := { maxSteps := 10000000 }) only [go_sem, reduceIte, reduceCtorEq, Nat.reduceEqDiff, Nat.reduceLT, Nat.reduceLeDiff, Nat.reduceAdd, Nat.reduceBEq, Nat.reduceMul, Int.reduceToNat, Int.reduceLE, Int.reduceLT, Int.reduceEq, Int.reduceNeg, spdL_len]
        repeat (refine And.intro (by first | omega | (constructor <;> omega) | kernel_rfl) ?_)
        refine LoopK.mk (i + 1) ?_ (by omega) (by omega)
        refine Wk.mk [] ?_
        try simp (config := { maxSteps := 10000000 }) only [go_sem, reduceIte, reduceCtorEq, Nat.reduceEqDiff, Nat.reduceLT, Nat.reduceLeDiff, Nat.reduceAdd, Nat.reduceBEq, Nat.reduceMul, Int.reduceToNat, Int.reduceLE, Int.reduceLT, Int.reduceEq, Int.reduceNeg]
        try (and_intros <;> first | rfl | omega | exact ⟨_, rfl⟩)
        all_goals (rw [spdL_succ]; exact ⟨by omega, rfl⟩)
      · try simp (config := { maxSteps := 10000000 }) only [go_sem, reduceIte, reduceCtorEq, Nat.reduceEqDiff, Nat.reduceLT, Nat.reduceLeDiff, Nat.reduceAdd, Nat.reduceBEq, Nat.reduceMul, Int.reduceToNat, Int.reduceLE, Int.reduceLT, Int.reduceEq, Int.reduceNeg, hA]
        repeat (refine And.intro (by first | omega | (constructor <;> omega) | kernel_rfl) ?_)
        try simp (config := { maxSteps := 10000000 }) only [go_sem, reduceIte, reduceCtorEq, Nat.reduceEqDiff, Nat.reduceLT, Nat.reduceLeDiff, Nat.reduceAdd, Nat.reduceBEq, Nat.reduceMul, Int.reduceToNat, Int.reduceLE, Int.reduceLT, Int.reduceEq, Int.reduceNeg, hB]
        repeat (refine And.intro (by first | omega | (constructor <;> omega) | kernel_rfl) ?_)
        repeat (refine And.intro (by first | omega | (constructor <;> omega) | kernel_rfl) ?_)
        refine CallW.mk (ratInt_fn (0 * 0)) ?_
        try simp (config := { maxSteps := 10000000 }) only [go_sem, reduceIte, reduceCtorEq, Nat.reduceEqDiff, Nat.reduceLT, Nat.reduceLeDiff, Nat.reduceAdd, Nat.reduceBEq, Nat.reduceMul, Int.reduceToNat, Int.reduceLE, Int.reduceLT, Int.reduceEq, Int.reduceNeg]
        try simp (config := { maxSteps := 10000000 }) only [go_sem, reduceIte, reduceCtorEq, Nat.reduceEqDiff, Nat.reduceLT, Nat.reduceLeDiff, Nat.reduceAdd, Nat.reduceBEq, Nat.reduceMul, Int.reduceToNat, Int.reduceLE, Int.reduceLT, Int.reduceEq, Int.reduceNeg, spdL_len]
        repeat (refine And.intro (by first | omega | (constructor <;> omega) | kernel_rfl) ?_)
        refine LoopK.mk (i + 1) ?_ (by omega) (by omega)
        refine Wk.mk [] ?_
        try simp (config := { maxSteps := 10000000 }) only [go_sem, reduceIte, reduceCtorEq, Nat.reduceEqDiff, Nat.reduceLT, Nat.reduceLeDiff, Nat.reduceAdd, Nat.reduceBEq, Nat.reduceMul, Int.reduceToNat, Int.reduceLE, Int.reduceLT, Int.reduceEq, Int.reduceNeg]
        try (and_intros <;> first | rfl | omega | exact ⟨_, rfl⟩)
        all_goals (rw [spdL_succ, hlim]; exact ⟨by omega, rfl⟩)
      · try simp (config := { maxSteps := 10000000 }) only [go_sem, reduceIte, reduceCtorEq, Nat.reduceEqDiff, Nat.reduceLT, Nat.reduceLeDiff, Nat.reduceAdd, Nat.reduceBEq, Nat.reduceMul, Int.reduceToNat, Int.reduceLE, Int.reduceLT, Int.reduceEq, Int.reduceNeg, hA]
        repeat (refine And.intro (by first | omega | (constructor <;> omega) | kernel_rfl) ?_)
        try simp (config := { maxSteps := 10000000 }) only [go_sem, reduceIte, reduceCtorEq, Nat.reduceEqDiff, Nat.reduceLT, Nat.reduceLeDiff, Nat.reduceAdd, Nat.reduceBEq, Nat.reduceMul, Int.reduceToNat, Int.reduceLE, Int.reduceLT, Int.reduceEq, Int.reduceNeg, hB, hC]
        repeat (refine And.intro (by first | omega | (constructor <;> omega) | kernel_rfl) ?_)
        repeat (refine And.intro (by first | omega | (constructor <;> omega) | kernel_rfl) ?_)
        refine CallW.mk (ratInt_fn (0 * 0)) ?_
        try simp (config := { maxSteps := 10000000 }) only [go_sem, reduceIte, reduceCtorEq, Nat.reduceEqDiff, Nat.reduceLT, Nat.reduceLeDiff, Nat.reduceAdd, Nat.reduceBEq, Nat.reduceMul, Int.reduceToNat, Int.reduceLE, Int.reduceLT, Int.reduceEq, Int.reduceNeg]
        try simp (config := { maxSteps := 10000000 }) only [go_sem, reduceIte, reduceCtorEq, Nat.reduceEqDiff, Nat.reduceLT, Nat.reduceLeDiff, Nat.reduceAdd, Nat.reduceBEq, Nat.reduceMul, Int.reduceToNat, Int.reduceLE, Int.reduceLT, Int.reduceEq, Int.reduceNeg, spdL_len]
        repeat (refine And.intro (by first | omega | (constructor <;> omega) | kernel_rfl) ?_)
        refine LoopK.mk (i + 1) ?_ (by omega) (by omega)
        refine Wk.mk [] ?_
        try simp (config := { maxSteps := 10000000 }) only [go_sem, reduceIte, reduceCtorEq, Nat.reduceEqDiff, Nat.reduceLT, Nat.reduceLeDiff, Nat.reduceAdd, Nat.reduceBEq, Nat.reduceMul, Int.reduceToNat, Int.reduceLE, Int.reduceLT, Int.reduceEq, Int.reduceNeg]
        try (and_intros <;> first | rfl | omega | exact ⟨_, rfl⟩)
        all_goals (rw [spdL_succ, hlim]; exact ⟨by omega, rfl⟩)
    · try simp (config := { maxSteps := 10000000 }) only [go_sem, reduceIte, reduceCtorEq, Nat.reduceEqDiff, Nat.reduceLT, Nat.reduceLeDiff, Nat.reduceAdd, Nat.reduceBEq, Nat.reduceMul, Int.reduceToNat, Int.reduceLE, Int.reduceLT, Int.reduceEq, Int.reduceNeg]
      rw [show n.toNat = i by omega]
      try exact ⟨_, _, rfl, rfl⟩
theorem specSpeedLimitsG (n : Int) (l : List Int) (hl : l.length ≤ 16777216) (hok : spdOk n l) : FnG Tryz.prog 84 [⟨.int, n⟩, ⟨tInts, l⟩] 36 tRat (spdL n l n.toNat) := by
  have h1 : ¬ n < 1 := by have := hok.1; omega
  have h2 := hok.2.1
  refine fnG_enter tabOK mixes Tryz.func84 rfl rfl _ Tryz.ntmps84 _ Tryz.results84 (by simp) fun hwf => ?_
  have hll : l.length ≤ 9223372036854775807 := (hwf ⟨tInts, l⟩ (by simp)).1
  have hI : I64 n := hwf ⟨.int, n⟩ (by simp)
  have hI2 := hI.2
  have hi : I64 (n - 1) := by constructor <;> omega
  try simp (config := { maxSteps := 10000000 }) only [go_sem, reduceIte, reduceCtorEq, Nat.reduceEqDiff, Nat.reduceLT, Nat.reduceLeDiff, Nat.reduceAdd, Nat.reduceBEq, Nat.reduceMul, Int.reduceToNat, Int.reduceLE, Int.reduceLT, Int.reduceEq, Int.reduceNeg, h1, h2]
  repeat (refine And.intro (by first | omega | (constructor <;> omega) | kernel_rfl) ?_)
  refine LoopG.intro _ _ _ (fun i : Nat => ⟨[(0, .sc (.int .i64 n)), (1, .sl .int l), (19, .sl .int l), (20, .sc (.int .i64 (n - 1))), (21, .sc (.int .i64 i))], []⟩) (fun i => i ≤ l.length ∧ ∀ j < i, 1 ≤ ni l j ∧ ni l j ≤ 1000) (fun i => l.length - i) 0 ?_ ⟨Nat.zero_le _, fun j h => by omega⟩ ?_
  · refine Wk.mk [] ?_
    try simp (config := { maxSteps := 10000000 }) only [go_sem, reduceIte, reduceCtorEq, Nat.reduceEqDiff, Nat.reduceLT, Nat.reduceLeDiff, Nat.reduceAdd, Nat.reduceBEq, Nat.reduceMul, Int.reduceToNat, Int.reduceLE, Int.reduceLT, Int.reduceEq, Int.reduceNeg]
    try (and_intros <;> first | rfl | omega | exact ⟨_, rfl⟩)
  · rintro j ⟨g1, g2⟩
    try simp (config := { maxSteps := 10000000 }) only [go_sem, reduceIte, reduceCtorEq, Nat.reduceEqDiff, Nat.reduceLT, Nat.reduceLeDiff, Nat.reduceAdd, Nat.reduceBEq, Nat.reduceMul, Int.reduceToNat, Int.reduceLE, Int.reduceLT, Int.reduceEq, Int.reduceNeg]
    refine CondW_dec (fun hA => ?_) (fun hA => ?_)
    · try simp (config := { maxSteps := 10000000 }) only [go_sem, reduceIte, reduceCtorEq, Nat.reduceEqDiff, Nat.reduceLT, Nat.reduceLeDiff, Nat.reduceAdd, Nat.reduceBEq, Nat.reduceMul, Int.reduceToNat, Int.reduceLE, Int.reduceLT, Int.reduceEq, Int.reduceNeg]
      repeat (refine And.intro (by first | omega | (constructor <;> omega) | kernel_rfl) ?_)
      repeat (refine And.intro (by first | omega | (constructor <;> omega) | kernel_rfl) ?_)
      refine CallW.mk (l01In_fn (ni l j) 1 1000) ?_
      try simp (config := { maxSteps := 10000000 }) only [go_sem, reduceIte, reduceCtorEq, Nat.reduceEqDiff, Nat.reduceLT, Nat.reduceLeDiff, Nat.reduceAdd, Nat.reduceBEq, Nat.reduceMul, Int.reduceToNat, Int.reduceLE, Int.reduceLT, Int.reduceEq, Int.reduceNeg]
      refine CondW_not (fun hB => ?_) (fun hB => ?_)
      · exact absurd (by rw [ni_lt (by omega)]; exact hok.2.2 _ (List.getElem_mem (by omega))) hB
      · try simp (config := { maxSteps := 10000000 }) only [go_sem, reduceIte, reduceCtorEq, Nat.reduceEqDiff, Nat.reduceLT, Nat.reduceLeDiff, Nat.reduceAdd, Nat.reduceBEq, Nat.reduceMul, Int.reduceToNat, Int.reduceLE, Int.reduceLT, Int.reduceEq, Int.reduceNeg]
        repeat (refine And.intro (by first | omega | (constructor <;> omega) | kernel_rfl) ?_)
        refine LoopK.mk (j + 1) ?_ ⟨by omega, fun q hq => ?_⟩ (by omega)
        · refine Wk.mk [] ?_
          try simp (config := { maxSteps := 10000000 }) only [go_sem, reduceIte, reduceCtorEq, Nat.reduceEqDiff, Nat.reduceLT, Nat.reduceLeDiff, Nat.reduceAdd, Nat.reduceBEq, Nat.reduceMul, Int.reduceToNat, Int.reduceLE, Int.reduceLT, Int.reduceEq, Int.reduceNeg]
          try (and_intros <;> first | rfl | omega | exact ⟨_, rfl⟩)
        · by_cases hqj : q < j
          · exact g2 q hqj
          · rw [show q = j by omega]; exact hB
    · try simp (config := { maxSteps := 10000000 }) only [go_sem, reduceIte, reduceCtorEq, Nat.reduceEqDiff, Nat.reduceLT, Nat.reduceLeDiff, Nat.reduceAdd, Nat.reduceBEq, Nat.reduceMul, Int.reduceToNat, Int.reduceLE, Int.reduceLT, Int.reduceEq, Int.reduceNeg]
      refine LoopG.intro _ _ _ (fun i : Nat => ⟨[(0, .sc (.int .i64 n)), (1, .sl .int l), (7, .row 0 0), (8, .sc (.int .i64 i))], [(0, .row 36 tRat 0 true (spdL n l i))]⟩) (fun i => (i : Int) ≤ n) (fun i => (n - i).toNat) 0 ?_ (by omega) ?_
      · refine Wk.mk [] ?_
        try simp (config := { maxSteps := 10000000 }) only [go_sem, reduceIte, reduceCtorEq, Nat.reduceEqDiff, Nat.reduceLT, Nat.reduceLeDiff, Nat.reduceAdd, Nat.reduceBEq, Nat.reduceMul, Int.reduceToNat, Int.reduceLE, Int.reduceLT, Int.reduceEq, Int.reduceNeg]
        try (and_intros <;> first | rfl | omega | exact ⟨_, rfl⟩)
        all_goals (exact ⟨rfl, rfl⟩)
      · intro i hin
        have hk := limA_le hok i
        have hsq := sq_le hk
        try simp (config := { maxSteps := 10000000 }) only [go_sem, reduceIte, reduceCtorEq, Nat.reduceEqDiff, Nat.reduceLT, Nat.reduceLeDiff, Nat.reduceAdd, Nat.reduceBEq, Nat.reduceMul, Int.reduceToNat, Int.reduceLE, Int.reduceLT, Int.reduceEq, Int.reduceNeg]
        refine CondW_dec (fun hA => ?_) (fun hA => ?_)
        · have hpath : (0 < (i : Int) ∧ (i : Int) < n - 1 ∧ limA n l i = min (ni l ((i : Int) - 1).toNat) (ni l i)) ∨ (¬ 0 < (i : Int) ∧ limA n l i = 0) ∨ (0 < (i : Int) ∧ ¬ (i : Int) < n - 1 ∧ limA n l i = 0) := by
            unfold limA
            by_cases g1 : 0 < (i : Int)
            · by_cases g2 : (i : Int) < n - 1
              · exact .inl ⟨g1, g2, if_pos ⟨g1, g2⟩⟩
              · exact .inr (.inr ⟨g1, g2, if_neg fun h => g2 h.2⟩)
            · exact .inr (.inl ⟨g1, if_neg fun h => g1 h.1⟩)
          rcases hpath with ⟨hB, hC, hlim⟩ | ⟨hB, hlim⟩ | ⟨hB, hC, hlim⟩
          · try simp (config := { maxSteps := 10000000 }) only [go_sem, reduceIte, reduceCtorEq, Nat.reduceEqDiff, Nat.reduceLT, Nat.reduceLeDiff, Nat.reduceAdd, Nat.reduceBEq, Nat.reduceMul, Int.reduceToNat, Int.reduceLE, Int.reduceLT, Int.reduceEq, Int.reduceNeg, hA]
            repeat (refine And.intro (by first | omega | (constructor <;> omega) | kernel_rfl) ?_)
            try simp (config := { maxSteps := 10000000 }) only [go_sem, reduceIte, reduceCtorEq, Nat.reduceEqDiff, Nat.reduceLT, Nat.reduceLeDiff, Nat.reduceAdd, Nat.reduceBEq, Nat.reduceMul, Int.reduceToNat, Int.reduceLE, Int.reduceLT, Int.reduceEq, Int.reduceNeg, hB, hC]
            repeat (refine And.intro (by first | omega | (constructor <;> omega) | kernel_rfl) ?_)
            repeat (refine And.intro (by first | omega | (constructor <;> omega) | kernel_rfl) ?_)
            refine CallW.mk (l07Min_fn (ni l ((i : Int) - 1).toNat) (ni l i)) ?_
            try simp (config := { maxSteps := 10000000 }) only [go_sem, reduceIte, reduceCtorEq, Nat.reduceEqDiff, Nat.reduceLT, Nat.reduceLeDiff, Nat.reduceAdd, Nat.reduceBEq, Nat.reduceMul, Int.reduceToNat, Int.reduceLE, Int.reduceLT, Int.reduceEq, Int.reduceNeg]
            rw [← hlim]
            repeat (refine And.intro (by first | omega | (constructor <;> omega) | kernel_rfl) ?_)
            repeat (refine And.intro (by first | omega | (constructor <;> omega) | kernel_rfl) ?_)
            refine CallW.mk (RatFromInt_fn (limA n l i * limA n l i)) ?_
            try simp (config := { maxSteps := 10000000 }) only [go_sem, reduceIte, reduceCtorEq, Nat.reduceEqDiff, Nat.reduceLT, Nat.reduceLeDiff, Nat.reduceAdd, Nat.reduceBEq, Nat.reduceMul, Int.reduceToNat, Int.reduceLE, Int.reduceLT, Int.reduceEq, Int.reduceNeg]
            try simp (config := { maxSteps := 10000000 }) only [go_sem, reduceIte, reduceCtorEq, Nat.reduceEqDiff, Nat.reduceLT, Nat.reduceLeDiff, Nat.reduceAdd, Nat.reduceBEq, Nat.reduceMul, Int.reduceToNat, Int.reduceLE, Int.reduceLT, Int.reduceEq, Int.reduceNeg, spdL_len]
            repeat (refine And.intro (by first | omega | (constructor <;> omega) | kernel_rfl) ?_)
            refine LoopK.mk (i + 1) ?_ (by omega) (by omega)
            refine Wk.mk [] ?_
            try simp (config := { maxSteps := 10000000 }) only [go_sem, reduceIte, reduceCtorEq, Nat.reduceEqDiff, Nat.reduceLT, Nat.reduceLeDiff, Nat.reduceAdd, Nat.reduceBEq, Nat.reduceMul, Int.reduceToNat, Int.reduceLE, Int.reduceLT, Int.reduceEq, Int.reduceNeg]
            try (and_intros <;> first | rfl | omega | exact ⟨_, rfl⟩)
            all_goals (rw [spdL_succ]; exact ⟨by omega, rfl⟩)
          · try simp (config := { maxSteps := 10000000 }) only [go_sem, reduceIte, reduceCtorEq, Nat.reduceEqDiff, Nat.reduceLT, Nat.reduceLeDiff, Nat.reduceAdd, Nat.reduceBEq, Nat.reduceMul, Int.reduceToNat, Int.reduceLE, Int.reduceLT, Int.reduceEq, Int.reduceNeg, hA]
            repeat (refine And.intro (by first | omega | (constructor <;> omega) | kernel_rfl) ?_)
            try simp (config := { maxSteps := 10000000 }) only [go_sem, reduceIte, reduceCtorEq, Nat.reduceEqDiff, Nat.reduceLT, Nat.reduceLeDiff, Nat.reduceAdd, Nat.reduceBEq, Nat.reduceMul, Int.reduceToNat, Int.reduceLE, Int.reduceLT, Int.reduceEq, Int.reduceNeg, hB]
            repeat (refine And.intro (by first | omega | (constructor <;> omega) | kernel_rfl) ?_)
            repeat (refine And.intro (by first | omega | (constructor <;> omega) | kernel_rfl) ?_)
            refine CallW.mk (RatFromInt_fn (0 * 0)) ?_
            try simp (config := { maxSteps := 10000000 }) only [go_sem, reduceIte, reduceCtorEq, Nat.reduceEqDiff, Nat.reduceLT, Nat.reduceLeDiff, Nat.reduceAdd, Nat.reduceBEq, Nat.reduceMul, Int.reduceToNat, Int.reduceLE, Int.reduceLT, Int.reduceEq, Int.reduceNeg]
            try simp (config := { maxSteps := 10000000 }) only [go_sem, reduceIte, reduceCtorEq, Nat.reduceEqDiff, Nat.reduceLT, Nat.reduceLeDiff, Nat.reduceAdd, Nat.reduceBEq, Nat.reduceMul, Int.reduceToNat, Int.reduceLE, Int.reduceLT, Int.reduceEq, Int.reduceNeg, spdL_len]
            repeat (refine And.intro (by first | omega | (constructor <;> omega) | kernel_rfl) ?_)
            refine LoopK.mk (i + 1) ?_ (by omega) (by omega)
            refine Wk.mk [] ?_
            try simp (config := { maxSteps := 10000000 }) only [go_sem, reduceIte, reduceCtorEq, Nat.reduceEqDiff, Nat.reduceLT, Nat.reduceLeDiff, Nat.reduceAdd, Nat.reduceBEq, Nat.reduceMul, Int.reduceToNat, Int.reduceLE, Int.reduceLT, Int.reduceEq, Int.reduceNeg]
            try (and_intros <;> first | rfl | omega | exact ⟨_, rfl⟩)
            all_goals (rw [spdL_succ, hlim]; exact ⟨by omega, rfl⟩)
          · try simp (config := { maxSteps := 10000000 }) only [go_sem, reduceIte, reduceCtorEq, Nat.reduceEqDiff, Nat.reduceLT, Nat.reduceLeDiff, Nat.reduceAdd, Nat.reduceBEq, Nat.reduceMul, Int.reduceToNat, Int.reduceLE, Int.reduceLT, Int.reduceEq, Int.reduceNeg, hA]
            repeat (refine And.intro (by first | omega | (constructor <;> omega) | kernel_rfl) ?_)
            try simp (config := { maxSteps := 10000000 }) only [go_sem, reduceIte, reduceCtorEq, Nat.reduceEqDiff, Nat.reduceLT, Nat.reduceLeDiff, Nat.reduceAdd, Nat.reduceBEq, Nat.reduceMul, Int.reduceToNat, Int.reduceLE, Int.reduceLT, Int.reduceEq, Int.reduceNeg, hB, hC]
            repeat (refine And.intro (by first | omega | (constructor <;> omega) | kernel_rfl) ?_)
            repeat (refine And.intro (by first | omega | (constructor <;> omega) | kernel_rfl) ?_)
            refine CallW.mk (RatFromInt_fn (0 * 0)) ?_
            try simp (config := { maxSteps := 10000000 }) only [go_sem, reduceIte, reduceCtorEq, Nat.reduceEqDiff, Nat.reduceLT, Nat.reduceLeDiff, Nat.reduceAdd, Nat.reduceBEq, Nat.reduceMul, Int.reduceToNat, Int.reduceLE, Int.reduceLT, Int.reduceEq, Int.reduceNeg]
            try simp (config := { maxSteps := 10000000 }) only [go_sem, reduceIte, reduceCtorEq, Nat.reduceEqDiff, Nat.reduceLT, Nat.reduceLeDiff, Nat.reduceAdd, Nat.reduceBEq, Nat.reduceMul, Int.reduceToNat, Int.reduceLE, Int.reduceLT, Int.reduceEq, Int.reduceNeg, spdL_len]
            repeat (refine And.intro (by first | omega | (constructor <;> omega) | kernel_rfl) ?_)
            refine LoopK.mk (i + 1) ?_ (by omega) (by omega)
            refine Wk.mk [] ?_
            try simp (config := { maxSteps := 10000000 }) only [go_sem, reduceIte, reduceCtorEq, Nat.reduceEqDiff, Nat.reduceLT, Nat.reduceLeDiff, Nat.reduceAdd, Nat.reduceBEq, Nat.reduceMul, Int.reduceToNat, Int.reduceLE, Int.reduceLT, Int.reduceEq, Int.reduceNeg]
            try (and_intros <;> first | rfl | omega | exact ⟨_, rfl⟩)
            all_goals (rw [spdL_succ, hlim]; exact ⟨by omega, rfl⟩)
        · try simp (config := { maxSteps := 10000000 }) only [go_sem, reduceIte, reduceCtorEq, Nat.reduceEqDiff, Nat.reduceLT, Nat.reduceLeDiff, Nat.reduceAdd, Nat.reduceBEq, Nat.reduceMul, Int.reduceToNat, Int.reduceLE, Int.reduceLT, Int.reduceEq, Int.reduceNeg]
          rw [show n.toNat = i by omega]
          try exact ⟨_, _, rfl, rfl⟩
end Go.Proofs.YtgffgcpcjpjfgaaGreat.DW

/-
  Profiles of speed: what they compute.
-/
namespace Go.Proofs.YtgffgcpcjpjfgaaGreat.DW
open Go.RowKit
attribute [go_sem] argV
/-- How much the square of the speed may change over a segment. -/
noncomputable def gn (a : Int) (p q : DP) : Option Rat := mulO (some ((2 * a : Int) : Rat)) (mvO p q)
theorem okO_gn (a : Int) (p q : DP) : okO (gn a p q) := okO_mul _ _
theorem okO_2a {a : Int} (h : 1 ≤ a ∧ a ≤ 1000) : okO (some ((2 * a : Int) : Rat)) := by
  intro q hq; injection hq with hq; subst hq
  exact ⟨Nat.le_trans (nl_small (n := (2 * a).natAbs) (by omega)) (by decide), Nat.le_trans (nl_small (n := 1) (by decide)) (by decide)⟩
/-- The number of an element. -/
noncomputable def vl (w : List DR) (i : Nat) : Option Rat := rdO (nth (t := tRat) w i)
/-- The greatest value that element i may have behind element j. -/
noncomputable def upd (w : List DR) (i j : Nat) (g : Option Rat) : List DR := w.set i (oD (minO (vl w i) (addO (vl w j) g)))
theorem upd_len (w : List DR) (i j : Nat) (g : Option Rat) : (upd w i j g).length = w.length := List.length_set
theorem okO_vl (w : List DR) (i : Nat) : okO (vl w i) := okO_rdO _
theorem okO_upd (w : List DR) (i j : Nat) (g : Option Rat) : okO (minO (vl w i) (addO (vl w j) g)) := okO_min (okO_vl _ _) (okO_add _ _)
/-- Every element is the data of its number. -/
def CN (w : List DR) : Prop := ∀ i, i < w.length → oD (vl w i) = nth (t := tRat) w i
theorem nth_set {w : List DR} {i k : Nat} {x : DR} (hi : i < w.length) : nth (t := tRat) (w.set i x) k = if k = i then x else nth (t := tRat) w k := by
  unfold nth
  rw [List.getD_eq_getElem?_getD, List.getD_eq_getElem?_getD, List.getElem?_set]
  by_cases h : i = k
  · subst h; simp [hi]
  · rw [if_neg h, if_neg (fun e => h e.symm)]
theorem vl_upd {w : List DR} {i j k : Nat} {g : Option Rat} (hi : i < w.length) : vl (upd w i j g) k = if k = i then minO (vl w i) (addO (vl w j) g) else vl w k := by
  unfold vl upd
  rw [nth_set hi]
  split
  · rw [rdO_oD (okO_upd w i j g)]; rfl
  · rfl
theorem CN_upd {w : List DR} (h : CN w) {i j : Nat} {g : Option Rat} (hi : i < w.length) : CN (upd w i j g) := fun k hk => by
  rw [upd_len] at hk
  rw [vl_upd hi]
  unfold upd
  rw [nth_set hi]
  split
  · rfl
  · exact h k hk
abbrev pn (l : List DP) (i : Nat) : DP := nth (t := tPoint) l i
/-- From the front, k steps. -/
noncomputable def fwR (l : List DP) (a : Int) : Nat → List DR → List DR
  | 0, w => w
  | k + 1, w => upd (fwR l a k w) (k + 1) k (gn a (pn l k) (pn l (k + 1)))
/-- From the end, k steps. -/
noncomputable def bwR (l : List DP) (a : Int) (n : Nat) : Nat → List DR → List DR
  | 0, w => w
  | k + 1, w => upd (bwR l a n k w) (n - 2 - k) (n - 2 - k + 1) (gn a (pn l (n - 2 - k)) (pn l (n - 2 - k + 1)))
theorem fwR_len (l : List DP) (a : Int) (k : Nat) (w : List DR) : (fwR l a k w).length = w.length := by
  induction k with
  | zero => rfl
  | succ k ih => rw [fwR, upd_len, ih]
theorem bwR_len (l : List DP) (a : Int) (n k : Nat) (w : List DR) : (bwR l a n k w).length = w.length := by
  induction k with
  | zero => rfl
  | succ k ih => rw [bwR, upd_len, ih]
theorem CN_fw {l : List DP} {a : Int} {w : List DR} (h : CN w) (k : Nat) (hk : k < w.length) : CN (fwR l a k w) := by
  induction k with
  | zero => exact h
  | succ k ih => exact CN_upd (ih (by omega)) (by rw [fwR_len]; omega)
theorem CN_bw {l : List DP} {a : Int} {n : Nat} {w : List DR} (h : CN w) (hn : w.length = n) (k : Nat) (hk : k < n) : CN (bwR l a n k w) := by
  induction k with
  | zero => exact h
  | succ k ih => exact CN_upd (ih (by omega)) (by rw [bwR_len]; omega)
noncomputable def profW (l : List DP) (a : Int) (w : List DR) : List DR := bwR l a w.length (w.length - 1) (fwR l a (w.length - 1) w)
theorem minO_none_l (y : Option Rat) : minO none y = none := rfl
theorem minO_none_r (x : Option Rat) : minO x none = none := by cases x <;> rfl
theorem fw_none {l : List DP} {a : Int} {w : List DR} {i : Nat} (hg : gn a (pn l i) (pn l (i + 1)) = none) (k : Nat) (hk : i < k) (hkw : k < w.length) : vl (fwR l a k w) (i + 1) = none := by
  induction k with
  | zero => omega
  | succ k ih =>
    rw [fwR, vl_upd (by rw [fwR_len]; omega)]
    by_cases h : i = k
    · subst h
      rw [if_pos rfl, hg, addO_none_r, minO_none_r]
    · rw [if_neg (by omega)]
      exact ih (by omega) (by omega)
theorem bw_none {l : List DP} {a : Int} {n : Nat} {w : List DR} {i : Nat} (hv : vl w i = none) (hn : w.length = n) (k : Nat) (hk : k < n) : vl (bwR l a n k w) i = none := by
  induction k with
  | zero => exact hv
  | succ k ih =>
    rw [bwR, vl_upd (by rw [bwR_len]; omega)]
    split
    · rename_i h
      rw [← h, ih (by omega), minO_none_l]
    · exact ih (by omega)
/-- All numbers are there. -/
noncomputable def allGood (w : List DR) : Bool := !(w.any fun r => !okR r)
theorem allGood_f {w : List DR} {i : Nat} (hi : i < w.length) (h : vl w i = none) : allGood w = false := by
  unfold allGood
  rw [Bool.not_eq_false', List.any_eq_true]
  refine ⟨nth (t := tRat) w i, by rw [nth_lt hi]; exact List.getElem_mem hi, ?_⟩
  have : okR (nth (t := tRat) w i) = false := by unfold okR; unfold vl at h; rw [h]; rfl
  rw [this]; rfl
theorem prof_bad {l : List DP} {a : Int} {w : List DR} {i : Nat} (hg : gn a (pn l i) (pn l (i + 1)) = none) (hi : i + 1 < w.length) : allGood (profW l a w) = false := by
  refine allGood_f (i := i + 1) (by unfold profW; rw [bwR_len, fwR_len]; omega) ?_
  exact bw_none (fw_none hg _ (by omega) (by omega)) (fwR_len ..) _ (by omega)
/-- The profile, if it can be computed. -/
noncomputable def prof (l : List DP) (a : Int) (w : List DR) : List DR := if (decide (1 ≤ a ∧ a ≤ 1000) && allGood (profW l a w)) = true then profW l a w else []
theorem CN_prof {l : List DP} {a : Int} {w : List DR} (h : CN w) (hw : 0 < w.length) : CN (profW l a w) := CN_bw (CN_fw h _ (by omega)) (fwR_len ..) _ (by omega)
theorem CN_spd {n : Int} {l : List Int} (h : spdOk n l) (k : Nat) : CN (spdL n l k) := fun i hi => by
  rw [spdL_len] at hi
  have e : nth (t := tRat) (spdL n l k) i = ratI (limA n l i * limA n l i) := by
    rw [nth_lt (by rw [spdL_len]; exact hi)]; simp [spdL]
  have hk := limA_le h i
  have hsq := sq_le hk
  have ho : okO (some (((limA n l i * limA n l i : Int)) : Rat)) := by
    intro q hq; injection hq with hq; subst hq
    exact ⟨Nat.le_trans (nl_small (n := (limA n l i * limA n l i).natAbs) (by omega)) (by decide), Nat.le_trans (nl_small (n := 1) (by decide)) (by decide)⟩
  unfold vl
  rw [e, show ratI (limA n l i * limA n l i) = oD (some ((limA n l i * limA n l i : Int) : Rat)) from ratI_eq _, rdO_oD ho]
end Go.Proofs.YtgffgcpcjpjfgaaGreat.DW

/-
  Profiles of speed: the gains, and both walks, on a row that is used up.
-/
namespace Go.Proofs.YtgffgcpcjpjfgaaGreat.DW
open Go.RowKit
theorem ratI_2a (a : Int) : ratI (2 * a) = oD (some ((2 * a : Int) : Rat)) := ratI_eq _
theorem l26Gain_fn (p q : DP) (a : Int) (ha : 1 ≤ a ∧ a ≤ 1000) : Fn Tryz.prog 125 [⟨tPoint, p⟩, ⟨tPoint, q⟩, ⟨.int, a⟩] true [⟨tRat, oD (gn a p q)⟩] := by
  have c1 := RatFromInt_fn (2 * a)
  rw [ratI_2a] at c1
  have c2 := specMoveLength_fn p q
  have c3 := specRatMul_fn (oD (some ((2 * a : Int) : Rat))) (oD (mvO p q))
  rw [rdO_oD (okO_2a ha), rdO_oD (okO_mv _ _)] at c3
  unfold gn
  refine fn_enter tabOK mixes Tryz.func125 rfl rfl _ Tryz.ntmps125 _ Tryz.results125 (by simp) fun hwf => ?_
  try simp (config := { maxSteps := 10000000 }) only [go_sem, reduceIte, reduceCtorEq, Nat.reduceEqDiff, Nat.reduceLT, Nat.reduceLeDiff, Nat.reduceAdd, Nat.reduceBEq, Nat.reduceMul, Int.reduceToNat, Int.reduceLE, Int.reduceLT, Int.reduceEq, Int.reduceNeg]
  repeat (refine And.intro (by first | omega | (constructor <;> omega) | kernel_rfl) ?_)
  repeat (refine And.intro (by first | omega | (constructor <;> omega) | kernel_rfl) ?_)
  refine CallW.mk (c1) ?_
  try simp (config := { maxSteps := 10000000 }) only [go_sem, reduceIte, reduceCtorEq, Nat.reduceEqDiff, Nat.reduceLT, Nat.reduceLeDiff, Nat.reduceAdd, Nat.reduceBEq, Nat.reduceMul, Int.reduceToNat, Int.reduceLE, Int.reduceLT, Int.reduceEq, Int.reduceNeg]
  repeat (refine And.intro (by first | omega | (constructor <;> omega) | kernel_rfl) ?_)
  refine CallW.mk (c2) ?_
  try simp (config := { maxSteps := 10000000 }) only [go_sem, reduceIte, reduceCtorEq, Nat.reduceEqDiff, Nat.reduceLT, Nat.reduceLeDiff, Nat.reduceAdd, Nat.reduceBEq, Nat.reduceMul, Int.reduceToNat, Int.reduceLE, Int.reduceLT, Int.reduceEq, Int.reduceNeg]
  repeat (refine And.intro (by first | omega | (constructor <;> omega) | kernel_rfl) ?_)
  refine CallW.mk (c3) ?_
  try simp (config := { maxSteps := 10000000 }) only [go_sem, reduceIte, reduceCtorEq, Nat.reduceEqDiff, Nat.reduceLT, Nat.reduceLeDiff, Nat.reduceAdd, Nat.reduceBEq, Nat.reduceMul, Int.reduceToNat, Int.reduceLE, Int.reduceLT, Int.reduceEq, Int.reduceNeg]
  all_goals repeat (refine And.intro (by first | omega | (constructor <;> omega) | kernel_rfl) ?_)
  all_goals first | kernel_rfl | omega | rfl
/-- The gains of the first k segments. -/
noncomputable def gnL (l : List DP) (a : Int) (k : Nat) : List DR := (List.range k).map fun i => oD (gn a (pn l i) (pn l (i + 1)))
theorem gnL_succ (l : List DP) (a : Int) (k : Nat) : gnL l a (k + 1) = gnL l a k ++ [oD (gn a (pn l k) (pn l (k + 1)))] := by simp [gnL, List.range_succ]
theorem gnL_len (l : List DP) (a : Int) (k : Nat) : (gnL l a k).length = k := by simp [gnL]
theorem gnL_nth (l : List DP) (a : Int) {k i : Nat} (h : i < k) : nth (t := tRat) (gnL l a k) i = oD (gn a (pn l i) (pn l (i + 1))) := by
  rw [nth_lt (by rw [gnL_len]; exact h)]; simp [gnL]
theorem gains_ok (l : List DP) (a : Int) (ha : 1 ≤ a ∧ a ≤ 1000) (h0 : 0 < l.length) (hl : l.length ≤ 16777216) (hg : ∀ i, i + 1 < l.length → (gn a (pn l i) (pn l (i + 1))).isSome = true) :
    Fn Tryz.prog 128 [⟨.slice tPoint, l⟩, ⟨.int, a⟩] false [⟨.slice tRat, gnL l a (l.length - 1)⟩, ⟨.bool, true⟩] := by
  have c1 := ratInt_fn (2 * a)
  rw [ratI_2a] at c1
  refine fn_enter tabOK mixes Tryz.func128 rfl rfl _ Tryz.ntmps128 _ Tryz.results128 (by simp) fun hwf => ?_
  try simp (config := { maxSteps := 10000000 }) only [go_sem, reduceIte, reduceCtorEq, Nat.reduceEqDiff, Nat.reduceLT, Nat.reduceLeDiff, Nat.reduceAdd, Nat.reduceBEq, Nat.reduceMul, Int.reduceToNat, Int.reduceLE, Int.reduceLT, Int.reduceEq, Int.reduceNeg]
  refine LoopG.intro _ _ _ (fun i : Nat => ⟨[(0, .sl tPoint l), (1, .sc (.int .i64 a)), (6, .row 0 0), (7, .sc (.int .i64 ((i : Int) + 1)))], [(0, .row 36 tRat 0 true (gnL l a i))]⟩) (fun i => i + 1 ≤ l.length) (fun i => l.length - i) 0 ?_ (by omega) ?_
  · refine Wk.mk [] ?_
    try simp (config := { maxSteps := 10000000 }) only [go_sem, reduceIte, reduceCtorEq, Nat.reduceEqDiff, Nat.reduceLT, Nat.reduceLeDiff, Nat.reduceAdd, Nat.reduceBEq, Nat.reduceMul, Int.reduceToNat, Int.reduceLE, Int.reduceLT, Int.reduceEq, Int.reduceNeg]
    try (and_intros <;> first | rfl | omega | exact ⟨_, rfl⟩)
    all_goals (first | exact ⟨rfl, rfl⟩ | rfl)
  · rintro i hi
    try simp (config := { maxSteps := 10000000 }) only [go_sem, reduceIte, reduceCtorEq, Nat.reduceEqDiff, Nat.reduceLT, Nat.reduceLeDiff, Nat.reduceAdd, Nat.reduceBEq, Nat.reduceMul, Int.reduceToNat, Int.reduceLE, Int.reduceLT, Int.reduceEq, Int.reduceNeg]
    refine CondW_dec (fun hA => ?_) (fun hA => ?_)
    · have e1 : ((i : Int) + 1 - 1).toNat = i := by omega
      have e2 : ((i : Int) + 1).toNat = i + 1 := by omega
      have c2 : Fn Tryz.prog 54 [⟨tPoint, nth (t := tPoint) l ((i : Int) + 1 - 1).toNat⟩, ⟨tPoint, nth (t := tPoint) l ((i : Int) + 1).toNat⟩] false [⟨tRat, oD (mvO (pn l i) (pn l (i + 1)))⟩] := by
        rw [e1, e2]; exact moveLength_fn _ _
      have c3 : Fn Tryz.prog 178 [⟨tRat, oD (some ((2 * a : Int) : Rat))⟩, ⟨tRat, oD (mvO (pn l i) (pn l (i + 1)))⟩] true [⟨tRat, oD (gn a (pn l i) (pn l (i + 1)))⟩] := ratMul_fn _ _ (okO_2a ha) (okO_mv _ _)
      have c4 := isGood_fn (gn a (pn l i) (pn l (i + 1)))
      rw [hg i (by omega)] at c4
      try simp (config := { maxSteps := 10000000 }) only [go_sem, reduceIte, reduceCtorEq, Nat.reduceEqDiff, Nat.reduceLT, Nat.reduceLeDiff, Nat.reduceAdd, Nat.reduceBEq, Nat.reduceMul, Int.reduceToNat, Int.reduceLE, Int.reduceLT, Int.reduceEq, Int.reduceNeg]
      repeat (refine And.intro (by first | omega | (constructor <;> omega) | kernel_rfl) ?_)
      try simp (config := { maxSteps := 10000000 }) only [go_sem, reduceIte, reduceCtorEq, Nat.reduceEqDiff, Nat.reduceLT, Nat.reduceLeDiff, Nat.reduceAdd, Nat.reduceBEq, Nat.reduceMul, Int.reduceToNat, Int.reduceLE, Int.reduceLT, Int.reduceEq, Int.reduceNeg]
      repeat (refine And.intro (by first | omega | (constructor <;> omega) | kernel_rfl) ?_)
      repeat (refine And.intro (by first | omega | (constructor <;> omega) | kernel_rfl) ?_)
      refine CallW.mk (c1) ?_
      try simp (config := { maxSteps := 10000000 }) only [go_sem, reduceIte, reduceCtorEq, Nat.reduceEqDiff, Nat.reduceLT, Nat.reduceLeDiff, Nat.reduceAdd, Nat.reduceBEq, Nat.reduceMul, Int.reduceToNat, Int.reduceLE, Int.reduceLT, Int.reduceEq, Int.reduceNeg]
      repeat (refine And.intro (by first | omega | (constructor <;> omega) | kernel_rfl) ?_)
      refine CallW.mk (c2) ?_
      try simp (config := { maxSteps := 10000000 }) only [go_sem, reduceIte, reduceCtorEq, Nat.reduceEqDiff, Nat.reduceLT, Nat.reduceLeDiff, Nat.reduceAdd, Nat.reduceBEq, Nat.reduceMul, Int.reduceToNat, Int.reduceLE, Int.reduceLT, Int.reduceEq, Int.reduceNeg]
      repeat (refine And.intro (by first | omega | (constructor <;> omega) | kernel_rfl) ?_)
      refine CallW.mk (c3) ?_
      try simp (config := { maxSteps := 10000000 }) only [go_sem, reduceIte, reduceCtorEq, Nat.reduceEqDiff, Nat.reduceLT, Nat.reduceLeDiff, Nat.reduceAdd, Nat.reduceBEq, Nat.reduceMul, Int.reduceToNat, Int.reduceLE, Int.reduceLT, Int.reduceEq, Int.reduceNeg]
      repeat (refine And.intro (by first | omega | (constructor <;> omega) | kernel_rfl) ?_)
      refine CallW.mk (c4) ?_
      try simp (config := { maxSteps := 10000000 }) only [go_sem, reduceIte, reduceCtorEq, Nat.reduceEqDiff, Nat.reduceLT, Nat.reduceLeDiff, Nat.reduceAdd, Nat.reduceBEq, Nat.reduceMul, Int.reduceToNat, Int.reduceLE, Int.reduceLT, Int.reduceEq, Int.reduceNeg]
      try simp (config := { maxSteps := 10000000 }) only [go_sem, reduceIte, reduceCtorEq, Nat.reduceEqDiff, Nat.reduceLT, Nat.reduceLeDiff, Nat.reduceAdd, Nat.reduceBEq, Nat.reduceMul, Int.reduceToNat, Int.reduceLE, Int.reduceLT, Int.reduceEq, Int.reduceNeg, gnL_len]
      repeat (refine And.intro (by first | omega | (constructor <;> omega) | kernel_rfl) ?_)
      refine LoopK.mk (i + 1) ?_ (by omega) (by omega)
      refine Wk.mk [] ?_
      try simp (config := { maxSteps := 10000000 }) only [go_sem, reduceIte, reduceCtorEq, Nat.reduceEqDiff, Nat.reduceLT, Nat.reduceLeDiff, Nat.reduceAdd, Nat.reduceBEq, Nat.reduceMul, Int.reduceToNat, Int.reduceLE, Int.reduceLT, Int.reduceEq, Int.reduceNeg]
      try (and_intros <;> first | rfl | omega | exact ⟨_, rfl⟩)
      all_goals (rw [gnL_succ]; exact ⟨by omega, rfl⟩)
    · rw [show l.length - 1 = i by omega]
      try simp (config := { maxSteps := 10000000 }) only [go_sem, reduceIte, reduceCtorEq, Nat.reduceEqDiff, Nat.reduceLT, Nat.reduceLeDiff, Nat.reduceAdd, Nat.reduceBEq, Nat.reduceMul, Int.reduceToNat, Int.reduceLE, Int.reduceLT, Int.reduceEq, Int.reduceNeg]
      all_goals repeat (refine And.intro (by first | omega | (constructor <;> omega) | kernel_rfl) ?_)
      all_goals first | kernel_rfl | omega | rfl
theorem gains_bad (l : List DP) (a : Int) (ha : 1 ≤ a ∧ a ≤ 1000) (h0 : 0 < l.length) (hl : l.length ≤ 16777216) (hg : ¬ ∀ i, i + 1 < l.length → (gn a (pn l i) (pn l (i + 1))).isSome = true) :
    Fn Tryz.prog 128 [⟨.slice tPoint, l⟩, ⟨.int, a⟩] false [⟨.slice tRat, []⟩, ⟨.bool, false⟩] := by
  have c1 := ratInt_fn (2 * a)
  rw [ratI_2a] at c1
  refine fn_enter tabOK mixes Tryz.func128 rfl rfl _ Tryz.ntmps128 _ Tryz.results128 (by simp) fun hwf => ?_
  try simp (config := { maxSteps := 10000000 }) only [go_sem, reduceIte, reduceCtorEq, Nat.reduceEqDiff, Nat.reduceLT, Nat.reduceLeDiff, Nat.reduceAdd, Nat.reduceBEq, Nat.reduceMul, Int.reduceToNat, Int.reduceLE, Int.reduceLT, Int.reduceEq, Int.reduceNeg]
  refine LoopG.intro _ _ _ (fun i : Nat => ⟨[(0, .sl tPoint l), (1, .sc (.int .i64 a)), (6, .row 0 0), (7, .sc (.int .i64 ((i : Int) + 1)))], [(0, .row 36 tRat 0 true (gnL l a i))]⟩) (fun i => i + 1 ≤ l.length ∧ ∀ j, j < i → (gn a (pn l j) (pn l (j + 1))).isSome = true) (fun i => l.length - i) 0 ?_ ⟨by omega, fun j h => absurd h (Nat.not_lt_zero _)⟩ ?_
  · refine Wk.mk [] ?_
    try simp (config := { maxSteps := 10000000 }) only [go_sem, reduceIte, reduceCtorEq, Nat.reduceEqDiff, Nat.reduceLT, Nat.reduceLeDiff, Nat.reduceAdd, Nat.reduceBEq, Nat.reduceMul, Int.reduceToNat, Int.reduceLE, Int.reduceLT, Int.reduceEq, Int.reduceNeg]
    try (and_intros <;> first | rfl | omega | exact ⟨_, rfl⟩)
    all_goals (first | exact ⟨rfl, rfl⟩ | rfl)
  · rintro i ⟨hi, hall⟩
    try simp (config := { maxSteps := 10000000 }) only [go_sem, reduceIte, reduceCtorEq, Nat.reduceEqDiff, Nat.reduceLT, Nat.reduceLeDiff, Nat.reduceAdd, Nat.reduceBEq, Nat.reduceMul, Int.reduceToNat, Int.reduceLE, Int.reduceLT, Int.reduceEq, Int.reduceNeg]
    refine CondW_dec (fun hA => ?_) (fun hA => ?_)
    · have e1 : ((i : Int) + 1 - 1).toNat = i := by omega
      have e2 : ((i : Int) + 1).toNat = i + 1 := by omega
      have c2 : Fn Tryz.prog 54 [⟨tPoint, nth (t := tPoint) l ((i : Int) + 1 - 1).toNat⟩, ⟨tPoint, nth (t := tPoint) l ((i : Int) + 1).toNat⟩] false [⟨tRat, oD (mvO (pn l i) (pn l (i + 1)))⟩] := by
        rw [e1, e2]; exact moveLength_fn _ _
      have c3 : Fn Tryz.prog 178 [⟨tRat, oD (some ((2 * a : Int) : Rat))⟩, ⟨tRat, oD (mvO (pn l i) (pn l (i + 1)))⟩] true [⟨tRat, oD (gn a (pn l i) (pn l (i + 1)))⟩] := ratMul_fn _ _ (okO_2a ha) (okO_mv _ _)
      have c4 := isGood_fn (gn a (pn l i) (pn l (i + 1)))
      cases hs : (gn a (pn l i) (pn l (i + 1))).isSome <;> rw [hs] at c4
      · try simp (config := { maxSteps := 10000000 }) only [go_sem, reduceIte, reduceCtorEq, Nat.reduceEqDiff, Nat.reduceLT, Nat.reduceLeDiff, Nat.reduceAdd, Nat.reduceBEq, Nat.reduceMul, Int.reduceToNat, Int.reduceLE, Int.reduceLT, Int.reduceEq, Int.reduceNeg]
        repeat (refine And.intro (by first | omega | (constructor <;> omega) | kernel_rfl) ?_)
        try simp (config := { maxSteps := 10000000 }) only [go_sem, reduceIte, reduceCtorEq, Nat.reduceEqDiff, Nat.reduceLT, Nat.reduceLeDiff, Nat.reduceAdd, Nat.reduceBEq, Nat.reduceMul, Int.reduceToNat, Int.reduceLE, Int.reduceLT, Int.reduceEq, Int.reduceNeg]
        repeat (refine And.intro (by first | omega | (constructor <;> omega) | kernel_rfl) ?_)
        repeat (refine And.intro (by first | omega | (constructor <;> omega) | kernel_rfl) ?_)
        refine CallW.mk (c1) ?_
        try simp (config := { maxSteps := 10000000 }) only [go_sem, reduceIte, reduceCtorEq, Nat.reduceEqDiff, Nat.reduceLT, Nat.reduceLeDiff, Nat.reduceAdd, Nat.reduceBEq, Nat.reduceMul, Int.reduceToNat, Int.reduceLE, Int.reduceLT, Int.reduceEq, Int.reduceNeg]
        repeat (refine And.intro (by first | omega | (constructor <;> omega) | kernel_rfl) ?_)
        refine CallW.mk (c2) ?_
        try simp (config := { maxSteps := 10000000 }) only [go_sem, reduceIte, reduceCtorEq, Nat.reduceEqDiff, Nat.reduceLT, Nat.reduceLeDiff, Nat.reduceAdd, Nat.reduceBEq, Nat.reduceMul, Int.reduceToNat, Int.reduceLE, Int.reduceLT, Int.reduceEq, Int.reduceNeg]
        repeat (refine And.intro (by first | omega | (constructor <;> omega) | kernel_rfl) ?_)
        refine CallW.mk (c3) ?_
        try simp (config := { maxSteps := 10000000 }) only [go_sem, reduceIte, reduceCtorEq, Nat.reduceEqDiff, Nat.reduceLT, Nat.reduceLeDiff, Nat.reduceAdd, Nat.reduceBEq, Nat.reduceMul, Int.reduceToNat, Int.reduceLE, Int.reduceLT, Int.reduceEq, Int.reduceNeg]
        repeat (refine And.intro (by first | omega | (constructor <;> omega) | kernel_rfl) ?_)
        refine CallW.mk (c4) ?_
        try simp (config := { maxSteps := 10000000 }) only [go_sem, reduceIte, reduceCtorEq, Nat.reduceEqDiff, Nat.reduceLT, Nat.reduceLeDiff, Nat.reduceAdd, Nat.reduceBEq, Nat.reduceMul, Int.reduceToNat, Int.reduceLE, Int.reduceLT, Int.reduceEq, Int.reduceNeg]
        all_goals repeat (refine And.intro (by first | omega | (constructor <;> omega) | kernel_rfl) ?_)
        all_goals first | kernel_rfl | omega | rfl
      · try simp (config := { maxSteps := 10000000 }) only [go_sem, reduceIte, reduceCtorEq, Nat.reduceEqDiff, Nat.reduceLT, Nat.reduceLeDiff, Nat.reduceAdd, Nat.reduceBEq, Nat.reduceMul, Int.reduceToNat, Int.reduceLE, Int.reduceLT, Int.reduceEq, Int.reduceNeg]
        repeat (refine And.intro (by first | omega | (constructor <;> omega) | kernel_rfl) ?_)
        try simp (config := { maxSteps := 10000000 }) only [go_sem, reduceIte, reduceCtorEq, Nat.reduceEqDiff, Nat.reduceLT, Nat.reduceLeDiff, Nat.reduceAdd, Nat.reduceBEq, Nat.reduceMul, Int.reduceToNat, Int.reduceLE, Int.reduceLT, Int.reduceEq, Int.reduceNeg]
        repeat (refine And.intro (by first | omega | (constructor <;> omega) | kernel_rfl) ?_)
        repeat (refine And.intro (by first | omega | (constructor <;> omega) | kernel_rfl) ?_)
        refine CallW.mk (c1) ?_
        try simp (config := { maxSteps := 10000000 }) only [go_sem, reduceIte, reduceCtorEq, Nat.reduceEqDiff, Nat.reduceLT, Nat.reduceLeDiff, Nat.reduceAdd, Nat.reduceBEq, Nat.reduceMul, Int.reduceToNat, Int.reduceLE, Int.reduceLT, Int.reduceEq, Int.reduceNeg]
        repeat (refine And.intro (by first | omega | (constructor <;> omega) | kernel_rfl) ?_)
        refine CallW.mk (c2) ?_
        try simp (config := { maxSteps := 10000000 }) only [go_sem, reduceIte, reduceCtorEq, Nat.reduceEqDiff, Nat.reduceLT, Nat.reduceLeDiff, Nat.reduceAdd, Nat.reduceBEq, Nat.reduceMul, Int.reduceToNat, Int.reduceLE, Int.reduceLT, Int.reduceEq, Int.reduceNeg]
        repeat (refine And.intro (by first | omega | (constructor <;> omega) | kernel_rfl) ?_)
        refine CallW.mk (c3) ?_
        try simp (config := { maxSteps := 10000000 }) only [go_sem, reduceIte, reduceCtorEq, Nat.reduceEqDiff, Nat.reduceLT, Nat.reduceLeDiff, Nat.reduceAdd, Nat.reduceBEq, Nat.reduceMul, Int.reduceToNat, Int.reduceLE, Int.reduceLT, Int.reduceEq, Int.reduceNeg]
        repeat (refine And.intro (by first | omega | (constructor <;> omega) | kernel_rfl) ?_)
        refine CallW.mk (c4) ?_
        try simp (config := { maxSteps := 10000000 }) only [go_sem, reduceIte, reduceCtorEq, Nat.reduceEqDiff, Nat.reduceLT, Nat.reduceLeDiff, Nat.reduceAdd, Nat.reduceBEq, Nat.reduceMul, Int.reduceToNat, Int.reduceLE, Int.reduceLT, Int.reduceEq, Int.reduceNeg]
        try simp (config := { maxSteps := 10000000 }) only [go_sem, reduceIte, reduceCtorEq, Nat.reduceEqDiff, Nat.reduceLT, Nat.reduceLeDiff, Nat.reduceAdd, Nat.reduceBEq, Nat.reduceMul, Int.reduceToNat, Int.reduceLE, Int.reduceLT, Int.reduceEq, Int.reduceNeg, gnL_len]
        repeat (refine And.intro (by first | omega | (constructor <;> omega) | kernel_rfl) ?_)
        refine LoopK.mk (i + 1) ?_ ⟨by omega, fun j h => ?_⟩ (by omega)
        · refine Wk.mk [] ?_
          try simp (config := { maxSteps := 10000000 }) only [go_sem, reduceIte, reduceCtorEq, Nat.reduceEqDiff, Nat.reduceLT, Nat.reduceLeDiff, Nat.reduceAdd, Nat.reduceBEq, Nat.reduceMul, Int.reduceToNat, Int.reduceLE, Int.reduceLT, Int.reduceEq, Int.reduceNeg]
          try (and_intros <;> first | rfl | omega | exact ⟨_, rfl⟩)
          all_goals (rw [gnL_succ]; exact ⟨by omega, rfl⟩)
        · by_cases h3 : j < i
          · exact hall j h3
          · rw [show j = i by omega]; exact hs
    · exact absurd (fun j h => hall j (by omega)) hg
end Go.Proofs.YtgffgcpcjpjfgaaGreat.DW

/-
  Profiles of speed: both walks, on a row that is used up.
-/
namespace Go.Proofs.YtgffgcpcjpjfgaaGreat.DW
open Go.RowKit
theorem isGoodA_fn (r : DR) : Fn Tryz.prog 100 [⟨tRat, r⟩] false [⟨.bool, decide ((0 : Int) < r.2.length)⟩] := by
  refine fn_enter tabOK mixes Tryz.func100 rfl rfl _ Tryz.ntmps100 _ Tryz.results100 (by simp) fun hwf => ?_
  try simp (config := { maxSteps := 10000000 }) only [go_sem, reduceIte, reduceCtorEq, Nat.reduceEqDiff, Nat.reduceLT, Nat.reduceLeDiff, Nat.reduceAdd, Nat.reduceBEq, Nat.reduceMul, Int.reduceToNat, Int.reduceLE, Int.reduceLT, Int.reduceEq, Int.reduceNeg]
theorem profC_fn (r : DR) : Fn Tryz.prog 131 [⟨tRat, r⟩] false [⟨.bool, !decide ((0 : Int) < r.2.length)⟩] := by
  refine fn_enter tabOK mixes Tryz.func131 rfl rfl _ Tryz.ntmps131 _ Tryz.results131 (by simp) fun hwf => ?_
  try simp (config := { maxSteps := 10000000 }) only [go_sem, reduceIte, reduceCtorEq, Nat.reduceEqDiff, Nat.reduceLT, Nat.reduceLeDiff, Nat.reduceAdd, Nat.reduceBEq, Nat.reduceMul, Int.reduceToNat, Int.reduceLE, Int.reduceLT, Int.reduceEq, Int.reduceNeg]
  repeat (refine And.intro (by first | omega | (constructor <;> omega) | kernel_rfl) ?_)
  refine CallW.mk (isGoodA_fn r) ?_
  try simp (config := { maxSteps := 10000000 }) only [go_sem, reduceIte, reduceCtorEq, Nat.reduceEqDiff, Nat.reduceLT, Nat.reduceLeDiff, Nat.reduceAdd, Nat.reduceBEq, Nat.reduceMul, Int.reduceToNat, Int.reduceLE, Int.reduceLT, Int.reduceEq, Int.reduceNeg]
theorem good_len {x : Option Rat} (h : okO x) : decide ((0 : Int) < (oD x).2.length) = okR (oD x) := by
  unfold okR
  rw [rdO_oD h]
  cases x with
  | none => rfl
  | some q =>
    have : 0 < nl q.den := Nat.pos_of_ne_zero fun e => q.den_nz (nl_eq_zero.1 e)
    exact decide_eq_true (by show (0 : Int) < nl q.den; omega)
theorem any_good {w : List DR} (h : CN w) : (w.any fun r => !decide ((0 : Int) < r.2.length)) = !allGood w := by
  unfold allGood
  rw [Bool.not_not]
  have : ∀ r ∈ w, (!decide ((0 : Int) < r.2.length)) = !okR r := fun r hr => by
    obtain ⟨i, hi, rfl⟩ := List.getElem_of_mem hr
    have e := h i hi
    rw [nth_lt hi] at e
    rw [← e, good_len (okO_vl w i)]
  clear h
  induction w with
  | nil => rfl
  | cons x l ih => rw [List.any_cons, List.any_cons, this x List.mem_cons_self, ih fun r hr => this r (List.mem_cons_of_mem _ hr)]
theorem good_mem {w : List DR} (h : allGood w = true) : ∀ r ∈ w, okR r = true := fun r hr => by
  unfold allGood at h
  rw [Bool.not_eq_true', List.any_eq_false] at h
  simpa using h r hr
set_option maxRecDepth 100000 in
set_option maxHeartbeats 8000000 in
theorem implProfile_fb (ow : Bool) (l : List DP) (a : Int) (w : List DR) (hw : w.length = l.length) (h0 : 0 < l.length) (hl : l.length ≤ 16777216) (hc : CN w) :
    FnB Tryz.prog 85 [.sl tPoint l, .row 0 0, .sc (.int .i64 a)] [(0, .row 36 tRat 0 ow w)] true [⟨.slice tRat, prof l a w⟩] := by
  have d0 : decide ((w.length : Int) = 0) = false := decide_eq_false (by omega)
  have c1 := isSpeed_fn a
  by_cases ha : 1 ≤ a ∧ a ≤ 1000
  rotate_left
  · have e : prof l a w = [] := by unfold prof; rw [decide_eq_false ha]; rfl
    rw [decide_eq_false ha] at c1
    rw [e]
    refine fnB_enter tabOK mixes Tryz.func85 rfl rfl _ Tryz.ntmps85 _ Tryz.results85 (by simp) ?_
    try simp (config := { maxSteps := 10000000 }) only [go_sem, reduceIte, reduceCtorEq, Nat.reduceEqDiff, Nat.reduceLT, Nat.reduceLeDiff, Nat.reduceAdd, Nat.reduceBEq, Nat.reduceMul, Int.reduceToNat, Int.reduceLE, Int.reduceLT, Int.reduceEq, Int.reduceNeg, d0]
    repeat (refine And.intro (by first | omega | (constructor <;> omega) | kernel_rfl) ?_)
    refine CallW.mk (c1) ?_
    try simp (config := { maxSteps := 10000000 }) only [go_sem, reduceIte, reduceCtorEq, Nat.reduceEqDiff, Nat.reduceLT, Nat.reduceLeDiff, Nat.reduceAdd, Nat.reduceBEq, Nat.reduceMul, Int.reduceToNat, Int.reduceLE, Int.reduceLT, Int.reduceEq, Int.reduceNeg]
  rw [decide_eq_true ha] at c1
  by_cases hg : ∀ i, i + 1 < l.length → (gn a (pn l i) (pn l (i + 1))).isSome = true
  rotate_left
  · have c2 := gains_bad l a ha h0 hl hg
    have e : prof l a w = [] := by
      have : allGood (profW l a w) = false := by
        obtain ⟨i, hi⟩ := Classical.not_forall.1 hg
        obtain ⟨h1, h2⟩ := Classical.not_imp.1 hi
        refine prof_bad (i := i) ?_ (by omega)
        cases hx : gn a (pn l i) (pn l (i + 1)) with
        | none => rfl
        | some q => rw [hx] at h2; exact absurd rfl h2
      unfold prof; rw [this, Bool.and_false]; rfl
    rw [e]
    refine fnB_enter tabOK mixes Tryz.func85 rfl rfl _ Tryz.ntmps85 _ Tryz.results85 (by simp) ?_
    try simp (config := { maxSteps := 10000000 }) only [go_sem, reduceIte, reduceCtorEq, Nat.reduceEqDiff, Nat.reduceLT, Nat.reduceLeDiff, Nat.reduceAdd, Nat.reduceBEq, Nat.reduceMul, Int.reduceToNat, Int.reduceLE, Int.reduceLT, Int.reduceEq, Int.reduceNeg, d0]
    repeat (refine And.intro (by first | omega | (constructor <;> omega) | kernel_rfl) ?_)
    refine CallW.mk (c1) ?_
    try simp (config := { maxSteps := 10000000 }) only [go_sem, reduceIte, reduceCtorEq, Nat.reduceEqDiff, Nat.reduceLT, Nat.reduceLeDiff, Nat.reduceAdd, Nat.reduceBEq, Nat.reduceMul, Int.reduceToNat, Int.reduceLE, Int.reduceLT, Int.reduceEq, Int.reduceNeg]
    repeat (refine And.intro (by first | omega | (constructor <;> omega) | kernel_rfl) ?_)
    refine CallW.mk (c2) ?_
    try simp (config := { maxSteps := 10000000 }) only [go_sem, reduceIte, reduceCtorEq, Nat.reduceEqDiff, Nat.reduceLT, Nat.reduceLeDiff, Nat.reduceAdd, Nat.reduceBEq, Nat.reduceMul, Int.reduceToNat, Int.reduceLE, Int.reduceLT, Int.reduceEq, Int.reduceNeg]
  have c2 := gains_ok l a ha h0 hl hg
  have hcp := CN_prof (l := l) (a := a) hc (by omega)
  have hlp : (profW l a w).length = l.length := by unfold profW; rw [bwR_len, fwR_len, hw]
  have c7 := containsFunc_rat_fn _ _ profC_fn (profW l a w)
  rw [any_good hcp] at c7
  have hpr : prof l a w = if allGood (profW l a w) = true then profW l a w else [] := by unfold prof; rw [decide_eq_true ha, Bool.true_and]
  rw [hpr]
  refine fnB_enter tabOK mixes Tryz.func85 rfl rfl _ Tryz.ntmps85 _ Tryz.results85 (by simp) ?_
  try simp (config := { maxSteps := 10000000 }) only [go_sem, reduceIte, reduceCtorEq, Nat.reduceEqDiff, Nat.reduceLT, Nat.reduceLeDiff, Nat.reduceAdd, Nat.reduceBEq, Nat.reduceMul, Int.reduceToNat, Int.reduceLE, Int.reduceLT, Int.reduceEq, Int.reduceNeg, d0]
  repeat (refine And.intro (by first | omega | (constructor <;> omega) | kernel_rfl) ?_)
  refine CallW.mk (c1) ?_
  try simp (config := { maxSteps := 10000000 }) only [go_sem, reduceIte, reduceCtorEq, Nat.reduceEqDiff, Nat.reduceLT, Nat.reduceLeDiff, Nat.reduceAdd, Nat.reduceBEq, Nat.reduceMul, Int.reduceToNat, Int.reduceLE, Int.reduceLT, Int.reduceEq, Int.reduceNeg]
  repeat (refine And.intro (by first | omega | (constructor <;> omega) | kernel_rfl) ?_)
  refine CallW.mk (c2) ?_
  try simp (config := { maxSteps := 10000000 }) only [go_sem, reduceIte, reduceCtorEq, Nat.reduceEqDiff, Nat.reduceLT, Nat.reduceLeDiff, Nat.reduceAdd, Nat.reduceBEq, Nat.reduceMul, Int.reduceToNat, Int.reduceLE, Int.reduceLT, Int.reduceEq, Int.reduceNeg]
  refine LoopG.intro _ _ _ (fun i : Nat => ⟨[(1, .row 0 0), (7, .sl tRat (gnL l a (l.length - 1))), (9, .sc (.int .i64 ((i : Int) + 1)))], [(0, .row 36 tRat 0 false (fwR l a i w))]⟩) (fun i => i + 1 ≤ l.length) (fun i => l.length - i) 0 ?_ (by omega) ?_
  · refine Wk.mk [] ?_
    try simp (config := { maxSteps := 10000000 }) only [go_sem, reduceIte, reduceCtorEq, Nat.reduceEqDiff, Nat.reduceLT, Nat.reduceLeDiff, Nat.reduceAdd, Nat.reduceBEq, Nat.reduceMul, Int.reduceToNat, Int.reduceLE, Int.reduceLT, Int.reduceEq, Int.reduceNeg]
    try (and_intros <;> first | rfl | omega | exact ⟨_, rfl⟩)
  · rintro i hi
    have hWl := fwR_len l a i w
    have hWc := CN_fw (l := l) (a := a) hc i (by omega)
    have e1 : ((i : Int) + 1 - 1).toNat = i := by omega
    have e2 : ((i : Int) + 1).toNat = i + 1 := by omega
    generalize hW : fwR l a i w = W at hWl hWc ⊢
    try simp (config := { maxSteps := 10000000 }) only [go_sem, reduceIte, reduceCtorEq, Nat.reduceEqDiff, Nat.reduceLT, Nat.reduceLeDiff, Nat.reduceAdd, Nat.reduceBEq, Nat.reduceMul, Int.reduceToNat, Int.reduceLE, Int.reduceLT, Int.reduceEq, Int.reduceNeg, hWl]
    refine CondW_dec (fun hA => ?_) (fun hA => ?_)
    · have hst : fwR l a (i + 1) w = W.set ((i : Int) + 1).toNat (oD (minO (vl W (i + 1)) (addO (vl W i) (gn a (pn l i) (pn l (i + 1)))))) := by
        rw [e2, ← hW]; rfl
      have c5 : Fn Tryz.prog 53 [⟨tRat, nth (t := tRat) W ((i : Int) + 1 - 1).toNat⟩, ⟨tRat, nth (t := tRat) (gnL l a (l.length - 1)) ((i : Int) + 1 - 1).toNat⟩] true [⟨tRat, oD (addO (vl W i) (gn a (pn l i) (pn l (i + 1))))⟩] := by
        rw [e1, ← hWc i (by omega), gnL_nth l a (by omega)]
        exact ratAdd_fn _ _ (okO_vl _ _) (okO_gn _ _ _)
      have c6 : Fn Tryz.prog 129 [⟨tRat, nth (t := tRat) W ((i : Int) + 1).toNat⟩, ⟨tRat, oD (addO (vl W i) (gn a (pn l i) (pn l (i + 1))))⟩] false [⟨tRat, oD (minO (vl W (i + 1)) (addO (vl W i) (gn a (pn l i) (pn l (i + 1)))))⟩] := by
        rw [e2, ← hWc (i + 1) (by omega)]
        exact ratMin_fn _ _ (okO_vl _ _) (okO_add _ _)
      have hgl := gnL_len l a (l.length - 1)
      try simp (config := { maxSteps := 10000000 }) only [go_sem, reduceIte, reduceCtorEq, Nat.reduceEqDiff, Nat.reduceLT, Nat.reduceLeDiff, Nat.reduceAdd, Nat.reduceBEq, Nat.reduceMul, Int.reduceToNat, Int.reduceLE, Int.reduceLT, Int.reduceEq, Int.reduceNeg]
      repeat (refine And.intro (by first | omega | (constructor <;> omega) | kernel_rfl) ?_)
      repeat (refine And.intro (by first | omega | (constructor <;> omega) | kernel_rfl) ?_)
      refine CallW.mk (c5) ?_
      try simp (config := { maxSteps := 10000000 }) only [go_sem, reduceIte, reduceCtorEq, Nat.reduceEqDiff, Nat.reduceLT, Nat.reduceLeDiff, Nat.reduceAdd, Nat.reduceBEq, Nat.reduceMul, Int.reduceToNat, Int.reduceLE, Int.reduceLT, Int.reduceEq, Int.reduceNeg]
      repeat (refine And.intro (by first | omega | (constructor <;> omega) | kernel_rfl) ?_)
      refine CallW.mk (c6) ?_
      try simp (config := { maxSteps := 10000000 }) only [go_sem, reduceIte, reduceCtorEq, Nat.reduceEqDiff, Nat.reduceLT, Nat.reduceLeDiff, Nat.reduceAdd, Nat.reduceBEq, Nat.reduceMul, Int.reduceToNat, Int.reduceLE, Int.reduceLT, Int.reduceEq, Int.reduceNeg]
      repeat (refine And.intro (by first | omega | (constructor <;> omega) | kernel_rfl) ?_)
      refine LoopK.mk (i + 1) ?_ (by omega) (by omega)
      rw [hst]
      refine Wk.mk [] ?_
      try simp (config := { maxSteps := 10000000 }) only [go_sem, reduceIte, reduceCtorEq, Nat.reduceEqDiff, Nat.reduceLT, Nat.reduceLeDiff, Nat.reduceAdd, Nat.reduceBEq, Nat.reduceMul, Int.reduceToNat, Int.reduceLE, Int.reduceLT, Int.reduceEq, Int.reduceNeg]
      try (and_intros <;> first | rfl | omega | exact ⟨_, rfl⟩)
    · have hin : i = l.length - 1 := by omega
      have hWe : W = fwR l a (w.length - 1) w := by rw [← hW, hin, hw]
      try simp (config := { maxSteps := 10000000 }) only [go_sem, reduceIte, reduceCtorEq, Nat.reduceEqDiff, Nat.reduceLT, Nat.reduceLeDiff, Nat.reduceAdd, Nat.reduceBEq, Nat.reduceMul, Int.reduceToNat, Int.reduceLE, Int.reduceLT, Int.reduceEq, Int.reduceNeg]
      repeat (refine And.intro (by first | omega | (constructor <;> omega) | kernel_rfl) ?_)
      try simp (config := { maxSteps := 10000000 }) only [go_sem, reduceIte, reduceCtorEq, Nat.reduceEqDiff, Nat.reduceLT, Nat.reduceLeDiff, Nat.reduceAdd, Nat.reduceBEq, Nat.reduceMul, Int.reduceToNat, Int.reduceLE, Int.reduceLT, Int.reduceEq, Int.reduceNeg, hWl]
      repeat (refine And.intro (by first | omega | (constructor <;> omega) | kernel_rfl) ?_)
      refine LoopG.intro _ _ _ (fun j : Nat => ⟨[(1, .row 0 0), (7, .sl tRat (gnL l a (l.length - 1))), (10, .sc (.int .i64 ((w.length : Int) - 2 - j)))], [(0, .row 36 tRat 0 false (bwR l a w.length j W))]⟩) (fun j => j + 1 ≤ w.length) (fun j => w.length - j) 0 ?_ (by omega) ?_
      · refine Wk.mk [] ?_
        try simp (config := { maxSteps := 10000000 }) only [go_sem, reduceIte, reduceCtorEq, Nat.reduceEqDiff, Nat.reduceLT, Nat.reduceLeDiff, Nat.reduceAdd, Nat.reduceBEq, Nat.reduceMul, Int.reduceToNat, Int.reduceLE, Int.reduceLT, Int.reduceEq, Int.reduceNeg]
        try (and_intros <;> first | rfl | omega | exact ⟨_, rfl⟩)
      · rintro j hj
        have hVl := bwR_len l a w.length j W
        have hVc := CN_bw (l := l) (a := a) (n := w.length) hWc hWl j (by omega)
        have hgl := gnL_len l a (l.length - 1)
        generalize hV : bwR l a w.length j W = V at hVl hVc ⊢
        try simp (config := { maxSteps := 10000000 }) only [go_sem, reduceIte, reduceCtorEq, Nat.reduceEqDiff, Nat.reduceLT, Nat.reduceLeDiff, Nat.reduceAdd, Nat.reduceBEq, Nat.reduceMul, Int.reduceToNat, Int.reduceLE, Int.reduceLT, Int.reduceEq, Int.reduceNeg]
        refine CondW_dec (fun hB => ?_) (fun hB => ?_)
        · have e1 : ((w.length : Int) - 2 - j).toNat = w.length - 2 - j := by omega
          have e2 : ((w.length : Int) - 2 - j + 1).toNat = w.length - 2 - j + 1 := by omega
          have hst : bwR l a w.length (j + 1) W = V.set ((w.length : Int) - 2 - j).toNat (oD (minO (vl V (w.length - 2 - j)) (addO (vl V (w.length - 2 - j + 1)) (gn a (pn l (w.length - 2 - j)) (pn l (w.length - 2 - j + 1)))))) := by
            rw [e1, ← hV]; rfl
          have c5 : Fn Tryz.prog 53 [⟨tRat, nth (t := tRat) V ((w.length : Int) - 2 - j + 1).toNat⟩, ⟨tRat, nth (t := tRat) (gnL l a (l.length - 1)) ((w.length : Int) - 2 - j).toNat⟩] true [⟨tRat, oD (addO (vl V (w.length - 2 - j + 1)) (gn a (pn l (w.length - 2 - j)) (pn l (w.length - 2 - j + 1))))⟩] := by
            rw [e1, e2, ← hVc (w.length - 2 - j + 1) (by omega), gnL_nth l a (by omega)]
            exact ratAdd_fn _ _ (okO_vl _ _) (okO_gn _ _ _)
          have c6 : Fn Tryz.prog 129 [⟨tRat, nth (t := tRat) V ((w.length : Int) - 2 - j).toNat⟩, ⟨tRat, oD (addO (vl V (w.length - 2 - j + 1)) (gn a (pn l (w.length - 2 - j)) (pn l (w.length - 2 - j + 1))))⟩] false [⟨tRat, oD (minO (vl V (w.length - 2 - j)) (addO (vl V (w.length - 2 - j + 1)) (gn a (pn l (w.length - 2 - j)) (pn l (w.length - 2 - j + 1)))))⟩] := by
            rw [e1, ← hVc (w.length - 2 - j) (by omega)]
            exact ratMin_fn _ _ (okO_vl _ _) (okO_add _ _)
          try simp (config := { maxSteps := 10000000 }) only [go_sem, reduceIte, reduceCtorEq, Nat.reduceEqDiff, Nat.reduceLT, Nat.reduceLeDiff, Nat.reduceAdd, Nat.reduceBEq, Nat.reduceMul, Int.reduceToNat, Int.reduceLE, Int.reduceLT, Int.reduceEq, Int.reduceNeg]
          repeat (refine And.intro (by first | omega | (constructor <;> omega) | kernel_rfl) ?_)
          repeat (refine And.intro (by first | omega | (constructor <;> omega) | kernel_rfl) ?_)
          refine CallW.mk (c5) ?_
          try simp (config := { maxSteps := 10000000 }) only [go_sem, reduceIte, reduceCtorEq, Nat.reduceEqDiff, Nat.reduceLT, Nat.reduceLeDiff, Nat.reduceAdd, Nat.reduceBEq, Nat.reduceMul, Int.reduceToNat, Int.reduceLE, Int.reduceLT, Int.reduceEq, Int.reduceNeg]
          repeat (refine And.intro (by first | omega | (constructor <;> omega) | kernel_rfl) ?_)
          refine CallW.mk (c6) ?_
          try simp (config := { maxSteps := 10000000 }) only [go_sem, reduceIte, reduceCtorEq, Nat.reduceEqDiff, Nat.reduceLT, Nat.reduceLeDiff, Nat.reduceAdd, Nat.reduceBEq, Nat.reduceMul, Int.reduceToNat, Int.reduceLE, Int.reduceLT, Int.reduceEq, Int.reduceNeg]
          repeat (refine And.intro (by first | omega | (constructor <;> omega) | kernel_rfl) ?_)
          refine LoopK.mk (j + 1) ?_ (by omega) (by omega)
          rw [hst]
          refine Wk.mk [] ?_
          try simp (config := { maxSteps := 10000000 }) only [go_sem, reduceIte, reduceCtorEq, Nat.reduceEqDiff, Nat.reduceLT, Nat.reduceLeDiff, Nat.reduceAdd, Nat.reduceBEq, Nat.reduceMul, Int.reduceToNat, Int.reduceLE, Int.reduceLT, Int.reduceEq, Int.reduceNeg]
          try (and_intros <;> first | rfl | omega | exact ⟨_, rfl⟩)
        · have hVe : V = profW l a w := by unfold profW; rw [← hV, ← hWe, show j = w.length - 1 by omega]
          rw [hVe]
          cases hgd : allGood (profW l a w) <;> rw [hgd] at c7
          · rw [if_neg (by decide)]
            try simp (config := { maxSteps := 10000000 }) only [go_sem, reduceIte, reduceCtorEq, Nat.reduceEqDiff, Nat.reduceLT, Nat.reduceLeDiff, Nat.reduceAdd, Nat.reduceBEq, Nat.reduceMul, Int.reduceToNat, Int.reduceLE, Int.reduceLT, Int.reduceEq, Int.reduceNeg]
            repeat (refine And.intro (by first | omega | (constructor <;> omega) | kernel_rfl) ?_)
            refine CallW.mk (c7) ?_
            try simp (config := { maxSteps := 10000000 }) only [go_sem, reduceIte, reduceCtorEq, Nat.reduceEqDiff, Nat.reduceLT, Nat.reduceLeDiff, Nat.reduceAdd, Nat.reduceBEq, Nat.reduceMul, Int.reduceToNat, Int.reduceLE, Int.reduceLT, Int.reduceEq, Int.reduceNeg]
          · rw [if_pos rfl]
            have hm := good_mem hgd
            have c8 := ownRats_fn (profW l a w) (by omega) (fun r hr => by have := okR_len (hm r hr); omega)
            try simp (config := { maxSteps := 10000000 }) only [go_sem, reduceIte, reduceCtorEq, Nat.reduceEqDiff, Nat.reduceLT, Nat.reduceLeDiff, Nat.reduceAdd, Nat.reduceBEq, Nat.reduceMul, Int.reduceToNat, Int.reduceLE, Int.reduceLT, Int.reduceEq, Int.reduceNeg]
            repeat (refine And.intro (by first | omega | (constructor <;> omega) | kernel_rfl) ?_)
            refine CallW.mk (c7) ?_
            try simp (config := { maxSteps := 10000000 }) only [go_sem, reduceIte, reduceCtorEq, Nat.reduceEqDiff, Nat.reduceLT, Nat.reduceLeDiff, Nat.reduceAdd, Nat.reduceBEq, Nat.reduceMul, Int.reduceToNat, Int.reduceLE, Int.reduceLT, Int.reduceEq, Int.reduceNeg]
            repeat (refine And.intro (by first | omega | (constructor <;> omega) | kernel_rfl) ?_)
            refine CallW.mk (c8) ?_
            try simp (config := { maxSteps := 10000000 }) only [go_sem, reduceIte, reduceCtorEq, Nat.reduceEqDiff, Nat.reduceLT, Nat.reduceLeDiff, Nat.reduceAdd, Nat.reduceBEq, Nat.reduceMul, Int.reduceToNat, Int.reduceLE, Int.reduceLT, Int.reduceEq, Int.reduceNeg]
            all_goals repeat (refine And.intro (by first | omega | (constructor <;> omega) | kernel_rfl) ?_)
            all_goals first | kernel_rfl | omega | rfl
end Go.Proofs.YtgffgcpcjpjfgaaGreat.DW

/-
  Profiles of speed: the reference's walk, on a row that is used up.
-/
namespace Go.Proofs.YtgffgcpcjpjfgaaGreat.DW
open Go.RowKit
theorem good_of {w : List DR} (h : ∀ i, i < w.length → okR (nth (t := tRat) w i) = true) : allGood w = true := by
  unfold allGood
  rw [Bool.not_eq_true', List.any_eq_false]
  intro r hr
  obtain ⟨i, hi, rfl⟩ := List.getElem_of_mem hr
  have := h i hi
  rw [nth_lt hi] at this
  rw [this]; decide
theorem good_no {w : List DR} {i : Nat} (hi : i < w.length) (h : okR (nth (t := tRat) w i) = false) : allGood w = false := allGood_f hi (okR_f h)
set_option maxRecDepth 100000 in
set_option maxHeartbeats 8000000 in
theorem specProfile_fb (ow : Bool) (l : List DP) (a : Int) (w : List DR) (hw : w.length = l.length) (h0 : 0 < l.length) (hl : l.length ≤ 16777216) (hc : CN w) :
    FnB Tryz.prog 83 [.sl tPoint l, .row 0 0, .sc (.int .i64 a)] [(0, .row 36 tRat 0 ow w)] false [⟨.slice tRat, prof l a w⟩] := by
  have d0 : decide ((w.length : Int) = 0) = false := decide_eq_false (by omega)
  have c1 := l01In_fn a 1 1000
  by_cases ha : 1 ≤ a ∧ a ≤ 1000
  rotate_left
  · have e : prof l a w = [] := by unfold prof; rw [decide_eq_false ha]; rfl
    rw [decide_eq_false ha] at c1
    rw [e]
    refine fnB_enter tabOK mixes Tryz.func83 rfl rfl _ Tryz.ntmps83 _ Tryz.results83 (by simp) ?_
    try simp (config := { maxSteps := 10000000 }) only [go_sem, reduceIte, reduceCtorEq, Nat.reduceEqDiff, Nat.reduceLT, Nat.reduceLeDiff, Nat.reduceAdd, Nat.reduceBEq, Nat.reduceMul, Int.reduceToNat, Int.reduceLE, Int.reduceLT, Int.reduceEq, Int.reduceNeg, d0]
    repeat (refine And.intro (by first | omega | (constructor <;> omega) | kernel_rfl) ?_)
    refine CallW.mk (c1) ?_
    try simp (config := { maxSteps := 10000000 }) only [go_sem, reduceIte, reduceCtorEq, Nat.reduceEqDiff, Nat.reduceLT, Nat.reduceLeDiff, Nat.reduceAdd, Nat.reduceBEq, Nat.reduceMul, Int.reduceToNat, Int.reduceLE, Int.reduceLT, Int.reduceEq, Int.reduceNeg]
  rw [decide_eq_true ha] at c1
  have hcp := CN_prof (l := l) (a := a) hc (by omega)
  have hlp : (profW l a w).length = l.length := by unfold profW; rw [bwR_len, fwR_len, hw]
  have hpr : prof l a w = if allGood (profW l a w) = true then profW l a w else [] := by unfold prof; rw [decide_eq_true ha, Bool.true_and]
  rw [hpr]
  refine fnB_enter tabOK mixes Tryz.func83 rfl rfl _ Tryz.ntmps83 _ Tryz.results83 (by simp) ?_
  try simp (config := { maxSteps := 10000000 }) only [go_sem, reduceIte, reduceCtorEq, Nat.reduceEqDiff, Nat.reduceLT, Nat.reduceLeDiff, Nat.reduceAdd, Nat.reduceBEq, Nat.reduceMul, Int.reduceToNat, Int.reduceLE, Int.reduceLT, Int.reduceEq, Int.reduceNeg, d0]
  repeat (refine And.intro (by first | omega | (constructor <;> omega) | kernel_rfl) ?_)
  refine CallW.mk (c1) ?_
  try simp (config := { maxSteps := 10000000 }) only [go_sem, reduceIte, reduceCtorEq, Nat.reduceEqDiff, Nat.reduceLT, Nat.reduceLeDiff, Nat.reduceAdd, Nat.reduceBEq, Nat.reduceMul, Int.reduceToNat, Int.reduceLE, Int.reduceLT, Int.reduceEq, Int.reduceNeg]
  refine LoopG.intro _ _ _ (fun i : Nat => ⟨[(0, .sl tPoint l), (1, .row 0 0), (2, .sc (.int .i64 a)), (7, .sc (.int .i64 ((i : Int) + 1)))], [(0, .row 36 tRat 0 false (fwR l a i w))]⟩) (fun i => i + 1 ≤ l.length) (fun i => l.length - i) 0 ?_ (by omega) ?_
  · refine Wk.mk [] ?_
    try simp (config := { maxSteps := 10000000 }) only [go_sem, reduceIte, reduceCtorEq, Nat.reduceEqDiff, Nat.reduceLT, Nat.reduceLeDiff, Nat.reduceAdd, Nat.reduceBEq, Nat.reduceMul, Int.reduceToNat, Int.reduceLE, Int.reduceLT, Int.reduceEq, Int.reduceNeg]
    try (and_intros <;> first | rfl | omega | exact ⟨_, rfl⟩)
  · rintro i hi
    have hWl := fwR_len l a i w
    have hWc := CN_fw (l := l) (a := a) hc i (by omega)
    have e1 : ((i : Int) + 1 - 1).toNat = i := by omega
    have e2 : ((i : Int) + 1).toNat = i + 1 := by omega
    generalize hW : fwR l a i w = W at hWl hWc ⊢
    try simp (config := { maxSteps := 10000000 }) only [go_sem, reduceIte, reduceCtorEq, Nat.reduceEqDiff, Nat.reduceLT, Nat.reduceLeDiff, Nat.reduceAdd, Nat.reduceBEq, Nat.reduceMul, Int.reduceToNat, Int.reduceLE, Int.reduceLT, Int.reduceEq, Int.reduceNeg, hWl]
    refine CondW_dec (fun hA => ?_) (fun hA => ?_)
    · have hst : fwR l a (i + 1) w = W.set ((i : Int) + 1).toNat (oD (minO (vl W (i + 1)) (addO (vl W i) (gn a (pn l i) (pn l (i + 1)))))) := by
        rw [e2, ← hW]; rfl
      have c4 : Fn Tryz.prog 125 [⟨tPoint, nth (t := tPoint) l ((i : Int) + 1 - 1).toNat⟩, ⟨tPoint, nth (t := tPoint) l ((i : Int) + 1).toNat⟩, ⟨.int, a⟩] true [⟨tRat, oD (gn a (pn l i) (pn l (i + 1)))⟩] := by
        rw [e1, e2]; exact l26Gain_fn _ _ a ha
      have c5 : Fn Tryz.prog 47 [⟨tRat, nth (t := tRat) W ((i : Int) + 1 - 1).toNat⟩, ⟨tRat, oD (gn a (pn l i) (pn l (i + 1)))⟩] true [⟨tRat, oD (addO (vl W i) (gn a (pn l i) (pn l (i + 1))))⟩] := by
        have := specRatAdd_fn (nth (t := tRat) W i) (oD (gn a (pn l i) (pn l (i + 1))))
        rw [rdO_oD (okO_gn _ _ _)] at this
        rw [e1]; exact this
      have c6 : Fn Tryz.prog 124 [⟨tRat, nth (t := tRat) W ((i : Int) + 1).toNat⟩, ⟨tRat, oD (addO (vl W i) (gn a (pn l i) (pn l (i + 1))))⟩] true [⟨tRat, oD (minO (vl W (i + 1)) (addO (vl W i) (gn a (pn l i) (pn l (i + 1)))))⟩] := by
        have := specRatMin_fn (nth (t := tRat) W (i + 1)) (oD (addO (vl W i) (gn a (pn l i) (pn l (i + 1)))))
        rw [rdO_oD (okO_add _ _)] at this
        rw [e2]; exact this
      try simp (config := { maxSteps := 10000000 }) only [go_sem, reduceIte, reduceCtorEq, Nat.reduceEqDiff, Nat.reduceLT, Nat.reduceLeDiff, Nat.reduceAdd, Nat.reduceBEq, Nat.reduceMul, Int.reduceToNat, Int.reduceLE, Int.reduceLT, Int.reduceEq, Int.reduceNeg]
      repeat (refine And.intro (by first | omega | (constructor <;> omega) | kernel_rfl) ?_)
      repeat (refine And.intro (by first | omega | (constructor <;> omega) | kernel_rfl) ?_)
      refine CallW.mk (c4) ?_
      try simp (config := { maxSteps := 10000000 }) only [go_sem, reduceIte, reduceCtorEq, Nat.reduceEqDiff, Nat.reduceLT, Nat.reduceLeDiff, Nat.reduceAdd, Nat.reduceBEq, Nat.reduceMul, Int.reduceToNat, Int.reduceLE, Int.reduceLT, Int.reduceEq, Int.reduceNeg]
      repeat (refine And.intro (by first | omega | (constructor <;> omega) | kernel_rfl) ?_)
      refine CallW.mk (c5) ?_
      try simp (config := { maxSteps := 10000000 }) only [go_sem, reduceIte, reduceCtorEq, Nat.reduceEqDiff, Nat.reduceLT, Nat.reduceLeDiff, Nat.reduceAdd, Nat.reduceBEq, Nat.reduceMul, Int.reduceToNat, Int.reduceLE, Int.reduceLT, Int.reduceEq, Int.reduceNeg]
      repeat (refine And.intro (by first | omega | (constructor <;> omega) | kernel_rfl) ?_)
      refine CallW.mk (c6) ?_
      try simp (config := { maxSteps := 10000000 }) only [go_sem, reduceIte, reduceCtorEq, Nat.reduceEqDiff, Nat.reduceLT, Nat.reduceLeDiff, Nat.reduceAdd, Nat.reduceBEq, Nat.reduceMul, Int.reduceToNat, Int.reduceLE, Int.reduceLT, Int.reduceEq, Int.reduceNeg]
      repeat (refine And.intro (by first | omega | (constructor <;> omega) | kernel_rfl) ?_)
      refine LoopK.mk (i + 1) ?_ (by omega) (by omega)
      rw [hst]
      refine Wk.mk [] ?_
      try simp (config := { maxSteps := 10000000 }) only [go_sem, reduceIte, reduceCtorEq, Nat.reduceEqDiff, Nat.reduceLT, Nat.reduceLeDiff, Nat.reduceAdd, Nat.reduceBEq, Nat.reduceMul, Int.reduceToNat, Int.reduceLE, Int.reduceLT, Int.reduceEq, Int.reduceNeg]
      try (and_intros <;> first | rfl | omega | exact ⟨_, rfl⟩)
    · have hin : i = l.length - 1 := by omega
      have hWe : W = fwR l a (w.length - 1) w := by rw [← hW, hin, hw]
      try simp (config := { maxSteps := 10000000 }) only [go_sem, reduceIte, reduceCtorEq, Nat.reduceEqDiff, Nat.reduceLT, Nat.reduceLeDiff, Nat.reduceAdd, Nat.reduceBEq, Nat.reduceMul, Int.reduceToNat, Int.reduceLE, Int.reduceLT, Int.reduceEq, Int.reduceNeg]
      repeat (refine And.intro (by first | omega | (constructor <;> omega) | kernel_rfl) ?_)
      try simp (config := { maxSteps := 10000000 }) only [go_sem, reduceIte, reduceCtorEq, Nat.reduceEqDiff, Nat.reduceLT, Nat.reduceLeDiff, Nat.reduceAdd, Nat.reduceBEq, Nat.reduceMul, Int.reduceToNat, Int.reduceLE, Int.reduceLT, Int.reduceEq, Int.reduceNeg, hWl]
      repeat (refine And.intro (by first | omega | (constructor <;> omega) | kernel_rfl) ?_)
      refine LoopG.intro _ _ _ (fun j : Nat => ⟨[(0, .sl tPoint l), (1, .row 0 0), (2, .sc (.int .i64 a)), (8, .sc (.int .i64 ((w.length : Int) - 2 - j)))], [(0, .row 36 tRat 0 false (bwR l a w.length j W))]⟩) (fun j => j + 1 ≤ w.length) (fun j => w.length - j) 0 ?_ (by omega) ?_
      · refine Wk.mk [] ?_
        try simp (config := { maxSteps := 10000000 }) only [go_sem, reduceIte, reduceCtorEq, Nat.reduceEqDiff, Nat.reduceLT, Nat.reduceLeDiff, Nat.reduceAdd, Nat.reduceBEq, Nat.reduceMul, Int.reduceToNat, Int.reduceLE, Int.reduceLT, Int.reduceEq, Int.reduceNeg]
        try (and_intros <;> first | rfl | omega | exact ⟨_, rfl⟩)
      · rintro j hj
        have hVl := bwR_len l a w.length j W
        have hVc := CN_bw (l := l) (a := a) (n := w.length) hWc hWl j (by omega)
        generalize hV : bwR l a w.length j W = V at hVl hVc ⊢
        try simp (config := { maxSteps := 10000000 }) only [go_sem, reduceIte, reduceCtorEq, Nat.reduceEqDiff, Nat.reduceLT, Nat.reduceLeDiff, Nat.reduceAdd, Nat.reduceBEq, Nat.reduceMul, Int.reduceToNat, Int.reduceLE, Int.reduceLT, Int.reduceEq, Int.reduceNeg]
        refine CondW_dec (fun hB => ?_) (fun hB => ?_)
        · have e1 : ((w.length : Int) - 2 - j).toNat = w.length - 2 - j := by omega
          have e2 : ((w.length : Int) - 2 - j + 1).toNat = w.length - 2 - j + 1 := by omega
          have hst : bwR l a w.length (j + 1) W = V.set ((w.length : Int) - 2 - j).toNat (oD (minO (vl V (w.length - 2 - j)) (addO (vl V (w.length - 2 - j + 1)) (gn a (pn l (w.length - 2 - j)) (pn l (w.length - 2 - j + 1)))))) := by
            rw [e1, ← hV]; rfl
          have c4 : Fn Tryz.prog 125 [⟨tPoint, nth (t := tPoint) l ((w.length : Int) - 2 - j).toNat⟩, ⟨tPoint, nth (t := tPoint) l ((w.length : Int) - 2 - j + 1).toNat⟩, ⟨.int, a⟩] true [⟨tRat, oD (gn a (pn l (w.length - 2 - j)) (pn l (w.length - 2 - j + 1)))⟩] := by
            rw [e1, e2]; exact l26Gain_fn _ _ a ha
          have c5 : Fn Tryz.prog 47 [⟨tRat, nth (t := tRat) V ((w.length : Int) - 2 - j + 1).toNat⟩, ⟨tRat, oD (gn a (pn l (w.length - 2 - j)) (pn l (w.length - 2 - j + 1)))⟩] true [⟨tRat, oD (addO (vl V (w.length - 2 - j + 1)) (gn a (pn l (w.length - 2 - j)) (pn l (w.length - 2 - j + 1))))⟩] := by
            have := specRatAdd_fn (nth (t := tRat) V (w.length - 2 - j + 1)) (oD (gn a (pn l (w.length - 2 - j)) (pn l (w.length - 2 - j + 1))))
            rw [rdO_oD (okO_gn _ _ _)] at this
            rw [e2]; exact this
          have c6 : Fn Tryz.prog 124 [⟨tRat, nth (t := tRat) V ((w.length : Int) - 2 - j).toNat⟩, ⟨tRat, oD (addO (vl V (w.length - 2 - j + 1)) (gn a (pn l (w.length - 2 - j)) (pn l (w.length - 2 - j + 1))))⟩] true [⟨tRat, oD (minO (vl V (w.length - 2 - j)) (addO (vl V (w.length - 2 - j + 1)) (gn a (pn l (w.length - 2 - j)) (pn l (w.length - 2 - j + 1)))))⟩] := by
            have := specRatMin_fn (nth (t := tRat) V (w.length - 2 - j)) (oD (addO (vl V (w.length - 2 - j + 1)) (gn a (pn l (w.length - 2 - j)) (pn l (w.length - 2 - j + 1)))))
            rw [rdO_oD (okO_add _ _)] at this
            rw [e1]; exact this
          try simp (config := { maxSteps := 10000000 }) only [go_sem, reduceIte, reduceCtorEq, Nat.reduceEqDiff, Nat.reduceLT, Nat.reduceLeDiff, Nat.reduceAdd, Nat.reduceBEq, Nat.reduceMul, Int.reduceToNat, Int.reduceLE, Int.reduceLT, Int.reduceEq, Int.reduceNeg]
          repeat (refine And.intro (by first | omega | (constructor <;> omega) | kernel_rfl) ?_)
          repeat (refine And.intro (by first | omega | (constructor <;> omega) | kernel_rfl) ?_)
          refine CallW.mk (c4) ?_
          try simp (config := { maxSteps := 10000000 }) only [go_sem, reduceIte, reduceCtorEq, Nat.reduceEqDiff, Nat.reduceLT, Nat.reduceLeDiff, Nat.reduceAdd, Nat.reduceBEq, Nat.reduceMul, Int.reduceToNat, Int.reduceLE, Int.reduceLT, Int.reduceEq, Int.reduceNeg]
          repeat (refine And.intro (by first | omega | (constructor <;> omega) | kernel_rfl) ?_)
          refine CallW.mk (c5) ?_
          try simp (config := { maxSteps := 10000000 }) only [go_sem, reduceIte, reduceCtorEq, Nat.reduceEqDiff, Nat.reduceLT, Nat.reduceLeDiff, Nat.reduceAdd, Nat.reduceBEq, Nat.reduceMul, Int.reduceToNat, Int.reduceLE, Int.reduceLT, Int.reduceEq, Int.reduceNeg]
          repeat (refine And.intro (by first | omega | (constructor <;> omega) | kernel_rfl) ?_)
          refine CallW.mk (c6) ?_
          try simp (config := { maxSteps := 10000000 }) only [go_sem, reduceIte, reduceCtorEq, Nat.reduceEqDiff, Nat.reduceLT, Nat.reduceLeDiff, Nat.reduceAdd, Nat.reduceBEq, Nat.reduceMul, Int.reduceToNat, Int.reduceLE, Int.reduceLT, Int.reduceEq, Int.reduceNeg]
          repeat (refine And.intro (by first | omega | (constructor <;> omega) | kernel_rfl) ?_)
          refine LoopK.mk (j + 1) ?_ (by omega) (by omega)
          rw [hst]
          refine Wk.mk [] ?_
          try simp (config := { maxSteps := 10000000 }) only [go_sem, reduceIte, reduceCtorEq, Nat.reduceEqDiff, Nat.reduceLT, Nat.reduceLeDiff, Nat.reduceAdd, Nat.reduceBEq, Nat.reduceMul, Int.reduceToNat, Int.reduceLE, Int.reduceLT, Int.reduceEq, Int.reduceNeg]
          try (and_intros <;> first | rfl | omega | exact ⟨_, rfl⟩)
        · have hVe : V = profW l a w := by unfold profW; rw [← hV, ← hWe, show j = w.length - 1 by omega]
          rw [← hVe]
          clear hV
          try simp (config := { maxSteps := 10000000 }) only [go_sem, reduceIte, reduceCtorEq, Nat.reduceEqDiff, Nat.reduceLT, Nat.reduceLeDiff, Nat.reduceAdd, Nat.reduceBEq, Nat.reduceMul, Int.reduceToNat, Int.reduceLE, Int.reduceLT, Int.reduceEq, Int.reduceNeg]
          refine LoopG.intro _ _ _ (fun k : Nat => ⟨[(1, .row 0 0), (82, .row 0 0), (83, .sc (.int .i64 V.length)), (84, .sc (.int .i64 k))], [(0, .row 36 tRat 0 false V)]⟩) (fun k => ∀ q, q < k → q < V.length → okR (nth (t := tRat) V q) = true) (fun k => V.length - k) 0 ?_ (fun q h => absurd h (Nat.not_lt_zero _)) ?_
          · refine Wk.mk [] ?_
            try simp (config := { maxSteps := 10000000 }) only [go_sem, reduceIte, reduceCtorEq, Nat.reduceEqDiff, Nat.reduceLT, Nat.reduceLeDiff, Nat.reduceAdd, Nat.reduceBEq, Nat.reduceMul, Int.reduceToNat, Int.reduceLE, Int.reduceLT, Int.reduceEq, Int.reduceNeg]
            try (and_intros <;> first | rfl | omega | exact ⟨_, rfl⟩)
          · rintro k hk
            try simp (config := { maxSteps := 10000000 }) only [go_sem, reduceIte, reduceCtorEq, Nat.reduceEqDiff, Nat.reduceLT, Nat.reduceLeDiff, Nat.reduceAdd, Nat.reduceBEq, Nat.reduceMul, Int.reduceToNat, Int.reduceLE, Int.reduceLT, Int.reduceEq, Int.reduceNeg]
            refine CondW_dec (fun hD => ?_) (fun hD => ?_)
            · have c7 := specRatOk_fn (nth (t := tRat) V k)
              cases ho : okR (nth (t := tRat) V k) <;> rw [ho] at c7
              · rw [if_neg (by rw [good_no (by omega) ho]; decide)]
                try simp (config := { maxSteps := 10000000 }) only [go_sem, reduceIte, reduceCtorEq, Nat.reduceEqDiff, Nat.reduceLT, Nat.reduceLeDiff, Nat.reduceAdd, Nat.reduceBEq, Nat.reduceMul, Int.reduceToNat, Int.reduceLE, Int.reduceLT, Int.reduceEq, Int.reduceNeg]
                repeat (refine And.intro (by first | omega | (constructor <;> omega) | kernel_rfl) ?_)
                repeat (refine And.intro (by first | omega | (constructor <;> omega) | kernel_rfl) ?_)
                refine CallW.mk (c7) ?_
                try simp (config := { maxSteps := 10000000 }) only [go_sem, reduceIte, reduceCtorEq, Nat.reduceEqDiff, Nat.reduceLT, Nat.reduceLeDiff, Nat.reduceAdd, Nat.reduceBEq, Nat.reduceMul, Int.reduceToNat, Int.reduceLE, Int.reduceLT, Int.reduceEq, Int.reduceNeg]
              · try simp (config := { maxSteps := 10000000 }) only [go_sem, reduceIte, reduceCtorEq, Nat.reduceEqDiff, Nat.reduceLT, Nat.reduceLeDiff, Nat.reduceAdd, Nat.reduceBEq, Nat.reduceMul, Int.reduceToNat, Int.reduceLE, Int.reduceLT, Int.reduceEq, Int.reduceNeg]
                repeat (refine And.intro (by first | omega | (constructor <;> omega) | kernel_rfl) ?_)
                repeat (refine And.intro (by first | omega | (constructor <;> omega) | kernel_rfl) ?_)
                refine CallW.mk (c7) ?_
                try simp (config := { maxSteps := 10000000 }) only [go_sem, reduceIte, reduceCtorEq, Nat.reduceEqDiff, Nat.reduceLT, Nat.reduceLeDiff, Nat.reduceAdd, Nat.reduceBEq, Nat.reduceMul, Int.reduceToNat, Int.reduceLE, Int.reduceLT, Int.reduceEq, Int.reduceNeg]
                repeat (refine And.intro (by first | omega | (constructor <;> omega) | kernel_rfl) ?_)
                refine LoopK.mk (k + 1) ?_ (fun q h1 h2 => ?_) (by omega)
                · refine Wk.mk [] ?_
                  try simp (config := { maxSteps := 10000000 }) only [go_sem, reduceIte, reduceCtorEq, Nat.reduceEqDiff, Nat.reduceLT, Nat.reduceLeDiff, Nat.reduceAdd, Nat.reduceBEq, Nat.reduceMul, Int.reduceToNat, Int.reduceLE, Int.reduceLT, Int.reduceEq, Int.reduceNeg]
                  try (and_intros <;> first | rfl | omega | exact ⟨_, rfl⟩)
                · by_cases h3 : q < k
                  · exact hk q h3 h2
                  · rw [show q = k by omega]; exact ho
            · rw [if_pos (good_of fun q hq => hk q (by omega) hq)]
              try simp (config := { maxSteps := 10000000 }) only [go_sem, reduceIte, reduceCtorEq, Nat.reduceEqDiff, Nat.reduceLT, Nat.reduceLeDiff, Nat.reduceAdd, Nat.reduceBEq, Nat.reduceMul, Int.reduceToNat, Int.reduceLE, Int.reduceLT, Int.reduceEq, Int.reduceNeg]
              all_goals repeat (refine And.intro (by first | omega | (constructor <;> omega) | kernel_rfl) ?_)
              all_goals first | kernel_rfl | omega | rfl
end Go.Proofs.YtgffgcpcjpjfgaaGreat.DW

/-
  Profiles of speed: from the limits to the profile.
-/
namespace Go.Proofs.YtgffgcpcjpjfgaaGreat.DW
open Go.RowKit
theorem implProfile_nil (l : List DP) (a : Int) : Fn Tryz.prog 85 [⟨.slice tPoint, l⟩, ⟨.slice tRat, []⟩, ⟨.int, a⟩] true [⟨.slice tRat, []⟩] := by
  have d0 : decide (((0 : Nat) : Int) = 0) = true := by decide
  refine fn_enter tabOK mixes Tryz.func85 rfl rfl _ Tryz.ntmps85 _ Tryz.results85 (by simp) fun hwf => ?_
  try simp (config := { maxSteps := 10000000 }) only [go_sem, reduceIte, reduceCtorEq, Nat.reduceEqDiff, Nat.reduceLT, Nat.reduceLeDiff, Nat.reduceAdd, Nat.reduceBEq, Nat.reduceMul, Int.reduceToNat, Int.reduceLE, Int.reduceLT, Int.reduceEq, Int.reduceNeg, d0]
theorem specProfile_nil (l : List DP) (a : Int) : Fn Tryz.prog 83 [⟨.slice tPoint, l⟩, ⟨.slice tRat, []⟩, ⟨.int, a⟩] true [⟨.slice tRat, []⟩] := by
  have d0 : decide (((0 : Nat) : Int) = 0) = true := by decide
  refine fn_enter tabOK mixes Tryz.func83 rfl rfl _ Tryz.ntmps83 _ Tryz.results83 (by simp) fun hwf => ?_
  try simp (config := { maxSteps := 10000000 }) only [go_sem, reduceIte, reduceCtorEq, Nat.reduceEqDiff, Nat.reduceLT, Nat.reduceLeDiff, Nat.reduceAdd, Nat.reduceBEq, Nat.reduceMul, Int.reduceToNat, Int.reduceLE, Int.reduceLT, Int.reduceEq, Int.reduceNeg, d0]
theorem cn_rats {w : List DR} (h : ∀ r ∈ w, okR r = true) : cnRatS w ≤ 49 * w.length := by
  induction w with
  | nil => exact Nat.le_refl _
  | cons r l ih =>
    have h1 := okR_len (h r List.mem_cons_self)
    have h2 := ih fun x hx => h x (List.mem_cons_of_mem _ hx)
    have e : cnRatS (r :: l) = ecRat r + cnRatS l := rfl
    have e2 : ecRat r ≤ 49 := by
      show 1 + r.1.2.length + r.2.length ≤ 49
      omega
    rw [e, List.length_cons]; omega
theorem cn_prof {l : List DP} {a : Int} {w : List DR} (hl : w.length ≤ 1048577) : cnRatS (prof l a w) ≤ 60000000 := by
  unfold prof
  split
  · rename_i h
    rw [Bool.and_eq_true] at h
    have h1 := cn_rats (good_mem h.2)
    have h2 : (profW l a w).length = w.length := by unfold profW; rw [bwR_len, fwR_len]
    omega
  · exact Nat.zero_le _
end Go.Proofs.YtgffgcpcjpjfgaaGreat.DW

/-
  One number, so many times.
-/
namespace Go.Proofs.YtgffgcpcjpjfgaaGreat
open Go.RowKit Go.Lib
set_option maxRecDepth 100000 in
set_option maxHeartbeats 1000000 in
theorem mul64_one (c : Nat) (hc : c ≤ 1048576) (w : World) : Calls Tryz.prog 182 #[.int .u64 1, .int .u64 c] w fun e w' => e = .returned (.tuple #[.int .u64 0, .int .u64 c]) ∧ w' = w := by
  have h1 := Mul64.maskN c (by omega)
  rw [Nat.mod_eq_of_lt (by omega)] at h1
  have h2 : bits .and .u64 1 4294967295 = 1 := by have := Mul64.maskN 1 (by omega); simpa using this
  have h4 : (c : Int) % 18446744073709551616 = c := by omega
  have h5 : bits .and .u64 0 4294967295 = 0 := by have := Mul64.maskN 0 (by omega); simpa using this
  have h3 : (c : Int) / 4294967296 = 0 := by omega
  go_enter Tryz.func182, Tryz.ntmps182
  go_wp2
  go_ret2
  simp [h1, h2, h3, h4, h5, IntKind.wrap_u64]
set_option maxRecDepth 100000 in
set_option maxHeartbeats 1000000 in
theorem mul_one (c : Nat) (hc : c ≤ 1048576) (w : World) : Calls Tryz.prog 135 #[.int .u64 1, .int .u64 c] w fun e w' => e = .returned (.tuple #[.int .u64 0, .int .u64 c]) ∧ w' = w := by
  have c64 := mul64_one c hc w
  go_enter Tryz.func135, Tryz.ntmps135
  go_wp2_with fail
  refine c64.mono ?_
  rintro e w' ⟨rfl, rfl⟩
  go_wp2
  go_ret2
  exact ⟨rfl, rfl⟩
set_option maxRecDepth 100000 in
set_option maxHeartbeats 4000000 in
theorem repeat_any (v : Int) (b off cp c : Nat) (w : World) (hb : b < w.heap.size) (hv : w.cell? ⟨b, off, none⟩ = some (.int .i64 v)) (hc : c ≤ 1048576) :
    Calls Tryz.prog 89 #[.slice (some ⟨b, off, none⟩) 1 cp, .int .i64 c] w fun e w' => ∃ g, e = .returned (.slice (some ⟨g, 0, none⟩) c c) ∧ w.heap.size ≤ g ∧ w'.heap[g]? = some (.cells (List.replicate c (Value.int .i64 v)).toArray 3 (0, 0)) ∧ Below w.heap.size w w' := by
  have cm := mul_one c hc w
  have hw : IntKind.u64.wrap (c : Int) = c := by rw [IntKind.wrap_u64]; omega
  have hw2 : IntKind.i64.wrap (c : Int) = c := by rw [IntKind.wrap_i64]; omega
  have hw3 : IntKind.u64.wrap 1 = 1 := by decide
  have hn : ¬ (c : Int) < 0 := by omega
  have hn2 : ¬ (9223372036854775807 : Int) < c := by omega
  obtain ⟨i0, hi, hz0, hz1, hz2⟩ := info_parts infoint
  go_enter Tryz.func89, Tryz.ntmps89
  go_wp2_with fail
  refine cm.mono ?_
  rintro e w' ⟨rfl, he⟩
  rw [he]
  clear he
  go_wp2_with (at_make; refine wpList_make_full _ rfl _ _ 22 rfl w.heap.size 3 i0 _ 1 Tryz.underlying22 hi hz0 hz1 _ _ _ _ c rfl rfl rfl rfl (by rw [hz2]; omega) (by unfold maxLen; omega) (Nat.le_refl _) ?_)
  intro w1 hown hgrow
  have hb1 : Below w.heap.size w w1 := (Below.refl _ _).grown hgrow (Nat.le_refl _) (by simp)
  obtain ⟨L, hLl, hg1⟩ : ∃ L : List Value, L.length = c ∧ w1.heap[w.heap.size]? = some (.cells L.toArray 3 (0, 0)) := by
    obtain ⟨_, ⟨h1, _⟩ | ⟨g, cap, cur, h1, _, h3, _, _, h6, _⟩⟩ := hown
    · cases h1
    · injection h1 with h1 _ h2
      injection h1 with h1
      injection h1 with h1
      subst h1 h2
      exact ⟨cur.toList, by rw [Array.length_toList, h6]; omega, by rw [h3]⟩
  have HG1 := Lib.hid hg1
  have hcv : w1.cell? ⟨b, off, none⟩ = some (.int .i64 v) := (hb1.cell (p := ⟨b, off, none⟩) hb).trans hv
  clear hown hgrow hg1 hi hz0 hz1 hz2
  obtain ⟨X, hX⟩ : ∃ X, X = List.replicate (min 1 c) (Value.int .i64 v) := ⟨_, rfl⟩
  have HXl : X.length = min 1 c := by rw [hX]; simp
  have HX := Lib.hid hX
  clear hX
  have hc1 := run_copy_row (P := Tryz.prog) w1 22 22 3 3 w.heap.size 0 c c ⟨b, off, none⟩ 1 cp L.toArray 3 X Tryz.underlying22 (by kernel_rfl) HG1.out (by rw [HXl])
    (fun j u hj => by
      rw [HX.out] at hj
      have hj0 : j = 0 := by have := (List.getElem?_eq_some_iff.1 hj).1; simp at this; omega
      subst hj0
      rw [List.getElem?_replicate] at hj
      split at hj
      · injection hj with hj; subst hj; simpa [Addr.add] using hcv
      · cases hj) (by simp; omega) (fun u hu => by rw [HX.out] at hu; rw [(List.mem_replicate.1 hu).2]; rfl)
  obtain ⟨w2, hw2⟩ : ∃ w2, w2 = w1.setRow w.heap.size (L.toArray.toList.take 0 ++ X ++ L.toArray.toList.drop (0 + X.length)).toArray := ⟨_, rfl⟩
  rw [← hw2] at hc1
  have hb2 : Below w.heap.size w w2 := by rw [hw2]; exact below_setRow hb1 (Nat.le_refl _) _
  have HG2 : Hid (w2.heap[w.heap.size]? = some (.cells (List.replicate (min 1 c) (Value.int .i64 v) ++ L.drop (min 1 c)).toArray 3 (0, 0))) := by
    refine Lib.hid ?_
    rw [hw2, setRow_heap w1 w.heap.size _ _ _ _ HG1.out, HXl, HX.out]
    simp
  rw [HXl] at hc1
  clear hw2
  go_wp2_with fail
  go_loopw [8] (fun s8 wr => ∃ n : Nat, n ≤ c ∧ (1 ≤ n ∨ c = 0) ∧ s8 = .int .i64 n ∧ Hid (wr.heap[w.heap.size]? = some (.cells (List.replicate n (Value.int .i64 v) ++ L.drop n).toArray 3 (0, 0))) ∧ Hid (Below w.heap.size w wr)) (fun s8 _ => c - (intOf s8).toNat)
  case atStart => exact ⟨min 1 c, by omega, by omega, rfl, HG2, Lib.hid hb2⟩
  case round =>
    obtain ⟨n, hn1, hn2, rfl, HG, HB⟩ := hrel
    by_cases hlt : n < c
    · have hltz : (n : Int) < (c : Int) := by omega
      obtain ⟨Y, hY⟩ : ∃ Y, Y = List.replicate n (Value.int .i64 v) ++ L.drop n := ⟨_, rfl⟩
      obtain ⟨Z, hZ⟩ : ∃ Z, Z = List.replicate (min n (c - n)) (Value.int .i64 v) := ⟨_, rfl⟩
      have hYl : Y.length = c := by rw [hY]; simp; omega
      have hZl : Z.length = min n (c - n) := by rw [hZ]; simp
      rw [← hY] at HG
      have HYY := Lib.hid hY; have HZZ := Lib.hid hZ; clear hY hZ
      have hsrc : ∀ j u, Z[j]? = some u → wr.cell? ⟨w.heap.size, j, none⟩ = some u := fun j u hj => by
        rw [HZZ.out] at hj
        have hjl := (List.getElem?_eq_some_iff.1 hj).1
        rw [List.length_replicate] at hjl
        rw [List.getElem?_replicate, if_pos hjl] at hj
        rw [cell_of_row wr _ _ _ _ _ HG.out, HYY.out, List.getElem?_toArray, List.getElem?_append_left (by simp; omega), List.getElem?_replicate, if_pos (by omega)]
        exact hj
      have hcn : ¬ c = n := by omega
      have hdr : (wr.drew).heap[w.heap.size]? = some (.cells Y.toArray 3 (0, 0)) := HG.out
      have hc2 := run_copy_row (P := Tryz.prog) wr.drew 22 22 3 3 w.heap.size n (c - n) (c - n) ⟨w.heap.size, 0, none⟩ n c Y.toArray 3 Z Tryz.underlying22 (by kernel_rfl) hdr (by rw [hZl])
        (fun j u hj => by rw [Addr.add_lit, Nat.zero_add]; exact hsrc j u hj) (by show n + Z.length ≤ Y.toArray.size; rw [List.size_toArray]; omega) (fun u hu => by rw [HZZ.out] at hu; rw [(List.mem_replicate.1 hu).2]; rfl)
      obtain ⟨w4, hw4⟩ : ∃ w4, w4 = wr.drew.setRow w.heap.size (Y.toArray.toList.take n ++ Z ++ Y.toArray.toList.drop (n + Z.length)).toArray := ⟨_, rfl⟩
      rw [← hw4] at hc2
      have hbd : Below w.heap.size w wr.drew := ⟨HB.out.os, HB.out.tape, HB.out.output, HB.out.size, HB.out.block⟩
      have hb4 : Below w.heap.size w w4 := by rw [hw4]; exact below_setRow hbd (Nat.le_refl _) _
      have HG4 : Hid (w4.heap[w.heap.size]? = some (.cells (List.replicate (n + min n (c - n)) (Value.int .i64 v) ++ L.drop (n + min n (c - n))).toArray 3 (0, 0))) := by
        refine Lib.hid ?_
        rw [hw4, setRow_heap wr.drew w.heap.size _ _ _ _ hdr]
        congr 3
        rw [hZl, HZZ.out, HYY.out]
        have e1 : (List.replicate n (Value.int .i64 v) ++ L.drop n).take n = List.replicate n (Value.int .i64 v) := by rw [List.take_append_of_le_length (by simp), List.take_of_length_le (by simp)]
        have e2 : (List.replicate n (Value.int .i64 v) ++ L.drop n).drop (n + min n (c - n)) = L.drop (n + min n (c - n)) := by
          rw [List.drop_append, List.drop_of_length_le (by simp), List.nil_append, List.drop_drop, List.length_replicate]
          congr 1; omega
        simp only [e1, e2, List.replicate_append_replicate]
      rw [hZl] at hc2
      clear hw4 hdr hsrc
      go_wp2_with fail
      go_region
      go_wp2
      go_roundw
      case rel => exact ⟨n + min n (c - n), by omega, by omega, by go_num, HG4, Lib.hid hb4⟩
      case measure => simp [intOf]; omega
    · have hltz : ¬ (n : Int) < (c : Int) := by omega
      obtain rfl : n = c := by omega
      go_wp2
      go_ret
      refine ⟨_, rfl, Nat.le_refl _, ?_, HB.out⟩
      have := HG.out
      rw [List.drop_eq_nil_of_le (by omega), List.append_nil] at this
      exact this
end Go.Proofs.YtgffgcpcjpjfgaaGreat
namespace Go.Proofs.YtgffgcpcjpjfgaaGreat.DW
open Go.RowKit
theorem repeat_fn (v : Int) (c : Nat) (hc : c ≤ 1048576) : Fn Tryz.prog 89 [⟨tInts, [v]⟩, ⟨.int, (c : Int)⟩] true [⟨tInts, List.replicate c v⟩] := by
  refine ⟨enters Tryz.func89 rfl rfl, fun w vs S ha => ?_⟩
  match vs, ha with
  | [v0, v1], ⟨⟨f0, ⟨cs, hpk, hr⟩, _⟩, ⟨f1, h1, _⟩, _⟩ =>
    obtain rfl := drep_int h1
    obtain rfl := pk_one rfl hpk
    obtain ⟨ad, cp, hcs, hc1, hc2, ⟨hnil, _⟩ | ⟨b, off, fps, _, rfl, _, hE⟩⟩ := hr
    · cases hnil
    injection hcs with hcs _
    subst hcs
    obtain ⟨f, cs, _, hrp, hcell⟩ := hE.2 0 v rfl
    obtain ⟨rfl, _, hI⟩ := hrp
    have hv : w.cell? ⟨b, off, none⟩ = some (.int .i64 v) := by simpa using hcell 0 _ rfl
    refine (repeat_any v b off cp c w (cell_lt hv) hv hc).mono ?_
    rintro e w' ⟨g, rfl, hgb, hg, hb⟩
    refine ⟨hb, _, rfl, ?_⟩
    have hgl : g < w'.heap.size := by
      rcases Nat.lt_or_ge g w'.heap.size with h | h
      · exact h
      · rw [Array.getElem?_eq_none h] at hg; cases hg
    by_cases h0 : c = 0
    · subst h0
      exact ⟨[], ⟨_, .inr ⟨rfl, rfl⟩, some ⟨g, 0, none⟩, 0, rfl, Nat.le_refl _, Nat.zero_le _, .inl ⟨rfl, rfl⟩⟩, fun _ => ownFp_nil _ _, fun b hb => by cases hb⟩
    · have hlen : (List.replicate c v).length = c := List.length_replicate
      refine ⟨[g], ⟨[.slice (some ⟨g, 0, none⟩) c c], .inr ⟨rfl, rfl⟩, some ⟨g, 0, none⟩, c, by rw [hlen], by rw [hlen]; exact Nat.le_refl _, Nat.le_trans hc (by decide), .inr ⟨g, 0, List.replicate c [], fun e => h0 (by have h := congrArg List.length (show List.replicate c v = [] from e); rw [hlen] at h; exact h), rfl, by simp, by simp, fun i x hx => ?_⟩⟩, fun _ => ⟨by simp, fun b hb => ?_⟩, fun b hb => ?_⟩
      · rw [List.getElem?_replicate] at hx
        split at hx
        · rename_i hi
          injection hx with hx
          subst hx
          refine ⟨[], [.int .i64 v], by rw [List.getElem?_replicate, if_pos hi], ⟨rfl, rfl, hI⟩, fun j u hj => ?_⟩
          match j, hj with
          | 0, hj =>
            injection hj with hj
            subst hj
            rw [cell_of_row w' _ _ _ _ _ hg]
            show (List.replicate c (Value.int .i64 v)).toArray[0 + i * 1 + 0]? = _
            rw [List.getElem?_toArray, List.getElem?_replicate, if_pos (by omega)]
          | j + 1, hj => simp at hj
        · cases hx
      · obtain rfl : b = g := by simpa using hb
        exact ⟨hgb, _, _, hg⟩
      · obtain rfl : b = g := by simpa using hb
        exact .inr hgb
end Go.Proofs.YtgffgcpcjpjfgaaGreat.DW

/-
  Speeds of a motion: its points, its limits, what stands still.
-/
namespace Go.Proofs.YtgffgcpcjpjfgaaGreat.DW
open Go.RowKit
def szP (p : DP) : Prop := (p.1.1.2.length ≤ 1048576 ∧ p.1.2.length ≤ 1048576) ∧ (p.2.1.2.length ≤ 1048576 ∧ p.2.2.length ≤ 1048576)
theorem ownPointS_fn (p : DP) (h : szP p) : Fn Tryz.prog 112 [⟨tPoint, p⟩] true [⟨tPoint, p⟩] := by
  obtain ⟨⟨h1, h2⟩, h3, h4⟩ := h
  have c1 := ownRat_fn p.1 (by omega) (by omega)
  have c2 := ownRat_fn p.2 (by omega) (by omega)
  refine fn_enter tabOK mixes Tryz.func112 rfl rfl _ Tryz.ntmps112 _ Tryz.results112 (by simp) fun hwf => ?_
  try simp (config := { maxSteps := 10000000 }) only [go_sem, reduceIte, reduceCtorEq, Nat.reduceEqDiff, Nat.reduceLT, Nat.reduceLeDiff, Nat.reduceAdd, Nat.reduceBEq, Nat.reduceMul, Int.reduceToNat, Int.reduceLE, Int.reduceLT, Int.reduceEq, Int.reduceNeg]
  repeat (refine And.intro (by first | omega | (constructor <;> omega) | kernel_rfl) ?_)
  refine CallW.mk (c1) ?_
  try simp (config := { maxSteps := 10000000 }) only [go_sem, reduceIte, reduceCtorEq, Nat.reduceEqDiff, Nat.reduceLT, Nat.reduceLeDiff, Nat.reduceAdd, Nat.reduceBEq, Nat.reduceMul, Int.reduceToNat, Int.reduceLE, Int.reduceLT, Int.reduceEq, Int.reduceNeg]
  repeat (refine And.intro (by first | omega | (constructor <;> omega) | kernel_rfl) ?_)
  refine CallW.mk (c2) ?_
  try simp (config := { maxSteps := 10000000 }) only [go_sem, reduceIte, reduceCtorEq, Nat.reduceEqDiff, Nat.reduceLT, Nat.reduceLeDiff, Nat.reduceAdd, Nat.reduceBEq, Nat.reduceMul, Int.reduceToNat, Int.reduceLE, Int.reduceLT, Int.reduceEq, Int.reduceNeg]
  all_goals repeat (refine And.intro (by first | omega | (constructor <;> omega) | kernel_rfl) ?_)
  all_goals first | kernel_rfl | omega | rfl
theorem l05CopyS_fn (p : DP) (h : szP p) : Fn Tryz.prog 110 [⟨tPoint, p⟩] true [⟨tPoint, p⟩] := by
  obtain ⟨⟨h1, h2⟩, h3, h4⟩ := h
  have c1 := l04Copy_fn p.1 (by omega) (by omega)
  have c2 := l04Copy_fn p.2 (by omega) (by omega)
  refine fn_enter tabOK mixes Tryz.func110 rfl rfl _ Tryz.ntmps110 _ Tryz.results110 (by simp) fun hwf => ?_
  try simp (config := { maxSteps := 10000000 }) only [go_sem, reduceIte, reduceCtorEq, Nat.reduceEqDiff, Nat.reduceLT, Nat.reduceLeDiff, Nat.reduceAdd, Nat.reduceBEq, Nat.reduceMul, Int.reduceToNat, Int.reduceLE, Int.reduceLT, Int.reduceEq, Int.reduceNeg]
  repeat (refine And.intro (by first | omega | (constructor <;> omega) | kernel_rfl) ?_)
  refine CallW.mk (c1) ?_
  try simp (config := { maxSteps := 10000000 }) only [go_sem, reduceIte, reduceCtorEq, Nat.reduceEqDiff, Nat.reduceLT, Nat.reduceLeDiff, Nat.reduceAdd, Nat.reduceBEq, Nat.reduceMul, Int.reduceToNat, Int.reduceLE, Int.reduceLT, Int.reduceEq, Int.reduceNeg]
  repeat (refine And.intro (by first | omega | (constructor <;> omega) | kernel_rfl) ?_)
  refine CallW.mk (c2) ?_
  try simp (config := { maxSteps := 10000000 }) only [go_sem, reduceIte, reduceCtorEq, Nat.reduceEqDiff, Nat.reduceLT, Nat.reduceLeDiff, Nat.reduceAdd, Nat.reduceBEq, Nat.reduceMul, Int.reduceToNat, Int.reduceLE, Int.reduceLT, Int.reduceEq, Int.reduceNeg]
  all_goals repeat (refine And.intro (by first | omega | (constructor <;> omega) | kernel_rfl) ?_)
  all_goals first | kernel_rfl | omega | rfl
/-- The points of a motion. -/
def mpL (p : DS) (l : List DS) : List DP := p.2 :: l.map fun x => x.2
theorem mpL_len (p : DS) (l : List DS) : (mpL p l).length = l.length + 1 := by simp [mpL]
theorem mpL_step (p : DS) {l : List DS} {i : Nat} (h : i < l.length) : mpL p (l.take (i + 1)) = mpL p (l.take i) ++ [(nth (t := tStep) l i).2] := by
  unfold mpL
  rw [nth_lt h, List.take_succ_eq_append_getElem h, List.map_append]; rfl
theorem implMotionPoints_fn (p : DS) (l : List DS) (hp : szP p.2) (hl : ∀ x ∈ l, szP x.2) (hn : l.length ≤ 1048576) : Fn Tryz.prog 88 [⟨tStep, p⟩, ⟨.slice tStep, l⟩] true [⟨.slice tPoint, mpL p l⟩] := by
  have c1 := ownPointS_fn p.2 hp
  refine fn_enter tabOK mixes Tryz.func88 rfl rfl _ Tryz.ntmps88 _ Tryz.results88 (by simp) fun hwf => ?_
  try simp (config := { maxSteps := 10000000 }) only [go_sem, reduceIte, reduceCtorEq, Nat.reduceEqDiff, Nat.reduceLT, Nat.reduceLeDiff, Nat.reduceAdd, Nat.reduceBEq, Nat.reduceMul, Int.reduceToNat, Int.reduceLE, Int.reduceLT, Int.reduceEq, Int.reduceNeg]
  repeat (refine And.intro (by first | omega | (constructor <;> omega) | kernel_rfl) ?_)
  refine CallW.mk (c1) ?_
  try simp (config := { maxSteps := 10000000 }) only [go_sem, reduceIte, reduceCtorEq, Nat.reduceEqDiff, Nat.reduceLT, Nat.reduceLeDiff, Nat.reduceAdd, Nat.reduceBEq, Nat.reduceMul, Int.reduceToNat, Int.reduceLE, Int.reduceLT, Int.reduceEq, Int.reduceNeg]
  refine LoopG.intro _ _ _ (fun i : Nat => ⟨[(5, .row 5 0), (12, .sl tStep l), (13, .sc (.int .i64 l.length)), (14, .sc (.int .i64 i))], [(5, .row 39 tPoint 0 true (mpL p (l.take i)))]⟩) (fun i => i ≤ l.length) (fun i => l.length - i) 0 ?_ (Nat.zero_le _) ?_
  · refine Wk.mk [] ?_
    try simp (config := { maxSteps := 10000000 }) only [go_sem, reduceIte, reduceCtorEq, Nat.reduceEqDiff, Nat.reduceLT, Nat.reduceLeDiff, Nat.reduceAdd, Nat.reduceBEq, Nat.reduceMul, Int.reduceToNat, Int.reduceLE, Int.reduceLT, Int.reduceEq, Int.reduceNeg]
    try (and_intros <;> first | rfl | omega | exact ⟨_, rfl⟩)
    all_goals (first | exact ⟨rfl, rfl⟩ | rfl)
  · rintro i hi
    try simp (config := { maxSteps := 10000000 }) only [go_sem, reduceIte, reduceCtorEq, Nat.reduceEqDiff, Nat.reduceLT, Nat.reduceLeDiff, Nat.reduceAdd, Nat.reduceBEq, Nat.reduceMul, Int.reduceToNat, Int.reduceLE, Int.reduceLT, Int.reduceEq, Int.reduceNeg]
    refine CondW_dec (fun hA => ?_) (fun hA => ?_)
    · have hlt : i < l.length := by omega
      have hml : (mpL p (l.take i)).length = i + 1 := by rw [mpL_len, List.length_take]; omega
      have c2 := ownPointS_fn (nth (t := tStep) l i).2 (hl _ (by rw [nth_lt hlt]; exact List.getElem_mem hlt))
      have e := mpL_step p hlt
      try simp (config := { maxSteps := 10000000 }) only [go_sem, reduceIte, reduceCtorEq, Nat.reduceEqDiff, Nat.reduceLT, Nat.reduceLeDiff, Nat.reduceAdd, Nat.reduceBEq, Nat.reduceMul, Int.reduceToNat, Int.reduceLE, Int.reduceLT, Int.reduceEq, Int.reduceNeg]
      repeat (refine And.intro (by first | omega | (constructor <;> omega) | kernel_rfl) ?_)
      repeat (refine And.intro (by first | omega | (constructor <;> omega) | kernel_rfl) ?_)
      refine CallW.mk (c2) ?_
      try simp (config := { maxSteps := 10000000 }) only [go_sem, reduceIte, reduceCtorEq, Nat.reduceEqDiff, Nat.reduceLT, Nat.reduceLeDiff, Nat.reduceAdd, Nat.reduceBEq, Nat.reduceMul, Int.reduceToNat, Int.reduceLE, Int.reduceLT, Int.reduceEq, Int.reduceNeg]
      try simp (config := { maxSteps := 10000000 }) only [go_sem, reduceIte, reduceCtorEq, Nat.reduceEqDiff, Nat.reduceLT, Nat.reduceLeDiff, Nat.reduceAdd, Nat.reduceBEq, Nat.reduceMul, Int.reduceToNat, Int.reduceLE, Int.reduceLT, Int.reduceEq, Int.reduceNeg, hml]
      repeat (refine And.intro (by first | omega | (constructor <;> omega) | kernel_rfl) ?_)
      refine LoopK.mk (i + 1) ?_ (by omega) (by omega)
      refine Wk.mk [] ?_
      try simp (config := { maxSteps := 10000000 }) only [go_sem, reduceIte, reduceCtorEq, Nat.reduceEqDiff, Nat.reduceLT, Nat.reduceLeDiff, Nat.reduceAdd, Nat.reduceBEq, Nat.reduceMul, Int.reduceToNat, Int.reduceLE, Int.reduceLT, Int.reduceEq, Int.reduceNeg]
      try (and_intros <;> first | rfl | omega | exact ⟨_, rfl⟩)
      all_goals (rw [e]; exact ⟨by omega, rfl⟩)
    · rw [List.take_of_length_le (by omega)]
      try simp (config := { maxSteps := 10000000 }) only [go_sem, reduceIte, reduceCtorEq, Nat.reduceEqDiff, Nat.reduceLT, Nat.reduceLeDiff, Nat.reduceAdd, Nat.reduceBEq, Nat.reduceMul, Int.reduceToNat, Int.reduceLE, Int.reduceLT, Int.reduceEq, Int.reduceNeg]
theorem specMotionPoints_fn (p : DS) (l : List DS) (hp : szP p.2) (hl : ∀ x ∈ l, szP x.2) (hn : l.length ≤ 1048576) : Fn Tryz.prog 87 [⟨tStep, p⟩, ⟨.slice tStep, l⟩] true [⟨.slice tPoint, mpL p l⟩] := by
  have c1 := l05CopyS_fn p.2 hp
  refine fn_enter tabOK mixes Tryz.func87 rfl rfl _ Tryz.ntmps87 _ Tryz.results87 (by simp) fun hwf => ?_
  try simp (config := { maxSteps := 10000000 }) only [go_sem, reduceIte, reduceCtorEq, Nat.reduceEqDiff, Nat.reduceLT, Nat.reduceLeDiff, Nat.reduceAdd, Nat.reduceBEq, Nat.reduceMul, Int.reduceToNat, Int.reduceLE, Int.reduceLT, Int.reduceEq, Int.reduceNeg]
  repeat (refine And.intro (by first | omega | (constructor <;> omega) | kernel_rfl) ?_)
  refine CallW.mk (c1) ?_
  try simp (config := { maxSteps := 10000000 }) only [go_sem, reduceIte, reduceCtorEq, Nat.reduceEqDiff, Nat.reduceLT, Nat.reduceLeDiff, Nat.reduceAdd, Nat.reduceBEq, Nat.reduceMul, Int.reduceToNat, Int.reduceLE, Int.reduceLT, Int.reduceEq, Int.reduceNeg]
  refine LoopG.intro _ _ _ (fun i : Nat => ⟨[(5, .row 5 0), (12, .sl tStep l), (13, .sc (.int .i64 l.length)), (14, .sc (.int .i64 i))], [(5, .row 39 tPoint 0 true (mpL p (l.take i)))]⟩) (fun i => i ≤ l.length) (fun i => l.length - i) 0 ?_ (Nat.zero_le _) ?_
  · refine Wk.mk [] ?_
    try simp (config := { maxSteps := 10000000 }) only [go_sem, reduceIte, reduceCtorEq, Nat.reduceEqDiff, Nat.reduceLT, Nat.reduceLeDiff, Nat.reduceAdd, Nat.reduceBEq, Nat.reduceMul, Int.reduceToNat, Int.reduceLE, Int.reduceLT, Int.reduceEq, Int.reduceNeg]
    try (and_intros <;> first | rfl | omega | exact ⟨_, rfl⟩)
    all_goals (first | exact ⟨rfl, rfl⟩ | rfl)
  · rintro i hi
    try simp (config := { maxSteps := 10000000 }) only [go_sem, reduceIte, reduceCtorEq, Nat.reduceEqDiff, Nat.reduceLT, Nat.reduceLeDiff, Nat.reduceAdd, Nat.reduceBEq, Nat.reduceMul, Int.reduceToNat, Int.reduceLE, Int.reduceLT, Int.reduceEq, Int.reduceNeg]
    refine CondW_dec (fun hA => ?_) (fun hA => ?_)
    · have hlt : i < l.length := by omega
      have hml : (mpL p (l.take i)).length = i + 1 := by rw [mpL_len, List.length_take]; omega
      have c2 := l05CopyS_fn (nth (t := tStep) l i).2 (hl _ (by rw [nth_lt hlt]; exact List.getElem_mem hlt))
      have e := mpL_step p hlt
      try simp (config := { maxSteps := 10000000 }) only [go_sem, reduceIte, reduceCtorEq, Nat.reduceEqDiff, Nat.reduceLT, Nat.reduceLeDiff, Nat.reduceAdd, Nat.reduceBEq, Nat.reduceMul, Int.reduceToNat, Int.reduceLE, Int.reduceLT, Int.reduceEq, Int.reduceNeg]
      repeat (refine And.intro (by first | omega | (constructor <;> omega) | kernel_rfl) ?_)
      repeat (refine And.intro (by first | omega | (constructor <;> omega) | kernel_rfl) ?_)
      refine CallW.mk (c2) ?_
      try simp (config := { maxSteps := 10000000 }) only [go_sem, reduceIte, reduceCtorEq, Nat.reduceEqDiff, Nat.reduceLT, Nat.reduceLeDiff, Nat.reduceAdd, Nat.reduceBEq, Nat.reduceMul, Int.reduceToNat, Int.reduceLE, Int.reduceLT, Int.reduceEq, Int.reduceNeg]
      try simp (config := { maxSteps := 10000000 }) only [go_sem, reduceIte, reduceCtorEq, Nat.reduceEqDiff, Nat.reduceLT, Nat.reduceLeDiff, Nat.reduceAdd, Nat.reduceBEq, Nat.reduceMul, Int.reduceToNat, Int.reduceLE, Int.reduceLT, Int.reduceEq, Int.reduceNeg, hml]
      repeat (refine And.intro (by first | omega | (constructor <;> omega) | kernel_rfl) ?_)
      refine LoopK.mk (i + 1) ?_ (by omega) (by omega)
      refine Wk.mk [] ?_
      try simp (config := { maxSteps := 10000000 }) only [go_sem, reduceIte, reduceCtorEq, Nat.reduceEqDiff, Nat.reduceLT, Nat.reduceLeDiff, Nat.reduceAdd, Nat.reduceBEq, Nat.reduceMul, Int.reduceToNat, Int.reduceLE, Int.reduceLT, Int.reduceEq, Int.reduceNeg]
      try (and_intros <;> first | rfl | omega | exact ⟨_, rfl⟩)
      all_goals (rw [e]; exact ⟨by omega, rfl⟩)
    · rw [List.take_of_length_le (by omega)]
      try simp (config := { maxSteps := 10000000 }) only [go_sem, reduceIte, reduceCtorEq, Nat.reduceEqDiff, Nat.reduceLT, Nat.reduceLeDiff, Nat.reduceAdd, Nat.reduceBEq, Nat.reduceMul, Int.reduceToNat, Int.reduceLE, Int.reduceLT, Int.reduceEq, Int.reduceNeg]
/-- The row with a standstill at each turn of the first i steps. -/
def zS (l : List DS) (w : List DR) : Nat → List DR
  | 0 => w
  | i + 1 => if (nth (t := tStep) l i).1 = 0 then zS l w i else ((zS l w i).set i (ratI 0)).set (i + 1) (ratI 0)
theorem zS_len (l : List DS) (w : List DR) (i : Nat) : (zS l w i).length = w.length := by
  induction i with
  | zero => rfl
  | succ i ih =>
    unfold zS
    split
    · exact ih
    · rw [List.length_set, List.length_set, ih]
theorem CN_set {w : List DR} (h : CN w) {i : Nat} (hi : i < w.length) : CN (w.set i (ratI 0)) := fun k hk => by
  rw [List.length_set] at hk
  unfold vl
  rw [nth_set hi]
  split
  · rw [ratI_0, rdO_oD okO_0]
  · exact h k hk
theorem CN_zS {l : List DS} {w : List DR} (h : CN w) (i : Nat) (hi : i < w.length) : CN (zS l w i) := by
  induction i with
  | zero => exact h
  | succ i ih =>
    unfold zS
    split
    · exact ih (by omega)
    · exact CN_set (CN_set (ih (by omega)) (by rw [zS_len]; omega)) (by rw [List.length_set, zS_len]; omega)
/-- The speeds of a motion. -/
noncomputable def msp (p : DS) (l : List DS) (lim a : Int) : List DR := @ite _ (spdOk ((l.length + 1 : Nat) : Int) (List.replicate l.length lim)) (Classical.propDecidable _) (prof (mpL p l) a (zS l (spdL ((l.length + 1 : Nat) : Int) (List.replicate l.length lim) (l.length + 1)) l.length)) []
theorem msp_t {p : DS} {l : List DS} {lim a : Int} (h : spdOk ((l.length + 1 : Nat) : Int) (List.replicate l.length lim)) : msp p l lim a = prof (mpL p l) a (zS l (spdL ((l.length + 1 : Nat) : Int) (List.replicate l.length lim) (l.length + 1)) l.length) := if_pos h
theorem msp_f {p : DS} {l : List DS} {lim a : Int} (h : ¬ spdOk ((l.length + 1 : Nat) : Int) (List.replicate l.length lim)) : msp p l lim a = [] := if_neg h
theorem cn_msp (p : DS) (l : List DS) (lim a : Int) (hl : l.length ≤ 1048576) : cnRatS (msp p l lim a) ≤ 60000000 := by
  by_cases h : spdOk ((l.length + 1 : Nat) : Int) (List.replicate l.length lim)
  · rw [msp_t h]; exact cn_prof (by rw [zS_len, spdL_len]; omega)
  · rw [msp_f h]; exact Nat.zero_le _
/-- No limits: none at all. -/
theorem implSpeedLimits_nil (n : Int) (l : List Int) (h : ¬ spdOk n l) : Fn Tryz.prog 86 [⟨.int, n⟩, ⟨tInts, l⟩] false [⟨.cst .nil, ()⟩] := by
  by_cases h1 : n < 1
  · refine fn_enter tabOK mixes Tryz.func86 rfl rfl _ Tryz.ntmps86 _ Tryz.results86 (by simp) fun hwf => ?_
    try simp (config := { maxSteps := 10000000 }) only [go_sem, reduceIte, reduceCtorEq, Nat.reduceEqDiff, Nat.reduceLT, Nat.reduceLeDiff, Nat.reduceAdd, Nat.reduceBEq, Nat.reduceMul, Int.reduceToNat, Int.reduceLE, Int.reduceLT, Int.reduceEq, Int.reduceNeg, h1]
  by_cases h2 : (l.length : Int) = n - 1
  rotate_left
  · refine fn_enter tabOK mixes Tryz.func86 rfl rfl _ Tryz.ntmps86 _ Tryz.results86 (by simp) fun hwf => ?_
    have hI : I64 n := hwf ⟨.int, n⟩ (by simp)
    have hI2 := hI.2
    try simp (config := { maxSteps := 10000000 }) only [go_sem, reduceIte, reduceCtorEq, Nat.reduceEqDiff, Nat.reduceLT, Nat.reduceLeDiff, Nat.reduceAdd, Nat.reduceBEq, Nat.reduceMul, Int.reduceToNat, Int.reduceLE, Int.reduceLT, Int.reduceEq, Int.reduceNeg, h1, h2]
    all_goals repeat (refine And.intro (by first | omega | (constructor <;> omega) | kernel_rfl) ?_)
    all_goals first | kernel_rfl | omega | rfl
  cases h3 : l.any (fun x => !decide (1 ≤ x ∧ x ≤ 1000))
  · exact absurd ⟨by omega, h2, fun x hx => by
      rw [List.any_eq_false] at h3
      have := h3 x hx
      simpa using this⟩ h
  · refine fn_enter tabOK mixes Tryz.func86 rfl rfl _ Tryz.ntmps86 _ Tryz.results86 (by simp) fun hwf => ?_
    have hI : I64 n := hwf ⟨.int, n⟩ (by simp)
    have hI2 := hI.2
    have hi : I64 (n - 1) := by constructor <;> omega
    try simp (config := { maxSteps := 10000000 }) only [go_sem, reduceIte, reduceCtorEq, Nat.reduceEqDiff, Nat.reduceLT, Nat.reduceLeDiff, Nat.reduceAdd, Nat.reduceBEq, Nat.reduceMul, Int.reduceToNat, Int.reduceLE, Int.reduceLT, Int.reduceEq, Int.reduceNeg, h1, h2]
    repeat (refine And.intro (by first | omega | (constructor <;> omega) | kernel_rfl) ?_)
    refine CallW.mk (containsFunc_int_fn _ _ speedC_fn l) ?_
    try simp (config := { maxSteps := 10000000 }) only [go_sem, reduceIte, reduceCtorEq, Nat.reduceEqDiff, Nat.reduceLT, Nat.reduceLeDiff, Nat.reduceAdd, Nat.reduceBEq, Nat.reduceMul, Int.reduceToNat, Int.reduceLE, Int.reduceLT, Int.reduceEq, Int.reduceNeg]
    try simp (config := { maxSteps := 10000000 }) only [go_sem, reduceIte, reduceCtorEq, Nat.reduceEqDiff, Nat.reduceLT, Nat.reduceLeDiff, Nat.reduceAdd, Nat.reduceBEq, Nat.reduceMul, Int.reduceToNat, Int.reduceLE, Int.reduceLT, Int.reduceEq, Int.reduceNeg, h3]
theorem specSpeedLimits_nil (n : Int) (l : List Int) (h : ¬ spdOk n l) : Fn Tryz.prog 84 [⟨.int, n⟩, ⟨tInts, l⟩] false [⟨.cst .nil, ()⟩] := by
  by_cases h1 : n < 1
  · refine fn_enter tabOK mixes Tryz.func84 rfl rfl _ Tryz.ntmps84 _ Tryz.results84 (by simp) fun hwf => ?_
    try simp (config := { maxSteps := 10000000 }) only [go_sem, reduceIte, reduceCtorEq, Nat.reduceEqDiff, Nat.reduceLT, Nat.reduceLeDiff, Nat.reduceAdd, Nat.reduceBEq, Nat.reduceMul, Int.reduceToNat, Int.reduceLE, Int.reduceLT, Int.reduceEq, Int.reduceNeg, h1]
  by_cases h2 : (l.length : Int) = n - 1
  rotate_left
  · refine fn_enter tabOK mixes Tryz.func84 rfl rfl _ Tryz.ntmps84 _ Tryz.results84 (by simp) fun hwf => ?_
    have hI : I64 n := hwf ⟨.int, n⟩ (by simp)
    have hI2 := hI.2
    try simp (config := { maxSteps := 10000000 }) only [go_sem, reduceIte, reduceCtorEq, Nat.reduceEqDiff, Nat.reduceLT, Nat.reduceLeDiff, Nat.reduceAdd, Nat.reduceBEq, Nat.reduceMul, Int.reduceToNat, Int.reduceLE, Int.reduceLT, Int.reduceEq, Int.reduceNeg, h1, h2]
    all_goals repeat (refine And.intro (by first | omega | (constructor <;> omega) | kernel_rfl) ?_)
    all_goals first | kernel_rfl | omega | rfl
  refine fn_enter tabOK mixes Tryz.func84 rfl rfl _ Tryz.ntmps84 _ Tryz.results84 (by simp) fun hwf => ?_
  have hI : I64 n := hwf ⟨.int, n⟩ (by simp)
  have hI2 := hI.2
  have hi : I64 (n - 1) := by constructor <;> omega
  try simp (config := { maxSteps := 10000000 }) only [go_sem, reduceIte, reduceCtorEq, Nat.reduceEqDiff, Nat.reduceLT, Nat.reduceLeDiff, Nat.reduceAdd, Nat.reduceBEq, Nat.reduceMul, Int.reduceToNat, Int.reduceLE, Int.reduceLT, Int.reduceEq, Int.reduceNeg, h1, h2]
  repeat (refine And.intro (by first | omega | (constructor <;> omega) | kernel_rfl) ?_)
  refine LoopG.intro _ _ _ (fun i : Nat => ⟨[(0, .sc (.int .i64 n)), (1, .sl .int l), (19, .sl .int l), (20, .sc (.int .i64 (n - 1))), (21, .sc (.int .i64 i))], []⟩) (fun i => i ≤ l.length ∧ ∀ j < i, 1 ≤ ni l j ∧ ni l j ≤ 1000) (fun i => l.length - i) 0 ?_ ⟨Nat.zero_le _, fun j h => by omega⟩ ?_
  · refine Wk.mk [] ?_
    try simp (config := { maxSteps := 10000000 }) only [go_sem, reduceIte, reduceCtorEq, Nat.reduceEqDiff, Nat.reduceLT, Nat.reduceLeDiff, Nat.reduceAdd, Nat.reduceBEq, Nat.reduceMul, Int.reduceToNat, Int.reduceLE, Int.reduceLT, Int.reduceEq, Int.reduceNeg]
    try (and_intros <;> first | rfl | omega | exact ⟨_, rfl⟩)
  · rintro j ⟨g1, g2⟩
    try simp (config := { maxSteps := 10000000 }) only [go_sem, reduceIte, reduceCtorEq, Nat.reduceEqDiff, Nat.reduceLT, Nat.reduceLeDiff, Nat.reduceAdd, Nat.reduceBEq, Nat.reduceMul, Int.reduceToNat, Int.reduceLE, Int.reduceLT, Int.reduceEq, Int.reduceNeg]
    refine CondW_dec (fun hA => ?_) (fun hA => ?_)
    · try simp (config := { maxSteps := 10000000 }) only [go_sem, reduceIte, reduceCtorEq, Nat.reduceEqDiff, Nat.reduceLT, Nat.reduceLeDiff, Nat.reduceAdd, Nat.reduceBEq, Nat.reduceMul, Int.reduceToNat, Int.reduceLE, Int.reduceLT, Int.reduceEq, Int.reduceNeg]
      repeat (refine And.intro (by first | omega | (constructor <;> omega) | kernel_rfl) ?_)
      repeat (refine And.intro (by first | omega | (constructor <;> omega) | kernel_rfl) ?_)
      refine CallW.mk (l01In_fn (ni l j) 1 1000) ?_
      try simp (config := { maxSteps := 10000000 }) only [go_sem, reduceIte, reduceCtorEq, Nat.reduceEqDiff, Nat.reduceLT, Nat.reduceLeDiff, Nat.reduceAdd, Nat.reduceBEq, Nat.reduceMul, Int.reduceToNat, Int.reduceLE, Int.reduceLT, Int.reduceEq, Int.reduceNeg]
      refine CondW_not (fun hB => ?_) (fun hB => ?_)
      · try simp (config := { maxSteps := 10000000 }) only [go_sem, reduceIte, reduceCtorEq, Nat.reduceEqDiff, Nat.reduceLT, Nat.reduceLeDiff, Nat.reduceAdd, Nat.reduceBEq, Nat.reduceMul, Int.reduceToNat, Int.reduceLE, Int.reduceLT, Int.reduceEq, Int.reduceNeg]
      · try simp (config := { maxSteps := 10000000 }) only [go_sem, reduceIte, reduceCtorEq, Nat.reduceEqDiff, Nat.reduceLT, Nat.reduceLeDiff, Nat.reduceAdd, Nat.reduceBEq, Nat.reduceMul, Int.reduceToNat, Int.reduceLE, Int.reduceLT, Int.reduceEq, Int.reduceNeg]
        repeat (refine And.intro (by first | omega | (constructor <;> omega) | kernel_rfl) ?_)
        refine LoopK.mk (j + 1) ?_ ⟨by omega, fun q hq => ?_⟩ (by omega)
        · refine Wk.mk [] ?_
          try simp (config := { maxSteps := 10000000 }) only [go_sem, reduceIte, reduceCtorEq, Nat.reduceEqDiff, Nat.reduceLT, Nat.reduceLeDiff, Nat.reduceAdd, Nat.reduceBEq, Nat.reduceMul, Int.reduceToNat, Int.reduceLE, Int.reduceLT, Int.reduceEq, Int.reduceNeg]
          try (and_intros <;> first | rfl | omega | exact ⟨_, rfl⟩)
        · by_cases hqj : q < j
          · exact g2 q hqj
          · rw [show q = j by omega]; exact hB
    · exact absurd ⟨by omega, h2, fun x hx => by
        obtain ⟨q, hq, rfl⟩ := List.getElem_of_mem hx
        rw [← ni_lt hq]; exact g2 q (by omega)⟩ h
end Go.Proofs.YtgffgcpcjpjfgaaGreat.DW

/-
  Speeds of a motion, the program's.
-/
namespace Go.Proofs.YtgffgcpcjpjfgaaGreat.DW
open Go.RowKit
theorem implMotionSpeeds_fn (p : DS) (l : List DS) (lim a : Int) (hp : szP p.2) (hl : ∀ x ∈ l, szP x.2) (hn : l.length ≤ 1048576) : Fn Tryz.prog 43 [⟨tStep, p⟩, ⟨.slice tStep, l⟩, ⟨.int, lim⟩, ⟨.int, a⟩] true [⟨.slice tRat, msp p l lim a⟩] := by
  have c1 := implMotionPoints_fn p l hp hl hn
  have c2 := repeat_fn lim l.length hn
  have hml := mpL_len p l
  by_cases hok : spdOk ((l.length + 1 : Nat) : Int) (List.replicate l.length lim)
  · have cG := implSpeedLimitsG ((l.length + 1 : Nat) : Int) (List.replicate l.length lim) (by rw [List.length_replicate]; omega) hok
    have hnn : (((l.length + 1 : Nat) : Int)).toNat = l.length + 1 := by omega
    rw [hnn] at cG
    rw [← hml] at cG
    rw [msp_t hok]
    have hcn := CN_spd hok (l.length + 1)
    have hsl := spdL_len ((l.length + 1 : Nat) : Int) (List.replicate l.length lim) (l.length + 1)
    rw [← hml] at hcn hsl ⊢
    generalize hw0 : spdL (((mpL p l).length : Nat) : Int) (List.replicate l.length lim) (mpL p l).length = w0 at cG hcn hsl ⊢
    have cB := implProfile_fb false (mpL p l) a (zS l w0 l.length) (by rw [zS_len, hsl]) (by omega) (by omega) (CN_zS hcn _ (by omega))
    refine fn_tail tabOK Tryz.func43 rfl rfl _ Tryz.ntmps43 _ Tryz.results43 (by simp) fun hwf => ?_
    refine TW.seq tabOK mixes ?_
    try simp (config := { maxSteps := 10000000 }) only [go_sem, reduceIte, reduceCtorEq, Nat.reduceEqDiff, Nat.reduceLT, Nat.reduceLeDiff, Nat.reduceAdd, Nat.reduceBEq, Nat.reduceMul, Int.reduceToNat, Int.reduceLE, Int.reduceLT, Int.reduceEq, Int.reduceNeg]
    refine TW.seq tabOK mixes ?_
    try simp (config := { maxSteps := 10000000 }) only [go_sem, reduceIte, reduceCtorEq, Nat.reduceEqDiff, Nat.reduceLT, Nat.reduceLeDiff, Nat.reduceAdd, Nat.reduceBEq, Nat.reduceMul, Int.reduceToNat, Int.reduceLE, Int.reduceLT, Int.reduceEq, Int.reduceNeg]
    repeat (refine And.intro (by first | omega | (constructor <;> omega) | kernel_rfl) ?_)
    refine CallW.mk (c1) ?_
    try simp (config := { maxSteps := 10000000 }) only [go_sem, reduceIte, reduceCtorEq, Nat.reduceEqDiff, Nat.reduceLT, Nat.reduceLeDiff, Nat.reduceAdd, Nat.reduceBEq, Nat.reduceMul, Int.reduceToNat, Int.reduceLE, Int.reduceLT, Int.reduceEq, Int.reduceNeg]
    refine TW.seq tabOK mixes ?_
    try simp (config := { maxSteps := 10000000 }) only [go_sem, reduceIte, reduceCtorEq, Nat.reduceEqDiff, Nat.reduceLT, Nat.reduceLeDiff, Nat.reduceAdd, Nat.reduceBEq, Nat.reduceMul, Int.reduceToNat, Int.reduceLE, Int.reduceLT, Int.reduceEq, Int.reduceNeg]
    repeat (refine And.intro (by first | omega | (constructor <;> omega) | kernel_rfl) ?_)
    refine CallW.mk (c2) ?_
    try simp (config := { maxSteps := 10000000 }) only [go_sem, reduceIte, reduceCtorEq, Nat.reduceEqDiff, Nat.reduceLT, Nat.reduceLeDiff, Nat.reduceAdd, Nat.reduceBEq, Nat.reduceMul, Int.reduceToNat, Int.reduceLE, Int.reduceLT, Int.reduceEq, Int.reduceNeg]
    repeat (refine And.intro (by first | omega | (constructor <;> omega) | kernel_rfl) ?_)
    refine CallW.g (cG) ?_
    try simp (config := { maxSteps := 10000000 }) only [go_sem, reduceIte, reduceCtorEq, Nat.reduceEqDiff, Nat.reduceLT, Nat.reduceLeDiff, Nat.reduceAdd, Nat.reduceBEq, Nat.reduceMul, Int.reduceToNat, Int.reduceLE, Int.reduceLT, Int.reduceEq, Int.reduceNeg]
    refine TW.seq tabOK mixes ?_
    try simp (config := { maxSteps := 10000000 }) only [go_sem, reduceIte, reduceCtorEq, Nat.reduceEqDiff, Nat.reduceLT, Nat.reduceLeDiff, Nat.reduceAdd, Nat.reduceBEq, Nat.reduceMul, Int.reduceToNat, Int.reduceLE, Int.reduceLT, Int.reduceEq, Int.reduceNeg]
    refine LoopG.intro _ _ _ (fun i : Nat => ⟨[(3, .sc (.int .i64 a)), (9, .sl tPoint (mpL p l)), (10, .row 4 0), (24, .sl tStep l), (25, .sc (.int .i64 l.length)), (26, .sc (.int .i64 i))], [(4, .row 36 tRat 0 false (zS l w0 i))]⟩) (fun i => i ≤ l.length) (fun i => l.length - i) 0 ?_ (Nat.zero_le _) ?_
    · refine Wk.mk [] ?_
      try simp (config := { maxSteps := 10000000 }) only [go_sem, reduceIte, reduceCtorEq, Nat.reduceEqDiff, Nat.reduceLT, Nat.reduceLeDiff, Nat.reduceAdd, Nat.reduceBEq, Nat.reduceMul, Int.reduceToNat, Int.reduceLE, Int.reduceLT, Int.reduceEq, Int.reduceNeg]
      try (and_intros <;> first | rfl | omega | exact ⟨_, rfl⟩)
    · rintro i hi
      have hzl := zS_len l w0 i
      try simp (config := { maxSteps := 10000000 }) only [go_sem, reduceIte, reduceCtorEq, Nat.reduceEqDiff, Nat.reduceLT, Nat.reduceLeDiff, Nat.reduceAdd, Nat.reduceBEq, Nat.reduceMul, Int.reduceToNat, Int.reduceLE, Int.reduceLT, Int.reduceEq, Int.reduceNeg]
      refine CondW_dec (fun hA => ?_) (fun hA => ?_)
      · by_cases h0 : (nth (t := tStep) l i).1 = 0
        · have d0 := decide_eq_true h0
          have hst : zS l w0 (i + 1) = zS l w0 i := if_pos h0
          try simp (config := { maxSteps := 10000000 }) only [go_sem, reduceIte, reduceCtorEq, Nat.reduceEqDiff, Nat.reduceLT, Nat.reduceLeDiff, Nat.reduceAdd, Nat.reduceBEq, Nat.reduceMul, Int.reduceToNat, Int.reduceLE, Int.reduceLT, Int.reduceEq, Int.reduceNeg]
          repeat (refine And.intro (by first | omega | (constructor <;> omega) | kernel_rfl) ?_)
          try simp (config := { maxSteps := 10000000 }) only [go_sem, reduceIte, reduceCtorEq, Nat.reduceEqDiff, Nat.reduceLT, Nat.reduceLeDiff, Nat.reduceAdd, Nat.reduceBEq, Nat.reduceMul, Int.reduceToNat, Int.reduceLE, Int.reduceLT, Int.reduceEq, Int.reduceNeg, d0]
          repeat (refine And.intro (by first | omega | (constructor <;> omega) | kernel_rfl) ?_)
          refine LoopK.mk (i + 1) ?_ (by omega) (by omega)
          rw [hst]
          refine Wk.mk [] ?_
          try simp (config := { maxSteps := 10000000 }) only [go_sem, reduceIte, reduceCtorEq, Nat.reduceEqDiff, Nat.reduceLT, Nat.reduceLeDiff, Nat.reduceAdd, Nat.reduceBEq, Nat.reduceMul, Int.reduceToNat, Int.reduceLE, Int.reduceLT, Int.reduceEq, Int.reduceNeg]
          try (and_intros <;> first | rfl | omega | exact ⟨_, rfl⟩)
        · have d0 := decide_eq_false h0
          have hst : zS l w0 (i + 1) = ((zS l w0 i).set i (ratI 0)).set (i + 1) (ratI 0) := if_neg h0
          generalize zS l w0 i = W at hst hzl ⊢
          try simp (config := { maxSteps := 10000000 }) only [go_sem, reduceIte, reduceCtorEq, Nat.reduceEqDiff, Nat.reduceLT, Nat.reduceLeDiff, Nat.reduceAdd, Nat.reduceBEq, Nat.reduceMul, Int.reduceToNat, Int.reduceLE, Int.reduceLT, Int.reduceEq, Int.reduceNeg]
          repeat (refine And.intro (by first | omega | (constructor <;> omega) | kernel_rfl) ?_)
          try simp (config := { maxSteps := 10000000 }) only [go_sem, reduceIte, reduceCtorEq, Nat.reduceEqDiff, Nat.reduceLT, Nat.reduceLeDiff, Nat.reduceAdd, Nat.reduceBEq, Nat.reduceMul, Int.reduceToNat, Int.reduceLE, Int.reduceLT, Int.reduceEq, Int.reduceNeg, d0]
          refine NilW.non (by intro e; rw [e] at hzl; simp at hzl; omega) ?_
          have e1 : ((i : Int) + 1).toNat = i + 1 := by omega
          have cz := ratInt_fn 0
          try simp (config := { maxSteps := 10000000 }) only [go_sem, reduceIte, reduceCtorEq, Nat.reduceEqDiff, Nat.reduceLT, Nat.reduceLeDiff, Nat.reduceAdd, Nat.reduceBEq, Nat.reduceMul, Int.reduceToNat, Int.reduceLE, Int.reduceLT, Int.reduceEq, Int.reduceNeg]
          repeat (refine And.intro (by first | omega | (constructor <;> omega) | kernel_rfl) ?_)
          repeat (refine And.intro (by first | omega | (constructor <;> omega) | kernel_rfl) ?_)
          refine CallW.mk (cz) ?_
          try simp (config := { maxSteps := 10000000 }) only [go_sem, reduceIte, reduceCtorEq, Nat.reduceEqDiff, Nat.reduceLT, Nat.reduceLeDiff, Nat.reduceAdd, Nat.reduceBEq, Nat.reduceMul, Int.reduceToNat, Int.reduceLE, Int.reduceLT, Int.reduceEq, Int.reduceNeg]
          repeat (refine And.intro (by first | omega | (constructor <;> omega) | kernel_rfl) ?_)
          refine CallW.mk (cz) ?_
          try simp (config := { maxSteps := 10000000 }) only [go_sem, reduceIte, reduceCtorEq, Nat.reduceEqDiff, Nat.reduceLT, Nat.reduceLeDiff, Nat.reduceAdd, Nat.reduceBEq, Nat.reduceMul, Int.reduceToNat, Int.reduceLE, Int.reduceLT, Int.reduceEq, Int.reduceNeg]
          repeat (refine And.intro (by first | omega | (constructor <;> omega) | kernel_rfl) ?_)
          try simp (config := { maxSteps := 10000000 }) only [go_sem, reduceIte, reduceCtorEq, Nat.reduceEqDiff, Nat.reduceLT, Nat.reduceLeDiff, Nat.reduceAdd, Nat.reduceBEq, Nat.reduceMul, Int.reduceToNat, Int.reduceLE, Int.reduceLT, Int.reduceEq, Int.reduceNeg, List.length_set]
          repeat (refine And.intro (by first | omega | (constructor <;> omega) | kernel_rfl) ?_)
          refine LoopK.mk (i + 1) ?_ (by omega) (by omega)
          rw [hst]
          refine Wk.mk [] ?_
          try simp (config := { maxSteps := 10000000 }) only [go_sem, reduceIte, reduceCtorEq, Nat.reduceEqDiff, Nat.reduceLT, Nat.reduceLeDiff, Nat.reduceAdd, Nat.reduceBEq, Nat.reduceMul, Int.reduceToNat, Int.reduceLE, Int.reduceLT, Int.reduceEq, Int.reduceNeg]
          try (and_intros <;> first | rfl | omega | exact ⟨_, rfl⟩)
          all_goals (rw [e1]; exact ⟨rfl, rfl⟩)
      · rw [show i = l.length by omega]
        try simp (config := { maxSteps := 10000000 }) only [go_sem, reduceIte, reduceCtorEq, Nat.reduceEqDiff, Nat.reduceLT, Nat.reduceLeDiff, Nat.reduceAdd, Nat.reduceBEq, Nat.reduceMul, Int.reduceToNat, Int.reduceLE, Int.reduceLT, Int.reduceEq, Int.reduceNeg]
        refine TW.then tabOK mixes ?_
        refine TW.tail (own := true) (r := ⟨.slice tRat, prof (mpL p l) a (zS l w0 l.length)⟩) tabOK 3 rfl ?_
        try simp (config := { maxSteps := 10000000 }) only [go_sem, reduceIte, reduceCtorEq, Nat.reduceEqDiff, Nat.reduceLT, Nat.reduceLeDiff, Nat.reduceAdd, Nat.reduceBEq, Nat.reduceMul, Int.reduceToNat, Int.reduceLE, Int.reduceLT, Int.reduceEq, Int.reduceNeg]
        refine ⟨⟨[(48, .sl tPoint (mpL p l)), (49, .row 0 0), (50, .sc (.int .i64 a))], [(0, .row 36 tRat 0 false (zS l w0 l.length))]⟩, [.sl tPoint (mpL p l), .row 0 0, .sc (.int .i64 a)], ?_, rfl, rfl, cB, by omega, ?_⟩
        · refine Wk.mk [(0, 4)] ?_
          try simp (config := { maxSteps := 10000000 }) only [go_sem, reduceIte, reduceCtorEq, Nat.reduceEqDiff, Nat.reduceLT, Nat.reduceLeDiff, Nat.reduceAdd, Nat.reduceBEq, Nat.reduceMul, Int.reduceToNat, Int.reduceLE, Int.reduceLT, Int.reduceEq, Int.reduceNeg]
        · try simp (config := { maxSteps := 10000000 }) only [go_sem, reduceIte, reduceCtorEq, Nat.reduceEqDiff, Nat.reduceLT, Nat.reduceLeDiff, Nat.reduceAdd, Nat.reduceBEq, Nat.reduceMul, Int.reduceToNat, Int.reduceLE, Int.reduceLT, Int.reduceEq, Int.reduceNeg, resV, resM']
          all_goals repeat (refine And.intro (by first | omega | (constructor <;> omega) | kernel_rfl) ?_)
          all_goals first | kernel_rfl | omega | rfl
  · rw [msp_f hok]
    have c3 := implSpeedLimits_nil ((l.length + 1 : Nat) : Int) (List.replicate l.length lim) hok
    rw [← hml] at c3
    have c4 := implProfile_nil (mpL p l) a
    refine fn_enter tabOK mixes Tryz.func43 rfl rfl _ Tryz.ntmps43 _ Tryz.results43 (by simp) fun hwf => ?_
    try simp (config := { maxSteps := 10000000 }) only [go_sem, reduceIte, reduceCtorEq, Nat.reduceEqDiff, Nat.reduceLT, Nat.reduceLeDiff, Nat.reduceAdd, Nat.reduceBEq, Nat.reduceMul, Int.reduceToNat, Int.reduceLE, Int.reduceLT, Int.reduceEq, Int.reduceNeg]
    repeat (refine And.intro (by first | omega | (constructor <;> omega) | kernel_rfl) ?_)
    refine CallW.mk (c1) ?_
    try simp (config := { maxSteps := 10000000 }) only [go_sem, reduceIte, reduceCtorEq, Nat.reduceEqDiff, Nat.reduceLT, Nat.reduceLeDiff, Nat.reduceAdd, Nat.reduceBEq, Nat.reduceMul, Int.reduceToNat, Int.reduceLE, Int.reduceLT, Int.reduceEq, Int.reduceNeg]
    repeat (refine And.intro (by first | omega | (constructor <;> omega) | kernel_rfl) ?_)
    refine CallW.mk (c2) ?_
    try simp (config := { maxSteps := 10000000 }) only [go_sem, reduceIte, reduceCtorEq, Nat.reduceEqDiff, Nat.reduceLT, Nat.reduceLeDiff, Nat.reduceAdd, Nat.reduceBEq, Nat.reduceMul, Int.reduceToNat, Int.reduceLE, Int.reduceLT, Int.reduceEq, Int.reduceNeg]
    repeat (refine And.intro (by first | omega | (constructor <;> omega) | kernel_rfl) ?_)
    refine CallW.mk (c3) ?_
    try simp (config := { maxSteps := 10000000 }) only [go_sem, reduceIte, reduceCtorEq, Nat.reduceEqDiff, Nat.reduceLT, Nat.reduceLeDiff, Nat.reduceAdd, Nat.reduceBEq, Nat.reduceMul, Int.reduceToNat, Int.reduceLE, Int.reduceLT, Int.reduceEq, Int.reduceNeg]
    refine LoopG.intro _ _ _ (fun i : Nat => ⟨[(3, .sc (.int .i64 a)), (9, .sl tPoint (mpL p l)), (10, .sc (.slice none 0 0)), (24, .sl tStep l), (25, .sc (.int .i64 l.length)), (26, .sc (.int .i64 i))], []⟩) (fun i => i ≤ l.length) (fun i => l.length - i) 0 ?_ (Nat.zero_le _) ?_
    · refine Wk.mk [] ?_
      try simp (config := { maxSteps := 10000000 }) only [go_sem, reduceIte, reduceCtorEq, Nat.reduceEqDiff, Nat.reduceLT, Nat.reduceLeDiff, Nat.reduceAdd, Nat.reduceBEq, Nat.reduceMul, Int.reduceToNat, Int.reduceLE, Int.reduceLT, Int.reduceEq, Int.reduceNeg]
      try (and_intros <;> first | rfl | omega | exact ⟨_, rfl⟩)
    · rintro i hi
      try simp (config := { maxSteps := 10000000 }) only [go_sem, reduceIte, reduceCtorEq, Nat.reduceEqDiff, Nat.reduceLT, Nat.reduceLeDiff, Nat.reduceAdd, Nat.reduceBEq, Nat.reduceMul, Int.reduceToNat, Int.reduceLE, Int.reduceLT, Int.reduceEq, Int.reduceNeg]
      refine CondW_dec (fun hA => ?_) (fun hA => ?_)
      · by_cases h0 : (nth (t := tStep) l i).1 = 0
        · have d0 := decide_eq_true h0
          try simp (config := { maxSteps := 10000000 }) only [go_sem, reduceIte, reduceCtorEq, Nat.reduceEqDiff, Nat.reduceLT, Nat.reduceLeDiff, Nat.reduceAdd, Nat.reduceBEq, Nat.reduceMul, Int.reduceToNat, Int.reduceLE, Int.reduceLT, Int.reduceEq, Int.reduceNeg]
          repeat (refine And.intro (by first | omega | (constructor <;> omega) | kernel_rfl) ?_)
          try simp (config := { maxSteps := 10000000 }) only [go_sem, reduceIte, reduceCtorEq, Nat.reduceEqDiff, Nat.reduceLT, Nat.reduceLeDiff, Nat.reduceAdd, Nat.reduceBEq, Nat.reduceMul, Int.reduceToNat, Int.reduceLE, Int.reduceLT, Int.reduceEq, Int.reduceNeg, d0]
          repeat (refine And.intro (by first | omega | (constructor <;> omega) | kernel_rfl) ?_)
          refine LoopK.mk (i + 1) ?_ (by omega) (by omega)
          refine Wk.mk [] ?_
          try simp (config := { maxSteps := 10000000 }) only [go_sem, reduceIte, reduceCtorEq, Nat.reduceEqDiff, Nat.reduceLT, Nat.reduceLeDiff, Nat.reduceAdd, Nat.reduceBEq, Nat.reduceMul, Int.reduceToNat, Int.reduceLE, Int.reduceLT, Int.reduceEq, Int.reduceNeg]
          try (and_intros <;> first | rfl | omega | exact ⟨_, rfl⟩)
        · have d0 := decide_eq_false h0
          try simp (config := { maxSteps := 10000000 }) only [go_sem, reduceIte, reduceCtorEq, Nat.reduceEqDiff, Nat.reduceLT, Nat.reduceLeDiff, Nat.reduceAdd, Nat.reduceBEq, Nat.reduceMul, Int.reduceToNat, Int.reduceLE, Int.reduceLT, Int.reduceEq, Int.reduceNeg]
          repeat (refine And.intro (by first | omega | (constructor <;> omega) | kernel_rfl) ?_)
          try simp (config := { maxSteps := 10000000 }) only [go_sem, reduceIte, reduceCtorEq, Nat.reduceEqDiff, Nat.reduceLT, Nat.reduceLeDiff, Nat.reduceAdd, Nat.reduceBEq, Nat.reduceMul, Int.reduceToNat, Int.reduceLE, Int.reduceLT, Int.reduceEq, Int.reduceNeg, d0]
          repeat (refine And.intro (by first | omega | (constructor <;> omega) | kernel_rfl) ?_)
          refine LoopK.mk (i + 1) ?_ (by omega) (by omega)
          refine Wk.mk [] ?_
          try simp (config := { maxSteps := 10000000 }) only [go_sem, reduceIte, reduceCtorEq, Nat.reduceEqDiff, Nat.reduceLT, Nat.reduceLeDiff, Nat.reduceAdd, Nat.reduceBEq, Nat.reduceMul, Int.reduceToNat, Int.reduceLE, Int.reduceLT, Int.reduceEq, Int.reduceNeg]
          try (and_intros <;> first | rfl | omega | exact ⟨_, rfl⟩)
      · try simp (config := { maxSteps := 10000000 }) only [go_sem, reduceIte, reduceCtorEq, Nat.reduceEqDiff, Nat.reduceLT, Nat.reduceLeDiff, Nat.reduceAdd, Nat.reduceBEq, Nat.reduceMul, Int.reduceToNat, Int.reduceLE, Int.reduceLT, Int.reduceEq, Int.reduceNeg]
        repeat (refine And.intro (by first | omega | (constructor <;> omega) | kernel_rfl) ?_)
        refine CallW.mk (c4) ?_
        try simp (config := { maxSteps := 10000000 }) only [go_sem, reduceIte, reduceCtorEq, Nat.reduceEqDiff, Nat.reduceLT, Nat.reduceLeDiff, Nat.reduceAdd, Nat.reduceBEq, Nat.reduceMul, Int.reduceToNat, Int.reduceLE, Int.reduceLT, Int.reduceEq, Int.reduceNeg]
        all_goals repeat (refine And.intro (by first | omega | (constructor <;> omega) | kernel_rfl) ?_)
        all_goals first | kernel_rfl | omega | rfl
end Go.Proofs.YtgffgcpcjpjfgaaGreat.DW

/-
  Speeds of a motion, the reference's.
-/
namespace Go.Proofs.YtgffgcpcjpjfgaaGreat.DW
open Go.RowKit
theorem specMotionSpeeds_fn (p : DS) (l : List DS) (lim a : Int) (hp : szP p.2) (hl : ∀ x ∈ l, szP x.2) (hn : l.length ≤ 1048576) : Fn Tryz.prog 42 [⟨tStep, p⟩, ⟨.slice tStep, l⟩, ⟨.int, lim⟩, ⟨.int, a⟩] false [⟨.slice tRat, msp p l lim a⟩] := by
  have c1 := specMotionPoints_fn p l hp hl hn
  have hml := mpL_len p l
  by_cases hok : spdOk ((l.length + 1 : Nat) : Int) (List.replicate l.length lim)
  · have cG := specSpeedLimitsG ((l.length + 1 : Nat) : Int) (List.replicate l.length lim) (by rw [List.length_replicate]; omega) hok
    have hnn : (((l.length + 1 : Nat) : Int)).toNat = l.length + 1 := by omega
    rw [hnn] at cG
    rw [← hml] at cG
    rw [msp_t hok]
    have hcn := CN_spd hok (l.length + 1)
    have hsl := spdL_len ((l.length + 1 : Nat) : Int) (List.replicate l.length lim) (l.length + 1)
    rw [← hml] at hcn hsl ⊢
    generalize hw0 : spdL (((mpL p l).length : Nat) : Int) (List.replicate l.length lim) (mpL p l).length = w0 at cG hcn hsl ⊢
    have cB := specProfile_fb false (mpL p l) a (zS l w0 l.length) (by rw [zS_len, hsl]) (by omega) (by omega) (CN_zS hcn _ (by omega))
    refine fn_tail tabOK Tryz.func42 rfl rfl _ Tryz.ntmps42 _ Tryz.results42 (by simp) fun hwf => ?_
    refine TW.seq tabOK mixes ?_
    try simp (config := { maxSteps := 10000000 }) only [go_sem, reduceIte, reduceCtorEq, Nat.reduceEqDiff, Nat.reduceLT, Nat.reduceLeDiff, Nat.reduceAdd, Nat.reduceBEq, Nat.reduceMul, Int.reduceToNat, Int.reduceLE, Int.reduceLT, Int.reduceEq, Int.reduceNeg]
    refine TW.seq tabOK mixes ?_
    try simp (config := { maxSteps := 10000000 }) only [go_sem, reduceIte, reduceCtorEq, Nat.reduceEqDiff, Nat.reduceLT, Nat.reduceLeDiff, Nat.reduceAdd, Nat.reduceBEq, Nat.reduceMul, Int.reduceToNat, Int.reduceLE, Int.reduceLT, Int.reduceEq, Int.reduceNeg]
    repeat (refine And.intro (by first | omega | (constructor <;> omega) | kernel_rfl) ?_)
    refine CallW.mk (c1) ?_
    try simp (config := { maxSteps := 10000000 }) only [go_sem, reduceIte, reduceCtorEq, Nat.reduceEqDiff, Nat.reduceLT, Nat.reduceLeDiff, Nat.reduceAdd, Nat.reduceBEq, Nat.reduceMul, Int.reduceToNat, Int.reduceLE, Int.reduceLT, Int.reduceEq, Int.reduceNeg]
    refine TW.seq tabOK mixes ?_
    try simp (config := { maxSteps := 10000000 }) only [go_sem, reduceIte, reduceCtorEq, Nat.reduceEqDiff, Nat.reduceLT, Nat.reduceLeDiff, Nat.reduceAdd, Nat.reduceBEq, Nat.reduceMul, Int.reduceToNat, Int.reduceLE, Int.reduceLT, Int.reduceEq, Int.reduceNeg]
    refine TW.seq tabOK mixes ?_
    try simp (config := { maxSteps := 10000000 }) only [go_sem, reduceIte, reduceCtorEq, Nat.reduceEqDiff, Nat.reduceLT, Nat.reduceLeDiff, Nat.reduceAdd, Nat.reduceBEq, Nat.reduceMul, Int.reduceToNat, Int.reduceLE, Int.reduceLT, Int.reduceEq, Int.reduceNeg]
    refine LoopG.intro _ _ _ (fun i : Nat => ⟨[(1, .sl tStep l), (2, .sc (.int .i64 lim)), (3, .sc (.int .i64 a)), (9, .sl tPoint (mpL p l)), (10, .row 0 0), (19, .sc (.int .i64 l.length)), (20, .sc (.int .i64 i))], [(0, .row 3 .int 0 true (List.replicate i lim))]⟩) (fun i => i ≤ l.length) (fun i => l.length - i) 0 ?_ (Nat.zero_le _) ?_
    · refine Wk.mk [(0, 2)] ?_
      try simp (config := { maxSteps := 10000000 }) only [go_sem, reduceIte, reduceCtorEq, Nat.reduceEqDiff, Nat.reduceLT, Nat.reduceLeDiff, Nat.reduceAdd, Nat.reduceBEq, Nat.reduceMul, Int.reduceToNat, Int.reduceLE, Int.reduceLT, Int.reduceEq, Int.reduceNeg]
      try (and_intros <;> first | rfl | omega | exact ⟨_, rfl⟩)
    · rintro i hi
      try simp (config := { maxSteps := 10000000 }) only [go_sem, reduceIte, reduceCtorEq, Nat.reduceEqDiff, Nat.reduceLT, Nat.reduceLeDiff, Nat.reduceAdd, Nat.reduceBEq, Nat.reduceMul, Int.reduceToNat, Int.reduceLE, Int.reduceLT, Int.reduceEq, Int.reduceNeg, List.length_replicate]
      refine CondW_dec (fun hA => ?_) (fun hA => ?_)
      · have hst : List.replicate (i + 1) lim = List.replicate i lim ++ [lim] := List.replicate_succ'
        try simp (config := { maxSteps := 10000000 }) only [go_sem, reduceIte, reduceCtorEq, Nat.reduceEqDiff, Nat.reduceLT, Nat.reduceLeDiff, Nat.reduceAdd, Nat.reduceBEq, Nat.reduceMul, Int.reduceToNat, Int.reduceLE, Int.reduceLT, Int.reduceEq, Int.reduceNeg, List.length_replicate]
        repeat (refine And.intro (by first | omega | (constructor <;> omega) | kernel_rfl) ?_)
        try simp (config := { maxSteps := 10000000 }) only [go_sem, reduceIte, reduceCtorEq, Nat.reduceEqDiff, Nat.reduceLT, Nat.reduceLeDiff, Nat.reduceAdd, Nat.reduceBEq, Nat.reduceMul, Int.reduceToNat, Int.reduceLE, Int.reduceLT, Int.reduceEq, Int.reduceNeg, List.length_replicate]
        repeat (refine And.intro (by first | omega | (constructor <;> omega) | kernel_rfl) ?_)
        refine LoopK.mk (i + 1) ?_ (by omega) (by omega)
        rw [hst]
        refine Wk.mk [] ?_
        try simp (config := { maxSteps := 10000000 }) only [go_sem, reduceIte, reduceCtorEq, Nat.reduceEqDiff, Nat.reduceLT, Nat.reduceLeDiff, Nat.reduceAdd, Nat.reduceBEq, Nat.reduceMul, Int.reduceToNat, Int.reduceLE, Int.reduceLT, Int.reduceEq, Int.reduceNeg]
        try (and_intros <;> first | rfl | omega | exact ⟨_, rfl⟩)
      · rw [show i = l.length by omega]
        try simp (config := { maxSteps := 10000000 }) only [go_sem, reduceIte, reduceCtorEq, Nat.reduceEqDiff, Nat.reduceLT, Nat.reduceLeDiff, Nat.reduceAdd, Nat.reduceBEq, Nat.reduceMul, Int.reduceToNat, Int.reduceLE, Int.reduceLT, Int.reduceEq, Int.reduceNeg]
        refine TW.seq tabOK mixes ?_
        try simp (config := { maxSteps := 10000000 }) only [go_sem, reduceIte, reduceCtorEq, Nat.reduceEqDiff, Nat.reduceLT, Nat.reduceLeDiff, Nat.reduceAdd, Nat.reduceBEq, Nat.reduceMul, Int.reduceToNat, Int.reduceLE, Int.reduceLT, Int.reduceEq, Int.reduceNeg, List.length_replicate]
        repeat (refine And.intro (by first | omega | (constructor <;> omega) | kernel_rfl) ?_)
        refine CallW.g (cG) ?_
        try simp (config := { maxSteps := 10000000 }) only [go_sem, reduceIte, reduceCtorEq, Nat.reduceEqDiff, Nat.reduceLT, Nat.reduceLeDiff, Nat.reduceAdd, Nat.reduceBEq, Nat.reduceMul, Int.reduceToNat, Int.reduceLE, Int.reduceLT, Int.reduceEq, Int.reduceNeg]
        refine TW.seq tabOK mixes ?_
        try simp (config := { maxSteps := 10000000 }) only [go_sem, reduceIte, reduceCtorEq, Nat.reduceEqDiff, Nat.reduceLT, Nat.reduceLeDiff, Nat.reduceAdd, Nat.reduceBEq, Nat.reduceMul, Int.reduceToNat, Int.reduceLE, Int.reduceLT, Int.reduceEq, Int.reduceNeg]
        refine LoopG.intro _ _ _ (fun i : Nat => ⟨[(3, .sc (.int .i64 a)), (9, .sl tPoint (mpL p l)), (11, .row 1 0), (31, .sl tStep l), (32, .sc (.int .i64 l.length)), (33, .sc (.int .i64 i))], [(1, .row 36 tRat 0 false (zS l w0 i))]⟩) (fun i => i ≤ l.length) (fun i => l.length - i) 0 ?_ (Nat.zero_le _) ?_
        · refine Wk.mk [] ?_
          try simp (config := { maxSteps := 10000000 }) only [go_sem, reduceIte, reduceCtorEq, Nat.reduceEqDiff, Nat.reduceLT, Nat.reduceLeDiff, Nat.reduceAdd, Nat.reduceBEq, Nat.reduceMul, Int.reduceToNat, Int.reduceLE, Int.reduceLT, Int.reduceEq, Int.reduceNeg]
          try (and_intros <;> first | rfl | omega | exact ⟨_, rfl⟩)
        · rintro i hi
          have hzl := zS_len l w0 i
          try simp (config := { maxSteps := 10000000 }) only [go_sem, reduceIte, reduceCtorEq, Nat.reduceEqDiff, Nat.reduceLT, Nat.reduceLeDiff, Nat.reduceAdd, Nat.reduceBEq, Nat.reduceMul, Int.reduceToNat, Int.reduceLE, Int.reduceLT, Int.reduceEq, Int.reduceNeg]
          refine CondW_dec (fun hA => ?_) (fun hA => ?_)
          · by_cases h0 : (nth (t := tStep) l i).1 = 0
            · have d0 := decide_eq_true h0
              have hst : zS l w0 (i + 1) = zS l w0 i := if_pos h0
              try simp (config := { maxSteps := 10000000 }) only [go_sem, reduceIte, reduceCtorEq, Nat.reduceEqDiff, Nat.reduceLT, Nat.reduceLeDiff, Nat.reduceAdd, Nat.reduceBEq, Nat.reduceMul, Int.reduceToNat, Int.reduceLE, Int.reduceLT, Int.reduceEq, Int.reduceNeg]
              repeat (refine And.intro (by first | omega | (constructor <;> omega) | kernel_rfl) ?_)
              try simp (config := { maxSteps := 10000000 }) only [go_sem, reduceIte, reduceCtorEq, Nat.reduceEqDiff, Nat.reduceLT, Nat.reduceLeDiff, Nat.reduceAdd, Nat.reduceBEq, Nat.reduceMul, Int.reduceToNat, Int.reduceLE, Int.reduceLT, Int.reduceEq, Int.reduceNeg, d0]
              repeat (refine And.intro (by first | omega | (constructor <;> omega) | kernel_rfl) ?_)
              refine LoopK.mk (i + 1) ?_ (by omega) (by omega)
              rw [hst]
              refine Wk.mk [] ?_
              try simp (config := { maxSteps := 10000000 }) only [go_sem, reduceIte, reduceCtorEq, Nat.reduceEqDiff, Nat.reduceLT, Nat.reduceLeDiff, Nat.reduceAdd, Nat.reduceBEq, Nat.reduceMul, Int.reduceToNat, Int.reduceLE, Int.reduceLT, Int.reduceEq, Int.reduceNeg]
              try (and_intros <;> first | rfl | omega | exact ⟨_, rfl⟩)
            · have d0 := decide_eq_false h0
              have hst : zS l w0 (i + 1) = ((zS l w0 i).set i (ratI 0)).set (i + 1) (ratI 0) := if_neg h0
              generalize zS l w0 i = W at hst hzl ⊢
              have dW : decide ((0 : Int) < W.length) = true := decide_eq_true (by omega)
              try simp (config := { maxSteps := 10000000 }) only [go_sem, reduceIte, reduceCtorEq, Nat.reduceEqDiff, Nat.reduceLT, Nat.reduceLeDiff, Nat.reduceAdd, Nat.reduceBEq, Nat.reduceMul, Int.reduceToNat, Int.reduceLE, Int.reduceLT, Int.reduceEq, Int.reduceNeg]
              repeat (refine And.intro (by first | omega | (constructor <;> omega) | kernel_rfl) ?_)
              try simp (config := { maxSteps := 10000000 }) only [go_sem, reduceIte, reduceCtorEq, Nat.reduceEqDiff, Nat.reduceLT, Nat.reduceLeDiff, Nat.reduceAdd, Nat.reduceBEq, Nat.reduceMul, Int.reduceToNat, Int.reduceLE, Int.reduceLT, Int.reduceEq, Int.reduceNeg, d0, dW]
              have e1 : ((i : Int) + 1).toNat = i + 1 := by omega
              have cz := RatFromInt_fn 0
              try simp (config := { maxSteps := 10000000 }) only [go_sem, reduceIte, reduceCtorEq, Nat.reduceEqDiff, Nat.reduceLT, Nat.reduceLeDiff, Nat.reduceAdd, Nat.reduceBEq, Nat.reduceMul, Int.reduceToNat, Int.reduceLE, Int.reduceLT, Int.reduceEq, Int.reduceNeg]
              repeat (refine And.intro (by first | omega | (constructor <;> omega) | kernel_rfl) ?_)
              repeat (refine And.intro (by first | omega | (constructor <;> omega) | kernel_rfl) ?_)
              refine CallW.mk (cz) ?_
              try simp (config := { maxSteps := 10000000 }) only [go_sem, reduceIte, reduceCtorEq, Nat.reduceEqDiff, Nat.reduceLT, Nat.reduceLeDiff, Nat.reduceAdd, Nat.reduceBEq, Nat.reduceMul, Int.reduceToNat, Int.reduceLE, Int.reduceLT, Int.reduceEq, Int.reduceNeg]
              repeat (refine And.intro (by first | omega | (constructor <;> omega) | kernel_rfl) ?_)
              repeat (refine And.intro (by first | omega | (constructor <;> omega) | kernel_rfl) ?_)
              refine CallW.mk (cz) ?_
              try simp (config := { maxSteps := 10000000 }) only [go_sem, reduceIte, reduceCtorEq, Nat.reduceEqDiff, Nat.reduceLT, Nat.reduceLeDiff, Nat.reduceAdd, Nat.reduceBEq, Nat.reduceMul, Int.reduceToNat, Int.reduceLE, Int.reduceLT, Int.reduceEq, Int.reduceNeg]
              repeat (refine And.intro (by first | omega | (constructor <;> omega) | kernel_rfl) ?_)
              try simp (config := { maxSteps := 10000000 }) only [go_sem, reduceIte, reduceCtorEq, Nat.reduceEqDiff, Nat.reduceLT, Nat.reduceLeDiff, Nat.reduceAdd, Nat.reduceBEq, Nat.reduceMul, Int.reduceToNat, Int.reduceLE, Int.reduceLT, Int.reduceEq, Int.reduceNeg, List.length_set]
              repeat (refine And.intro (by first | omega | (constructor <;> omega) | kernel_rfl) ?_)
              refine LoopK.mk (i + 1) ?_ (by omega) (by omega)
              rw [hst]
              refine Wk.mk [] ?_
              try simp (config := { maxSteps := 10000000 }) only [go_sem, reduceIte, reduceCtorEq, Nat.reduceEqDiff, Nat.reduceLT, Nat.reduceLeDiff, Nat.reduceAdd, Nat.reduceBEq, Nat.reduceMul, Int.reduceToNat, Int.reduceLE, Int.reduceLT, Int.reduceEq, Int.reduceNeg]
              try (and_intros <;> first | rfl | omega | exact ⟨_, rfl⟩)
              all_goals (rw [e1]; exact ⟨rfl, rfl⟩)
          · rw [show i = l.length by omega]
            try simp (config := { maxSteps := 10000000 }) only [go_sem, reduceIte, reduceCtorEq, Nat.reduceEqDiff, Nat.reduceLT, Nat.reduceLeDiff, Nat.reduceAdd, Nat.reduceBEq, Nat.reduceMul, Int.reduceToNat, Int.reduceLE, Int.reduceLT, Int.reduceEq, Int.reduceNeg]
            refine TW.then tabOK mixes ?_
            refine TW.tail (own := false) (r := ⟨.slice tRat, prof (mpL p l) a (zS l w0 l.length)⟩) tabOK 3 rfl ?_
            try simp (config := { maxSteps := 10000000 }) only [go_sem, reduceIte, reduceCtorEq, Nat.reduceEqDiff, Nat.reduceLT, Nat.reduceLeDiff, Nat.reduceAdd, Nat.reduceBEq, Nat.reduceMul, Int.reduceToNat, Int.reduceLE, Int.reduceLT, Int.reduceEq, Int.reduceNeg]
            refine ⟨⟨[(56, .sl tPoint (mpL p l)), (57, .row 0 0), (58, .sc (.int .i64 a))], [(0, .row 36 tRat 0 false (zS l w0 l.length))]⟩, [.sl tPoint (mpL p l), .row 0 0, .sc (.int .i64 a)], ?_, rfl, rfl, cB, by omega, ?_⟩
            · refine Wk.mk [(0, 1)] ?_
              try simp (config := { maxSteps := 10000000 }) only [go_sem, reduceIte, reduceCtorEq, Nat.reduceEqDiff, Nat.reduceLT, Nat.reduceLeDiff, Nat.reduceAdd, Nat.reduceBEq, Nat.reduceMul, Int.reduceToNat, Int.reduceLE, Int.reduceLT, Int.reduceEq, Int.reduceNeg]
            · try simp (config := { maxSteps := 10000000 }) only [go_sem, reduceIte, reduceCtorEq, Nat.reduceEqDiff, Nat.reduceLT, Nat.reduceLeDiff, Nat.reduceAdd, Nat.reduceBEq, Nat.reduceMul, Int.reduceToNat, Int.reduceLE, Int.reduceLT, Int.reduceEq, Int.reduceNeg, resV, resM']
              all_goals repeat (refine And.intro (by first | omega | (constructor <;> omega) | kernel_rfl) ?_)
              all_goals first | kernel_rfl | omega | rfl
  · rw [msp_f hok]
    have c3 := specSpeedLimits_nil ((l.length + 1 : Nat) : Int) (List.replicate l.length lim) hok
    rw [← hml] at c3
    have c4 := specProfile_nil (mpL p l) a
    refine fn_enter tabOK mixes Tryz.func42 rfl rfl _ Tryz.ntmps42 _ Tryz.results42 (by simp) fun hwf => ?_
    try simp (config := { maxSteps := 10000000 }) only [go_sem, reduceIte, reduceCtorEq, Nat.reduceEqDiff, Nat.reduceLT, Nat.reduceLeDiff, Nat.reduceAdd, Nat.reduceBEq, Nat.reduceMul, Int.reduceToNat, Int.reduceLE, Int.reduceLT, Int.reduceEq, Int.reduceNeg]
    repeat (refine And.intro (by first | omega | (constructor <;> omega) | kernel_rfl) ?_)
    refine CallW.mk (c1) ?_
    try simp (config := { maxSteps := 10000000 }) only [go_sem, reduceIte, reduceCtorEq, Nat.reduceEqDiff, Nat.reduceLT, Nat.reduceLeDiff, Nat.reduceAdd, Nat.reduceBEq, Nat.reduceMul, Int.reduceToNat, Int.reduceLE, Int.reduceLT, Int.reduceEq, Int.reduceNeg]
    refine LoopG.intro _ _ _ (fun i : Nat => ⟨[(1, .sl tStep l), (2, .sc (.int .i64 lim)), (3, .sc (.int .i64 a)), (9, .sl tPoint (mpL p l)), (10, .row 0 0), (19, .sc (.int .i64 l.length)), (20, .sc (.int .i64 i))], [(0, .row 3 .int 0 true (List.replicate i lim))]⟩) (fun i => i ≤ l.length) (fun i => l.length - i) 0 ?_ (Nat.zero_le _) ?_
    · refine Wk.mk [(0, 2)] ?_
      try simp (config := { maxSteps := 10000000 }) only [go_sem, reduceIte, reduceCtorEq, Nat.reduceEqDiff, Nat.reduceLT, Nat.reduceLeDiff, Nat.reduceAdd, Nat.reduceBEq, Nat.reduceMul, Int.reduceToNat, Int.reduceLE, Int.reduceLT, Int.reduceEq, Int.reduceNeg]
      try (and_intros <;> first | rfl | omega | exact ⟨_, rfl⟩)
    · rintro i hi
      try simp (config := { maxSteps := 10000000 }) only [go_sem, reduceIte, reduceCtorEq, Nat.reduceEqDiff, Nat.reduceLT, Nat.reduceLeDiff, Nat.reduceAdd, Nat.reduceBEq, Nat.reduceMul, Int.reduceToNat, Int.reduceLE, Int.reduceLT, Int.reduceEq, Int.reduceNeg, List.length_replicate]
      refine CondW_dec (fun hA => ?_) (fun hA => ?_)
      · have hst : List.replicate (i + 1) lim = List.replicate i lim ++ [lim] := List.replicate_succ'
        try simp (config := { maxSteps := 10000000 }) only [go_sem, reduceIte, reduceCtorEq, Nat.reduceEqDiff, Nat.reduceLT, Nat.reduceLeDiff, Nat.reduceAdd, Nat.reduceBEq, Nat.reduceMul, Int.reduceToNat, Int.reduceLE, Int.reduceLT, Int.reduceEq, Int.reduceNeg, List.length_replicate]
        repeat (refine And.intro (by first | omega | (constructor <;> omega) | kernel_rfl) ?_)
        try simp (config := { maxSteps := 10000000 }) only [go_sem, reduceIte, reduceCtorEq, Nat.reduceEqDiff, Nat.reduceLT, Nat.reduceLeDiff, Nat.reduceAdd, Nat.reduceBEq, Nat.reduceMul, Int.reduceToNat, Int.reduceLE, Int.reduceLT, Int.reduceEq, Int.reduceNeg, List.length_replicate]
        repeat (refine And.intro (by first | omega | (constructor <;> omega) | kernel_rfl) ?_)
        refine LoopK.mk (i + 1) ?_ (by omega) (by omega)
        rw [hst]
        refine Wk.mk [] ?_
        try simp (config := { maxSteps := 10000000 }) only [go_sem, reduceIte, reduceCtorEq, Nat.reduceEqDiff, Nat.reduceLT, Nat.reduceLeDiff, Nat.reduceAdd, Nat.reduceBEq, Nat.reduceMul, Int.reduceToNat, Int.reduceLE, Int.reduceLT, Int.reduceEq, Int.reduceNeg]
        try (and_intros <;> first | rfl | omega | exact ⟨_, rfl⟩)
      · rw [show i = l.length by omega]
        try simp (config := { maxSteps := 10000000 }) only [go_sem, reduceIte, reduceCtorEq, Nat.reduceEqDiff, Nat.reduceLT, Nat.reduceLeDiff, Nat.reduceAdd, Nat.reduceBEq, Nat.reduceMul, Int.reduceToNat, Int.reduceLE, Int.reduceLT, Int.reduceEq, Int.reduceNeg, List.length_replicate]
        repeat (refine And.intro (by first | omega | (constructor <;> omega) | kernel_rfl) ?_)
        refine CallW.mk (c3) ?_
        try simp (config := { maxSteps := 10000000 }) only [go_sem, reduceIte, reduceCtorEq, Nat.reduceEqDiff, Nat.reduceLT, Nat.reduceLeDiff, Nat.reduceAdd, Nat.reduceBEq, Nat.reduceMul, Int.reduceToNat, Int.reduceLE, Int.reduceLT, Int.reduceEq, Int.reduceNeg]
        refine LoopG.intro _ _ _ (fun i : Nat => ⟨[(3, .sc (.int .i64 a)), (9, .sl tPoint (mpL p l)), (11, .sc (.slice none 0 0)), (31, .sl tStep l), (32, .sc (.int .i64 l.length)), (33, .sc (.int .i64 i))], []⟩) (fun i => i ≤ l.length) (fun i => l.length - i) 0 ?_ (Nat.zero_le _) ?_
        · refine Wk.mk [] ?_
          try simp (config := { maxSteps := 10000000 }) only [go_sem, reduceIte, reduceCtorEq, Nat.reduceEqDiff, Nat.reduceLT, Nat.reduceLeDiff, Nat.reduceAdd, Nat.reduceBEq, Nat.reduceMul, Int.reduceToNat, Int.reduceLE, Int.reduceLT, Int.reduceEq, Int.reduceNeg]
          try (and_intros <;> first | rfl | omega | exact ⟨_, rfl⟩)
        · rintro i hi
          try simp (config := { maxSteps := 10000000 }) only [go_sem, reduceIte, reduceCtorEq, Nat.reduceEqDiff, Nat.reduceLT, Nat.reduceLeDiff, Nat.reduceAdd, Nat.reduceBEq, Nat.reduceMul, Int.reduceToNat, Int.reduceLE, Int.reduceLT, Int.reduceEq, Int.reduceNeg]
          refine CondW_dec (fun hA => ?_) (fun hA => ?_)
          · by_cases h0 : (nth (t := tStep) l i).1 = 0
            · have d0 := decide_eq_true h0
              try simp (config := { maxSteps := 10000000 }) only [go_sem, reduceIte, reduceCtorEq, Nat.reduceEqDiff, Nat.reduceLT, Nat.reduceLeDiff, Nat.reduceAdd, Nat.reduceBEq, Nat.reduceMul, Int.reduceToNat, Int.reduceLE, Int.reduceLT, Int.reduceEq, Int.reduceNeg]
              repeat (refine And.intro (by first | omega | (constructor <;> omega) | kernel_rfl) ?_)
              try simp (config := { maxSteps := 10000000 }) only [go_sem, reduceIte, reduceCtorEq, Nat.reduceEqDiff, Nat.reduceLT, Nat.reduceLeDiff, Nat.reduceAdd, Nat.reduceBEq, Nat.reduceMul, Int.reduceToNat, Int.reduceLE, Int.reduceLT, Int.reduceEq, Int.reduceNeg, d0]
              repeat (refine And.intro (by first | omega | (constructor <;> omega) | kernel_rfl) ?_)
              refine LoopK.mk (i + 1) ?_ (by omega) (by omega)
              refine Wk.mk [] ?_
              try simp (config := { maxSteps := 10000000 }) only [go_sem, reduceIte, reduceCtorEq, Nat.reduceEqDiff, Nat.reduceLT, Nat.reduceLeDiff, Nat.reduceAdd, Nat.reduceBEq, Nat.reduceMul, Int.reduceToNat, Int.reduceLE, Int.reduceLT, Int.reduceEq, Int.reduceNeg]
              try (and_intros <;> first | rfl | omega | exact ⟨_, rfl⟩)
            · have d0 := decide_eq_false h0
              try simp (config := { maxSteps := 10000000 }) only [go_sem, reduceIte, reduceCtorEq, Nat.reduceEqDiff, Nat.reduceLT, Nat.reduceLeDiff, Nat.reduceAdd, Nat.reduceBEq, Nat.reduceMul, Int.reduceToNat, Int.reduceLE, Int.reduceLT, Int.reduceEq, Int.reduceNeg]
              repeat (refine And.intro (by first | omega | (constructor <;> omega) | kernel_rfl) ?_)
              try simp (config := { maxSteps := 10000000 }) only [go_sem, reduceIte, reduceCtorEq, Nat.reduceEqDiff, Nat.reduceLT, Nat.reduceLeDiff, Nat.reduceAdd, Nat.reduceBEq, Nat.reduceMul, Int.reduceToNat, Int.reduceLE, Int.reduceLT, Int.reduceEq, Int.reduceNeg, d0]
              repeat (refine And.intro (by first | omega | (constructor <;> omega) | kernel_rfl) ?_)
              refine LoopK.mk (i + 1) ?_ (by omega) (by omega)
              refine Wk.mk [] ?_
              try simp (config := { maxSteps := 10000000 }) only [go_sem, reduceIte, reduceCtorEq, Nat.reduceEqDiff, Nat.reduceLT, Nat.reduceLeDiff, Nat.reduceAdd, Nat.reduceBEq, Nat.reduceMul, Int.reduceToNat, Int.reduceLE, Int.reduceLT, Int.reduceEq, Int.reduceNeg]
              try (and_intros <;> first | rfl | omega | exact ⟨_, rfl⟩)
          · try simp (config := { maxSteps := 10000000 }) only [go_sem, reduceIte, reduceCtorEq, Nat.reduceEqDiff, Nat.reduceLT, Nat.reduceLeDiff, Nat.reduceAdd, Nat.reduceBEq, Nat.reduceMul, Int.reduceToNat, Int.reduceLE, Int.reduceLT, Int.reduceEq, Int.reduceNeg]
            repeat (refine And.intro (by first | omega | (constructor <;> omega) | kernel_rfl) ?_)
            refine CallW.mk (c4) ?_
            try simp (config := { maxSteps := 10000000 }) only [go_sem, reduceIte, reduceCtorEq, Nat.reduceEqDiff, Nat.reduceLT, Nat.reduceLeDiff, Nat.reduceAdd, Nat.reduceBEq, Nat.reduceMul, Int.reduceToNat, Int.reduceLE, Int.reduceLT, Int.reduceEq, Int.reduceNeg]
            all_goals repeat (refine And.intro (by first | omega | (constructor <;> omega) | kernel_rfl) ?_)
            all_goals first | kernel_rfl | omega | rfl
end Go.Proofs.YtgffgcpcjpjfgaaGreat.DW

/-
  What the bounds on the whole say of each part.
-/
namespace Go.Proofs.YtgffgcpcjpjfgaaGreat.DW
open Go.RowKit
theorem szP_of {q : DP} (h : YtgffgcpcjpjfgaaGreat.tPoint q ≤ 1048576) : szP q := by
  have e : YtgffgcpcjpjfgaaGreat.tPoint q = q.1.1.2.length + q.1.2.length + (q.2.1.2.length + q.2.2.length) := rfl
  rw [e] at h
  exact ⟨⟨by omega, by omega⟩, by omega, by omega⟩
theorem szP_all : ∀ {l : List DS}, tStepS l ≤ 1048576 → ∀ x ∈ l, szP x.2
  | [], _, x, hx => by cases hx
  | y :: l, h, x, hx => by
    have e : tStepS (y :: l) = YtgffgcpcjpjfgaaGreat.tPoint y.2 + tStepS l := rfl
    rw [e] at h
    rcases List.mem_cons.1 hx with rfl | hx
    · exact szP_of (by omega)
    · exact szP_all (by omega) x hx
end Go.Proofs.YtgffgcpcjpjfgaaGreat.DW

/-
  The arguments' types of this program, opened: points.
-/
namespace Go.Proofs.YtgffgcpcjpjfgaaGreat
open Go.RowKit
section
variable {H : Type} {enc : TypeId × Value → H} {w : World}
end
end Go.Proofs.YtgffgcpcjpjfgaaGreat
