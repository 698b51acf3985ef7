/-
  Texts of a proof, one behind another: LawMotionSpeeds.
-/
import Derived.Test.YtgffgcpcjpjfgaaGreatKT5
set_option linter.all false
/-
  The law FnExactMotionSpeeds returns true: the walk through it on data, by the contracts.
-/
namespace Go.Proofs.YtgffgcpcjpjfgaaGreat.DW
open Go.RowKit

set_option maxRecDepth 100000 in
set_option maxHeartbeats 8000000 in
theorem lawMotionSpeeds_fn (x0 : DPlacement) (x1 : DStepS) (n2 : Int) (n3 : Int) : Fn Tryz.prog 7 [⟨DW.tStep, x0⟩, ⟨.slice DW.tStep, x1⟩, ⟨.int, n2⟩, ⟨.int, n3⟩] false [⟨.bool, true⟩] := by
  refine fn_enter tabOK mixes Tryz.func7 rfl rfl _ Tryz.ntmps7 _ Tryz.results7 (by simp) fun hwf => ?_
  have hI2 : I64 n2 := hwf ⟨.int, n2⟩ (by simp)
  have hI3 : I64 n3 := hwf ⟨.int, n3⟩ (by simp)
  try simp (config := { maxSteps := 10000000 }) only [go_sem, reduceIte, reduceCtorEq, Nat.reduceEqDiff, Nat.reduceLT, Nat.reduceLeDiff, Nat.reduceAdd, Nat.reduceBEq, Nat.reduceMul, Int.reduceToNat, Int.reduceLE, Int.reduceLT, Int.reduceEq, Int.reduceNeg]
  repeat (refine And.intro (by first | omega | (constructor <;> omega) | kernel_rfl) ?_)
  refine CallW.mk (szPlacement_fn x0 1048576 (by omega) (by omega)) ?_
  try simp (config := { maxSteps := 10000000 }) only [go_sem, reduceIte, reduceCtorEq, Nat.reduceEqDiff, Nat.reduceLT, Nat.reduceLeDiff, Nat.reduceAdd, Nat.reduceBEq, Nat.reduceMul, Int.reduceToNat, Int.reduceLE, Int.reduceLT, Int.reduceEq, Int.reduceNeg]
  repeat (refine And.intro (by first | omega | (constructor <;> omega) | kernel_rfl) ?_)
  have hr0 := szr_lo 1048576 (Go.Proofs.YtgffgcpcjpjfgaaGreat.tPlacement x0) (by omega)
  refine CondW_dec (fun hlt => ?_) (fun hge0 => ?_)
  · try simp (config := { maxSteps := 10000000 }) only [go_sem, reduceIte, reduceCtorEq, Nat.reduceEqDiff, Nat.reduceLT, Nat.reduceLeDiff, Nat.reduceAdd, Nat.reduceBEq, Nat.reduceMul, Int.reduceToNat, Int.reduceLE, Int.reduceLT, Int.reduceEq, Int.reduceNeg]
  have hge0' : 0 ≤ szr 1048576 (Go.Proofs.YtgffgcpcjpjfgaaGreat.tPlacement x0) := by omega
  try simp (config := { maxSteps := 10000000 }) only [go_sem, reduceIte, reduceCtorEq, Nat.reduceEqDiff, Nat.reduceLT, Nat.reduceLeDiff, Nat.reduceAdd, Nat.reduceBEq, Nat.reduceMul, Int.reduceToNat, Int.reduceLE, Int.reduceLT, Int.reduceEq, Int.reduceNeg]
  repeat (refine And.intro (by first | omega | (constructor <;> omega) | kernel_rfl) ?_)
  refine CallW.mk (szStepS_fn x1 (szr 1048576 (Go.Proofs.YtgffgcpcjpjfgaaGreat.tPlacement x0)) (by omega) (by omega)) ?_
  try simp (config := { maxSteps := 10000000 }) only [go_sem, reduceIte, reduceCtorEq, Nat.reduceEqDiff, Nat.reduceLT, Nat.reduceLeDiff, Nat.reduceAdd, Nat.reduceBEq, Nat.reduceMul, Int.reduceToNat, Int.reduceLE, Int.reduceLT, Int.reduceEq, Int.reduceNeg]
  repeat (refine And.intro (by first | omega | (constructor <;> omega) | kernel_rfl) ?_)
  have hr1 := szr_lo (szr 1048576 (Go.Proofs.YtgffgcpcjpjfgaaGreat.tPlacement x0)) ((x1.length + Go.Proofs.YtgffgcpcjpjfgaaGreat.tStepS x1)) (by omega)
  refine CondW_dec (fun hlt => ?_) (fun hge1 => ?_)
  · try simp (config := { maxSteps := 10000000 }) only [go_sem, reduceIte, reduceCtorEq, Nat.reduceEqDiff, Nat.reduceLT, Nat.reduceLeDiff, Nat.reduceAdd, Nat.reduceBEq, Nat.reduceMul, Int.reduceToNat, Int.reduceLE, Int.reduceLT, Int.reduceEq, Int.reduceNeg]
  have hge1' : 0 ≤ szr (szr 1048576 (Go.Proofs.YtgffgcpcjpjfgaaGreat.tPlacement x0)) ((x1.length + Go.Proofs.YtgffgcpcjpjfgaaGreat.tStepS x1)) := by omega
  have hs0 := (szr_ok hge0').1
  have hs1 := (szr_ok hge1').1
  have hle0 : Go.Proofs.YtgffgcpcjpjfgaaGreat.tPlacement x0 ≤ 1048576 := by omega
  have hle1 : (x1.length + Go.Proofs.YtgffgcpcjpjfgaaGreat.tStepS x1) ≤ 1048576 := by omega
  clear hr0 hs0 hge0 hge0' hr1 hs1 hge1 hge1'
  have hz0 : szP x0.2 := szP_of hle0
  have hz1 : ∀ x ∈ x1, szP x.2 := szP_all (by omega)
  try simp (config := { maxSteps := 10000000 }) only [go_sem, reduceIte, reduceCtorEq, Nat.reduceEqDiff, Nat.reduceLT, Nat.reduceLeDiff, Nat.reduceAdd, Nat.reduceBEq, Nat.reduceMul, Int.reduceToNat, Int.reduceLE, Int.reduceLT, Int.reduceEq, Int.reduceNeg]
  repeat (refine And.intro (by first | omega | (constructor <;> omega) | kernel_rfl) ?_)
  refine CallW.mk (toPlacement_fn x0 hle0) ?_
  try simp (config := { maxSteps := 10000000 }) only [go_sem, reduceIte, reduceCtorEq, Nat.reduceEqDiff, Nat.reduceLT, Nat.reduceLeDiff, Nat.reduceAdd, Nat.reduceBEq, Nat.reduceMul, Int.reduceToNat, Int.reduceLE, Int.reduceLT, Int.reduceEq, Int.reduceNeg]
  repeat (refine And.intro (by first | omega | (constructor <;> omega) | kernel_rfl) ?_)
  refine CallW.mk (toStepS_fn x1 hle1) ?_
  try simp (config := { maxSteps := 10000000 }) only [go_sem, reduceIte, reduceCtorEq, Nat.reduceEqDiff, Nat.reduceLT, Nat.reduceLeDiff, Nat.reduceAdd, Nat.reduceBEq, Nat.reduceMul, Int.reduceToNat, Int.reduceLE, Int.reduceLT, Int.reduceEq, Int.reduceNeg]
  repeat (refine And.intro (by first | omega | (constructor <;> omega) | kernel_rfl) ?_)
  refine CallW.mk (specMotionSpeeds_fn x0 x1 n2 n3 hz0 hz1 (by omega)) ?_
  try simp (config := { maxSteps := 10000000 }) only [go_sem, reduceIte, reduceCtorEq, Nat.reduceEqDiff, Nat.reduceLT, Nat.reduceLeDiff, Nat.reduceAdd, Nat.reduceBEq, Nat.reduceMul, Int.reduceToNat, Int.reduceLE, Int.reduceLT, Int.reduceEq, Int.reduceNeg]
  repeat (refine And.intro (by first | omega | (constructor <;> omega) | kernel_rfl) ?_)
  refine CallW.mx (toPlacement_fn x0 hle0) ?_
  try simp (config := { maxSteps := 10000000 }) only [go_sem, reduceIte, reduceCtorEq, Nat.reduceEqDiff, Nat.reduceLT, Nat.reduceLeDiff, Nat.reduceAdd, Nat.reduceBEq, Nat.reduceMul, Int.reduceToNat, Int.reduceLE, Int.reduceLT, Int.reduceEq, Int.reduceNeg]
  repeat (refine And.intro (by first | omega | (constructor <;> omega) | kernel_rfl) ?_)
  refine CallW.mx (toStepS_fn x1 hle1) ?_
  try simp (config := { maxSteps := 10000000 }) only [go_sem, reduceIte, reduceCtorEq, Nat.reduceEqDiff, Nat.reduceLT, Nat.reduceLeDiff, Nat.reduceAdd, Nat.reduceBEq, Nat.reduceMul, Int.reduceToNat, Int.reduceLE, Int.reduceLT, Int.reduceEq, Int.reduceNeg]
  repeat (refine And.intro (by first | omega | (constructor <;> omega) | kernel_rfl) ?_)
  refine CallW.mx (implMotionSpeeds_fn x0 x1 n2 n3 hz0 hz1 (by omega)) ?_
  try simp (config := { maxSteps := 10000000 }) only [go_sem, reduceIte, reduceCtorEq, Nat.reduceEqDiff, Nat.reduceLT, Nat.reduceLeDiff, Nat.reduceAdd, Nat.reduceBEq, Nat.reduceMul, Int.reduceToNat, Int.reduceLE, Int.reduceLT, Int.reduceEq, Int.reduceNeg]
  repeat (refine And.intro (by first | omega | (constructor <;> omega) | kernel_rfl) ?_)
  refine CallW.mx (eqRatS_fn (msp x0 x1 n2 n3) (msp x0 x1 n2 n3)) ?_
  try simp (config := { maxSteps := 10000000 }) only [go_sem, reduceIte, reduceCtorEq, Nat.reduceEqDiff, Nat.reduceLT, Nat.reduceLeDiff, Nat.reduceAdd, Nat.reduceBEq, Nat.reduceMul, Int.reduceToNat, Int.reduceLE, Int.reduceLT, Int.reduceEq, Int.reduceNeg]
  repeat (refine And.intro (by first | omega | (constructor <;> omega) | kernel_rfl) ?_)
  refine CallW.mk (toPlacement_fn x0 hle0) ?_
  try simp (config := { maxSteps := 10000000 }) only [go_sem, reduceIte, reduceCtorEq, Nat.reduceEqDiff, Nat.reduceLT, Nat.reduceLeDiff, Nat.reduceAdd, Nat.reduceBEq, Nat.reduceMul, Int.reduceToNat, Int.reduceLE, Int.reduceLT, Int.reduceEq, Int.reduceNeg]
  repeat (refine And.intro (by first | omega | (constructor <;> omega) | kernel_rfl) ?_)
  refine CallW.mx (eqPlacement_fn x0 x0) ?_
  try simp (config := { maxSteps := 10000000 }) only [go_sem, reduceIte, reduceCtorEq, Nat.reduceEqDiff, Nat.reduceLT, Nat.reduceLeDiff, Nat.reduceAdd, Nat.reduceBEq, Nat.reduceMul, Int.reduceToNat, Int.reduceLE, Int.reduceLT, Int.reduceEq, Int.reduceNeg]
  repeat (refine And.intro (by first | omega | (constructor <;> omega) | kernel_rfl) ?_)
  refine CallW.mk (toStepS_fn x1 hle1) ?_
  try simp (config := { maxSteps := 10000000 }) only [go_sem, reduceIte, reduceCtorEq, Nat.reduceEqDiff, Nat.reduceLT, Nat.reduceLeDiff, Nat.reduceAdd, Nat.reduceBEq, Nat.reduceMul, Int.reduceToNat, Int.reduceLE, Int.reduceLT, Int.reduceEq, Int.reduceNeg]
  repeat (refine And.intro (by first | omega | (constructor <;> omega) | kernel_rfl) ?_)
  refine CallW.mx (eqStepS_fn x1 x1) ?_
  try simp (config := { maxSteps := 10000000 }) only [go_sem, reduceIte, reduceCtorEq, Nat.reduceEqDiff, Nat.reduceLT, Nat.reduceLeDiff, Nat.reduceAdd, Nat.reduceBEq, Nat.reduceMul, Int.reduceToNat, Int.reduceLE, Int.reduceLT, Int.reduceEq, Int.reduceNeg]
  have hc0 : Go.Proofs.YtgffgcpcjpjfgaaGreat.cnPlacement x0 ≤ 3145728 := by have := Go.Proofs.YtgffgcpcjpjfgaaGreat.cnPlacement_le x0; omega
  repeat (refine And.intro (by first | omega | (constructor <;> omega) | kernel_rfl) ?_)
  refine CallW.m (markPlacement_fn x0 1 (by omega) (by omega)) ?_
  try simp (config := { maxSteps := 10000000 }) only [go_sem, reduceIte, reduceCtorEq, Nat.reduceEqDiff, Nat.reduceLT, Nat.reduceLeDiff, Nat.reduceAdd, Nat.reduceBEq, Nat.reduceMul, Int.reduceToNat, Int.reduceLE, Int.reduceLT, Int.reduceEq, Int.reduceNeg]
  have hc1 : Go.Proofs.YtgffgcpcjpjfgaaGreat.cnStepS x1 ≤ 3145728 := by have := Go.Proofs.YtgffgcpcjpjfgaaGreat.cnStepS_le x1; omega
  repeat (refine And.intro (by first | omega | (constructor <;> omega) | kernel_rfl) ?_)
  refine CallW.m (markStepS_fn x1 (1 + (Go.Proofs.YtgffgcpcjpjfgaaGreat.cnPlacement x0 : Nat)) (by omega) (by omega)) ?_
  try simp (config := { maxSteps := 10000000 }) only [go_sem, reduceIte, reduceCtorEq, Nat.reduceEqDiff, Nat.reduceLT, Nat.reduceLeDiff, Nat.reduceAdd, Nat.reduceBEq, Nat.reduceMul, Int.reduceToNat, Int.reduceLE, Int.reduceLT, Int.reduceEq, Int.reduceNeg]
  have hkf : decide ((1 : Int) + (Go.Proofs.YtgffgcpcjpjfgaaGreat.cnPlacement x0 : Int) + (Go.Proofs.YtgffgcpcjpjfgaaGreat.cnStepS x1 : Int) < 0) = false := decide_eq_false (by omega)
  try simp (config := { maxSteps := 10000000 }) only [go_sem, reduceIte, reduceCtorEq, Nat.reduceEqDiff, Nat.reduceLT, Nat.reduceLeDiff, Nat.reduceAdd, Nat.reduceBEq, Nat.reduceMul, Int.reduceToNat, Int.reduceLE, Int.reduceLT, Int.reduceEq, Int.reduceNeg, hkf]
  repeat (refine And.intro (by first | omega | (constructor <;> omega) | kernel_rfl) ?_)
  refine CallW.mx (eqRatS_fn (msp x0 x1 n2 n3) (msp x0 x1 n2 n3)) ?_
  try simp (config := { maxSteps := 10000000 }) only [go_sem, reduceIte, reduceCtorEq, Nat.reduceEqDiff, Nat.reduceLT, Nat.reduceLeDiff, Nat.reduceAdd, Nat.reduceBEq, Nat.reduceMul, Int.reduceToNat, Int.reduceLE, Int.reduceLT, Int.reduceEq, Int.reduceNeg]
  have hcg := cn_msp x0 x1 n2 n3 (by omega)
  repeat (refine And.intro (by first | omega | (constructor <;> omega) | kernel_rfl) ?_)
  refine CallW.m (markRatS_fn (msp x0 x1 n2 n3) 1 (by omega) (by omega)) ?_
  try simp (config := { maxSteps := 10000000 }) only [go_sem, reduceIte, reduceCtorEq, Nat.reduceEqDiff, Nat.reduceLT, Nat.reduceLeDiff, Nat.reduceAdd, Nat.reduceBEq, Nat.reduceMul, Int.reduceToNat, Int.reduceLE, Int.reduceLT, Int.reduceEq, Int.reduceNeg]
  repeat (refine And.intro (by first | omega | (constructor <;> omega) | kernel_rfl) ?_)
  refine CallW.mx (heldRatS_fn (msp x0 x1 n2 n3) 1 (by omega) (by omega)) ?_
  try simp (config := { maxSteps := 10000000 }) only [go_sem, reduceIte, reduceCtorEq, Nat.reduceEqDiff, Nat.reduceLT, Nat.reduceLeDiff, Nat.reduceAdd, Nat.reduceBEq, Nat.reduceMul, Int.reduceToNat, Int.reduceLE, Int.reduceLT, Int.reduceEq, Int.reduceNeg]
  repeat (refine And.intro (by first | omega | (constructor <;> omega) | kernel_rfl) ?_)
  refine CondW_dec (fun hlt => absurd hlt (by omega)) (fun _ => ?_)
  try simp (config := { maxSteps := 10000000 }) only [go_sem, reduceIte, reduceCtorEq, Nat.reduceEqDiff, Nat.reduceLT, Nat.reduceLeDiff, Nat.reduceAdd, Nat.reduceBEq, Nat.reduceMul, Int.reduceToNat, Int.reduceLE, Int.reduceLT, Int.reduceEq, Int.reduceNeg]
  repeat (refine And.intro (by first | omega | (constructor <;> omega) | kernel_rfl) ?_)
  refine CallW.mk (toPlacement_fn x0 hle0) ?_
  try simp (config := { maxSteps := 10000000 }) only [go_sem, reduceIte, reduceCtorEq, Nat.reduceEqDiff, Nat.reduceLT, Nat.reduceLeDiff, Nat.reduceAdd, Nat.reduceBEq, Nat.reduceMul, Int.reduceToNat, Int.reduceLE, Int.reduceLT, Int.reduceEq, Int.reduceNeg]
  repeat (refine And.intro (by first | omega | (constructor <;> omega) | kernel_rfl) ?_)
  refine CallW.mk (toStepS_fn x1 hle1) ?_
  try simp (config := { maxSteps := 10000000 }) only [go_sem, reduceIte, reduceCtorEq, Nat.reduceEqDiff, Nat.reduceLT, Nat.reduceLeDiff, Nat.reduceAdd, Nat.reduceBEq, Nat.reduceMul, Int.reduceToNat, Int.reduceLE, Int.reduceLT, Int.reduceEq, Int.reduceNeg]
  repeat (refine And.intro (by first | omega | (constructor <;> omega) | kernel_rfl) ?_)
  refine CallW.mx (implMotionSpeeds_fn x0 x1 n2 n3 hz0 hz1 (by omega)) ?_
  try simp (config := { maxSteps := 10000000 }) only [go_sem, reduceIte, reduceCtorEq, Nat.reduceEqDiff, Nat.reduceLT, Nat.reduceLeDiff, Nat.reduceAdd, Nat.reduceBEq, Nat.reduceMul, Int.reduceToNat, Int.reduceLE, Int.reduceLT, Int.reduceEq, Int.reduceNeg]
  repeat (refine And.intro (by first | omega | (constructor <;> omega) | kernel_rfl) ?_)
  refine CallW.mx (eqRatS_fn (msp x0 x1 n2 n3) (msp x0 x1 n2 n3)) ?_
  try simp (config := { maxSteps := 10000000 }) only [go_sem, reduceIte, reduceCtorEq, Nat.reduceEqDiff, Nat.reduceLT, Nat.reduceLeDiff, Nat.reduceAdd, Nat.reduceBEq, Nat.reduceMul, Int.reduceToNat, Int.reduceLE, Int.reduceLT, Int.reduceEq, Int.reduceNeg]
  repeat (refine And.intro (by first | omega | (constructor <;> omega) | kernel_rfl) ?_)
  refine CallW.mx (heldRatS_fn (msp x0 x1 n2 n3) 1 (by omega) (by omega)) ?_
  try simp (config := { maxSteps := 10000000 }) only [go_sem, reduceIte, reduceCtorEq, Nat.reduceEqDiff, Nat.reduceLT, Nat.reduceLeDiff, Nat.reduceAdd, Nat.reduceBEq, Nat.reduceMul, Int.reduceToNat, Int.reduceLE, Int.reduceLT, Int.reduceEq, Int.reduceNeg]
  repeat (refine And.intro (by first | omega | (constructor <;> omega) | kernel_rfl) ?_)
  refine CondW_dec (fun hlt => absurd hlt (by omega)) (fun _ => ?_)
  try simp (config := { maxSteps := 10000000 }) only [go_sem, reduceIte, reduceCtorEq, Nat.reduceEqDiff, Nat.reduceLT, Nat.reduceLeDiff, Nat.reduceAdd, Nat.reduceBEq, Nat.reduceMul, Int.reduceToNat, Int.reduceLE, Int.reduceLT, Int.reduceEq, Int.reduceNeg]
end Go.Proofs.YtgffgcpcjpjfgaaGreat.DW
namespace Go.Proofs.YtgffgcpcjpjfgaaGreat
open Go.RowKit DW
theorem law_FnExactMotionSpeeds (a0_0 a0_1 a0_2 a0_3 a0_4 a0_5 a0_6 : Value) (x0 : DPlacement) (a1 : Value) (x1 : DStepS) (n2 : Int) (n3 : Int) (w : World) (hx0 : Has RPlacement w [a0_0, a0_1, a0_2, a0_3, a0_4, a0_5, a0_6] x0) (hx1 : Has RStepS w [a1] x1) (hI2 : I64 n2) (hI3 : I64 n3) :
    Calls Tryz.prog 7 #[.agg #[a0_0, a0_1, a0_2, a0_3, a0_4, a0_5, a0_6], a1, .int .i64 n2, .int .i64 n3] w (Post fun r w' => r = .bool true ∧ Below w.heap.size w w') :=
  (DW.lawMotionSpeeds_fn x0 x1 n2 n3).bool (vs := [.agg #[a0_0, a0_1, a0_2, a0_3, a0_4, a0_5, a0_6], a1, .int .i64 n2, .int .i64 n3]) ⟨Arg.agg (t := DW.tStep) (cs := [a0_0, a0_1, a0_2, a0_3, a0_4, a0_5, a0_6]) rfl hx0, Arg.sl hx1, Arg.int hI2, Arg.int hI3, trivial⟩
end Go.Proofs.YtgffgcpcjpjfgaaGreat
