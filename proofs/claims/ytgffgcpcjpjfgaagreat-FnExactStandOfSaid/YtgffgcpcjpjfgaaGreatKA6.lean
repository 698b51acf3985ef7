/-
  Texts of a proof, one behind another: Dw26, Ints, Own, Copy, PtOr, Dw19, Dw27, LwT, MarkT, OpensT, LawStandOf.
-/
import Derived.Deep.AppendLies
import Derived.Test.YtgffgcpcjpjfgaaGreatProg
import Derived.Deep.RegionHeld3
import Derived.Deep.RegionLaw
import Derived.Test.YtgffgcpcjpjfgaaGreatKA5
set_option linter.all false
/-
  Tours: validity.
-/
namespace Go.Proofs.YtgffgcpcjpjfgaaGreat.DW
open Go.RowKit
abbrev DT : Type := List DV × (DS × List DS)
theorem implSame_fn (p q : DP) : Fn Tryz.prog 82 [⟨tPoint, p⟩, ⟨tPoint, q⟩] false [⟨.bool, eqb p q⟩] := by
  refine Fn.ofEq (enters Tryz.func82 rfl rfl) fun w v cs u ds hp hx hq hy => ?_
  obtain rfl := pk_agg rfl hp
  obtain ⟨c0, c1, c2, c3, c4, c5, rfl⟩ := list6 hx.len
  obtain rfl := pk_agg rfl hq
  obtain ⟨d0, d1, d2, d3, d4, d5, rfl⟩ := list6 hy.len
  exact implSamePoint_any _ _ _ _ _ _ _ _ _ _ _ _ p q w hx hy
theorem specSame_fn (p q : DP) : Fn Tryz.prog 77 [⟨tPoint, p⟩, ⟨tPoint, q⟩] false [⟨.bool, eqb p q⟩] := by
  refine Fn.ofEq (enters Tryz.func77 rfl rfl) fun w v cs u ds hp hx hq hy => ?_
  obtain rfl := pk_agg rfl hp
  obtain ⟨c0, c1, c2, c3, c4, c5, rfl⟩ := list6 hx.len
  obtain rfl := pk_agg rfl hq
  obtain ⟨d0, d1, d2, d3, d4, d5, rfl⟩ := list6 hy.len
  exact specSamePoint_any _ _ _ _ _ _ _ _ _ _ _ _ p q w hx hy
theorem l22Turn_fn (n : Int) : Fn Tryz.prog 76 [⟨.int, n⟩] false [⟨.bool, decide (-1 ≤ n ∧ n ≤ 1)⟩] := by
  refine fn_enter tabOK mixes Tryz.func76 rfl rfl _ Tryz.ntmps76 _ Tryz.results76 (by simp) fun hwf => ?_
  try simp (config := { maxSteps := 10000000 }) only [go_sem, reduceIte, reduceCtorEq, Nat.reduceEqDiff, Nat.reduceLT, Nat.reduceLeDiff, Nat.reduceAdd, Nat.reduceBEq, Nat.reduceMul, Int.reduceToNat, Int.reduceLE, Int.reduceLT, Int.reduceEq, Int.reduceNeg]
  repeat (refine And.intro (by first | omega | (constructor <;> omega) | kernel_rfl) ?_)
  refine CallW.mk (l01In_fn n (-1) 1) ?_
  try simp (config := { maxSteps := 10000000 }) only [go_sem, reduceIte, reduceCtorEq, Nat.reduceEqDiff, Nat.reduceLT, Nat.reduceLeDiff, Nat.reduceAdd, Nat.reduceBEq, Nat.reduceMul, Int.reduceToNat, Int.reduceLE, Int.reduceLT, Int.reduceEq, Int.reduceNeg]
/-- A step that a tour may have. -/
noncomputable def tvStep (p x : DS) : Bool := decide (-1 ≤ x.1 ∧ x.1 ≤ 1) && (okPt x.2 && (decide (x.1 = 0) || eqb x.2 p.2))
noncomputable def tvGo : DS → List DS → Bool
  | _, [] => true
  | p, x :: l => tvStep p x && tvGo (stp p x) l
noncomputable def plcF (p : DS) (l : List DS) : DS := l.foldl stp p
/-- The placement behind the first i steps. -/
noncomputable def plcS (p : DS) (l : List DS) (i : Nat) : DS := plcF p (l.take i)
theorem plcS_step (p : DS) {l : List DS} {i : Nat} (h : i < l.length) : plcS p l (i + 1) = stp (plcS p l i) (nth (t := tStep) l i) := by
  unfold plcS plcF
  rw [List.take_succ_eq_append_getElem h, nth_lt h]
  simp only [List.foldl_append, List.foldl_cons, List.foldl_nil]
theorem tvGo_at {p : DS} {l : List DS} {i : Nat} (h : i < l.length) : tvGo p (l.drop i) = (tvStep p (nth (t := tStep) l i) && tvGo (stp p (nth (t := tStep) l i)) (l.drop (i + 1))) := by
  rw [List.drop_eq_getElem_cons h, nth_lt h]; rfl
noncomputable def tourB (t : DT) : Bool := smB t.1 20 && (decide (0 ≤ t.2.1.1 ∧ t.2.1.1 ≤ 3) && (okPt t.2.1.2 && (decide ((t.2.2.length : Int) ≤ 8) && tvGo t.2.1 t.2.2)))
theorem implIsValidTour_fn (t : DT) : Fn Tryz.prog 29 [⟨tTour, t⟩] false [⟨.bool, tourB t⟩] := by
  obtain ⟨r, p, l⟩ := t
  have c1 := isSmall_fn r 20 (by decide)
  have c2 := isHeading_fn p.1
  have c3 := arePoints1_fn p.2
  unfold tourB
  cases h1 : smB r 20 <;> rw [h1] at c1
  · refine fn_enter tabOK mixes Tryz.func29 rfl rfl _ Tryz.ntmps29 _ Tryz.results29 (by simp) fun hwf => ?_
    try simp (config := { maxSteps := 10000000 }) only [go_sem, reduceIte, reduceCtorEq, Nat.reduceEqDiff, Nat.reduceLT, Nat.reduceLeDiff, Nat.reduceAdd, Nat.reduceBEq, Nat.reduceMul, Int.reduceToNat, Int.reduceLE, Int.reduceLT, Int.reduceEq, Int.reduceNeg]
    repeat (refine And.intro (by first | omega | (constructor <;> omega) | kernel_rfl) ?_)
    refine CallW.mk (c1) ?_
    try simp (config := { maxSteps := 10000000 }) only [go_sem, reduceIte, reduceCtorEq, Nat.reduceEqDiff, Nat.reduceLT, Nat.reduceLeDiff, Nat.reduceAdd, Nat.reduceBEq, Nat.reduceMul, Int.reduceToNat, Int.reduceLE, Int.reduceLT, Int.reduceEq, Int.reduceNeg]
  · cases h2 : decide (0 ≤ p.1 ∧ p.1 ≤ 3) <;> rw [h2] at c2
    · refine fn_enter tabOK mixes Tryz.func29 rfl rfl _ Tryz.ntmps29 _ Tryz.results29 (by simp) fun hwf => ?_
      try simp (config := { maxSteps := 10000000 }) only [go_sem, reduceIte, reduceCtorEq, Nat.reduceEqDiff, Nat.reduceLT, Nat.reduceLeDiff, Nat.reduceAdd, Nat.reduceBEq, Nat.reduceMul, Int.reduceToNat, Int.reduceLE, Int.reduceLT, Int.reduceEq, Int.reduceNeg]
      repeat (refine And.intro (by first | omega | (constructor <;> omega) | kernel_rfl) ?_)
      refine CallW.mk (c1) ?_
      try simp (config := { maxSteps := 10000000 }) only [go_sem, reduceIte, reduceCtorEq, Nat.reduceEqDiff, Nat.reduceLT, Nat.reduceLeDiff, Nat.reduceAdd, Nat.reduceBEq, Nat.reduceMul, Int.reduceToNat, Int.reduceLE, Int.reduceLT, Int.reduceEq, Int.reduceNeg]
      repeat (refine And.intro (by first | omega | (constructor <;> omega) | kernel_rfl) ?_)
      refine CallW.mk (c2) ?_
      try simp (config := { maxSteps := 10000000 }) only [go_sem, reduceIte, reduceCtorEq, Nat.reduceEqDiff, Nat.reduceLT, Nat.reduceLeDiff, Nat.reduceAdd, Nat.reduceBEq, Nat.reduceMul, Int.reduceToNat, Int.reduceLE, Int.reduceLT, Int.reduceEq, Int.reduceNeg]
    · cases h3 : okPt p.2 <;> rw [h3] at c3
      · refine fn_enter tabOK mixes Tryz.func29 rfl rfl _ Tryz.ntmps29 _ Tryz.results29 (by simp) fun hwf => ?_
        try simp (config := { maxSteps := 10000000 }) only [go_sem, reduceIte, reduceCtorEq, Nat.reduceEqDiff, Nat.reduceLT, Nat.reduceLeDiff, Nat.reduceAdd, Nat.reduceBEq, Nat.reduceMul, Int.reduceToNat, Int.reduceLE, Int.reduceLT, Int.reduceEq, Int.reduceNeg]
        repeat (refine And.intro (by first | omega | (constructor <;> omega) | kernel_rfl) ?_)
        refine CallW.mk (c1) ?_
        try simp (config := { maxSteps := 10000000 }) only [go_sem, reduceIte, reduceCtorEq, Nat.reduceEqDiff, Nat.reduceLT, Nat.reduceLeDiff, Nat.reduceAdd, Nat.reduceBEq, Nat.reduceMul, Int.reduceToNat, Int.reduceLE, Int.reduceLT, Int.reduceEq, Int.reduceNeg]
        repeat (refine And.intro (by first | omega | (constructor <;> omega) | kernel_rfl) ?_)
        refine CallW.mk (c2) ?_
        try simp (config := { maxSteps := 10000000 }) only [go_sem, reduceIte, reduceCtorEq, Nat.reduceEqDiff, Nat.reduceLT, Nat.reduceLeDiff, Nat.reduceAdd, Nat.reduceBEq, Nat.reduceMul, Int.reduceToNat, Int.reduceLE, Int.reduceLT, Int.reduceEq, Int.reduceNeg]
        repeat (refine And.intro (by first | omega | (constructor <;> omega) | kernel_rfl) ?_)
        refine CallW.mk (c3) ?_
        try simp (config := { maxSteps := 10000000 }) only [go_sem, reduceIte, reduceCtorEq, Nat.reduceEqDiff, Nat.reduceLT, Nat.reduceLeDiff, Nat.reduceAdd, Nat.reduceBEq, Nat.reduceMul, Int.reduceToNat, Int.reduceLE, Int.reduceLT, Int.reduceEq, Int.reduceNeg]
      · by_cases h4 : (l.length : Int) ≤ 8
        · have d4 : decide ((8 : Int) < l.length) = false := decide_eq_false (by omega)
          rw [decide_eq_true h4]
          refine fn_enter tabOK mixes Tryz.func29 rfl rfl _ Tryz.ntmps29 _ Tryz.results29 (by simp) fun hwf => ?_
          try simp (config := { maxSteps := 10000000 }) only [go_sem, reduceIte, reduceCtorEq, Nat.reduceEqDiff, Nat.reduceLT, Nat.reduceLeDiff, Nat.reduceAdd, Nat.reduceBEq, Nat.reduceMul, Int.reduceToNat, Int.reduceLE, Int.reduceLT, Int.reduceEq, Int.reduceNeg]
          repeat (refine And.intro (by first | omega | (constructor <;> omega) | kernel_rfl) ?_)
          refine CallW.mk (c1) ?_
          try simp (config := { maxSteps := 10000000 }) only [go_sem, reduceIte, reduceCtorEq, Nat.reduceEqDiff, Nat.reduceLT, Nat.reduceLeDiff, Nat.reduceAdd, Nat.reduceBEq, Nat.reduceMul, Int.reduceToNat, Int.reduceLE, Int.reduceLT, Int.reduceEq, Int.reduceNeg]
          repeat (refine And.intro (by first | omega | (constructor <;> omega) | kernel_rfl) ?_)
          refine CallW.mk (c2) ?_
          try simp (config := { maxSteps := 10000000 }) only [go_sem, reduceIte, reduceCtorEq, Nat.reduceEqDiff, Nat.reduceLT, Nat.reduceLeDiff, Nat.reduceAdd, Nat.reduceBEq, Nat.reduceMul, Int.reduceToNat, Int.reduceLE, Int.reduceLT, Int.reduceEq, Int.reduceNeg]
          repeat (refine And.intro (by first | omega | (constructor <;> omega) | kernel_rfl) ?_)
          refine CallW.mk (c3) ?_
          try simp (config := { maxSteps := 10000000 }) only [go_sem, reduceIte, reduceCtorEq, Nat.reduceEqDiff, Nat.reduceLT, Nat.reduceLeDiff, Nat.reduceAdd, Nat.reduceBEq, Nat.reduceMul, Int.reduceToNat, Int.reduceLE, Int.reduceLT, Int.reduceEq, Int.reduceNeg]
          try simp (config := { maxSteps := 10000000 }) only [go_sem, reduceIte, reduceCtorEq, Nat.reduceEqDiff, Nat.reduceLT, Nat.reduceLeDiff, Nat.reduceAdd, Nat.reduceBEq, Nat.reduceMul, Int.reduceToNat, Int.reduceLE, Int.reduceLT, Int.reduceEq, Int.reduceNeg, d4]
          refine LoopG.intro _ _ _ (fun i : Nat => ⟨[(3, .ptr 2 0), (34, .sl tStep l), (35, .sc (.int .i64 l.length)), (36, .sc (.int .i64 i))], [(2, .box [.sc (.int .i64 (plcS p l i).1), .sc (.bool (plcS p l i).2.1.1.1), .sl .int (plcS p l i).2.1.1.2, .sl .int (plcS p l i).2.1.2, .sc (.bool (plcS p l i).2.2.1.1), .sl .int (plcS p l i).2.2.1.2, .sl .int (plcS p l i).2.2.2])]⟩) (fun i => tvGo p l = tvGo (plcS p l i) (l.drop i)) (fun i => l.length - i) 0 ?_ rfl ?_
          · refine Wk.mk [] ?_
            try simp (config := { maxSteps := 10000000 }) only [go_sem, reduceIte, reduceCtorEq, Nat.reduceEqDiff, Nat.reduceLT, Nat.reduceLeDiff, Nat.reduceAdd, Nat.reduceBEq, Nat.reduceMul, Int.reduceToNat, Int.reduceLE, Int.reduceLT, Int.reduceEq, Int.reduceNeg]
            try (and_intros <;> first | rfl | omega | exact ⟨_, rfl⟩)
          · rintro i hi
            try simp (config := { maxSteps := 10000000 }) only [go_sem, reduceIte, reduceCtorEq, Nat.reduceEqDiff, Nat.reduceLT, Nat.reduceLeDiff, Nat.reduceAdd, Nat.reduceBEq, Nat.reduceMul, Int.reduceToNat, Int.reduceLE, Int.reduceLT, Int.reduceEq, Int.reduceNeg]
            refine CondW_dec (fun hA => ?_) (fun hA => ?_)
            · have hst := plcS_step p (show i < l.length by omega)
              rw [tvGo_at (by omega)] at hi
              have c4 := within_fn (nth (t := tStep) l i).1 (-1) 1
              have c5 := arePoints1_fn (nth (t := tStep) l i).2
              have c6 := implSame_fn (nth (t := tStep) l i).2 (plcS p l i).2
              have c7 := stepped_fn (plcS p l i) (nth (t := tStep) l i)
              generalize hq : plcS p l i = q at hi hst c6 c7 ⊢
              cases e1 : decide (-1 ≤ (nth (t := tStep) l i).1 ∧ (nth (t := tStep) l i).1 ≤ 1) <;> rw [e1] at c4
              · have e0 : tvStep q (nth (t := tStep) l i) = false := by unfold tvStep; rw [e1]; rfl
                rw [e0] at hi
                rw [hi]
                try simp (config := { maxSteps := 10000000 }) only [go_sem, reduceIte, reduceCtorEq, Nat.reduceEqDiff, Nat.reduceLT, Nat.reduceLeDiff, Nat.reduceAdd, Nat.reduceBEq, Nat.reduceMul, Int.reduceToNat, Int.reduceLE, Int.reduceLT, Int.reduceEq, Int.reduceNeg]
                repeat (refine And.intro (by first | omega | (constructor <;> omega) | kernel_rfl) ?_)
                repeat (refine And.intro (by first | omega | (constructor <;> omega) | kernel_rfl) ?_)
                refine CallW.mk (c4) ?_
                try simp (config := { maxSteps := 10000000 }) only [go_sem, reduceIte, reduceCtorEq, Nat.reduceEqDiff, Nat.reduceLT, Nat.reduceLeDiff, Nat.reduceAdd, Nat.reduceBEq, Nat.reduceMul, Int.reduceToNat, Int.reduceLE, Int.reduceLT, Int.reduceEq, Int.reduceNeg]
              · cases e2 : okPt (nth (t := tStep) l i).2 <;> rw [e2] at c5
                · have e0 : tvStep q (nth (t := tStep) l i) = false := by unfold tvStep; rw [e1, e2]; rfl
                  rw [e0] at hi
                  rw [hi]
                  try simp (config := { maxSteps := 10000000 }) only [go_sem, reduceIte, reduceCtorEq, Nat.reduceEqDiff, Nat.reduceLT, Nat.reduceLeDiff, Nat.reduceAdd, Nat.reduceBEq, Nat.reduceMul, Int.reduceToNat, Int.reduceLE, Int.reduceLT, Int.reduceEq, Int.reduceNeg]
                  repeat (refine And.intro (by first | omega | (constructor <;> omega) | kernel_rfl) ?_)
                  repeat (refine And.intro (by first | omega | (constructor <;> omega) | kernel_rfl) ?_)
                  refine CallW.mk (c4) ?_
                  try simp (config := { maxSteps := 10000000 }) only [go_sem, reduceIte, reduceCtorEq, Nat.reduceEqDiff, Nat.reduceLT, Nat.reduceLeDiff, Nat.reduceAdd, Nat.reduceBEq, Nat.reduceMul, Int.reduceToNat, Int.reduceLE, Int.reduceLT, Int.reduceEq, Int.reduceNeg]
                  repeat (refine And.intro (by first | omega | (constructor <;> omega) | kernel_rfl) ?_)
                  refine CallW.mk (c5) ?_
                  try simp (config := { maxSteps := 10000000 }) only [go_sem, reduceIte, reduceCtorEq, Nat.reduceEqDiff, Nat.reduceLT, Nat.reduceLeDiff, Nat.reduceAdd, Nat.reduceBEq, Nat.reduceMul, Int.reduceToNat, Int.reduceLE, Int.reduceLT, Int.reduceEq, Int.reduceNeg]
                · by_cases e3 : (nth (t := tStep) l i).1 = 0
                  · have e0 : tvStep q (nth (t := tStep) l i) = true := by unfold tvStep; rw [e1, e2, decide_eq_true e3]; rfl
                    have d3 := decide_eq_true e3
                    rw [e0, Bool.true_and, ← hst] at hi
                    try simp (config := { maxSteps := 10000000 }) only [go_sem, reduceIte, reduceCtorEq, Nat.reduceEqDiff, Nat.reduceLT, Nat.reduceLeDiff, Nat.reduceAdd, Nat.reduceBEq, Nat.reduceMul, Int.reduceToNat, Int.reduceLE, Int.reduceLT, Int.reduceEq, Int.reduceNeg]
                    repeat (refine And.intro (by first | omega | (constructor <;> omega) | kernel_rfl) ?_)
                    repeat (refine And.intro (by first | omega | (constructor <;> omega) | kernel_rfl) ?_)
                    refine CallW.mk (c4) ?_
                    try simp (config := { maxSteps := 10000000 }) only [go_sem, reduceIte, reduceCtorEq, Nat.reduceEqDiff, Nat.reduceLT, Nat.reduceLeDiff, Nat.reduceAdd, Nat.reduceBEq, Nat.reduceMul, Int.reduceToNat, Int.reduceLE, Int.reduceLT, Int.reduceEq, Int.reduceNeg]
                    repeat (refine And.intro (by first | omega | (constructor <;> omega) | kernel_rfl) ?_)
                    refine CallW.mk (c5) ?_
                    try simp (config := { maxSteps := 10000000 }) only [go_sem, reduceIte, reduceCtorEq, Nat.reduceEqDiff, Nat.reduceLT, Nat.reduceLeDiff, Nat.reduceAdd, Nat.reduceBEq, Nat.reduceMul, Int.reduceToNat, Int.reduceLE, Int.reduceLT, Int.reduceEq, Int.reduceNeg]
                    try simp (config := { maxSteps := 10000000 }) only [go_sem, reduceIte, reduceCtorEq, Nat.reduceEqDiff, Nat.reduceLT, Nat.reduceLeDiff, Nat.reduceAdd, Nat.reduceBEq, Nat.reduceMul, Int.reduceToNat, Int.reduceLE, Int.reduceLT, Int.reduceEq, Int.reduceNeg, d3]
                    repeat (refine And.intro (by first | omega | (constructor <;> omega) | kernel_rfl) ?_)
                    refine CallW.mk (c7) ?_
                    try simp (config := { maxSteps := 10000000 }) only [go_sem, reduceIte, reduceCtorEq, Nat.reduceEqDiff, Nat.reduceLT, Nat.reduceLeDiff, Nat.reduceAdd, Nat.reduceBEq, Nat.reduceMul, Int.reduceToNat, Int.reduceLE, Int.reduceLT, Int.reduceEq, Int.reduceNeg]
                    repeat (refine And.intro (by first | omega | (constructor <;> omega) | kernel_rfl) ?_)
                    refine LoopK.mk (i + 1) ?_ hi (by omega)
                    rw [hst]
                    refine Wk.mk [] ?_
                    try simp (config := { maxSteps := 10000000 }) only [go_sem, reduceIte, reduceCtorEq, Nat.reduceEqDiff, Nat.reduceLT, Nat.reduceLeDiff, Nat.reduceAdd, Nat.reduceBEq, Nat.reduceMul, Int.reduceToNat, Int.reduceLE, Int.reduceLT, Int.reduceEq, Int.reduceNeg]
                    try (and_intros <;> first | rfl | omega | exact ⟨_, rfl⟩)
                  · have d3 := decide_eq_false e3
                    cases e4 : eqb (nth (t := tStep) l i).2 q.2 <;> rw [e4] at c6
                    · have e0 : tvStep q (nth (t := tStep) l i) = false := by unfold tvStep; rw [e1, e2, d3, e4]; rfl
                      rw [e0] at hi
                      rw [hi]
                      try simp (config := { maxSteps := 10000000 }) only [go_sem, reduceIte, reduceCtorEq, Nat.reduceEqDiff, Nat.reduceLT, Nat.reduceLeDiff, Nat.reduceAdd, Nat.reduceBEq, Nat.reduceMul, Int.reduceToNat, Int.reduceLE, Int.reduceLT, Int.reduceEq, Int.reduceNeg]
                      repeat (refine And.intro (by first | omega | (constructor <;> omega) | kernel_rfl) ?_)
                      repeat (refine And.intro (by first | omega | (constructor <;> omega) | kernel_rfl) ?_)
                      refine CallW.mk (c4) ?_
                      try simp (config := { maxSteps := 10000000 }) only [go_sem, reduceIte, reduceCtorEq, Nat.reduceEqDiff, Nat.reduceLT, Nat.reduceLeDiff, Nat.reduceAdd, Nat.reduceBEq, Nat.reduceMul, Int.reduceToNat, Int.reduceLE, Int.reduceLT, Int.reduceEq, Int.reduceNeg]
                      repeat (refine And.intro (by first | omega | (constructor <;> omega) | kernel_rfl) ?_)
                      refine CallW.mk (c5) ?_
                      try simp (config := { maxSteps := 10000000 }) only [go_sem, reduceIte, reduceCtorEq, Nat.reduceEqDiff, Nat.reduceLT, Nat.reduceLeDiff, Nat.reduceAdd, Nat.reduceBEq, Nat.reduceMul, Int.reduceToNat, Int.reduceLE, Int.reduceLT, Int.reduceEq, Int.reduceNeg]
                      try simp (config := { maxSteps := 10000000 }) only [go_sem, reduceIte, reduceCtorEq, Nat.reduceEqDiff, Nat.reduceLT, Nat.reduceLeDiff, Nat.reduceAdd, Nat.reduceBEq, Nat.reduceMul, Int.reduceToNat, Int.reduceLE, Int.reduceLT, Int.reduceEq, Int.reduceNeg, d3]
                      repeat (refine And.intro (by first | omega | (constructor <;> omega) | kernel_rfl) ?_)
                      refine CallW.mk (c6) ?_
                      try simp (config := { maxSteps := 10000000 }) only [go_sem, reduceIte, reduceCtorEq, Nat.reduceEqDiff, Nat.reduceLT, Nat.reduceLeDiff, Nat.reduceAdd, Nat.reduceBEq, Nat.reduceMul, Int.reduceToNat, Int.reduceLE, Int.reduceLT, Int.reduceEq, Int.reduceNeg]
                    · have e0 : tvStep q (nth (t := tStep) l i) = true := by unfold tvStep; rw [e1, e2, d3, e4]; rfl
                      rw [e0, Bool.true_and, ← hst] at hi
                      try simp (config := { maxSteps := 10000000 }) only [go_sem, reduceIte, reduceCtorEq, Nat.reduceEqDiff, Nat.reduceLT, Nat.reduceLeDiff, Nat.reduceAdd, Nat.reduceBEq, Nat.reduceMul, Int.reduceToNat, Int.reduceLE, Int.reduceLT, Int.reduceEq, Int.reduceNeg]
                      repeat (refine And.intro (by first | omega | (constructor <;> omega) | kernel_rfl) ?_)
                      repeat (refine And.intro (by first | omega | (constructor <;> omega) | kernel_rfl) ?_)
                      refine CallW.mk (c4) ?_
                      try simp (config := { maxSteps := 10000000 }) only [go_sem, reduceIte, reduceCtorEq, Nat.reduceEqDiff, Nat.reduceLT, Nat.reduceLeDiff, Nat.reduceAdd, Nat.reduceBEq, Nat.reduceMul, Int.reduceToNat, Int.reduceLE, Int.reduceLT, Int.reduceEq, Int.reduceNeg]
                      repeat (refine And.intro (by first | omega | (constructor <;> omega) | kernel_rfl) ?_)
                      refine CallW.mk (c5) ?_
                      try simp (config := { maxSteps := 10000000 }) only [go_sem, reduceIte, reduceCtorEq, Nat.reduceEqDiff, Nat.reduceLT, Nat.reduceLeDiff, Nat.reduceAdd, Nat.reduceBEq, Nat.reduceMul, Int.reduceToNat, Int.reduceLE, Int.reduceLT, Int.reduceEq, Int.reduceNeg]
                      try simp (config := { maxSteps := 10000000 }) only [go_sem, reduceIte, reduceCtorEq, Nat.reduceEqDiff, Nat.reduceLT, Nat.reduceLeDiff, Nat.reduceAdd, Nat.reduceBEq, Nat.reduceMul, Int.reduceToNat, Int.reduceLE, Int.reduceLT, Int.reduceEq, Int.reduceNeg, d3]
                      repeat (refine And.intro (by first | omega | (constructor <;> omega) | kernel_rfl) ?_)
                      refine CallW.mk (c6) ?_
                      try simp (config := { maxSteps := 10000000 }) only [go_sem, reduceIte, reduceCtorEq, Nat.reduceEqDiff, Nat.reduceLT, Nat.reduceLeDiff, Nat.reduceAdd, Nat.reduceBEq, Nat.reduceMul, Int.reduceToNat, Int.reduceLE, Int.reduceLT, Int.reduceEq, Int.reduceNeg]
                      repeat (refine And.intro (by first | omega | (constructor <;> omega) | kernel_rfl) ?_)
                      refine CallW.mk (c7) ?_
                      try simp (config := { maxSteps := 10000000 }) only [go_sem, reduceIte, reduceCtorEq, Nat.reduceEqDiff, Nat.reduceLT, Nat.reduceLeDiff, Nat.reduceAdd, Nat.reduceBEq, Nat.reduceMul, Int.reduceToNat, Int.reduceLE, Int.reduceLT, Int.reduceEq, Int.reduceNeg]
                      repeat (refine And.intro (by first | omega | (constructor <;> omega) | kernel_rfl) ?_)
                      refine LoopK.mk (i + 1) ?_ hi (by omega)
                      rw [hst]
                      refine Wk.mk [] ?_
                      try simp (config := { maxSteps := 10000000 }) only [go_sem, reduceIte, reduceCtorEq, Nat.reduceEqDiff, Nat.reduceLT, Nat.reduceLeDiff, Nat.reduceAdd, Nat.reduceBEq, Nat.reduceMul, Int.reduceToNat, Int.reduceLE, Int.reduceLT, Int.reduceEq, Int.reduceNeg]
                      try (and_intros <;> first | rfl | omega | exact ⟨_, rfl⟩)
            · rw [hi, List.drop_eq_nil_of_le (by omega), show tvGo (plcS p l i) [] = true from rfl]
              try simp (config := { maxSteps := 10000000 }) only [go_sem, reduceIte, reduceCtorEq, Nat.reduceEqDiff, Nat.reduceLT, Nat.reduceLeDiff, Nat.reduceAdd, Nat.reduceBEq, Nat.reduceMul, Int.reduceToNat, Int.reduceLE, Int.reduceLT, Int.reduceEq, Int.reduceNeg]
        · have d4 : decide ((8 : Int) < l.length) = true := decide_eq_true (by omega)
          rw [decide_eq_false h4]
          refine fn_enter tabOK mixes Tryz.func29 rfl rfl _ Tryz.ntmps29 _ Tryz.results29 (by simp) fun hwf => ?_
          try simp (config := { maxSteps := 10000000 }) only [go_sem, reduceIte, reduceCtorEq, Nat.reduceEqDiff, Nat.reduceLT, Nat.reduceLeDiff, Nat.reduceAdd, Nat.reduceBEq, Nat.reduceMul, Int.reduceToNat, Int.reduceLE, Int.reduceLT, Int.reduceEq, Int.reduceNeg]
          repeat (refine And.intro (by first | omega | (constructor <;> omega) | kernel_rfl) ?_)
          refine CallW.mk (c1) ?_
          try simp (config := { maxSteps := 10000000 }) only [go_sem, reduceIte, reduceCtorEq, Nat.reduceEqDiff, Nat.reduceLT, Nat.reduceLeDiff, Nat.reduceAdd, Nat.reduceBEq, Nat.reduceMul, Int.reduceToNat, Int.reduceLE, Int.reduceLT, Int.reduceEq, Int.reduceNeg]
          repeat (refine And.intro (by first | omega | (constructor <;> omega) | kernel_rfl) ?_)
          refine CallW.mk (c2) ?_
          try simp (config := { maxSteps := 10000000 }) only [go_sem, reduceIte, reduceCtorEq, Nat.reduceEqDiff, Nat.reduceLT, Nat.reduceLeDiff, Nat.reduceAdd, Nat.reduceBEq, Nat.reduceMul, Int.reduceToNat, Int.reduceLE, Int.reduceLT, Int.reduceEq, Int.reduceNeg]
          repeat (refine And.intro (by first | omega | (constructor <;> omega) | kernel_rfl) ?_)
          refine CallW.mk (c3) ?_
          try simp (config := { maxSteps := 10000000 }) only [go_sem, reduceIte, reduceCtorEq, Nat.reduceEqDiff, Nat.reduceLT, Nat.reduceLeDiff, Nat.reduceAdd, Nat.reduceBEq, Nat.reduceMul, Int.reduceToNat, Int.reduceLE, Int.reduceLT, Int.reduceEq, Int.reduceNeg]
          try simp (config := { maxSteps := 10000000 }) only [go_sem, reduceIte, reduceCtorEq, Nat.reduceEqDiff, Nat.reduceLT, Nat.reduceLeDiff, Nat.reduceAdd, Nat.reduceBEq, Nat.reduceMul, Int.reduceToNat, Int.reduceLE, Int.reduceLT, Int.reduceEq, Int.reduceNeg, d4]
theorem specIsValidTour_fn (t : DT) : Fn Tryz.prog 28 [⟨tTour, t⟩] false [⟨.bool, tourB t⟩] := by
  obtain ⟨r, p, l⟩ := t
  have c1 := l10Shape_fn r 20 (by decide)
  have c2 := l01In_fn p.1 0 3
  have c3 := specIsValidPoint_fn p.2
  unfold tourB
  cases h1 : smB r 20 <;> rw [h1] at c1
  · refine fn_enter tabOK mixes Tryz.func28 rfl rfl _ Tryz.ntmps28 _ Tryz.results28 (by simp) fun hwf => ?_
    try simp (config := { maxSteps := 10000000 }) only [go_sem, reduceIte, reduceCtorEq, Nat.reduceEqDiff, Nat.reduceLT, Nat.reduceLeDiff, Nat.reduceAdd, Nat.reduceBEq, Nat.reduceMul, Int.reduceToNat, Int.reduceLE, Int.reduceLT, Int.reduceEq, Int.reduceNeg]
    repeat (refine And.intro (by first | omega | (constructor <;> omega) | kernel_rfl) ?_)
    refine CallW.mk (c1) ?_
    try simp (config := { maxSteps := 10000000 }) only [go_sem, reduceIte, reduceCtorEq, Nat.reduceEqDiff, Nat.reduceLT, Nat.reduceLeDiff, Nat.reduceAdd, Nat.reduceBEq, Nat.reduceMul, Int.reduceToNat, Int.reduceLE, Int.reduceLT, Int.reduceEq, Int.reduceNeg]
  · cases h2 : decide (0 ≤ p.1 ∧ p.1 ≤ 3) <;> rw [h2] at c2
    · refine fn_enter tabOK mixes Tryz.func28 rfl rfl _ Tryz.ntmps28 _ Tryz.results28 (by simp) fun hwf => ?_
      try simp (config := { maxSteps := 10000000 }) only [go_sem, reduceIte, reduceCtorEq, Nat.reduceEqDiff, Nat.reduceLT, Nat.reduceLeDiff, Nat.reduceAdd, Nat.reduceBEq, Nat.reduceMul, Int.reduceToNat, Int.reduceLE, Int.reduceLT, Int.reduceEq, Int.reduceNeg]
      repeat (refine And.intro (by first | omega | (constructor <;> omega) | kernel_rfl) ?_)
      refine CallW.mk (c1) ?_
      try simp (config := { maxSteps := 10000000 }) only [go_sem, reduceIte, reduceCtorEq, Nat.reduceEqDiff, Nat.reduceLT, Nat.reduceLeDiff, Nat.reduceAdd, Nat.reduceBEq, Nat.reduceMul, Int.reduceToNat, Int.reduceLE, Int.reduceLT, Int.reduceEq, Int.reduceNeg]
      repeat (refine And.intro (by first | omega | (constructor <;> omega) | kernel_rfl) ?_)
      refine CallW.mk (c2) ?_
      try simp (config := { maxSteps := 10000000 }) only [go_sem, reduceIte, reduceCtorEq, Nat.reduceEqDiff, Nat.reduceLT, Nat.reduceLeDiff, Nat.reduceAdd, Nat.reduceBEq, Nat.reduceMul, Int.reduceToNat, Int.reduceLE, Int.reduceLT, Int.reduceEq, Int.reduceNeg]
    · cases h3 : okPt p.2 <;> rw [h3] at c3
      · refine fn_enter tabOK mixes Tryz.func28 rfl rfl _ Tryz.ntmps28 _ Tryz.results28 (by simp) fun hwf => ?_
        try simp (config := { maxSteps := 10000000 }) only [go_sem, reduceIte, reduceCtorEq, Nat.reduceEqDiff, Nat.reduceLT, Nat.reduceLeDiff, Nat.reduceAdd, Nat.reduceBEq, Nat.reduceMul, Int.reduceToNat, Int.reduceLE, Int.reduceLT, Int.reduceEq, Int.reduceNeg]
        repeat (refine And.intro (by first | omega | (constructor <;> omega) | kernel_rfl) ?_)
        refine CallW.mk (c1) ?_
        try simp (config := { maxSteps := 10000000 }) only [go_sem, reduceIte, reduceCtorEq, Nat.reduceEqDiff, Nat.reduceLT, Nat.reduceLeDiff, Nat.reduceAdd, Nat.reduceBEq, Nat.reduceMul, Int.reduceToNat, Int.reduceLE, Int.reduceLT, Int.reduceEq, Int.reduceNeg]
        repeat (refine And.intro (by first | omega | (constructor <;> omega) | kernel_rfl) ?_)
        refine CallW.mk (c2) ?_
        try simp (config := { maxSteps := 10000000 }) only [go_sem, reduceIte, reduceCtorEq, Nat.reduceEqDiff, Nat.reduceLT, Nat.reduceLeDiff, Nat.reduceAdd, Nat.reduceBEq, Nat.reduceMul, Int.reduceToNat, Int.reduceLE, Int.reduceLT, Int.reduceEq, Int.reduceNeg]
        repeat (refine And.intro (by first | omega | (constructor <;> omega) | kernel_rfl) ?_)
        refine CallW.mk (c3) ?_
        try simp (config := { maxSteps := 10000000 }) only [go_sem, reduceIte, reduceCtorEq, Nat.reduceEqDiff, Nat.reduceLT, Nat.reduceLeDiff, Nat.reduceAdd, Nat.reduceBEq, Nat.reduceMul, Int.reduceToNat, Int.reduceLE, Int.reduceLT, Int.reduceEq, Int.reduceNeg]
      · by_cases h4 : (l.length : Int) ≤ 8
        · have d4 : decide ((8 : Int) < l.length) = false := decide_eq_false (by omega)
          rw [decide_eq_true h4]
          refine fn_enter tabOK mixes Tryz.func28 rfl rfl _ Tryz.ntmps28 _ Tryz.results28 (by simp) fun hwf => ?_
          try simp (config := { maxSteps := 10000000 }) only [go_sem, reduceIte, reduceCtorEq, Nat.reduceEqDiff, Nat.reduceLT, Nat.reduceLeDiff, Nat.reduceAdd, Nat.reduceBEq, Nat.reduceMul, Int.reduceToNat, Int.reduceLE, Int.reduceLT, Int.reduceEq, Int.reduceNeg]
          repeat (refine And.intro (by first | omega | (constructor <;> omega) | kernel_rfl) ?_)
          refine CallW.mk (c1) ?_
          try simp (config := { maxSteps := 10000000 }) only [go_sem, reduceIte, reduceCtorEq, Nat.reduceEqDiff, Nat.reduceLT, Nat.reduceLeDiff, Nat.reduceAdd, Nat.reduceBEq, Nat.reduceMul, Int.reduceToNat, Int.reduceLE, Int.reduceLT, Int.reduceEq, Int.reduceNeg]
          repeat (refine And.intro (by first | omega | (constructor <;> omega) | kernel_rfl) ?_)
          refine CallW.mk (c2) ?_
          try simp (config := { maxSteps := 10000000 }) only [go_sem, reduceIte, reduceCtorEq, Nat.reduceEqDiff, Nat.reduceLT, Nat.reduceLeDiff, Nat.reduceAdd, Nat.reduceBEq, Nat.reduceMul, Int.reduceToNat, Int.reduceLE, Int.reduceLT, Int.reduceEq, Int.reduceNeg]
          repeat (refine And.intro (by first | omega | (constructor <;> omega) | kernel_rfl) ?_)
          refine CallW.mk (c3) ?_
          try simp (config := { maxSteps := 10000000 }) only [go_sem, reduceIte, reduceCtorEq, Nat.reduceEqDiff, Nat.reduceLT, Nat.reduceLeDiff, Nat.reduceAdd, Nat.reduceBEq, Nat.reduceMul, Int.reduceToNat, Int.reduceLE, Int.reduceLT, Int.reduceEq, Int.reduceNeg]
          try simp (config := { maxSteps := 10000000 }) only [go_sem, reduceIte, reduceCtorEq, Nat.reduceEqDiff, Nat.reduceLT, Nat.reduceLeDiff, Nat.reduceAdd, Nat.reduceBEq, Nat.reduceMul, Int.reduceToNat, Int.reduceLE, Int.reduceLT, Int.reduceEq, Int.reduceNeg, d4]
          refine LoopG.intro _ _ _ (fun i : Nat => ⟨[(3, .ptr 1 0), (33, .sl tStep l), (34, .sc (.int .i64 l.length)), (35, .sc (.int .i64 i))], [(1, .box [.sc (.int .i64 (plcS p l i).1), .sc (.bool (plcS p l i).2.1.1.1), .sl .int (plcS p l i).2.1.1.2, .sl .int (plcS p l i).2.1.2, .sc (.bool (plcS p l i).2.2.1.1), .sl .int (plcS p l i).2.2.1.2, .sl .int (plcS p l i).2.2.2])]⟩) (fun i => tvGo p l = tvGo (plcS p l i) (l.drop i)) (fun i => l.length - i) 0 ?_ rfl ?_
          · refine Wk.mk [] ?_
            try simp (config := { maxSteps := 10000000 }) only [go_sem, reduceIte, reduceCtorEq, Nat.reduceEqDiff, Nat.reduceLT, Nat.reduceLeDiff, Nat.reduceAdd, Nat.reduceBEq, Nat.reduceMul, Int.reduceToNat, Int.reduceLE, Int.reduceLT, Int.reduceEq, Int.reduceNeg]
            try (and_intros <;> first | rfl | omega | exact ⟨_, rfl⟩)
          · rintro i hi
            try simp (config := { maxSteps := 10000000 }) only [go_sem, reduceIte, reduceCtorEq, Nat.reduceEqDiff, Nat.reduceLT, Nat.reduceLeDiff, Nat.reduceAdd, Nat.reduceBEq, Nat.reduceMul, Int.reduceToNat, Int.reduceLE, Int.reduceLT, Int.reduceEq, Int.reduceNeg]
            refine CondW_dec (fun hA => ?_) (fun hA => ?_)
            · have hst := plcS_step p (show i < l.length by omega)
              rw [tvGo_at (by omega)] at hi
              have c4 := l22Turn_fn (nth (t := tStep) l i).1
              have c5 := specIsValidPoint_fn (nth (t := tStep) l i).2
              have c6 := specSame_fn (nth (t := tStep) l i).2 (plcS p l i).2
              have c7 := l22After_fn (plcS p l i) (nth (t := tStep) l i)
              generalize hq : plcS p l i = q at hi hst c6 c7 ⊢
              cases e1 : decide (-1 ≤ (nth (t := tStep) l i).1 ∧ (nth (t := tStep) l i).1 ≤ 1) <;> rw [e1] at c4
              · have e0 : tvStep q (nth (t := tStep) l i) = false := by unfold tvStep; rw [e1]; rfl
                rw [e0] at hi
                rw [hi]
                try simp (config := { maxSteps := 10000000 }) only [go_sem, reduceIte, reduceCtorEq, Nat.reduceEqDiff, Nat.reduceLT, Nat.reduceLeDiff, Nat.reduceAdd, Nat.reduceBEq, Nat.reduceMul, Int.reduceToNat, Int.reduceLE, Int.reduceLT, Int.reduceEq, Int.reduceNeg]
                repeat (refine And.intro (by first | omega | (constructor <;> omega) | kernel_rfl) ?_)
                repeat (refine And.intro (by first | omega | (constructor <;> omega) | kernel_rfl) ?_)
                refine CallW.mk (c4) ?_
                try simp (config := { maxSteps := 10000000 }) only [go_sem, reduceIte, reduceCtorEq, Nat.reduceEqDiff, Nat.reduceLT, Nat.reduceLeDiff, Nat.reduceAdd, Nat.reduceBEq, Nat.reduceMul, Int.reduceToNat, Int.reduceLE, Int.reduceLT, Int.reduceEq, Int.reduceNeg]
              · cases e2 : okPt (nth (t := tStep) l i).2 <;> rw [e2] at c5
                · have e0 : tvStep q (nth (t := tStep) l i) = false := by unfold tvStep; rw [e1, e2]; rfl
                  rw [e0] at hi
                  rw [hi]
                  try simp (config := { maxSteps := 10000000 }) only [go_sem, reduceIte, reduceCtorEq, Nat.reduceEqDiff, Nat.reduceLT, Nat.reduceLeDiff, Nat.reduceAdd, Nat.reduceBEq, Nat.reduceMul, Int.reduceToNat, Int.reduceLE, Int.reduceLT, Int.reduceEq, Int.reduceNeg]
                  repeat (refine And.intro (by first | omega | (constructor <;> omega) | kernel_rfl) ?_)
                  repeat (refine And.intro (by first | omega | (constructor <;> omega) | kernel_rfl) ?_)
                  refine CallW.mk (c4) ?_
                  try simp (config := { maxSteps := 10000000 }) only [go_sem, reduceIte, reduceCtorEq, Nat.reduceEqDiff, Nat.reduceLT, Nat.reduceLeDiff, Nat.reduceAdd, Nat.reduceBEq, Nat.reduceMul, Int.reduceToNat, Int.reduceLE, Int.reduceLT, Int.reduceEq, Int.reduceNeg]
                  repeat (refine And.intro (by first | omega | (constructor <;> omega) | kernel_rfl) ?_)
                  refine CallW.mk (c5) ?_
                  try simp (config := { maxSteps := 10000000 }) only [go_sem, reduceIte, reduceCtorEq, Nat.reduceEqDiff, Nat.reduceLT, Nat.reduceLeDiff, Nat.reduceAdd, Nat.reduceBEq, Nat.reduceMul, Int.reduceToNat, Int.reduceLE, Int.reduceLT, Int.reduceEq, Int.reduceNeg]
                · by_cases e3 : (nth (t := tStep) l i).1 = 0
                  · have e0 : tvStep q (nth (t := tStep) l i) = true := by unfold tvStep; rw [e1, e2, decide_eq_true e3]; rfl
                    have d3 := decide_eq_true e3
                    rw [e0, Bool.true_and, ← hst] at hi
                    try simp (config := { maxSteps := 10000000 }) only [go_sem, reduceIte, reduceCtorEq, Nat.reduceEqDiff, Nat.reduceLT, Nat.reduceLeDiff, Nat.reduceAdd, Nat.reduceBEq, Nat.reduceMul, Int.reduceToNat, Int.reduceLE, Int.reduceLT, Int.reduceEq, Int.reduceNeg]
                    repeat (refine And.intro (by first | omega | (constructor <;> omega) | kernel_rfl) ?_)
                    repeat (refine And.intro (by first | omega | (constructor <;> omega) | kernel_rfl) ?_)
                    refine CallW.mk (c4) ?_
                    try simp (config := { maxSteps := 10000000 }) only [go_sem, reduceIte, reduceCtorEq, Nat.reduceEqDiff, Nat.reduceLT, Nat.reduceLeDiff, Nat.reduceAdd, Nat.reduceBEq, Nat.reduceMul, Int.reduceToNat, Int.reduceLE, Int.reduceLT, Int.reduceEq, Int.reduceNeg]
                    repeat (refine And.intro (by first | omega | (constructor <;> omega) | kernel_rfl) ?_)
                    refine CallW.mk (c5) ?_
                    try simp (config := { maxSteps := 10000000 }) only [go_sem, reduceIte, reduceCtorEq, Nat.reduceEqDiff, Nat.reduceLT, Nat.reduceLeDiff, Nat.reduceAdd, Nat.reduceBEq, Nat.reduceMul, Int.reduceToNat, Int.reduceLE, Int.reduceLT, Int.reduceEq, Int.reduceNeg]
                    try simp (config := { maxSteps := 10000000 }) only [go_sem, reduceIte, reduceCtorEq, Nat.reduceEqDiff, Nat.reduceLT, Nat.reduceLeDiff, Nat.reduceAdd, Nat.reduceBEq, Nat.reduceMul, Int.reduceToNat, Int.reduceLE, Int.reduceLT, Int.reduceEq, Int.reduceNeg, d3]
                    repeat (refine And.intro (by first | omega | (constructor <;> omega) | kernel_rfl) ?_)
                    refine CallW.mk (c7) ?_
                    try simp (config := { maxSteps := 10000000 }) only [go_sem, reduceIte, reduceCtorEq, Nat.reduceEqDiff, Nat.reduceLT, Nat.reduceLeDiff, Nat.reduceAdd, Nat.reduceBEq, Nat.reduceMul, Int.reduceToNat, Int.reduceLE, Int.reduceLT, Int.reduceEq, Int.reduceNeg]
                    repeat (refine And.intro (by first | omega | (constructor <;> omega) | kernel_rfl) ?_)
                    refine LoopK.mk (i + 1) ?_ hi (by omega)
                    rw [hst]
                    refine Wk.mk [] ?_
                    try simp (config := { maxSteps := 10000000 }) only [go_sem, reduceIte, reduceCtorEq, Nat.reduceEqDiff, Nat.reduceLT, Nat.reduceLeDiff, Nat.reduceAdd, Nat.reduceBEq, Nat.reduceMul, Int.reduceToNat, Int.reduceLE, Int.reduceLT, Int.reduceEq, Int.reduceNeg]
                    try (and_intros <;> first | rfl | omega | exact ⟨_, rfl⟩)
                  · have d3 := decide_eq_false e3
                    cases e4 : eqb (nth (t := tStep) l i).2 q.2 <;> rw [e4] at c6
                    · have e0 : tvStep q (nth (t := tStep) l i) = false := by unfold tvStep; rw [e1, e2, d3, e4]; rfl
                      rw [e0] at hi
                      rw [hi]
                      try simp (config := { maxSteps := 10000000 }) only [go_sem, reduceIte, reduceCtorEq, Nat.reduceEqDiff, Nat.reduceLT, Nat.reduceLeDiff, Nat.reduceAdd, Nat.reduceBEq, Nat.reduceMul, Int.reduceToNat, Int.reduceLE, Int.reduceLT, Int.reduceEq, Int.reduceNeg]
                      repeat (refine And.intro (by first | omega | (constructor <;> omega) | kernel_rfl) ?_)
                      repeat (refine And.intro (by first | omega | (constructor <;> omega) | kernel_rfl) ?_)
                      refine CallW.mk (c4) ?_
                      try simp (config := { maxSteps := 10000000 }) only [go_sem, reduceIte, reduceCtorEq, Nat.reduceEqDiff, Nat.reduceLT, Nat.reduceLeDiff, Nat.reduceAdd, Nat.reduceBEq, Nat.reduceMul, Int.reduceToNat, Int.reduceLE, Int.reduceLT, Int.reduceEq, Int.reduceNeg]
                      repeat (refine And.intro (by first | omega | (constructor <;> omega) | kernel_rfl) ?_)
                      refine CallW.mk (c5) ?_
                      try simp (config := { maxSteps := 10000000 }) only [go_sem, reduceIte, reduceCtorEq, Nat.reduceEqDiff, Nat.reduceLT, Nat.reduceLeDiff, Nat.reduceAdd, Nat.reduceBEq, Nat.reduceMul, Int.reduceToNat, Int.reduceLE, Int.reduceLT, Int.reduceEq, Int.reduceNeg]
                      try simp (config := { maxSteps := 10000000 }) only [go_sem, reduceIte, reduceCtorEq, Nat.reduceEqDiff, Nat.reduceLT, Nat.reduceLeDiff, Nat.reduceAdd, Nat.reduceBEq, Nat.reduceMul, Int.reduceToNat, Int.reduceLE, Int.reduceLT, Int.reduceEq, Int.reduceNeg, d3]
                      repeat (refine And.intro (by first | omega | (constructor <;> omega) | kernel_rfl) ?_)
                      refine CallW.mk (c6) ?_
                      try simp (config := { maxSteps := 10000000 }) only [go_sem, reduceIte, reduceCtorEq, Nat.reduceEqDiff, Nat.reduceLT, Nat.reduceLeDiff, Nat.reduceAdd, Nat.reduceBEq, Nat.reduceMul, Int.reduceToNat, Int.reduceLE, Int.reduceLT, Int.reduceEq, Int.reduceNeg]
                    · have e0 : tvStep q (nth (t := tStep) l i) = true := by unfold tvStep; rw [e1, e2, d3, e4]; rfl
                      rw [e0, Bool.true_and, ← hst] at hi
                      try simp (config := { maxSteps := 10000000 }) only [go_sem, reduceIte, reduceCtorEq, Nat.reduceEqDiff, Nat.reduceLT, Nat.reduceLeDiff, Nat.reduceAdd, Nat.reduceBEq, Nat.reduceMul, Int.reduceToNat, Int.reduceLE, Int.reduceLT, Int.reduceEq, Int.reduceNeg]
                      repeat (refine And.intro (by first | omega | (constructor <;> omega) | kernel_rfl) ?_)
                      repeat (refine And.intro (by first | omega | (constructor <;> omega) | kernel_rfl) ?_)
                      refine CallW.mk (c4) ?_
                      try simp (config := { maxSteps := 10000000 }) only [go_sem, reduceIte, reduceCtorEq, Nat.reduceEqDiff, Nat.reduceLT, Nat.reduceLeDiff, Nat.reduceAdd, Nat.reduceBEq, Nat.reduceMul, Int.reduceToNat, Int.reduceLE, Int.reduceLT, Int.reduceEq, Int.reduceNeg]
                      repeat (refine And.intro (by first | omega | (constructor <;> omega) | kernel_rfl) ?_)
                      refine CallW.mk (c5) ?_
                      try simp (config := { maxSteps := 10000000 }) only [go_sem, reduceIte, reduceCtorEq, Nat.reduceEqDiff, Nat.reduceLT, Nat.reduceLeDiff, Nat.reduceAdd, Nat.reduceBEq, Nat.reduceMul, Int.reduceToNat, Int.reduceLE, Int.reduceLT, Int.reduceEq, Int.reduceNeg]
                      try simp (config := { maxSteps := 10000000 }) only [go_sem, reduceIte, reduceCtorEq, Nat.reduceEqDiff, Nat.reduceLT, Nat.reduceLeDiff, Nat.reduceAdd, Nat.reduceBEq, Nat.reduceMul, Int.reduceToNat, Int.reduceLE, Int.reduceLT, Int.reduceEq, Int.reduceNeg, d3]
                      repeat (refine And.intro (by first | omega | (constructor <;> omega) | kernel_rfl) ?_)
                      refine CallW.mk (c6) ?_
                      try simp (config := { maxSteps := 10000000 }) only [go_sem, reduceIte, reduceCtorEq, Nat.reduceEqDiff, Nat.reduceLT, Nat.reduceLeDiff, Nat.reduceAdd, Nat.reduceBEq, Nat.reduceMul, Int.reduceToNat, Int.reduceLE, Int.reduceLT, Int.reduceEq, Int.reduceNeg]
                      repeat (refine And.intro (by first | omega | (constructor <;> omega) | kernel_rfl) ?_)
                      refine CallW.mk (c7) ?_
                      try simp (config := { maxSteps := 10000000 }) only [go_sem, reduceIte, reduceCtorEq, Nat.reduceEqDiff, Nat.reduceLT, Nat.reduceLeDiff, Nat.reduceAdd, Nat.reduceBEq, Nat.reduceMul, Int.reduceToNat, Int.reduceLE, Int.reduceLT, Int.reduceEq, Int.reduceNeg]
                      repeat (refine And.intro (by first | omega | (constructor <;> omega) | kernel_rfl) ?_)
                      refine LoopK.mk (i + 1) ?_ hi (by omega)
                      rw [hst]
                      refine Wk.mk [] ?_
                      try simp (config := { maxSteps := 10000000 }) only [go_sem, reduceIte, reduceCtorEq, Nat.reduceEqDiff, Nat.reduceLT, Nat.reduceLeDiff, Nat.reduceAdd, Nat.reduceBEq, Nat.reduceMul, Int.reduceToNat, Int.reduceLE, Int.reduceLT, Int.reduceEq, Int.reduceNeg]
                      try (and_intros <;> first | rfl | omega | exact ⟨_, rfl⟩)
            · rw [hi, List.drop_eq_nil_of_le (by omega), show tvGo (plcS p l i) [] = true from rfl]
              try simp (config := { maxSteps := 10000000 }) only [go_sem, reduceIte, reduceCtorEq, Nat.reduceEqDiff, Nat.reduceLT, Nat.reduceLeDiff, Nat.reduceAdd, Nat.reduceBEq, Nat.reduceMul, Int.reduceToNat, Int.reduceLE, Int.reduceLT, Int.reduceEq, Int.reduceNeg]
        · have d4 : decide ((8 : Int) < l.length) = true := decide_eq_true (by omega)
          rw [decide_eq_false h4]
          refine fn_enter tabOK mixes Tryz.func28 rfl rfl _ Tryz.ntmps28 _ Tryz.results28 (by simp) fun hwf => ?_
          try simp (config := { maxSteps := 10000000 }) only [go_sem, reduceIte, reduceCtorEq, Nat.reduceEqDiff, Nat.reduceLT, Nat.reduceLeDiff, Nat.reduceAdd, Nat.reduceBEq, Nat.reduceMul, Int.reduceToNat, Int.reduceLE, Int.reduceLT, Int.reduceEq, Int.reduceNeg]
          repeat (refine And.intro (by first | omega | (constructor <;> omega) | kernel_rfl) ?_)
          refine CallW.mk (c1) ?_
          try simp (config := { maxSteps := 10000000 }) only [go_sem, reduceIte, reduceCtorEq, Nat.reduceEqDiff, Nat.reduceLT, Nat.reduceLeDiff, Nat.reduceAdd, Nat.reduceBEq, Nat.reduceMul, Int.reduceToNat, Int.reduceLE, Int.reduceLT, Int.reduceEq, Int.reduceNeg]
          repeat (refine And.intro (by first | omega | (constructor <;> omega) | kernel_rfl) ?_)
          refine CallW.mk (c2) ?_
          try simp (config := { maxSteps := 10000000 }) only [go_sem, reduceIte, reduceCtorEq, Nat.reduceEqDiff, Nat.reduceLT, Nat.reduceLeDiff, Nat.reduceAdd, Nat.reduceBEq, Nat.reduceMul, Int.reduceToNat, Int.reduceLE, Int.reduceLT, Int.reduceEq, Int.reduceNeg]
          repeat (refine And.intro (by first | omega | (constructor <;> omega) | kernel_rfl) ?_)
          refine CallW.mk (c3) ?_
          try simp (config := { maxSteps := 10000000 }) only [go_sem, reduceIte, reduceCtorEq, Nat.reduceEqDiff, Nat.reduceLT, Nat.reduceLeDiff, Nat.reduceAdd, Nat.reduceBEq, Nat.reduceMul, Int.reduceToNat, Int.reduceLE, Int.reduceLT, Int.reduceEq, Int.reduceNeg]
          try simp (config := { maxSteps := 10000000 }) only [go_sem, reduceIte, reduceCtorEq, Nat.reduceEqDiff, Nat.reduceLT, Nat.reduceLeDiff, Nat.reduceAdd, Nat.reduceBEq, Nat.reduceMul, Int.reduceToNat, Int.reduceLE, Int.reduceLT, Int.reduceEq, Int.reduceNeg, d4]
end Go.Proofs.YtgffgcpcjpjfgaaGreat.DW

/-
  Slices of integers that are built by append: one by one, or a whole slice at once. No program here.
-/
namespace Go.Proofs.YtgffgcpcjpjfgaaGreat
open Go.RowKit

section
variable {o : Bool} {base : Nat} {w w' : World} {e : TypeId} {v : Value} {l : List Int}
theorem GrowInt.row (h : Grow Rp.int o base w e v l) : w.ownsRow base e 1 v l.length (l.map (Value.int .i64)) ∧ ∀ x ∈ l, I64 x := by
  obtain ⟨xs, fps, ho, hl, he, _, _⟩ := h
  have hxl : xs.length = l.length := by have := ho.1; simpa [Rp.int] using this
  have hall : ∀ (i : Nat) (x : Int), l[i]? = some x → xs[i]? = some (Value.int .i64 x) ∧ I64 x := by
    intro i x hx
    obtain ⟨f, cs, _, hr, hc⟩ := he i x hx
    obtain ⟨rfl, _, hI⟩ := hr
    exact ⟨by simpa [Rp.int] using hc 0 _ rfl, hI⟩
  have hxs : xs = l.map (Value.int .i64) := by
    apply List.ext_getElem?
    intro i
    rw [List.getElem?_map]
    rcases Nat.lt_or_ge i l.length with hi | hi
    · have := (hall i l[i] (List.getElem?_eq_getElem hi)).1
      rw [this, List.getElem?_eq_getElem hi]; rfl
    · rw [List.getElem?_eq_none (by omega), List.getElem?_eq_none hi]; rfl
  refine ⟨hxs ▸ ho, fun x hx => ?_⟩
  obtain ⟨i, hi, rfl⟩ := List.getElem_of_mem hx
  exact (hall i _ (List.getElem?_eq_getElem hi)).2
theorem flatten_nils (n : Nat) : (List.replicate n ([] : List Nat)).flatten = [] := by
  induction n with
  | zero => rfl
  | succ n ih => simp
theorem GrowInt.of (h : w.ownsRow base e 1 v l.length (l.map (Value.int .i64))) (hI : ∀ x ∈ l, I64 x) : Grow Rp.int o base w e v l := by
  refine ⟨l.map (Value.int .i64), List.replicate l.length [], h, by simp, fun i x hx => ?_, fun b hb => ?_, fun _ => ⟨?_, fun b hb => ?_⟩⟩
  · have hi := (List.getElem?_eq_some_iff.1 hx).1
    refine ⟨[], [.int .i64 x], by simp [hi], ⟨rfl, rfl, hI x (List.mem_of_getElem? hx)⟩, fun j c hc => ?_⟩
    cases j with
    | zero => simp at hc; subst hc; simp [Rp.int, hx]
    | succ j => simp at hc
  · rw [flatten_nils] at hb; cases hb
  · rw [flatten_nils]; exact List.nodup_nil
  · rw [flatten_nils] at hb; cases hb
theorem Grow.of_empty {α : Type} {A : Rp α} {o : Bool} {base g : Nat} {w : World} {e : TypeId} (hg : w.heap[g]? = some (.cells #[] e (0, 0))) (hb : base ≤ g) : Grow A o base w e (.slice (some ⟨g, 0, none⟩) 0 0) [] :=
  ⟨[], [], ⟨by simp, .inr ⟨g, 0, #[], rfl, hb, hg, Nat.le_refl _, Nat.zero_le _, by simp, by simp⟩⟩, rfl, fun i x h => by simp at h, fun b h => by simp at h, fun _ => ⟨by simp, fun b h => by simp at h⟩⟩
end

section
variable {P : Program} (w : World)
theorem run_append_of_none {base : Nat} (t ty e : TypeId) (i : TypeInfo) (size : Nat) (ht : P.underlying t = some (.slice e)) (hi : P.info? e = some i)
    (v : Value) (n : Nat) (xs : List Value) (hown : w.ownsRow base e size v n xs) (c : Nat) : (Builtin.append_ #[t, t] ty #[v, .slice none 0 c]).run P w = .ok v w := by
  rcases hown.2 with ⟨rfl, rfl⟩ | ⟨g, cap, cur, rfl, _, _, hnc, _⟩
  · simp [Builtin.append_, run_underlying ht, sizeOf, typeInfo, hi, Builtin.lenOf, Builtin.firstCells]
  · simp [Builtin.append_, run_underlying ht, sizeOf, typeInfo, hi, Builtin.lenOf, Builtin.firstCells, hnc, storeCells]

/-- 'append(v, y...)', integers. -/
theorem run_append_ints {o : Bool} {base : Nat} {v : Value} {l m : List Int} (t ty e : TypeId) (i : TypeInfo) (ht : P.underlying t = some (.slice e)) (hi : P.info? e = some i) (hz : i.zero = some (.int .i64 0))
    (hsize : i.size = 1) (hby : i.bytes = 8) (h : Grow Rp.int o base w e v l) (y : Value) (hy : Has RIntS w [y] m) (hlen : l.length + m.length ≤ 17592186044416) (hbase : base ≤ w.heap.size) :
    ∃ v' w', (Builtin.append_ #[t, t] ty #[v, y]).run P w = .ok v' w' ∧ Grow Rp.int o base w' e v' (l ++ m) ∧ w.grownBy w' v.ownBlock ∧ (v'.ownBlock = v.ownBlock ∨ v'.ownBlock = some w.heap.size) := by
  obtain ⟨ho, hI⟩ := GrowInt.row h
  obtain ⟨ad, c, rfl, hmc, hc, hg⟩ := hy.elems
  have hIm : ∀ x ∈ m, I64 x := by
    intro x hx
    obtain ⟨j, hj, rfl⟩ := List.getElem_of_mem hx
    obtain ⟨_, _, cs, _, _, hxx, _⟩ := hg j hj
    obtain ⟨c0, rfl⟩ := list1 hxx.len
    exact hxx.int.2
  have hIa : ∀ x ∈ l ++ m, I64 x := fun x hx => (List.mem_append.1 hx).elim (hI x) (hIm x)
  cases ad with
  | none =>
    have hm0 : m = [] := by
      rcases m with _ | ⟨x, m⟩
      · rfl
      · obtain ⟨_, _, _, h, _⟩ := hg 0 (by simp); cases h
    subst hm0
    refine ⟨v, w, run_append_of_none w t ty e i 1 ht hi v l.length _ ho c, by simpa using h, World.grownBy.refl w _, .inl rfl⟩
  | some a =>
    have hnews : ∀ j u, (m.map (Value.int .i64))[j]? = some u → w.cell? (a.add j) = some u := by
      intro j u hu
      rw [List.getElem?_map] at hu
      obtain ⟨x, hx, rfl⟩ := Option.map_eq_some_iff.1 hu
      have hj := (List.getElem?_eq_some_iff.1 hx).1
      obtain ⟨b, off, cs, hab, _, hxx, hcs⟩ := hg j hj
      injection hab with hab
      subst hab
      obtain ⟨c0, rfl⟩ := list1 hxx.len
      have h1 := hcs 0 _ rfl
      rw [hxx.int.1] at h1
      have hadd : (⟨b, off, none⟩ : Addr).add j = ⟨b, off + j, none⟩ := by
        unfold Addr.add
        by_cases hk : j = 0
        · subst hk; rfl
        · rw [if_neg hk]
      rw [hadd]
      have hxe : m[j] = x := by have := List.getElem?_eq_getElem hj; rw [hx] at this; injection this with this; exact this.symm
      rw [hxe] at h1
      simpa [Rp.int] using h1
    obtain ⟨v', w', hrun, h2, h3, _, h5⟩ := run_append_own_at (P := P) w base t ty e i (.int .i64 0) 1 8 ht hi hz hsize hby rfl (by omega) v l.length _ ho a m.length c (m.map (Value.int .i64)) (by simp) hnews
      (fun u hu => by obtain ⟨x, _, rfl⟩ := List.mem_map.1 hu; rfl) (by unfold maxLen; omega) (by omega) hbase
    exact ⟨v', w', hrun, GrowInt.of (by simpa using h2) hIa, h3, h5⟩

theorem wpList_append_ints {ops : Array Oper} {rest : List Oper} {op : Oper} {a : Act} {Q : Exit → Act → World → Prop} {o : Bool} {base : Nat} {v : Value} {l m : List Int} (hgd : op.guard = none) (s y : Operand) (t : TypeId)
    (hop : op.op = .call { callee := .builtin .append, args := #[s, y], argTypes := #[t, t] }) (e : TypeId) (i : TypeInfo) (ht : P.underlying t = some (.slice e)) (hi : P.info? e = some i) (hz : i.zero = some (.int .i64 0))
    (hsize : i.size = 1) (hby : i.bytes = 8) (hs : a.eval s = v) (h : Grow Rp.int o base w e v l) (yv : Value) (hyv : a.eval y = yv) (hy : Has RIntS w [yv] m) (hlen : l.length + m.length ≤ 17592186044416) (hbase : base ≤ w.heap.size)
    (hK : ∀ v' w', Grow Rp.int o base w' e v' (l ++ m) → w.grownBy w' v.ownBlock → (v'.ownBlock = v.ownBlock ∨ v'.ownBlock = some w.heap.size) → wpList P ops Q rest (a.put op.dst v') w') : wpList P ops Q (op :: rest) a w := by
  refine wpList_plain hgd fun K hK' => ?_
  obtain ⟨v', w', hrun, h2, h3, h4⟩ := run_append_ints (P := P) w t op.type e i ht hi hz hsize hby h yv hy hlen hbase
  unfold Oper.wp execOp
  simp only [hop, resolve, invoke, builtin, Sem.run_bind, Sem.run_pure, Result.andThen_ok, List.map_toArray, List.map_cons, List.map_nil, hs, hyv, hrun]
  exact hK' _ _ (hK v' w' h2 h3 h4)
theorem step_append_ints {ops : Array Oper} {op : Oper} {a : Act} {K : Act → World → Prop} {Q : Exit → Act → World → Prop} {E : Prop} {o : Bool} {base : Nat} {v : Value} {l m : List Int} (hgd : op.guard = none) (s y : Operand) (t : TypeId)
    (hop : op.op = .call { callee := .builtin .append, args := #[s, y], argTypes := #[t, t] }) (e : TypeId) (i : TypeInfo) (ht : P.underlying t = some (.slice e)) (hi : P.info? e = some i) (hz : i.zero = some (.int .i64 0))
    (hsize : i.size = 1) (hby : i.bytes = 8) (hs : a.eval s = v) (h : Grow Rp.int o base w e v l) (yv : Value) (hyv : a.eval y = yv) (hy : Has RIntS w [yv] m) (hlen : l.length + m.length ≤ 17592186044416) (hbase : base ≤ w.heap.size)
    (hK : ∀ v' w', Grow Rp.int o base w' e v' (l ++ m) → w.grownBy w' v.ownBlock → (v'.ownBlock = v.ownBlock ∨ v'.ownBlock = some w.heap.size) → K (a.put op.dst v') w') :
    if Region.wanted op (yielded ops a.tmps) = true then Oper.wp P op a w K Q else E := by
  rw [if_pos (by simp [Region.wanted, hgd])]
  obtain ⟨v', w', hrun, h2, h3, h4⟩ := run_append_ints (P := P) w t op.type e i ht hi hz hsize hby h yv hy hlen hbase
  unfold Oper.wp execOp
  simp only [hop, resolve, invoke, builtin, Sem.run_bind, Sem.run_pure, Result.andThen_ok, List.map_toArray, List.map_cons, List.map_nil, hs, hyv, hrun]
  exact hK v' w' h2 h3 h4
end

theorem GrowInt.keep {o : Bool} {base : Nat} {w w' : World} {e : TypeId} {v : Value} {l : List Int} (h : Grow Rp.int o base w e v l) {row : Option Nat} (hgr : w.grownBy w' row) (hne : ∀ k, v.ownBlock = some k → some k ≠ row) : Grow Rp.int o base w' e v l := by
  obtain ⟨h1, h2⟩ := GrowInt.row h
  refine GrowInt.of (h1.kept hgr ?_) h2
  cases hv : v.ownBlock with
  | none => exact .inl rfl
  | some k => exact .inr (hne k hv)

/-- A step of a region: a copy of a slice of integers, appended to an empty literal in block g; three cells of a box are as they were. -/
theorem step_copy_ints {P : Program} {ops : Array Oper} {op : Oper} {a : Act} {K : Act → World → Prop} {Q : Exit → Act → World → Prop} {E : Prop} {B g b0 : Nat} {w W : World} {m : List Int} {v0 v1 v2 : Value} (hgd : op.guard = none) (s y : Operand) (t : TypeId)
    (hop : op.op = .call { callee := .builtin .append, args := #[s, y], argTypes := #[t, t] }) (e : TypeId) (i : TypeInfo) (ht : P.underlying t = some (.slice e)) (hi : P.info? e = some i) (hz : i.zero = some (.int .i64 0))
    (hsize : i.size = 1) (hby : i.bytes = 8) (hs : a.eval s = .slice (some ⟨g, 0, none⟩) 0 0) (yv : Value) (hyv : a.eval y = yv) (hg : W.heap[g]? = some (.cells #[] e (0, 0))) (hBg : w.heap.size ≤ g) (hB : B ≤ g) (hb : Below w.heap.size w W)
    (hy : Has RIntS w [yv] m) (hlen : m.length ≤ 1099511627776) (hS : W.cell? ⟨b0, 0, none⟩ = some v0 ∧ W.cell? ⟨b0, 1, none⟩ = some v1 ∧ W.cell? ⟨b0, 2, none⟩ = some v2) (hb0 : b0 < g)
    (hK : ∀ ad cap W', Grow Rp.int true B W' e (.slice ad m.length cap) m → W.grownBy W' (some g) → (∀ k, (Value.slice ad m.length cap).ownBlock = some k → (k = g ∨ k = W.heap.size) ∧ k < W'.heap.size) → Below w.heap.size w W' → W.heap.size ≤ W'.heap.size →
      W'.cell? ⟨b0, 0, none⟩ = some v0 ∧ W'.cell? ⟨b0, 1, none⟩ = some v1 ∧ W'.cell? ⟨b0, 2, none⟩ = some v2 → (∀ k, k < g → ∀ o p, W'.cell? ⟨k, o, p⟩ = W.cell? ⟨k, o, p⟩) → (∀ k, k < g → ∀ o p, W'.frozen? ⟨k, o, p⟩ = W.frozen? ⟨k, o, p⟩) → K (a.put op.dst (.slice ad m.length cap)) W') :
    if Region.wanted op (yielded ops a.tmps) = true then Oper.wp P op a W K Q else E := by
  have hgl : g < W.heap.size := by
    rcases Nat.lt_or_ge g W.heap.size with h | h
    · exact h
    · rw [Array.getElem?_eq_none h] at hg; cases hg
  refine step_append_ints (P := P) W hgd s y t hop e i ht hi hz hsize hby hs (Grow.of_empty (o := true) (base := B) hg hB) yv hyv (hy.below hb) (by simp; omega) (by omega) ?_
  intro v' W' hg' hgr hat
  simp only [List.nil_append] at hg'
  obtain ⟨ad, cap, rfl, _⟩ := hg'.form
  have hsz := hgr.size
  refine hK ad cap W' hg' hgr (fun k hk => ⟨?_, ?_⟩) (hb.grown hgr (by omega) (fun k hk => by simp [Value.ownBlock] at hk; omega)) hsz ⟨?_, ?_, ?_⟩ (fun k hk o p => hgr.cell_far ⟨k, o, p⟩ (by simp; omega) (by simp [Value.ownBlock]; omega)) (fun k hk o p => hgr.frozen_far ⟨k, o, p⟩ (by simp; omega) (by simp [Value.ownBlock]; omega))
  · rcases hat with h | h
    · rw [hk] at h; simp [Value.ownBlock] at h; exact .inl h
    · rw [hk] at h; injection h with h; exact .inr h
  · exact (ownsRow_lt (GrowInt.row hg').1 hk).2
  · exact (hgr.cell_far ⟨b0, 0, none⟩ (by simp; omega) (by simp [Value.ownBlock]; omega)).trans hS.1
  · exact (hgr.cell_far ⟨b0, 1, none⟩ (by simp; omega) (by simp [Value.ownBlock]; omega)).trans hS.2.1
  · exact (hgr.cell_far ⟨b0, 2, none⟩ (by simp; omega) (by simp [Value.ownBlock]; omega)).trans hS.2.2
end Go.Proofs.YtgffgcpcjpjfgaaGreat

/-
  Copies in memory of the call's own: numbers' limbs, fractions, points, motions.
-/
namespace Go.Proofs.YtgffgcpcjpjfgaaGreat
open Go.RowKit
theorem infoI : (Tryz.prog.info? 3).map (fun i => (i.zero, i.size, i.bytes)) = some (some (.int .i64 0), 1, 8) := by kernel_rfl

set_option maxRecDepth 100000 in
set_option maxHeartbeats 400000 in
theorem clone_any (v : Value) (l : DIntS) (w : World) (hl : Has RIntS w [v] l) (hs : l.length ≤ 1099511627776) :
    Calls Tryz.prog 109 #[v] w (Post (Own1Post RIntS l w)) := by
  obtain ⟨i0, hi, hz0, hz1, hz2⟩ := info_parts infoI
  have HL := Lib.hid hl
  obtain ⟨ad, c, rfl, hc, hm⟩ := hl.len_slice
  unfold maxLen at hm
  clear hl
  cases ad with
  | none =>
    have h0 : l = [] := by
      obtain ⟨fp, a, c', h1, _, _, h4⟩ := HL.out
      rcases h4 with ⟨h, _⟩ | ⟨_, _, _, _, h, _⟩
      · exact h
      · injection h1 with h1; injection h1 with h1; rw [h] at h1; cases h1
    subst h0
    have hq : ∀ W, (binOp .eql 22 (.slice none 0 c) (.slice none 0 0)).run Tryz.prog W = .ok (.bool true) W := fun (W : World) => Lib.run_eql_slice_nil (P := Tryz.prog) W 22 3 none 0 c 0 0 Tryz.underlying22
    go_enter Tryz.func109, Tryz.ntmps109
    go_wp2
    go_ret
    exact ⟨_, rfl, ⟨[], ⟨none, 0, rfl, Nat.le_refl _, Nat.zero_le _, .inl ⟨rfl, rfl⟩⟩, List.nodup_nil, fun b hb => by cases hb⟩, Below.refl _ _⟩
  | some a =>
    have hq : ∀ W, (binOp .eql 22 (.slice (some a) l.length c) (.slice none 0 0)).run Tryz.prog W = .ok (.bool false) W := fun (W : World) => Lib.run_eql_slice_nil (P := Tryz.prog) W 22 3 (some a) l.length c 0 0 Tryz.underlying22
    have HG := Lib.hid (Grow.lit Rp.int true w 3 (Nat.le_refl _))
    go_enter Tryz.func109, Tryz.ntmps109
    go_wp2_with (at_builtin; refine wpList_append_ints _ rfl _ _ _ rfl 3 i0 Tryz.underlying22 hi hz0 hz1 hz2 rfl HG.out _ rfl (HL.out.below ((Below.refl _ _).alloc (Nat.le_refl _) _)) (by simp; omega) (by simp) ?_)
    intro v' w' hg hgr hat
    have hb : Below w.heap.size w w' := ((Below.refl _ _).alloc (Nat.le_refl _) _).grown hgr (by simp) (fun k hk => by simp [Value.ownBlock] at hk; omega)
    go_wp2
    go_ret
    exact ⟨_, rfl, hg.own, hb⟩

set_option maxRecDepth 100000 in
set_option maxHeartbeats 400000 in
theorem ownRat_any (c0 c1 c2 : Value) (x : DRat) (w : World) (hx : Has RRat w [c0, c1, c2] x) (hs1 : x.1.2.length ≤ 1099511627776) (hs2 : x.2.length ≤ 1099511627776) :
    Calls Tryz.prog 56 #[.agg #[c0, c1, c2]] w (Post (OwnPost RRat x w)) := by
  obtain ⟨hx0, hx1⟩ := hx.split [c0, c1] [c2] rfl
  obtain ⟨hx00, hx01⟩ := hx0.split [c0] [c1] rfl
  obtain rfl := hx00.bool
  have HX1 := Lib.hid hx01; have HX2 := Lib.hid hx1
  clear hx hx0 hx1 hx00 hx01
  have HS1 := Lib.hid hs1; have HS2 := Lib.hid hs2; clear hs1 hs2
  go_enter Tryz.func56, Tryz.ntmps56
  go_wp2
  go_region_held3 (fun w' => w'.cell? ⟨w.heap.size, 0, none⟩ = some (.bool x.1.1) ∧ w'.cell? ⟨w.heap.size, 1, none⟩ = some c1 ∧ w'.cell? ⟨w.heap.size, 2, none⟩ = some c2)
    (first | go_keep | exact ⟨hk1_0, hk1_1, hk1_2⟩ | exact ⟨hk2_0, hk2_1, hk2_2⟩)
    (first
      | (go_at_call_of 109 c1; refine (clone_any _ _ _ (HX1.out.below ((((Below.refl w.heap.size w).alloc (Nat.le_refl _) _).alloc (by simp <;> omega) _).drew)) HS1.out).mono ?_; rintro e w1 ⟨v1, rfl, ho1, hc1⟩; have hk1_0 : w1.cell? ⟨w.heap.size, 0, none⟩ = some (.bool x.1.1) := (hc1.cell (p := ⟨w.heap.size, 0, none⟩) (by simp <;> omega)).trans (by simp [go_sem]); have hk1_1 : w1.cell? ⟨w.heap.size, 1, none⟩ = some c1 := (hc1.cell (p := ⟨w.heap.size, 1, none⟩) (by simp <;> omega)).trans (by simp [go_sem]); have hk1_2 : w1.cell? ⟨w.heap.size, 2, none⟩ = some c2 := (hc1.cell (p := ⟨w.heap.size, 2, none⟩) (by simp <;> omega)).trans (by simp [go_sem]); obtain ⟨ad1, cap1, rfl, _, _⟩ := ho1.has.len_slice; obtain ⟨hcr1, hfr1⟩ := bcell hc1; have hz1 := hc1.size; simp at hz1; have hlt0 : w.heap.size < w1.heap.size := (by omega); have hlt1 : w.heap.size + 1 < w1.heap.size := (by omega); have hbq : Below w.heap.size w w1 := Below.up ((((Below.refl w.heap.size w).alloc (Nat.le_refl _) _).alloc (by simp <;> omega) _).drew) hc1 (by simp <;> omega); simp only [World.size_drew, World.size_alloc] at ho1)
      | (go_at_call_of 109 c2; refine (clone_any _ _ _ (HX2.out.below hbq) HS2.out).mono ?_; rintro e w2 ⟨v2, rfl, ho2, hc2⟩; have hk2_0 := (hc2.cell (p := ⟨w.heap.size, 0, none⟩) hlt0).trans hk1_0; have hk2_1 := (hc2.cell (p := ⟨w.heap.size, 1, none⟩) hlt0).trans hk1_1; have hk2_2 := (hc2.cell (p := ⟨w.heap.size, 2, none⟩) hlt0).trans hk1_2; obtain ⟨ad2, cap2, rfl, _, _⟩ := ho2.has.len_slice; obtain ⟨hcr2, hfr2⟩ := bcell hc2; have HO1 := Lib.hid (ho1.inn.below hc2 (Nat.le_refl _)); have HO2 := Lib.hid ho2.inn; have hbw2 := Below.up hbq hc2 (by omega); clear ho1 ho2))
  rename_i hh
  clear hh
  go_wp2
  refine bodyPost_ret (v := .agg #[.bool x.1.1, .slice ad1 x.1.2.length cap1, .slice ad2 x.2.length cap2]) (by simp [results, go_sem, hcr2, hlt1, hcr1]) rfl ⟨_, rfl, ⟨[.bool x.1.1, .slice ad1 x.1.2.length cap1, .slice ad2 x.2.length cap2], rfl, ?_⟩, ?_⟩
  · have G1 := ((HO1.out.setCell (p := ⟨w.heap.size + 1, 0, none⟩) (.inl (by simp)) (.bool x.1.1)).setCell (p := ⟨w.heap.size + 1, 1, none⟩) (.inl (by simp)) (.slice ad1 x.1.2.length cap1)).setCell (p := ⟨w.heap.size + 1, 2, none⟩) (.inl (by simp)) (.slice ad2 x.2.length cap2)
    have G2 := ((HO2.out.setCell (p := ⟨w.heap.size + 1, 0, none⟩) (.inl hlt1) (.bool x.1.1)).setCell (p := ⟨w.heap.size + 1, 1, none⟩) (.inl hlt1) (.slice ad1 x.1.2.length cap1)).setCell (p := ⟨w.heap.size + 1, 2, none⟩) (.inl hlt1) (.slice ad2 x.2.length cap2)
    exact OwnIn.own (OwnIn.pair (OwnIn.pair (OwnIn.bool (w.heap.size + 1 + 1) _ x.1.1) G1 (by omega) (by omega) (by omega)) G2 (by omega) (by omega) (by have := hc2.size; omega)) (by omega)
  · exact ((hbw2.setCell (p := ⟨w.heap.size + 1, 0, none⟩) (by simp) _).setCell (p := ⟨w.heap.size + 1, 1, none⟩) (by simp) _).setCell (p := ⟨w.heap.size + 1, 2, none⟩) (by simp) _
end Go.Proofs.YtgffgcpcjpjfgaaGreat

/-
  The reference's copies of fractions and points.
-/
namespace Go.Proofs.YtgffgcpcjpjfgaaGreat
open Go.RowKit

theorem heap_new {w : World} {o : Obj} {g : Nat} (h : g = w.heap.size) : (w.alloc o).heap[g]? = some o := by subst h; show (w.heap.push o)[w.heap.size]? = some o; simp
theorem heap_old {w : World} {o x : Obj} {g : Nat} (h : g < w.heap.size) (hx : w.heap[g]? = some x) : (w.alloc o).heap[g]? = some x := by
  rw [← hx]
  show (w.heap.push o)[g]? = w.heap[g]?
  rw [Array.getElem?_push, if_neg (Nat.ne_of_lt h)]
theorem heap_drew' {w : World} {o : Obj} {g : Nat} (h : w.heap[g]? = some o) : w.drew.heap[g]? = some o := h

/-- The value's memory lies from block 'base' on. -/
def New {α : Type} (A : Rp α) (base : Nat) (w : World) (cs : List Value) (a : α) : Prop := ∃ fp, A.rep w cs a fp ∧ ∀ b ∈ fp, base ≤ b
theorem Own.new {α : Type} {A : Rp α} {base : Nat} {w : World} {cs : List Value} {a : α} (h : Own A base w cs a) : New A base w cs a := let ⟨fp, hr, _, ho⟩ := h; ⟨fp, hr, fun b hb => (ho b hb).1⟩
theorem New.has {α : Type} {A : Rp α} {base : Nat} {w : World} {cs : List Value} {a : α} (h : New A base w cs a) : Has A w cs a := let ⟨fp, hr, _⟩ := h; ⟨fp, hr⟩
theorem New.below {α : Type} {A : Rp α} {base : Nat} {w w' : World} {cs : List Value} {a : α} (h : New A base w cs a) (hb : Below w.heap.size w w') : New A base w' cs a :=
  let ⟨fp, hr, ho⟩ := h; ⟨fp, A.frame hr fun b hb' => hb.block b (A.lt hr b hb'), ho⟩
theorem New.mono {α : Type} {A : Rp α} {base base' : Nat} {w : World} {cs : List Value} {a : α} (h : New A base w cs a) (hb : base' ≤ base) : New A base' w cs a := let ⟨fp, hr, ho⟩ := h; ⟨fp, hr, fun b hb' => Nat.le_trans hb (ho b hb')⟩
theorem New.frame {α : Type} {A : Rp α} {base : Nat} {w w' : World} {cs : List Value} {a : α} (h : New A base w cs a) (hf : ∀ b, base ≤ b → b < w.heap.size → w'.heap[b]? = w.heap[b]?) : New A base w' cs a :=
  let ⟨fp, hr, ho⟩ := h; ⟨fp, A.frame hr fun b hb' => hf b (ho b hb') (A.lt hr b hb'), ho⟩
theorem New.setCell {α : Type} {A : Rp α} {base : Nat} {w : World} {cs : List Value} {a : α} (h : New A base w cs a) {p : Addr} (hp : p.block < base) (v : Value) : New A base (w.setCell p v) cs a :=
  h.frame fun b h1 _ => Below.heap_setCell _ _ _ _ (by omega)
theorem New.pair {α β : Type} {A : Rp α} {B : Rp β} {base : Nat} {w : World} {a : α} {b : β} {cs1 cs2 : List Value} (h1 : New A base w cs1 a) (h2 : New B base w cs2 b) : New (Rp.prod A B) base w (cs1 ++ cs2) (a, b) :=
  let ⟨f1, r1, o1⟩ := h1; let ⟨f2, r2, o2⟩ := h2; ⟨f1 ++ f2, rep_pair r1 r2, fun b hb => (List.mem_append.1 hb).elim (o1 b) (o2 b)⟩
theorem New.bool (base : Nat) (w : World) (b : Bool) : New Rp.bool base w [.bool b] b := ⟨[], ⟨rfl, rfl⟩, fun _ h => by cases h⟩
theorem New.int (base : Nat) (w : World) {n : Int} (h : I64 n) : New Rp.int base w [.int .i64 n] n := ⟨[], ⟨rfl, rfl, h⟩, fun _ h => by cases h⟩
def NewPost {α : Type} (A : Rp α) (a : α) (w : World) : Value → World → Prop := fun v w' => (∃ cs, v = .agg cs.toArray ∧ New A w.heap.size w' cs a) ∧ Below w.heap.size w w'
theorem Has.pair {α β : Type} {A : Rp α} {B : Rp β} {w : World} {a : α} {b : β} {cs1 cs2 : List Value} (h1 : Has A w cs1 a) (h2 : Has B w cs2 b) : Has (Rp.prod A B) w (cs1 ++ cs2) (a, b) := let ⟨f1, r1⟩ := h1; let ⟨f2, r2⟩ := h2; ⟨f1 ++ f2, rep_pair r1 r2⟩
theorem Has.ofBool (w : World) (b : Bool) : Has Rp.bool w [.bool b] b := ⟨[], rfl, rfl⟩
theorem Has.ofInt (w : World) {n : Int} (h : I64 n) : Has Rp.int w [.int .i64 n] n := ⟨[], rfl, rfl, h⟩
theorem OwnPost.newPost {α : Type} {A : Rp α} {a : α} {w w' : World} {v : Value} (h : OwnPost A a w v w') : NewPost A a w v w' := let ⟨⟨cs, h1, h2⟩, h3⟩ := h; ⟨⟨cs, h1, h2.new⟩, h3⟩

set_option maxRecDepth 100000 in
set_option maxHeartbeats 400000 in
theorem l04Copy_any (c0 c1 c2 : Value) (x : DRat) (w : World) (hx : Has RRat w [c0, c1, c2] x) (hs1 : x.1.2.length ≤ 1099511627776) (hs2 : x.2.length ≤ 1099511627776) :
    Calls Tryz.prog 148 #[.agg #[c0, c1, c2]] w (Post (NewPost RRat x w)) := by
  obtain ⟨i0, hi, hz0, hz1, hz2⟩ := info_parts infoI
  obtain ⟨hx0, hx1⟩ := hx.split [c0, c1] [c2] rfl
  obtain ⟨hx00, hx01⟩ := hx0.split [c0] [c1] rfl
  obtain rfl := hx00.bool
  have HX1 := Lib.hid hx01; have HX2 := Lib.hid hx1
  clear hx hx0 hx1 hx00 hx01
  have HS1 := Lib.hid hs1; have HS2 := Lib.hid hs2; clear hs1 hs2
  go_enter Tryz.func148, Tryz.ntmps148
  go_wp2
  go_region_held3 (fun w' => w'.cell? ⟨w.heap.size, 0, none⟩ = some (.bool x.1.1) ∧ w'.cell? ⟨w.heap.size, 1, none⟩ = some c1 ∧ w'.cell? ⟨w.heap.size, 2, none⟩ = some c2)
    (first | go_keep | assumption)
    (first
      | (refine step_copy_ints (P := Tryz.prog) (b0 := w.heap.size) (B := w.heap.size + 1 + 1) (v0 := .bool x.1.1) (v1 := c1) (v2 := c2) (by rfl) (.tmp 6) (.tmp 9) _ (by rfl) 3 i0 Tryz.underlying22 hi hz0 hz1 hz2 (by rfl) _ (by rfl) ?_ ?_ ?_ ?_ HX1.out HS1.out (by assumption) ?_ ?_
         · (repeat (first | with_reducible refine heap_drew' ?_ | (with_reducible refine heap_new ?_; (first | omega | (simp; done) | (simp <;> omega)); done) | (with_reducible refine heap_old ?_ ?_; (· (first | omega | (simp; done) | (simp <;> omega)))) | (refine (hgr2.block _ ?_ ?_).trans ?_; (· (first | omega | (simp; done) | (simp <;> omega))); (· (first | omega | (simp; done) | (simp <;> omega)))) | fail))
         · (first | omega | (simp; done) | (simp <;> omega))
         · (first | omega | (simp; done) | (simp <;> omega))
         · (repeat (first | with_reducible exact hbw2 | refine Below.drew ?_ | exact Below.refl _ _ | (refine Below.alloc ?_ (by first | omega | (simp; done) | (simp <;> omega)) _)))
         · (first | omega | (simp; done) | (simp <;> omega))
         intro ad1 cap1 w1 hg1 hgr1 hat1 hbw1 hzz1 hS1 hcr1 hfr1
         first | simp at hzz1 | skip
         have hl01 : w.heap.size < w1.heap.size := by omega
         have hl11 : w.heap.size + 1 < w1.heap.size := by omega
         first
           | (have hlx : w2.heap.size ≤ w1.heap.size := by omega
              have hgn : Grow Rp.int true (w.heap.size + 1 + 1) w1 3 (.slice ad2 _ cap2) _ := GrowInt.keep (Grow.below hg2 (by repeat (first | refine Below.drew ?_ | exact Below.refl _ _ | (refine Below.alloc ?_ (by first | omega | (simp; done) | (simp <;> omega)) _)))) hgr1 (fun k hk => by have h1 := hat2 k hk; intro e; injection e with e; first | omega | (simp at h1; omega) | (simp at h1 e; omega))
              clear hg2)
           | skip)
      | (refine step_copy_ints (P := Tryz.prog) (b0 := w.heap.size) (B := w.heap.size + 1 + 1) (v0 := .bool x.1.1) (v1 := c1) (v2 := c2) (by rfl) (.tmp 12) (.tmp 14) _ (by rfl) 3 i0 Tryz.underlying22 hi hz0 hz1 hz2 (by rfl) _ (by rfl) ?_ ?_ ?_ ?_ HX2.out HS2.out (by assumption) ?_ ?_
         · (repeat (first | with_reducible refine heap_drew' ?_ | (with_reducible refine heap_new ?_; (first | omega | (simp; done) | (simp <;> omega)); done) | (with_reducible refine heap_old ?_ ?_; (· (first | omega | (simp; done) | (simp <;> omega)))) | (refine (hgr1.block _ ?_ ?_).trans ?_; (· (first | omega | (simp; done) | (simp <;> omega))); (· (first | omega | (simp; done) | (simp <;> omega)))) | fail))
         · (first | omega | (simp; done) | (simp <;> omega))
         · (first | omega | (simp; done) | (simp <;> omega))
         · (repeat (first | with_reducible exact hbw1 | refine Below.drew ?_ | exact Below.refl _ _ | (refine Below.alloc ?_ (by first | omega | (simp; done) | (simp <;> omega)) _)))
         · (first | omega | (simp; done) | (simp <;> omega))
         intro ad2 cap2 w2 hg2 hgr2 hat2 hbw2 hzz2 hS2 hcr2 hfr2
         first | simp at hzz2 | skip
         have hl02 : w.heap.size < w2.heap.size := by omega
         have hl12 : w.heap.size + 1 < w2.heap.size := by omega
         first
           | (have hlx : w1.heap.size ≤ w2.heap.size := by omega
              have hgn : Grow Rp.int true (w.heap.size + 1 + 1) w2 3 (.slice ad1 _ cap1) _ := GrowInt.keep (Grow.below hg1 (by repeat (first | refine Below.drew ?_ | exact Below.refl _ _ | (refine Below.alloc ?_ (by first | omega | (simp; done) | (simp <;> omega)) _)))) hgr2 (fun k hk => by have h1 := hat1 k hk; intro e; injection e with e; first | omega | (simp at h1; omega) | (simp at h1 e; omega))
              clear hg1)
           | skip)
)
  all_goals (
    rename_i hh
    clear hh
    go_wp2
    first
      | (have G1 := Lib.hid (Own.new (((((hgn.own (p := Nat.one_pos)).inn.setCell (p := ⟨w.heap.size + 1, 0, none⟩) (.inl (by simp)) (.bool x.1.1)).setCell (p := ⟨w.heap.size + 1, 1, none⟩) (.inl (by simp)) (.slice ad1 x.1.2.length cap1)).setCell (p := ⟨w.heap.size + 1, 2, none⟩) (.inl (by simp)) (.slice ad2 x.2.length cap2)).own (lo2 := w.heap.size) (by omega)))
         have G2 := Lib.hid (Own.new (((((hg2.own (p := Nat.one_pos)).inn.setCell (p := ⟨w.heap.size + 1, 0, none⟩) (.inl (by simp)) (.bool x.1.1)).setCell (p := ⟨w.heap.size + 1, 1, none⟩) (.inl (by simp)) (.slice ad1 x.1.2.length cap1)).setCell (p := ⟨w.heap.size + 1, 2, none⟩) (.inl (by simp)) (.slice ad2 x.2.length cap2)).own (lo2 := w.heap.size) (by omega)))
         have HB := Lib.hid hbw2)
      | (have G1 := Lib.hid (Own.new (((((hg1.own (p := Nat.one_pos)).inn.setCell (p := ⟨w.heap.size + 1, 0, none⟩) (.inl (by simp)) (.bool x.1.1)).setCell (p := ⟨w.heap.size + 1, 1, none⟩) (.inl (by simp)) (.slice ad1 x.1.2.length cap1)).setCell (p := ⟨w.heap.size + 1, 2, none⟩) (.inl (by simp)) (.slice ad2 x.2.length cap2)).own (lo2 := w.heap.size) (by omega)))
         have G2 := Lib.hid (Own.new (((((hgn.own (p := Nat.one_pos)).inn.setCell (p := ⟨w.heap.size + 1, 0, none⟩) (.inl (by simp)) (.bool x.1.1)).setCell (p := ⟨w.heap.size + 1, 1, none⟩) (.inl (by simp)) (.slice ad1 x.1.2.length cap1)).setCell (p := ⟨w.heap.size + 1, 2, none⟩) (.inl (by simp)) (.slice ad2 x.2.length cap2)).own (lo2 := w.heap.size) (by omega)))
         have HB := Lib.hid hbw1)
    refine bodyPost_ret (v := .agg #[.bool x.1.1, .slice ad1 x.1.2.length cap1, .slice ad2 x.2.length cap2]) (by first | (simp [results, go_sem, hcr2, hfr2, hcr1, hfr1, hl11, hl12]; done) | trace_state) rfl ⟨_, rfl, ⟨[.bool x.1.1, .slice ad1 x.1.2.length cap1, .slice ad2 x.2.length cap2], rfl, ?_⟩, ?_⟩
    · exact New.pair (cs1 := [.bool x.1.1, .slice ad1 x.1.2.length cap1]) (cs2 := [.slice ad2 x.2.length cap2]) (New.pair (cs1 := [.bool x.1.1]) (cs2 := [.slice ad1 x.1.2.length cap1]) (New.bool _ _ _) G1.out) G2.out
    · exact ((HB.out.setCell (p := ⟨w.heap.size + 1, 0, none⟩) (by simp) _).setCell (p := ⟨w.heap.size + 1, 1, none⟩) (by simp) _).setCell (p := ⟨w.heap.size + 1, 2, none⟩) (by simp) _)
end Go.Proofs.YtgffgcpcjpjfgaaGreat

/-
  A point that was computed, or none. Printed by a program.
-/
namespace Go.Proofs.YtgffgcpcjpjfgaaGreat
open Go.RowKit DW
end Go.Proofs.YtgffgcpcjpjfgaaGreat

/-
  Differences of points.
-/
namespace Go.Proofs.YtgffgcpcjpjfgaaGreat.DW
open Go.RowKit
abbrev ptZ : DP := (rZ, rZ)
/-- A point of two numbers, if both are there. -/
def ptO (x y : Option Rat) : DP := if x.isSome && y.isSome then (oD x, oD y) else ptZ
theorem okPt_oD {x y : Option Rat} (hx : okO x) (hy : okO y) : okPt (oD x, oD y) = (x.isSome && y.isSome) := by
  unfold okPt okR
  rw [rdO_oD hx, rdO_oD hy]
/-- The difference of two points. -/
noncomputable def subP (p q : DP) : DP := ptO (subO (rdO p.1) (rdO q.1)) (subO (rdO p.2) (rdO q.2))
theorem subP_bad {p q : DP} (h : (okPt p && okPt q) = false) : subP p q = ptZ := by
  unfold subP ptO
  rw [if_neg]
  intro h2
  rw [Bool.and_eq_true] at h2
  have k1 : ∀ {x y : DR}, (subO (rdO x) (rdO y)).isSome = true → okR x = true ∧ okR y = true := by
    intro x y h
    unfold okR
    cases hx : rdO x with
    | none => rw [hx, subO_none_l] at h; cases h
    | some u => cases hy : rdO y with
      | none => rw [hy, subO_none_r] at h; cases h
      | some v => exact ⟨rfl, rfl⟩
  obtain ⟨a1, a2⟩ := k1 h2.1
  obtain ⟨b1, b2⟩ := k1 h2.2
  unfold okPt at h
  rw [a1, a2, b1, b2] at h
  cases h
theorem cn_ptO {x y : Option Rat} (hx : okO x) (hy : okO y) : cnPoint (ptO x y) ≤ 288 := by
  have h1 := cnPoint_le (ptO x y)
  have h2 : Go.Proofs.YtgffgcpcjpjfgaaGreat.tPoint (ptO x y) ≤ 96 := by
    unfold ptO
    split
    · have := tRat_oD' hx; have := tRat_oD' hy
      show Go.Proofs.YtgffgcpcjpjfgaaGreat.tRat (oD x) + Go.Proofs.YtgffgcpcjpjfgaaGreat.tRat (oD y) ≤ 96
      omega
    · decide
  omega
theorem cn_subP (p q : DP) : cnPoint (subP p q) ≤ 3145728 := by
  have := cn_ptO (okO_sub (rdO p.1) (rdO q.1)) (okO_sub (rdO p.2) (rdO q.2))
  show cnPoint (ptO _ _) ≤ _
  omega
end Go.Proofs.YtgffgcpcjpjfgaaGreat.DW

/-
  Tours: stands.
-/
namespace Go.Proofs.YtgffgcpcjpjfgaaGreat.DW
open Go.RowKit
theorem ownPoint_fn (p : DP) (h : okPt p = true) : Fn Tryz.prog 112 [⟨tPoint, p⟩] true [⟨tPoint, p⟩] := by
  unfold okPt at h
  rw [Bool.and_eq_true] at h
  have h1 := okR_len h.1
  have h2 := okR_len h.2
  have c1 := ownRat_fn p.1 (by omega) (by omega)
  have c2 := ownRat_fn p.2 (by omega) (by omega)
  refine fn_enter tabOK mixes Tryz.func112 rfl rfl _ Tryz.ntmps112 _ Tryz.results112 (by simp) fun hwf => ?_
  try simp (config := { maxSteps := 10000000 }) only [go_sem, reduceIte, reduceCtorEq, Nat.reduceEqDiff, Nat.reduceLT, Nat.reduceLeDiff, Nat.reduceAdd, Nat.reduceBEq, Nat.reduceMul, Int.reduceToNat, Int.reduceLE, Int.reduceLT, Int.reduceEq, Int.reduceNeg]
  repeat (refine And.intro (by first | omega | (constructor <;> omega) | kernel_rfl) ?_)
  refine CallW.mk (c1) ?_
  try simp (config := { maxSteps := 10000000 }) only [go_sem, reduceIte, reduceCtorEq, Nat.reduceEqDiff, Nat.reduceLT, Nat.reduceLeDiff, Nat.reduceAdd, Nat.reduceBEq, Nat.reduceMul, Int.reduceToNat, Int.reduceLE, Int.reduceLT, Int.reduceEq, Int.reduceNeg]
  repeat (refine And.intro (by first | omega | (constructor <;> omega) | kernel_rfl) ?_)
  refine CallW.mk (c2) ?_
  try simp (config := { maxSteps := 10000000 }) only [go_sem, reduceIte, reduceCtorEq, Nat.reduceEqDiff, Nat.reduceLT, Nat.reduceLeDiff, Nat.reduceAdd, Nat.reduceBEq, Nat.reduceMul, Int.reduceToNat, Int.reduceLE, Int.reduceLT, Int.reduceEq, Int.reduceNeg]
  all_goals repeat (refine And.intro (by first | omega | (constructor <;> omega) | kernel_rfl) ?_)
  all_goals first | kernel_rfl | omega | rfl
theorem l05Copy_fn (p : DP) (h : okPt p = true) : Fn Tryz.prog 110 [⟨tPoint, p⟩] true [⟨tPoint, p⟩] := by
  unfold okPt at h
  rw [Bool.and_eq_true] at h
  have h1 := okR_len h.1
  have h2 := okR_len h.2
  have c1 := l04Copy_fn p.1 (by omega) (by omega)
  have c2 := l04Copy_fn p.2 (by omega) (by omega)
  refine fn_enter tabOK mixes Tryz.func110 rfl rfl _ Tryz.ntmps110 _ Tryz.results110 (by simp) fun hwf => ?_
  try simp (config := { maxSteps := 10000000 }) only [go_sem, reduceIte, reduceCtorEq, Nat.reduceEqDiff, Nat.reduceLT, Nat.reduceLeDiff, Nat.reduceAdd, Nat.reduceBEq, Nat.reduceMul, Int.reduceToNat, Int.reduceLE, Int.reduceLT, Int.reduceEq, Int.reduceNeg]
  repeat (refine And.intro (by first | omega | (constructor <;> omega) | kernel_rfl) ?_)
  refine CallW.mk (c1) ?_
  try simp (config := { maxSteps := 10000000 }) only [go_sem, reduceIte, reduceCtorEq, Nat.reduceEqDiff, Nat.reduceLT, Nat.reduceLeDiff, Nat.reduceAdd, Nat.reduceBEq, Nat.reduceMul, Int.reduceToNat, Int.reduceLE, Int.reduceLT, Int.reduceEq, Int.reduceNeg]
  repeat (refine And.intro (by first | omega | (constructor <;> omega) | kernel_rfl) ?_)
  refine CallW.mk (c2) ?_
  try simp (config := { maxSteps := 10000000 }) only [go_sem, reduceIte, reduceCtorEq, Nat.reduceEqDiff, Nat.reduceLT, Nat.reduceLeDiff, Nat.reduceAdd, Nat.reduceBEq, Nat.reduceMul, Int.reduceToNat, Int.reduceLE, Int.reduceLT, Int.reduceEq, Int.reduceNeg]
  all_goals repeat (refine And.intro (by first | omega | (constructor <;> omega) | kernel_rfl) ?_)
  all_goals first | kernel_rfl | omega | rfl
theorem ownPlacement_fn (p : DS) (h : okPt p.2 = true) : Fn Tryz.prog 69 [⟨tStep, p⟩] true [⟨tStep, p⟩] := by
  have c1 := ownPoint_fn p.2 h
  refine fn_enter tabOK mixes Tryz.func69 rfl rfl _ Tryz.ntmps69 _ Tryz.results69 (by simp) fun hwf => ?_
  try simp (config := { maxSteps := 10000000 }) only [go_sem, reduceIte, reduceCtorEq, Nat.reduceEqDiff, Nat.reduceLT, Nat.reduceLeDiff, Nat.reduceAdd, Nat.reduceBEq, Nat.reduceMul, Int.reduceToNat, Int.reduceLE, Int.reduceLT, Int.reduceEq, Int.reduceNeg]
  repeat (refine And.intro (by first | omega | (constructor <;> omega) | kernel_rfl) ?_)
  refine CallW.mk (c1) ?_
  try simp (config := { maxSteps := 10000000 }) only [go_sem, reduceIte, reduceCtorEq, Nat.reduceEqDiff, Nat.reduceLT, Nat.reduceLeDiff, Nat.reduceAdd, Nat.reduceBEq, Nat.reduceMul, Int.reduceToNat, Int.reduceLE, Int.reduceLT, Int.reduceEq, Int.reduceNeg]
  all_goals repeat (refine And.intro (by first | omega | (constructor <;> omega) | kernel_rfl) ?_)
  all_goals first | kernel_rfl | omega | rfl
/-- How many steps are taken. -/
def clip (k : Int) (n : Nat) : Nat := (max 0 (min k (n : Int))).toNat
theorem clip_le (k : Int) (n : Nat) : clip k n ≤ n := by unfold clip; omega
theorem after_fn (p : DS) (l : List DS) (k : Int) : Fn Tryz.prog 113 [⟨tStep, p⟩, ⟨.slice tStep, l⟩, ⟨.int, k⟩] false [⟨tStep, plcS p l (clip k l.length)⟩] := by
  unfold plcS clip
  refine fn_enter tabOK mixes Tryz.func113 rfl rfl _ Tryz.ntmps113 _ Tryz.results113 (by simp) fun hwf => ?_
  have hl : l.length ≤ 9223372036854775807 := (hwf ⟨.slice tStep, l⟩ (by simp)).1
  try simp (config := { maxSteps := 10000000 }) only [go_sem, reduceIte, reduceCtorEq, Nat.reduceEqDiff, Nat.reduceLT, Nat.reduceLeDiff, Nat.reduceAdd, Nat.reduceBEq, Nat.reduceMul, Int.reduceToNat, Int.reduceLE, Int.reduceLT, Int.reduceEq, Int.reduceNeg]
  have hml : (List.take (max 0 (min k ↑l.length)).toNat l).length ≤ 9223372036854775807 := by rw [List.length_take]; omega
  generalize List.take (max 0 (min k ↑l.length)).toNat l = m at hml ⊢
  repeat (refine And.intro (by first | omega | (constructor <;> omega) | kernel_rfl) ?_)
  refine LoopG.intro _ _ _ (fun i : Nat => ⟨[(3, .ptr 0 0), (6, .ptr 1 0), (15, .sl tStep m), (16, .sc (.int .i64 m.length)), (17, .sc (.int .i64 i))], [(1, .box [.sc (.int .i64 0), .sc (.bool false), .sc (.slice none 0 0), .sc (.slice none 0 0), .sc (.bool false), .sc (.slice none 0 0), .sc (.slice none 0 0)]), (0, .box [.sc (.int .i64 (plcS p m i).1), .sc (.bool (plcS p m i).2.1.1.1), .sl .int (plcS p m i).2.1.1.2, .sl .int (plcS p m i).2.1.2, .sc (.bool (plcS p m i).2.2.1.1), .sl .int (plcS p m i).2.2.1.2, .sl .int (plcS p m i).2.2.2])]⟩) (fun i => i ≤ m.length) (fun i => m.length - i) 0 ?_ (Nat.zero_le _) ?_
  · refine Wk.mk [] ?_
    try simp (config := { maxSteps := 10000000 }) only [go_sem, reduceIte, reduceCtorEq, Nat.reduceEqDiff, Nat.reduceLT, Nat.reduceLeDiff, Nat.reduceAdd, Nat.reduceBEq, Nat.reduceMul, Int.reduceToNat, Int.reduceLE, Int.reduceLT, Int.reduceEq, Int.reduceNeg]
    try (and_intros <;> first | rfl | omega | exact ⟨_, rfl⟩)
  · rintro i hi
    try simp (config := { maxSteps := 10000000 }) only [go_sem, reduceIte, reduceCtorEq, Nat.reduceEqDiff, Nat.reduceLT, Nat.reduceLeDiff, Nat.reduceAdd, Nat.reduceBEq, Nat.reduceMul, Int.reduceToNat, Int.reduceLE, Int.reduceLT, Int.reduceEq, Int.reduceNeg]
    refine CondW_dec (fun hA => ?_) (fun hA => ?_)
    · have hst := plcS_step p (show i < m.length by omega)
      have c1 := stepped_fn (plcS p m i) (nth (t := tStep) m i)
      try simp (config := { maxSteps := 10000000 }) only [go_sem, reduceIte, reduceCtorEq, Nat.reduceEqDiff, Nat.reduceLT, Nat.reduceLeDiff, Nat.reduceAdd, Nat.reduceBEq, Nat.reduceMul, Int.reduceToNat, Int.reduceLE, Int.reduceLT, Int.reduceEq, Int.reduceNeg]
      repeat (refine And.intro (by first | omega | (constructor <;> omega) | kernel_rfl) ?_)
      repeat (refine And.intro (by first | omega | (constructor <;> omega) | kernel_rfl) ?_)
      refine CallW.mk (c1) ?_
      try simp (config := { maxSteps := 10000000 }) only [go_sem, reduceIte, reduceCtorEq, Nat.reduceEqDiff, Nat.reduceLT, Nat.reduceLeDiff, Nat.reduceAdd, Nat.reduceBEq, Nat.reduceMul, Int.reduceToNat, Int.reduceLE, Int.reduceLT, Int.reduceEq, Int.reduceNeg]
      repeat (refine And.intro (by first | omega | (constructor <;> omega) | kernel_rfl) ?_)
      refine LoopK.mk (i + 1) ?_ (by omega) (by omega)
      rw [hst]
      refine Wk.mk [] ?_
      try simp (config := { maxSteps := 10000000 }) only [go_sem, reduceIte, reduceCtorEq, Nat.reduceEqDiff, Nat.reduceLT, Nat.reduceLeDiff, Nat.reduceAdd, Nat.reduceBEq, Nat.reduceMul, Int.reduceToNat, Int.reduceLE, Int.reduceLT, Int.reduceEq, Int.reduceNeg]
      try (and_intros <;> first | rfl | omega | exact ⟨_, rfl⟩)
    · have : plcF p m = plcS p m i := by unfold plcS; rw [List.take_of_length_le (by omega)]
      rw [this]
      try simp (config := { maxSteps := 10000000 }) only [go_sem, reduceIte, reduceCtorEq, Nat.reduceEqDiff, Nat.reduceLT, Nat.reduceLeDiff, Nat.reduceAdd, Nat.reduceBEq, Nat.reduceMul, Int.reduceToNat, Int.reduceLE, Int.reduceLT, Int.reduceEq, Int.reduceNeg]
      all_goals repeat (refine And.intro (by first | omega | (constructor <;> omega) | kernel_rfl) ?_)
      all_goals first | kernel_rfl | omega | rfl
theorem PlacementAfter_fn (p : DS) (l : List DS) (k : Int) (h : okPt (plcS p l (clip k l.length)).2 = true) : Fn Tryz.prog 66 [⟨tStep, p⟩, ⟨.slice tStep, l⟩, ⟨.int, k⟩] true [⟨tStep, plcS p l (clip k l.length)⟩] := by
  have c2 := l05Copy_fn _ h
  refine fn_enter tabOK mixes Tryz.func66 rfl rfl _ Tryz.ntmps66 _ Tryz.results66 (by simp) fun hwf => ?_
  have hl : l.length ≤ 9223372036854775807 := (hwf ⟨.slice tStep, l⟩ (by simp)).1
  try simp (config := { maxSteps := 10000000 }) only [go_sem, reduceIte, reduceCtorEq, Nat.reduceEqDiff, Nat.reduceLT, Nat.reduceLeDiff, Nat.reduceAdd, Nat.reduceBEq, Nat.reduceMul, Int.reduceToNat, Int.reduceLE, Int.reduceLT, Int.reduceEq, Int.reduceNeg]
  refine LoopG.intro _ _ _ (fun i : Nat => ⟨[(2, .sc (.int .i64 k)), (3, .ptr 0 0), (6, .ptr 1 0), (9, .sl tStep l), (10, .sc (.int .i64 l.length)), (11, .sc (.int .i64 i))], [(1, .box [.sc (.int .i64 0), .sc (.bool false), .sc (.slice none 0 0), .sc (.slice none 0 0), .sc (.bool false), .sc (.slice none 0 0), .sc (.slice none 0 0)]), (0, .box [.sc (.int .i64 (plcS p l (clip k i)).1), .sc (.bool (plcS p l (clip k i)).2.1.1.1), .sl .int (plcS p l (clip k i)).2.1.1.2, .sl .int (plcS p l (clip k i)).2.1.2, .sc (.bool (plcS p l (clip k i)).2.2.1.1), .sl .int (plcS p l (clip k i)).2.2.1.2, .sl .int (plcS p l (clip k i)).2.2.2])]⟩) (fun i => i ≤ l.length) (fun i => l.length - i) 0 ?_ (Nat.zero_le _) ?_
  · have e0 : plcS p l (clip k 0) = p := by rw [show clip k 0 = 0 by unfold clip; omega]; rfl
    rw [e0]
    refine Wk.mk [] ?_
    try simp (config := { maxSteps := 10000000 }) only [go_sem, reduceIte, reduceCtorEq, Nat.reduceEqDiff, Nat.reduceLT, Nat.reduceLeDiff, Nat.reduceAdd, Nat.reduceBEq, Nat.reduceMul, Int.reduceToNat, Int.reduceLE, Int.reduceLT, Int.reduceEq, Int.reduceNeg]
    try (and_intros <;> first | rfl | omega | exact ⟨_, rfl⟩)
  · rintro i hi
    try simp (config := { maxSteps := 10000000 }) only [go_sem, reduceIte, reduceCtorEq, Nat.reduceEqDiff, Nat.reduceLT, Nat.reduceLeDiff, Nat.reduceAdd, Nat.reduceBEq, Nat.reduceMul, Int.reduceToNat, Int.reduceLE, Int.reduceLT, Int.reduceEq, Int.reduceNeg]
    refine CondW_dec (fun hA => ?_) (fun hA => ?_)
    · try simp (config := { maxSteps := 10000000 }) only [go_sem, reduceIte, reduceCtorEq, Nat.reduceEqDiff, Nat.reduceLT, Nat.reduceLeDiff, Nat.reduceAdd, Nat.reduceBEq, Nat.reduceMul, Int.reduceToNat, Int.reduceLE, Int.reduceLT, Int.reduceEq, Int.reduceNeg]
      repeat (refine And.intro (by first | omega | (constructor <;> omega) | kernel_rfl) ?_)
      refine CondW_dec (fun hB => ?_) (fun hB => ?_)
      · have hst := plcS_step p (show i < l.length by omega)
        rw [show i = clip k i by unfold clip; omega, show clip k i + 1 = clip k (i + 1) by unfold clip; omega] at hst
        have hci : clip k i = i := by unfold clip; omega
        rw [hci] at hst
        have c1 := l22After_fn (plcS p l i) (nth (t := tStep) l i)
        rw [hci]
        try simp (config := { maxSteps := 10000000 }) only [go_sem, reduceIte, reduceCtorEq, Nat.reduceEqDiff, Nat.reduceLT, Nat.reduceLeDiff, Nat.reduceAdd, Nat.reduceBEq, Nat.reduceMul, Int.reduceToNat, Int.reduceLE, Int.reduceLT, Int.reduceEq, Int.reduceNeg]
        repeat (refine And.intro (by first | omega | (constructor <;> omega) | kernel_rfl) ?_)
        refine CallW.mk (c1) ?_
        try simp (config := { maxSteps := 10000000 }) only [go_sem, reduceIte, reduceCtorEq, Nat.reduceEqDiff, Nat.reduceLT, Nat.reduceLeDiff, Nat.reduceAdd, Nat.reduceBEq, Nat.reduceMul, Int.reduceToNat, Int.reduceLE, Int.reduceLT, Int.reduceEq, Int.reduceNeg]
        repeat (refine And.intro (by first | omega | (constructor <;> omega) | kernel_rfl) ?_)
        refine LoopK.mk (i + 1) ?_ (by omega) (by omega)
        rw [hst]
        refine Wk.mk [] ?_
        try simp (config := { maxSteps := 10000000 }) only [go_sem, reduceIte, reduceCtorEq, Nat.reduceEqDiff, Nat.reduceLT, Nat.reduceLeDiff, Nat.reduceAdd, Nat.reduceBEq, Nat.reduceMul, Int.reduceToNat, Int.reduceLE, Int.reduceLT, Int.reduceEq, Int.reduceNeg]
        try (and_intros <;> first | rfl | omega | exact ⟨_, rfl⟩)
      · have hst : clip k (i + 1) = clip k i := by unfold clip; omega
        try simp (config := { maxSteps := 10000000 }) only [go_sem, reduceIte, reduceCtorEq, Nat.reduceEqDiff, Nat.reduceLT, Nat.reduceLeDiff, Nat.reduceAdd, Nat.reduceBEq, Nat.reduceMul, Int.reduceToNat, Int.reduceLE, Int.reduceLT, Int.reduceEq, Int.reduceNeg]
        repeat (refine And.intro (by first | omega | (constructor <;> omega) | kernel_rfl) ?_)
        refine LoopK.mk (i + 1) ?_ (by omega) (by omega)
        rw [hst]
        refine Wk.mk [] ?_
        try simp (config := { maxSteps := 10000000 }) only [go_sem, reduceIte, reduceCtorEq, Nat.reduceEqDiff, Nat.reduceLT, Nat.reduceLeDiff, Nat.reduceAdd, Nat.reduceBEq, Nat.reduceMul, Int.reduceToNat, Int.reduceLE, Int.reduceLT, Int.reduceEq, Int.reduceNeg]
        try (and_intros <;> first | rfl | omega | exact ⟨_, rfl⟩)
    · rw [show i = l.length by omega]
      generalize plcS p l (clip k l.length) = q at c2 ⊢
      try simp (config := { maxSteps := 10000000 }) only [go_sem, reduceIte, reduceCtorEq, Nat.reduceEqDiff, Nat.reduceLT, Nat.reduceLeDiff, Nat.reduceAdd, Nat.reduceBEq, Nat.reduceMul, Int.reduceToNat, Int.reduceLE, Int.reduceLT, Int.reduceEq, Int.reduceNeg]
      repeat (refine And.intro (by first | omega | (constructor <;> omega) | kernel_rfl) ?_)
      repeat (refine And.intro (by first | omega | (constructor <;> omega) | kernel_rfl) ?_)
      refine CallW.mk (c2) ?_
      try simp (config := { maxSteps := 10000000 }) only [go_sem, reduceIte, reduceCtorEq, Nat.reduceEqDiff, Nat.reduceLT, Nat.reduceLeDiff, Nat.reduceAdd, Nat.reduceBEq, Nat.reduceMul, Int.reduceToNat, Int.reduceLE, Int.reduceLT, Int.reduceEq, Int.reduceNeg]
      all_goals repeat (refine And.intro (by first | omega | (constructor <;> omega) | kernel_rfl) ?_)
      all_goals first | kernel_rfl | omega | rfl
theorem okPt_stp {p x : DS} (hp : okPt p.2 = true) (hx : okPt x.2 = true) : okPt (stp p x).2 = true := by
  unfold stp
  split
  · exact hx
  · split
    · exact hp
    · exact hp
theorem okPt_go {l : List DS} : ∀ {p : DS}, okPt p.2 = true → tvGo p l = true → ∀ i, okPt (plcS p l i).2 = true := by
  induction l with
  | nil => intro p hp _ i; unfold plcS; rw [List.take_nil]; exact hp
  | cons x l ih =>
    intro p hp h i
    have h' : (tvStep p x && tvGo (stp p x) l) = true := h
    rw [Bool.and_eq_true] at h'
    have hx : okPt x.2 = true := by
      have := h'.1
      unfold tvStep at this
      rw [Bool.and_eq_true, Bool.and_eq_true] at this
      exact this.2.1
    cases i with
    | zero => exact hp
    | succ i => exact ih (okPt_stp hp hx) h'.2 i
theorem okPt_tour {t : DT} (h : tourB t = true) (i : Nat) : okPt (plcS t.2.1 t.2.2 i).2 = true := by
  unfold tourB at h
  simp only [Bool.and_eq_true] at h
  exact okPt_go h.2.2.1 h.2.2.2.2 i
noncomputable def standB (t : DT) (k : Int) : Bool := tourB t && decide (0 ≤ k ∧ k ≤ (t.2.2.length : Int))
noncomputable def standP (t : DT) (k : Int) : DS := plcS t.2.1 t.2.2 (clip k t.2.2.length)
noncomputable def standO (t : DT) (k : Int) : DS := if standB t k then standP t k else (0, ptZ)
theorem isStand_fn (t : DT) (k : Int) : Fn Tryz.prog 68 [⟨tTour, t⟩, ⟨.int, k⟩] false [⟨.bool, standB t k⟩] := by
  have c1 := implIsValidTour_fn t
  unfold standB
  cases h : tourB t <;> rw [h] at c1
  · refine fn_enter tabOK mixes Tryz.func68 rfl rfl _ Tryz.ntmps68 _ Tryz.results68 (by simp) fun hwf => ?_
    try simp (config := { maxSteps := 10000000 }) only [go_sem, reduceIte, reduceCtorEq, Nat.reduceEqDiff, Nat.reduceLT, Nat.reduceLeDiff, Nat.reduceAdd, Nat.reduceBEq, Nat.reduceMul, Int.reduceToNat, Int.reduceLE, Int.reduceLT, Int.reduceEq, Int.reduceNeg]
    repeat (refine And.intro (by first | omega | (constructor <;> omega) | kernel_rfl) ?_)
    refine CallW.mk (c1) ?_
    try simp (config := { maxSteps := 10000000 }) only [go_sem, reduceIte, reduceCtorEq, Nat.reduceEqDiff, Nat.reduceLT, Nat.reduceLeDiff, Nat.reduceAdd, Nat.reduceBEq, Nat.reduceMul, Int.reduceToNat, Int.reduceLE, Int.reduceLT, Int.reduceEq, Int.reduceNeg]
  · refine fn_enter tabOK mixes Tryz.func68 rfl rfl _ Tryz.ntmps68 _ Tryz.results68 (by simp) fun hwf => ?_
    try simp (config := { maxSteps := 10000000 }) only [go_sem, reduceIte, reduceCtorEq, Nat.reduceEqDiff, Nat.reduceLT, Nat.reduceLeDiff, Nat.reduceAdd, Nat.reduceBEq, Nat.reduceMul, Int.reduceToNat, Int.reduceLE, Int.reduceLT, Int.reduceEq, Int.reduceNeg]
    repeat (refine And.intro (by first | omega | (constructor <;> omega) | kernel_rfl) ?_)
    refine CallW.mk (c1) ?_
    try simp (config := { maxSteps := 10000000 }) only [go_sem, reduceIte, reduceCtorEq, Nat.reduceEqDiff, Nat.reduceLT, Nat.reduceLeDiff, Nat.reduceAdd, Nat.reduceBEq, Nat.reduceMul, Int.reduceToNat, Int.reduceLE, Int.reduceLT, Int.reduceEq, Int.reduceNeg]
    repeat (refine And.intro (by first | omega | (constructor <;> omega) | kernel_rfl) ?_)
    refine CallW.mk (within_fn k 0 t.2.2.length) ?_
    try simp (config := { maxSteps := 10000000 }) only [go_sem, reduceIte, reduceCtorEq, Nat.reduceEqDiff, Nat.reduceLT, Nat.reduceLeDiff, Nat.reduceAdd, Nat.reduceBEq, Nat.reduceMul, Int.reduceToNat, Int.reduceLE, Int.reduceLT, Int.reduceEq, Int.reduceNeg]
theorem stand_fn (t : DT) (k : Int) : Fn Tryz.prog 70 [⟨tTour, t⟩, ⟨.int, k⟩] false [⟨tStep, standP t k⟩] := by
  have c1 := after_fn t.2.1 t.2.2 k
  refine fn_enter tabOK mixes Tryz.func70 rfl rfl _ Tryz.ntmps70 _ Tryz.results70 (by simp) fun hwf => ?_
  unfold standP
  try simp (config := { maxSteps := 10000000 }) only [go_sem, reduceIte, reduceCtorEq, Nat.reduceEqDiff, Nat.reduceLT, Nat.reduceLeDiff, Nat.reduceAdd, Nat.reduceBEq, Nat.reduceMul, Int.reduceToNat, Int.reduceLE, Int.reduceLT, Int.reduceEq, Int.reduceNeg]
  repeat (refine And.intro (by first | omega | (constructor <;> omega) | kernel_rfl) ?_)
  refine CallW.mk (c1) ?_
  try simp (config := { maxSteps := 10000000 }) only [go_sem, reduceIte, reduceCtorEq, Nat.reduceEqDiff, Nat.reduceLT, Nat.reduceLeDiff, Nat.reduceAdd, Nat.reduceBEq, Nat.reduceMul, Int.reduceToNat, Int.reduceLE, Int.reduceLT, Int.reduceEq, Int.reduceNeg]
  all_goals repeat (refine And.intro (by first | omega | (constructor <;> omega) | kernel_rfl) ?_)
  all_goals first | kernel_rfl | omega | rfl
theorem implStandOf_fn (t : DT) (k : Int) : FnT Tryz.prog 24 [⟨tTour, t⟩, ⟨.int, k⟩] [⟨tStep, standO t k⟩, ⟨.bool, standB t k⟩] := by
  have c1 := isStand_fn t k
  have c2 := stand_fn t k
  unfold standO
  cases h : standB t k <;> rw [h] at c1
  · rw [if_neg (by decide)]
    refine fnT_enter tabOK mixes Tryz.func24 rfl rfl _ Tryz.ntmps24 _ Tryz.results24 (by simp) fun hwf => ?_
    try simp (config := { maxSteps := 10000000 }) only [go_sem, reduceIte, reduceCtorEq, Nat.reduceEqDiff, Nat.reduceLT, Nat.reduceLeDiff, Nat.reduceAdd, Nat.reduceBEq, Nat.reduceMul, Int.reduceToNat, Int.reduceLE, Int.reduceLT, Int.reduceEq, Int.reduceNeg]
    repeat (refine And.intro (by first | omega | (constructor <;> omega) | kernel_rfl) ?_)
    refine CallW.mk (c1) ?_
    try simp (config := { maxSteps := 10000000 }) only [go_sem, reduceIte, reduceCtorEq, Nat.reduceEqDiff, Nat.reduceLT, Nat.reduceLeDiff, Nat.reduceAdd, Nat.reduceBEq, Nat.reduceMul, Int.reduceToNat, Int.reduceLE, Int.reduceLT, Int.reduceEq, Int.reduceNeg]
    all_goals repeat (refine And.intro (by first | omega | (constructor <;> omega) | kernel_rfl) ?_)
    all_goals first | kernel_rfl | omega | rfl
  · have ht : tourB t = true := by unfold standB at h; rw [Bool.and_eq_true] at h; exact h.1
    have c3 := ownPlacement_fn (standP t k) (okPt_tour ht _)
    rw [if_pos rfl]
    refine fnT_enter tabOK mixes Tryz.func24 rfl rfl _ Tryz.ntmps24 _ Tryz.results24 (by simp) fun hwf => ?_
    try simp (config := { maxSteps := 10000000 }) only [go_sem, reduceIte, reduceCtorEq, Nat.reduceEqDiff, Nat.reduceLT, Nat.reduceLeDiff, Nat.reduceAdd, Nat.reduceBEq, Nat.reduceMul, Int.reduceToNat, Int.reduceLE, Int.reduceLT, Int.reduceEq, Int.reduceNeg]
    repeat (refine And.intro (by first | omega | (constructor <;> omega) | kernel_rfl) ?_)
    refine CallW.mk (c1) ?_
    try simp (config := { maxSteps := 10000000 }) only [go_sem, reduceIte, reduceCtorEq, Nat.reduceEqDiff, Nat.reduceLT, Nat.reduceLeDiff, Nat.reduceAdd, Nat.reduceBEq, Nat.reduceMul, Int.reduceToNat, Int.reduceLE, Int.reduceLT, Int.reduceEq, Int.reduceNeg]
    repeat (refine And.intro (by first | omega | (constructor <;> omega) | kernel_rfl) ?_)
    refine CallW.mk (c2) ?_
    try simp (config := { maxSteps := 10000000 }) only [go_sem, reduceIte, reduceCtorEq, Nat.reduceEqDiff, Nat.reduceLT, Nat.reduceLeDiff, Nat.reduceAdd, Nat.reduceBEq, Nat.reduceMul, Int.reduceToNat, Int.reduceLE, Int.reduceLT, Int.reduceEq, Int.reduceNeg]
    repeat (refine And.intro (by first | omega | (constructor <;> omega) | kernel_rfl) ?_)
    refine CallW.mk (c3) ?_
    try simp (config := { maxSteps := 10000000 }) only [go_sem, reduceIte, reduceCtorEq, Nat.reduceEqDiff, Nat.reduceLT, Nat.reduceLeDiff, Nat.reduceAdd, Nat.reduceBEq, Nat.reduceMul, Int.reduceToNat, Int.reduceLE, Int.reduceLT, Int.reduceEq, Int.reduceNeg]
    all_goals repeat (refine And.intro (by first | omega | (constructor <;> omega) | kernel_rfl) ?_)
    all_goals first | kernel_rfl | omega | rfl
theorem specStandOf_fn (t : DT) (k : Int) : FnT Tryz.prog 22 [⟨tTour, t⟩, ⟨.int, k⟩] [⟨tStep, standO t k⟩, ⟨.bool, standB t k⟩] := by
  have c1 := specIsValidTour_fn t
  have c2 := l01In_fn k 0 t.2.2.length
  unfold standO standB
  cases h : tourB t <;> rw [h] at c1
  · rw [Bool.false_and, if_neg (by decide)]
    refine fnT_enter tabOK mixes Tryz.func22 rfl rfl _ Tryz.ntmps22 _ Tryz.results22 (by simp) fun hwf => ?_
    try simp (config := { maxSteps := 10000000 }) only [go_sem, reduceIte, reduceCtorEq, Nat.reduceEqDiff, Nat.reduceLT, Nat.reduceLeDiff, Nat.reduceAdd, Nat.reduceBEq, Nat.reduceMul, Int.reduceToNat, Int.reduceLE, Int.reduceLT, Int.reduceEq, Int.reduceNeg]
    repeat (refine And.intro (by first | omega | (constructor <;> omega) | kernel_rfl) ?_)
    refine CallW.mk (c1) ?_
    try simp (config := { maxSteps := 10000000 }) only [go_sem, reduceIte, reduceCtorEq, Nat.reduceEqDiff, Nat.reduceLT, Nat.reduceLeDiff, Nat.reduceAdd, Nat.reduceBEq, Nat.reduceMul, Int.reduceToNat, Int.reduceLE, Int.reduceLT, Int.reduceEq, Int.reduceNeg]
    all_goals repeat (refine And.intro (by first | omega | (constructor <;> omega) | kernel_rfl) ?_)
    all_goals first | kernel_rfl | omega | rfl
  · cases h2 : decide (0 ≤ k ∧ k ≤ (t.2.2.length : Int)) <;> rw [h2] at c2
    · rw [Bool.and_false, if_neg (by decide)]
      refine fnT_enter tabOK mixes Tryz.func22 rfl rfl _ Tryz.ntmps22 _ Tryz.results22 (by simp) fun hwf => ?_
      try simp (config := { maxSteps := 10000000 }) only [go_sem, reduceIte, reduceCtorEq, Nat.reduceEqDiff, Nat.reduceLT, Nat.reduceLeDiff, Nat.reduceAdd, Nat.reduceBEq, Nat.reduceMul, Int.reduceToNat, Int.reduceLE, Int.reduceLT, Int.reduceEq, Int.reduceNeg]
      repeat (refine And.intro (by first | omega | (constructor <;> omega) | kernel_rfl) ?_)
      refine CallW.mk (c1) ?_
      try simp (config := { maxSteps := 10000000 }) only [go_sem, reduceIte, reduceCtorEq, Nat.reduceEqDiff, Nat.reduceLT, Nat.reduceLeDiff, Nat.reduceAdd, Nat.reduceBEq, Nat.reduceMul, Int.reduceToNat, Int.reduceLE, Int.reduceLT, Int.reduceEq, Int.reduceNeg]
      repeat (refine And.intro (by first | omega | (constructor <;> omega) | kernel_rfl) ?_)
      refine CallW.mk (c2) ?_
      try simp (config := { maxSteps := 10000000 }) only [go_sem, reduceIte, reduceCtorEq, Nat.reduceEqDiff, Nat.reduceLT, Nat.reduceLeDiff, Nat.reduceAdd, Nat.reduceBEq, Nat.reduceMul, Int.reduceToNat, Int.reduceLE, Int.reduceLT, Int.reduceEq, Int.reduceNeg]
      all_goals repeat (refine And.intro (by first | omega | (constructor <;> omega) | kernel_rfl) ?_)
      all_goals first | kernel_rfl | omega | rfl
    · have c3 := PlacementAfter_fn t.2.1 t.2.2 k (okPt_tour h _)
      rw [Bool.and_self, if_pos rfl]
      unfold standP
      refine fnT_enter tabOK mixes Tryz.func22 rfl rfl _ Tryz.ntmps22 _ Tryz.results22 (by simp) fun hwf => ?_
      try simp (config := { maxSteps := 10000000 }) only [go_sem, reduceIte, reduceCtorEq, Nat.reduceEqDiff, Nat.reduceLT, Nat.reduceLeDiff, Nat.reduceAdd, Nat.reduceBEq, Nat.reduceMul, Int.reduceToNat, Int.reduceLE, Int.reduceLT, Int.reduceEq, Int.reduceNeg]
      repeat (refine And.intro (by first | omega | (constructor <;> omega) | kernel_rfl) ?_)
      refine CallW.mk (c1) ?_
      try simp (config := { maxSteps := 10000000 }) only [go_sem, reduceIte, reduceCtorEq, Nat.reduceEqDiff, Nat.reduceLT, Nat.reduceLeDiff, Nat.reduceAdd, Nat.reduceBEq, Nat.reduceMul, Int.reduceToNat, Int.reduceLE, Int.reduceLT, Int.reduceEq, Int.reduceNeg]
      repeat (refine And.intro (by first | omega | (constructor <;> omega) | kernel_rfl) ?_)
      refine CallW.mk (c2) ?_
      try simp (config := { maxSteps := 10000000 }) only [go_sem, reduceIte, reduceCtorEq, Nat.reduceEqDiff, Nat.reduceLT, Nat.reduceLeDiff, Nat.reduceAdd, Nat.reduceBEq, Nat.reduceMul, Int.reduceToNat, Int.reduceLE, Int.reduceLT, Int.reduceEq, Int.reduceNeg]
      repeat (refine And.intro (by first | omega | (constructor <;> omega) | kernel_rfl) ?_)
      refine CallW.mk (c3) ?_
      try simp (config := { maxSteps := 10000000 }) only [go_sem, reduceIte, reduceCtorEq, Nat.reduceEqDiff, Nat.reduceLT, Nat.reduceLeDiff, Nat.reduceAdd, Nat.reduceBEq, Nat.reduceMul, Int.reduceToNat, Int.reduceLE, Int.reduceLT, Int.reduceEq, Int.reduceNeg]
      all_goals repeat (refine And.intro (by first | omega | (constructor <;> omega) | kernel_rfl) ?_)
      all_goals first | kernel_rfl | omega | rfl
theorem cn_stand (t : DT) (k : Int) : cnPlacement (standO t k) ≤ 3145728 := by
  have h1 := cnPlacement_le (standO t k)
  have h2 : tPlacement (standO t k) ≤ 96 := by
    unfold standO
    split
    · rename_i h
      have ht : tourB t = true := by unfold standB at h; rw [Bool.and_eq_true] at h; exact h.1
      have := okPt_tour ht (clip k t.2.2.length)
      unfold okPt at this
      rw [Bool.and_eq_true] at this
      have h3 := okR_len this.1
      have h4 := okR_len this.2
      show ((standP t k).2.1.1.2.length + (standP t k).2.1.2.length) + ((standP t k).2.2.1.2.length + (standP t k).2.2.2.length) ≤ 96
      unfold standP
      omega
    · decide
  omega
end Go.Proofs.YtgffgcpcjpjfgaaGreat.DW

/-
  The laws' helpers for vectors and tours, as contracts on data.
-/
namespace Go.Proofs.YtgffgcpcjpjfgaaGreat
open Go.RowKit
abbrev DVec := Int × Int
abbrev RVec : Rp DVec := Rp.prod Rp.int Rp.int
abbrev DVecS := List DVec
abbrev RVecS : Rp DVecS := Rp.slice RVec (by decide)
abbrev DTour := DVecS × (DPlacement × DStepS)
abbrev RTour : Rp DTour := Rp.prod RVecS (Rp.prod RPlacement RStepS)
def tTour (x : DTour) : Nat := (x.1.length + tPlacement x.2.1) + (x.2.2.length + tStepS x.2.2)
theorem list9 {α : Type} {l : List α} (h : l.length = 9) : ∃ c0 c1 c2 c3 c4 c5 c6 c7 c8, l = [c0, c1, c2, c3, c4, c5, c6, c7, c8] := by
  match l, h with
  | [c0, c1, c2, c3, c4, c5, c6, c7, c8], _ => exact ⟨c0, c1, c2, c3, c4, c5, c6, c7, c8, rfl⟩
namespace DW
theorem szVecS_fn (x : DVecS) (left : Int) (h0 : 0 ≤ left) (h1 : left ≤ 1048576) : Fn Tryz.prog 64 [⟨.slice DW.tVec, x⟩, ⟨.int, left⟩] false [⟨.int, szr left x.length⟩] := by
  by_cases h : (x.length : Int) ≤ left
  · rw [← szr_ge h]
    have d := decide_eq_false (p := left - (x.length : Int) < 0) (by omega)
    refine fn_enter tabOK mixes Tryz.func64 rfl rfl _ Tryz.ntmps64 _ Tryz.results64 (by simp) fun hwf => ?_
    have hl : x.length ≤ 9223372036854775807 := (hwf ⟨.slice DW.tVec, x⟩ (by simp)).1
    try simp (config := { maxSteps := 10000000 }) only [go_sem, reduceIte, reduceCtorEq, Nat.reduceEqDiff, Nat.reduceLT, Nat.reduceLeDiff, Nat.reduceAdd, Nat.reduceBEq, Nat.reduceMul, Int.reduceToNat, Int.reduceLE, Int.reduceLT, Int.reduceEq, Int.reduceNeg]
    repeat (refine And.intro (by first | omega | (constructor <;> omega) | kernel_rfl) ?_)
    try simp (config := { maxSteps := 10000000 }) only [go_sem, reduceIte, reduceCtorEq, Nat.reduceEqDiff, Nat.reduceLT, Nat.reduceLeDiff, Nat.reduceAdd, Nat.reduceBEq, Nat.reduceMul, Int.reduceToNat, Int.reduceLE, Int.reduceLT, Int.reduceEq, Int.reduceNeg, d]
    all_goals repeat (refine And.intro (by first | omega | (constructor <;> omega) | kernel_rfl) ?_)
    all_goals first | kernel_rfl | omega | rfl
  · rw [← szr_lt (by omega)]
    have d := decide_eq_true (p := left - (x.length : Int) < 0) (by omega)
    refine fn_enter tabOK mixes Tryz.func64 rfl rfl _ Tryz.ntmps64 _ Tryz.results64 (by simp) fun hwf => ?_
    have hl : x.length ≤ 9223372036854775807 := (hwf ⟨.slice DW.tVec, x⟩ (by simp)).1
    try simp (config := { maxSteps := 10000000 }) only [go_sem, reduceIte, reduceCtorEq, Nat.reduceEqDiff, Nat.reduceLT, Nat.reduceLeDiff, Nat.reduceAdd, Nat.reduceBEq, Nat.reduceMul, Int.reduceToNat, Int.reduceLE, Int.reduceLT, Int.reduceEq, Int.reduceNeg]
    repeat (refine And.intro (by first | omega | (constructor <;> omega) | kernel_rfl) ?_)
    try simp (config := { maxSteps := 10000000 }) only [go_sem, reduceIte, reduceCtorEq, Nat.reduceEqDiff, Nat.reduceLT, Nat.reduceLeDiff, Nat.reduceAdd, Nat.reduceBEq, Nat.reduceMul, Int.reduceToNat, Int.reduceLE, Int.reduceLT, Int.reduceEq, Int.reduceNeg, d]
    all_goals repeat (refine And.intro (by first | omega | (constructor <;> omega) | kernel_rfl) ?_)
    all_goals first | kernel_rfl | omega | rfl
theorem toVec_fn (x : DVec) : Fn Tryz.prog 111 [⟨DW.tVec, x⟩] false [⟨DW.tVec, x⟩] := by
  refine fn_enter tabOK mixes Tryz.func111 rfl rfl _ Tryz.ntmps111 _ Tryz.results111 (by simp) fun hwf => ?_
  try simp (config := { maxSteps := 10000000 }) only [go_sem, reduceIte, reduceCtorEq, Nat.reduceEqDiff, Nat.reduceLT, Nat.reduceLeDiff, Nat.reduceAdd, Nat.reduceBEq, Nat.reduceMul, Int.reduceToNat, Int.reduceLE, Int.reduceLT, Int.reduceEq, Int.reduceNeg]
  all_goals repeat (refine And.intro (by first | omega | (constructor <;> omega) | kernel_rfl) ?_)
  all_goals first | kernel_rfl | omega | rfl
theorem toVecS_fn (x : DVecS) (hs : x.length ≤ 1048576) : Fn Tryz.prog 67 [⟨.slice DW.tVec, x⟩] true [⟨.slice DW.tVec, x⟩] := by
  refine fn_enter tabOK mixes Tryz.func67 rfl rfl _ Tryz.ntmps67 _ Tryz.results67 (by simp) fun hwf => ?_
  try simp (config := { maxSteps := 10000000 }) only [go_sem, reduceIte, reduceCtorEq, Nat.reduceEqDiff, Nat.reduceLT, Nat.reduceLeDiff, Nat.reduceAdd, Nat.reduceBEq, Nat.reduceMul, Int.reduceToNat, Int.reduceLE, Int.reduceLT, Int.reduceEq, Int.reduceNeg]
  repeat (refine And.intro (by first | omega | (constructor <;> omega) | kernel_rfl) ?_)
  refine LoopG.intro _ _ _ (fun i : Nat => ⟨[(0, .sl DW.tVec x), (3, .row 0 0), (4, .sc (.int .i64 i))], [(0, .row 128 DW.tVec 0 true (x.take i ++ List.replicate (x.length - i) ((0 : Int), (0 : Int))))]⟩) (fun i => i ≤ x.length) (fun i => x.length - i) 0 ?_ (Nat.zero_le _) ?_
  · refine Wk.mk [] ?_
    try simp (config := { maxSteps := 10000000 }) only [go_sem, reduceIte, reduceCtorEq, Nat.reduceEqDiff, Nat.reduceLT, Nat.reduceLeDiff, Nat.reduceAdd, Nat.reduceBEq, Nat.reduceMul, Int.reduceToNat, Int.reduceLE, Int.reduceLT, Int.reduceEq, Int.reduceNeg]
    try (and_intros <;> first | rfl | omega | exact ⟨_, rfl⟩)
  · rintro i hi
    have hlen : (x.take i ++ List.replicate (x.length - i) ((0 : Int), (0 : Int))).length = x.length := by simp; omega
    try simp (config := { maxSteps := 10000000 }) only [go_sem, reduceIte, reduceCtorEq, Nat.reduceEqDiff, Nat.reduceLT, Nat.reduceLeDiff, Nat.reduceAdd, Nat.reduceBEq, Nat.reduceMul, Int.reduceToNat, Int.reduceLE, Int.reduceLT, Int.reduceEq, Int.reduceNeg]
    refine CondW_dec (fun hA => ?_) (fun hA => ?_)
    · have hset : (x.take i ++ List.replicate (x.length - i) ((0 : Int), (0 : Int))).set i (nth (t := DW.tVec) x i) = x.take (i + 1) ++ List.replicate (x.length - (i + 1)) ((0 : Int), (0 : Int)) := by
        have hlt : i < x.length := by omega
        rw [List.set_append_right _ _ (by rw [List.length_take]; omega), List.length_take, show i - min i x.length = 0 by omega, show x.length - i = (x.length - (i + 1)) + 1 by omega, List.replicate_succ, List.set_cons_zero, nth_lt hlt]
        have e : x.take (i + 1) = x.take i ++ [x[i]] := List.take_succ_eq_append_getElem hlt
        rw [e, List.append_assoc]; rfl
      have ht : (List.take i x).length = i := by rw [List.length_take]; omega
      have c1 := toVec_fn (nth (t := DW.tVec) x i)
      try simp (config := { maxSteps := 10000000 }) only [go_sem, reduceIte, reduceCtorEq, Nat.reduceEqDiff, Nat.reduceLT, Nat.reduceLeDiff, Nat.reduceAdd, Nat.reduceBEq, Nat.reduceMul, Int.reduceToNat, Int.reduceLE, Int.reduceLT, Int.reduceEq, Int.reduceNeg]
      repeat (refine And.intro (by first | omega | (constructor <;> omega) | kernel_rfl) ?_)
      repeat (refine And.intro (by first | omega | (constructor <;> omega) | kernel_rfl) ?_)
      refine CallW.mk (c1) ?_
      try simp (config := { maxSteps := 10000000 }) only [go_sem, reduceIte, reduceCtorEq, Nat.reduceEqDiff, Nat.reduceLT, Nat.reduceLeDiff, Nat.reduceAdd, Nat.reduceBEq, Nat.reduceMul, Int.reduceToNat, Int.reduceLE, Int.reduceLT, Int.reduceEq, Int.reduceNeg]
      repeat (refine And.intro (by first | omega | (constructor <;> omega) | kernel_rfl) ?_)
      refine LoopK.mk (i + 1) ?_ (by omega) (by omega)
      rw [← hset]
      refine Wk.mk [] ?_
      try simp (config := { maxSteps := 10000000 }) only [go_sem, reduceIte, reduceCtorEq, Nat.reduceEqDiff, Nat.reduceLT, Nat.reduceLeDiff, Nat.reduceAdd, Nat.reduceBEq, Nat.reduceMul, Int.reduceToNat, Int.reduceLE, Int.reduceLT, Int.reduceEq, Int.reduceNeg]
      try (and_intros <;> first | rfl | omega | exact ⟨_, rfl⟩)
    · have : x.take i ++ List.replicate (x.length - i) ((0 : Int), (0 : Int)) = x := by
        rw [List.take_of_length_le (by omega), show x.length - i = 0 by omega]; simp
      rw [this]
      try simp (config := { maxSteps := 10000000 }) only [go_sem, reduceIte, reduceCtorEq, Nat.reduceEqDiff, Nat.reduceLT, Nat.reduceLeDiff, Nat.reduceAdd, Nat.reduceBEq, Nat.reduceMul, Int.reduceToNat, Int.reduceLE, Int.reduceLT, Int.reduceEq, Int.reduceNeg]
      all_goals repeat (refine And.intro (by first | omega | (constructor <;> omega) | kernel_rfl) ?_)
      all_goals first | kernel_rfl | omega | rfl
theorem eqVec_fn (x y : DVec) : Fn Tryz.prog 114 [⟨DW.tVec, x⟩, ⟨DW.tVec, y⟩] false [⟨.bool, eqb x y⟩] := by
  by_cases h1 : x.1 = y.1
  · have d1 := decide_eq_true h1
    by_cases h2 : x.2 = y.2
    · have d2 := decide_eq_true h2
      rw [eqb_true (Prod.ext h1 h2)]
      refine fn_enter tabOK mixes Tryz.func114 rfl rfl _ Tryz.ntmps114 _ Tryz.results114 (by simp) fun hwf => ?_
      try simp (config := { maxSteps := 10000000 }) only [go_sem, reduceIte, reduceCtorEq, Nat.reduceEqDiff, Nat.reduceLT, Nat.reduceLeDiff, Nat.reduceAdd, Nat.reduceBEq, Nat.reduceMul, Int.reduceToNat, Int.reduceLE, Int.reduceLT, Int.reduceEq, Int.reduceNeg, d1, d2]
    · have d2 := decide_eq_false h2
      rw [eqb_false (fun h => h2 (by rw [h]))]
      refine fn_enter tabOK mixes Tryz.func114 rfl rfl _ Tryz.ntmps114 _ Tryz.results114 (by simp) fun hwf => ?_
      try simp (config := { maxSteps := 10000000 }) only [go_sem, reduceIte, reduceCtorEq, Nat.reduceEqDiff, Nat.reduceLT, Nat.reduceLeDiff, Nat.reduceAdd, Nat.reduceBEq, Nat.reduceMul, Int.reduceToNat, Int.reduceLE, Int.reduceLT, Int.reduceEq, Int.reduceNeg, d1, d2]
  · have d1 := decide_eq_false h1
    rw [eqb_false (fun h => h1 (by rw [h]))]
    refine fn_enter tabOK mixes Tryz.func114 rfl rfl _ Tryz.ntmps114 _ Tryz.results114 (by simp) fun hwf => ?_
    try simp (config := { maxSteps := 10000000 }) only [go_sem, reduceIte, reduceCtorEq, Nat.reduceEqDiff, Nat.reduceLT, Nat.reduceLeDiff, Nat.reduceAdd, Nat.reduceBEq, Nat.reduceMul, Int.reduceToNat, Int.reduceLE, Int.reduceLT, Int.reduceEq, Int.reduceNeg, d1]
theorem eqVecS_fn (x y : DVecS) : Fn Tryz.prog 71 [⟨.slice DW.tVec, x⟩, ⟨.slice DW.tVec, y⟩] false [⟨.bool, eqb x y⟩] := by
  by_cases h0 : (x.length : Int) = y.length
  · have d0 := decide_eq_true h0
    refine fn_enter tabOK mixes Tryz.func71 rfl rfl _ Tryz.ntmps71 _ Tryz.results71 (by simp) fun hwf => ?_
    have hl : x.length ≤ 9223372036854775807 := (hwf ⟨.slice DW.tVec, x⟩ (by simp)).1
    try simp (config := { maxSteps := 10000000 }) only [go_sem, reduceIte, reduceCtorEq, Nat.reduceEqDiff, Nat.reduceLT, Nat.reduceLeDiff, Nat.reduceAdd, Nat.reduceBEq, Nat.reduceMul, Int.reduceToNat, Int.reduceLE, Int.reduceLT, Int.reduceEq, Int.reduceNeg, d0]
    refine LoopG.intro _ _ _ (fun i : Nat => ⟨[(0, .sl DW.tVec x), (1, .sl DW.tVec y), (5, .sc (.int .i64 i))], []⟩) (fun i => ∀ j, j < i → j < x.length → nth (t := DW.tVec) x j = nth (t := DW.tVec) y j) (fun i => x.length - i) 0 ?_ (fun j h => absurd h (Nat.not_lt_zero _)) ?_
    · refine Wk.mk [] ?_
      try simp (config := { maxSteps := 10000000 }) only [go_sem, reduceIte, reduceCtorEq, Nat.reduceEqDiff, Nat.reduceLT, Nat.reduceLeDiff, Nat.reduceAdd, Nat.reduceBEq, Nat.reduceMul, Int.reduceToNat, Int.reduceLE, Int.reduceLT, Int.reduceEq, Int.reduceNeg]
      try (and_intros <;> first | rfl | omega | exact ⟨_, rfl⟩)
    · rintro i hi
      try simp (config := { maxSteps := 10000000 }) only [go_sem, reduceIte, reduceCtorEq, Nat.reduceEqDiff, Nat.reduceLT, Nat.reduceLeDiff, Nat.reduceAdd, Nat.reduceBEq, Nat.reduceMul, Int.reduceToNat, Int.reduceLE, Int.reduceLT, Int.reduceEq, Int.reduceNeg]
      refine CondW_dec (fun hA => ?_) (fun hA => ?_)
      · have c1 := eqVec_fn (nth (t := DW.tVec) x i) (nth (t := DW.tVec) y i)
        by_cases e : nth (t := DW.tVec) x i = nth (t := DW.tVec) y i
        · rw [eqb_true e] at c1
          try simp (config := { maxSteps := 10000000 }) only [go_sem, reduceIte, reduceCtorEq, Nat.reduceEqDiff, Nat.reduceLT, Nat.reduceLeDiff, Nat.reduceAdd, Nat.reduceBEq, Nat.reduceMul, Int.reduceToNat, Int.reduceLE, Int.reduceLT, Int.reduceEq, Int.reduceNeg]
          repeat (refine And.intro (by first | omega | (constructor <;> omega) | kernel_rfl) ?_)
          repeat (refine And.intro (by first | omega | (constructor <;> omega) | kernel_rfl) ?_)
          refine CallW.mk (c1) ?_
          try simp (config := { maxSteps := 10000000 }) only [go_sem, reduceIte, reduceCtorEq, Nat.reduceEqDiff, Nat.reduceLT, Nat.reduceLeDiff, Nat.reduceAdd, Nat.reduceBEq, Nat.reduceMul, Int.reduceToNat, Int.reduceLE, Int.reduceLT, Int.reduceEq, Int.reduceNeg]
          repeat (refine And.intro (by first | omega | (constructor <;> omega) | kernel_rfl) ?_)
          refine LoopK.mk (i + 1) ?_ (fun j h1 h2 => ?_) (by omega)
          · refine Wk.mk [] ?_
            try simp (config := { maxSteps := 10000000 }) only [go_sem, reduceIte, reduceCtorEq, Nat.reduceEqDiff, Nat.reduceLT, Nat.reduceLeDiff, Nat.reduceAdd, Nat.reduceBEq, Nat.reduceMul, Int.reduceToNat, Int.reduceLE, Int.reduceLT, Int.reduceEq, Int.reduceNeg]
            try (and_intros <;> first | rfl | omega | exact ⟨_, rfl⟩)
          · by_cases h3 : j < i
            · exact hi j h3 h2
            · rw [show j = i by omega]; exact e
        · rw [eqb_false e] at c1
          rw [eqb_false (fun h => e (by rw [h]))]
          try simp (config := { maxSteps := 10000000 }) only [go_sem, reduceIte, reduceCtorEq, Nat.reduceEqDiff, Nat.reduceLT, Nat.reduceLeDiff, Nat.reduceAdd, Nat.reduceBEq, Nat.reduceMul, Int.reduceToNat, Int.reduceLE, Int.reduceLT, Int.reduceEq, Int.reduceNeg]
          repeat (refine And.intro (by first | omega | (constructor <;> omega) | kernel_rfl) ?_)
          repeat (refine And.intro (by first | omega | (constructor <;> omega) | kernel_rfl) ?_)
          refine CallW.mk (c1) ?_
          try simp (config := { maxSteps := 10000000 }) only [go_sem, reduceIte, reduceCtorEq, Nat.reduceEqDiff, Nat.reduceLT, Nat.reduceLeDiff, Nat.reduceAdd, Nat.reduceBEq, Nat.reduceMul, Int.reduceToNat, Int.reduceLE, Int.reduceLT, Int.reduceEq, Int.reduceNeg]
          all_goals repeat (refine And.intro (by first | omega | (constructor <;> omega) | kernel_rfl) ?_)
          all_goals first | kernel_rfl | omega | rfl
      · have : x = y := by
          refine List.ext_getElem (by omega) fun j h1 h2 => ?_
          have := hi j (by omega) h1
          rwa [nth_lt h1, nth_lt h2] at this
        rw [eqb_true this]
        try simp (config := { maxSteps := 10000000 }) only [go_sem, reduceIte, reduceCtorEq, Nat.reduceEqDiff, Nat.reduceLT, Nat.reduceLeDiff, Nat.reduceAdd, Nat.reduceBEq, Nat.reduceMul, Int.reduceToNat, Int.reduceLE, Int.reduceLT, Int.reduceEq, Int.reduceNeg]
  · have d0 := decide_eq_false h0
    rw [eqb_false (fun h => h0 (by rw [h]))]
    refine fn_enter tabOK mixes Tryz.func71 rfl rfl _ Tryz.ntmps71 _ Tryz.results71 (by simp) fun hwf => ?_
    try simp (config := { maxSteps := 10000000 }) only [go_sem, reduceIte, reduceCtorEq, Nat.reduceEqDiff, Nat.reduceLT, Nat.reduceLeDiff, Nat.reduceAdd, Nat.reduceBEq, Nat.reduceMul, Int.reduceToNat, Int.reduceLE, Int.reduceLT, Int.reduceEq, Int.reduceNeg, d0]
theorem szTour_fn (x : DTour) (left : Int) (h0 : 0 ≤ left) (h1 : left ≤ 1048576) : Fn Tryz.prog 21 [⟨DW.tTour, x⟩, ⟨.int, left⟩] false [⟨.int, szr left (Go.Proofs.YtgffgcpcjpjfgaaGreat.tTour x)⟩] := by
  obtain ⟨r, p, l⟩ := x
  have c1 := szVecS_fn r left h0 h1
  have r1 := szr_lo left r.length h0
  have hT : Go.Proofs.YtgffgcpcjpjfgaaGreat.tTour (r, p, l) = (r.length + tPlacement p) + (l.length + tStepS l) := rfl
  by_cases e1 : szr left r.length < 0
  · have d1 := decide_eq_true e1
    rw [← szr_fail e1 (b := Go.Proofs.YtgffgcpcjpjfgaaGreat.tTour (r, p, l)) (by omega)]
    refine fn_enter tabOK mixes Tryz.func21 rfl rfl _ Tryz.ntmps21 _ Tryz.results21 (by simp) fun hwf => ?_
    try simp (config := { maxSteps := 10000000 }) only [go_sem, reduceIte, reduceCtorEq, Nat.reduceEqDiff, Nat.reduceLT, Nat.reduceLeDiff, Nat.reduceAdd, Nat.reduceBEq, Nat.reduceMul, Int.reduceToNat, Int.reduceLE, Int.reduceLT, Int.reduceEq, Int.reduceNeg]
    repeat (refine And.intro (by first | omega | (constructor <;> omega) | kernel_rfl) ?_)
    refine CallW.mk (c1) ?_
    try simp (config := { maxSteps := 10000000 }) only [go_sem, reduceIte, reduceCtorEq, Nat.reduceEqDiff, Nat.reduceLT, Nat.reduceLeDiff, Nat.reduceAdd, Nat.reduceBEq, Nat.reduceMul, Int.reduceToNat, Int.reduceLE, Int.reduceLT, Int.reduceEq, Int.reduceNeg]
    try simp (config := { maxSteps := 10000000 }) only [go_sem, reduceIte, reduceCtorEq, Nat.reduceEqDiff, Nat.reduceLT, Nat.reduceLeDiff, Nat.reduceAdd, Nat.reduceBEq, Nat.reduceMul, Int.reduceToNat, Int.reduceLE, Int.reduceLT, Int.reduceEq, Int.reduceNeg, d1]
    all_goals repeat (refine And.intro (by first | omega | (constructor <;> omega) | kernel_rfl) ?_)
    all_goals first | kernel_rfl | omega | rfl
  · have d1 := decide_eq_false e1
    have c2 := szPlacement_fn p (szr left r.length) (by omega) (by omega)
    have r2 := szr_lo (szr left r.length) (tPlacement p) (by omega)
    have a2 := szr_add left r.length (tPlacement p) (by omega)
    by_cases e2 : szr (szr left r.length) (tPlacement p) < 0
    · have d2 := decide_eq_true e2
      rw [← szr_fail (by rw [← a2]; exact e2) (a := r.length + tPlacement p) (b := Go.Proofs.YtgffgcpcjpjfgaaGreat.tTour (r, p, l)) (by omega)]
      refine fn_enter tabOK mixes Tryz.func21 rfl rfl _ Tryz.ntmps21 _ Tryz.results21 (by simp) fun hwf => ?_
      try simp (config := { maxSteps := 10000000 }) only [go_sem, reduceIte, reduceCtorEq, Nat.reduceEqDiff, Nat.reduceLT, Nat.reduceLeDiff, Nat.reduceAdd, Nat.reduceBEq, Nat.reduceMul, Int.reduceToNat, Int.reduceLE, Int.reduceLT, Int.reduceEq, Int.reduceNeg]
      repeat (refine And.intro (by first | omega | (constructor <;> omega) | kernel_rfl) ?_)
      refine CallW.mk (c1) ?_
      try simp (config := { maxSteps := 10000000 }) only [go_sem, reduceIte, reduceCtorEq, Nat.reduceEqDiff, Nat.reduceLT, Nat.reduceLeDiff, Nat.reduceAdd, Nat.reduceBEq, Nat.reduceMul, Int.reduceToNat, Int.reduceLE, Int.reduceLT, Int.reduceEq, Int.reduceNeg]
      try simp (config := { maxSteps := 10000000 }) only [go_sem, reduceIte, reduceCtorEq, Nat.reduceEqDiff, Nat.reduceLT, Nat.reduceLeDiff, Nat.reduceAdd, Nat.reduceBEq, Nat.reduceMul, Int.reduceToNat, Int.reduceLE, Int.reduceLT, Int.reduceEq, Int.reduceNeg, d1]
      repeat (refine And.intro (by first | omega | (constructor <;> omega) | kernel_rfl) ?_)
      refine CallW.mk (c2) ?_
      try simp (config := { maxSteps := 10000000 }) only [go_sem, reduceIte, reduceCtorEq, Nat.reduceEqDiff, Nat.reduceLT, Nat.reduceLeDiff, Nat.reduceAdd, Nat.reduceBEq, Nat.reduceMul, Int.reduceToNat, Int.reduceLE, Int.reduceLT, Int.reduceEq, Int.reduceNeg]
      try simp (config := { maxSteps := 10000000 }) only [go_sem, reduceIte, reduceCtorEq, Nat.reduceEqDiff, Nat.reduceLT, Nat.reduceLeDiff, Nat.reduceAdd, Nat.reduceBEq, Nat.reduceMul, Int.reduceToNat, Int.reduceLE, Int.reduceLT, Int.reduceEq, Int.reduceNeg, d2]
      all_goals repeat (refine And.intro (by first | omega | (constructor <;> omega) | kernel_rfl) ?_)
      all_goals first | kernel_rfl | omega | rfl
    · have d2 := decide_eq_false e2
      have c3 := szStepS_fn l (szr (szr left r.length) (tPlacement p)) (by omega) (by omega)
      have r3 := szr_lo (szr (szr left r.length) (tPlacement p)) (l.length + tStepS l) (by omega)
      have a3 := szr_add left (r.length + tPlacement p) (l.length + tStepS l) (by rw [← a2]; omega)
      rw [← a2] at a3
      rw [hT, ← a3]
      by_cases e3 : szr (szr (szr left r.length) (tPlacement p)) (l.length + tStepS l) < 0
      · have d3 := decide_eq_true e3
        have e4 : szr (szr (szr left r.length) (tPlacement p)) (l.length + tStepS l) = -1 := by omega
        rw [e4] at d3 c3 ⊢
        refine fn_enter tabOK mixes Tryz.func21 rfl rfl _ Tryz.ntmps21 _ Tryz.results21 (by simp) fun hwf => ?_
        try simp (config := { maxSteps := 10000000 }) only [go_sem, reduceIte, reduceCtorEq, Nat.reduceEqDiff, Nat.reduceLT, Nat.reduceLeDiff, Nat.reduceAdd, Nat.reduceBEq, Nat.reduceMul, Int.reduceToNat, Int.reduceLE, Int.reduceLT, Int.reduceEq, Int.reduceNeg]
        repeat (refine And.intro (by first | omega | (constructor <;> omega) | kernel_rfl) ?_)
        refine CallW.mk (c1) ?_
        try simp (config := { maxSteps := 10000000 }) only [go_sem, reduceIte, reduceCtorEq, Nat.reduceEqDiff, Nat.reduceLT, Nat.reduceLeDiff, Nat.reduceAdd, Nat.reduceBEq, Nat.reduceMul, Int.reduceToNat, Int.reduceLE, Int.reduceLT, Int.reduceEq, Int.reduceNeg]
        try simp (config := { maxSteps := 10000000 }) only [go_sem, reduceIte, reduceCtorEq, Nat.reduceEqDiff, Nat.reduceLT, Nat.reduceLeDiff, Nat.reduceAdd, Nat.reduceBEq, Nat.reduceMul, Int.reduceToNat, Int.reduceLE, Int.reduceLT, Int.reduceEq, Int.reduceNeg, d1]
        repeat (refine And.intro (by first | omega | (constructor <;> omega) | kernel_rfl) ?_)
        refine CallW.mk (c2) ?_
        try simp (config := { maxSteps := 10000000 }) only [go_sem, reduceIte, reduceCtorEq, Nat.reduceEqDiff, Nat.reduceLT, Nat.reduceLeDiff, Nat.reduceAdd, Nat.reduceBEq, Nat.reduceMul, Int.reduceToNat, Int.reduceLE, Int.reduceLT, Int.reduceEq, Int.reduceNeg]
        try simp (config := { maxSteps := 10000000 }) only [go_sem, reduceIte, reduceCtorEq, Nat.reduceEqDiff, Nat.reduceLT, Nat.reduceLeDiff, Nat.reduceAdd, Nat.reduceBEq, Nat.reduceMul, Int.reduceToNat, Int.reduceLE, Int.reduceLT, Int.reduceEq, Int.reduceNeg, d2]
        repeat (refine And.intro (by first | omega | (constructor <;> omega) | kernel_rfl) ?_)
        refine CallW.mk (c3) ?_
        try simp (config := { maxSteps := 10000000 }) only [go_sem, reduceIte, reduceCtorEq, Nat.reduceEqDiff, Nat.reduceLT, Nat.reduceLeDiff, Nat.reduceAdd, Nat.reduceBEq, Nat.reduceMul, Int.reduceToNat, Int.reduceLE, Int.reduceLT, Int.reduceEq, Int.reduceNeg]
        all_goals repeat (refine And.intro (by first | omega | (constructor <;> omega) | kernel_rfl) ?_)
        all_goals first | kernel_rfl | omega | rfl
      · have d3 := decide_eq_false e3
        refine fn_enter tabOK mixes Tryz.func21 rfl rfl _ Tryz.ntmps21 _ Tryz.results21 (by simp) fun hwf => ?_
        try simp (config := { maxSteps := 10000000 }) only [go_sem, reduceIte, reduceCtorEq, Nat.reduceEqDiff, Nat.reduceLT, Nat.reduceLeDiff, Nat.reduceAdd, Nat.reduceBEq, Nat.reduceMul, Int.reduceToNat, Int.reduceLE, Int.reduceLT, Int.reduceEq, Int.reduceNeg]
        repeat (refine And.intro (by first | omega | (constructor <;> omega) | kernel_rfl) ?_)
        refine CallW.mk (c1) ?_
        try simp (config := { maxSteps := 10000000 }) only [go_sem, reduceIte, reduceCtorEq, Nat.reduceEqDiff, Nat.reduceLT, Nat.reduceLeDiff, Nat.reduceAdd, Nat.reduceBEq, Nat.reduceMul, Int.reduceToNat, Int.reduceLE, Int.reduceLT, Int.reduceEq, Int.reduceNeg]
        try simp (config := { maxSteps := 10000000 }) only [go_sem, reduceIte, reduceCtorEq, Nat.reduceEqDiff, Nat.reduceLT, Nat.reduceLeDiff, Nat.reduceAdd, Nat.reduceBEq, Nat.reduceMul, Int.reduceToNat, Int.reduceLE, Int.reduceLT, Int.reduceEq, Int.reduceNeg, d1]
        repeat (refine And.intro (by first | omega | (constructor <;> omega) | kernel_rfl) ?_)
        refine CallW.mk (c2) ?_
        try simp (config := { maxSteps := 10000000 }) only [go_sem, reduceIte, reduceCtorEq, Nat.reduceEqDiff, Nat.reduceLT, Nat.reduceLeDiff, Nat.reduceAdd, Nat.reduceBEq, Nat.reduceMul, Int.reduceToNat, Int.reduceLE, Int.reduceLT, Int.reduceEq, Int.reduceNeg]
        try simp (config := { maxSteps := 10000000 }) only [go_sem, reduceIte, reduceCtorEq, Nat.reduceEqDiff, Nat.reduceLT, Nat.reduceLeDiff, Nat.reduceAdd, Nat.reduceBEq, Nat.reduceMul, Int.reduceToNat, Int.reduceLE, Int.reduceLT, Int.reduceEq, Int.reduceNeg, d2]
        repeat (refine And.intro (by first | omega | (constructor <;> omega) | kernel_rfl) ?_)
        refine CallW.mk (c3) ?_
        try simp (config := { maxSteps := 10000000 }) only [go_sem, reduceIte, reduceCtorEq, Nat.reduceEqDiff, Nat.reduceLT, Nat.reduceLeDiff, Nat.reduceAdd, Nat.reduceBEq, Nat.reduceMul, Int.reduceToNat, Int.reduceLE, Int.reduceLT, Int.reduceEq, Int.reduceNeg]
        try simp (config := { maxSteps := 10000000 }) only [go_sem, reduceIte, reduceCtorEq, Nat.reduceEqDiff, Nat.reduceLT, Nat.reduceLeDiff, Nat.reduceAdd, Nat.reduceBEq, Nat.reduceMul, Int.reduceToNat, Int.reduceLE, Int.reduceLT, Int.reduceEq, Int.reduceNeg, d3]
        all_goals repeat (refine And.intro (by first | omega | (constructor <;> omega) | kernel_rfl) ?_)
        all_goals first | kernel_rfl | omega | rfl
theorem toTour_fn (x : DTour) (hs : Go.Proofs.YtgffgcpcjpjfgaaGreat.tTour x ≤ 1048576) : Fn Tryz.prog 23 [⟨DW.tTour, x⟩] true [⟨DW.tTour, x⟩] := by
  obtain ⟨r, p, l⟩ := x
  have hT : Go.Proofs.YtgffgcpcjpjfgaaGreat.tTour (r, p, l) = (r.length + tPlacement p) + (l.length + tStepS l) := rfl
  have c1 := toVecS_fn r (by omega)
  have c2 := toPlacement_fn p (by omega)
  have c3 := toStepS_fn l (by omega)
  refine fn_enter tabOK mixes Tryz.func23 rfl rfl _ Tryz.ntmps23 _ Tryz.results23 (by simp) fun hwf => ?_
  try simp (config := { maxSteps := 10000000 }) only [go_sem, reduceIte, reduceCtorEq, Nat.reduceEqDiff, Nat.reduceLT, Nat.reduceLeDiff, Nat.reduceAdd, Nat.reduceBEq, Nat.reduceMul, Int.reduceToNat, Int.reduceLE, Int.reduceLT, Int.reduceEq, Int.reduceNeg]
  repeat (refine And.intro (by first | omega | (constructor <;> omega) | kernel_rfl) ?_)
  refine CallW.mk (c1) ?_
  try simp (config := { maxSteps := 10000000 }) only [go_sem, reduceIte, reduceCtorEq, Nat.reduceEqDiff, Nat.reduceLT, Nat.reduceLeDiff, Nat.reduceAdd, Nat.reduceBEq, Nat.reduceMul, Int.reduceToNat, Int.reduceLE, Int.reduceLT, Int.reduceEq, Int.reduceNeg]
  repeat (refine And.intro (by first | omega | (constructor <;> omega) | kernel_rfl) ?_)
  refine CallW.mk (c2) ?_
  try simp (config := { maxSteps := 10000000 }) only [go_sem, reduceIte, reduceCtorEq, Nat.reduceEqDiff, Nat.reduceLT, Nat.reduceLeDiff, Nat.reduceAdd, Nat.reduceBEq, Nat.reduceMul, Int.reduceToNat, Int.reduceLE, Int.reduceLT, Int.reduceEq, Int.reduceNeg]
  repeat (refine And.intro (by first | omega | (constructor <;> omega) | kernel_rfl) ?_)
  refine CallW.mk (c3) ?_
  try simp (config := { maxSteps := 10000000 }) only [go_sem, reduceIte, reduceCtorEq, Nat.reduceEqDiff, Nat.reduceLT, Nat.reduceLeDiff, Nat.reduceAdd, Nat.reduceBEq, Nat.reduceMul, Int.reduceToNat, Int.reduceLE, Int.reduceLT, Int.reduceEq, Int.reduceNeg]
  all_goals repeat (refine And.intro (by first | omega | (constructor <;> omega) | kernel_rfl) ?_)
  all_goals first | kernel_rfl | omega | rfl
theorem eqTour_fn (x y : DTour) : Fn Tryz.prog 25 [⟨DW.tTour, x⟩, ⟨DW.tTour, y⟩] false [⟨.bool, eqb x y⟩] := by
  obtain ⟨r, p, l⟩ := x
  obtain ⟨r', p', l'⟩ := y
  have c1 := eqVecS_fn r r'
  have c2 := eqPlacement_fn p p'
  have c3 := eqStepS_fn l l'
  by_cases e1 : r = r'
  · rw [eqb_true e1] at c1
    by_cases e2 : p = p'
    · rw [eqb_true e2] at c2
      by_cases e3 : l = l'
      · rw [eqb_true e3] at c3
        rw [eqb_true (by rw [e1, e2, e3])]
        refine fn_enter tabOK mixes Tryz.func25 rfl rfl _ Tryz.ntmps25 _ Tryz.results25 (by simp) fun hwf => ?_
        try simp (config := { maxSteps := 10000000 }) only [go_sem, reduceIte, reduceCtorEq, Nat.reduceEqDiff, Nat.reduceLT, Nat.reduceLeDiff, Nat.reduceAdd, Nat.reduceBEq, Nat.reduceMul, Int.reduceToNat, Int.reduceLE, Int.reduceLT, Int.reduceEq, Int.reduceNeg]
        repeat (refine And.intro (by first | omega | (constructor <;> omega) | kernel_rfl) ?_)
        refine CallW.mk (c1) ?_
        try simp (config := { maxSteps := 10000000 }) only [go_sem, reduceIte, reduceCtorEq, Nat.reduceEqDiff, Nat.reduceLT, Nat.reduceLeDiff, Nat.reduceAdd, Nat.reduceBEq, Nat.reduceMul, Int.reduceToNat, Int.reduceLE, Int.reduceLT, Int.reduceEq, Int.reduceNeg]
        repeat (refine And.intro (by first | omega | (constructor <;> omega) | kernel_rfl) ?_)
        refine CallW.mk (c2) ?_
        try simp (config := { maxSteps := 10000000 }) only [go_sem, reduceIte, reduceCtorEq, Nat.reduceEqDiff, Nat.reduceLT, Nat.reduceLeDiff, Nat.reduceAdd, Nat.reduceBEq, Nat.reduceMul, Int.reduceToNat, Int.reduceLE, Int.reduceLT, Int.reduceEq, Int.reduceNeg]
        repeat (refine And.intro (by first | omega | (constructor <;> omega) | kernel_rfl) ?_)
        refine CallW.mk (c3) ?_
        try simp (config := { maxSteps := 10000000 }) only [go_sem, reduceIte, reduceCtorEq, Nat.reduceEqDiff, Nat.reduceLT, Nat.reduceLeDiff, Nat.reduceAdd, Nat.reduceBEq, Nat.reduceMul, Int.reduceToNat, Int.reduceLE, Int.reduceLT, Int.reduceEq, Int.reduceNeg]
      · rw [eqb_false e3] at c3
        rw [eqb_false (fun h => e3 (congrArg (fun z => z.2.2) h))]
        refine fn_enter tabOK mixes Tryz.func25 rfl rfl _ Tryz.ntmps25 _ Tryz.results25 (by simp) fun hwf => ?_
        try simp (config := { maxSteps := 10000000 }) only [go_sem, reduceIte, reduceCtorEq, Nat.reduceEqDiff, Nat.reduceLT, Nat.reduceLeDiff, Nat.reduceAdd, Nat.reduceBEq, Nat.reduceMul, Int.reduceToNat, Int.reduceLE, Int.reduceLT, Int.reduceEq, Int.reduceNeg]
        repeat (refine And.intro (by first | omega | (constructor <;> omega) | kernel_rfl) ?_)
        refine CallW.mk (c1) ?_
        try simp (config := { maxSteps := 10000000 }) only [go_sem, reduceIte, reduceCtorEq, Nat.reduceEqDiff, Nat.reduceLT, Nat.reduceLeDiff, Nat.reduceAdd, Nat.reduceBEq, Nat.reduceMul, Int.reduceToNat, Int.reduceLE, Int.reduceLT, Int.reduceEq, Int.reduceNeg]
        repeat (refine And.intro (by first | omega | (constructor <;> omega) | kernel_rfl) ?_)
        refine CallW.mk (c2) ?_
        try simp (config := { maxSteps := 10000000 }) only [go_sem, reduceIte, reduceCtorEq, Nat.reduceEqDiff, Nat.reduceLT, Nat.reduceLeDiff, Nat.reduceAdd, Nat.reduceBEq, Nat.reduceMul, Int.reduceToNat, Int.reduceLE, Int.reduceLT, Int.reduceEq, Int.reduceNeg]
        repeat (refine And.intro (by first | omega | (constructor <;> omega) | kernel_rfl) ?_)
        refine CallW.mk (c3) ?_
        try simp (config := { maxSteps := 10000000 }) only [go_sem, reduceIte, reduceCtorEq, Nat.reduceEqDiff, Nat.reduceLT, Nat.reduceLeDiff, Nat.reduceAdd, Nat.reduceBEq, Nat.reduceMul, Int.reduceToNat, Int.reduceLE, Int.reduceLT, Int.reduceEq, Int.reduceNeg]
    · rw [eqb_false e2] at c2
      rw [eqb_false (fun h => e2 (congrArg (fun z => z.2.1) h))]
      refine fn_enter tabOK mixes Tryz.func25 rfl rfl _ Tryz.ntmps25 _ Tryz.results25 (by simp) fun hwf => ?_
      try simp (config := { maxSteps := 10000000 }) only [go_sem, reduceIte, reduceCtorEq, Nat.reduceEqDiff, Nat.reduceLT, Nat.reduceLeDiff, Nat.reduceAdd, Nat.reduceBEq, Nat.reduceMul, Int.reduceToNat, Int.reduceLE, Int.reduceLT, Int.reduceEq, Int.reduceNeg]
      repeat (refine And.intro (by first | omega | (constructor <;> omega) | kernel_rfl) ?_)
      refine CallW.mk (c1) ?_
      try simp (config := { maxSteps := 10000000 }) only [go_sem, reduceIte, reduceCtorEq, Nat.reduceEqDiff, Nat.reduceLT, Nat.reduceLeDiff, Nat.reduceAdd, Nat.reduceBEq, Nat.reduceMul, Int.reduceToNat, Int.reduceLE, Int.reduceLT, Int.reduceEq, Int.reduceNeg]
      repeat (refine And.intro (by first | omega | (constructor <;> omega) | kernel_rfl) ?_)
      refine CallW.mk (c2) ?_
      try simp (config := { maxSteps := 10000000 }) only [go_sem, reduceIte, reduceCtorEq, Nat.reduceEqDiff, Nat.reduceLT, Nat.reduceLeDiff, Nat.reduceAdd, Nat.reduceBEq, Nat.reduceMul, Int.reduceToNat, Int.reduceLE, Int.reduceLT, Int.reduceEq, Int.reduceNeg]
  · rw [eqb_false e1] at c1
    rw [eqb_false (fun h => e1 (congrArg (fun z => z.1) h))]
    refine fn_enter tabOK mixes Tryz.func25 rfl rfl _ Tryz.ntmps25 _ Tryz.results25 (by simp) fun hwf => ?_
    try simp (config := { maxSteps := 10000000 }) only [go_sem, reduceIte, reduceCtorEq, Nat.reduceEqDiff, Nat.reduceLT, Nat.reduceLeDiff, Nat.reduceAdd, Nat.reduceBEq, Nat.reduceMul, Int.reduceToNat, Int.reduceLE, Int.reduceLT, Int.reduceEq, Int.reduceNeg]
    repeat (refine And.intro (by first | omega | (constructor <;> omega) | kernel_rfl) ?_)
    refine CallW.mk (c1) ?_
    try simp (config := { maxSteps := 10000000 }) only [go_sem, reduceIte, reduceCtorEq, Nat.reduceEqDiff, Nat.reduceLT, Nat.reduceLeDiff, Nat.reduceAdd, Nat.reduceBEq, Nat.reduceMul, Int.reduceToNat, Int.reduceLE, Int.reduceLT, Int.reduceEq, Int.reduceNeg]
end DW
end Go.Proofs.YtgffgcpcjpjfgaaGreat

namespace Go.Proofs.YtgffgcpcjpjfgaaGreat
open Go.RowKit

def cnVec (_ : DVec) : Nat := 0
def mkVec (x : DVec) (k : Int) : DVec := (x.1, x.2)
def ecVec (x : DVec) : Nat := 1 + 1
def emVec (x : DVec) (k : Int) : DVec := (k, k + 1)
def cnVecS : DVecS → Nat
  | [] => 0
  | x :: l => ecVec x + cnVecS l
theorem cnVecS_snoc (l : DVecS) (x : DVec) : cnVecS (l ++ [x]) = cnVecS l + ecVec x := by
  induction l with
  | nil => simp [cnVecS]
  | cons y l ih => simp [cnVecS, ih]; omega
theorem cnVecS_take (l : DVecS) (k : Nat) : cnVecS (l.take k) ≤ cnVecS l := by
  induction l generalizing k with
  | nil => simp [cnVecS]
  | cons y l ih => cases k with
    | zero => simp [cnVecS]
    | succ k => have := ih k; simp [cnVecS]; omega
def mkVecS : DVecS → Int → DVecS
  | [], _ => []
  | x :: l, k => emVec x k :: mkVecS l (k + ecVec x)
theorem mkVecS_len (l : DVecS) (k : Int) : (mkVecS l k).length = l.length := by
  induction l generalizing k with
  | nil => rfl
  | cons y l ih => simp [mkVecS, ih]
theorem mkVecS_snoc (l : DVecS) (x : DVec) (k : Int) : mkVecS (l ++ [x]) k = mkVecS l k ++ [emVec x (k + cnVecS l)] := by
  induction l generalizing k with
  | nil => simp [mkVecS, cnVecS]
  | cons y l ih => simp only [List.cons_append, mkVecS, ih, cnVecS]; rw [show k + (ecVec y : Int) + (cnVecS l : Int) = k + ((ecVec y + cnVecS l : Nat) : Int) from by omega]
def cnTour (x : DTour) : Nat := cnVecS x.1 + cnPlacement x.2.1 + cnStepS x.2.2
def mkTour (x : DTour) (k : Int) : DTour := (mkVecS x.1 k, mkPlacement x.2.1 (k + cnVecS x.1), mkStepS x.2.2 (k + cnVecS x.1 + cnPlacement x.2.1))
theorem mkVecS_get (l : DVecS) (k : Int) (j : Nat) (x : DVec) (h : l[j]? = some x) : (mkVecS l k)[j]? = some (emVec x (k + (cnVecS (l.take j) : Nat))) := by
  induction l generalizing k j with
  | nil => simp at h
  | cons y l ih => cases j with
    | zero => simp at h; subst h; simp [mkVecS, cnVecS]
    | succ j => simp at h; simp only [mkVecS, List.getElem?_cons_succ, List.take_succ_cons, cnVecS]; rw [ih _ j h, show k + (ecVec y : Int) + ((cnVecS (l.take j) : Nat) : Int) = k + ((ecVec y + cnVecS (l.take j) : Nat) : Int) from by omega]
set_option maxRecDepth 100000 in
set_option maxHeartbeats 1000000 in
theorem markVecS_any (v : Value) (x : DVecS) (k : Int) (fp : List Nat) (w : World) (hx : RVecS.rep w [v] x fp) (hn : fp.Nodup) (hf : ∀ b ∈ fp, Free w b) (h0 : 0 ≤ k) (h1 : k + cnVecS x ≤ 1073741824) :
    Calls Tryz.prog 72 #[v, .int .i64 k] w (Post (MarkPost RVecS [v] (mkVecS x k) fp (k + cnVecS x) w)) := by
  obtain ⟨ad, c, hv, hlc, hm, hh⟩ := hx
  injection hv with hv
  subst hv
  unfold maxLen at hm
  rcases hh with ⟨rfl, rfl⟩ | ⟨b, off, fps, hl, rfl, rfl, he⟩
  · go_enter Tryz.func72, Tryz.ntmps72
    go_wp2
    go_loopw [1, 5] (fun kk i wr => i = .int .i64 0 ∧ kk = .int .i64 k ∧ wr = w) (fun _ _ _ => 0)
    case atStart => exact ⟨rfl, rfl, rfl⟩
    case round =>
      obtain ⟨rfl, rfl, rfl⟩ := hrel
      go_wp2
      go_ret
      exact ⟨_, rfl, congrArg (Value.int .i64) (by simp [cnVecS]), ⟨ad, c, rfl, hlc, by unfold maxLen; omega, .inl ⟨rfl, rfl⟩⟩, Upto.refl _ _⟩
  have HN := Lib.hid hn; have HF := Lib.hid hf; have HE := Lib.hid he; have HL := Lib.hid hl; clear hn hf he hl
  go_enter Tryz.func72, Tryz.ntmps72
  go_wp2
  go_loopw [1, 5] (fun kk i wr => ∃ j : Nat, j ≤ x.length ∧ i = .int .i64 j ∧ kk = .int .i64 (k + (cnVecS (x.take j) : Nat)) ∧ Elems RVec wr b off (mkVecS (x.take j) k ++ x.drop j) fps ∧ Upto (b :: fps.flatten) w wr) (fun _ i _ => x.length - (intOf i).toNat)
  case atStart => exact ⟨0, Nat.zero_le _, rfl, congrArg (Value.int .i64) (by simp [cnVecS]), by simpa [mkVecS] using HE.out, Upto.refl _ _⟩
  case round =>
    obtain ⟨j, hj, rfl, rfl, hE, hU⟩ := hrel
    have HEr := Lib.hid hE; have HU := Lib.hid hU; clear hE hU
    by_cases hjl : j < x.length
    rotate_left
    · obtain rfl : j = x.length := by omega
      go_wp2
      go_ret
      have h := HEr.out
      rw [List.take_length, List.drop_length, List.append_nil] at h
      have hml := mkVecS_len x k
      exact ⟨_, rfl, congrArg (Value.int .i64) (by rw [List.take_length]), ⟨_, c, by rw [hml], by rw [hml]; exact hlc, by unfold maxLen; omega, .inr ⟨b, off, fps, fun e => HL.out (List.eq_nil_of_length_eq_zero (by rw [← hml, e]; rfl)), rfl, rfl, h⟩⟩, HU.out⟩
    have hml : (mkVecS (x.take j) k).length = j := by rw [mkVecS_len, List.length_take]; omega
    have hget : (mkVecS (x.take j) k ++ x.drop j)[j]? = some x[j] := by rw [List.getElem?_append_right (by omega), hml]; simp
    obtain ⟨f, cs, hfj, hr, hcs⟩ := HEr.out.2 j _ hget
    have hfr := HU.out.free b List.mem_cons_self (HF.out b List.mem_cons_self)
    have hbf : b ∉ f := fun h => (List.nodup_cons.1 HN.out).1 (flat_mem hfj b h)
    have hff : ∀ z ∈ f, Free wr z := fun z hz => HU.out.free z (List.mem_cons_of_mem _ (flat_mem hfj z hz)) (HF.out z (List.mem_cons_of_mem _ (flat_mem hfj z hz)))
    have hfn : f.Nodup := (List.pairwise_flatten.1 (List.nodup_cons.1 HN.out).2).1 f (List.mem_of_getElem? hfj)
    have hec : cnVecS (x.take j) + ecVec x[j] = cnVecS (x.take (j + 1)) := by rw [List.take_succ_eq_append_getElem hjl, cnVecS_snoc]
    have hect := cnVecS_take x (j + 1)
    obtain ⟨q, hq⟩ : ∃ q : Int, q = k + (cnVecS (x.take j) : Nat) := ⟨_, rfl⟩
    have hq0 : 0 ≤ q := by omega
    have hq1 : q + (ecVec x[j] : Nat) ≤ 1073741824 := by omega
    rw [← hq]
    have HQ := Lib.hid hq; have HEC := Lib.hid hec; have HML := Lib.hid hml; have HFJ := Lib.hid hfj
    clear hq hec hml hget hfj hect
    obtain ⟨c0, c1, rfl⟩ := list2 (RVec.len hr)
    obtain ⟨f0, f1, rfl, hp0, hp1⟩ := rep_split [c0] [c1] rfl hr
    obtain ⟨he0, rfl, hI0⟩ := hp0
    injection he0 with he0; subst he0
    obtain ⟨he1, rfl, hI1⟩ := hp1
    injection he1 with he1; subst he1
    have hnd := hfn
    simp only [List.nil_append, List.append_assoc] at hnd
    have HFF := Lib.hid hff; have HBF := Lib.hid hbf; clear hff hbf hfn
    have nd0 := hnd
    have hqe := hq1; simp only [ecVec] at hqe
    have hbl0 : b < wr.heap.size := hfr.lt
    have g0 : wr.cell? ⟨b, off + j * 2, none⟩ = some (Value.int .i64 x[j].1) := hcs 0 _ rfl
    have g1 : wr.cell? ⟨b, off + j * 2 + 1, none⟩ = some (Value.int .i64 x[j].2) := hcs 1 _ rfl
    have hfz := hfr.frozen
    have HT0 := Lib.hid (Upto.refl (b :: ([] ++ [])) wr)
    clear hcs hfr
    go_wp2
    go_roundw
    case rel =>
      have hBe : Upto [b] wr _ := (((Upto.refl [b] wr).setCell (p := ⟨b, off + j * 2, none⟩) List.mem_cons_self (Value.int .i64 (q))).setCell (p := ⟨b, off + j * 2 + 1, none⟩) List.mem_cons_self (Value.int .i64 (q + 1)))
      have e0 : ((wr.setCell ⟨b, off + j * 2, none⟩ (Value.int .i64 (q))).setCell ⟨b, off + j * 2 + 1, none⟩ (Value.int .i64 (q + 1))).cell? ⟨b, off + j * 2, none⟩ = some (Value.int .i64 (q)) := by simp [go_sem, g0]
      have e1 : ((wr.setCell ⟨b, off + j * 2, none⟩ (Value.int .i64 (q))).setCell ⟨b, off + j * 2 + 1, none⟩ (Value.int .i64 (q + 1))).cell? ⟨b, off + j * 2 + 1, none⟩ = some (Value.int .i64 (q + 1)) := by simp [go_sem, g1]
      have hup := HEr.out.update (w' := ((wr.setCell ⟨b, off + j * 2, none⟩ (Value.int .i64 (q))).setCell ⟨b, off + j * 2 + 1, none⟩ (Value.int .i64 (q + 1)))) (x' := emVec x[j] q) (cs' := [(Value.int .i64 (q)), (Value.int .i64 (q + 1))]) HN.out HFJ.out (rep_pair (rep_int [] (by first | rfl | (simp only [ecVec]; omega)) (by constructor <;> omega)) (rep_int [] (by first | rfl | (simp only [ecVec]; omega)) (by constructor <;> omega))) (cells_cons e0 (cells_cons e1 cells_nil))
        (fun z hz hzb hzf => (((HT0.out.setCell (p := ⟨b, off + j * 2, none⟩) List.mem_cons_self (Value.int .i64 (q))).setCell (p := ⟨b, off + j * 2 + 1, none⟩) List.mem_cons_self (Value.int .i64 (q + 1)))).block z hz (by rw [List.mem_cons]; exact fun h => h.elim hzb hzf))
        (fun o ho => have ho : o < off + j * 2 ∨ off + j * 2 + 2 ≤ o := by have h1 : (j + 1) * 2 = j * 2 + 2 := Nat.succ_mul _ _; have h2 : o < off + j * 2 ∨ off + (j + 1) * 2 ≤ o := ho; omega
          ((setCell_out (Value.int .i64 (q + 1)) (by omega)).trans ((setCell_out (Value.int .i64 (q)) (by omega)).trans rfl)))
      have e : (mkVecS (x.take j) k ++ x.drop j).set j (emVec x[j] q) = mkVecS (x.take (j + 1)) k ++ x.drop (j + 1) := by
        rw [List.set_append_right _ _ (by rw [HML.out]; exact Nat.le_refl _), HML.out, Nat.sub_self, List.drop_eq_getElem_cons hjl, List.set_cons_zero, List.take_succ_eq_append_getElem hjl, mkVecS_snoc, ← HQ.out]
        simp
      rw [e] at hup
      refine ⟨j + 1, by omega, by go_num, congrArg (Value.int .i64) ?_, hup, HU.out.trans ((((HT0.out.setCell (p := ⟨b, off + j * 2, none⟩) List.mem_cons_self (Value.int .i64 (q))).setCell (p := ⟨b, off + j * 2 + 1, none⟩) List.mem_cons_self (Value.int .i64 (q + 1)))).mono ?_)⟩
      · have h1 := HQ.out; have h2 := HEC.out; simp only [ecVec] at h2; omega
      · intro z hz; rcases List.mem_cons.1 hz with rfl | hz; exact List.mem_cons_self; exact List.mem_cons_of_mem _ (flat_mem HFJ.out z hz)
    case measure => simp [intOf]; omega
set_option maxRecDepth 100000 in
set_option maxHeartbeats 1000000 in
theorem markTour_any (c0 c1 c2 c3 c4 c5 c6 c7 c8 : Value) (x : DTour) (k : Int) (fp : List Nat) (w : World) (hx : RTour.rep w [c0, c1, c2, c3, c4, c5, c6, c7, c8] x fp) (hn : fp.Nodup) (hf : ∀ b ∈ fp, Free w b) (h0 : 0 ≤ k) (h1 : k + cnTour x ≤ 1073741824) :
    Calls Tryz.prog 26 #[.agg #[c0, c1, c2, c3, c4, c5, c6, c7, c8], .int .i64 k] w (Post (MarkPost RTour [c0, c1, c2, c3, c4, c5, c6, c7, c8] (mkTour x k) fp (k + cnTour x) w)) := by
  have hlt := RTour.lt hx
  obtain ⟨f0, frest, rfl, hr0, hrest⟩ := rep_split [c0] [c1, c2, c3, c4, c5, c6, c7, c8] rfl hx
  obtain ⟨f1, f2, rfl, hr1, hr2⟩ := rep_split [c1, c2, c3, c4, c5, c6, c7] [c8] rfl hrest
  obtain ⟨nd0, nd12, dj0, dj0'⟩ := nodup_app hn
  obtain ⟨nd1, nd2, dj1, dj1'⟩ := nodup_app nd12
  have m0 : ∀ b, b ∈ f0 → b ∈ f0 ++ (f1 ++ f2) := fun b hb => List.mem_append.2 (.inl hb)
  have m1 : ∀ b, b ∈ f1 → b ∈ f0 ++ (f1 ++ f2) := fun b hb => List.mem_append.2 (.inr (List.mem_append.2 (.inl hb)))
  have m2 : ∀ b, b ∈ f2 → b ∈ f0 ++ (f1 ++ f2) := fun b hb => List.mem_append.2 (.inr (List.mem_append.2 (.inr hb)))
  have n01 : ∀ b, b ∈ f0 → b ∉ f1 := fun b h g => dj0 b h (List.mem_append.2 (.inl g))
  have n02 : ∀ b, b ∈ f0 → b ∉ f2 := fun b h g => dj0 b h (List.mem_append.2 (.inr g))
  have n10 : ∀ b, b ∈ f1 → b ∉ f0 := fun b h g => n01 b g h
  have n20 : ∀ b, b ∈ f2 → b ∉ f0 := fun b h g => n02 b g h
  have HR0 := Lib.hid hr0; have HR1 := Lib.hid hr1; have HR2 := Lib.hid hr2
  have HF := Lib.hid hf; have HLT := Lib.hid hlt; clear hr0 hr1 hr2 hn hf hlt hx hrest
  have hub := h1; unfold cnTour at hub
  have hp0 : (0 : Int) ≤ (cnVecS x.1 : Nat) := Int.natCast_nonneg _
  have hp1 : (0 : Int) ≤ (cnPlacement x.2.1 : Nat) := Int.natCast_nonneg _
  have hp2 : (0 : Int) ≤ (cnStepS x.2.2 : Nat) := Int.natCast_nonneg _
  have hend : k + (cnVecS x.1 : Nat) + (cnPlacement x.2.1 : Nat) + (cnStepS x.2.2 : Nat) = k + (cnTour x : Nat) := by unfold cnTour; omega
  have HEND := Lib.hid hend; clear hend
  go_enter Tryz.func26, Tryz.ntmps26
  have hu0 : Below w.heap.size w (w.alloc (Obj.cells #[c0, c1, c2, c3, c4, c5, c6, c7, c8] 60)) := (Below.refl w.heap.size w).alloc (Nat.le_refl _) _
  go_wp2_with fail
  refine (markVecS_any _ _ _ f0 _ (RVecS.frame HR0.out fun b hb => hu0.block b (HLT.out b (m0 b hb))) nd0 (fun b hb => (HF.out b (m0 b hb)).frame (hu0.block b (HLT.out b (m0 b hb)))) (by omega) (by omega)).mono ?_
  rintro e w1 ⟨v, rfl, rfl, hm1, hu1⟩
  have HMM1 := Lib.hid hm1; clear hm1
  have hcb1 : ∀ o, w1.cell? ⟨w.heap.size, o, none⟩ = (w.alloc (Obj.cells #[c0, c1, c2, c3, c4, c5, c6, c7, c8] 60)).cell? ⟨w.heap.size, o, none⟩ := fun o => hu1.cell (by simp) (fun hb => absurd (HLT.out _ (m0 _ hb)) (by omega)) o
  go_wp2_with fail
  have hr11 : RPlacement.rep w1 [c1, c2, c3, c4, c5, c6, c7] x.2.1 f1 := Rp.upto (RPlacement.frame HR1.out fun b hb => hu0.block b (HLT.out b (m1 b hb))) hu1 n10
  have hfr1 : ∀ b ∈ f1, Free w1 b := fun b hb => ((HF.out b (m1 b hb)).frame (hu0.block b (HLT.out b (m1 b hb)))).frame (hu1.block b (Nat.lt_of_lt_of_le (HLT.out b (m1 b hb)) hu0.size) (n10 b hb))
  have hr21 : RStepS.rep w1 [c8] x.2.2 f2 := Rp.upto (RStepS.frame HR2.out fun b hb => hu0.block b (HLT.out b (m2 b hb))) hu1 n20
  have hfr2 : ∀ b ∈ f2, Free w1 b := fun b hb => ((HF.out b (m2 b hb)).frame (hu0.block b (HLT.out b (m2 b hb)))).frame (hu1.block b (Nat.lt_of_lt_of_le (HLT.out b (m2 b hb)) hu0.size) (n20 b hb))
  have hlt1 : ∀ b ∈ f1 ++ f2, b < w1.heap.size := fun b hb => Nat.lt_of_lt_of_le (HLT.out b (List.mem_append.2 (.inr hb))) (Nat.le_trans hu0.size hu1.size)
  refine (markPlacement_any _ _ _ _ _ _ _ _ _ f1 _ hr11 nd1 hfr1 (by omega) (by omega)).mono ?_
  rintro e w2 ⟨v, rfl, rfl, hm2, hu2⟩
  have HMM2 := Lib.hid hm2; clear hm2
  have hcb2 : ∀ o, w2.cell? ⟨w.heap.size, o, none⟩ = (w.alloc (Obj.cells #[c0, c1, c2, c3, c4, c5, c6, c7, c8] 60)).cell? ⟨w.heap.size, o, none⟩ := fun o => (hu2.cell (Nat.lt_of_lt_of_le (by simp) hu1.size) (fun hb => absurd (HLT.out _ (m1 _ hb)) (by omega)) o).trans (hcb1 o)
  go_wp2_with fail
  have hr22 : RStepS.rep w2 [c8] x.2.2 f2 := Rp.upto hr21 hu2 dj1'
  have hfr22 : ∀ b ∈ f2, Free w2 b := fun b hb => (hfr2 b hb).frame (hu2.block b (hlt1 b (List.mem_append.2 (.inr hb))) (dj1' b hb))
  refine (markStepS_any _ _ _ f2 _ hr22 nd2 hfr22 (by omega) (by omega)).mono ?_
  rintro e w3 ⟨v, rfl, rfl, hm3, hu3⟩
  have HMM3 := Lib.hid hm3; clear hm3
  go_wp2
  go_ret
  exact ⟨_, rfl, congrArg (Value.int .i64) HEND.out, rep_pair (Rp.upto (Rp.upto HMM1.out hu2 n01) hu3 n02) (rep_pair (Rp.upto HMM2.out hu3 dj1) HMM3.out),
    (((Upto.of_below hu0 (Nat.le_refl _)).trans (hu1.mono fun b hb => m0 b hb)).trans (hu2.mono fun b hb => m1 b hb)).trans (hu3.mono fun b hb => m2 b hb)⟩
namespace DW
theorem markVecS_fn (x : DVecS) (k : Int) (h0 : 0 ≤ k) (h1 : k + cnVecS x ≤ 1073741824) : FnM Tryz.prog 72 (.slice DW.tVec) x (mkVecS x k) k (k + cnVecS x) := by
  refine FnM.of (enters Tryz.func72 rfl rfl) (small_I64 (by omega) h1) fun w v cs fp hp hx hn hf => ?_
  obtain rfl := pk_one rfl hp
  exact markVecS_any _ x k fp w hx hn hf h0 h1
theorem markTour_fn (x : DTour) (k : Int) (h0 : 0 ≤ k) (h1 : k + cnTour x ≤ 1073741824) : FnM Tryz.prog 26 DW.tTour x (mkTour x k) k (k + cnTour x) := by
  refine FnM.of (enters Tryz.func26 rfl rfl) (small_I64 (by omega) h1) fun w v cs fp hp hx hn hf => ?_
  obtain rfl := pk_agg rfl hp
  obtain ⟨c0, c1, c2, c3, c4, c5, c6, c7, c8, rfl⟩ := list9 (RTour.len hx)
  exact markTour_any _ _ _ _ _ _ _ _ _ x k fp w hx hn hf h0 h1
@[go_sem] theorem mkTour_sc0 (x : DTour) (k : Int) : (mkTour x k).2.1.1 = x.2.1.1 := (rfl)
@[go_sem] theorem mkTour_sc1 (x : DTour) (k : Int) : (mkTour x k).2.1.2.1.1.1 = x.2.1.2.1.1.1 := (rfl)
@[go_sem] theorem mkTour_sc2 (x : DTour) (k : Int) : (mkTour x k).2.1.2.2.1.1 = x.2.1.2.2.1.1 := (rfl)
theorem cnVecS_le (x : DVecS) : cnVecS x = 2 * x.length := by
  induction x with
  | nil => rfl
  | cons y l ih => rw [cnVecS, ih, List.length_cons]; unfold ecVec; omega
end DW
theorem cnTour_le (x : DTour) : cnTour x ≤ 3 * tTour x := by
  have h1 := DW.cnVecS_le x.1
  have h2 := cnPlacement_le x.2.1
  have h3 := cnStepS_le x.2.2
  unfold cnTour tTour
  omega
end Go.Proofs.YtgffgcpcjpjfgaaGreat

/-
  The arguments' types of this program, opened: vectors and tours.
-/
namespace Go.Proofs.YtgffgcpcjpjfgaaGreat
open Go.RowKit
section
variable {H : Type} {enc : TypeId × Value → H} {w : World} {P : Program}
theorem Opens.prod3 {α β γ : Type} {t : TypeId} {A : Rp α} {B : Rp β} {C : Rp γ} {f0 f1 f2 : Field} (ht : P.underlying t = some (.struct #[f0, f1, f2])) (o0 : f0.offset = 0) (o1 : f1.offset = A.size) (o2 : f2.offset = A.size + B.size)
    (s0 : P.cellsOf f0.type = A.size) (s1 : P.cellsOf f1.type = B.size) (s2 : P.cellsOf f2.type = C.size) (s : P.cellsOf t = A.size + (B.size + C.size)) (h0 : Opens enc P w f0.type A) (h1 : Opens enc P w f1.type B) (h2 : Opens enc P w f2.type C) : Opens enc P w t (Rp.prod A (Rp.prod B C)) := fun fuel cs x h => by
  obtain ⟨xs, n, _, _, hl, hxl, hf⟩ := DataW.trod_struct ht h
  have e0 := hf 0 f0 rfl
  have e1 := hf 1 f1 rfl
  have e2 := hf 2 f2 rfl
  have hxl' : xs.length = 3 := hxl
  rw [o0, s0, List.getElem?_eq_getElem (by omega)] at e0
  rw [o1, s1, List.getElem?_eq_getElem (by omega)] at e1
  rw [o2, s2, List.getElem?_eq_getElem (by omega)] at e2
  obtain ⟨a, fa, ra⟩ := h0 _ _ _ e0
  obtain ⟨b, fb, rb⟩ := h1 _ _ _ e1
  obtain ⟨c, fc, rc⟩ := h2 _ _ _ e2
  refine ⟨(a, b, c), fa ++ (fb ++ fc), _, cs.drop A.size, fa, fb ++ fc, ?_, rfl, ra, _, _, fb, fc, ?_, rfl, rb, rc⟩
  · rw [List.drop_zero, List.take_append_drop]
  · rw [← List.drop_drop, List.take_of_length_le (show ((cs.drop A.size).drop B.size).length ≤ C.size by simp; omega), List.take_append_drop]
theorem oVec : Opens enc Tryz.prog w 130 RVec := Opens.prod Tryz.underlying130 rfl rfl (by kernel_rfl) (by kernel_rfl) (by kernel_rfl) oInt oInt
theorem oVecS : Opens enc Tryz.prog w 52 RVecS := Opens.slice Tryz.underlying52 (by kernel_rfl) oVec
theorem oTour : Opens enc Tryz.prog w 54 RTour := Opens.prod3 Tryz.underlying54 rfl rfl rfl (by kernel_rfl) (by kernel_rfl) (by kernel_rfl) (by kernel_rfl) oVecS oPlacement oStepS
end
end Go.Proofs.YtgffgcpcjpjfgaaGreat

/-
  The law FnExactStandOf returns true: the walk through it on data, by the contracts.
-/
namespace Go.Proofs.YtgffgcpcjpjfgaaGreat.DW
open Go.RowKit

set_option maxRecDepth 100000 in
set_option maxHeartbeats 8000000 in
theorem lawStandOf_fn (x0 : DTour) (n1 : Int) : Fn Tryz.prog 4 [⟨DW.tTour, x0⟩, ⟨.int, n1⟩] false [⟨.bool, true⟩] := by
  refine fn_enter tabOK mixes Tryz.func4 rfl rfl _ Tryz.ntmps4 _ Tryz.results4 (by simp) fun hwf => ?_
  have hI1 : I64 n1 := hwf ⟨.int, n1⟩ (by simp)
  try simp (config := { maxSteps := 10000000 }) only [go_sem, reduceIte, reduceCtorEq, Nat.reduceEqDiff, Nat.reduceLT, Nat.reduceLeDiff, Nat.reduceAdd, Nat.reduceBEq, Nat.reduceMul, Int.reduceToNat, Int.reduceLE, Int.reduceLT, Int.reduceEq, Int.reduceNeg]
  repeat (refine And.intro (by first | omega | (constructor <;> omega) | kernel_rfl) ?_)
  refine CallW.mk (szTour_fn x0 1048576 (by omega) (by omega)) ?_
  try simp (config := { maxSteps := 10000000 }) only [go_sem, reduceIte, reduceCtorEq, Nat.reduceEqDiff, Nat.reduceLT, Nat.reduceLeDiff, Nat.reduceAdd, Nat.reduceBEq, Nat.reduceMul, Int.reduceToNat, Int.reduceLE, Int.reduceLT, Int.reduceEq, Int.reduceNeg]
  repeat (refine And.intro (by first | omega | (constructor <;> omega) | kernel_rfl) ?_)
  have hr0 := szr_lo 1048576 (Go.Proofs.YtgffgcpcjpjfgaaGreat.tTour x0) (by omega)
  refine CondW_dec (fun hlt => ?_) (fun hge0 => ?_)
  · try simp (config := { maxSteps := 10000000 }) only [go_sem, reduceIte, reduceCtorEq, Nat.reduceEqDiff, Nat.reduceLT, Nat.reduceLeDiff, Nat.reduceAdd, Nat.reduceBEq, Nat.reduceMul, Int.reduceToNat, Int.reduceLE, Int.reduceLT, Int.reduceEq, Int.reduceNeg]
  have hge0' : 0 ≤ szr 1048576 (Go.Proofs.YtgffgcpcjpjfgaaGreat.tTour x0) := by omega
  have hs0 := (szr_ok hge0').1
  have hle0 : Go.Proofs.YtgffgcpcjpjfgaaGreat.tTour x0 ≤ 1048576 := by omega
  clear hr0 hs0 hge0 hge0'
  try simp (config := { maxSteps := 10000000 }) only [go_sem, reduceIte, reduceCtorEq, Nat.reduceEqDiff, Nat.reduceLT, Nat.reduceLeDiff, Nat.reduceAdd, Nat.reduceBEq, Nat.reduceMul, Int.reduceToNat, Int.reduceLE, Int.reduceLT, Int.reduceEq, Int.reduceNeg]
  repeat (refine And.intro (by first | omega | (constructor <;> omega) | kernel_rfl) ?_)
  refine CallW.mk (toTour_fn x0 hle0) ?_
  try simp (config := { maxSteps := 10000000 }) only [go_sem, reduceIte, reduceCtorEq, Nat.reduceEqDiff, Nat.reduceLT, Nat.reduceLeDiff, Nat.reduceAdd, Nat.reduceBEq, Nat.reduceMul, Int.reduceToNat, Int.reduceLE, Int.reduceLT, Int.reduceEq, Int.reduceNeg]
  repeat (refine And.intro (by first | omega | (constructor <;> omega) | kernel_rfl) ?_)
  refine CallW.t (specStandOf_fn x0 n1) ?_
  try simp (config := { maxSteps := 10000000 }) only [go_sem, reduceIte, reduceCtorEq, Nat.reduceEqDiff, Nat.reduceLT, Nat.reduceLeDiff, Nat.reduceAdd, Nat.reduceBEq, Nat.reduceMul, Int.reduceToNat, Int.reduceLE, Int.reduceLT, Int.reduceEq, Int.reduceNeg]
  repeat (refine And.intro (by first | omega | (constructor <;> omega) | kernel_rfl) ?_)
  refine CallW.mx (toTour_fn x0 hle0) ?_
  try simp (config := { maxSteps := 10000000 }) only [go_sem, reduceIte, reduceCtorEq, Nat.reduceEqDiff, Nat.reduceLT, Nat.reduceLeDiff, Nat.reduceAdd, Nat.reduceBEq, Nat.reduceMul, Int.reduceToNat, Int.reduceLE, Int.reduceLT, Int.reduceEq, Int.reduceNeg]
  repeat (refine And.intro (by first | omega | (constructor <;> omega) | kernel_rfl) ?_)
  refine CallW.t (implStandOf_fn x0 n1) ?_
  try simp (config := { maxSteps := 10000000 }) only [go_sem, reduceIte, reduceCtorEq, Nat.reduceEqDiff, Nat.reduceLT, Nat.reduceLeDiff, Nat.reduceAdd, Nat.reduceBEq, Nat.reduceMul, Int.reduceToNat, Int.reduceLE, Int.reduceLT, Int.reduceEq, Int.reduceNeg]
  repeat (refine And.intro (by first | omega | (constructor <;> omega) | kernel_rfl) ?_)
  refine CallW.mx (eqPlacement_fn (standO x0 n1) (standO x0 n1)) ?_
  try simp (config := { maxSteps := 10000000 }) only [go_sem, reduceIte, reduceCtorEq, Nat.reduceEqDiff, Nat.reduceLT, Nat.reduceLeDiff, Nat.reduceAdd, Nat.reduceBEq, Nat.reduceMul, Int.reduceToNat, Int.reduceLE, Int.reduceLT, Int.reduceEq, Int.reduceNeg]
  repeat (refine And.intro (by first | omega | (constructor <;> omega) | kernel_rfl) ?_)
  refine CallW.mk (toTour_fn x0 hle0) ?_
  try simp (config := { maxSteps := 10000000 }) only [go_sem, reduceIte, reduceCtorEq, Nat.reduceEqDiff, Nat.reduceLT, Nat.reduceLeDiff, Nat.reduceAdd, Nat.reduceBEq, Nat.reduceMul, Int.reduceToNat, Int.reduceLE, Int.reduceLT, Int.reduceEq, Int.reduceNeg]
  repeat (refine And.intro (by first | omega | (constructor <;> omega) | kernel_rfl) ?_)
  refine CallW.mx (eqTour_fn x0 x0) ?_
  try simp (config := { maxSteps := 10000000 }) only [go_sem, reduceIte, reduceCtorEq, Nat.reduceEqDiff, Nat.reduceLT, Nat.reduceLeDiff, Nat.reduceAdd, Nat.reduceBEq, Nat.reduceMul, Int.reduceToNat, Int.reduceLE, Int.reduceLT, Int.reduceEq, Int.reduceNeg]
  have hc0 : Go.Proofs.YtgffgcpcjpjfgaaGreat.cnTour x0 ≤ 3145728 := by have := Go.Proofs.YtgffgcpcjpjfgaaGreat.cnTour_le x0; omega
  repeat (refine And.intro (by first | omega | (constructor <;> omega) | kernel_rfl) ?_)
  refine CallW.m (markTour_fn x0 1 (by omega) (by omega)) ?_
  try simp (config := { maxSteps := 10000000 }) only [go_sem, reduceIte, reduceCtorEq, Nat.reduceEqDiff, Nat.reduceLT, Nat.reduceLeDiff, Nat.reduceAdd, Nat.reduceBEq, Nat.reduceMul, Int.reduceToNat, Int.reduceLE, Int.reduceLT, Int.reduceEq, Int.reduceNeg]
  have hkf : decide ((1 : Int) + (Go.Proofs.YtgffgcpcjpjfgaaGreat.cnTour x0 : Int) < 0) = false := decide_eq_false (by omega)
  try simp (config := { maxSteps := 10000000 }) only [go_sem, reduceIte, reduceCtorEq, Nat.reduceEqDiff, Nat.reduceLT, Nat.reduceLeDiff, Nat.reduceAdd, Nat.reduceBEq, Nat.reduceMul, Int.reduceToNat, Int.reduceLE, Int.reduceLT, Int.reduceEq, Int.reduceNeg, hkf]
  repeat (refine And.intro (by first | omega | (constructor <;> omega) | kernel_rfl) ?_)
  refine CallW.mx (eqPlacement_fn (standO x0 n1) (standO x0 n1)) ?_
  try simp (config := { maxSteps := 10000000 }) only [go_sem, reduceIte, reduceCtorEq, Nat.reduceEqDiff, Nat.reduceLT, Nat.reduceLeDiff, Nat.reduceAdd, Nat.reduceBEq, Nat.reduceMul, Int.reduceToNat, Int.reduceLE, Int.reduceLT, Int.reduceEq, Int.reduceNeg]
  have hcg := cn_stand x0 n1
  repeat (refine And.intro (by first | omega | (constructor <;> omega) | kernel_rfl) ?_)
  refine CallW.m (markPlacement_fn (standO x0 n1) 1 (by omega) (by omega)) ?_
  try simp (config := { maxSteps := 10000000 }) only [go_sem, reduceIte, reduceCtorEq, Nat.reduceEqDiff, Nat.reduceLT, Nat.reduceLeDiff, Nat.reduceAdd, Nat.reduceBEq, Nat.reduceMul, Int.reduceToNat, Int.reduceLE, Int.reduceLT, Int.reduceEq, Int.reduceNeg]
  repeat (refine And.intro (by first | omega | (constructor <;> omega) | kernel_rfl) ?_)
  refine CallW.mx (heldPlacement_fn (standO x0 n1) 1 (by omega) (by omega)) ?_
  try simp (config := { maxSteps := 10000000 }) only [go_sem, reduceIte, reduceCtorEq, Nat.reduceEqDiff, Nat.reduceLT, Nat.reduceLeDiff, Nat.reduceAdd, Nat.reduceBEq, Nat.reduceMul, Int.reduceToNat, Int.reduceLE, Int.reduceLT, Int.reduceEq, Int.reduceNeg]
  repeat (refine And.intro (by first | omega | (constructor <;> omega) | kernel_rfl) ?_)
  refine CondW_dec (fun hlt => absurd hlt (by omega)) (fun _ => ?_)
  try simp (config := { maxSteps := 10000000 }) only [go_sem, reduceIte, reduceCtorEq, Nat.reduceEqDiff, Nat.reduceLT, Nat.reduceLeDiff, Nat.reduceAdd, Nat.reduceBEq, Nat.reduceMul, Int.reduceToNat, Int.reduceLE, Int.reduceLT, Int.reduceEq, Int.reduceNeg]
  repeat (refine And.intro (by first | omega | (constructor <;> omega) | kernel_rfl) ?_)
  refine CallW.mk (toTour_fn x0 hle0) ?_
  try simp (config := { maxSteps := 10000000 }) only [go_sem, reduceIte, reduceCtorEq, Nat.reduceEqDiff, Nat.reduceLT, Nat.reduceLeDiff, Nat.reduceAdd, Nat.reduceBEq, Nat.reduceMul, Int.reduceToNat, Int.reduceLE, Int.reduceLT, Int.reduceEq, Int.reduceNeg]
  repeat (refine And.intro (by first | omega | (constructor <;> omega) | kernel_rfl) ?_)
  refine CallW.t (implStandOf_fn x0 n1) ?_
  try simp (config := { maxSteps := 10000000 }) only [go_sem, reduceIte, reduceCtorEq, Nat.reduceEqDiff, Nat.reduceLT, Nat.reduceLeDiff, Nat.reduceAdd, Nat.reduceBEq, Nat.reduceMul, Int.reduceToNat, Int.reduceLE, Int.reduceLT, Int.reduceEq, Int.reduceNeg]
  repeat (refine And.intro (by first | omega | (constructor <;> omega) | kernel_rfl) ?_)
  refine CallW.mx (eqPlacement_fn (standO x0 n1) (standO x0 n1)) ?_
  try simp (config := { maxSteps := 10000000 }) only [go_sem, reduceIte, reduceCtorEq, Nat.reduceEqDiff, Nat.reduceLT, Nat.reduceLeDiff, Nat.reduceAdd, Nat.reduceBEq, Nat.reduceMul, Int.reduceToNat, Int.reduceLE, Int.reduceLT, Int.reduceEq, Int.reduceNeg]
  repeat (refine And.intro (by first | omega | (constructor <;> omega) | kernel_rfl) ?_)
  refine CallW.mx (heldPlacement_fn (standO x0 n1) 1 (by omega) (by omega)) ?_
  try simp (config := { maxSteps := 10000000 }) only [go_sem, reduceIte, reduceCtorEq, Nat.reduceEqDiff, Nat.reduceLT, Nat.reduceLeDiff, Nat.reduceAdd, Nat.reduceBEq, Nat.reduceMul, Int.reduceToNat, Int.reduceLE, Int.reduceLT, Int.reduceEq, Int.reduceNeg]
  repeat (refine And.intro (by first | omega | (constructor <;> omega) | kernel_rfl) ?_)
  refine CondW_dec (fun hlt => absurd hlt (by omega)) (fun _ => ?_)
  try simp (config := { maxSteps := 10000000 }) only [go_sem, reduceIte, reduceCtorEq, Nat.reduceEqDiff, Nat.reduceLT, Nat.reduceLeDiff, Nat.reduceAdd, Nat.reduceBEq, Nat.reduceMul, Int.reduceToNat, Int.reduceLE, Int.reduceLT, Int.reduceEq, Int.reduceNeg]
end Go.Proofs.YtgffgcpcjpjfgaaGreat.DW
namespace Go.Proofs.YtgffgcpcjpjfgaaGreat
open Go.RowKit DW
theorem law_FnExactStandOf (a0_0 a0_1 a0_2 a0_3 a0_4 a0_5 a0_6 a0_7 a0_8 : Value) (x0 : DTour) (n1 : Int) (w : World) (hx0 : Has RTour w [a0_0, a0_1, a0_2, a0_3, a0_4, a0_5, a0_6, a0_7, a0_8] x0) (hI1 : I64 n1) :
    Calls Tryz.prog 4 #[.agg #[a0_0, a0_1, a0_2, a0_3, a0_4, a0_5, a0_6, a0_7, a0_8], .int .i64 n1] w (Post fun r w' => r = .bool true ∧ Below w.heap.size w w') :=
  (DW.lawStandOf_fn x0 n1).bool (vs := [.agg #[a0_0, a0_1, a0_2, a0_3, a0_4, a0_5, a0_6, a0_7, a0_8], .int .i64 n1]) ⟨Arg.agg (t := DW.tTour) (cs := [a0_0, a0_1, a0_2, a0_3, a0_4, a0_5, a0_6, a0_7, a0_8]) rfl hx0, Arg.int hI1, trivial⟩
end Go.Proofs.YtgffgcpcjpjfgaaGreat
