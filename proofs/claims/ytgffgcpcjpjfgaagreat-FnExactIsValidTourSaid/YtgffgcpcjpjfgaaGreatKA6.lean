/-
  Texts of a proof, one behind another: Dw26, LwT, OpensT, LawIsValidTour.
-/
import Derived.Test.YtgffgcpcjpjfgaaGreatKA5
set_option linter.all false
/-
  Tours: validity.
-/
namespace Go.Proofs.YtgffgcpcjpjfgaaGreat.DW
open Go.RowKit
abbrev DT : Type := List DV × (DS × List DS)
theorem implSame_fn (p q : DP) : Fn Tryz.prog 82 [⟨tPoint, p⟩, ⟨tPoint, q⟩] false [⟨.bool, eqb p q⟩] := by
  refine Fn.ofEq (enters Tryz.func82 rfl rfl) fun w v cs u ds hp hx hq hy => ?_
  obtain rfl := pk_agg rfl hp
  obtain ⟨c0, c1, c2, c3, c4, c5, rfl⟩ := list6 hx.len
  obtain rfl := pk_agg rfl hq
  obtain ⟨d0, d1, d2, d3, d4, d5, rfl⟩ := list6 hy.len
  exact implSamePoint_any _ _ _ _ _ _ _ _ _ _ _ _ p q w hx hy
theorem specSame_fn (p q : DP) : Fn Tryz.prog 77 [⟨tPoint, p⟩, ⟨tPoint, q⟩] false [⟨.bool, eqb p q⟩] := by
  refine Fn.ofEq (enters Tryz.func77 rfl rfl) fun w v cs u ds hp hx hq hy => ?_
  obtain rfl := pk_agg rfl hp
  obtain ⟨c0, c1, c2, c3, c4, c5, rfl⟩ := list6 hx.len
  obtain rfl := pk_agg rfl hq
  obtain ⟨d0, d1, d2, d3, d4, d5, rfl⟩ := list6 hy.len
  exact specSamePoint_any _ _ _ _ _ _ _ _ _ _ _ _ p q w hx hy
theorem l22Turn_fn (n : Int) : Fn Tryz.prog 76 [⟨.int, n⟩] false [⟨.bool, decide (-1 ≤ n ∧ n ≤ 1)⟩] := by
  refine fn_enter tabOK mixes Tryz.func76 rfl rfl _ Tryz.ntmps76 _ Tryz.results76 (by simp) fun hwf => ?_
  try simp (config := { maxSteps := 10000000 }) only [go_sem, reduceIte, reduceCtorEq, Nat.reduceEqDiff, Nat.reduceLT, Nat.reduceLeDiff, Nat.reduceAdd, Nat.reduceBEq, Nat.reduceMul, Int.reduceToNat, Int.reduceLE, Int.reduceLT, Int.reduceEq, Int.reduceNeg]
  repeat (refine And.intro (by first | omega | (constructor <;> omega) | kernel_rfl) ?_)
  refine CallW.mk (l01In_fn n (-1) 1) ?_
  try simp (config := { maxSteps := 10000000 }) only [go_sem, reduceIte, reduceCtorEq, Nat.reduceEqDiff, Nat.reduceLT, Nat.reduceLeDiff, Nat.reduceAdd, Nat.reduceBEq, Nat.reduceMul, Int.reduceToNat, Int.reduceLE, Int.reduceLT, Int.reduceEq, Int.reduceNeg]
/-- A step that a tour may have. -/
noncomputable def tvStep (p x : DS) : Bool := decide (-1 ≤ x.1 ∧ x.1 ≤ 1) && (okPt x.2 && (decide (x.1 = 0) || eqb x.2 p.2))
noncomputable def tvGo : DS → List DS → Bool
  | _, [] => true
  | p, x :: l => tvStep p x && tvGo (stp p x) l
noncomputable def plcF (p : DS) (l : List DS) : DS := l.foldl stp p
/-- The placement behind the first i steps. -/
noncomputable def plcS (p : DS) (l : List DS) (i : Nat) : DS := plcF p (l.take i)
theorem plcS_step (p : DS) {l : List DS} {i : Nat} (h : i < l.length) : plcS p l (i + 1) = stp (plcS p l i) (nth (t := tStep) l i) := by
  unfold plcS plcF
  rw [List.take_succ_eq_append_getElem h, nth_lt h]
  simp only [List.foldl_append, List.foldl_cons, List.foldl_nil]
theorem tvGo_at {p : DS} {l : List DS} {i : Nat} (h : i < l.length) : tvGo p (l.drop i) = (tvStep p (nth (t := tStep) l i) && tvGo (stp p (nth (t := tStep) l i)) (l.drop (i + 1))) := by
  rw [List.drop_eq_getElem_cons h, nth_lt h]; rfl
noncomputable def tourB (t : DT) : Bool := smB t.1 20 && (decide (0 ≤ t.2.1.1 ∧ t.2.1.1 ≤ 3) && (okPt t.2.1.2 && (decide ((t.2.2.length : Int) ≤ 8) && tvGo t.2.1 t.2.2)))
theorem implIsValidTour_fn (t : DT) : Fn Tryz.prog 29 [⟨tTour, t⟩] false [⟨.bool, tourB t⟩] := by
  obtain ⟨r, p, l⟩ := t
  have c1 := isSmall_fn r 20 (by decide)
  have c2 := isHeading_fn p.1
  have c3 := arePoints1_fn p.2
  unfold tourB
  cases h1 : smB r 20 <;> rw [h1] at c1
  · refine fn_enter tabOK mixes Tryz.func29 rfl rfl _ Tryz.ntmps29 _ Tryz.results29 (by simp) fun hwf => ?_
    try simp (config := { maxSteps := 10000000 }) only [go_sem, reduceIte, reduceCtorEq, Nat.reduceEqDiff, Nat.reduceLT, Nat.reduceLeDiff, Nat.reduceAdd, Nat.reduceBEq, Nat.reduceMul, Int.reduceToNat, Int.reduceLE, Int.reduceLT, Int.reduceEq, Int.reduceNeg]
    repeat (refine And.intro (by first | omega | (constructor <;> omega) | kernel_rfl) ?_)
    refine CallW.mk (c1) ?_
    try simp (config := { maxSteps := 10000000 }) only [go_sem, reduceIte, reduceCtorEq, Nat.reduceEqDiff, Nat.reduceLT, Nat.reduceLeDiff, Nat.reduceAdd, Nat.reduceBEq, Nat.reduceMul, Int.reduceToNat, Int.reduceLE, Int.reduceLT, Int.reduceEq, Int.reduceNeg]
  · cases h2 : decide (0 ≤ p.1 ∧ p.1 ≤ 3) <;> rw [h2] at c2
    · refine fn_enter tabOK mixes Tryz.func29 rfl rfl _ Tryz.ntmps29 _ Tryz.results29 (by simp) fun hwf => ?_
      try simp (config := { maxSteps := 10000000 }) only [go_sem, reduceIte, reduceCtorEq, Nat.reduceEqDiff, Nat.reduceLT, Nat.reduceLeDiff, Nat.reduceAdd, Nat.reduceBEq, Nat.reduceMul, Int.reduceToNat, Int.reduceLE, Int.reduceLT, Int.reduceEq, Int.reduceNeg]
      repeat (refine And.intro (by first | omega | (constructor <;> omega) | kernel_rfl) ?_)
      refine CallW.mk (c1) ?_
      try simp (config := { maxSteps := 10000000 }) only [go_sem, reduceIte, reduceCtorEq, Nat.reduceEqDiff, Nat.reduceLT, Nat.reduceLeDiff, Nat.reduceAdd, Nat.reduceBEq, Nat.reduceMul, Int.reduceToNat, Int.reduceLE, Int.reduceLT, Int.reduceEq, Int.reduceNeg]
      repeat (refine And.intro (by first | omega | (constructor <;> omega) | kernel_rfl) ?_)
      refine CallW.mk (c2) ?_
      try simp (config := { maxSteps := 10000000 }) only [go_sem, reduceIte, reduceCtorEq, Nat.reduceEqDiff, Nat.reduceLT, Nat.reduceLeDiff, Nat.reduceAdd, Nat.reduceBEq, Nat.reduceMul, Int.reduceToNat, Int.reduceLE, Int.reduceLT, Int.reduceEq, Int.reduceNeg]
    · cases h3 : okPt p.2 <;> rw [h3] at c3
      · refine fn_enter tabOK mixes Tryz.func29 rfl rfl _ Tryz.ntmps29 _ Tryz.results29 (by simp) fun hwf => ?_
        try simp (config := { maxSteps := 10000000 }) only [go_sem, reduceIte, reduceCtorEq, Nat.reduceEqDiff, Nat.reduceLT, Nat.reduceLeDiff, Nat.reduceAdd, Nat.reduceBEq, Nat.reduceMul, Int.reduceToNat, Int.reduceLE, Int.reduceLT, Int.reduceEq, Int.reduceNeg]
        repeat (refine And.intro (by first | omega | (constructor <;> omega) | kernel_rfl) ?_)
        refine CallW.mk (c1) ?_
        try simp (config := { maxSteps := 10000000 }) only [go_sem, reduceIte, reduceCtorEq, Nat.reduceEqDiff, Nat.reduceLT, Nat.reduceLeDiff, Nat.reduceAdd, Nat.reduceBEq, Nat.reduceMul, Int.reduceToNat, Int.reduceLE, Int.reduceLT, Int.reduceEq, Int.reduceNeg]
        repeat (refine And.intro (by first | omega | (constructor <;> omega) | kernel_rfl) ?_)
        refine CallW.mk (c2) ?_
        try simp (config := { maxSteps := 10000000 }) only [go_sem, reduceIte, reduceCtorEq, Nat.reduceEqDiff, Nat.reduceLT, Nat.reduceLeDiff, Nat.reduceAdd, Nat.reduceBEq, Nat.reduceMul, Int.reduceToNat, Int.reduceLE, Int.reduceLT, Int.reduceEq, Int.reduceNeg]
        repeat (refine And.intro (by first | omega | (constructor <;> omega) | kernel_rfl) ?_)
        refine CallW.mk (c3) ?_
        try simp (config := { maxSteps := 10000000 }) only [go_sem, reduceIte, reduceCtorEq, Nat.reduceEqDiff, Nat.reduceLT, Nat.reduceLeDiff, Nat.reduceAdd, Nat.reduceBEq, Nat.reduceMul, Int.reduceToNat, Int.reduceLE, Int.reduceLT, Int.reduceEq, Int.reduceNeg]
      · by_cases h4 : (l.length : Int) ≤ 8
        · have d4 : decide ((8 : Int) < l.length) = false := decide_eq_false (by omega)
          rw [decide_eq_true h4]
          refine fn_enter tabOK mixes Tryz.func29 rfl rfl _ Tryz.ntmps29 _ Tryz.results29 (by simp) fun hwf => ?_
          try simp (config := { maxSteps := 10000000 }) only [go_sem, reduceIte, reduceCtorEq, Nat.reduceEqDiff, Nat.reduceLT, Nat.reduceLeDiff, Nat.reduceAdd, Nat.reduceBEq, Nat.reduceMul, Int.reduceToNat, Int.reduceLE, Int.reduceLT, Int.reduceEq, Int.reduceNeg]
          repeat (refine And.intro (by first | omega | (constructor <;> omega) | kernel_rfl) ?_)
          refine CallW.mk (c1) ?_
          try simp (config := { maxSteps := 10000000 }) only [go_sem, reduceIte, reduceCtorEq, Nat.reduceEqDiff, Nat.reduceLT, Nat.reduceLeDiff, Nat.reduceAdd, Nat.reduceBEq, Nat.reduceMul, Int.reduceToNat, Int.reduceLE, Int.reduceLT, Int.reduceEq, Int.reduceNeg]
          repeat (refine And.intro (by first | omega | (constructor <;> omega) | kernel_rfl) ?_)
          refine CallW.mk (c2) ?_
          try simp (config := { maxSteps := 10000000 }) only [go_sem, reduceIte, reduceCtorEq, Nat.reduceEqDiff, Nat.reduceLT, Nat.reduceLeDiff, Nat.reduceAdd, Nat.reduceBEq, Nat.reduceMul, Int.reduceToNat, Int.reduceLE, Int.reduceLT, Int.reduceEq, Int.reduceNeg]
          repeat (refine And.intro (by first | omega | (constructor <;> omega) | kernel_rfl) ?_)
          refine CallW.mk (c3) ?_
          try simp (config := { maxSteps := 10000000 }) only [go_sem, reduceIte, reduceCtorEq, Nat.reduceEqDiff, Nat.reduceLT, Nat.reduceLeDiff, Nat.reduceAdd, Nat.reduceBEq, Nat.reduceMul, Int.reduceToNat, Int.reduceLE, Int.reduceLT, Int.reduceEq, Int.reduceNeg]
          try simp (config := { maxSteps := 10000000 }) only [go_sem, reduceIte, reduceCtorEq, Nat.reduceEqDiff, Nat.reduceLT, Nat.reduceLeDiff, Nat.reduceAdd, Nat.reduceBEq, Nat.reduceMul, Int.reduceToNat, Int.reduceLE, Int.reduceLT, Int.reduceEq, Int.reduceNeg, d4]
          refine LoopG.intro _ _ _ (fun i : Nat => ⟨[(3, .ptr 2 0), (34, .sl tStep l), (35, .sc (.int .i64 l.length)), (36, .sc (.int .i64 i))], [(2, .box [.sc (.int .i64 (plcS p l i).1), .sc (.bool (plcS p l i).2.1.1.1), .sl .int (plcS p l i).2.1.1.2, .sl .int (plcS p l i).2.1.2, .sc (.bool (plcS p l i).2.2.1.1), .sl .int (plcS p l i).2.2.1.2, .sl .int (plcS p l i).2.2.2])]⟩) (fun i => tvGo p l = tvGo (plcS p l i) (l.drop i)) (fun i => l.length - i) 0 ?_ rfl ?_
          · refine Wk.mk [] ?_
            try simp (config := { maxSteps := 10000000 }) only [go_sem, reduceIte, reduceCtorEq, Nat.reduceEqDiff, Nat.reduceLT, Nat.reduceLeDiff, Nat.reduceAdd, Nat.reduceBEq, Nat.reduceMul, Int.reduceToNat, Int.reduceLE, Int.reduceLT, Int.reduceEq, Int.reduceNeg]
            try (and_intros <;> first | rfl | omega | exact ⟨_, rfl⟩)
          · rintro i hi
            try simp (config := { maxSteps := 10000000 }) only [go_sem, reduceIte, reduceCtorEq, Nat.reduceEqDiff, Nat.reduceLT, Nat.reduceLeDiff, Nat.reduceAdd, Nat.reduceBEq, Nat.reduceMul, Int.reduceToNat, Int.reduceLE, Int.reduceLT, Int.reduceEq, Int.reduceNeg]
            refine CondW_dec (fun hA => ?_) (fun hA => ?_)
            · have hst := plcS_step p (show i < l.length by omega)
              rw [tvGo_at (by omega)] at hi
              have c4 := within_fn (nth (t := tStep) l i).1 (-1) 1
              have c5 := arePoints1_fn (nth (t := tStep) l i).2
              have c6 := implSame_fn (nth (t := tStep) l i).2 (plcS p l i).2
              have c7 := stepped_fn (plcS p l i) (nth (t := tStep) l i)
              generalize hq : plcS p l i = q at hi hst c6 c7 ⊢
              cases e1 : decide (-1 ≤ (nth (t := tStep) l i).1 ∧ (nth (t := tStep) l i).1 ≤ 1) <;> rw [e1] at c4
              · have e0 : tvStep q (nth (t := tStep) l i) = false := by unfold tvStep; rw [e1]; rfl
                rw [e0] at hi
                rw [hi]
                try simp (config := { maxSteps := 10000000 }) only [go_sem, reduceIte, reduceCtorEq, Nat.reduceEqDiff, Nat.reduceLT, Nat.reduceLeDiff, Nat.reduceAdd, Nat.reduceBEq, Nat.reduceMul, Int.reduceToNat, Int.reduceLE, Int.reduceLT, Int.reduceEq, Int.reduceNeg]
                repeat (refine And.intro (by first | omega | (constructor <;> omega) | kernel_rfl) ?_)
                repeat (refine And.intro (by first | omega | (constructor <;> omega) | kernel_rfl) ?_)
                refine CallW.mk (c4) ?_
                try simp (config := { maxSteps := 10000000 }) only [go_sem, reduceIte, reduceCtorEq, Nat.reduceEqDiff, Nat.reduceLT, Nat.reduceLeDiff, Nat.reduceAdd, Nat.reduceBEq, Nat.reduceMul, Int.reduceToNat, Int.reduceLE, Int.reduceLT, Int.reduceEq, Int.reduceNeg]
              · cases e2 : okPt (nth (t := tStep) l i).2 <;> rw [e2] at c5
                · have e0 : tvStep q (nth (t := tStep) l i) = false := by unfold tvStep; rw [e1, e2]; rfl
                  rw [e0] at hi
                  rw [hi]
                  try simp (config := { maxSteps := 10000000 }) only [go_sem, reduceIte, reduceCtorEq, Nat.reduceEqDiff, Nat.reduceLT, Nat.reduceLeDiff, Nat.reduceAdd, Nat.reduceBEq, Nat.reduceMul, Int.reduceToNat, Int.reduceLE, Int.reduceLT, Int.reduceEq, Int.reduceNeg]
                  repeat (refine And.intro (by first | omega | (constructor <;> omega) | kernel_rfl) ?_)
                  repeat (refine And.intro (by first | omega | (constructor <;> omega) | kernel_rfl) ?_)
                  refine CallW.mk (c4) ?_
                  try simp (config := { maxSteps := 10000000 }) only [go_sem, reduceIte, reduceCtorEq, Nat.reduceEqDiff, Nat.reduceLT, Nat.reduceLeDiff, Nat.reduceAdd, Nat.reduceBEq, Nat.reduceMul, Int.reduceToNat, Int.reduceLE, Int.reduceLT, Int.reduceEq, Int.reduceNeg]
                  repeat (refine And.intro (by first | omega | (constructor <;> omega) | kernel_rfl) ?_)
                  refine CallW.mk (c5) ?_
                  try simp (config := { maxSteps := 10000000 }) only [go_sem, reduceIte, reduceCtorEq, Nat.reduceEqDiff, Nat.reduceLT, Nat.reduceLeDiff, Nat.reduceAdd, Nat.reduceBEq, Nat.reduceMul, Int.reduceToNat, Int.reduceLE, Int.reduceLT, Int.reduceEq, Int.reduceNeg]
                · by_cases e3 : (nth (t := tStep) l i).1 = 0
                  · have e0 : tvStep q (nth (t := tStep) l i) = true := by unfold tvStep; rw [e1, e2, decide_eq_true e3]; rfl
                    have d3 := decide_eq_true e3
                    rw [e0, Bool.true_and, ← hst] at hi
                    try simp (config := { maxSteps := 10000000 }) only [go_sem, reduceIte, reduceCtorEq, Nat.reduceEqDiff, Nat.reduceLT, Nat.reduceLeDiff, Nat.reduceAdd, Nat.reduceBEq, Nat.reduceMul, Int.reduceToNat, Int.reduceLE, Int.reduceLT, Int.reduceEq, Int.reduceNeg]
                    repeat (refine And.intro (by first | omega | (constructor <;> omega) | kernel_rfl) ?_)
                    repeat (refine And.intro (by first | omega | (constructor <;> omega) | kernel_rfl) ?_)
                    refine CallW.mk (c4) ?_
                    try simp (config := { maxSteps := 10000000 }) only [go_sem, reduceIte, reduceCtorEq, Nat.reduceEqDiff, Nat.reduceLT, Nat.reduceLeDiff, Nat.reduceAdd, Nat.reduceBEq, Nat.reduceMul, Int.reduceToNat, Int.reduceLE, Int.reduceLT, Int.reduceEq, Int.reduceNeg]
                    repeat (refine And.intro (by first | omega | (constructor <;> omega) | kernel_rfl) ?_)
                    refine CallW.mk (c5) ?_
                    try simp (config := { maxSteps := 10000000 }) only [go_sem, reduceIte, reduceCtorEq, Nat.reduceEqDiff, Nat.reduceLT, Nat.reduceLeDiff, Nat.reduceAdd, Nat.reduceBEq, Nat.reduceMul, Int.reduceToNat, Int.reduceLE, Int.reduceLT, Int.reduceEq, Int.reduceNeg]
                    try simp (config := { maxSteps := 10000000 }) only [go_sem, reduceIte, reduceCtorEq, Nat.reduceEqDiff, Nat.reduceLT, Nat.reduceLeDiff, Nat.reduceAdd, Nat.reduceBEq, Nat.reduceMul, Int.reduceToNat, Int.reduceLE, Int.reduceLT, Int.reduceEq, Int.reduceNeg, d3]
                    repeat (refine And.intro (by first | omega | (constructor <;> omega) | kernel_rfl) ?_)
                    refine CallW.mk (c7) ?_
                    try simp (config := { maxSteps := 10000000 }) only [go_sem, reduceIte, reduceCtorEq, Nat.reduceEqDiff, Nat.reduceLT, Nat.reduceLeDiff, Nat.reduceAdd, Nat.reduceBEq, Nat.reduceMul, Int.reduceToNat, Int.reduceLE, Int.reduceLT, Int.reduceEq, Int.reduceNeg]
                    repeat (refine And.intro (by first | omega | (constructor <;> omega) | kernel_rfl) ?_)
                    refine LoopK.mk (i + 1) ?_ hi (by omega)
                    rw [hst]
                    refine Wk.mk [] ?_
                    try simp (config := { maxSteps := 10000000 }) only [go_sem, reduceIte, reduceCtorEq, Nat.reduceEqDiff, Nat.reduceLT, Nat.reduceLeDiff, Nat.reduceAdd, Nat.reduceBEq, Nat.reduceMul, Int.reduceToNat, Int.reduceLE, Int.reduceLT, Int.reduceEq, Int.reduceNeg]
                    try (and_intros <;> first | rfl | omega | exact ⟨_, rfl⟩)
                  · have d3 := decide_eq_false e3
                    cases e4 : eqb (nth (t := tStep) l i).2 q.2 <;> rw [e4] at c6
                    · have e0 : tvStep q (nth (t := tStep) l i) = false := by unfold tvStep; rw [e1, e2, d3, e4]; rfl
                      rw [e0] at hi
                      rw [hi]
                      try simp (config := { maxSteps := 10000000 }) only [go_sem, reduceIte, reduceCtorEq, Nat.reduceEqDiff, Nat.reduceLT, Nat.reduceLeDiff, Nat.reduceAdd, Nat.reduceBEq, Nat.reduceMul, Int.reduceToNat, Int.reduceLE, Int.reduceLT, Int.reduceEq, Int.reduceNeg]
                      repeat (refine And.intro (by first | omega | (constructor <;> omega) | kernel_rfl) ?_)
                      repeat (refine And.intro (by first | omega | (constructor <;> omega) | kernel_rfl) ?_)
                      refine CallW.mk (c4) ?_
                      try simp (config := { maxSteps := 10000000 }) only [go_sem, reduceIte, reduceCtorEq, Nat.reduceEqDiff, Nat.reduceLT, Nat.reduceLeDiff, Nat.reduceAdd, Nat.reduceBEq, Nat.reduceMul, Int.reduceToNat, Int.reduceLE, Int.reduceLT, Int.reduceEq, Int.reduceNeg]
                      repeat (refine And.intro (by first | omega | (constructor <;> omega) | kernel_rfl) ?_)
                      refine CallW.mk (c5) ?_
                      try simp (config := { maxSteps := 10000000 }) only [go_sem, reduceIte, reduceCtorEq, Nat.reduceEqDiff, Nat.reduceLT, Nat.reduceLeDiff, Nat.reduceAdd, Nat.reduceBEq, Nat.reduceMul, Int.reduceToNat, Int.reduceLE, Int.reduceLT, Int.reduceEq, Int.reduceNeg]
                      try simp (config := { maxSteps := 10000000 }) only [go_sem, reduceIte, reduceCtorEq, Nat.reduceEqDiff, Nat.reduceLT, Nat.reduceLeDiff, Nat.reduceAdd, Nat.reduceBEq, Nat.reduceMul, Int.reduceToNat, Int.reduceLE, Int.reduceLT, Int.reduceEq, Int.reduceNeg, d3]
                      repeat (refine And.intro (by first | omega | (constructor <;> omega) | kernel_rfl) ?_)
                      refine CallW.mk (c6) ?_
                      try simp (config := { maxSteps := 10000000 }) only [go_sem, reduceIte, reduceCtorEq, Nat.reduceEqDiff, Nat.reduceLT, Nat.reduceLeDiff, Nat.reduceAdd, Nat.reduceBEq, Nat.reduceMul, Int.reduceToNat, Int.reduceLE, Int.reduceLT, Int.reduceEq, Int.reduceNeg]
                    · have e0 : tvStep q (nth (t := tStep) l i) = true := by unfold tvStep; rw [e1, e2, d3, e4]; rfl
                      rw [e0, Bool.true_and, ← hst] at hi
                      try simp (config := { maxSteps := 10000000 }) only [go_sem, reduceIte, reduceCtorEq, Nat.reduceEqDiff, Nat.reduceLT, Nat.reduceLeDiff, Nat.reduceAdd, Nat.reduceBEq, Nat.reduceMul, Int.reduceToNat, Int.reduceLE, Int.reduceLT, Int.reduceEq, Int.reduceNeg]
                      repeat (refine And.intro (by first | omega | (constructor <;> omega) | kernel_rfl) ?_)
                      repeat (refine And.intro (by first | omega | (constructor <;> omega) | kernel_rfl) ?_)
                      refine CallW.mk (c4) ?_
                      try simp (config := { maxSteps := 10000000 }) only [go_sem, reduceIte, reduceCtorEq, Nat.reduceEqDiff, Nat.reduceLT, Nat.reduceLeDiff, Nat.reduceAdd, Nat.reduceBEq, Nat.reduceMul, Int.reduceToNat, Int.reduceLE, Int.reduceLT, Int.reduceEq, Int.reduceNeg]
                      repeat (refine And.intro (by first | omega | (constructor <;> omega) | kernel_rfl) ?_)
                      refine CallW.mk (c5) ?_
                      try simp (config := { maxSteps := 10000000 }) only [go_sem, reduceIte, reduceCtorEq, Nat.reduceEqDiff, Nat.reduceLT, Nat.reduceLeDiff, Nat.reduceAdd, Nat.reduceBEq, Nat.reduceMul, Int.reduceToNat, Int.reduceLE, Int.reduceLT, Int.reduceEq, Int.reduceNeg]
                      try simp (config := { maxSteps := 10000000 }) only [go_sem, reduceIte, reduceCtorEq, Nat.reduceEqDiff, Nat.reduceLT, Nat.reduceLeDiff, Nat.reduceAdd, Nat.reduceBEq, Nat.reduceMul, Int.reduceToNat, Int.reduceLE, Int.reduceLT, Int.reduceEq, Int.reduceNeg, d3]
                      repeat (refine And.intro (by first | omega | (constructor <;> omega) | kernel_rfl) ?_)
                      refine CallW.mk (c6) ?_
                      try simp (config := { maxSteps := 10000000 }) only [go_sem, reduceIte, reduceCtorEq, Nat.reduceEqDiff, Nat.reduceLT, Nat.reduceLeDiff, Nat.reduceAdd, Nat.reduceBEq, Nat.reduceMul, Int.reduceToNat, Int.reduceLE, Int.reduceLT, Int.reduceEq, Int.reduceNeg]
                      repeat (refine And.intro (by first | omega | (constructor <;> omega) | kernel_rfl) ?_)
                      refine CallW.mk (c7) ?_
                      try simp (config := { maxSteps := 10000000 }) only [go_sem, reduceIte, reduceCtorEq, Nat.reduceEqDiff, Nat.reduceLT, Nat.reduceLeDiff, Nat.reduceAdd, Nat.reduceBEq, Nat.reduceMul, Int.reduceToNat, Int.reduceLE, Int.reduceLT, Int.reduceEq, Int.reduceNeg]
                      repeat (refine And.intro (by first | omega | (constructor <;> omega) | kernel_rfl) ?_)
                      refine LoopK.mk (i + 1) ?_ hi (by omega)
                      rw [hst]
                      refine Wk.mk [] ?_
                      try simp (config := { maxSteps := 10000000 }) only [go_sem, reduceIte, reduceCtorEq, Nat.reduceEqDiff, Nat.reduceLT, Nat.reduceLeDiff, Nat.reduceAdd, Nat.reduceBEq, Nat.reduceMul, Int.reduceToNat, Int.reduceLE, Int.reduceLT, Int.reduceEq, Int.reduceNeg]
                      try (and_intros <;> first | rfl | omega | exact ⟨_, rfl⟩)
            · rw [hi, List.drop_eq_nil_of_le (by omega), show tvGo (plcS p l i) [] = true from rfl]
              try simp (config := { maxSteps := 10000000 }) only [go_sem, reduceIte, reduceCtorEq, Nat.reduceEqDiff, Nat.reduceLT, Nat.reduceLeDiff, Nat.reduceAdd, Nat.reduceBEq, Nat.reduceMul, Int.reduceToNat, Int.reduceLE, Int.reduceLT, Int.reduceEq, Int.reduceNeg]
        · have d4 : decide ((8 : Int) < l.length) = true := decide_eq_true (by omega)
          rw [decide_eq_false h4]
          refine fn_enter tabOK mixes Tryz.func29 rfl rfl _ Tryz.ntmps29 _ Tryz.results29 (by simp) fun hwf => ?_
          try simp (config := { maxSteps := 10000000 }) only [go_sem, reduceIte, reduceCtorEq, Nat.reduceEqDiff, Nat.reduceLT, Nat.reduceLeDiff, Nat.reduceAdd, Nat.reduceBEq, Nat.reduceMul, Int.reduceToNat, Int.reduceLE, Int.reduceLT, Int.reduceEq, Int.reduceNeg]
          repeat (refine And.intro (by first | omega | (constructor <;> omega) | kernel_rfl) ?_)
          refine CallW.mk (c1) ?_
          try simp (config := { maxSteps := 10000000 }) only [go_sem, reduceIte, reduceCtorEq, Nat.reduceEqDiff, Nat.reduceLT, Nat.reduceLeDiff, Nat.reduceAdd, Nat.reduceBEq, Nat.reduceMul, Int.reduceToNat, Int.reduceLE, Int.reduceLT, Int.reduceEq, Int.reduceNeg]
          repeat (refine And.intro (by first | omega | (constructor <;> omega) | kernel_rfl) ?_)
          refine CallW.mk (c2) ?_
          try simp (config := { maxSteps := 10000000 }) only [go_sem, reduceIte, reduceCtorEq, Nat.reduceEqDiff, Nat.reduceLT, Nat.reduceLeDiff, Nat.reduceAdd, Nat.reduceBEq, Nat.reduceMul, Int.reduceToNat, Int.reduceLE, Int.reduceLT, Int.reduceEq, Int.reduceNeg]
          repeat (refine And.intro (by first | omega | (constructor <;> omega) | kernel_rfl) ?_)
          refine CallW.mk (c3) ?_
          try simp (config := { maxSteps := 10000000 }) only [go_sem, reduceIte, reduceCtorEq, Nat.reduceEqDiff, Nat.reduceLT, Nat.reduceLeDiff, Nat.reduceAdd, Nat.reduceBEq, Nat.reduceMul, Int.reduceToNat, Int.reduceLE, Int.reduceLT, Int.reduceEq, Int.reduceNeg]
          try simp (config := { maxSteps := 10000000 }) only [go_sem, reduceIte, reduceCtorEq, Nat.reduceEqDiff, Nat.reduceLT, Nat.reduceLeDiff, Nat.reduceAdd, Nat.reduceBEq, Nat.reduceMul, Int.reduceToNat, Int.reduceLE, Int.reduceLT, Int.reduceEq, Int.reduceNeg, d4]
theorem specIsValidTour_fn (t : DT) : Fn Tryz.prog 28 [⟨tTour, t⟩] false [⟨.bool, tourB t⟩] := by
  obtain ⟨r, p, l⟩ := t
  have c1 := l10Shape_fn r 20 (by decide)
  have c2 := l01In_fn p.1 0 3
  have c3 := specIsValidPoint_fn p.2
  unfold tourB
  cases h1 : smB r 20 <;> rw [h1] at c1
  · refine fn_enter tabOK mixes Tryz.func28 rfl rfl _ Tryz.ntmps28 _ Tryz.results28 (by simp) fun hwf => ?_
    try simp (config := { maxSteps := 10000000 }) only [go_sem, reduceIte, reduceCtorEq, Nat.reduceEqDiff, Nat.reduceLT, Nat.reduceLeDiff, Nat.reduceAdd, Nat.reduceBEq, Nat.reduceMul, Int.reduceToNat, Int.reduceLE, Int.reduceLT, Int.reduceEq, Int.reduceNeg]
    repeat (refine And.intro (by first | omega | (constructor <;> omega) | kernel_rfl) ?_)
    refine CallW.mk (c1) ?_
    try simp (config := { maxSteps := 10000000 }) only [go_sem, reduceIte, reduceCtorEq, Nat.reduceEqDiff, Nat.reduceLT, Nat.reduceLeDiff, Nat.reduceAdd, Nat.reduceBEq, Nat.reduceMul, Int.reduceToNat, Int.reduceLE, Int.reduceLT, Int.reduceEq, Int.reduceNeg]
  · cases h2 : decide (0 ≤ p.1 ∧ p.1 ≤ 3) <;> rw [h2] at c2
    · refine fn_enter tabOK mixes Tryz.func28 rfl rfl _ Tryz.ntmps28 _ Tryz.results28 (by simp) fun hwf => ?_
      try simp (config := { maxSteps := 10000000 }) only [go_sem, reduceIte, reduceCtorEq, Nat.reduceEqDiff, Nat.reduceLT, Nat.reduceLeDiff, Nat.reduceAdd, Nat.reduceBEq, Nat.reduceMul, Int.reduceToNat, Int.reduceLE, Int.reduceLT, Int.reduceEq, Int.reduceNeg]
      repeat (refine And.intro (by first | omega | (constructor <;> omega) | kernel_rfl) ?_)
      refine CallW.mk (c1) ?_
      try simp (config := { maxSteps := 10000000 }) only [go_sem, reduceIte, reduceCtorEq, Nat.reduceEqDiff, Nat.reduceLT, Nat.reduceLeDiff, Nat.reduceAdd, Nat.reduceBEq, Nat.reduceMul, Int.reduceToNat, Int.reduceLE, Int.reduceLT, Int.reduceEq, Int.reduceNeg]
      repeat (refine And.intro (by first | omega | (constructor <;> omega) | kernel_rfl) ?_)
      refine CallW.mk (c2) ?_
      try simp (config := { maxSteps := 10000000 }) only [go_sem, reduceIte, reduceCtorEq, Nat.reduceEqDiff, Nat.reduceLT, Nat.reduceLeDiff, Nat.reduceAdd, Nat.reduceBEq, Nat.reduceMul, Int.reduceToNat, Int.reduceLE, Int.reduceLT, Int.reduceEq, Int.reduceNeg]
    · cases h3 : okPt p.2 <;> rw [h3] at c3
      · refine fn_enter tabOK mixes Tryz.func28 rfl rfl _ Tryz.ntmps28 _ Tryz.results28 (by simp) fun hwf => ?_
        try simp (config := { maxSteps := 10000000 }) only [go_sem, reduceIte, reduceCtorEq, Nat.reduceEqDiff, Nat.reduceLT, Nat.reduceLeDiff, Nat.reduceAdd, Nat.reduceBEq, Nat.reduceMul, Int.reduceToNat, Int.reduceLE, Int.reduceLT, Int.reduceEq, Int.reduceNeg]
        repeat (refine And.intro (by first | omega | (constructor <;> omega) | kernel_rfl) ?_)
        refine CallW.mk (c1) ?_
        try simp (config := { maxSteps := 10000000 }) only [go_sem, reduceIte, reduceCtorEq, Nat.reduceEqDiff, Nat.reduceLT, Nat.reduceLeDiff, Nat.reduceAdd, Nat.reduceBEq, Nat.reduceMul, Int.reduceToNat, Int.reduceLE, Int.reduceLT, Int.reduceEq, Int.reduceNeg]
        repeat (refine And.intro (by first | omega | (constructor <;> omega) | kernel_rfl) ?_)
        refine CallW.mk (c2) ?_
        try simp (config := { maxSteps := 10000000 }) only [go_sem, reduceIte, reduceCtorEq, Nat.reduceEqDiff, Nat.reduceLT, Nat.reduceLeDiff, Nat.reduceAdd, Nat.reduceBEq, Nat.reduceMul, Int.reduceToNat, Int.reduceLE, Int.reduceLT, Int.reduceEq, Int.reduceNeg]
        repeat (refine And.intro (by first | omega | (constructor <;> omega) | kernel_rfl) ?_)
        refine CallW.mk (c3) ?_
        try simp (config := { maxSteps := 10000000 }) only [go_sem, reduceIte, reduceCtorEq, Nat.reduceEqDiff, Nat.reduceLT, Nat.reduceLeDiff, Nat.reduceAdd, Nat.reduceBEq, Nat.reduceMul, Int.reduceToNat, Int.reduceLE, Int.reduceLT, Int.reduceEq, Int.reduceNeg]
      · by_cases h4 : (l.length : Int) ≤ 8
        · have d4 : decide ((8 : Int) < l.length) = false := decide_eq_false (by omega)
          rw [decide_eq_true h4]
          refine fn_enter tabOK mixes Tryz.func28 rfl rfl _ Tryz.ntmps28 _ Tryz.results28 (by simp) fun hwf => ?_
          try simp (config := { maxSteps := 10000000 }) only [go_sem, reduceIte, reduceCtorEq, Nat.reduceEqDiff, Nat.reduceLT, Nat.reduceLeDiff, Nat.reduceAdd, Nat.reduceBEq, Nat.reduceMul, Int.reduceToNat, Int.reduceLE, Int.reduceLT, Int.reduceEq, Int.reduceNeg]
          repeat (refine And.intro (by first | omega | (constructor <;> omega) | kernel_rfl) ?_)
          refine CallW.mk (c1) ?_
          try simp (config := { maxSteps := 10000000 }) only [go_sem, reduceIte, reduceCtorEq, Nat.reduceEqDiff, Nat.reduceLT, Nat.reduceLeDiff, Nat.reduceAdd, Nat.reduceBEq, Nat.reduceMul, Int.reduceToNat, Int.reduceLE, Int.reduceLT, Int.reduceEq, Int.reduceNeg]
          repeat (refine And.intro (by first | omega | (constructor <;> omega) | kernel_rfl) ?_)
          refine CallW.mk (c2) ?_
          try simp (config := { maxSteps := 10000000 }) only [go_sem, reduceIte, reduceCtorEq, Nat.reduceEqDiff, Nat.reduceLT, Nat.reduceLeDiff, Nat.reduceAdd, Nat.reduceBEq, Nat.reduceMul, Int.reduceToNat, Int.reduceLE, Int.reduceLT, Int.reduceEq, Int.reduceNeg]
          repeat (refine And.intro (by first | omega | (constructor <;> omega) | kernel_rfl) ?_)
          refine CallW.mk (c3) ?_
          try simp (config := { maxSteps := 10000000 }) only [go_sem, reduceIte, reduceCtorEq, Nat.reduceEqDiff, Nat.reduceLT, Nat.reduceLeDiff, Nat.reduceAdd, Nat.reduceBEq, Nat.reduceMul, Int.reduceToNat, Int.reduceLE, Int.reduceLT, Int.reduceEq, Int.reduceNeg]
          try simp (config := { maxSteps := 10000000 }) only [go_sem, reduceIte, reduceCtorEq, Nat.reduceEqDiff, Nat.reduceLT, Nat.reduceLeDiff, Nat.reduceAdd, Nat.reduceBEq, Nat.reduceMul, Int.reduceToNat, Int.reduceLE, Int.reduceLT, Int.reduceEq, Int.reduceNeg, d4]
          refine LoopG.intro _ _ _ (fun i : Nat => ⟨[(3, .ptr 1 0), (33, .sl tStep l), (34, .sc (.int .i64 l.length)), (35, .sc (.int .i64 i))], [(1, .box [.sc (.int .i64 (plcS p l i).1), .sc (.bool (plcS p l i).2.1.1.1), .sl .int (plcS p l i).2.1.1.2, .sl .int (plcS p l i).2.1.2, .sc (.bool (plcS p l i).2.2.1.1), .sl .int (plcS p l i).2.2.1.2, .sl .int (plcS p l i).2.2.2])]⟩) (fun i => tvGo p l = tvGo (plcS p l i) (l.drop i)) (fun i => l.length - i) 0 ?_ rfl ?_
          · refine Wk.mk [] ?_
            try simp (config := { maxSteps := 10000000 }) only [go_sem, reduceIte, reduceCtorEq, Nat.reduceEqDiff, Nat.reduceLT, Nat.reduceLeDiff, Nat.reduceAdd, Nat.reduceBEq, Nat.reduceMul, Int.reduceToNat, Int.reduceLE, Int.reduceLT, Int.reduceEq, Int.reduceNeg]
            try (and_intros <;> first | rfl | omega | exact ⟨_, rfl⟩)
          · rintro i hi
            try simp (config := { maxSteps := 10000000 }) only [go_sem, reduceIte, reduceCtorEq, Nat.reduceEqDiff, Nat.reduceLT, Nat.reduceLeDiff, Nat.reduceAdd, Nat.reduceBEq, Nat.reduceMul, Int.reduceToNat, Int.reduceLE, Int.reduceLT, Int.reduceEq, Int.reduceNeg]
            refine CondW_dec (fun hA => ?_) (fun hA => ?_)
            · have hst := plcS_step p (show i < l.length by omega)
              rw [tvGo_at (by omega)] at hi
              have c4 := l22Turn_fn (nth (t := tStep) l i).1
              have c5 := specIsValidPoint_fn (nth (t := tStep) l i).2
              have c6 := specSame_fn (nth (t := tStep) l i).2 (plcS p l i).2
              have c7 := l22After_fn (plcS p l i) (nth (t := tStep) l i)
              generalize hq : plcS p l i = q at hi hst c6 c7 ⊢
              cases e1 : decide (-1 ≤ (nth (t := tStep) l i).1 ∧ (nth (t := tStep) l i).1 ≤ 1) <;> rw [e1] at c4
              · have e0 : tvStep q (nth (t := tStep) l i) = false := by unfold tvStep; rw [e1]; rfl
                rw [e0] at hi
                rw [hi]
                try simp (config := { maxSteps := 10000000 }) only [go_sem, reduceIte, reduceCtorEq, Nat.reduceEqDiff, Nat.reduceLT, Nat.reduceLeDiff, Nat.reduceAdd, Nat.reduceBEq, Nat.reduceMul, Int.reduceToNat, Int.reduceLE, Int.reduceLT, Int.reduceEq, Int.reduceNeg]
                repeat (refine And.intro (by first | omega | (constructor <;> omega) | kernel_rfl) ?_)
                repeat (refine And.intro (by first | omega | (constructor <;> omega) | kernel_rfl) ?_)
                refine CallW.mk (c4) ?_
                try simp (config := { maxSteps := 10000000 }) only [go_sem, reduceIte, reduceCtorEq, Nat.reduceEqDiff, Nat.reduceLT, Nat.reduceLeDiff, Nat.reduceAdd, Nat.reduceBEq, Nat.reduceMul, Int.reduceToNat, Int.reduceLE, Int.reduceLT, Int.reduceEq, Int.reduceNeg]
              · cases e2 : okPt (nth (t := tStep) l i).2 <;> rw [e2] at c5
                · have e0 : tvStep q (nth (t := tStep) l i) = false := by unfold tvStep; rw [e1, e2]; rfl
                  rw [e0] at hi
                  rw [hi]
                  try simp (config := { maxSteps := 10000000 }) only [go_sem, reduceIte, reduceCtorEq, Nat.reduceEqDiff, Nat.reduceLT, Nat.reduceLeDiff, Nat.reduceAdd, Nat.reduceBEq, Nat.reduceMul, Int.reduceToNat, Int.reduceLE, Int.reduceLT, Int.reduceEq, Int.reduceNeg]
                  repeat (refine And.intro (by first | omega | (constructor <;> omega) | kernel_rfl) ?_)
                  repeat (refine And.intro (by first | omega | (constructor <;> omega) | kernel_rfl) ?_)
                  refine CallW.mk (c4) ?_
                  try simp (config := { maxSteps := 10000000 }) only [go_sem, reduceIte, reduceCtorEq, Nat.reduceEqDiff, Nat.reduceLT, Nat.reduceLeDiff, Nat.reduceAdd, Nat.reduceBEq, Nat.reduceMul, Int.reduceToNat, Int.reduceLE, Int.reduceLT, Int.reduceEq, Int.reduceNeg]
                  repeat (refine And.intro (by first | omega | (constructor <;> omega) | kernel_rfl) ?_)
                  refine CallW.mk (c5) ?_
                  try simp (config := { maxSteps := 10000000 }) only [go_sem, reduceIte, reduceCtorEq, Nat.reduceEqDiff, Nat.reduceLT, Nat.reduceLeDiff, Nat.reduceAdd, Nat.reduceBEq, Nat.reduceMul, Int.reduceToNat, Int.reduceLE, Int.reduceLT, Int.reduceEq, Int.reduceNeg]
                · by_cases e3 : (nth (t := tStep) l i).1 = 0
                  · have e0 : tvStep q (nth (t := tStep) l i) = true := by unfold tvStep; rw [e1, e2, decide_eq_true e3]; rfl
                    have d3 := decide_eq_true e3
                    rw [e0, Bool.true_and, ← hst] at hi
                    try simp (config := { maxSteps := 10000000 }) only [go_sem, reduceIte, reduceCtorEq, Nat.reduceEqDiff, Nat.reduceLT, Nat.reduceLeDiff, Nat.reduceAdd, Nat.reduceBEq, Nat.reduceMul, Int.reduceToNat, Int.reduceLE, Int.reduceLT, Int.reduceEq, Int.reduceNeg]
                    repeat (refine And.intro (by first | omega | (constructor <;> omega) | kernel_rfl) ?_)
                    repeat (refine And.intro (by first | omega | (constructor <;> omega) | kernel_rfl) ?_)
                    refine CallW.mk (c4) ?_
                    try simp (config := { maxSteps := 10000000 }) only [go_sem, reduceIte, reduceCtorEq, Nat.reduceEqDiff, Nat.reduceLT, Nat.reduceLeDiff, Nat.reduceAdd, Nat.reduceBEq, Nat.reduceMul, Int.reduceToNat, Int.reduceLE, Int.reduceLT, Int.reduceEq, Int.reduceNeg]
                    repeat (refine And.intro (by first | omega | (constructor <;> omega) | kernel_rfl) ?_)
                    refine CallW.mk (c5) ?_
                    try simp (config := { maxSteps := 10000000 }) only [go_sem, reduceIte, reduceCtorEq, Nat.reduceEqDiff, Nat.reduceLT, Nat.reduceLeDiff, Nat.reduceAdd, Nat.reduceBEq, Nat.reduceMul, Int.reduceToNat, Int.reduceLE, Int.reduceLT, Int.reduceEq, Int.reduceNeg]
                    try simp (config := { maxSteps := 10000000 }) only [go_sem, reduceIte, reduceCtorEq, Nat.reduceEqDiff, Nat.reduceLT, Nat.reduceLeDiff, Nat.reduceAdd, Nat.reduceBEq, Nat.reduceMul, Int.reduceToNat, Int.reduceLE, Int.reduceLT, Int.reduceEq, Int.reduceNeg, d3]
                    repeat (refine And.intro (by first | omega | (constructor <;> omega) | kernel_rfl) ?_)
                    refine CallW.mk (c7) ?_
                    try simp (config := { maxSteps := 10000000 }) only [go_sem, reduceIte, reduceCtorEq, Nat.reduceEqDiff, Nat.reduceLT, Nat.reduceLeDiff, Nat.reduceAdd, Nat.reduceBEq, Nat.reduceMul, Int.reduceToNat, Int.reduceLE, Int.reduceLT, Int.reduceEq, Int.reduceNeg]
                    repeat (refine And.intro (by first | omega | (constructor <;> omega) | kernel_rfl) ?_)
                    refine LoopK.mk (i + 1) ?_ hi (by omega)
                    rw [hst]
                    refine Wk.mk [] ?_
                    try simp (config := { maxSteps := 10000000 }) only [go_sem, reduceIte, reduceCtorEq, Nat.reduceEqDiff, Nat.reduceLT, Nat.reduceLeDiff, Nat.reduceAdd, Nat.reduceBEq, Nat.reduceMul, Int.reduceToNat, Int.reduceLE, Int.reduceLT, Int.reduceEq, Int.reduceNeg]
                    try (and_intros <;> first | rfl | omega | exact ⟨_, rfl⟩)
                  · have d3 := decide_eq_false e3
                    cases e4 : eqb (nth (t := tStep) l i).2 q.2 <;> rw [e4] at c6
                    · have e0 : tvStep q (nth (t := tStep) l i) = false := by unfold tvStep; rw [e1, e2, d3, e4]; rfl
                      rw [e0] at hi
                      rw [hi]
                      try simp (config := { maxSteps := 10000000 }) only [go_sem, reduceIte, reduceCtorEq, Nat.reduceEqDiff, Nat.reduceLT, Nat.reduceLeDiff, Nat.reduceAdd, Nat.reduceBEq, Nat.reduceMul, Int.reduceToNat, Int.reduceLE, Int.reduceLT, Int.reduceEq, Int.reduceNeg]
                      repeat (refine And.intro (by first | omega | (constructor <;> omega) | kernel_rfl) ?_)
                      repeat (refine And.intro (by first | omega | (constructor <;> omega) | kernel_rfl) ?_)
                      refine CallW.mk (c4) ?_
                      try simp (config := { maxSteps := 10000000 }) only [go_sem, reduceIte, reduceCtorEq, Nat.reduceEqDiff, Nat.reduceLT, Nat.reduceLeDiff, Nat.reduceAdd, Nat.reduceBEq, Nat.reduceMul, Int.reduceToNat, Int.reduceLE, Int.reduceLT, Int.reduceEq, Int.reduceNeg]
                      repeat (refine And.intro (by first | omega | (constructor <;> omega) | kernel_rfl) ?_)
                      refine CallW.mk (c5) ?_
                      try simp (config := { maxSteps := 10000000 }) only [go_sem, reduceIte, reduceCtorEq, Nat.reduceEqDiff, Nat.reduceLT, Nat.reduceLeDiff, Nat.reduceAdd, Nat.reduceBEq, Nat.reduceMul, Int.reduceToNat, Int.reduceLE, Int.reduceLT, Int.reduceEq, Int.reduceNeg]
                      try simp (config := { maxSteps := 10000000 }) only [go_sem, reduceIte, reduceCtorEq, Nat.reduceEqDiff, Nat.reduceLT, Nat.reduceLeDiff, Nat.reduceAdd, Nat.reduceBEq, Nat.reduceMul, Int.reduceToNat, Int.reduceLE, Int.reduceLT, Int.reduceEq, Int.reduceNeg, d3]
                      repeat (refine And.intro (by first | omega | (constructor <;> omega) | kernel_rfl) ?_)
                      refine CallW.mk (c6) ?_
                      try simp (config := { maxSteps := 10000000 }) only [go_sem, reduceIte, reduceCtorEq, Nat.reduceEqDiff, Nat.reduceLT, Nat.reduceLeDiff, Nat.reduceAdd, Nat.reduceBEq, Nat.reduceMul, Int.reduceToNat, Int.reduceLE, Int.reduceLT, Int.reduceEq, Int.reduceNeg]
                    · have e0 : tvStep q (nth (t := tStep) l i) = true := by unfold tvStep; rw [e1, e2, d3, e4]; rfl
                      rw [e0, Bool.true_and, ← hst] at hi
                      try simp (config := { maxSteps := 10000000 }) only [go_sem, reduceIte, reduceCtorEq, Nat.reduceEqDiff, Nat.reduceLT, Nat.reduceLeDiff, Nat.reduceAdd, Nat.reduceBEq, Nat.reduceMul, Int.reduceToNat, Int.reduceLE, Int.reduceLT, Int.reduceEq, Int.reduceNeg]
                      repeat (refine And.intro (by first | omega | (constructor <;> omega) | kernel_rfl) ?_)
                      repeat (refine And.intro (by first | omega | (constructor <;> omega) | kernel_rfl) ?_)
                      refine CallW.mk (c4) ?_
                      try simp (config := { maxSteps := 10000000 }) only [go_sem, reduceIte, reduceCtorEq, Nat.reduceEqDiff, Nat.reduceLT, Nat.reduceLeDiff, Nat.reduceAdd, Nat.reduceBEq, Nat.reduceMul, Int.reduceToNat, Int.reduceLE, Int.reduceLT, Int.reduceEq, Int.reduceNeg]
                      repeat (refine And.intro (by first | omega | (constructor <;> omega) | kernel_rfl) ?_)
                      refine CallW.mk (c5) ?_
                      try simp (config := { maxSteps := 10000000 }) only [go_sem, reduceIte, reduceCtorEq, Nat.reduceEqDiff, Nat.reduceLT, Nat.reduceLeDiff, Nat.reduceAdd, Nat.reduceBEq, Nat.reduceMul, Int.reduceToNat, Int.reduceLE, Int.reduceLT, Int.reduceEq, Int.reduceNeg]
                      try simp (config := { maxSteps := 10000000 }) only [go_sem, reduceIte, reduceCtorEq, Nat.reduceEqDiff, Nat.reduceLT, Nat.reduceLeDiff, Nat.reduceAdd, Nat.reduceBEq, Nat.reduceMul, Int.reduceToNat, Int.reduceLE, Int.reduceLT, Int.reduceEq, Int.reduceNeg, d3]
                      repeat (refine And.intro (by first | omega | (constructor <;> omega) | kernel_rfl) ?_)
                      refine CallW.mk (c6) ?_
                      try simp (config := { maxSteps := 10000000 }) only [go_sem, reduceIte, reduceCtorEq, Nat.reduceEqDiff, Nat.reduceLT, Nat.reduceLeDiff, Nat.reduceAdd, Nat.reduceBEq, Nat.reduceMul, Int.reduceToNat, Int.reduceLE, Int.reduceLT, Int.reduceEq, Int.reduceNeg]
                      repeat (refine And.intro (by first | omega | (constructor <;> omega) | kernel_rfl) ?_)
                      refine CallW.mk (c7) ?_
                      try simp (config := { maxSteps := 10000000 }) only [go_sem, reduceIte, reduceCtorEq, Nat.reduceEqDiff, Nat.reduceLT, Nat.reduceLeDiff, Nat.reduceAdd, Nat.reduceBEq, Nat.reduceMul, Int.reduceToNat, Int.reduceLE, Int.reduceLT, Int.reduceEq, Int.reduceNeg]
                      repeat (refine And.intro (by first | omega | (constructor <;> omega) | kernel_rfl) ?_)
                      refine LoopK.mk (i + 1) ?_ hi (by omega)
                      rw [hst]
                      refine Wk.mk [] ?_
                      try simp (config := { maxSteps := 10000000 }) only [go_sem, reduceIte, reduceCtorEq, Nat.reduceEqDiff, Nat.reduceLT, Nat.reduceLeDiff, Nat.reduceAdd, Nat.reduceBEq, Nat.reduceMul, Int.reduceToNat, Int.reduceLE, Int.reduceLT, Int.reduceEq, Int.reduceNeg]
                      try (and_intros <;> first | rfl | omega | exact ⟨_, rfl⟩)
            · rw [hi, List.drop_eq_nil_of_le (by omega), show tvGo (plcS p l i) [] = true from rfl]
              try simp (config := { maxSteps := 10000000 }) only [go_sem, reduceIte, reduceCtorEq, Nat.reduceEqDiff, Nat.reduceLT, Nat.reduceLeDiff, Nat.reduceAdd, Nat.reduceBEq, Nat.reduceMul, Int.reduceToNat, Int.reduceLE, Int.reduceLT, Int.reduceEq, Int.reduceNeg]
        · have d4 : decide ((8 : Int) < l.length) = true := decide_eq_true (by omega)
          rw [decide_eq_false h4]
          refine fn_enter tabOK mixes Tryz.func28 rfl rfl _ Tryz.ntmps28 _ Tryz.results28 (by simp) fun hwf => ?_
          try simp (config := { maxSteps := 10000000 }) only [go_sem, reduceIte, reduceCtorEq, Nat.reduceEqDiff, Nat.reduceLT, Nat.reduceLeDiff, Nat.reduceAdd, Nat.reduceBEq, Nat.reduceMul, Int.reduceToNat, Int.reduceLE, Int.reduceLT, Int.reduceEq, Int.reduceNeg]
          repeat (refine And.intro (by first | omega | (constructor <;> omega) | kernel_rfl) ?_)
          refine CallW.mk (c1) ?_
          try simp (config := { maxSteps := 10000000 }) only [go_sem, reduceIte, reduceCtorEq, Nat.reduceEqDiff, Nat.reduceLT, Nat.reduceLeDiff, Nat.reduceAdd, Nat.reduceBEq, Nat.reduceMul, Int.reduceToNat, Int.reduceLE, Int.reduceLT, Int.reduceEq, Int.reduceNeg]
          repeat (refine And.intro (by first | omega | (constructor <;> omega) | kernel_rfl) ?_)
          refine CallW.mk (c2) ?_
          try simp (config := { maxSteps := 10000000 }) only [go_sem, reduceIte, reduceCtorEq, Nat.reduceEqDiff, Nat.reduceLT, Nat.reduceLeDiff, Nat.reduceAdd, Nat.reduceBEq, Nat.reduceMul, Int.reduceToNat, Int.reduceLE, Int.reduceLT, Int.reduceEq, Int.reduceNeg]
          repeat (refine And.intro (by first | omega | (constructor <;> omega) | kernel_rfl) ?_)
          refine CallW.mk (c3) ?_
          try simp (config := { maxSteps := 10000000 }) only [go_sem, reduceIte, reduceCtorEq, Nat.reduceEqDiff, Nat.reduceLT, Nat.reduceLeDiff, Nat.reduceAdd, Nat.reduceBEq, Nat.reduceMul, Int.reduceToNat, Int.reduceLE, Int.reduceLT, Int.reduceEq, Int.reduceNeg]
          try simp (config := { maxSteps := 10000000 }) only [go_sem, reduceIte, reduceCtorEq, Nat.reduceEqDiff, Nat.reduceLT, Nat.reduceLeDiff, Nat.reduceAdd, Nat.reduceBEq, Nat.reduceMul, Int.reduceToNat, Int.reduceLE, Int.reduceLT, Int.reduceEq, Int.reduceNeg, d4]
end Go.Proofs.YtgffgcpcjpjfgaaGreat.DW

/-
  The laws' helpers for vectors and tours, as contracts on data.
-/
namespace Go.Proofs.YtgffgcpcjpjfgaaGreat
open Go.RowKit
abbrev DVec := Int × Int
abbrev RVec : Rp DVec := Rp.prod Rp.int Rp.int
abbrev DVecS := List DVec
abbrev RVecS : Rp DVecS := Rp.slice RVec (by decide)
abbrev DTour := DVecS × (DPlacement × DStepS)
abbrev RTour : Rp DTour := Rp.prod RVecS (Rp.prod RPlacement RStepS)
def tTour (x : DTour) : Nat := (x.1.length + tPlacement x.2.1) + (x.2.2.length + tStepS x.2.2)
theorem list9 {α : Type} {l : List α} (h : l.length = 9) : ∃ c0 c1 c2 c3 c4 c5 c6 c7 c8, l = [c0, c1, c2, c3, c4, c5, c6, c7, c8] := by
  match l, h with
  | [c0, c1, c2, c3, c4, c5, c6, c7, c8], _ => exact ⟨c0, c1, c2, c3, c4, c5, c6, c7, c8, rfl⟩
namespace DW
theorem szVecS_fn (x : DVecS) (left : Int) (h0 : 0 ≤ left) (h1 : left ≤ 1048576) : Fn Tryz.prog 64 [⟨.slice DW.tVec, x⟩, ⟨.int, left⟩] false [⟨.int, szr left x.length⟩] := by
  by_cases h : (x.length : Int) ≤ left
  · rw [← szr_ge h]
    have d := decide_eq_false (p := left - (x.length : Int) < 0) (by omega)
    refine fn_enter tabOK mixes Tryz.func64 rfl rfl _ Tryz.ntmps64 _ Tryz.results64 (by simp) fun hwf => ?_
    have hl : x.length ≤ 9223372036854775807 := (hwf ⟨.slice DW.tVec, x⟩ (by simp)).1
    try simp (config := { maxSteps := 10000000 }) only [go_sem, reduceIte, reduceCtorEq, Nat.reduceEqDiff, Nat.reduceLT, Nat.reduceLeDiff, Nat.reduceAdd, Nat.reduceBEq, Nat.reduceMul, Int.reduceToNat, Int.reduceLE, Int.reduceLT, Int.reduceEq, Int.reduceNeg]
    repeat (refine And.intro (by first | omega | (constructor <;> omega) | kernel_rfl) ?_)
    try simp (config := { maxSteps := 10000000 }) only [go_sem, reduceIte, reduceCtorEq, Nat.reduceEqDiff, Nat.reduceLT, Nat.reduceLeDiff, Nat.reduceAdd, Nat.reduceBEq, Nat.reduceMul, Int.reduceToNat, Int.reduceLE, Int.reduceLT, Int.reduceEq, Int.reduceNeg, d]
    all_goals repeat (refine And.intro (by first | omega | (constructor <;> omega) | kernel_rfl) ?_)
    all_goals first | kernel_rfl | omega | rfl
  · rw [← szr_lt (by omega)]
    have d := decide_eq_true (p := left - (x.length : Int) < 0) (by omega)
    refine fn_enter tabOK mixes Tryz.func64 rfl rfl _ Tryz.ntmps64 _ Tryz.results64 (by simp) fun hwf => ?_
    have hl : x.length ≤ 9223372036854775807 := (hwf ⟨.slice DW.tVec, x⟩ (by simp)).1
    try simp (config := { maxSteps := 10000000 }) only [go_sem, reduceIte, reduceCtorEq, Nat.reduceEqDiff, Nat.reduceLT, Nat.reduceLeDiff, Nat.reduceAdd, Nat.reduceBEq, Nat.reduceMul, Int.reduceToNat, Int.reduceLE, Int.reduceLT, Int.reduceEq, Int.reduceNeg]
    repeat (refine And.intro (by first | omega | (constructor <;> omega) | kernel_rfl) ?_)
    try simp (config := { maxSteps := 10000000 }) only [go_sem, reduceIte, reduceCtorEq, Nat.reduceEqDiff, Nat.reduceLT, Nat.reduceLeDiff, Nat.reduceAdd, Nat.reduceBEq, Nat.reduceMul, Int.reduceToNat, Int.reduceLE, Int.reduceLT, Int.reduceEq, Int.reduceNeg, d]
    all_goals repeat (refine And.intro (by first | omega | (constructor <;> omega) | kernel_rfl) ?_)
    all_goals first | kernel_rfl | omega | rfl
theorem toVec_fn (x : DVec) : Fn Tryz.prog 111 [⟨DW.tVec, x⟩] false [⟨DW.tVec, x⟩] := by
  refine fn_enter tabOK mixes Tryz.func111 rfl rfl _ Tryz.ntmps111 _ Tryz.results111 (by simp) fun hwf => ?_
  try simp (config := { maxSteps := 10000000 }) only [go_sem, reduceIte, reduceCtorEq, Nat.reduceEqDiff, Nat.reduceLT, Nat.reduceLeDiff, Nat.reduceAdd, Nat.reduceBEq, Nat.reduceMul, Int.reduceToNat, Int.reduceLE, Int.reduceLT, Int.reduceEq, Int.reduceNeg]
  all_goals repeat (refine And.intro (by first | omega | (constructor <;> omega) | kernel_rfl) ?_)
  all_goals first | kernel_rfl | omega | rfl
theorem toVecS_fn (x : DVecS) (hs : x.length ≤ 1048576) : Fn Tryz.prog 67 [⟨.slice DW.tVec, x⟩] true [⟨.slice DW.tVec, x⟩] := by
  refine fn_enter tabOK mixes Tryz.func67 rfl rfl _ Tryz.ntmps67 _ Tryz.results67 (by simp) fun hwf => ?_
  try simp (config := { maxSteps := 10000000 }) only [go_sem, reduceIte, reduceCtorEq, Nat.reduceEqDiff, Nat.reduceLT, Nat.reduceLeDiff, Nat.reduceAdd, Nat.reduceBEq, Nat.reduceMul, Int.reduceToNat, Int.reduceLE, Int.reduceLT, Int.reduceEq, Int.reduceNeg]
  repeat (refine And.intro (by first | omega | (constructor <;> omega) | kernel_rfl) ?_)
  refine LoopG.intro _ _ _ (fun i : Nat => ⟨[(0, .sl DW.tVec x), (3, .row 0 0), (4, .sc (.int .i64 i))], [(0, .row 128 DW.tVec 0 true (x.take i ++ List.replicate (x.length - i) ((0 : Int), (0 : Int))))]⟩) (fun i => i ≤ x.length) (fun i => x.length - i) 0 ?_ (Nat.zero_le _) ?_
  · refine Wk.mk [] ?_
    try simp (config := { maxSteps := 10000000 }) only [go_sem, reduceIte, reduceCtorEq, Nat.reduceEqDiff, Nat.reduceLT, Nat.reduceLeDiff, Nat.reduceAdd, Nat.reduceBEq, Nat.reduceMul, Int.reduceToNat, Int.reduceLE, Int.reduceLT, Int.reduceEq, Int.reduceNeg]
    try (and_intros <;> first | rfl | omega | exact ⟨_, rfl⟩)
  · rintro i hi
    have hlen : (x.take i ++ List.replicate (x.length - i) ((0 : Int), (0 : Int))).length = x.length := by simp; omega
    try simp (config := { maxSteps := 10000000 }) only [go_sem, reduceIte, reduceCtorEq, Nat.reduceEqDiff, Nat.reduceLT, Nat.reduceLeDiff, Nat.reduceAdd, Nat.reduceBEq, Nat.reduceMul, Int.reduceToNat, Int.reduceLE, Int.reduceLT, Int.reduceEq, Int.reduceNeg]
    refine CondW_dec (fun hA => ?_) (fun hA => ?_)
    · have hset : (x.take i ++ List.replicate (x.length - i) ((0 : Int), (0 : Int))).set i (nth (t := DW.tVec) x i) = x.take (i + 1) ++ List.replicate (x.length - (i + 1)) ((0 : Int), (0 : Int)) := by
        have hlt : i < x.length := by omega
        rw [List.set_append_right _ _ (by rw [List.length_take]; omega), List.length_take, show i - min i x.length = 0 by omega, show x.length - i = (x.length - (i + 1)) + 1 by omega, List.replicate_succ, List.set_cons_zero, nth_lt hlt]
        have e : x.take (i + 1) = x.take i ++ [x[i]] := List.take_succ_eq_append_getElem hlt
        rw [e, List.append_assoc]; rfl
      have ht : (List.take i x).length = i := by rw [List.length_take]; omega
      have c1 := toVec_fn (nth (t := DW.tVec) x i)
      try simp (config := { maxSteps := 10000000 }) only [go_sem, reduceIte, reduceCtorEq, Nat.reduceEqDiff, Nat.reduceLT, Nat.reduceLeDiff, Nat.reduceAdd, Nat.reduceBEq, Nat.reduceMul, Int.reduceToNat, Int.reduceLE, Int.reduceLT, Int.reduceEq, Int.reduceNeg]
      repeat (refine And.intro (by first | omega | (constructor <;> omega) | kernel_rfl) ?_)
      repeat (refine And.intro (by first | omega | (constructor <;> omega) | kernel_rfl) ?_)
      refine CallW.mk (c1) ?_
      try simp (config := { maxSteps := 10000000 }) only [go_sem, reduceIte, reduceCtorEq, Nat.reduceEqDiff, Nat.reduceLT, Nat.reduceLeDiff, Nat.reduceAdd, Nat.reduceBEq, Nat.reduceMul, Int.reduceToNat, Int.reduceLE, Int.reduceLT, Int.reduceEq, Int.reduceNeg]
      repeat (refine And.intro (by first | omega | (constructor <;> omega) | kernel_rfl) ?_)
      refine LoopK.mk (i + 1) ?_ (by omega) (by omega)
      rw [← hset]
      refine Wk.mk [] ?_
      try simp (config := { maxSteps := 10000000 }) only [go_sem, reduceIte, reduceCtorEq, Nat.reduceEqDiff, Nat.reduceLT, Nat.reduceLeDiff, Nat.reduceAdd, Nat.reduceBEq, Nat.reduceMul, Int.reduceToNat, Int.reduceLE, Int.reduceLT, Int.reduceEq, Int.reduceNeg]
      try (and_intros <;> first | rfl | omega | exact ⟨_, rfl⟩)
    · have : x.take i ++ List.replicate (x.length - i) ((0 : Int), (0 : Int)) = x := by
        rw [List.take_of_length_le (by omega), show x.length - i = 0 by omega]; simp
      rw [this]
      try simp (config := { maxSteps := 10000000 }) only [go_sem, reduceIte, reduceCtorEq, Nat.reduceEqDiff, Nat.reduceLT, Nat.reduceLeDiff, Nat.reduceAdd, Nat.reduceBEq, Nat.reduceMul, Int.reduceToNat, Int.reduceLE, Int.reduceLT, Int.reduceEq, Int.reduceNeg]
      all_goals repeat (refine And.intro (by first | omega | (constructor <;> omega) | kernel_rfl) ?_)
      all_goals first | kernel_rfl | omega | rfl
theorem eqVec_fn (x y : DVec) : Fn Tryz.prog 114 [⟨DW.tVec, x⟩, ⟨DW.tVec, y⟩] false [⟨.bool, eqb x y⟩] := by
  by_cases h1 : x.1 = y.1
  · have d1 := decide_eq_true h1
    by_cases h2 : x.2 = y.2
    · have d2 := decide_eq_true h2
      rw [eqb_true (Prod.ext h1 h2)]
      refine fn_enter tabOK mixes Tryz.func114 rfl rfl _ Tryz.ntmps114 _ Tryz.results114 (by simp) fun hwf => ?_
      try simp (config := { maxSteps := 10000000 }) only [go_sem, reduceIte, reduceCtorEq, Nat.reduceEqDiff, Nat.reduceLT, Nat.reduceLeDiff, Nat.reduceAdd, Nat.reduceBEq, Nat.reduceMul, Int.reduceToNat, Int.reduceLE, Int.reduceLT, Int.reduceEq, Int.reduceNeg, d1, d2]
    · have d2 := decide_eq_false h2
      rw [eqb_false (fun h => h2 (by rw [h]))]
      refine fn_enter tabOK mixes Tryz.func114 rfl rfl _ Tryz.ntmps114 _ Tryz.results114 (by simp) fun hwf => ?_
      try simp (config := { maxSteps := 10000000 }) only [go_sem, reduceIte, reduceCtorEq, Nat.reduceEqDiff, Nat.reduceLT, Nat.reduceLeDiff, Nat.reduceAdd, Nat.reduceBEq, Nat.reduceMul, Int.reduceToNat, Int.reduceLE, Int.reduceLT, Int.reduceEq, Int.reduceNeg, d1, d2]
  · have d1 := decide_eq_false h1
    rw [eqb_false (fun h => h1 (by rw [h]))]
    refine fn_enter tabOK mixes Tryz.func114 rfl rfl _ Tryz.ntmps114 _ Tryz.results114 (by simp) fun hwf => ?_
    try simp (config := { maxSteps := 10000000 }) only [go_sem, reduceIte, reduceCtorEq, Nat.reduceEqDiff, Nat.reduceLT, Nat.reduceLeDiff, Nat.reduceAdd, Nat.reduceBEq, Nat.reduceMul, Int.reduceToNat, Int.reduceLE, Int.reduceLT, Int.reduceEq, Int.reduceNeg, d1]
theorem eqVecS_fn (x y : DVecS) : Fn Tryz.prog 71 [⟨.slice DW.tVec, x⟩, ⟨.slice DW.tVec, y⟩] false [⟨.bool, eqb x y⟩] := by
  by_cases h0 : (x.length : Int) = y.length
  · have d0 := decide_eq_true h0
    refine fn_enter tabOK mixes Tryz.func71 rfl rfl _ Tryz.ntmps71 _ Tryz.results71 (by simp) fun hwf => ?_
    have hl : x.length ≤ 9223372036854775807 := (hwf ⟨.slice DW.tVec, x⟩ (by simp)).1
    try simp (config := { maxSteps := 10000000 }) only [go_sem, reduceIte, reduceCtorEq, Nat.reduceEqDiff, Nat.reduceLT, Nat.reduceLeDiff, Nat.reduceAdd, Nat.reduceBEq, Nat.reduceMul, Int.reduceToNat, Int.reduceLE, Int.reduceLT, Int.reduceEq, Int.reduceNeg, d0]
    refine LoopG.intro _ _ _ (fun i : Nat => ⟨[(0, .sl DW.tVec x), (1, .sl DW.tVec y), (5, .sc (.int .i64 i))], []⟩) (fun i => ∀ j, j < i → j < x.length → nth (t := DW.tVec) x j = nth (t := DW.tVec) y j) (fun i => x.length - i) 0 ?_ (fun j h => absurd h (Nat.not_lt_zero _)) ?_
    · refine Wk.mk [] ?_
      try simp (config := { maxSteps := 10000000 }) only [go_sem, reduceIte, reduceCtorEq, Nat.reduceEqDiff, Nat.reduceLT, Nat.reduceLeDiff, Nat.reduceAdd, Nat.reduceBEq, Nat.reduceMul, Int.reduceToNat, Int.reduceLE, Int.reduceLT, Int.reduceEq, Int.reduceNeg]
      try (and_intros <;> first | rfl | omega | exact ⟨_, rfl⟩)
    · rintro i hi
      try simp (config := { maxSteps := 10000000 }) only [go_sem, reduceIte, reduceCtorEq, Nat.reduceEqDiff, Nat.reduceLT, Nat.reduceLeDiff, Nat.reduceAdd, Nat.reduceBEq, Nat.reduceMul, Int.reduceToNat, Int.reduceLE, Int.reduceLT, Int.reduceEq, Int.reduceNeg]
      refine CondW_dec (fun hA => ?_) (fun hA => ?_)
      · have c1 := eqVec_fn (nth (t := DW.tVec) x i) (nth (t := DW.tVec) y i)
        by_cases e : nth (t := DW.tVec) x i = nth (t := DW.tVec) y i
        · rw [eqb_true e] at c1
          try simp (config := { maxSteps := 10000000 }) only [go_sem, reduceIte, reduceCtorEq, Nat.reduceEqDiff, Nat.reduceLT, Nat.reduceLeDiff, Nat.reduceAdd, Nat.reduceBEq, Nat.reduceMul, Int.reduceToNat, Int.reduceLE, Int.reduceLT, Int.reduceEq, Int.reduceNeg]
          repeat (refine And.intro (by first | omega | (constructor <;> omega) | kernel_rfl) ?_)
          repeat (refine And.intro (by first | omega | (constructor <;> omega) | kernel_rfl) ?_)
          refine CallW.mk (c1) ?_
          try simp (config := { maxSteps := 10000000 }) only [go_sem, reduceIte, reduceCtorEq, Nat.reduceEqDiff, Nat.reduceLT, Nat.reduceLeDiff, Nat.reduceAdd, Nat.reduceBEq, Nat.reduceMul, Int.reduceToNat, Int.reduceLE, Int.reduceLT, Int.reduceEq, Int.reduceNeg]
          repeat (refine And.intro (by first | omega | (constructor <;> omega) | kernel_rfl) ?_)
          refine LoopK.mk (i + 1) ?_ (fun j h1 h2 => ?_) (by omega)
          · refine Wk.mk [] ?_
            try simp (config := { maxSteps := 10000000 }) only [go_sem, reduceIte, reduceCtorEq, Nat.reduceEqDiff, Nat.reduceLT, Nat.reduceLeDiff, Nat.reduceAdd, Nat.reduceBEq, Nat.reduceMul, Int.reduceToNat, Int.reduceLE, Int.reduceLT, Int.reduceEq, Int.reduceNeg]
            try (and_intros <;> first | rfl | omega | exact ⟨_, rfl⟩)
          · by_cases h3 : j < i
            · exact hi j h3 h2
            · rw [show j = i by omega]; exact e
        · rw [eqb_false e] at c1
          rw [eqb_false (fun h => e (by rw [h]))]
          try simp (config := { maxSteps := 10000000 }) only [go_sem, reduceIte, reduceCtorEq, Nat.reduceEqDiff, Nat.reduceLT, Nat.reduceLeDiff, Nat.reduceAdd, Nat.reduceBEq, Nat.reduceMul, Int.reduceToNat, Int.reduceLE, Int.reduceLT, Int.reduceEq, Int.reduceNeg]
          repeat (refine And.intro (by first | omega | (constructor <;> omega) | kernel_rfl) ?_)
          repeat (refine And.intro (by first | omega | (constructor <;> omega) | kernel_rfl) ?_)
          refine CallW.mk (c1) ?_
          try simp (config := { maxSteps := 10000000 }) only [go_sem, reduceIte, reduceCtorEq, Nat.reduceEqDiff, Nat.reduceLT, Nat.reduceLeDiff, Nat.reduceAdd, Nat.reduceBEq, Nat.reduceMul, Int.reduceToNat, Int.reduceLE, Int.reduceLT, Int.reduceEq, Int.reduceNeg]
          all_goals repeat (refine And.intro (by first | omega | (constructor <;> omega) | kernel_rfl) ?_)
          all_goals first | kernel_rfl | omega | rfl
      · have : x = y := by
          refine List.ext_getElem (by omega) fun j h1 h2 => ?_
          have := hi j (by omega) h1
          rwa [nth_lt h1, nth_lt h2] at this
        rw [eqb_true this]
        try simp (config := { maxSteps := 10000000 }) only [go_sem, reduceIte, reduceCtorEq, Nat.reduceEqDiff, Nat.reduceLT, Nat.reduceLeDiff, Nat.reduceAdd, Nat.reduceBEq, Nat.reduceMul, Int.reduceToNat, Int.reduceLE, Int.reduceLT, Int.reduceEq, Int.reduceNeg]
  · have d0 := decide_eq_false h0
    rw [eqb_false (fun h => h0 (by rw [h]))]
    refine fn_enter tabOK mixes Tryz.func71 rfl rfl _ Tryz.ntmps71 _ Tryz.results71 (by simp) fun hwf => ?_
    try simp (config := { maxSteps := 10000000 }) only [go_sem, reduceIte, reduceCtorEq, Nat.reduceEqDiff, Nat.reduceLT, Nat.reduceLeDiff, Nat.reduceAdd, Nat.reduceBEq, Nat.reduceMul, Int.reduceToNat, Int.reduceLE, Int.reduceLT, Int.reduceEq, Int.reduceNeg, d0]
theorem szTour_fn (x : DTour) (left : Int) (h0 : 0 ≤ left) (h1 : left ≤ 1048576) : Fn Tryz.prog 21 [⟨DW.tTour, x⟩, ⟨.int, left⟩] false [⟨.int, szr left (Go.Proofs.YtgffgcpcjpjfgaaGreat.tTour x)⟩] := by
  obtain ⟨r, p, l⟩ := x
  have c1 := szVecS_fn r left h0 h1
  have r1 := szr_lo left r.length h0
  have hT : Go.Proofs.YtgffgcpcjpjfgaaGreat.tTour (r, p, l) = (r.length + tPlacement p) + (l.length + tStepS l) := rfl
  by_cases e1 : szr left r.length < 0
  · have d1 := decide_eq_true e1
    rw [← szr_fail e1 (b := Go.Proofs.YtgffgcpcjpjfgaaGreat.tTour (r, p, l)) (by omega)]
    refine fn_enter tabOK mixes Tryz.func21 rfl rfl _ Tryz.ntmps21 _ Tryz.results21 (by simp) fun hwf => ?_
    try simp (config := { maxSteps := 10000000 }) only [go_sem, reduceIte, reduceCtorEq, Nat.reduceEqDiff, Nat.reduceLT, Nat.reduceLeDiff, Nat.reduceAdd, Nat.reduceBEq, Nat.reduceMul, Int.reduceToNat, Int.reduceLE, Int.reduceLT, Int.reduceEq, Int.reduceNeg]
    repeat (refine And.intro (by first | omega | (constructor <;> omega) | kernel_rfl) ?_)
    refine CallW.mk (c1) ?_
    try simp (config := { maxSteps := 10000000 }) only [go_sem, reduceIte, reduceCtorEq, Nat.reduceEqDiff, Nat.reduceLT, Nat.reduceLeDiff, Nat.reduceAdd, Nat.reduceBEq, Nat.reduceMul, Int.reduceToNat, Int.reduceLE, Int.reduceLT, Int.reduceEq, Int.reduceNeg]
    try simp (config := { maxSteps := 10000000 }) only [go_sem, reduceIte, reduceCtorEq, Nat.reduceEqDiff, Nat.reduceLT, Nat.reduceLeDiff, Nat.reduceAdd, Nat.reduceBEq, Nat.reduceMul, Int.reduceToNat, Int.reduceLE, Int.reduceLT, Int.reduceEq, Int.reduceNeg, d1]
    all_goals repeat (refine And.intro (by first | omega | (constructor <;> omega) | kernel_rfl) ?_)
    all_goals first | kernel_rfl | omega | rfl
  · have d1 := decide_eq_false e1
    have c2 := szPlacement_fn p (szr left r.length) (by omega) (by omega)
    have r2 := szr_lo (szr left r.length) (tPlacement p) (by omega)
    have a2 := szr_add left r.length (tPlacement p) (by omega)
    by_cases e2 : szr (szr left r.length) (tPlacement p) < 0
    · have d2 := decide_eq_true e2
      rw [← szr_fail (by rw [← a2]; exact e2) (a := r.length + tPlacement p) (b := Go.Proofs.YtgffgcpcjpjfgaaGreat.tTour (r, p, l)) (by omega)]
      refine fn_enter tabOK mixes Tryz.func21 rfl rfl _ Tryz.ntmps21 _ Tryz.results21 (by simp) fun hwf => ?_
      try simp (config := { maxSteps := 10000000 }) only [go_sem, reduceIte, reduceCtorEq, Nat.reduceEqDiff, Nat.reduceLT, Nat.reduceLeDiff, Nat.reduceAdd, Nat.reduceBEq, Nat.reduceMul, Int.reduceToNat, Int.reduceLE, Int.reduceLT, Int.reduceEq, Int.reduceNeg]
      repeat (refine And.intro (by first | omega | (constructor <;> omega) | kernel_rfl) ?_)
      refine CallW.mk (c1) ?_
      try simp (config := { maxSteps := 10000000 }) only [go_sem, reduceIte, reduceCtorEq, Nat.reduceEqDiff, Nat.reduceLT, Nat.reduceLeDiff, Nat.reduceAdd, Nat.reduceBEq, Nat.reduceMul, Int.reduceToNat, Int.reduceLE, Int.reduceLT, Int.reduceEq, Int.reduceNeg]
      try simp (config := { maxSteps := 10000000 }) only [go_sem, reduceIte, reduceCtorEq, Nat.reduceEqDiff, Nat.reduceLT, Nat.reduceLeDiff, Nat.reduceAdd, Nat.reduceBEq, Nat.reduceMul, Int.reduceToNat, Int.reduceLE, Int.reduceLT, Int.reduceEq, Int.reduceNeg, d1]
      repeat (refine And.intro (by first | omega | (constructor <;> omega) | kernel_rfl) ?_)
      refine CallW.mk (c2) ?_
      try simp (config := { maxSteps := 10000000 }) only [go_sem, reduceIte, reduceCtorEq, Nat.reduceEqDiff, Nat.reduceLT, Nat.reduceLeDiff, Nat.reduceAdd, Nat.reduceBEq, Nat.reduceMul, Int.reduceToNat, Int.reduceLE, Int.reduceLT, Int.reduceEq, Int.reduceNeg]
      try simp (config := { maxSteps := 10000000 }) only [go_sem, reduceIte, reduceCtorEq, Nat.reduceEqDiff, Nat.reduceLT, Nat.reduceLeDiff, Nat.reduceAdd, Nat.reduceBEq, Nat.reduceMul, Int.reduceToNat, Int.reduceLE, Int.reduceLT, Int.reduceEq, Int.reduceNeg, d2]
      all_goals repeat (refine And.intro (by first | omega | (constructor <;> omega) | kernel_rfl) ?_)
      all_goals first | kernel_rfl | omega | rfl
    · have d2 := decide_eq_false e2
      have c3 := szStepS_fn l (szr (szr left r.length) (tPlacement p)) (by omega) (by omega)
      have r3 := szr_lo (szr (szr left r.length) (tPlacement p)) (l.length + tStepS l) (by omega)
      have a3 := szr_add left (r.length + tPlacement p) (l.length + tStepS l) (by rw [← a2]; omega)
      rw [← a2] at a3
      rw [hT, ← a3]
      by_cases e3 : szr (szr (szr left r.length) (tPlacement p)) (l.length + tStepS l) < 0
      · have d3 := decide_eq_true e3
        have e4 : szr (szr (szr left r.length) (tPlacement p)) (l.length + tStepS l) = -1 := by omega
        rw [e4] at d3 c3 ⊢
        refine fn_enter tabOK mixes Tryz.func21 rfl rfl _ Tryz.ntmps21 _ Tryz.results21 (by simp) fun hwf => ?_
        try simp (config := { maxSteps := 10000000 }) only [go_sem, reduceIte, reduceCtorEq, Nat.reduceEqDiff, Nat.reduceLT, Nat.reduceLeDiff, Nat.reduceAdd, Nat.reduceBEq, Nat.reduceMul, Int.reduceToNat, Int.reduceLE, Int.reduceLT, Int.reduceEq, Int.reduceNeg]
        repeat (refine And.intro (by first | omega | (constructor <;> omega) | kernel_rfl) ?_)
        refine CallW.mk (c1) ?_
        try simp (config := { maxSteps := 10000000 }) only [go_sem, reduceIte, reduceCtorEq, Nat.reduceEqDiff, Nat.reduceLT, Nat.reduceLeDiff, Nat.reduceAdd, Nat.reduceBEq, Nat.reduceMul, Int.reduceToNat, Int.reduceLE, Int.reduceLT, Int.reduceEq, Int.reduceNeg]
        try simp (config := { maxSteps := 10000000 }) only [go_sem, reduceIte, reduceCtorEq, Nat.reduceEqDiff, Nat.reduceLT, Nat.reduceLeDiff, Nat.reduceAdd, Nat.reduceBEq, Nat.reduceMul, Int.reduceToNat, Int.reduceLE, Int.reduceLT, Int.reduceEq, Int.reduceNeg, d1]
        repeat (refine And.intro (by first | omega | (constructor <;> omega) | kernel_rfl) ?_)
        refine CallW.mk (c2) ?_
        try simp (config := { maxSteps := 10000000 }) only [go_sem, reduceIte, reduceCtorEq, Nat.reduceEqDiff, Nat.reduceLT, Nat.reduceLeDiff, Nat.reduceAdd, Nat.reduceBEq, Nat.reduceMul, Int.reduceToNat, Int.reduceLE, Int.reduceLT, Int.reduceEq, Int.reduceNeg]
        try simp (config := { maxSteps := 10000000 }) only [go_sem, reduceIte, reduceCtorEq, Nat.reduceEqDiff, Nat.reduceLT, Nat.reduceLeDiff, Nat.reduceAdd, Nat.reduceBEq, Nat.reduceMul, Int.reduceToNat, Int.reduceLE, Int.reduceLT, Int.reduceEq, Int.reduceNeg, d2]
        repeat (refine And.intro (by first | omega | (constructor <;> omega) | kernel_rfl) ?_)
        refine CallW.mk (c3) ?_
        try simp (config := { maxSteps := 10000000 }) only [go_sem, reduceIte, reduceCtorEq, Nat.reduceEqDiff, Nat.reduceLT, Nat.reduceLeDiff, Nat.reduceAdd, Nat.reduceBEq, Nat.reduceMul, Int.reduceToNat, Int.reduceLE, Int.reduceLT, Int.reduceEq, Int.reduceNeg]
        all_goals repeat (refine And.intro (by first | omega | (constructor <;> omega) | kernel_rfl) ?_)
        all_goals first | kernel_rfl | omega | rfl
      · have d3 := decide_eq_false e3
        refine fn_enter tabOK mixes Tryz.func21 rfl rfl _ Tryz.ntmps21 _ Tryz.results21 (by simp) fun hwf => ?_
        try simp (config := { maxSteps := 10000000 }) only [go_sem, reduceIte, reduceCtorEq, Nat.reduceEqDiff, Nat.reduceLT, Nat.reduceLeDiff, Nat.reduceAdd, Nat.reduceBEq, Nat.reduceMul, Int.reduceToNat, Int.reduceLE, Int.reduceLT, Int.reduceEq, Int.reduceNeg]
        repeat (refine And.intro (by first | omega | (constructor <;> omega) | kernel_rfl) ?_)
        refine CallW.mk (c1) ?_
        try simp (config := { maxSteps := 10000000 }) only [go_sem, reduceIte, reduceCtorEq, Nat.reduceEqDiff, Nat.reduceLT, Nat.reduceLeDiff, Nat.reduceAdd, Nat.reduceBEq, Nat.reduceMul, Int.reduceToNat, Int.reduceLE, Int.reduceLT, Int.reduceEq, Int.reduceNeg]
        try simp (config := { maxSteps := 10000000 }) only [go_sem, reduceIte, reduceCtorEq, Nat.reduceEqDiff, Nat.reduceLT, Nat.reduceLeDiff, Nat.reduceAdd, Nat.reduceBEq, Nat.reduceMul, Int.reduceToNat, Int.reduceLE, Int.reduceLT, Int.reduceEq, Int.reduceNeg, d1]
        repeat (refine And.intro (by first | omega | (constructor <;> omega) | kernel_rfl) ?_)
        refine CallW.mk (c2) ?_
        try simp (config := { maxSteps := 10000000 }) only [go_sem, reduceIte, reduceCtorEq, Nat.reduceEqDiff, Nat.reduceLT, Nat.reduceLeDiff, Nat.reduceAdd, Nat.reduceBEq, Nat.reduceMul, Int.reduceToNat, Int.reduceLE, Int.reduceLT, Int.reduceEq, Int.reduceNeg]
        try simp (config := { maxSteps := 10000000 }) only [go_sem, reduceIte, reduceCtorEq, Nat.reduceEqDiff, Nat.reduceLT, Nat.reduceLeDiff, Nat.reduceAdd, Nat.reduceBEq, Nat.reduceMul, Int.reduceToNat, Int.reduceLE, Int.reduceLT, Int.reduceEq, Int.reduceNeg, d2]
        repeat (refine And.intro (by first | omega | (constructor <;> omega) | kernel_rfl) ?_)
        refine CallW.mk (c3) ?_
        try simp (config := { maxSteps := 10000000 }) only [go_sem, reduceIte, reduceCtorEq, Nat.reduceEqDiff, Nat.reduceLT, Nat.reduceLeDiff, Nat.reduceAdd, Nat.reduceBEq, Nat.reduceMul, Int.reduceToNat, Int.reduceLE, Int.reduceLT, Int.reduceEq, Int.reduceNeg]
        try simp (config := { maxSteps := 10000000 }) only [go_sem, reduceIte, reduceCtorEq, Nat.reduceEqDiff, Nat.reduceLT, Nat.reduceLeDiff, Nat.reduceAdd, Nat.reduceBEq, Nat.reduceMul, Int.reduceToNat, Int.reduceLE, Int.reduceLT, Int.reduceEq, Int.reduceNeg, d3]
        all_goals repeat (refine And.intro (by first | omega | (constructor <;> omega) | kernel_rfl) ?_)
        all_goals first | kernel_rfl | omega | rfl
theorem toTour_fn (x : DTour) (hs : Go.Proofs.YtgffgcpcjpjfgaaGreat.tTour x ≤ 1048576) : Fn Tryz.prog 23 [⟨DW.tTour, x⟩] true [⟨DW.tTour, x⟩] := by
  obtain ⟨r, p, l⟩ := x
  have hT : Go.Proofs.YtgffgcpcjpjfgaaGreat.tTour (r, p, l) = (r.length + tPlacement p) + (l.length + tStepS l) := rfl
  have c1 := toVecS_fn r (by omega)
  have c2 := toPlacement_fn p (by omega)
  have c3 := toStepS_fn l (by omega)
  refine fn_enter tabOK mixes Tryz.func23 rfl rfl _ Tryz.ntmps23 _ Tryz.results23 (by simp) fun hwf => ?_
  try simp (config := { maxSteps := 10000000 }) only [go_sem, reduceIte, reduceCtorEq, Nat.reduceEqDiff, Nat.reduceLT, Nat.reduceLeDiff, Nat.reduceAdd, Nat.reduceBEq, Nat.reduceMul, Int.reduceToNat, Int.reduceLE, Int.reduceLT, Int.reduceEq, Int.reduceNeg]
  repeat (refine And.intro (by first | omega | (constructor <;> omega) | kernel_rfl) ?_)
  refine CallW.mk (c1) ?_
  try simp (config := { maxSteps := 10000000 }) only [go_sem, reduceIte, reduceCtorEq, Nat.reduceEqDiff, Nat.reduceLT, Nat.reduceLeDiff, Nat.reduceAdd, Nat.reduceBEq, Nat.reduceMul, Int.reduceToNat, Int.reduceLE, Int.reduceLT, Int.reduceEq, Int.reduceNeg]
  repeat (refine And.intro (by first | omega | (constructor <;> omega) | kernel_rfl) ?_)
  refine CallW.mk (c2) ?_
  try simp (config := { maxSteps := 10000000 }) only [go_sem, reduceIte, reduceCtorEq, Nat.reduceEqDiff, Nat.reduceLT, Nat.reduceLeDiff, Nat.reduceAdd, Nat.reduceBEq, Nat.reduceMul, Int.reduceToNat, Int.reduceLE, Int.reduceLT, Int.reduceEq, Int.reduceNeg]
  repeat (refine And.intro (by first | omega | (constructor <;> omega) | kernel_rfl) ?_)
  refine CallW.mk (c3) ?_
  try simp (config := { maxSteps := 10000000 }) only [go_sem, reduceIte, reduceCtorEq, Nat.reduceEqDiff, Nat.reduceLT, Nat.reduceLeDiff, Nat.reduceAdd, Nat.reduceBEq, Nat.reduceMul, Int.reduceToNat, Int.reduceLE, Int.reduceLT, Int.reduceEq, Int.reduceNeg]
  all_goals repeat (refine And.intro (by first | omega | (constructor <;> omega) | kernel_rfl) ?_)
  all_goals first | kernel_rfl | omega | rfl
theorem eqTour_fn (x y : DTour) : Fn Tryz.prog 25 [⟨DW.tTour, x⟩, ⟨DW.tTour, y⟩] false [⟨.bool, eqb x y⟩] := by
  obtain ⟨r, p, l⟩ := x
  obtain ⟨r', p', l'⟩ := y
  have c1 := eqVecS_fn r r'
  have c2 := eqPlacement_fn p p'
  have c3 := eqStepS_fn l l'
  by_cases e1 : r = r'
  · rw [eqb_true e1] at c1
    by_cases e2 : p = p'
    · rw [eqb_true e2] at c2
      by_cases e3 : l = l'
      · rw [eqb_true e3] at c3
        rw [eqb_true (by rw [e1, e2, e3])]
        refine fn_enter tabOK mixes Tryz.func25 rfl rfl _ Tryz.ntmps25 _ Tryz.results25 (by simp) fun hwf => ?_
        try simp (config := { maxSteps := 10000000 }) only [go_sem, reduceIte, reduceCtorEq, Nat.reduceEqDiff, Nat.reduceLT, Nat.reduceLeDiff, Nat.reduceAdd, Nat.reduceBEq, Nat.reduceMul, Int.reduceToNat, Int.reduceLE, Int.reduceLT, Int.reduceEq, Int.reduceNeg]
        repeat (refine And.intro (by first | omega | (constructor <;> omega) | kernel_rfl) ?_)
        refine CallW.mk (c1) ?_
        try simp (config := { maxSteps := 10000000 }) only [go_sem, reduceIte, reduceCtorEq, Nat.reduceEqDiff, Nat.reduceLT, Nat.reduceLeDiff, Nat.reduceAdd, Nat.reduceBEq, Nat.reduceMul, Int.reduceToNat, Int.reduceLE, Int.reduceLT, Int.reduceEq, Int.reduceNeg]
        repeat (refine And.intro (by first | omega | (constructor <;> omega) | kernel_rfl) ?_)
        refine CallW.mk (c2) ?_
        try simp (config := { maxSteps := 10000000 }) only [go_sem, reduceIte, reduceCtorEq, Nat.reduceEqDiff, Nat.reduceLT, Nat.reduceLeDiff, Nat.reduceAdd, Nat.reduceBEq, Nat.reduceMul, Int.reduceToNat, Int.reduceLE, Int.reduceLT, Int.reduceEq, Int.reduceNeg]
        repeat (refine And.intro (by first | omega | (constructor <;> omega) | kernel_rfl) ?_)
        refine CallW.mk (c3) ?_
        try simp (config := { maxSteps := 10000000 }) only [go_sem, reduceIte, reduceCtorEq, Nat.reduceEqDiff, Nat.reduceLT, Nat.reduceLeDiff, Nat.reduceAdd, Nat.reduceBEq, Nat.reduceMul, Int.reduceToNat, Int.reduceLE, Int.reduceLT, Int.reduceEq, Int.reduceNeg]
      · rw [eqb_false e3] at c3
        rw [eqb_false (fun h => e3 (congrArg (fun z => z.2.2) h))]
        refine fn_enter tabOK mixes Tryz.func25 rfl rfl _ Tryz.ntmps25 _ Tryz.results25 (by simp) fun hwf => ?_
        try simp (config := { maxSteps := 10000000 }) only [go_sem, reduceIte, reduceCtorEq, Nat.reduceEqDiff, Nat.reduceLT, Nat.reduceLeDiff, Nat.reduceAdd, Nat.reduceBEq, Nat.reduceMul, Int.reduceToNat, Int.reduceLE, Int.reduceLT, Int.reduceEq, Int.reduceNeg]
        repeat (refine And.intro (by first | omega | (constructor <;> omega) | kernel_rfl) ?_)
        refine CallW.mk (c1) ?_
        try simp (config := { maxSteps := 10000000 }) only [go_sem, reduceIte, reduceCtorEq, Nat.reduceEqDiff, Nat.reduceLT, Nat.reduceLeDiff, Nat.reduceAdd, Nat.reduceBEq, Nat.reduceMul, Int.reduceToNat, Int.reduceLE, Int.reduceLT, Int.reduceEq, Int.reduceNeg]
        repeat (refine And.intro (by first | omega | (constructor <;> omega) | kernel_rfl) ?_)
        refine CallW.mk (c2) ?_
        try simp (config := { maxSteps := 10000000 }) only [go_sem, reduceIte, reduceCtorEq, Nat.reduceEqDiff, Nat.reduceLT, Nat.reduceLeDiff, Nat.reduceAdd, Nat.reduceBEq, Nat.reduceMul, Int.reduceToNat, Int.reduceLE, Int.reduceLT, Int.reduceEq, Int.reduceNeg]
        repeat (refine And.intro (by first | omega | (constructor <;> omega) | kernel_rfl) ?_)
        refine CallW.mk (c3) ?_
        try simp (config := { maxSteps := 10000000 }) only [go_sem, reduceIte, reduceCtorEq, Nat.reduceEqDiff, Nat.reduceLT, Nat.reduceLeDiff, Nat.reduceAdd, Nat.reduceBEq, Nat.reduceMul, Int.reduceToNat, Int.reduceLE, Int.reduceLT, Int.reduceEq, Int.reduceNeg]
    · rw [eqb_false e2] at c2
      rw [eqb_false (fun h => e2 (congrArg (fun z => z.2.1) h))]
      refine fn_enter tabOK mixes Tryz.func25 rfl rfl _ Tryz.ntmps25 _ Tryz.results25 (by simp) fun hwf => ?_
      try simp (config := { maxSteps := 10000000 }) only [go_sem, reduceIte, reduceCtorEq, Nat.reduceEqDiff, Nat.reduceLT, Nat.reduceLeDiff, Nat.reduceAdd, Nat.reduceBEq, Nat.reduceMul, Int.reduceToNat, Int.reduceLE, Int.reduceLT, Int.reduceEq, Int.reduceNeg]
      repeat (refine And.intro (by first | omega | (constructor <;> omega) | kernel_rfl) ?_)
      refine CallW.mk (c1) ?_
      try simp (config := { maxSteps := 10000000 }) only [go_sem, reduceIte, reduceCtorEq, Nat.reduceEqDiff, Nat.reduceLT, Nat.reduceLeDiff, Nat.reduceAdd, Nat.reduceBEq, Nat.reduceMul, Int.reduceToNat, Int.reduceLE, Int.reduceLT, Int.reduceEq, Int.reduceNeg]
      repeat (refine And.intro (by first | omega | (constructor <;> omega) | kernel_rfl) ?_)
      refine CallW.mk (c2) ?_
      try simp (config := { maxSteps := 10000000 }) only [go_sem, reduceIte, reduceCtorEq, Nat.reduceEqDiff, Nat.reduceLT, Nat.reduceLeDiff, Nat.reduceAdd, Nat.reduceBEq, Nat.reduceMul, Int.reduceToNat, Int.reduceLE, Int.reduceLT, Int.reduceEq, Int.reduceNeg]
  · rw [eqb_false e1] at c1
    rw [eqb_false (fun h => e1 (congrArg (fun z => z.1) h))]
    refine fn_enter tabOK mixes Tryz.func25 rfl rfl _ Tryz.ntmps25 _ Tryz.results25 (by simp) fun hwf => ?_
    try simp (config := { maxSteps := 10000000 }) only [go_sem, reduceIte, reduceCtorEq, Nat.reduceEqDiff, Nat.reduceLT, Nat.reduceLeDiff, Nat.reduceAdd, Nat.reduceBEq, Nat.reduceMul, Int.reduceToNat, Int.reduceLE, Int.reduceLT, Int.reduceEq, Int.reduceNeg]
    repeat (refine And.intro (by first | omega | (constructor <;> omega) | kernel_rfl) ?_)
    refine CallW.mk (c1) ?_
    try simp (config := { maxSteps := 10000000 }) only [go_sem, reduceIte, reduceCtorEq, Nat.reduceEqDiff, Nat.reduceLT, Nat.reduceLeDiff, Nat.reduceAdd, Nat.reduceBEq, Nat.reduceMul, Int.reduceToNat, Int.reduceLE, Int.reduceLT, Int.reduceEq, Int.reduceNeg]
end DW
end Go.Proofs.YtgffgcpcjpjfgaaGreat

/-
  The arguments' types of this program, opened: vectors and tours.
-/
namespace Go.Proofs.YtgffgcpcjpjfgaaGreat
open Go.RowKit
section
variable {H : Type} {enc : TypeId × Value → H} {w : World} {P : Program}
theorem Opens.prod3 {α β γ : Type} {t : TypeId} {A : Rp α} {B : Rp β} {C : Rp γ} {f0 f1 f2 : Field} (ht : P.underlying t = some (.struct #[f0, f1, f2])) (o0 : f0.offset = 0) (o1 : f1.offset = A.size) (o2 : f2.offset = A.size + B.size)
    (s0 : P.cellsOf f0.type = A.size) (s1 : P.cellsOf f1.type = B.size) (s2 : P.cellsOf f2.type = C.size) (s : P.cellsOf t = A.size + (B.size + C.size)) (h0 : Opens enc P w f0.type A) (h1 : Opens enc P w f1.type B) (h2 : Opens enc P w f2.type C) : Opens enc P w t (Rp.prod A (Rp.prod B C)) := fun fuel cs x h => by
  obtain ⟨xs, n, _, _, hl, hxl, hf⟩ := DataW.trod_struct ht h
  have e0 := hf 0 f0 rfl
  have e1 := hf 1 f1 rfl
  have e2 := hf 2 f2 rfl
  have hxl' : xs.length = 3 := hxl
  rw [o0, s0, List.getElem?_eq_getElem (by omega)] at e0
  rw [o1, s1, List.getElem?_eq_getElem (by omega)] at e1
  rw [o2, s2, List.getElem?_eq_getElem (by omega)] at e2
  obtain ⟨a, fa, ra⟩ := h0 _ _ _ e0
  obtain ⟨b, fb, rb⟩ := h1 _ _ _ e1
  obtain ⟨c, fc, rc⟩ := h2 _ _ _ e2
  refine ⟨(a, b, c), fa ++ (fb ++ fc), _, cs.drop A.size, fa, fb ++ fc, ?_, rfl, ra, _, _, fb, fc, ?_, rfl, rb, rc⟩
  · rw [List.drop_zero, List.take_append_drop]
  · rw [← List.drop_drop, List.take_of_length_le (show ((cs.drop A.size).drop B.size).length ≤ C.size by simp; omega), List.take_append_drop]
theorem oVec : Opens enc Tryz.prog w 130 RVec := Opens.prod Tryz.underlying130 rfl rfl (by kernel_rfl) (by kernel_rfl) (by kernel_rfl) oInt oInt
theorem oVecS : Opens enc Tryz.prog w 52 RVecS := Opens.slice Tryz.underlying52 (by kernel_rfl) oVec
theorem oTour : Opens enc Tryz.prog w 54 RTour := Opens.prod3 Tryz.underlying54 rfl rfl rfl (by kernel_rfl) (by kernel_rfl) (by kernel_rfl) (by kernel_rfl) oVecS oPlacement oStepS
end
end Go.Proofs.YtgffgcpcjpjfgaaGreat

/-
  The law FnExactIsValidTour returns true: the walk through it on data, by the contracts.
-/
namespace Go.Proofs.YtgffgcpcjpjfgaaGreat.DW
open Go.RowKit

set_option maxRecDepth 100000 in
set_option maxHeartbeats 8000000 in
theorem lawIsValidTour_fn (x0 : DTour) : Fn Tryz.prog 5 [⟨DW.tTour, x0⟩] false [⟨.bool, true⟩] := by
  refine fn_enter tabOK mixes Tryz.func5 rfl rfl _ Tryz.ntmps5 _ Tryz.results5 (by simp) fun hwf => ?_
  try simp (config := { maxSteps := 10000000 }) only [go_sem, reduceIte, reduceCtorEq, Nat.reduceEqDiff, Nat.reduceLT, Nat.reduceLeDiff, Nat.reduceAdd, Nat.reduceBEq, Nat.reduceMul, Int.reduceToNat, Int.reduceLE, Int.reduceLT, Int.reduceEq, Int.reduceNeg]
  repeat (refine And.intro (by first | omega | (constructor <;> omega) | kernel_rfl) ?_)
  refine CallW.mk (szTour_fn x0 1048576 (by omega) (by omega)) ?_
  try simp (config := { maxSteps := 10000000 }) only [go_sem, reduceIte, reduceCtorEq, Nat.reduceEqDiff, Nat.reduceLT, Nat.reduceLeDiff, Nat.reduceAdd, Nat.reduceBEq, Nat.reduceMul, Int.reduceToNat, Int.reduceLE, Int.reduceLT, Int.reduceEq, Int.reduceNeg]
  repeat (refine And.intro (by first | omega | (constructor <;> omega) | kernel_rfl) ?_)
  have hr0 := szr_lo 1048576 (Go.Proofs.YtgffgcpcjpjfgaaGreat.tTour x0) (by omega)
  refine CondW_dec (fun hlt => ?_) (fun hge0 => ?_)
  · try simp (config := { maxSteps := 10000000 }) only [go_sem, reduceIte, reduceCtorEq, Nat.reduceEqDiff, Nat.reduceLT, Nat.reduceLeDiff, Nat.reduceAdd, Nat.reduceBEq, Nat.reduceMul, Int.reduceToNat, Int.reduceLE, Int.reduceLT, Int.reduceEq, Int.reduceNeg]
  have hge0' : 0 ≤ szr 1048576 (Go.Proofs.YtgffgcpcjpjfgaaGreat.tTour x0) := by omega
  have hs0 := (szr_ok hge0').1
  have hle0 : Go.Proofs.YtgffgcpcjpjfgaaGreat.tTour x0 ≤ 1048576 := by omega
  clear hr0 hs0 hge0 hge0'
  try simp (config := { maxSteps := 10000000 }) only [go_sem, reduceIte, reduceCtorEq, Nat.reduceEqDiff, Nat.reduceLT, Nat.reduceLeDiff, Nat.reduceAdd, Nat.reduceBEq, Nat.reduceMul, Int.reduceToNat, Int.reduceLE, Int.reduceLT, Int.reduceEq, Int.reduceNeg]
  repeat (refine And.intro (by first | omega | (constructor <;> omega) | kernel_rfl) ?_)
  refine CallW.mk (toTour_fn x0 hle0) ?_
  try simp (config := { maxSteps := 10000000 }) only [go_sem, reduceIte, reduceCtorEq, Nat.reduceEqDiff, Nat.reduceLT, Nat.reduceLeDiff, Nat.reduceAdd, Nat.reduceBEq, Nat.reduceMul, Int.reduceToNat, Int.reduceLE, Int.reduceLT, Int.reduceEq, Int.reduceNeg]
  repeat (refine And.intro (by first | omega | (constructor <;> omega) | kernel_rfl) ?_)
  refine CallW.mk (specIsValidTour_fn x0) ?_
  try simp (config := { maxSteps := 10000000 }) only [go_sem, reduceIte, reduceCtorEq, Nat.reduceEqDiff, Nat.reduceLT, Nat.reduceLeDiff, Nat.reduceAdd, Nat.reduceBEq, Nat.reduceMul, Int.reduceToNat, Int.reduceLE, Int.reduceLT, Int.reduceEq, Int.reduceNeg]
  repeat (refine And.intro (by first | omega | (constructor <;> omega) | kernel_rfl) ?_)
  refine CallW.mx (toTour_fn x0 hle0) ?_
  try simp (config := { maxSteps := 10000000 }) only [go_sem, reduceIte, reduceCtorEq, Nat.reduceEqDiff, Nat.reduceLT, Nat.reduceLeDiff, Nat.reduceAdd, Nat.reduceBEq, Nat.reduceMul, Int.reduceToNat, Int.reduceLE, Int.reduceLT, Int.reduceEq, Int.reduceNeg]
  repeat (refine And.intro (by first | omega | (constructor <;> omega) | kernel_rfl) ?_)
  refine CallW.mx (implIsValidTour_fn x0) ?_
  try simp (config := { maxSteps := 10000000 }) only [go_sem, reduceIte, reduceCtorEq, Nat.reduceEqDiff, Nat.reduceLT, Nat.reduceLeDiff, Nat.reduceAdd, Nat.reduceBEq, Nat.reduceMul, Int.reduceToNat, Int.reduceLE, Int.reduceLT, Int.reduceEq, Int.reduceNeg]
  repeat (refine And.intro (by first | omega | (constructor <;> omega) | kernel_rfl) ?_)
  refine CallW.mk (toTour_fn x0 hle0) ?_
  try simp (config := { maxSteps := 10000000 }) only [go_sem, reduceIte, reduceCtorEq, Nat.reduceEqDiff, Nat.reduceLT, Nat.reduceLeDiff, Nat.reduceAdd, Nat.reduceBEq, Nat.reduceMul, Int.reduceToNat, Int.reduceLE, Int.reduceLT, Int.reduceEq, Int.reduceNeg]
  repeat (refine And.intro (by first | omega | (constructor <;> omega) | kernel_rfl) ?_)
  refine CallW.mx (eqTour_fn x0 x0) ?_
  try simp (config := { maxSteps := 10000000 }) only [go_sem, reduceIte, reduceCtorEq, Nat.reduceEqDiff, Nat.reduceLT, Nat.reduceLeDiff, Nat.reduceAdd, Nat.reduceBEq, Nat.reduceMul, Int.reduceToNat, Int.reduceLE, Int.reduceLT, Int.reduceEq, Int.reduceNeg]
  all_goals repeat (refine And.intro (by first | omega | (constructor <;> omega) | kernel_rfl) ?_)
  all_goals first | kernel_rfl | omega | rfl
end Go.Proofs.YtgffgcpcjpjfgaaGreat.DW
namespace Go.Proofs.YtgffgcpcjpjfgaaGreat
open Go.RowKit DW
theorem law_FnExactIsValidTour (a0_0 a0_1 a0_2 a0_3 a0_4 a0_5 a0_6 a0_7 a0_8 : Value) (x0 : DTour) (w : World) (hx0 : Has RTour w [a0_0, a0_1, a0_2, a0_3, a0_4, a0_5, a0_6, a0_7, a0_8] x0) :
    Calls Tryz.prog 5 #[.agg #[a0_0, a0_1, a0_2, a0_3, a0_4, a0_5, a0_6, a0_7, a0_8]] w (Post fun r w' => r = .bool true ∧ Below w.heap.size w w') :=
  (DW.lawIsValidTour_fn x0).bool (vs := [.agg #[a0_0, a0_1, a0_2, a0_3, a0_4, a0_5, a0_6, a0_7, a0_8]]) ⟨Arg.agg (t := DW.tTour) (cs := [a0_0, a0_1, a0_2, a0_3, a0_4, a0_5, a0_6, a0_7, a0_8]) rfl hx0, trivial⟩
end Go.Proofs.YtgffgcpcjpjfgaaGreat
