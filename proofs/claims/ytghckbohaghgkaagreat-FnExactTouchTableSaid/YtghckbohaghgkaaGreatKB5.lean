/-
  Texts of a proof, one behind another: Dw26, Dw48, DwV, Dw42, Dw43, Rw1, So0, So1, Cp1, Cp2, Dw44, Hv1, Hv2, Hv3, Dw45, Dw49, Dw50, Dw51.
-/
import Derived.Shelf.GgSortFunc.InsertionK
import Derived.Shelf.SlSortCmp.NoneTotal
import Derived.Lib.SlicesCompact
import Derived.Shelf.RegionOpenPlain
import Derived.WalkKit
import Derived.Deep.LoopGhost
import Derived.Deep.Draws
import Derived.Lib.Walk
import Derived.Sort.WalkB12
import Derived.Lib.SliceRun
import Derived.Test.YtghckbohaghgkaaGreatKB4
set_option linter.all false
/-
  Tours: validity.
-/
namespace Go.Proofs.YtghckbohaghgkaaGreat.DW
open Go.RowKit
abbrev DT : Type := List DV × (DS × List DS)
theorem implSame_fn (p q : DP) : Fn Tryz.prog 98 [⟨tPoint, p⟩, ⟨tPoint, q⟩] false [⟨.bool, eqb p q⟩] := by
  refine Fn.ofEq (enters Tryz.func98 rfl rfl) fun w v cs u ds hp hx hq hy => ?_
  obtain rfl := pk_agg rfl hp
  obtain ⟨c0, c1, c2, c3, c4, c5, rfl⟩ := list6 hx.len
  obtain rfl := pk_agg rfl hq
  obtain ⟨d0, d1, d2, d3, d4, d5, rfl⟩ := list6 hy.len
  exact implSamePoint_any _ _ _ _ _ _ _ _ _ _ _ _ p q w hx hy
theorem specSame_fn (p q : DP) : Fn Tryz.prog 93 [⟨tPoint, p⟩, ⟨tPoint, q⟩] false [⟨.bool, eqb p q⟩] := by
  refine Fn.ofEq (enters Tryz.func93 rfl rfl) fun w v cs u ds hp hx hq hy => ?_
  obtain rfl := pk_agg rfl hp
  obtain ⟨c0, c1, c2, c3, c4, c5, rfl⟩ := list6 hx.len
  obtain rfl := pk_agg rfl hq
  obtain ⟨d0, d1, d2, d3, d4, d5, rfl⟩ := list6 hy.len
  exact specSamePoint_any _ _ _ _ _ _ _ _ _ _ _ _ p q w hx hy
theorem l22Turn_fn (n : Int) : Fn Tryz.prog 92 [⟨.int, n⟩] false [⟨.bool, decide (-1 ≤ n ∧ n ≤ 1)⟩] := by
  refine fn_enter tabOK mixes Tryz.func92 rfl rfl _ Tryz.ntmps92 _ Tryz.results92 (by simp) fun hwf => ?_
  try simp (maxSteps := 9999999) only [go_sem]
  repeat refine And.intro (by first|omega|(constructor<;>omega)|kernel_rfl) ?_
  refine CallW.mk (l01In_fn n (-1) 1) ?_
  try simp (maxSteps := 9999999) only [go_sem]
/-- A step that a tour may have. -/
noncomputable def tvStep (p x : DS) : Bool := decide (-1 ≤ x.1 ∧ x.1 ≤ 1) && (okPt x.2 && (decide (x.1 = 0) || eqb x.2 p.2))
noncomputable def tvGo : DS → List DS → Bool
  | _, [] => true
  | p, x :: l => tvStep p x && tvGo (stp p x) l
noncomputable def plcF (p : DS) (l : List DS) : DS := l.foldl stp p
/-- The placement behind the first i steps. -/
noncomputable def plcS (p : DS) (l : List DS) (i : Nat) : DS := plcF p (l.take i)
theorem plcS_step (p : DS) {l : List DS} {i : Nat} (h : i < l.length) : plcS p l (i + 1) = stp (plcS p l i) (nth (t := tStep) l i) := by
  unfold plcS plcF
  rw [List.take_succ_eq_append_getElem h, nth_lt h]
  simp only [List.foldl_append, List.foldl_cons, List.foldl_nil]
theorem tvGo_at {p : DS} {l : List DS} {i : Nat} (h : i < l.length) : tvGo p (l.drop i) = (tvStep p (nth (t := tStep) l i) && tvGo (stp p (nth (t := tStep) l i)) (l.drop (i + 1))) := by
  rw [List.drop_eq_getElem_cons h, nth_lt h]; rfl
noncomputable def tourB (t : DT) : Bool := smB t.1 20 && (decide (0 ≤ t.2.1.1 ∧ t.2.1.1 ≤ 3) && (okPt t.2.1.2 && (decide ((t.2.2.length : Int) ≤ 8) && tvGo t.2.1 t.2.2)))
theorem implIsValidTour_fn (t : DT) : Fn Tryz.prog 49 [⟨tTour, t⟩] false [⟨.bool, tourB t⟩] := by
  obtain ⟨r, p, l⟩ := t
  have c1 := isSmall_fn r 20 (by decide)
  have c2 := isHeading_fn p.1
  have c3 := arePoints1_fn p.2
  unfold tourB
  cases h1 : smB r 20 <;> rw [h1] at c1
  · refine fn_enter tabOK mixes Tryz.func49 rfl rfl _ Tryz.ntmps49 _ Tryz.results49 (by simp) fun hwf => ?_
    try simp (maxSteps := 9999999) only [go_sem]
    repeat refine And.intro (by first|omega|(constructor<;>omega)|kernel_rfl) ?_
    refine CallW.mk (c1) ?_
    try simp (maxSteps := 9999999) only [go_sem]
  · cases h2 : decide (0 ≤ p.1 ∧ p.1 ≤ 3) <;> rw [h2] at c2
    · refine fn_enter tabOK mixes Tryz.func49 rfl rfl _ Tryz.ntmps49 _ Tryz.results49 (by simp) fun hwf => ?_
      try simp (maxSteps := 9999999) only [go_sem]
      repeat refine And.intro (by first|omega|(constructor<;>omega)|kernel_rfl) ?_
      refine CallW.mk (c1) ?_
      try simp (maxSteps := 9999999) only [go_sem]
      repeat refine And.intro (by first|omega|(constructor<;>omega)|kernel_rfl) ?_
      refine CallW.mk (c2) ?_
      try simp (maxSteps := 9999999) only [go_sem]
    · cases h3 : okPt p.2 <;> rw [h3] at c3
      · refine fn_enter tabOK mixes Tryz.func49 rfl rfl _ Tryz.ntmps49 _ Tryz.results49 (by simp) fun hwf => ?_
        try simp (maxSteps := 9999999) only [go_sem]
        repeat refine And.intro (by first|omega|(constructor<;>omega)|kernel_rfl) ?_
        refine CallW.mk (c1) ?_
        try simp (maxSteps := 9999999) only [go_sem]
        repeat refine And.intro (by first|omega|(constructor<;>omega)|kernel_rfl) ?_
        refine CallW.mk (c2) ?_
        try simp (maxSteps := 9999999) only [go_sem]
        repeat refine And.intro (by first|omega|(constructor<;>omega)|kernel_rfl) ?_
        refine CallW.mk (c3) ?_
        try simp (maxSteps := 9999999) only [go_sem]
      · by_cases h4 : (l.length : Int) ≤ 8
        · have d4 : decide ((8 : Int) < l.length) = false := decide_eq_false (by omega)
          rw [decide_eq_true h4]
          refine fn_enter tabOK mixes Tryz.func49 rfl rfl _ Tryz.ntmps49 _ Tryz.results49 (by simp) fun hwf => ?_
          try simp (maxSteps := 9999999) only [go_sem]
          repeat refine And.intro (by first|omega|(constructor<;>omega)|kernel_rfl) ?_
          refine CallW.mk (c1) ?_
          try simp (maxSteps := 9999999) only [go_sem]
          repeat refine And.intro (by first|omega|(constructor<;>omega)|kernel_rfl) ?_
          refine CallW.mk (c2) ?_
          try simp (maxSteps := 9999999) only [go_sem]
          repeat refine And.intro (by first|omega|(constructor<;>omega)|kernel_rfl) ?_
          refine CallW.mk (c3) ?_
          try simp (maxSteps := 9999999) only [go_sem]
          try simp (maxSteps := 9999999) only [go_sem, d4]
          refine LoopG.intro _ _ _ (fun i : Nat => ⟨[(3, .ptr 2 0), (34, .sl tStep l), (35, .sc (.int .i64 l.length)), (36, .sc (.int .i64 i))], [(2, .box [.sc (.int .i64 (plcS p l i).1), .sc (.bool (plcS p l i).2.1.1.1), .sl .int (plcS p l i).2.1.1.2, .sl .int (plcS p l i).2.1.2, .sc (.bool (plcS p l i).2.2.1.1), .sl .int (plcS p l i).2.2.1.2, .sl .int (plcS p l i).2.2.2])]⟩) (fun i => tvGo p l = tvGo (plcS p l i) (l.drop i)) (fun i => l.length - i) 0 ?_ rfl ?_
          · refine Wk.mk [] ?_
            try simp (maxSteps := 9999999) only [go_sem]
            try (and_intros <;> first | rfl | omega | exact ⟨_, rfl⟩)
          · rintro i hi
            try simp (maxSteps := 9999999) only [go_sem]
            refine CondW_dec (fun hA => ?_) (fun hA => ?_)
            · have hst := plcS_step p (show i < l.length by omega)
              rw [tvGo_at (by omega)] at hi
              have c4 := within_fn (nth (t := tStep) l i).1 (-1) 1
              have c5 := arePoints1_fn (nth (t := tStep) l i).2
              have c6 := implSame_fn (nth (t := tStep) l i).2 (plcS p l i).2
              have c7 := stepped_fn (plcS p l i) (nth (t := tStep) l i)
              generalize hq : plcS p l i = q at hi hst c6 c7 ⊢
              cases e1 : decide (-1 ≤ (nth (t := tStep) l i).1 ∧ (nth (t := tStep) l i).1 ≤ 1) <;> rw [e1] at c4
              · have e0 : tvStep q (nth (t := tStep) l i) = false := by unfold tvStep; rw [e1]; rfl
                rw [e0] at hi
                rw [hi]
                try simp (maxSteps := 9999999) only [go_sem]
                repeat refine And.intro (by first|omega|(constructor<;>omega)|kernel_rfl) ?_
                refine CallW.mk (c4) ?_
                try simp (maxSteps := 9999999) only [go_sem]
              · cases e2 : okPt (nth (t := tStep) l i).2 <;> rw [e2] at c5
                · have e0 : tvStep q (nth (t := tStep) l i) = false := by unfold tvStep; rw [e1, e2]; rfl
                  rw [e0] at hi
                  rw [hi]
                  try simp (maxSteps := 9999999) only [go_sem]
                  repeat refine And.intro (by first|omega|(constructor<;>omega)|kernel_rfl) ?_
                  refine CallW.mk (c4) ?_
                  try simp (maxSteps := 9999999) only [go_sem]
                  repeat refine And.intro (by first|omega|(constructor<;>omega)|kernel_rfl) ?_
                  refine CallW.mk (c5) ?_
                  try simp (maxSteps := 9999999) only [go_sem]
                · by_cases e3 : (nth (t := tStep) l i).1 = 0
                  · have e0 : tvStep q (nth (t := tStep) l i) = true := by unfold tvStep; rw [e1, e2, decide_eq_true e3]; rfl
                    have d3 := decide_eq_true e3
                    rw [e0, Bool.true_and, ← hst] at hi
                    try simp (maxSteps := 9999999) only [go_sem]
                    repeat refine And.intro (by first|omega|(constructor<;>omega)|kernel_rfl) ?_
                    refine CallW.mk (c4) ?_
                    try simp (maxSteps := 9999999) only [go_sem]
                    repeat refine And.intro (by first|omega|(constructor<;>omega)|kernel_rfl) ?_
                    refine CallW.mk (c5) ?_
                    try simp (maxSteps := 9999999) only [go_sem]
                    try simp (maxSteps := 9999999) only [go_sem, d3]
                    repeat refine And.intro (by first|omega|(constructor<;>omega)|kernel_rfl) ?_
                    refine CallW.mk (c7) ?_
                    try simp (maxSteps := 9999999) only [go_sem]
                    repeat refine And.intro (by first|omega|(constructor<;>omega)|kernel_rfl) ?_
                    refine LoopK.mk (i + 1) ?_ hi (by omega)
                    rw [hst]
                    refine Wk.mk [] ?_
                    try simp (maxSteps := 9999999) only [go_sem]
                    try (and_intros <;> first | rfl | omega | exact ⟨_, rfl⟩)
                  · have d3 := decide_eq_false e3
                    cases e4 : eqb (nth (t := tStep) l i).2 q.2 <;> rw [e4] at c6
                    · have e0 : tvStep q (nth (t := tStep) l i) = false := by unfold tvStep; rw [e1, e2, d3, e4]; rfl
                      rw [e0] at hi
                      rw [hi]
                      try simp (maxSteps := 9999999) only [go_sem]
                      repeat refine And.intro (by first|omega|(constructor<;>omega)|kernel_rfl) ?_
                      refine CallW.mk (c4) ?_
                      try simp (maxSteps := 9999999) only [go_sem]
                      repeat refine And.intro (by first|omega|(constructor<;>omega)|kernel_rfl) ?_
                      refine CallW.mk (c5) ?_
                      try simp (maxSteps := 9999999) only [go_sem]
                      try simp (maxSteps := 9999999) only [go_sem, d3]
                      repeat refine And.intro (by first|omega|(constructor<;>omega)|kernel_rfl) ?_
                      refine CallW.mk (c6) ?_
                      try simp (maxSteps := 9999999) only [go_sem]
                    · have e0 : tvStep q (nth (t := tStep) l i) = true := by unfold tvStep; rw [e1, e2, d3, e4]; rfl
                      rw [e0, Bool.true_and, ← hst] at hi
                      try simp (maxSteps := 9999999) only [go_sem]
                      repeat refine And.intro (by first|omega|(constructor<;>omega)|kernel_rfl) ?_
                      refine CallW.mk (c4) ?_
                      try simp (maxSteps := 9999999) only [go_sem]
                      repeat refine And.intro (by first|omega|(constructor<;>omega)|kernel_rfl) ?_
                      refine CallW.mk (c5) ?_
                      try simp (maxSteps := 9999999) only [go_sem]
                      try simp (maxSteps := 9999999) only [go_sem, d3]
                      repeat refine And.intro (by first|omega|(constructor<;>omega)|kernel_rfl) ?_
                      refine CallW.mk (c6) ?_
                      try simp (maxSteps := 9999999) only [go_sem]
                      repeat refine And.intro (by first|omega|(constructor<;>omega)|kernel_rfl) ?_
                      refine CallW.mk (c7) ?_
                      try simp (maxSteps := 9999999) only [go_sem]
                      repeat refine And.intro (by first|omega|(constructor<;>omega)|kernel_rfl) ?_
                      refine LoopK.mk (i + 1) ?_ hi (by omega)
                      rw [hst]
                      refine Wk.mk [] ?_
                      try simp (maxSteps := 9999999) only [go_sem]
                      try (and_intros <;> first | rfl | omega | exact ⟨_, rfl⟩)
            · rw [hi, List.drop_eq_nil_of_le (by omega), show tvGo (plcS p l i) [] = true from rfl]
              try simp (maxSteps := 9999999) only [go_sem]
        · have d4 : decide ((8 : Int) < l.length) = true := decide_eq_true (by omega)
          rw [decide_eq_false h4]
          refine fn_enter tabOK mixes Tryz.func49 rfl rfl _ Tryz.ntmps49 _ Tryz.results49 (by simp) fun hwf => ?_
          try simp (maxSteps := 9999999) only [go_sem]
          repeat refine And.intro (by first|omega|(constructor<;>omega)|kernel_rfl) ?_
          refine CallW.mk (c1) ?_
          try simp (maxSteps := 9999999) only [go_sem]
          repeat refine And.intro (by first|omega|(constructor<;>omega)|kernel_rfl) ?_
          refine CallW.mk (c2) ?_
          try simp (maxSteps := 9999999) only [go_sem]
          repeat refine And.intro (by first|omega|(constructor<;>omega)|kernel_rfl) ?_
          refine CallW.mk (c3) ?_
          try simp (maxSteps := 9999999) only [go_sem]
          try simp (maxSteps := 9999999) only [go_sem, d4]
theorem specIsValidTour_fn (t : DT) : Fn Tryz.prog 46 [⟨tTour, t⟩] false [⟨.bool, tourB t⟩] := by
  obtain ⟨r, p, l⟩ := t
  have c1 := l10Shape_fn r 20 (by decide)
  have c2 := l01In_fn p.1 0 3
  have c3 := specIsValidPoint_fn p.2
  unfold tourB
  cases h1 : smB r 20 <;> rw [h1] at c1
  · refine fn_enter tabOK mixes Tryz.func46 rfl rfl _ Tryz.ntmps46 _ Tryz.results46 (by simp) fun hwf => ?_
    try simp (maxSteps := 9999999) only [go_sem]
    repeat refine And.intro (by first|omega|(constructor<;>omega)|kernel_rfl) ?_
    refine CallW.mk (c1) ?_
    try simp (maxSteps := 9999999) only [go_sem]
  · cases h2 : decide (0 ≤ p.1 ∧ p.1 ≤ 3) <;> rw [h2] at c2
    · refine fn_enter tabOK mixes Tryz.func46 rfl rfl _ Tryz.ntmps46 _ Tryz.results46 (by simp) fun hwf => ?_
      try simp (maxSteps := 9999999) only [go_sem]
      repeat refine And.intro (by first|omega|(constructor<;>omega)|kernel_rfl) ?_
      refine CallW.mk (c1) ?_
      try simp (maxSteps := 9999999) only [go_sem]
      repeat refine And.intro (by first|omega|(constructor<;>omega)|kernel_rfl) ?_
      refine CallW.mk (c2) ?_
      try simp (maxSteps := 9999999) only [go_sem]
    · cases h3 : okPt p.2 <;> rw [h3] at c3
      · refine fn_enter tabOK mixes Tryz.func46 rfl rfl _ Tryz.ntmps46 _ Tryz.results46 (by simp) fun hwf => ?_
        try simp (maxSteps := 9999999) only [go_sem]
        repeat refine And.intro (by first|omega|(constructor<;>omega)|kernel_rfl) ?_
        refine CallW.mk (c1) ?_
        try simp (maxSteps := 9999999) only [go_sem]
        repeat refine And.intro (by first|omega|(constructor<;>omega)|kernel_rfl) ?_
        refine CallW.mk (c2) ?_
        try simp (maxSteps := 9999999) only [go_sem]
        repeat refine And.intro (by first|omega|(constructor<;>omega)|kernel_rfl) ?_
        refine CallW.mk (c3) ?_
        try simp (maxSteps := 9999999) only [go_sem]
      · by_cases h4 : (l.length : Int) ≤ 8
        · have d4 : decide ((8 : Int) < l.length) = false := decide_eq_false (by omega)
          rw [decide_eq_true h4]
          refine fn_enter tabOK mixes Tryz.func46 rfl rfl _ Tryz.ntmps46 _ Tryz.results46 (by simp) fun hwf => ?_
          try simp (maxSteps := 9999999) only [go_sem]
          repeat refine And.intro (by first|omega|(constructor<;>omega)|kernel_rfl) ?_
          refine CallW.mk (c1) ?_
          try simp (maxSteps := 9999999) only [go_sem]
          repeat refine And.intro (by first|omega|(constructor<;>omega)|kernel_rfl) ?_
          refine CallW.mk (c2) ?_
          try simp (maxSteps := 9999999) only [go_sem]
          repeat refine And.intro (by first|omega|(constructor<;>omega)|kernel_rfl) ?_
          refine CallW.mk (c3) ?_
          try simp (maxSteps := 9999999) only [go_sem]
          try simp (maxSteps := 9999999) only [go_sem, d4]
          refine LoopG.intro _ _ _ (fun i : Nat => ⟨[(3, .ptr 1 0), (33, .sl tStep l), (34, .sc (.int .i64 l.length)), (35, .sc (.int .i64 i))], [(1, .box [.sc (.int .i64 (plcS p l i).1), .sc (.bool (plcS p l i).2.1.1.1), .sl .int (plcS p l i).2.1.1.2, .sl .int (plcS p l i).2.1.2, .sc (.bool (plcS p l i).2.2.1.1), .sl .int (plcS p l i).2.2.1.2, .sl .int (plcS p l i).2.2.2])]⟩) (fun i => tvGo p l = tvGo (plcS p l i) (l.drop i)) (fun i => l.length - i) 0 ?_ rfl ?_
          · refine Wk.mk [] ?_
            try simp (maxSteps := 9999999) only [go_sem]
            try (and_intros <;> first | rfl | omega | exact ⟨_, rfl⟩)
          · rintro i hi
            try simp (maxSteps := 9999999) only [go_sem]
            refine CondW_dec (fun hA => ?_) (fun hA => ?_)
            · have hst := plcS_step p (show i < l.length by omega)
              rw [tvGo_at (by omega)] at hi
              have c4 := l22Turn_fn (nth (t := tStep) l i).1
              have c5 := specIsValidPoint_fn (nth (t := tStep) l i).2
              have c6 := specSame_fn (nth (t := tStep) l i).2 (plcS p l i).2
              have c7 := l22After_fn (plcS p l i) (nth (t := tStep) l i)
              generalize hq : plcS p l i = q at hi hst c6 c7 ⊢
              cases e1 : decide (-1 ≤ (nth (t := tStep) l i).1 ∧ (nth (t := tStep) l i).1 ≤ 1) <;> rw [e1] at c4
              · have e0 : tvStep q (nth (t := tStep) l i) = false := by unfold tvStep; rw [e1]; rfl
                rw [e0] at hi
                rw [hi]
                try simp (maxSteps := 9999999) only [go_sem]
                repeat refine And.intro (by first|omega|(constructor<;>omega)|kernel_rfl) ?_
                refine CallW.mk (c4) ?_
                try simp (maxSteps := 9999999) only [go_sem]
              · cases e2 : okPt (nth (t := tStep) l i).2 <;> rw [e2] at c5
                · have e0 : tvStep q (nth (t := tStep) l i) = false := by unfold tvStep; rw [e1, e2]; rfl
                  rw [e0] at hi
                  rw [hi]
                  try simp (maxSteps := 9999999) only [go_sem]
                  repeat refine And.intro (by first|omega|(constructor<;>omega)|kernel_rfl) ?_
                  refine CallW.mk (c4) ?_
                  try simp (maxSteps := 9999999) only [go_sem]
                  repeat refine And.intro (by first|omega|(constructor<;>omega)|kernel_rfl) ?_
                  refine CallW.mk (c5) ?_
                  try simp (maxSteps := 9999999) only [go_sem]
                · by_cases e3 : (nth (t := tStep) l i).1 = 0
                  · have e0 : tvStep q (nth (t := tStep) l i) = true := by unfold tvStep; rw [e1, e2, decide_eq_true e3]; rfl
                    have d3 := decide_eq_true e3
                    rw [e0, Bool.true_and, ← hst] at hi
                    try simp (maxSteps := 9999999) only [go_sem]
                    repeat refine And.intro (by first|omega|(constructor<;>omega)|kernel_rfl) ?_
                    refine CallW.mk (c4) ?_
                    try simp (maxSteps := 9999999) only [go_sem]
                    repeat refine And.intro (by first|omega|(constructor<;>omega)|kernel_rfl) ?_
                    refine CallW.mk (c5) ?_
                    try simp (maxSteps := 9999999) only [go_sem]
                    try simp (maxSteps := 9999999) only [go_sem, d3]
                    repeat refine And.intro (by first|omega|(constructor<;>omega)|kernel_rfl) ?_
                    refine CallW.mk (c7) ?_
                    try simp (maxSteps := 9999999) only [go_sem]
                    repeat refine And.intro (by first|omega|(constructor<;>omega)|kernel_rfl) ?_
                    refine LoopK.mk (i + 1) ?_ hi (by omega)
                    rw [hst]
                    refine Wk.mk [] ?_
                    try simp (maxSteps := 9999999) only [go_sem]
                    try (and_intros <;> first | rfl | omega | exact ⟨_, rfl⟩)
                  · have d3 := decide_eq_false e3
                    cases e4 : eqb (nth (t := tStep) l i).2 q.2 <;> rw [e4] at c6
                    · have e0 : tvStep q (nth (t := tStep) l i) = false := by unfold tvStep; rw [e1, e2, d3, e4]; rfl
                      rw [e0] at hi
                      rw [hi]
                      try simp (maxSteps := 9999999) only [go_sem]
                      repeat refine And.intro (by first|omega|(constructor<;>omega)|kernel_rfl) ?_
                      refine CallW.mk (c4) ?_
                      try simp (maxSteps := 9999999) only [go_sem]
                      repeat refine And.intro (by first|omega|(constructor<;>omega)|kernel_rfl) ?_
                      refine CallW.mk (c5) ?_
                      try simp (maxSteps := 9999999) only [go_sem]
                      try simp (maxSteps := 9999999) only [go_sem, d3]
                      repeat refine And.intro (by first|omega|(constructor<;>omega)|kernel_rfl) ?_
                      refine CallW.mk (c6) ?_
                      try simp (maxSteps := 9999999) only [go_sem]
                    · have e0 : tvStep q (nth (t := tStep) l i) = true := by unfold tvStep; rw [e1, e2, d3, e4]; rfl
                      rw [e0, Bool.true_and, ← hst] at hi
                      try simp (maxSteps := 9999999) only [go_sem]
                      repeat refine And.intro (by first|omega|(constructor<;>omega)|kernel_rfl) ?_
                      refine CallW.mk (c4) ?_
                      try simp (maxSteps := 9999999) only [go_sem]
                      repeat refine And.intro (by first|omega|(constructor<;>omega)|kernel_rfl) ?_
                      refine CallW.mk (c5) ?_
                      try simp (maxSteps := 9999999) only [go_sem]
                      try simp (maxSteps := 9999999) only [go_sem, d3]
                      repeat refine And.intro (by first|omega|(constructor<;>omega)|kernel_rfl) ?_
                      refine CallW.mk (c6) ?_
                      try simp (maxSteps := 9999999) only [go_sem]
                      repeat refine And.intro (by first|omega|(constructor<;>omega)|kernel_rfl) ?_
                      refine CallW.mk (c7) ?_
                      try simp (maxSteps := 9999999) only [go_sem]
                      repeat refine And.intro (by first|omega|(constructor<;>omega)|kernel_rfl) ?_
                      refine LoopK.mk (i + 1) ?_ hi (by omega)
                      rw [hst]
                      refine Wk.mk [] ?_
                      try simp (maxSteps := 9999999) only [go_sem]
                      try (and_intros <;> first | rfl | omega | exact ⟨_, rfl⟩)
            · rw [hi, List.drop_eq_nil_of_le (by omega), show tvGo (plcS p l i) [] = true from rfl]
              try simp (maxSteps := 9999999) only [go_sem]
        · have d4 : decide ((8 : Int) < l.length) = true := decide_eq_true (by omega)
          rw [decide_eq_false h4]
          refine fn_enter tabOK mixes Tryz.func46 rfl rfl _ Tryz.ntmps46 _ Tryz.results46 (by simp) fun hwf => ?_
          try simp (maxSteps := 9999999) only [go_sem]
          repeat refine And.intro (by first|omega|(constructor<;>omega)|kernel_rfl) ?_
          refine CallW.mk (c1) ?_
          try simp (maxSteps := 9999999) only [go_sem]
          repeat refine And.intro (by first|omega|(constructor<;>omega)|kernel_rfl) ?_
          refine CallW.mk (c2) ?_
          try simp (maxSteps := 9999999) only [go_sem]
          repeat refine And.intro (by first|omega|(constructor<;>omega)|kernel_rfl) ?_
          refine CallW.mk (c3) ?_
          try simp (maxSteps := 9999999) only [go_sem]
          try simp (maxSteps := 9999999) only [go_sem, d4]
end Go.Proofs.YtghckbohaghgkaaGreat.DW

/-
  The distance of a point from a segment.
-/
namespace Go.Proofs.YtghckbohaghgkaaGreat.DW
open Go.RowKit
noncomputable def oneO : Option Rat := some (((1 : Int)) : Rat)
noncomputable def zeroO : Option Rat := some (((0 : Int)) : Rat)
theorem ratI_1 : ratI 1 = oD oneO := ratI_eq 1
theorem ratI_z : ratI 0 = oD zeroO := ratI_eq 0
theorem ok_small {n : Int} (h : n.natAbs ≤ 1000000) : okO (some ((n : Int) : Rat)) := by
  intro q hq; injection hq with hq; subst hq
  exact ⟨Nat.le_trans (nl_small (n := n.natAbs) (by omega)) (by decide), Nat.le_trans (nl_small (n := 1) (by decide)) (by decide)⟩
theorem okO_one : okO oneO := ok_small (by decide)
theorem okO_zero : okO zeroO := ok_small (by decide)
theorem ratLt_as {p q : Rat} (h1 : p < q) : ¬ q < p := fun h => absurd (Rat.le_of_lt h) (Rat.not_le.2 h1)
theorem minO_comm (x y : Option Rat) : minO x y = minO y x := by
  cases x with
  | none => cases y <;> rfl
  | some p =>
    cases y with
    | none => rfl
    | some q =>
      show (if cmpQ p q ≤ 0 then some p else some q) = (if cmpQ q p ≤ 0 then some q else some p)
      unfold cmpQ
      by_cases h1 : p < q
      · have h2 : ¬ q < p := ratLt_as h1
        simp [h1, h2]
      · by_cases h2 : q < p
        · simp [h1, h2]
        · simp [h1, h2]
          exact Rat.le_antisymm (Rat.not_lt.1 h2) (Rat.not_lt.1 h1)
theorem maxO_comm (x y : Option Rat) : maxO x y = maxO y x := by
  cases x with
  | none => cases y <;> rfl
  | some p =>
    cases y with
    | none => rfl
    | some q =>
      show (if 0 ≤ cmpQ p q then some p else some q) = (if 0 ≤ cmpQ q p then some q else some p)
      unfold cmpQ
      by_cases h1 : p < q
      · have h2 : ¬ q < p := ratLt_as h1
        simp [h1, h2]
      · by_cases h2 : q < p
        · simp [h1, h2]
        · simp [h1, h2]
          exact Rat.le_antisymm (Rat.not_lt.1 h2) (Rat.not_lt.1 h1)
noncomputable def tD (p a b : DP) : Option Rat := minO oneO (maxO zeroO (divO (inD a p b) (sqD a b)))
noncomputable def nearD (a b : DP) (t : Option Rat) : DP := (oD (addO (rdO a.1) (mulO t (subO (rdO b.1) (rdO a.1)))), oD (addO (rdO a.2) (mulO t (subO (rdO b.2) (rdO a.2)))))
noncomputable def segD (p a b : DP) : Option Rat := if eqb a b then sqD p a else sqD p (nearD a b (tD p a b))
theorem okO_segD (p a b : DP) : okO (segD p a b) := by unfold segD; split <;> exact okO_sqD _ _
theorem okO_tD (p a b : DP) : okO (tD p a b) := okO_min okO_one (okO_max okO_zero (okO_div _ _))
theorem gP_near (a b : DP) (t : Option Rat) : gP (nearD a b t) := gP_mk (okO_add _ _) (okO_add _ _)
set_option maxRecDepth 100000 in
set_option maxHeartbeats 1000000 in
theorem toSegment_fn (p a b : DP) (hp : gP p) (ha : gP a) (hb : gP b) : Fn Tryz.prog 193 [⟨tPoint, p⟩, ⟨tPoint, a⟩, ⟨tPoint, b⟩] true [⟨tRat, oD (segD p a b)⟩] := by
  have c0 := implSame_fn a b
  unfold segD
  cases h : eqb a b <;> rw [h] at c0
  · rw [if_neg (by decide)]
    have c1 := inner_fn a p b ha hp hb
    have c2 := squareDistance_fn a b ha hb
    have c3 := ratDiv_fn (inD a p b) (sqD a b) (okO_inD _ _ _) (okO_sqD _ _)
    have c4 := ratInt_fn 1
    have c5 := ratInt_fn 0
    rw [ratI_1] at c4
    rw [ratI_z] at c5
    have c6 := ratMax_fn zeroO (divO (inD a p b) (sqD a b)) okO_zero (okO_div _ _)
    have c7 := ratMin_fn oneO (maxO zeroO (divO (inD a p b) (sqD a b))) okO_one (okO_max okO_zero (okO_div _ _))
    have e7 : minO oneO (maxO zeroO (divO (inD a p b) (sqD a b))) = tD p a b := rfl
    rw [e7] at c7
    have c8 := ratSub_fn (rdO b.1) (rdO a.1) (okO_rdO _) (okO_rdO _)
    have c9 := ratMul_fn (tD p a b) (subO (rdO b.1) (rdO a.1)) (okO_tD _ _ _) (okO_sub _ _)
    have c10 := ratAdd_fn (rdO a.1) (mulO (tD p a b) (subO (rdO b.1) (rdO a.1))) (okO_rdO _) (okO_mul _ _)
    have c11 := ratSub_fn (rdO b.2) (rdO a.2) (okO_rdO _) (okO_rdO _)
    have c12 := ratMul_fn (tD p a b) (subO (rdO b.2) (rdO a.2)) (okO_tD _ _ _) (okO_sub _ _)
    have c13 := ratAdd_fn (rdO a.2) (mulO (tD p a b) (subO (rdO b.2) (rdO a.2))) (okO_rdO _) (okO_mul _ _)
    rw [gP_1 ha, gP_1 hb] at c8
    rw [gP_1 ha] at c10
    rw [gP_2 ha, gP_2 hb] at c11
    rw [gP_2 ha] at c13
    have c14 := squareDistance_fn p (nearD a b (tD p a b)) hp (gP_near _ _ _)
    unfold nearD at c14 ⊢
    generalize tD p a b = t at c7 c9 c10 c12 c13 c14 ⊢
    generalize divO (inD a p b) (sqD a b) = dv at c3 c6 c7
    refine fn_enter tabOK mixes Tryz.func193 rfl rfl _ Tryz.ntmps193 _ Tryz.results193 (by simp) fun hwf => ?_
    try simp (maxSteps := 9999999) only [go_sem]
    repeat refine And.intro (by first|omega|(constructor<;>omega)|kernel_rfl) ?_
    refine CallW.mk (c0) ?_
    try simp (maxSteps := 9999999) only [go_sem]
    repeat refine And.intro (by first|omega|(constructor<;>omega)|kernel_rfl) ?_
    refine CallW.mk (c1) ?_
    try simp (maxSteps := 9999999) only [go_sem]
    repeat refine And.intro (by first|omega|(constructor<;>omega)|kernel_rfl) ?_
    refine CallW.mk (c2) ?_
    try simp (maxSteps := 9999999) only [go_sem]
    repeat refine And.intro (by first|omega|(constructor<;>omega)|kernel_rfl) ?_
    refine CallW.mk (c3) ?_
    try simp (maxSteps := 9999999) only [go_sem]
    repeat refine And.intro (by first|omega|(constructor<;>omega)|kernel_rfl) ?_
    refine CallW.mk (c4) ?_
    try simp (maxSteps := 9999999) only [go_sem]
    repeat refine And.intro (by first|omega|(constructor<;>omega)|kernel_rfl) ?_
    refine CallW.mk (c5) ?_
    try simp (maxSteps := 9999999) only [go_sem]
    repeat refine And.intro (by first|omega|(constructor<;>omega)|kernel_rfl) ?_
    refine CallW.mk (c6) ?_
    try simp (maxSteps := 9999999) only [go_sem]
    repeat refine And.intro (by first|omega|(constructor<;>omega)|kernel_rfl) ?_
    refine CallW.mk (c7) ?_
    try simp (maxSteps := 9999999) only [go_sem]
    repeat refine And.intro (by first|omega|(constructor<;>omega)|kernel_rfl) ?_
    refine CallW.mk (c8) ?_
    try simp (maxSteps := 9999999) only [go_sem]
    repeat refine And.intro (by first|omega|(constructor<;>omega)|kernel_rfl) ?_
    refine CallW.mk (c9) ?_
    try simp (maxSteps := 9999999) only [go_sem]
    repeat refine And.intro (by first|omega|(constructor<;>omega)|kernel_rfl) ?_
    refine CallW.mk (c10) ?_
    try simp (maxSteps := 9999999) only [go_sem]
    repeat refine And.intro (by first|omega|(constructor<;>omega)|kernel_rfl) ?_
    refine CallW.mk (c11) ?_
    try simp (maxSteps := 9999999) only [go_sem]
    repeat refine And.intro (by first|omega|(constructor<;>omega)|kernel_rfl) ?_
    refine CallW.mk (c12) ?_
    try simp (maxSteps := 9999999) only [go_sem]
    repeat refine And.intro (by first|omega|(constructor<;>omega)|kernel_rfl) ?_
    refine CallW.mk (c13) ?_
    try simp (maxSteps := 9999999) only [go_sem]
    repeat refine And.intro (by first|omega|(constructor<;>omega)|kernel_rfl) ?_
    refine CallW.mk (c14) ?_
    try simp (maxSteps := 9999999) only [go_sem]
    all_goals repeat refine And.intro (by first|omega|(constructor<;>omega)|kernel_rfl) ?_
    all_goals first | kernel_rfl | omega | rfl
  · rw [if_pos rfl]
    have c1 := squareDistance_fn p a hp ha
    refine fn_enter tabOK mixes Tryz.func193 rfl rfl _ Tryz.ntmps193 _ Tryz.results193 (by simp) fun hwf => ?_
    try simp (maxSteps := 9999999) only [go_sem]
    repeat refine And.intro (by first|omega|(constructor<;>omega)|kernel_rfl) ?_
    refine CallW.mk (c0) ?_
    try simp (maxSteps := 9999999) only [go_sem]
    repeat refine And.intro (by first|omega|(constructor<;>omega)|kernel_rfl) ?_
    refine CallW.mk (c1) ?_
    try simp (maxSteps := 9999999) only [go_sem]
    all_goals repeat refine And.intro (by first|omega|(constructor<;>omega)|kernel_rfl) ?_
    all_goals first | kernel_rfl | omega | rfl
end Go.Proofs.YtghckbohaghgkaaGreat.DW

/-
  Results that may grow; functions that use up what they are handed, called last. No program here.
-/
namespace Go.Proofs.YtghckbohaghgkaaGreat.DW
open Go.RowKit

section
variable {P : Program} {T : TypeId → Option Ty}
/-- The result is a row of the call's own. -/
def RetG (T : TypeId → Option Ty) (rs : List ResultVar) (e : TypeId) (t : Ty) (l : List t.den) (σ : St) : Prop :=
  match rs with
  | [r] => ∃ k ver, aRes T σ r = some (.row k ver) ∧ look σ.mem k = some (.row e t ver true l)
  | _ => False
theorem retG_ok (hT : TabOK P T) {fn : Func} {c : Cx} {σ : St} {Γ : Asg} {a : Act} {w : World} {e : TypeId} {t : Ty} {l : List t.den} (hs : Sim c σ Γ a w) (h : RetG T fn.results.toList e t l σ) :
    ∃ v, (results fn a.tmps).run P w = .ok v w ∧ ∃ fps : List (List Nat), v.oneCell' = true ∧ GrowF t.rp c.base w e v l fps ∧ OwnFp c.base w fps.flatten ∧ ∀ b ∈ fps.flatten, v.ownBlock ≠ some b := by
  unfold RetG at h
  split at h
  · rename_i r hr
    obtain ⟨k, ver, h1, h2⟩ := h
    obtain ⟨u, g1, g2⟩ := aRes_run (P := P) hT hs h1 rfl
    obtain ⟨q1, B, hB, q2⟩ := g2
    rw [h2] at hB; injection hB with hB; subst hB
    obtain ⟨fps, hg, hf, hgd, hon⟩ := hs.mm k _ h2
    have hu : u = Γ.hd k := q2.2 rfl
    have hfr : fn.results = #[r] := toList1 hr
    refine ⟨u, ?_, fps, q1, hu ▸ hg, hf ▸ hon rfl, fun b hb he => ?_⟩
    · rw [results_eq, hfr, List.mapM_toArray, map_eq_pure_bind, Sem.run_bind, Sem.run_bind]
      simp only [List.mapM_cons, List.mapM_nil, Sem.run_bind, g1, Result.andThen_ok, Sem.run_pure]
      simp
    · exact (hgd b (hf ▸ hb)).2 ⟨k, _, h2, by show (Γ.hd k).ownBlock = some b; rw [← hu]; exact he⟩
  · exact h.elim
def KRG (T : TypeId → Option Ty) (rs : List ResultVar) (e : TypeId) (t : Ty) (l : List t.den) (ex : Exit) (σ : St) : Prop :=
  match ex with
  | .normal | .ret => RetG T rs e t l σ
  | _ => False
@[go_sem] theorem KRG_n {rs : List ResultVar} {e : TypeId} {t : Ty} {l : List t.den} {σ : St} : KRG T rs e t l .normal σ = RetG T rs e t l σ := (rfl)
@[go_sem] theorem KRG_r {rs : List ResultVar} {e : TypeId} {t : Ty} {l : List t.den} {σ : St} : KRG T rs e t l .ret σ = RetG T rs e t l σ := (rfl)
attribute [go_sem] RetG
theorem fnG_enter (hT : TabOK P T) (hmix : P.follows .mixedOrders = true) {f : FuncId} {fn : Func} {code : Code} {args : List Dat} {e : TypeId} {t : Ty} {l : List t.den} (hf : P.funcs[f]? = some fn) (hname : (fn.name == "runtime.NumGoroutine") = false) (hb : fn.body = some code) (n : Nat) (hn : fn.ntmps = n) (rs : List ResultVar) (hr : fn.results = rs.toArray) (hna : args.length ≤ n)
    (h : (∀ d ∈ args, Wf d.1 d.2) → AC P T n code (KRG T rs e t l) ⟨argTm 0 args, []⟩) : FnG P f args e t l := by
  subst hn
  have h' : (∀ d ∈ args, Wf d.1 d.2) → AC P T fn.ntmps code (fun e' σ => match e' with
      | .normal | .ret => RetG T fn.results.toList e t l σ
      | _ => False) ⟨argTm 0 args, []⟩ := fun hwf => by
    have := h hwf
    have e : (KRG T rs e t l) = fun e' σ => match e' with
        | .normal | .ret => RetG T fn.results.toList e t l σ
        | _ => False := by
      have hrl : fn.results.toList = rs := by rw [hr]
      rw [hrl]; funext e' σ; cases e' <;> rfl
    rw [e] at this
    exact this
  have := fn_gen (VQ := fun b S w v => ∃ fps : List (List Nat), v.oneCell' = true ∧ GrowF t.rp b w e v l fps ∧ OwnFp b w fps.flatten ∧ ∀ b ∈ fps.flatten, v.ownBlock ≠ some b) hT hmix hf hname hb hna (fun c σ Γ a w hs hq => retG_ok (P := P) hT hs hq) h'
  refine ⟨this.1, fun w vs S ha => (this.2 w vs S ha).mono ?_⟩
  rintro e w' ⟨hb, v, he, fps, q1, q2, q3, q4⟩
  exact ⟨hb, v, fps, he, q1, q2, q3, q4⟩

-- functions that return a pointer to a box of their own
/-- The result points at a box with these data. -/
def RetP (T : TypeId → Option Ty) (rs : List ResultVar) (t : Ty) (x : t.den) (σ : St) : Prop :=
  match rs with
  | [r] => match aRes T σ r with
    | some (.ptr k 0) => match look σ.mem k with
      | some (.box cs) => Is (look σ.mem) t x cs
      | _ => False
    | _ => False
  | _ => False
def KRP (T : TypeId → Option Ty) (rs : List ResultVar) (t : Ty) (x : t.den) (ex : Exit) (σ : St) : Prop :=
  match ex with
  | .normal | .ret => RetP T rs t x σ
  | _ => False
@[go_sem] theorem KRP_n {rs : List ResultVar} {t : Ty} {x : t.den} {σ : St} : KRP T rs t x .normal σ = RetP T rs t x σ := (rfl)
@[go_sem] theorem KRP_r {rs : List ResultVar} {t : Ty} {x : t.den} {σ : St} : KRP T rs t x .ret σ = RetP T rs t x σ := (rfl)
attribute [go_sem] RetP
-- functions that use up what they are handed
/-- The contract of a function on values of a walk, at the memory of that walk: it may write what that memory's rows hold. -/
def FnB (P : Program) (f : FuncId) (vs : List AV) (M : Mm) (own : Bool) (res : List Dat) : Prop :=
  (∀ vs w, (callFunc f vs).run P w = .ok (.enter f vs) w) ∧
  ∀ (c : Cx) (Γ : Asg) (a : Act) (w : World) (tm : Tm) (us : List Value), Sim c ⟨tm, M⟩ Γ a w → All2 (fun v u => ARep c M Γ w v u) vs us →
    Calls P f us.toArray w fun en w' => Below c.base c.w0 w' ∧ c.base ≤ w'.heap.size ∧ ∃ v, en = .returned v ∧ ResOK own c.base c.S w' v res
-- a call that comes last
/-- Code, as far as walks of every surroundings say. -/
def TW (P : Program) (n : Nat) (x : Code) (Q : Exit → St → Prop) (σ : St) : Prop :=
  ∀ (c : Cx) (Γ : Asg) (a : Act) (w : World) (Q' : Exit → Act → World → Prop), c.n = n → Sim c σ Γ a w → (∀ e σ' Γ' a' w', Q e σ' → Sim c σ' Γ' a' w' → Q' e a' w') → x.wp P Q' a w
theorem TW.of (hT : TabOK P T) (hmix : P.follows .mixedOrders = true) {n : Nat} {x : Code} {Q : Exit → St → Prop} {σ : St} (h : AC P T n x Q σ) : TW P n x Q σ :=
  fun c Γ a w Q' hn hs hQ => AC_wp hT hmix (by rw [hn]; exact h) hs hQ
theorem TW.seq (hT : TabOK P T) (hmix : P.follows .mixedOrders = true) {n : Nat} {x y : Code} {Q : Exit → St → Prop} {σ : St} (h : AC P T n x (thenA (fun σ' => TW P n y Q σ') Q) σ) : TW P n (.seq x y) Q σ :=
  fun c Γ a w Q' hn hs hQ => by
    refine wp_seq (AC_wp hT hmix (show AC P T c.n x _ σ by rw [hn]; exact h) hs fun e σ' Γ' a' w' hq hs' => ?_)
    cases e with
    | normal => exact hq c Γ' a' w' Q' hn hs' hQ
    | _ => exact hQ _ _ _ _ _ hq hs'
theorem TW.then (hT : TabOK P T) (hmix : P.follows .mixedOrders = true) {n : Nat} {x y : Code} {Q : Exit → St → Prop} {σ : St} (h : TW P n x (thenA (fun σ' => AC P T n y Q σ') Q) σ) : TW P n (.seq x y) Q σ :=
  fun c Γ a w Q' hn hs hQ => by
    refine wp_seq (h c Γ a w _ hn hs fun e σ' Γ' a' w' hq hs' => ?_)
    cases e with
    | normal => exact AC_wp hT hmix (show AC P T c.n y Q σ' by rw [hn]; exact hq) hs' hQ
    | _ => exact hQ _ _ _ _ _ hq hs'
theorem went_app {c : Cx} {ops : List Oper} {Q : Exit → Act → World → Prop} {post : List Oper} : ∀ {os : List Oper} {es : List Eff} {σ : St} {Γ : Asg} {a : Act} {w : World}, Went' P c ops σ os es → Sim c σ Γ a w → (∀ Γ' a' w', Sim c (runEs σ (os.zip es)) Γ' a' w' → wpList P ops.toArray Q post a' w') → wpList P ops.toArray Q (os ++ post) a w
  | [], _, σ, Γ, a, w, .nil _, hs, hQ => hQ Γ a w hs
  | o :: os, e :: es, σ, Γ, a, w, .cons h1 h2, hs, hQ => by
    refine wpList_step fun K hK => ?_
    exact h1.step hs (fun _ _ => rfl) (fun _ _ _ _ _ => rfl) (fun _ _ => rfl) fun Γ' a' w' hs' => hK _ _ (went_app h2 hs' hQ)
/-- The value of a result, and what it lays. -/
def resV (own : Bool) (d : Dat) : AV := if own then oav 0 d else av d.1 d.2
def resM' (own : Bool) (d : Dat) : Mm := if own then (ocel 0 d.1 d.2).2 else []
/-- The last call: what is handed over is used up. -/
def TailW (P : Program) (T : TypeId → Option Ty) (n : Nat) (ops : List Oper) (f : FuncId) (xs : List Operand) (d : Nat) (post : List Oper) (own : Bool) (r : Dat) (Q : Exit → St → Prop) (σ : St) : Prop :=
  ∃ τ vs, Wk σ τ ∧ evs (look τ.tmps) xs = some vs ∧ vs.all AV.ok = true ∧ FnB P f vs τ.mem own [r] ∧ d < n ∧ AO P T n ops post ⟨[(d, resV own r)], resM' own r⟩ [] (fun σ' _ => Q .normal σ')
theorem TW.tail (hT : TabOK P T) {n id : Nat} {l : List Oper} (i : Nat) {d : Nat} {f : FuncId} {xs : Array Operand} {tys : Array TypeId} {ty : TypeId} {ps : String} {af : Array Edge} {post : List Oper} {own : Bool} {r : Dat} {Q : Exit → St → Prop} {σ : St}
    (hl : l.drop i = ⟨some d, .call { callee := .value (.func f), args := xs, argTypes := tys }, ty, ps, af, none⟩ :: post)
    (h : AO P T n l (l.take i) σ [] (fun σ1 _ => TailW P T n l f xs.toList d post own r Q σ1)) : TW P n (.region id l.toArray false) Q σ := fun c Γ a w Q' hn hs hQ => by
  subst hn
  obtain ⟨es, σ', h1, h3, h4⟩ := AO_went hT h Same.rfl'
  refine wp_region_lit ?_
  have hsp : l = l.take i ++ l.drop i := (List.take_append_drop i l).symm
  rw [show wpList P l.toArray Q' l a w = wpList P l.toArray Q' (l.take i ++ l.drop i) a w by rw [← hsp]]
  refine went_app h1 hs fun Γ1 a1 w1 hs1 => ?_
  have hs1 := hs1.same h4
  obtain ⟨τ, vs, hwk, hev, hok, hfn, hd, hpost⟩ := h3
  obtain ⟨Γ2, hs2⟩ := wk_sim hs1 hwk
  rw [hl]
  refine wpList_step fun K hK => ?_
  rw [if_pos (by simp [Region.wanted])]
  have hvs := evs_rep hs2 (xs := xs.toList) (fun x _ t e => rfl) hev hok
  have hvs' : All2 (fun v u => ARep c τ.mem Γ2 w1 v u) vs (xs.toList.map a1.eval) := by
    have : ∀ {vs : List AV} {ys : List Operand}, All2 (fun v x => ARep c τ.mem Γ2 w1 v (a1.eval x)) vs ys → All2 (fun v u => ARep c τ.mem Γ2 w1 v u) vs (ys.map a1.eval) := by
      intro vs ys
      induction vs generalizing ys with
      | nil => intro h; cases ys with | nil => trivial | cons => exact h.elim
      | cons v vs ih => intro h; cases ys with
        | nil => exact h.elim
        | cons y ys => exact ⟨h.1, ih h.2⟩
    exact this hvs
  have hrun : (execOp a1.eval ⟨some d, .call { callee := .value (.func f), args := xs, argTypes := tys }, ty, ps, af, none⟩).run P w1 = .ok (.enter f (xs.map a1.eval)) w1 := by
    have h0 := hfn.1 (xs.map a1.eval) w1
    have e1 : a1.eval (.func f) = .func (.func f) #[] #[] := rfl
    simp [execOp, resolve, e1, Deferred.ofValue, invoke, h0]
  unfold Oper.wp
  rw [hrun, Oper.upon_enter]
  have hma : xs.map a1.eval = (xs.toList.map a1.eval).toArray := Array.toList_inj.1 (by rw [Array.toList_map])
  rw [hma]
  refine (hfn.2 c Γ2 a1 w1 τ.tmps _ hs2 hvs').mono ?_
  rintro e w' ⟨hb, hbs, u, rfl, fp, hdr, hown, hfp⟩
  have h0 : Sim c ⟨[], []⟩ ⟨fun _ => 0, fun _ => undef, fun _ => []⟩ a1 w' :=
    ⟨fun d v hd => (by cases hd), fun k B hk => (by cases hk), fun k k' B B' b hk => (by cases hk), fun k k' B B' b hk => (by cases hk), hb, hbs, hs1.defs, hs1.sz⟩
  have hfin : ∃ Γ3, Sim c ⟨[(d, resV own r)], resM' own r⟩ Γ3 (a1.put (some d) u) w' := by
    cases own with
    | true =>
      have ho := hown rfl
      obtain ⟨cs, hpk, hrp⟩ := hdr
      obtain ⟨Γ', s1, r1, _, _, _⟩ := h0.ocel (k := 0) hrp ho (fun b hbb => ⟨.inr (ho.2 b hbb).1, fun ⟨k, B, hB, _⟩ => by cases hB⟩) (fun b hbb j B hj => by cases hj) (fun p hp => rfl)
      refine ⟨Γ', ?_⟩
      have hv : VRep c ((ocel 0 r.1 r.2).2 ++ []) Γ' w' (oav 0 r) u := by
        unfold oav
        rcases hpk with ⟨hag, rfl⟩ | ⟨hag, rfl⟩
        · rw [hag]; exact ⟨cs, rfl, r1⟩
        · rw [hag]
          obtain ⟨v, hv1⟩ := ocel_one (k := 0) (x := r.2) hag
          rw [hv1] at r1 ⊢
          exact crep_vrep r1.1
      have := s1.put (d := some d) hv (fun x hx => by injection hx with hx; subst hx; exact hd)
      simpa [resV, resM', St.put] using this
    | false =>
      refine ⟨⟨fun _ => 0, fun _ => undef, fun _ => []⟩, ?_⟩
      have hv : VRep c [] ⟨fun _ => 0, fun _ => undef, fun _ => []⟩ w' (av r.1 r.2) u := arep_vrep (av_rep hdr fun b hbb => ⟨hfp b hbb, fun ⟨k, B, hB, _⟩ => by cases hB⟩)
      have := h0.put (d := some d) hv (fun x hx => by injection hx with hx; subst hx; exact hd)
      simpa [resV, resM', St.put] using this
  obtain ⟨Γ3, hs3⟩ := hfin
  obtain ⟨es', σ'', g1, g3, g4⟩ := AO_went hT hpost Same.rfl'
  exact hK _ _ (went_list g1 hs3 fun Γ' a' w' hs' => hQ _ _ _ _ _ g3 (hs'.same g4))
end
end Go.Proofs.YtghckbohaghgkaaGreat.DW

/-
  The two sides of a hull.
-/
namespace Go.Proofs.YtghckbohaghgkaaGreat.DW
open Go.RowKit
theorem rv_len (b a : DV) (r : List DV) : (b :: a :: r).reverse.length = r.length + 2 := by rw [List.length_reverse]; rfl
theorem nth_app {l m : List DV} {x : DV} (k : Nat) (h : k = l.length) : nth (t := tVec) (l ++ x :: m) k = x := by
  subst h
  rw [nth_lt (by simp)]
  simp
theorem rv_a (b a : DV) (r : List DV) : nth (t := tVec) (b :: a :: r).reverse r.length = a := by
  rw [List.reverse_cons, List.reverse_cons, List.append_assoc]
  exact nth_app _ (by simp)
theorem rv_b (b a : DV) (r : List DV) : nth (t := tVec) (b :: a :: r).reverse (r.length + 1) = b := by
  rw [List.reverse_cons, List.reverse_cons]
  exact nth_app _ (by simp)
theorem rv_take (b a : DV) (r : List DV) : (b :: a :: r).reverse.take (r.length + 1) = (a :: r).reverse := by
  rw [List.reverse_cons, List.take_append_of_le_length (by simp), List.take_of_length_le (by simp)]
theorem popD_go {v b a : DV} {r : List DV} (h : trn a b v ≤ 0) : popD v (b :: a :: r) = popD v (a :: r) := by
  rw [popD, if_pos h]
theorem popD_end {v b a : DV} {r : List DV} (h : ¬ trn a b v ≤ 0) : popD v (b :: a :: r) = b :: a :: r := by
  rw [popD, if_neg h]
theorem popD_1 {v : DV} {s : List DV} (h : s.length ≤ 1) : popD v s = s := by
  match s, h with
  | [], _ => rfl
  | [a], _ => rfl
/-- What a loop that takes points away has left. -/
def popOK (v : DV) (s0 s : List DV) : Prop := popD v s = popD v s0 ∧ (∀ x ∈ s, okV x = true) ∧ s.length ≤ s0.length
theorem trq_ok {a b c : DV} (ha : okV a = true) (hb : okV b = true) (hc : okV c = true) : trq a b c = trn a b c := by
  unfold trq
  rw [ha, hb, hc]; rfl
theorem chain_fn (l : List DV) (hl : ∀ v ∈ l, okV v = true) (h0 : 0 < l.length) (hn : l.length ≤ 1048576) : FnG Tryz.prog 209 [⟨.slice tVec, l⟩] 113 tVec (chD l) := by
  refine fnG_enter tabOK mixes Tryz.func209 rfl rfl _ Tryz.ntmps209 _ Tryz.results209 (by simp) fun hwf => ?_
  try simp (maxSteps := 9999999) only [go_sem]
  refine LoopG.intro _ _ _ (fun i : Nat => ⟨[(3, .row 0 0), (7, .sl tVec l), (8, .sc (.int .i64 l.length)), (9, .sc (.int .i64 i))], [(0, .row 113 tVec 0 true (chRi l i).reverse)]⟩) (fun i => i ≤ l.length) (fun i => l.length - i) 0 ?_ (Nat.zero_le _) ?_
  · refine Wk.mk [] ?_
    try simp (maxSteps := 9999999) only [go_sem]
    try (and_intros <;> first | rfl | omega | exact ⟨_, rfl⟩)
  · rintro i hi
    try simp (maxSteps := 9999999) only [go_sem]
    refine CondW_dec (fun hA => ?_) (fun hA => ?_)
    · have hlt : i < l.length := by omega
      have hv := hl _ (nth_mem hlt)
      have hst := chRi_step hlt
      have hcl := chRi_len l i
      try simp (maxSteps := 9999999) only [go_sem]
      repeat refine And.intro (by first|omega|(constructor<;>omega)|kernel_rfl) ?_
      generalize hvv : nth (t := tVec) l i = v at hv hst ⊢
      refine LoopG.intro _ _ _ (fun s : List DV => ⟨[(3, .row 0 0), (5, .ptr 1 0), (7, .sl tVec l), (8, .sc (.int .i64 l.length)), (9, .sc (.int .i64 i))], [(1, .box [.sc (.int .i64 v.1), .sc (.int .i64 v.2)]), (0, .row 113 tVec 0 true s.reverse)]⟩) (popOK v (chRi l i)) (fun s => s.length) (chRi l i) ?_ ⟨rfl, fun x hx => hl _ (chRi_mem hx), Nat.le_refl _⟩ ?_
      · refine Wk.mk [] ?_
        try simp (maxSteps := 9999999) only [go_sem]
        try (and_intros <;> first | rfl | omega | exact ⟨_, rfl⟩)
      · rintro s ⟨k1, k2, k3⟩
        by_cases h1 : s.length ≤ 1
        · have hrl : s.reverse.length = s.length := List.length_reverse
          have d1 := decide_eq_false (p := (s.reverse.length : Int) > 1) (by omega)
          try simp (maxSteps := 9999999) only [go_sem, d1]
          repeat refine And.intro (by first|omega|(constructor<;>omega)|kernel_rfl) ?_
          refine LoopK.mk (i + 1) ?_ (by omega) (by omega)
          rw [hst, ← k1, popD_1 h1, List.reverse_cons]
          refine Wk.mk [] ?_
          try simp (maxSteps := 9999999) only [go_sem]
          try (and_intros <;> first | rfl | omega | exact ⟨_, rfl⟩)
          all_goals (first | exact ⟨by omega, rfl⟩ | exact ⟨rfl, rfl⟩)
        · obtain ⟨b, a, r, rfl⟩ : ∃ b a r, s = b :: a :: r := by
            match s, h1 with
            | b :: a :: r, _ => exact ⟨b, a, r, rfl⟩
            | [a], h => exact absurd (Nat.le_refl _) h
            | [], h => exact absurd (Nat.zero_le _) h
          have ea := rv_a b a r
          have eb := rv_b b a r
          have et := rv_take b a r
          have hrl := rv_len b a r
          have oa := k2 a (by simp)
          have ob := k2 b (by simp)
          have hrc : (b :: a :: r).reverse ++ [v] = (v :: b :: a :: r).reverse := (List.reverse_cons ..).symm
          have hls : (b :: a :: r).length = r.length + 2 := rfl
          generalize hw : (b :: a :: r).reverse = w at ea eb et hrl hrc ⊢
          have d1 := decide_eq_true (p := (w.length : Int) > 1) (by omega)
          have e2 : ((w.length : Int) - 2).toNat = r.length := by omega
          have e1 : ((w.length : Int) - 1).toNat = r.length + 1 := by omega
          have c1 := turn_fn (nth (t := tVec) w ((w.length : Int) - 2).toNat) (nth (t := tVec) w ((w.length : Int) - 1).toNat) v (by rw [e2, ea]; exact oa) (by rw [e1, eb]; exact ob) hv
          try simp (maxSteps := 9999999) only [go_sem, d1]
          repeat refine And.intro (by first|omega|(constructor<;>omega)|kernel_rfl) ?_
          refine CallW.mk (c1) ?_
          try simp (maxSteps := 9999999) only [go_sem]
          repeat refine And.intro (by first|omega|(constructor<;>omega)|kernel_rfl) ?_
          refine CondW_dec (fun hB => ?_) (fun hB => ?_)
          · rw [e2, e1, ea, eb] at hB
            try simp (maxSteps := 9999999) only [go_sem]
            repeat refine And.intro (by first|omega|(constructor<;>omega)|kernel_rfl) ?_
            refine SlcW.cut (e := 113) (o := true) ⟨rfl, rfl, ?_⟩
            try simp (maxSteps := 9999999) only [go_sem]
            repeat refine And.intro (by first|omega|(constructor<;>omega)|kernel_rfl) ?_
            refine LoopK.mk (a :: r) ?_ ⟨(popD_go hB).symm.trans k1, fun x hx => k2 x (List.mem_cons_of_mem _ hx), by simp at k3 ⊢; omega⟩ (by simp)
            rw [e1, et]
            refine Wk.mk [] ?_
            try simp (maxSteps := 9999999) only [go_sem]
            try (and_intros <;> first | rfl | omega | exact ⟨_, rfl⟩)
            all_goals (first | exact ⟨by omega, rfl⟩ | exact ⟨rfl, rfl⟩ | trace_state)
          · rw [e2, e1, ea, eb] at hB
            try simp (maxSteps := 9999999) only [go_sem]
            repeat refine And.intro (by first|omega|(constructor<;>omega)|kernel_rfl) ?_
            refine LoopK.mk (i + 1) ?_ (by omega) (by omega)
            rw [hst, ← k1, popD_end hB, hrc]
            refine Wk.mk [] ?_
            try simp (maxSteps := 9999999) only [go_sem]
            try (and_intros <;> first | rfl | omega | exact ⟨_, rfl⟩)
            all_goals (first | exact ⟨by omega, rfl⟩ | exact ⟨rfl, rfl⟩)
    · have hii : i = l.length := by omega
      subst hii
      have hne : 0 < (chRi l l.length).reverse.length := by
        rw [List.length_reverse]
        have := chRi_step (l := l) (i := l.length - 1) (by omega)
        rw [show l.length - 1 + 1 = l.length by omega] at this
        rw [this]; simp
      have hcl := chRi_len l l.length
      have hrl : (chRi l l.length).reverse.length = (chRi l l.length).length := List.length_reverse
      have hcd : chD l = (chRi l l.length).reverse.take (((chRi l l.length).reverse.length : Int) - 1).toNat := by
        unfold chD chRi
        rw [List.take_length, List.dropLast_eq_take]
        congr 1
        omega
      rw [hcd]
      generalize (chRi l l.length).reverse = w at hne hrl ⊢
      try simp (maxSteps := 9999999) only [go_sem]
      repeat refine And.intro (by first|omega|(constructor<;>omega)|kernel_rfl) ?_
      refine SlcW.cut (e := 113) (o := true) ⟨rfl, rfl, ?_⟩
      try simp (maxSteps := 9999999) only [go_sem]
      repeat refine And.intro (by first|omega|(constructor<;>omega)|kernel_rfl) ?_
      exact ⟨0, 1, rfl, rfl⟩
theorem l06Chain_fn (l : List DV) (hl : ∀ v ∈ l, okV v = true) (h0 : 0 < l.length) (hn : l.length ≤ 1048576) : Fn Tryz.prog 159 [⟨.slice tVec, l⟩] true [⟨.slice tVec, (chR l).reverse⟩] := by
  refine fn_enter tabOK mixes Tryz.func159 rfl rfl _ Tryz.ntmps159 _ Tryz.results159 (by simp) fun hwf => ?_
  try simp (maxSteps := 9999999) only [go_sem]
  refine LoopG.intro _ _ _ (fun i : Nat => ⟨[(3, .row 0 0), (7, .sl tVec l), (8, .sc (.int .i64 l.length)), (9, .sc (.int .i64 i))], [(0, .row 113 tVec 0 true (chRi l i).reverse)]⟩) (fun i => i ≤ l.length) (fun i => l.length - i) 0 ?_ (Nat.zero_le _) ?_
  · refine Wk.mk [] ?_
    try simp (maxSteps := 9999999) only [go_sem]
    try (and_intros <;> first | rfl | omega | exact ⟨_, rfl⟩)
  · rintro i hi
    try simp (maxSteps := 9999999) only [go_sem]
    refine CondW_dec (fun hA => ?_) (fun hA => ?_)
    · have hlt : i < l.length := by omega
      have hv := hl _ (nth_mem hlt)
      have hst := chRi_step hlt
      have hcl := chRi_len l i
      try simp (maxSteps := 9999999) only [go_sem]
      repeat refine And.intro (by first|omega|(constructor<;>omega)|kernel_rfl) ?_
      generalize hvv : nth (t := tVec) l i = v at hv hst ⊢
      refine LoopG.intro _ _ _ (fun s : List DV => ⟨[(3, .row 0 0), (5, .ptr 1 0), (7, .sl tVec l), (8, .sc (.int .i64 l.length)), (9, .sc (.int .i64 i))], [(1, .box [.sc (.int .i64 v.1), .sc (.int .i64 v.2)]), (0, .row 113 tVec 0 true s.reverse)]⟩) (popOK v (chRi l i)) (fun s => s.length) (chRi l i) ?_ ⟨rfl, fun x hx => hl _ (chRi_mem hx), Nat.le_refl _⟩ ?_
      · refine Wk.mk [] ?_
        try simp (maxSteps := 9999999) only [go_sem]
        try (and_intros <;> first | rfl | omega | exact ⟨_, rfl⟩)
      · rintro s ⟨k1, k2, k3⟩
        by_cases h1 : s.length ≤ 1
        · have hrl : s.reverse.length = s.length := List.length_reverse
          have d1 := decide_eq_false (p := (s.reverse.length : Int) > 1) (by omega)
          try simp (maxSteps := 9999999) only [go_sem, d1]
          repeat refine And.intro (by first|omega|(constructor<;>omega)|kernel_rfl) ?_
          refine LoopK.mk (i + 1) ?_ (by omega) (by omega)
          rw [hst, ← k1, popD_1 h1, List.reverse_cons]
          refine Wk.mk [] ?_
          try simp (maxSteps := 9999999) only [go_sem]
          try (and_intros <;> first | rfl | omega | exact ⟨_, rfl⟩)
          all_goals (first | exact ⟨by omega, rfl⟩ | exact ⟨rfl, rfl⟩)
        · obtain ⟨b, a, r, rfl⟩ : ∃ b a r, s = b :: a :: r := by
            match s, h1 with
            | b :: a :: r, _ => exact ⟨b, a, r, rfl⟩
            | [a], h => exact absurd (Nat.le_refl _) h
            | [], h => exact absurd (Nat.zero_le _) h
          have ea := rv_a b a r
          have eb := rv_b b a r
          have et := rv_take b a r
          have hrl := rv_len b a r
          have oa := k2 a (by simp)
          have ob := k2 b (by simp)
          have hrc : (b :: a :: r).reverse ++ [v] = (v :: b :: a :: r).reverse := (List.reverse_cons ..).symm
          have hls : (b :: a :: r).length = r.length + 2 := rfl
          generalize hw : (b :: a :: r).reverse = w at ea eb et hrl hrc ⊢
          have d1 := decide_eq_true (p := (w.length : Int) > 1) (by omega)
          have e2 : ((w.length : Int) - 2).toNat = r.length := by omega
          have e1 : ((w.length : Int) - 1).toNat = r.length + 1 := by omega
          have c1 := Turn_fn (nth (t := tVec) w ((w.length : Int) - 2).toNat) (nth (t := tVec) w ((w.length : Int) - 1).toNat) v
          rw [trq_ok (by rw [e2, ea]; exact oa) (by rw [e1, eb]; exact ob) hv] at c1
          try simp (maxSteps := 9999999) only [go_sem, d1]
          repeat refine And.intro (by first|omega|(constructor<;>omega)|kernel_rfl) ?_
          refine CallW.mk (c1) ?_
          try simp (maxSteps := 9999999) only [go_sem]
          repeat refine And.intro (by first|omega|(constructor<;>omega)|kernel_rfl) ?_
          refine CondW_dec (fun hB => ?_) (fun hB => ?_)
          · rw [e2, e1, ea, eb] at hB
            try simp (maxSteps := 9999999) only [go_sem]
            repeat refine And.intro (by first|omega|(constructor<;>omega)|kernel_rfl) ?_
            refine SlcW.cut (e := 113) (o := true) ⟨rfl, rfl, ?_⟩
            try simp (maxSteps := 9999999) only [go_sem]
            repeat refine And.intro (by first|omega|(constructor<;>omega)|kernel_rfl) ?_
            refine LoopK.mk (a :: r) ?_ ⟨(popD_go hB).symm.trans k1, fun x hx => k2 x (List.mem_cons_of_mem _ hx), by simp at k3 ⊢; omega⟩ (by simp)
            rw [e1, et]
            refine Wk.mk [] ?_
            try simp (maxSteps := 9999999) only [go_sem]
            try (and_intros <;> first | rfl | omega | exact ⟨_, rfl⟩)
            all_goals (first | exact ⟨by omega, rfl⟩ | exact ⟨rfl, rfl⟩ | trace_state)
          · rw [e2, e1, ea, eb] at hB
            try simp (maxSteps := 9999999) only [go_sem]
            repeat refine And.intro (by first|omega|(constructor<;>omega)|kernel_rfl) ?_
            refine LoopK.mk (i + 1) ?_ (by omega) (by omega)
            rw [hst, ← k1, popD_end hB, hrc]
            refine Wk.mk [] ?_
            try simp (maxSteps := 9999999) only [go_sem]
            try (and_intros <;> first | rfl | omega | exact ⟨_, rfl⟩)
            all_goals (first | exact ⟨by omega, rfl⟩ | exact ⟨rfl, rfl⟩)
    · have hcr : (chR l).reverse = (chRi l i).reverse := by
        unfold chRi
        rw [List.take_of_length_le (by omega)]
      rw [hcr]
      try simp (maxSteps := 9999999) only [go_sem]
end Go.Proofs.YtghckbohaghgkaaGreat.DW

/-
  The hull, the reference's.
-/
namespace Go.Proofs.YtghckbohaghgkaaGreat.DW
open Go.RowKit
theorem l06Less_fn (a b : DV) : Fn Tryz.prog 158 [⟨tVec, a⟩, ⟨tVec, b⟩] false [⟨.bool, decide (ltV a b)⟩] := by
  by_cases h1 : a.1 < b.1
  · have d1 := decide_eq_true h1
    rw [decide_eq_true (p := ltV a b) (.inl h1)]
    refine fn_enter tabOK mixes Tryz.func158 rfl rfl _ Tryz.ntmps158 _ Tryz.results158 (by simp) fun hwf => ?_
    try simp (maxSteps := 9999999) only [go_sem, d1]
  · have d1 := decide_eq_false h1
    by_cases h2 : a.1 = b.1
    · have d2 := decide_eq_true h2
      have e : decide (ltV a b) = decide (a.2 < b.2) := by
        by_cases h3 : a.2 < b.2
        · rw [decide_eq_true h3, decide_eq_true (p := ltV a b) (.inr ⟨h2, h3⟩)]
        · rw [decide_eq_false h3, decide_eq_false (p := ltV a b) (fun h => by unfold ltV at h; omega)]
      rw [e]
      refine fn_enter tabOK mixes Tryz.func158 rfl rfl _ Tryz.ntmps158 _ Tryz.results158 (by simp) fun hwf => ?_
      try simp (maxSteps := 9999999) only [go_sem, d1, d2]
    · have d2 := decide_eq_false h2
      rw [decide_eq_false (p := ltV a b) (fun h => by unfold ltV at h; omega)]
      refine fn_enter tabOK mixes Tryz.func158 rfl rfl _ Tryz.ntmps158 _ Tryz.results158 (by simp) fun hwf => ?_
      try simp (maxSteps := 9999999) only [go_sem, d1, d2]
/-- The first n of a list, from its end. -/
def bkD (l : List DV) (n : Nat) : List DV := l.reverse.take n
theorem bkD_step {l : List DV} {n : Nat} (h : n < l.length) : bkD l (n + 1) = bkD l n ++ [nth (t := tVec) l (l.length - 1 - n)] := by
  unfold bkD
  rw [List.take_add_one, List.getElem?_eq_getElem (by rw [List.length_reverse]; exact h), List.getElem_reverse, nth_lt (by omega)]
  rfl
theorem bkD_len {l : List DV} {n : Nat} (h : n ≤ l.length) : (bkD l n).length = n := by
  unfold bkD; rw [List.length_take, List.length_reverse]; omega
theorem bkD_all {l : List DV} {n : Nat} (h : l.length ≤ n) : bkD l n = l.reverse := by
  unfold bkD; rw [List.take_of_length_le (by rw [List.length_reverse]; exact h)]
theorem hullD_lt3 {l : List DV} (h : (srtD l).length < 3) : hullD l = srtD l := by
  unfold hullD
  split
  · rfl
  · match hs : srtD l, h with
    | [], _ => rfl
    | [a], _ => exact absurd (show (srtD l).length < 2 by rw [hs]; exact Nat.lt_succ_self _) (by assumption)
    | [a, b], _ => rfl
theorem chD_take (l : List DV) : chD l = (chR l).reverse.take ((chR l).reverse.length - 1) := List.dropLast_eq_take
theorem chR_len (l : List DV) : (chR l).length ≤ l.length := by
  have := chRi_len l l.length
  unfold chRi at this
  rwa [List.take_length] at this
theorem chR_pos (l : List DV) (h : 0 < l.length) : 0 < (chR l).length := by
  have := chRi_step (l := l) (i := l.length - 1) (by omega)
  rw [show l.length - 1 + 1 = l.length by omega] at this
  unfold chRi at this
  rw [List.take_length] at this
  rw [this]; simp
set_option maxRecDepth 100000 in
set_option maxHeartbeats 1000000 in
theorem specHull_fn (l : List DV) (hl : ∀ v ∈ l, okV v = true) (hn : l.length ≤ 64) : Fn Tryz.prog 114 [⟨.slice tVec, l⟩] true [⟨.slice tVec, hullD l⟩] := by
  have d0 := decide_eq_false (p := (l.length : Int) > 64) (by omega)
  refine fn_enter tabOK mixes Tryz.func114 rfl rfl _ Tryz.ntmps114 _ Tryz.results114 (by simp) fun hwf => ?_
  try simp (maxSteps := 9999999) only [go_sem, d0]
  refine LoopG.intro _ _ _ (fun i : Nat => ⟨[(3, .row 0 0), (17, .sl tVec l), (18, .sc (.int .i64 l.length)), (19, .sc (.int .i64 i))], [(0, .row 113 tVec 0 true (srtI l i))]⟩) (fun i => i ≤ l.length) (fun i => l.length - i) 0 ?_ (Nat.zero_le _) ?_
  · refine Wk.mk [] ?_
    try simp (maxSteps := 9999999) only [go_sem]
    try (and_intros <;> first | rfl | omega | exact ⟨_, rfl⟩)
  · rintro i hi
    try simp (maxSteps := 9999999) only [go_sem]
    refine CondW_dec (fun hA => ?_) (fun hA => ?_)
    · have hlt : i < l.length := by omega
      have hv := hl _ (nth_mem hlt)
      have hst := srtI_step hlt
      have hcl := srtI_len l i
      have c1 := IsValidVec_fn (nth (t := tVec) l i)
      rw [hv] at c1
      generalize hvv : nth (t := tVec) l i = v at hv hst c1 ⊢
      generalize hss : srtI l i = s at hst hcl ⊢
      try simp (maxSteps := 9999999) only [go_sem, hvv]
      repeat refine And.intro (by first|omega|(constructor<;>omega)|kernel_rfl) ?_
      refine CallW.mk (c1) ?_
      try simp (maxSteps := 9999999) only [go_sem]
      refine LoopG.intro _ _ _ (fun j : Nat => ⟨[(3, .row 0 0), (5, .ptr 1 0), (6, .sc (.int .i64 j)), (17, .sl tVec l), (18, .sc (.int .i64 l.length)), (19, .sc (.int .i64 i))], [(1, .box [.sc (.int .i64 v.1), .sc (.int .i64 v.2)]), (0, .row 113 tVec 0 true s)]⟩) (fun j => j ≤ s.length ∧ ∀ j', j' < j → ltV (nth (t := tVec) s j') v) (fun j => s.length - j) 0 ?_ ⟨Nat.zero_le _, fun j h => absurd h (Nat.not_lt_zero _)⟩ ?_
      · refine Wk.mk [] ?_
        try simp (maxSteps := 9999999) only [go_sem]
        try (and_intros <;> first | rfl | omega | exact ⟨_, rfl⟩)
      · rintro j ⟨k1, k2⟩
        have hins := insD_at (p := v) (l := s) (i := j) k1 k2
        have e5 : s.take j ++ v :: s.drop j = s.take j ++ [v] ++ s.drop j := by rw [List.append_assoc]; rfl
        have hlm : (s.take j).length = j := by rw [List.length_take]; omega
        have hlm2 : (s.take j ++ [v]).length = j + 1 := by rw [List.length_append, hlm]; rfl
        have hlm3 : (s.drop j).length = s.length - j := List.length_drop
        by_cases hj : j < s.length
        · have d1 := decide_eq_true (p := (j : Int) < (s.length : Int)) (by omega)
          have c2 := l06Less_fn (nth (t := tVec) s j) v
          by_cases hlt2 : ltV (nth (t := tVec) s j) v
          · rw [decide_eq_true hlt2] at c2
            try simp (maxSteps := 9999999) only [go_sem, d1]
            repeat refine And.intro (by first|omega|(constructor<;>omega)|kernel_rfl) ?_
            refine CallW.mk (c2) ?_
            try simp (maxSteps := 9999999) only [go_sem]
            repeat refine And.intro (by first|omega|(constructor<;>omega)|kernel_rfl) ?_
            refine LoopK.mk (j + 1) ?_ ⟨by omega, fun j' hj' => ?_⟩ (by omega)
            · refine Wk.mk [] ?_
              try simp (maxSteps := 9999999) only [go_sem]
              try (and_intros <;> first | rfl | omega | exact ⟨_, rfl⟩)
            · by_cases h : j' < j
              · exact k2 j' h
              · rw [show j' = j by omega]; exact hlt2
          · rw [decide_eq_false hlt2] at c2
            have hins := hins fun _ => hlt2
            by_cases he : nth (t := tVec) s j = v
            · have e3 : (decide ((nth (t := tVec) s j).1 = v.1) && decide ((nth (t := tVec) s j).2 = v.2)) = true := by rw [he]; simp
              rw [if_pos ⟨hj, he⟩] at hins
              try simp (maxSteps := 9999999) only [go_sem, d1]
              repeat refine And.intro (by first|omega|(constructor<;>omega)|kernel_rfl) ?_
              refine CallW.mk (c2) ?_
              try simp (maxSteps := 9999999) only [go_sem]
              repeat refine And.intro (by first|omega|(constructor<;>omega)|kernel_rfl) ?_
              try simp (maxSteps := 9999999) only [go_sem, d1, e3]
              repeat refine And.intro (by first|omega|(constructor<;>omega)|kernel_rfl) ?_
              refine LoopK.mk (i + 1) ?_ (by omega) (by omega)
              rw [hst, hins]
              refine Wk.mk [] ?_
              try simp (maxSteps := 9999999) only [go_sem]
              try (and_intros <;> first | rfl | omega | exact ⟨_, rfl⟩)
            · have e3 : (decide ((nth (t := tVec) s j).1 = v.1) && decide ((nth (t := tVec) s j).2 = v.2)) = false := by
                by_cases q1 : (nth (t := tVec) s j).1 = v.1
                · by_cases q2 : (nth (t := tVec) s j).2 = v.2
                  · exact absurd (Prod.ext q1 q2) he
                  · rw [decide_eq_false q2, Bool.and_false]
                · rw [decide_eq_false q1, Bool.false_and]
              rw [if_neg (fun h => he h.2)] at hins
              try simp (maxSteps := 9999999) only [go_sem, d1]
              repeat refine And.intro (by first|omega|(constructor<;>omega)|kernel_rfl) ?_
              refine CallW.mk (c2) ?_
              try simp (maxSteps := 9999999) only [go_sem]
              repeat refine And.intro (by first|omega|(constructor<;>omega)|kernel_rfl) ?_
              try simp (maxSteps := 9999999) only [go_sem, d1, e3]
              repeat refine And.intro (by first|omega|(constructor<;>omega)|kernel_rfl) ?_
              refine SlcW.keep ?_
              try simp (maxSteps := 9999999) only [go_sem]
              repeat refine And.intro (by first|omega|(constructor<;>omega)|kernel_rfl) ?_
              refine SlcW.keep ?_
              try simp (maxSteps := 9999999) only [go_sem, List.take_length]
              repeat refine And.intro (by first|omega|(constructor<;>omega)|kernel_rfl) ?_
              refine LoopK.mk (i + 1) ?_ (by omega) (by omega)
              rw [hst, hins, e5]
              refine Wk.mk [(0, 2)] ?_
              try simp (maxSteps := 9999999) only [go_sem]
              try (and_intros <;> first | rfl | omega | exact ⟨_, rfl⟩)
              all_goals (first | exact ⟨by omega, rfl⟩ | exact ⟨rfl, rfl⟩)
        · have d1 := decide_eq_false (p := (j : Int) < (s.length : Int)) (by omega)
          have hins := hins fun h => absurd h hj
          rw [if_neg (fun h => hj h.1)] at hins
          try simp (maxSteps := 9999999) only [go_sem, d1]
          repeat refine And.intro (by first|omega|(constructor<;>omega)|kernel_rfl) ?_
          try simp (maxSteps := 9999999) only [go_sem, d1]
          repeat refine And.intro (by first|omega|(constructor<;>omega)|kernel_rfl) ?_
          refine SlcW.keep ?_
          try simp (maxSteps := 9999999) only [go_sem]
          repeat refine And.intro (by first|omega|(constructor<;>omega)|kernel_rfl) ?_
          refine SlcW.keep ?_
          try simp (maxSteps := 9999999) only [go_sem, List.take_length]
          repeat refine And.intro (by first|omega|(constructor<;>omega)|kernel_rfl) ?_
          refine LoopK.mk (i + 1) ?_ (by omega) (by omega)
          rw [hst, hins, e5]
          refine Wk.mk [(0, 2)] ?_
          try simp (maxSteps := 9999999) only [go_sem]
          try (and_intros <;> first | rfl | omega | exact ⟨_, rfl⟩)
          all_goals (first | exact ⟨by omega, rfl⟩ | exact ⟨rfl, rfl⟩)
    · have hii : i = l.length := by omega
      subst hii
      rw [srtI_all]
      have hsm : ∀ v ∈ srtD l, okV v = true := fun v hv => hl v (srtD_mem.1 hv)
      have hsl := srtD_len l
      by_cases h3 : (srtD l).length < 3
      · rw [hullD_lt3 h3]
        generalize srtD l = s at h3 hsl ⊢
        have d3 := decide_eq_true (p := (s.length : Int) < 3) (by omega)
        try simp (maxSteps := 9999999) only [go_sem, d3]
      · have hh : hullD l = chD (srtD l) ++ chD (srtD l).reverse := by unfold hullD; rw [if_neg (by omega)]
        rw [hh, chD_take, chD_take]
        generalize srtD l = s at h3 hsl hsm ⊢
        have d3 := decide_eq_false (p := (s.length : Int) < 3) (by omega)
        have hrl : s.reverse.length = s.length := List.length_reverse
        have c3 := l06Chain_fn s hsm (by omega) (by omega)
        have c4 := l06Chain_fn s.reverse (fun v hv => hsm v (List.mem_reverse.1 hv)) (by omega) (by omega)
        try simp (maxSteps := 9999999) only [go_sem, d3]
        repeat refine And.intro (by first|omega|(constructor<;>omega)|kernel_rfl) ?_
        refine LoopG.intro _ _ _ (fun n : Nat => ⟨[(3, .row 0 0), (8, .row 1 0), (9, .sc (.int .i64 ((s.length : Int) - 1 - n)))], [(1, .row 113 tVec 0 true (bkD s n)), (0, .row 113 tVec 0 true s)]⟩) (fun n => n ≤ s.length) (fun n => s.length - n) 0 ?_ (Nat.zero_le _) ?_
        · refine Wk.mk [] ?_
          try simp (maxSteps := 9999999) only [go_sem]
          try (and_intros <;> first | rfl | omega | exact ⟨_, rfl⟩)
        · rintro n hn2
          try simp (maxSteps := 9999999) only [go_sem]
          refine CondW_dec (fun hB => ?_) (fun hB => ?_)
          · have hbl := bkD_len (l := s) (n := n) (by omega)
            have hbs := bkD_step (l := s) (n := n) (by omega)
            have ei : ((s.length : Int) - 1 - n).toNat = s.length - 1 - n := by omega
            try simp (maxSteps := 9999999) only [go_sem]
            repeat refine And.intro (by first|omega|(constructor<;>omega)|kernel_rfl) ?_
            rw [ei]
            try simp (maxSteps := 9999999) only [go_sem, hbl]
            repeat refine And.intro (by first|omega|(constructor<;>omega)|kernel_rfl) ?_
            refine LoopK.mk (n + 1) ?_ (by omega) (by omega)
            rw [hbs]
            refine Wk.mk [] ?_
            try simp (maxSteps := 9999999) only [go_sem]
            try (and_intros <;> first | rfl | omega | exact ⟨_, rfl⟩)
          · rw [bkD_all (by omega)]
            have q1 := chR_len s
            have q2 := chR_pos s (by omega)
            have q3 := chR_len s.reverse
            have q4 := chR_pos s.reverse (by omega)
            have q5 : (chR s).reverse.length = (chR s).length := List.length_reverse
            have q6 : (chR s.reverse).reverse.length = (chR s.reverse).length := List.length_reverse
            generalize (chR s).reverse = lo at c3 q5 ⊢
            generalize (chR s.reverse).reverse = hi at c4 q6 ⊢
            have e7 : ((lo.length : Int) - 1).toNat = lo.length - 1 := by omega
            have e8 : ((hi.length : Int) - 1).toNat = hi.length - 1 := by omega
            have q7 : (lo.take (lo.length - 1)).length = lo.length - 1 := by rw [List.length_take]; omega
            have q8 : (hi.take (hi.length - 1)).length = hi.length - 1 := by rw [List.length_take]; omega
            try simp (maxSteps := 9999999) only [go_sem]
            repeat refine And.intro (by first|omega|(constructor<;>omega)|kernel_rfl) ?_
            refine CallW.mk (c3) ?_
            try simp (maxSteps := 9999999) only [go_sem]
            repeat refine And.intro (by first|omega|(constructor<;>omega)|kernel_rfl) ?_
            refine CallW.mk (c4) ?_
            try simp (maxSteps := 9999999) only [go_sem]
            repeat refine And.intro (by first|omega|(constructor<;>omega)|kernel_rfl) ?_
            refine SlcW.keep ?_
            try simp (maxSteps := 9999999) only [go_sem]
            rw [e7]
            try simp (maxSteps := 9999999) only [go_sem, q7]
            repeat refine And.intro (by first|omega|(constructor<;>omega)|kernel_rfl) ?_
            refine SlcW.keep ?_
            try simp (maxSteps := 9999999) only [go_sem]
            rw [e8]
            try simp (maxSteps := 9999999) only [go_sem, q7, q8]
            repeat refine And.intro (by first|omega|(constructor<;>omega)|kernel_rfl) ?_
            try simp (maxSteps := 9999999) only [go_sem, q7, q8]
            omega
end Go.Proofs.YtghckbohaghgkaaGreat.DW

/-
  Rows of vectors in the words of the kit's sorts: what a row of the walk holds, and what it is when its cells are laid anew. No program here.
-/
namespace Go.Proofs.YtghckbohaghgkaaGreat.DW
open Go.RowKit Go.Sort
def encV (x : Int × Int) : List Value := [.int .i64 x.1, .int .i64 x.2]
theorem rep_vec {w : World} {cs : List Value} {x : DV} {f : List Nat} (h : tVec.rp.rep w cs x f) : cs = encV x ∧ f = [] ∧ I64 x.1 ∧ I64 x.2 := by
  obtain ⟨c1, c2, f1, f2, rfl, rfl, ⟨rfl, rfl, h1⟩, ⟨rfl, rfl, h2⟩⟩ := h
  exact ⟨rfl, rfl, h1, h2⟩
theorem vec_rep {w : World} {x : DV} (h1 : I64 x.1) (h2 : I64 x.2) : tVec.rp.rep w (encV x) x [] :=
  ⟨_, _, [], [], rfl, rfl, ⟨rfl, rfl, h1⟩, ⟨rfl, rfl, h2⟩⟩
theorem vec_size : tVec.rp.size = 2 := rfl
theorem encV_at (x : DV) (j : Nat) (h : j < 2) : (encV x)[j]? = some ((encV x)[j]!) := by
  match j, h with
  | 0, _ => rfl
  | 1, _ => rfl
theorem flat_at (l : List DV) {t : Nat} (h : t < l.length * 2) : (flatK encV 2 l.toArray)[t]! = (encV (l[t / 2]'(by omega)))[t % 2]! := by
  rw [get_flatK encV 2 l.toArray t (by simpa using h)]
  rw [getElem!_pos l.toArray (t / 2) (by simp; omega)]
  rfl
theorem row_in {base : Nat} {w : World} {e : TypeId} {v : Value} {l : List DV} {fps : List (List Nat)} (h : GrowF tVec.rp base w e v l fps) (h0 : 0 < l.length) :
    ∃ g cap cur, v = .slice (some ⟨g, 0, none⟩) l.length cap ∧ base ≤ g ∧ w.heap[g]? = some (.cells cur e (0, 0)) ∧ l.length ≤ cap ∧ cap ≤ maxLen ∧ cur.size = cap * 2 ∧ HoldsK encV 2 w g 0 l.toArray ∧ ∀ x ∈ l, I64 x.1 ∧ I64 x.2 := by
  obtain ⟨xs, ⟨hxl, hor⟩, hfl, he⟩ := h
  rcases hor with ⟨_, hn⟩ | ⟨g, cap, cur, hv, hb, hg, hnc, hcm, hcs, htk⟩
  · omega
  rw [vec_size] at hxl hcs htk
  refine ⟨g, cap, cur, hv, hb, hg, hnc, hcm, hcs, fun j hj => ?_, fun x hx => ?_⟩
  · have hj2 : j < l.length * 2 := by simpa using hj
    refine ⟨?_, frozen_of_row w g _ cur e hg⟩
    rw [Nat.zero_add, cell_of_row w g j cur e (0, 0) hg, ← Array.getElem?_toList]
    show _ = some ((flatK encV 2 l.toArray)[j]!)
    rw [flat_at l hj2]
    obtain ⟨f, cs, _, h2, h3⟩ := he (j / 2) (l[j / 2]'(by omega)) (List.getElem?_eq_getElem _)
    obtain ⟨rfl, _⟩ := rep_vec h2
    have := h3 (j % 2) _ (encV_at _ (j % 2) (by omega))
    rw [vec_size, show j / 2 * 2 + j % 2 = j by omega, ← htk, List.getElem?_take, if_pos hj2] at this
    exact this
  · obtain ⟨i, hi, rfl⟩ := List.getElem_of_mem hx
    obtain ⟨f, cs, _, h2, _⟩ := he i l[i] (List.getElem?_eq_getElem hi)
    exact (rep_vec h2).2.2
theorem row_out {base : Nat} {w w' : World} {e : TypeId} {g cap n : Nat} {cur : Array Value} {os : Array Obj} {d : List DV} (hb : base ≤ g) (hg : w.heap[g]? = some (.cells cur e (0, 0))) (hcs : cur.size = cap * 2) (hcm : cap ≤ maxLen) (hd : d.length ≤ cap) (hI : ∀ x ∈ d, I64 x.1 ∧ I64 x.2) (m : Nat) (hm : m ≤ d.length)
    (hw : w' = sortWorldK encV 2 w g 0 n d.toArray os) :
    GrowF tVec.rp base w' e (.slice (some ⟨g, 0, none⟩) m cap) (d.take m) (List.replicate m []) ∧ w.grownBy w' (some g) := by
  have hgs : g < w.heap.size := (Array.getElem?_eq_some_iff.1 hg).1
  have hg' : w'.heap[g]? = some (.cells (Go.Sort.putCells id 0 (flatK encV 2 d.toArray) cur) e (0, 0)) := by
    subst hw
    unfold sortWorldK putRowK putRow mapBlock grow
    have hsz : g < (Sort.ahead w n).heap.size := hgs
    simp only [heap_ahead]
    rw [Array.getElem?_append_left (by rw [Array.size_modify]; exact hgs), Array.getElem?_modify, if_pos rfl, hg]
    rfl
  have hlt : (d.take m).length = m := by rw [List.length_take]; omega
  have hcell : ∀ t, t < d.length * 2 → (Go.Sort.putCells id 0 (flatK encV 2 d.toArray) cur).toList[t]? = some ((flatK encV 2 d.toArray)[t]!) := by
    intro t ht
    rw [Array.getElem?_toList]
    unfold Go.Sort.putCells
    rw [Array.getElem?_mapIdx, Array.getElem?_eq_getElem (by omega : t < cur.size), Option.map_some, if_pos ⟨Nat.zero_le _, by rw [size_flatK]; simpa using ht⟩]
    rfl
  have hps : (Go.Sort.putCells id 0 (flatK encV 2 d.toArray) cur).size = cap * 2 := by unfold Go.Sort.putCells; rw [Array.size_mapIdx, hcs]
  refine ⟨⟨(Go.Sort.putCells id 0 (flatK encV 2 d.toArray) cur).toList.take (m * 2), ⟨?_, .inr ⟨g, cap, _, ?_, hb, hg', ?_, hcm, hps, ?_⟩⟩, ?_, fun i x hx => ?_⟩, ?_⟩
  · rw [hlt, vec_size, List.length_take, Array.length_toList, hps]; omega
  · rw [hlt]
  · rw [hlt]; omega
  · rw [hlt, vec_size]
  · rw [hlt, List.length_replicate]
  · have hi : i < m := by have := (List.getElem?_eq_some_iff.1 hx).1; omega
    rw [List.getElem?_take, if_pos hi] at hx
    obtain ⟨hid, hx⟩ := List.getElem?_eq_some_iff.1 hx
    subst hx
    obtain ⟨i1, i2⟩ := hI _ (List.getElem_mem hid)
    refine ⟨[], encV d[i], by simp [hi], vec_rep i1 i2, fun j v hj => ?_⟩
    have hj2 : j < 2 := (List.getElem?_eq_some_iff.1 hj).1
    rw [vec_size, List.getElem?_take, if_pos (by omega), hcell _ (by omega), flat_at d (by omega)]
    have e1 : (i * 2 + j) / 2 = i := by omega
    have e2 : (i * 2 + j) % 2 = j := by omega
    simp only [e1, e2]
    rw [← encV_at _ j hj2, hj]
  · subst hw
    refine ⟨rfl, rfl, rfl, ?_, fun k hk hne => ?_⟩
    · rw [sortWorldK, size_grow]
      have : (putRowK encV 2 (Sort.ahead w n) g 0 d.toArray).heap.size = w.heap.size := by unfold putRowK; rw [size_putRow]; rfl
      omega
    · have hkg : g ≠ k := fun h => hne (by rw [h])
      unfold sortWorldK putRowK putRow mapBlock grow
      simp only [heap_ahead]
      rw [Array.getElem?_append_left (by rw [Array.size_modify]; exact hk), Array.getElem?_modify, if_neg hkg]
/-- A function that lays a row's cells anew, and hands back what is left of it. -/
theorem FnR.of {P : Program} {f : FuncId} {xs : List Cst} {e : TypeId} {l l' : List DV} (he : ∀ vs w, (callFunc f vs).run P w = .ok (.enter f vs) w) (h0 : 0 < l.length) (ret : Bool) (d : (∀ x ∈ l, I64 x.1 ∧ I64 x.2) → ∀ (w : World) (g cap : Nat), g < w.heap.size → l.length ≤ cap → cap ≤ maxLen → HoldsK encV 2 w g 0 l.toArray →
      Calls P f (.slice (some ⟨g, 0, none⟩) l.length cap :: xs.map Cst.val).toArray w fun en w' => ∃ (dd : List DV) (n : Nat) (os : Array Obj), en = .returned (if ret then .slice (some ⟨g, 0, none⟩) l'.length cap else .tuple #[]) ∧ (ret = false → l'.length = l.length) ∧ dd.length = l.length ∧ (∀ x ∈ dd, x ∈ l ∨ x = (0, 0)) ∧ l' = dd.take l'.length ∧ l'.length ≤ dd.length ∧ w' = sortWorldK encV 2 w g 0 n dd.toArray os) : FnR P f xs e tVec l l' ret := by
  refine ⟨he, rfl, fun w base v fps hone hgr => ?_⟩
  obtain ⟨g, cap, cur, rfl, hb, hg, hnc, hcm, hcs, hH, hI⟩ := row_in hgr h0
  refine (d hI w g cap (Array.getElem?_eq_some_iff.1 hg).1 hnc hcm hH).mono ?_
  rintro en w' ⟨dd, n, os, h1, h2, h3, h4, h5, h6, h7⟩
  have hI2 : ∀ x ∈ dd, I64 x.1 ∧ I64 x.2 := fun x hx => by
    rcases h4 x hx with h | rfl
    · exact hI x h
    · exact ⟨(by show I64 0; unfold I64; omega), (by show I64 0; unfold I64; omega)⟩
  obtain ⟨k1, k2⟩ := row_out (base := base) hb hg hcs hcm (by omega) hI2 l'.length h6 h7
  rw [← h5] at k1
  exact ⟨.slice (some ⟨g, 0, none⟩) l'.length cap, _, h1, fun hr => by rw [h2 hr], rfl, rfl, k1, k2⟩
end Go.Proofs.YtghckbohaghgkaaGreat.DW

/-
  Library functions at vectors: their bodies are those that the kit has proved things about.
-/
namespace Go.Proofs.YtghckbohaghgkaaGreat.DW
open Go.RowKit Go.Shelf
def sortL_ren : Go.Shelf.Ren := ⟨fun | 6 => 206 | 14 => 234 | 15 => 235 | 20 => 247 | 21 => 248 | 22 => 249 | 23 => 250 | 24 => 251 | 25 => 252 | 26 => 253 | 27 => 254 | 28 => 255 | 29 => 256 | 46 => 260 | 47 => 261 | 48 => 262 | 49 => 263 | 50 => 264 | 57 => 265 | n => n, fun | 0 => 0 | 3 => 3 | 4 => 4 | 5 => 5 | 9 => 9 | 22 => 37 | 23 => 185 | 24 => 113 | 25 => 186 | 39 => 195 | 45 => 199 | 46 => 200 | 47 => 201 | 50 => 176 | 53 => 206 | 55 => 208 | 66 => 210 | 70 => 214 | 76 => 217 | 77 => 218 | n => n, fun n => n⟩
theorem sortL : SlLaysF0.n6 Tryz.prog sortL_ren where
  mixed := by kernel_rfl
  f6 := ⟨"slices.SortFunc[[]loop.example/g00811/impl.Vec,loop.example/g00811/impl.Vec]", by decide, Tryz.func206.trans (congrArg some (by kernel_rfl))⟩
  f14 := ⟨"slices.pdqsortCmpFunc[loop.example/g00811/impl.Vec]", by decide, Tryz.func234.trans (congrArg some (by kernel_rfl))⟩
  f15 := Tryz.func235.trans (congrArg some (by kernel_rfl))
  f20 := ⟨"slices.insertionSortCmpFunc[loop.example/g00811/impl.Vec]", by decide, Tryz.func247.trans (congrArg some (by kernel_rfl))⟩
  f21 := ⟨"slices.heapSortCmpFunc[loop.example/g00811/impl.Vec]", by decide, Tryz.func248.trans (congrArg some (by kernel_rfl))⟩
  f22 := ⟨"slices.breakPatternsCmpFunc[loop.example/g00811/impl.Vec]", by decide, Tryz.func249.trans (congrArg some (by kernel_rfl))⟩
  f23 := ⟨"slices.choosePivotCmpFunc[loop.example/g00811/impl.Vec]", by decide, Tryz.func250.trans (congrArg some (by kernel_rfl))⟩
  f24 := ⟨"slices.reverseRangeCmpFunc[loop.example/g00811/impl.Vec]", by decide, Tryz.func251.trans (congrArg some (by kernel_rfl))⟩
  f25 := ⟨"slices.partialInsertionSortCmpFunc[loop.example/g00811/impl.Vec]", by decide, Tryz.func252.trans (congrArg some (by kernel_rfl))⟩
  f26 := ⟨"slices.partitionEqualCmpFunc[loop.example/g00811/impl.Vec]", by decide, Tryz.func253.trans (congrArg some (by kernel_rfl))⟩
  f27 := ⟨"slices.partitionCmpFunc[loop.example/g00811/impl.Vec]", by decide, Tryz.func254.trans (congrArg some (by kernel_rfl))⟩
  f28 := Tryz.func255.trans (congrArg some (by kernel_rfl))
  f29 := Tryz.func256.trans (congrArg some (by kernel_rfl))
  f46 := ⟨"slices.siftDownCmpFunc[loop.example/g00811/impl.Vec]", by decide, Tryz.func260.trans (congrArg some (by kernel_rfl))⟩
  f47 := Tryz.func261.trans (congrArg some (by kernel_rfl))
  f48 := Tryz.func262.trans (congrArg some (by kernel_rfl))
  f49 := ⟨"slices.medianAdjacentCmpFunc[loop.example/g00811/impl.Vec]", by decide, Tryz.func263.trans (congrArg some (by kernel_rfl))⟩
  f50 := ⟨"slices.medianCmpFunc[loop.example/g00811/impl.Vec]", by decide, Tryz.func264.trans (congrArg some (by kernel_rfl))⟩
  f57 := ⟨"slices.order2CmpFunc[loop.example/g00811/impl.Vec]", by decide, Tryz.func265.trans (congrArg some (by kernel_rfl))⟩
  t0 := Tryz.underlying0
  a0 := Tryz.isAgg0
  z0 := Tryz.sizeOf0
  v0 := Tryz.zeroValue0
  t3 := Tryz.underlying3
  a3 := Tryz.isAgg3
  z3 := Tryz.sizeOf3
  v3 := Tryz.zeroValue3
  t4 := Tryz.underlying4
  a4 := Tryz.isAgg4
  z4 := Tryz.sizeOf4
  v4 := Tryz.zeroValue4
  t5 := Tryz.underlying5
  a5 := Tryz.isAgg5
  z5 := Tryz.sizeOf5
  v5 := Tryz.zeroValue5
  t9 := Tryz.underlying9
  a9 := Tryz.isAgg9
  z9 := Tryz.sizeOf9
  v9 := Tryz.zeroValue9
  t22 := Tryz.underlying37
  a22 := Tryz.isAgg37
  z22 := Tryz.sizeOf37
  v22 := Tryz.zeroValue37
  t25 := Tryz.underlying186
  a25 := Tryz.isAgg186
  z25 := Tryz.sizeOf186
  v25 := Tryz.zeroValue186
  t39 := Tryz.underlying195
  a39 := Tryz.isAgg195
  z39 := Tryz.sizeOf195
  v39 := Tryz.zeroValue195
  t45 := Tryz.underlying199
  a45 := Tryz.isAgg199
  z45 := Tryz.sizeOf199
  v45 := Tryz.zeroValue199
  t46 := Tryz.underlying200
  a46 := Tryz.isAgg200
  z46 := Tryz.sizeOf200
  v46 := Tryz.zeroValue200
  t50 := Tryz.underlying176
  a50 := Tryz.isAgg176
  z50 := Tryz.sizeOf176
  v50 := Tryz.zeroValue176
  t53 := Tryz.underlying206
  a53 := Tryz.isAgg206
  z53 := Tryz.sizeOf206
  v53 := Tryz.zeroValue206
  t55 := Tryz.underlying208
  a55 := Tryz.isAgg208
  z55 := Tryz.sizeOf208
  v55 := Tryz.zeroValue208
  t66 := Tryz.underlying210
  a66 := Tryz.isAgg210
  z66 := Tryz.sizeOf210
  v66 := Tryz.zeroValue210
  t70 := Tryz.underlying214
  a70 := Tryz.isAgg214
  z70 := Tryz.sizeOf214
  v70 := Tryz.zeroValue214
  t76 := Tryz.underlying217
  a76 := Tryz.isAgg217
  z76 := Tryz.sizeOf217
  v76 := Tryz.zeroValue217
  t77 := Tryz.underlying218
  a77 := Tryz.isAgg218
  z77 := Tryz.sizeOf218
  v77 := Tryz.zeroValue218
def revL_ren : Go.Shelf.Ren := ⟨fun | 35 => 210 | n => n, fun | 0 => 0 | 3 => 3 | 4 => 4 | 22 => 37 | 23 => 113 | n => n, fun n => n⟩
theorem revL : SlLaysE0.n35 Tryz.prog revL_ren where
  mixed := by kernel_rfl
  f35 := ⟨"slices.Reverse[[]loop.example/g00811/impl.Vec,loop.example/g00811/impl.Vec]", by decide, Tryz.func210.trans (congrArg some (by kernel_rfl))⟩
  t0 := Tryz.underlying0
  a0 := Tryz.isAgg0
  z0 := Tryz.sizeOf0
  v0 := Tryz.zeroValue0
  t3 := Tryz.underlying3
  a3 := Tryz.isAgg3
  z3 := Tryz.sizeOf3
  v3 := Tryz.zeroValue3
  t4 := Tryz.underlying4
  a4 := Tryz.isAgg4
  z4 := Tryz.sizeOf4
  v4 := Tryz.zeroValue4
  t22 := Tryz.underlying37
  a22 := Tryz.isAgg37
  z22 := Tryz.sizeOf37
  v22 := Tryz.zeroValue37
end Go.Proofs.YtghckbohaghgkaaGreat.DW

/-
  slices.SortFunc and slices.Reverse at vectors, as functions that turn a row.
-/
namespace Go.Proofs.YtghckbohaghgkaaGreat.DW
open Go.RowKit Go.Sort Go.Shelf
/-- A valid vector. -/
abbrev OV := { v : DV // okV v = true }
instance : Inhabited OV := ⟨⟨(0, 0), by decide⟩⟩
def encO (x : OV) : List Value := encV x.1
def cfO (x y : OV) : Int := cfV x.1 y.1
set_option maxRecDepth 100000 in
set_option maxHeartbeats 1000000 in
theorem compareVecs_any (a b : DV) (ha : okV a = true) (hb : okV b = true) (W : World) : Calls Tryz.prog 207 #[.agg #[.int .i64 a.1, .int .i64 a.2], .agg #[.int .i64 b.1, .int .i64 b.2]] W fun e w' => e = .returned (.int .i64 (cfV a b)) ∧ ∃ q os', w' = grow (W.drewN q) os' := by
  obtain ⟨a1, a2⟩ := a
  obtain ⟨b1, b2⟩ := b
  obtain ⟨p1, p2, p3, p4⟩ := okV_b ha
  obtain ⟨q1, q2, q3, q4⟩ := okV_b hb
  simp only at p1 p2 p3 p4 q1 q2 q3 q4
  clear ha hb
  unfold cfV
  by_cases h : a1 = b1
  · subst h
    simp only [if_true]
    go_enter Tryz.func207, Tryz.ntmps207
    go_wp2
    go_ret
    exact ⟨rfl, 0, _, by rw [alloc_eq_grow, alloc_eq_grow, grow_grow]; rfl⟩
  · simp only [h, if_false]
    go_enter Tryz.func207, Tryz.ntmps207
    go_wp2
    go_ret
    exact ⟨rfl, 0, _, by rw [alloc_eq_grow, alloc_eq_grow, grow_grow]; rfl⟩
theorem cmpLays (blk off size : Nat) (w : World) : CmpLays Tryz.prog 207 #[] encO 2 cfO blk off size w :=
  fun _ _ _ _ x y => compareVecs_any x.1 y.1 x.2 y.2 _
theorem flat_val (d : List OV) : flatK encO 2 d.toArray = flatK encV 2 (d.map Subtype.val).toArray := by
  refine ext_get! (by simp) fun t ht => ?_
  have ht' : t < d.length * 2 := by simpa using ht
  rw [get_flatK _ _ _ t (by simpa using ht'), get_flatK _ _ _ t (by simpa using ht'), getElem!_pos d.toArray (t / 2) (by simp; omega), getElem!_pos (d.map Subtype.val).toArray (t / 2) (by simp; omega), List.getElem_toArray, List.getElem_toArray, List.getElem_map]
  rfl
theorem swoO : SWO (ltOf cfO) where
  irrefl x := by
    have := cfV_lt x.1 x.1
    show decide (cfV x.1 x.1 < 0) = false
    rw [decide_eq_false_iff_not, this]
    exact ltV_irrefl _
  trans x y z h1 h2 := by
    have h1 := (cfV_lt x.1 y.1).1 (of_decide_eq_true h1)
    have h2 := (cfV_lt y.1 z.1).1 (of_decide_eq_true h2)
    exact decide_eq_true ((cfV_lt x.1 z.1).2 (ltV_trans h1 h2))
  ntrans x y z h1 h2 := by
    have h1 := fun h => of_decide_eq_false h1 ((cfV_lt x.1 y.1).2 h)
    have h2 := fun h => of_decide_eq_false h2 ((cfV_lt y.1 z.1).2 h)
    refine decide_eq_false fun h => ?_
    have h := (cfV_lt x.1 z.1).1 h
    rcases ltV_tri x.1 y.1 with k | k | k
    · exact h1 k
    · exact h2 (k ▸ h)
    · exact h2 (ltV_trans k h)
theorem totO (x y : OV) (h1 : (ltOf cfO) x y = false) (h2 : (ltOf cfO) y x = false) : x = y := by
  have h1 := fun h => of_decide_eq_false h1 ((cfV_lt x.1 y.1).2 h)
  have h2 := fun h => of_decide_eq_false h2 ((cfV_lt y.1 x.1).2 h)
  rcases ltV_tri x.1 y.1 with k | k | k
  · exact (h1 k).elim
  · exact Subtype.ext k
  · exact (h2 k).elim
theorem exO : ∀ l : List DV, (∀ v ∈ l, okV v = true) → ∃ d : List OV, d.map Subtype.val = l
  | [], _ => ⟨[], rfl⟩
  | v :: l, h => by
    obtain ⟨d, hd⟩ := exO l fun x hx => h x (List.mem_cons_of_mem _ hx)
    exact ⟨⟨v, h v List.mem_cons_self⟩ :: d, by rw [List.map_cons, hd]⟩
theorem sort_fn (l : List DV) (hl : ∀ v ∈ l, okV v = true) (h0 : 0 < l.length) (hn : l.length ≤ 1048576) : FnR Tryz.prog 206 [.fn 207] 113 tVec l (l.mergeSort leB) false := by
  obtain ⟨d, rfl⟩ := exO l hl
  refine FnR.of (enters_of Tryz.func206 (by kernel_rfl) rfl) h0 false fun hI w g cap hg hc hcm hH => ?_
  have hH' : HoldsK encO 2 w g 0 d.toArray := by unfold HoldsK; rw [flat_val]; exact hH
  have hdl : d.toArray.size = (d.map Subtype.val).length := by simp
  have eg : ∀ args w, (callFunc 207 args).run Tryz.prog w = .ok (.enter 207 args) w := enters_of Tryz.func207 (by kernel_rfl) rfl
  have hcon := AnyQ.slices_SortFunc_total sortL 2 Tryz.isAgg113 Tryz.sizeOf113 encO (fun _ => rfl) (fun x v hv => by simp [encO, encV] at hv; rcases hv with rfl | rfl <;> rfl) cfO swoO 207 #[] g 0 cap d.toArray w eg (cmpLays g 0 _ w) hH' hg (by rw [hdl]; omega) totO
  rw [hdl] at hcon
  have hms : ((d.mergeSort fun x y => !(ltOf cfO) y x).map Subtype.val) = (d.map Subtype.val).mergeSort leB := List.map_mergeSort fun a _ b _ => rfl
  refine Calls.mono hcon ?_
  rintro e w' ⟨rfl, n, os, rfl⟩
  refine ⟨(d.map Subtype.val).mergeSort leB, n, os, rfl, fun _ => List.length_mergeSort _, List.length_mergeSort _, fun x hx => .inl ((List.mergeSort_perm _ _).mem_iff.1 hx), (List.take_length ..).symm, Nat.le_refl _, ?_⟩
  unfold sortWorldK putRowK
  rw [← hms, ← flat_val]
theorem reverse_fn (l : List DV) (h0 : 0 < l.length) (hn : l.length ≤ 1048576) : FnR Tryz.prog 210 [] 113 tVec l l.reverse false := by
  refine FnR.of (enters_of Tryz.func210 (by kernel_rfl) rfl) h0 false fun hI w g cap hg hc hcm hH => ?_
  have hcon := AnyQ.slices_Reverse revL 2 Tryz.isAgg113 Tryz.sizeOf113 encV (fun _ => rfl) (fun x v hv => by simp [encV] at hv; rcases hv with rfl | rfl <;> rfl) g 0 cap l.toArray w hH (by simp; omega)
  have hdl : l.toArray.size = l.length := by simp
  rw [hdl] at hcon
  refine Calls.mono hcon ?_
  rintro e w' ⟨rfl, n, rfl⟩
  refine ⟨l.reverse, n, #[], rfl, fun _ => List.length_reverse, List.length_reverse, fun x hx => .inl (List.mem_reverse.1 hx), (List.take_length ..).symm, Nat.le_refl _, ?_⟩
  unfold sortWorldK
  rw [grow_empty, List.reverse_toArray]
end Go.Proofs.YtghckbohaghgkaaGreat.DW

/-
  A list of vectors without repetitions next to each other: the kit's word and mine. No program here.
-/
namespace Go.Proofs.YtghckbohaghgkaaGreat.DW
open Go.RowKit Go.Sort Go.Lib
theorem cmpD_snoc (y x : DV) : ∀ l : List DV, cmpD (l ++ [y, x]) = cmpD (l ++ [y]) ++ (if y = x then [] else [x])
  | [] => by
    show (if y = x then cmpD [x] else y :: cmpD [x]) = [y] ++ _
    by_cases h : y = x
    · rw [if_pos h, if_pos h, h]; rfl
    · rw [if_neg h, if_neg h]; rfl
  | [a] => by
    show (if a = y then cmpD [y, x] else a :: cmpD [y, x]) = (if a = y then cmpD [y] else a :: cmpD [y]) ++ _
    have ih := cmpD_snoc y x []
    simp only [List.nil_append] at ih
    by_cases h : a = y
    · rw [if_pos h, if_pos h, ih]
    · rw [if_neg h, if_neg h, ih]; rfl
  | a :: b :: l => by
    show (if a = b then cmpD (b :: (l ++ [y, x])) else a :: cmpD (b :: (l ++ [y, x]))) = (if a = b then cmpD (b :: (l ++ [y])) else a :: cmpD (b :: (l ++ [y]))) ++ _
    have ih := cmpD_snoc y x (b :: l)
    simp only [List.cons_append] at ih
    by_cases h : a = b
    · rw [if_pos h, if_pos h, ih]
    · rw [if_neg h, if_neg h, ih]; rfl
theorem cpt_take (l : List DV) : ∀ m, m ≤ l.length → compactUpTo l.toArray m = cmpD (l.take m)
  | 0, _ => rfl
  | 1, h => by
    rw [compactUpTo_succ, keeps_lt_one _ 0 (by decide), if_pos rfl]
    have e : l.take 1 = [l[0]'(by omega)] := by rw [List.take_add_one, List.getElem?_eq_getElem (by omega)]; rfl
    rw [e, getElem!_pos l.toArray 0 (by simp; omega)]
    rfl
  | m + 2, h => by
    have ih := cpt_take l (m + 1) (by omega)
    have e1 : l.take (m + 1) = l.take m ++ [l[m]'(by omega)] := by rw [List.take_add_one, List.getElem?_eq_getElem (by omega)]; rfl
    have e2 : l.take (m + 2) = l.take m ++ [l[m]'(by omega), l[m + 1]'(by omega)] := by
      rw [List.take_add_one, List.getElem?_eq_getElem (by omega), e1, List.append_assoc]; rfl
    rw [compactUpTo_succ, ih, e2, cmpD_snoc, e1]
    have g1 : l.toArray[m + 1]! = l[m + 1]'(by omega) := by rw [getElem!_pos l.toArray (m + 1) (by simp; omega)]; rfl
    have g0 : l.toArray[m + 1 - 1]! = l[m]'(by omega) := by rw [Nat.add_sub_cancel, getElem!_pos l.toArray m (by simp; omega)]; rfl
    by_cases h2 : l[m]'(by omega) = l[m + 1]'(by omega)
    · rw [keeps_neg (by omega) (by rw [g1, g0, h2]), if_pos h2]; rfl
    · rw [keeps_pos (by rw [g1, g0]; exact fun h => h2 h.symm), if_neg h2, if_pos rfl, g1]
theorem cpt_all (l : List DV) : compactUpTo l.toArray l.length = cmpD l := by
  rw [cpt_take l _ (Nat.le_refl _), List.take_length]
/-- A store of an element. -/
theorem setMany_one (d : Array DV) {i : Nat} (hi : i < d.size) (x : DV) : setMany (flatK encV 2 d) (i * 2) (encV x) = flatK encV 2 (d.setIfInBounds i x) := by
  refine ext_get! (by simp) fun t ht => ?_
  have ht' : t < d.size * 2 := by simpa using ht
  rw [get_setMany _ _ _ t (by simpa using ht'), get_flatK _ _ _ t ht', get_flatK _ _ _ t (by simpa using ht')]
  show (if i * 2 ≤ t ∧ t < i * 2 + 2 then _ else _) = _
  by_cases h : t / 2 = i
  · rw [if_pos ⟨by omega, by omega⟩]
    subst h
    rw [getElem!_set_same d _ x hi, show t - t / 2 * 2 = t % 2 by omega]
  · rw [if_neg (by omega), getElem!_set_other d i _ x h]
/-- The rest of a row, cleared. -/
theorem setMany_zero (d : Array DV) {k : Nat} (hk : k ≤ d.size) (r : List DV) (hr : r.length = k) (hlow : ∀ j, j < k → r[j]? = some d[j]!) :
    setMany (flatK encV 2 d) (k * 2) (List.replicate ((d.size - k) * 2) (.int .i64 0)) = flatK encV 2 (r ++ List.replicate (d.size - k) (0, 0)).toArray := by
  have hsz : (r ++ List.replicate (d.size - k) ((0 : Int), (0 : Int))).toArray.size = d.size := by simp [hr]; omega
  refine ext_get! (by rw [size_setMany, size_flatK, size_flatK, hsz]) fun t ht => ?_
  have ht' : t < d.size * 2 := by simpa using ht
  rw [get_setMany _ _ _ t (by simpa using ht'), get_flatK _ _ _ t ht', get_flatK _ _ _ t (by rw [hsz]; exact ht'), List.length_replicate]
  by_cases h : t / 2 < k
  · rw [if_neg (by omega)]
    have h1 := hlow _ h
    have h2 : (r ++ List.replicate (d.size - k) ((0 : Int), (0 : Int))).toArray[t / 2]! = d[t / 2]! := by
      rw [getElem!_pos _ _ (by rw [hsz]; omega)]
      rw [List.getElem_toArray, List.getElem_append_left (by omega)]
      rw [List.getElem?_eq_getElem (by omega)] at h1
      injection h1
    rw [h2]
  · rw [if_pos ⟨by omega, by omega⟩]
    have h2 : (r ++ List.replicate (d.size - k) ((0 : Int), (0 : Int))).toArray[t / 2]! = (0, 0) := by
      rw [getElem!_pos _ _ (by rw [hsz]; omega)]
      rw [List.getElem_toArray, List.getElem_append_right (by omega), List.getElem_replicate]
    rw [h2, getElem!_pos _ _ (by simp; omega), List.getElem_replicate]
    have h3 : t % 2 = 0 ∨ t % 2 = 1 := by omega
    rcases h3 with h3 | h3 <;> rw [h3] <;> rfl
end Go.Proofs.YtghckbohaghgkaaGreat.DW

/-
  slices.Compact at vectors, walked (after the kit's proof at elements of one cell).
-/
namespace Go.Proofs.YtghckbohaghgkaaGreat.DW
open Go.RowKit Go.Sort Go.Lib
theorem vecT : vecTy Tryz.prog 113 = true := by kernel_rfl
/-- 'clear(s)', s a slice of n > 0 vectors. -/
theorem run_clear_vec (w : World) (ty : TypeId) (b o n c : Nat) (hn : 0 < n)
    (hc : ∀ j, j < n * 2 → (w.cell? ⟨b, o + j, none⟩).isSome = true) (hf : ∀ j, j < n * 2 → w.frozen? ⟨b, o + j, none⟩ = false) :
    (Builtin.clear_ #[37] ty #[.slice (some ⟨b, o, none⟩) n c]).run Tryz.prog w = .ok (.tuple #[]) (w.setCells b o (List.replicate (n * 2) (.int .i64 0))) := by
  have hzc : (Builtin.zeroCells (Value.agg #[.int .i64 0, .int .i64 0]).cells n).toList = List.replicate (n * 2) (.int .i64 0) := by
    apply List.ext_getElem
    · simp [Builtin.zeroCells, Value.cells]
    · intro i h1 h2
      simp only [Builtin.zeroCells, Value.cells, Array.toList_map, Array.toList_range, List.getElem_map, List.getElem_range, List.getElem_replicate]
      have : i % 2 = 0 ∨ i % 2 = 1 := by omega
      show (#[Value.int .i64 0, Value.int .i64 0])[i % 2]! = _
      rcases this with h | h <;> rw [h] <;> rfl
  have hst := run_storeCells_cells (P := Tryz.prog) b o (List.replicate (n * 2) (.int .i64 0)) 0 w (by simpa using hc) (by simpa using hf) (by intro v hv'; rw [List.eq_of_mem_replicate hv']; rfl)
  simp only [Nat.add_zero] at hst
  obtain ⟨m, rfl⟩ : ∃ m, n = m + 1 := ⟨n - 1, by omega⟩
  have hz := Tryz.zeroValue113
  have hu := Tryz.underlying37
  simp [Builtin.clear_, run_underlying hu, hz, hzc, hst]
theorem store_world_v {w wr : World} {n blk off : Nat} {dk : Array DV} {i : Nat} (hi : i < dk.size) (hwr : wr = putRowK encV 2 (Sort.ahead w n) blk off dk) (a b : Int) :
    ((wr.setCell ⟨blk, off + i * 2, none⟩ (.int .i64 a)).setCell ⟨blk, off + i * 2 + 1, none⟩ (.int .i64 b)).drew = putRowK encV 2 (Sort.ahead w (n + 1)) blk off (dk.setIfInBounds i (a, b)) := by
  subst hwr
  have h := setCells_putRow (Sort.ahead w n) blk off (encV (a, b)) (i * 2) (flatK encV 2 dk) (by rw [size_flatK]; show i * 2 + 2 ≤ _; omega)
  rw [setMany_one dk hi (a, b)] at h
  have h2 : ((putRowK encV 2 (Sort.ahead w n) blk off dk).setCell ⟨blk, off + i * 2, none⟩ (.int .i64 a)).setCell ⟨blk, off + i * 2 + 1, none⟩ (.int .i64 b) = putRow id (Sort.ahead w n) blk off (flatK encV 2 (dk.setIfInBounds i (a, b))) := h
  rw [h2, putRow_drew, ahead_drew]
  rfl
set_option maxRecDepth 100000 in
set_option maxHeartbeats 4000000 in
theorem compact_any (blk off cap : Nat) (d : Array DV) (w : World) (hH : HoldsK encV 2 w blk off d) (hsz : d.size ≤ 9223372036854775807) (hcap : d.size ≤ cap) :
    Calls Tryz.prog 208 #[.slice (some ⟨blk, off, none⟩) d.size cap] w fun e w' => e = .returned (.slice (some ⟨blk, off, none⟩) (compactUpTo d d.size).length cap) ∧ ∃ q, w' = putRowK encV 2 (Sort.ahead w q) blk off (compactUpTo d d.size ++ List.replicate (d.size - (compactUpTo d d.size).length) (0, 0)).toArray := by
  have heq' : ∀ (a b c d : Int) (w : World), Sem.run Tryz.prog (binOp .eql 113 (.agg #[.int .i64 a, .int .i64 b]) (.agg #[.int .i64 c, .int .i64 d])) w = .ok (.bool (decide (a = c) && decide (b = d))) w := fun a b c d w => by rw [run_eql_struct, vec_eq vecT]; rfl
  have hne' : ∀ (a b c d : Int) (w : World), Sem.run Tryz.prog (binOp .neq 113 (.agg #[.int .i64 a, .int .i64 b]) (.agg #[.int .i64 c, .int .i64 d])) w = .ok (.bool (!(decide (a = c) && decide (b = d)))) w := fun a b c d w => by rw [run_neq_struct, vec_eq vecT]; rfl
  have hgd' : ∀ (op : BinOp) (x y : Operand) (a b c d : Int) (w : World), Sem.run Tryz.prog (eqGuard op 113 x y (.agg #[.int .i64 a, .int .i64 b]) (.agg #[.int .i64 c, .int .i64 d])) w = .ok () w := fun op x y a b c d w => run_eqGuard_agg w op _ x y _ _ (vecTy_g vecT)
  have same : ∀ q, (∀ j, j < d.size → keeps d j = true) → (compactUpTo d d.size).length = d.size ∧ w.drewN q = putRowK encV 2 (Sort.ahead w q) blk off (compactUpTo d d.size ++ List.replicate (d.size - (compactUpTo d d.size).length) (0, 0)).toArray := by
    intro q hall
    have e : compactUpTo d d.size = d.toList := by rw [compactUpTo_all d _ hall, range_map_get]
    rw [e]
    refine ⟨by simp, ?_⟩
    simp only [Array.length_toList, Nat.sub_self, List.replicate_zero, List.append_nil, Array.toArray_toList]
    exact (putRowK_self encV 2 (Sort.ahead w q) blk off d (holdsK_ahead encV 2 w q blk off d hH)).symm
  have HS : Aside (∀ q, (∀ j, j < d.size → keeps d j = true) → (compactUpTo d d.size).length = d.size ∧ w.drewN q = putRowK encV 2 (Sort.ahead w q) blk off (compactUpTo d d.size ++ List.replicate (d.size - (compactUpTo d d.size).length) (0, 0)).toArray) := same
  clear same
  have mixed : Tryz.prog.follows .mixedOrders = true := mixes
  have encat : ∀ x : DV, (encV x)[0]! = .int .i64 x.1 ∧ (encV x)[1]! = .int .i64 x.2 := fun x => ⟨rfl, rfl⟩
  by_cases h2 : d.size < 2
  · have HH : Aside (HoldsK encV 2 w blk off d) := hH
    clear hH
    go_enter Tryz.func208, Tryz.ntmps208
    go_wp2
    go_ret
    obtain ⟨e1, e2⟩ := HS.out 0 (fun j hj => keeps_lt_one d j (by omega))
    exact ⟨by rw [e1]; rfl, 0, e2⟩
  · go_enter Tryz.func208, Tryz.ntmps208
    go_wp2
    go_loopg [3] d.size (fun g s3 wr => ∃ k q : Nat, 1 ≤ k ∧ k ≤ d.size ∧ d.size - k ≤ g ∧ s3 = .int .i64 k ∧ wr = w.drewN q ∧ ∀ j, j < k → keeps d j = true)
    case atStart => exact ⟨1, 0, Nat.le_refl _, by omega, by omega, rfl, rfl, keeps_lt_one d⟩
    case round =>
      obtain ⟨k, q, hk1, hk, hg, rfl, rfl, hall⟩ := hrel
      by_cases hlt : k < d.size
      · obtain ⟨c1, f1⟩ := hH.cell hlt (c := 0) (by decide)
        obtain ⟨c1', f1'⟩ := hH.cell hlt (c := 1) (by decide)
        obtain ⟨c0, f0⟩ := hH.cell (i := k - 1) (by omega) (c := 0) (by decide)
        obtain ⟨c0', f0'⟩ := hH.cell (i := k - 1) (by omega) (c := 1) (by decide)
        rw [(encat _).1] at c1 c0
        rw [(encat _).2] at c1' c0'
        rw [Nat.add_zero] at c1 c0 f1 f0
        have A : Aside (∀ j, j < k → keeps d j = true) := hall
        have HH : Aside (HoldsK encV 2 w blk off d) := hH
        clear hall hH
        generalize hx : d[k]! = x at c1 c1'
        generalize hy : d[k - 1]! = y at c0 c0'
        have B : Aside (d[k]! = x ∧ d[k - 1]! = y) := ⟨hx, hy⟩
        clear hx hy
        obtain ⟨x1, x2⟩ := x
        obtain ⟨y1, y2⟩ := y
        simp only at c1 c1' c0 c0'
        have hbe : (decide (x1 = y1) && decide (x2 = y2)) = decide ((x1, x2) = (y1, y2)) := by
          by_cases e1 : x1 = y1 <;> by_cases e2 : x2 = y2 <;> simp [e1, e2]
        by_cases hdup : ((x1, x2) : DV) = (y1, y2)
        · injection hdup with h1 h2'
          subst h1 h2'
          go_wp2_with fail
          go_region_o
          go_wp2
          clear c0 c1 c0' c1' f0 f1 f0' f1'
          go_loopg [3, 5] d.size (fun g s3 s5 wr => ∃ (kk k2 q2 : Nat) (dk : Array DV), s3 = .int .i64 kk ∧ s5 = .int .i64 k2 ∧ 1 ≤ k2 ∧ k + k2 ≤ d.size ∧ d.size - (k + k2) ≤ g ∧ wr = putRowK encV 2 (Sort.ahead w q2) blk off dk ∧ CompInv d (k + k2) kk dk)
          case atStart => exact ⟨k, 1, q + 1, d, rfl, rfl, Nat.le_refl _, by omega, by omega, (putRowK_self encV 2 (Sort.ahead w (q + 1)) blk off d (holdsK_ahead encV 2 w (q + 1) blk off d HH.out)).symm, CompInv.start A.out (keeps_neg (by omega) (by rw [B.out.1, B.out.2]))⟩
          case round =>
            obtain ⟨kk, k2, q2, dk, rfl, rfl, h1, hle, hg2, hwr, hI⟩ := hrel
            have hkk := hI.lt
            have hds := hI.size
            have hHk : HoldsK encV 2 wr blk off dk := by rw [hwr]; exact holdsK_putRowK encV 2 _ blk off d dk (holdsK_ahead encV 2 w q2 blk off d HH.out) hds
            have W2 : Aside (wr = putRowK encV 2 (Sort.ahead w q2) blk off dk) := hwr
            have I2 : Aside (CompInv d (k + k2) kk dk) := hI
            clear hwr
            by_cases hlt2 : k + k2 < d.size
            · obtain ⟨cm, _⟩ := hHk.cell (i := k + k2) (by omega) (c := 0) (by decide)
              obtain ⟨cm', _⟩ := hHk.cell (i := k + k2) (by omega) (c := 1) (by decide)
              obtain ⟨cp, _⟩ := hHk.cell (i := k + k2 - 1) (by omega) (c := 0) (by decide)
              obtain ⟨cp', _⟩ := hHk.cell (i := k + k2 - 1) (by omega) (c := 1) (by decide)
              obtain ⟨ck, fk⟩ := hHk.cell (i := kk) (by omega) (c := 0) (by decide)
              obtain ⟨ck', fk'⟩ := hHk.cell (i := kk) (by omega) (c := 1) (by decide)
              rw [hI.high (k + k2) (by omega), (encat _).1, show off + (k + k2) * 2 + 0 = off + k * 2 + k2 * 2 by omega] at cm
              rw [hI.high (k + k2) (by omega), (encat _).2, show off + (k + k2) * 2 + 1 = off + k * 2 + k2 * 2 + 1 by omega] at cm'
              rw [hI.high (k + k2 - 1) (by omega), (encat _).1, show off + (k + k2 - 1) * 2 + 0 = off + k * 2 + (k2 - 1) * 2 by omega] at cp
              rw [hI.high (k + k2 - 1) (by omega), (encat _).2, show off + (k + k2 - 1) * 2 + 1 = off + k * 2 + (k2 - 1) * 2 + 1 by omega] at cp'
              rw [(encat _).1, Nat.add_zero] at ck
              rw [(encat _).2] at ck'
              rw [Nat.add_zero] at fk
              clear hHk hI
              generalize hu : d[k + k2]! = u at cm cm'
              generalize hv : d[k + k2 - 1]! = v at cp cp'
              generalize dk[kk]! = old at ck ck'
              have C : Aside (d[k + k2]! = u ∧ d[k + k2 - 1]! = v) := ⟨hu, hv⟩
              clear hu hv
              obtain ⟨u1, u2⟩ := u
              obtain ⟨v1, v2⟩ := v
              obtain ⟨o1, o2⟩ := old
              simp only at cm cm' cp cp' ck ck'
              by_cases huv : ((u1, u2) : DV) = (v1, v2)
              · injection huv with e1 e2
                subst e1 e2
                go_wp2_with fail
                go_region_o
                go_wp2
                go_roundg (d.size - (k + (k2 + 1)))
                case measure => omega
                case rel => exact ⟨kk, k2 + 1, q2 + 1, dk, rfl, by go_num, by omega, by omega, Nat.le_refl _, by rw [W2.out]; rfl, I2.out.skip (keeps_neg (by omega) (by rw [C.out.1, C.out.2]))⟩
              · have huv2 : ¬ (u1 = v1 ∧ u2 = v2) := fun h => huv (by rw [h.1, h.2])
                have hbe2 : (decide (u1 = v1) && decide (u2 = v2)) = false := by
                  by_cases e1 : u1 = v1 <;> by_cases e2 : u2 = v2 <;> simp [e1, e2] <;> exact huv2 ⟨e1, e2⟩
                have HU : Aside (¬ ((u1, u2) : DV) = (v1, v2)) := huv
                clear huv huv2
                go_wp2_with fail
                go_region_o
                go_wp2
                go_roundg (d.size - (k + (k2 + 1)))
                case measure => omega
                case rel => exact ⟨kk + 1, k2 + 1, q2 + 1, dk.setIfInBounds kk (u1, u2), by go_num, by go_num, by omega, by omega, Nat.le_refl _, store_world_v (by omega) W2.out u1 u2, by have := I2.out.keep hlt2 (keeps_pos (by rw [C.out.1, C.out.2]; exact HU.out)); rwa [C.out.1] at this⟩
            · have hend : k + k2 = d.size := by omega
              have hcl : ∀ ty, (Builtin.clear_ #[37] ty #[.slice (some ⟨blk, off + kk * 2, none⟩) (d.size - kk) (cap - kk)]).run Tryz.prog wr = .ok (.tuple #[]) (wr.setCells blk (off + kk * 2) (List.replicate ((d.size - kk) * 2) (.int .i64 0))) :=
                fun ty => run_clear_vec wr ty blk (off + kk * 2) _ _ (by omega) (fun j hj => by
                  have h := (hHk (kk * 2 + j) (by simp [hds]; omega)).1
                  rw [show off + kk * 2 + j = off + (kk * 2 + j) by omega, h]; rfl) (fun j hj => by
                  have h := (hHk (kk * 2 + j) (by simp [hds]; omega)).2
                  rw [show off + kk * 2 + j = off + (kk * 2 + j) by omega]; exact h)
              clear hHk hI
              go_wp2
              go_ret
              have hI := I2.out
              rw [hend] at hI
              refine ⟨by rw [hI.len]; rfl, q2, ?_⟩
              have hz := setMany_zero dk (k := kk) (by omega) (compactUpTo d d.size) hI.len hI.low
              rw [hI.len, W2.out]
              unfold putRowK
              rw [setCells_putRow _ _ _ _ _ _ (by rw [size_flatK, List.length_replicate]; omega), show d.size - kk = dk.size - kk by rw [hds], hz]
        · have hbe2 : (decide (x1 = y1) && decide (x2 = y2)) = false := by rw [hbe]; exact decide_eq_false hdup
          have HD : Aside (¬ ((x1, x2) : DV) = (y1, y2)) := hdup
          clear hdup hbe
          go_wp2_with fail
          go_region_o
          go_wp2
          go_roundg (d.size - (k + 1))
          case measure => omega
          case rel =>
            refine ⟨k + 1, q + 1, by omega, by omega, Nat.le_refl _, by go_num, rfl, fun j hj => ?_⟩
            by_cases e : j = k
            · subst e
              exact keeps_pos (by rw [B.out.1, B.out.2]; exact HD.out)
            · exact A.out j (by omega)
      · have : k = d.size := by omega
        subst this
        have HH : Aside (HoldsK encV 2 w blk off d) := hH
        clear hH
        go_wp2
        go_ret
        obtain ⟨e1, e2⟩ := HS.out q hall
        exact ⟨by rw [e1]; rfl, q, e2⟩
theorem compact_fn (l : List DV) (h0 : 0 < l.length) (hn : l.length ≤ 1048576) : FnR Tryz.prog 208 [] 113 tVec l (cmpD l) true := by
  refine FnR.of (enters_of Tryz.func208 (by kernel_rfl) rfl) h0 true fun hI w g cap hg hc hcm hH => ?_
  have hcon := compact_any g 0 cap l.toArray w hH (by simp; omega) (by simpa using hc)
  have hdl : l.toArray.size = l.length := by simp
  rw [hdl, cpt_all] at hcon
  refine Calls.mono hcon ?_
  rintro e w' ⟨rfl, n, rfl⟩
  have hcl := cmpD_len (l := l)
  refine ⟨cmpD l ++ List.replicate (l.length - (cmpD l).length) (0, 0), n, #[], rfl, (fun h => by cases h), ?_, fun x hx => ?_, ?_, ?_, ?_⟩
  · rw [List.length_append, List.length_replicate]; omega
  · rcases List.mem_append.1 hx with h | h
    · exact .inl (cmpD_mem.1 h)
    · exact .inr (List.eq_of_mem_replicate h)
  · rw [List.take_left']; rfl
  · rw [List.length_append]; omega
  · unfold sortWorldK
    rw [grow_empty]
end Go.Proofs.YtghckbohaghgkaaGreat.DW

/-
  The hull, the program's.
-/
namespace Go.Proofs.YtghckbohaghgkaaGreat.DW
open Go.RowKit
theorem cloneV_fn (l : List DV) (h0 : 0 < l.length) (hn : l.length ≤ 1048576) : FnG Tryz.prog 205 [⟨.slice tVec, l⟩] 113 tVec l := by
  refine fnG_enter tabOK mixes Tryz.func205 rfl rfl _ Tryz.ntmps205 _ Tryz.results205 (by simp) fun hwf => ?_
  try simp (maxSteps := 9999999) only [go_sem]
  refine NilW.non (by intro e; rw [e] at h0; simp at h0) ?_
  try simp (maxSteps := 9999999) only [go_sem]
  repeat refine And.intro (by first|omega|(constructor<;>omega)|kernel_rfl) ?_
  exact ⟨0, 1, rfl, rfl⟩
theorem HullOf_fn (l : List DV) (hl : ∀ v ∈ l, okV v = true) (h0 : 0 < l.length) (hn : l.length ≤ 64) : Fn Tryz.prog 167 [⟨.slice tVec, l⟩] true [⟨.slice tVec, hullD l⟩] := by
  have c1 := areVecs_fn l
  rw [any_okV_f hl] at c1
  have d0 := decide_eq_false (p := (l.length : Int) > 64) (by omega)
  have c2 := cloneV_fn l h0 (by omega)
  have c3 := sort_fn l hl h0 (by omega)
  have hml : (l.mergeSort leB).length = l.length := List.length_mergeSort _
  have c4 := compact_fn (l.mergeSort leB) (by omega) (by omega)
  have hsl := srtD_len l
  have hsm : ∀ v ∈ srtD l, okV v = true := fun v hv => hl v (srtD_mem.1 hv)
  have hcs : cmpD (l.mergeSort leB) = srtD l := rfl
  rw [hcs] at c4
  refine fn_enter tabOK mixes Tryz.func167 rfl rfl _ Tryz.ntmps167 _ Tryz.results167 (by simp) fun hwf => ?_
  try simp (maxSteps := 9999999) only [go_sem, d0]
  repeat refine And.intro (by first|omega|(constructor<;>omega)|kernel_rfl) ?_
  refine CallW.mk (c1) ?_
  try simp (maxSteps := 9999999) only [go_sem]
  repeat refine And.intro (by first|omega|(constructor<;>omega)|kernel_rfl) ?_
  refine CallW.g (c2) ?_
  try simp (maxSteps := 9999999) only [go_sem]
  repeat refine And.intro (by first|omega|(constructor<;>omega)|kernel_rfl) ?_
  refine CallW.r (k := 0) (ver := 0) (o := true) (c3) ?_
  try simp (maxSteps := 9999999) only [go_sem]
  repeat refine And.intro (by first|omega|(constructor<;>omega)|kernel_rfl) ?_
  refine CallW.r (k := 0) (ver := 0) (o := true) (c4) ?_
  try simp (maxSteps := 9999999) only [go_sem]
  refine CondW_dec (fun hA => ?_) (fun hA => ?_)
  · have hh : hullD l = srtD l := by unfold hullD; rw [if_pos (by omega)]
    rw [hh]
    try simp (maxSteps := 9999999) only [go_sem]
  · have hh : hullD l = chD (srtD l) ++ chD (srtD l).reverse := by unfold hullD; rw [if_neg (by omega)]
    rw [hh]
    generalize srtD l = s at hsl hsm hA ⊢
    have c5 := chain_fn s hsm (by omega) (by omega)
    have c6 := reverse_fn s (by omega) (by omega)
    have hrl : s.reverse.length = s.length := List.length_reverse
    have c7 := chain_fn s.reverse (fun v hv => hsm v (List.mem_reverse.1 hv)) (by omega) (by omega)
    have q1 := chR_len s
    have q2 := chR_len s.reverse
    have q3 : (chD s).length ≤ s.length := by unfold chD; rw [List.length_dropLast, List.length_reverse]; omega
    have q4 : (chD s.reverse).length ≤ s.length := by unfold chD; rw [List.length_dropLast, List.length_reverse]; omega
    try simp (maxSteps := 9999999) only [go_sem]
    repeat refine And.intro (by first|omega|(constructor<;>omega)|kernel_rfl) ?_
    refine CallW.g (c5) ?_
    try simp (maxSteps := 9999999) only [go_sem]
    repeat refine And.intro (by first|omega|(constructor<;>omega)|kernel_rfl) ?_
    refine CallW.r (k := 0) (ver := 1) (o := true) (c6) ?_
    try simp (maxSteps := 9999999) only [go_sem]
    repeat refine And.intro (by first|omega|(constructor<;>omega)|kernel_rfl) ?_
    refine CallW.g (c7) ?_
    try simp (maxSteps := 9999999) only [go_sem]
    repeat refine And.intro (by first|omega|(constructor<;>omega)|kernel_rfl) ?_
    omega
end Go.Proofs.YtghckbohaghgkaaGreat.DW

/-
  Cross products; the chain along a sorted list bends to the left, and all its points lie left of each of its edges. No program here.
-/
namespace Go.Proofs.YtghckbohaghgkaaGreat.DW
open Go.RowKit
def crs (u v : DV) : Int := u.1 * v.2 - u.2 * v.1
def dt (u v : DV) : Int := u.1 * v.1 + u.2 * v.2
def sbV (a b : DV) : DV := (a.1 - b.1, a.2 - b.2)
/-- To the right, or straight up. -/
def Rt (d : DV) : Prop := 0 < d.1 ∨ d.1 = 0 ∧ 0 < d.2
theorem Rt_of {a b : DV} (h : ltV a b) : Rt (sbV b a) := by unfold ltV at h; unfold Rt sbV; simp only; omega
theorem crs_nn {u v w : DV} (hu : Rt u) (hv : Rt v) (hw : Rt w) (h1 : 0 ≤ crs u v) (h2 : 0 ≤ crs v w) : 0 ≤ crs u w := by
  have key : v.1 * crs u w = u.1 * crs v w + w.1 * crs u v := by unfold crs; grind
  have u1 : 0 ≤ u.1 := by unfold Rt at hu; omega
  have w1 : 0 ≤ w.1 := by unfold Rt at hw; omega
  rcases hv with hv | ⟨hv, hv2⟩
  · by_cases hc : 0 ≤ crs u w
    · exact hc
    · have h3 := Int.mul_neg_of_pos_of_neg hv (show crs u w < 0 by omega)
      have h4 := Int.mul_nonneg u1 h2
      have h5 := Int.mul_nonneg w1 h1
      omega
  · have e : crs v w = -(v.2 * w.1) := by unfold crs; rw [hv]; grind
    have hw0 : w.1 = 0 := by
      by_cases hp : 0 < w.1
      · have := Int.mul_pos hv2 hp
        omega
      · omega
    have hw2 : 0 < w.2 := by unfold Rt at hw; omega
    have e2 : crs u w = u.1 * w.2 := by unfold crs; rw [hw0]; grind
    rw [e2]
    exact Int.mul_nonneg u1 (Int.le_of_lt hw2)
theorem crs_sw (u v : DV) : crs u v = - crs v u := by unfold crs; grind
theorem crs_pn {u v w : DV} (hu : Rt u) (hv : Rt v) (hw : Rt w) (h1 : 0 < crs u v) (h2 : 0 ≤ crs v w) : 0 < crs u w := by
  have h3 := crs_nn hu hv hw (Int.le_of_lt h1) h2
  by_cases hc : crs u w = 0
  · have h4 := crs_nn hv hw hu h2 (by rw [crs_sw]; omega)
    rw [crs_sw] at h4
    omega
  · omega
theorem crs_np {u v w : DV} (hu : Rt u) (hv : Rt v) (hw : Rt w) (h1 : 0 ≤ crs u v) (h2 : 0 < crs v w) : 0 < crs u w := by
  have h3 := crs_nn hu hv hw h1 (Int.le_of_lt h2)
  by_cases hc : crs u w = 0
  · have h4 := crs_nn hw hu hv (by rw [crs_sw]; omega) h1
    rw [crs_sw] at h4
    omega
  · omega
theorem trn_crs (a b c : DV) : trn a b c = crs (sbV b a) (sbV c a) := rfl
theorem trn_crs2 (a b c : DV) : trn a b c = crs (sbV b a) (sbV c b) := by unfold trn crs sbV; grind
theorem trn_add (a b x y : DV) : trn a b y = crs (sbV b a) (sbV y x) + trn a b x := by unfold trn crs sbV; grind
theorem trn_aa (a b : DV) : trn a b a = 0 := by unfold trn; grind
theorem trn_bb (a b : DV) : trn a b b = 0 := by unfold trn; grind
/-- The edges of a chain, its last point first. -/
def edg : List DV → List (DV × DV)
  | b :: a :: l => (a, b) :: edg (a :: l)
  | _ => []
def dir (e : DV × DV) : DV := sbV e.2 e.1
theorem edg_cons {v b : DV} {l : List DV} : edg (v :: b :: l) = (b, v) :: edg (b :: l) := rfl
theorem edg_mem : ∀ {r : List DV} {e : DV × DV}, e ∈ edg r → e.1 ∈ r ∧ e.2 ∈ r
  | [], e, h => by simp [edg] at h
  | [a], e, h => by simp [edg] at h
  | b :: a :: l, e, h => by
    rw [edg_cons] at h
    rcases List.mem_cons.1 h with rfl | h
    · exact ⟨by simp, by simp⟩
    · obtain ⟨h1, h2⟩ := edg_mem h
      exact ⟨List.mem_cons_of_mem _ h1, List.mem_cons_of_mem _ h2⟩
/-- A chain of points, its last point first: it goes up, bends to the left; the points of P lie left of its edges, or on them. -/
structure ChOK (P : DV → Prop) (r : List DV) : Prop where
  desc : r.Pairwise (fun x y => ltV y x)
  cvx : (edg r).Pairwise (fun e f => 0 < crs (dir f) (dir e))
  low : ∀ e ∈ edg r, ∀ p, P p → 0 ≤ trn e.1 e.2 p
  str : ∀ e ∈ edg r, ∀ x ∈ r, x = e.1 ∨ x = e.2 ∨ 0 < trn e.1 e.2 x
  sub : ∀ x ∈ r, P x
theorem edg_lt : ∀ {r : List DV} {e : DV × DV}, r.Pairwise (fun x y => ltV y x) → e ∈ edg r → ltV e.1 e.2
  | [], e, _, h => by simp [edg] at h
  | [a], e, _, h => by simp [edg] at h
  | b :: a :: l, e, hd, h => by
    rw [edg_cons] at h
    rw [List.pairwise_cons] at hd
    rcases List.mem_cons.1 h with rfl | h
    · exact hd.1 a (by simp)
    · exact edg_lt hd.2 h
theorem ChOK.tail {P : DV → Prop} {b : DV} {l : List DV} (h : ChOK P (b :: l)) : ChOK P l := by
  have hd := (List.pairwise_cons.1 h.desc).2
  cases l with
  | nil => exact ⟨List.Pairwise.nil, List.Pairwise.nil, (fun e he => by simp [edg] at he), (fun e he => by simp [edg] at he), (fun x hx => by simp at hx)⟩
  | cons a l =>
    have hc := h.cvx
    rw [edg_cons] at hc
    exact ⟨hd, (List.pairwise_cons.1 hc).2, fun e he => h.low e (by rw [edg_cons]; exact List.mem_cons_of_mem _ he), fun e he x hx => h.str e (by rw [edg_cons]; exact List.mem_cons_of_mem _ he) x (List.mem_cons_of_mem _ hx), fun x hx => h.sub x (List.mem_cons_of_mem _ hx)⟩
/-- What taking points away leaves. -/
structure Popped (P : DV → Prop) (v : DV) (r : List DV) (b : DV) (l : List DV) : Prop where
  ok : ChOK P (b :: l)
  last : ∀ x, r.getLast? = some x → (b :: l).getLast? = some x
  stop : ∀ a l', l = a :: l' → 0 < trn a b v
  gone : (∃ l', r = b :: l') ∨ ∃ c, ltV b c ∧ P c ∧ trn b c v ≤ 0 ∧ ∀ p, P p → 0 ≤ trn b c p
theorem popD_ok {P : DV → Prop} {v : DV} : ∀ {r : List DV} {b0 : DV} {l0 : List DV}, r = b0 :: l0 → ChOK P r → ∃ b l, popD v r = b :: l ∧ Popped P v r b l
  | [], _, _, h, _ => by cases h
  | [a], _, _, _, hc => ⟨a, [], rfl, hc, fun x hx => hx, (fun a l' h => by cases h), .inl ⟨[], rfl⟩⟩
  | b :: a :: l, _, _, _, hc => by
    by_cases ht : trn a b v ≤ 0
    · obtain ⟨b', l', e, hp⟩ := popD_ok (v := v) (r := a :: l) rfl hc.tail
      refine ⟨b', l', by rw [popD, if_pos ht]; exact e, hp.ok, fun x hx => hp.last x (by rw [List.getLast?_cons_cons] at hx; exact hx), hp.stop, .inr ?_⟩
      rcases hp.gone with ⟨l2, h2⟩ | h2
      · injection h2 with h2 _
        subst h2
        exact ⟨b, (List.pairwise_cons.1 hc.desc).1 a (by simp), hc.sub b (by simp), ht, fun p hp => hc.low (a, b) (by rw [edg_cons]; simp) p hp⟩
      · exact h2
    · exact ⟨b, a :: l, by rw [popD, if_neg ht], hc, fun x hx => hx, (fun a' l' h => by injection h with h _; subst h; omega), .inl ⟨a :: l, rfl⟩⟩
/-- One more point, right of all. -/
theorem push_ok {P : DV → Prop} {v b m : DV} {r l : List DV} (hp : Popped P v r b l) (hv : ∀ p, P p → ltV p v) (hm : r.getLast? = some m) (hmin : ∀ p, P p → p = m ∨ ltV m p) (htop : ∀ t l', r = t :: l' → ∀ p, P p → p = t ∨ ltV p t) :
    ChOK (fun p => p = v ∨ P p) (v :: b :: l) := by
  have hb : P b := hp.ok.sub b (by simp)
  have hbv := hv b hb
  have rv := Rt_of hbv
  have hml := hp.last m hm
  -- points left of b
  have left : ∀ p, P p → ltV p b → 0 < trn b v p := by
    intro p hP hlt
    cases l with
    | nil =>
      simp at hml
      subst hml
      rcases hmin p hP with rfl | h
      · exact absurd hlt (ltV_irrefl _)
      · exact absurd hlt (ltV_asymm h)
    | cons a l' =>
      have h1 := hp.stop a l' rfl
      have h2 := hp.ok.low (a, b) (by rw [edg_cons]; simp) p hP
      have hab := (List.pairwise_cons.1 hp.ok.desc).1 a (by simp)
      rw [trn_crs2] at h1 h2
      have h3 : 0 ≤ crs (sbV b p) (sbV b a) := by
        have : crs (sbV b p) (sbV b a) = crs (sbV b a) (sbV p b) := by unfold crs sbV; grind
        rw [this]; exact h2
      have h4 := crs_np (Rt_of hlt) (Rt_of hab) rv h3 h1
      have : trn b v p = crs (sbV b p) (sbV v b) := by unfold trn crs sbV; grind
      rw [this]; exact h4
  have all : ∀ p, P p → 0 ≤ trn b v p := by
    intro p hP
    rcases ltV_tri p b with h | h | h
    · exact Int.le_of_lt (left p hP h)
    · subst h; rw [trn_aa]; exact Int.le_refl _
    · rcases hp.gone with ⟨l', hr⟩ | ⟨c, h1, h2, h3, h4⟩
      · rcases htop b l' hr p hP with rfl | h5
        · exact absurd h (ltV_irrefl _)
        · exact absurd h (ltV_asymm h5)
      · have h5 := h4 p hP
        rw [trn_crs] at h3 h5
        rw [trn_crs]
        exact crs_nn rv (Rt_of h1) (Rt_of h) (by rw [crs_sw]; omega) h5
  -- the old edges and the new one
  have bend : ∀ f ∈ edg (b :: l), 0 < crs (dir f) (sbV v b) := by
    intro f hf
    cases l with
    | nil => simp [edg] at hf
    | cons a l' =>
      have h1 := hp.stop a l' rfl
      rw [trn_crs2] at h1
      have hab := (List.pairwise_cons.1 hp.ok.desc).1 a (by simp)
      have hc := hp.ok.cvx
      rw [edg_cons] at hc hf
      rcases List.mem_cons.1 hf with rfl | hf
      · exact h1
      · have h2 := (List.pairwise_cons.1 hc).1 f hf
        have h3 := edg_lt (List.pairwise_cons.1 hp.ok.desc).2 hf
        exact crs_pn (Rt_of h3) (Rt_of hab) rv h2 (Int.le_of_lt h1)
  have oldv : ∀ f ∈ edg (b :: l), 0 < trn f.1 f.2 v := by
    intro f hf
    have h1 := bend f hf
    have h2 := hp.ok.low f hf b hb
    rw [trn_add f.1 f.2 b v]
    unfold dir at h1
    omega
  refine ⟨List.pairwise_cons.2 ⟨fun x hx => hv x (hp.ok.sub x hx), hp.ok.desc⟩, ?_, ?_, ?_, ?_⟩
  · rw [edg_cons]
    exact List.pairwise_cons.2 ⟨fun f hf => bend f hf, hp.ok.cvx⟩
  · intro e he p hP
    rw [edg_cons] at he
    rcases List.mem_cons.1 he with rfl | he2
    · rcases hP with rfl | hP
      · show 0 ≤ trn b p p; rw [trn_bb]; exact Int.le_refl _
      · exact all p hP
    · rcases hP with rfl | hP
      · exact Int.le_of_lt (oldv e he2)
      · exact hp.ok.low e he2 p hP
  · intro e he x hx
    rw [edg_cons] at he
    rcases List.mem_cons.1 he with rfl | he2
    · rcases List.mem_cons.1 hx with rfl | hx
      · exact .inr (.inl rfl)
      · rcases List.mem_cons.1 hx with rfl | hx
        · exact .inl rfl
        · exact .inr (.inr (left x (hp.ok.sub x (List.mem_cons_of_mem _ hx)) ((List.pairwise_cons.1 hp.ok.desc).1 x hx)))
    · rcases List.mem_cons.1 hx with rfl | hx
      · exact .inr (.inr (oldv e he2))
      · exact hp.ok.str e he2 x hx
  · intro x hx
    rcases List.mem_cons.1 hx with rfl | hx
    · exact .inl rfl
    · exact .inr (hp.ok.sub x hx)
/-- The chain along a sorted list. -/
theorem chR_ok : ∀ (n : Nat) {l : List DV}, l.length = n + 1 → l.Pairwise ltV →
    ∃ t r, chR l = t :: r ∧ (chR l).getLast? = l.head? ∧ l.getLast? = some t ∧ ChOK (fun p => p ∈ l) (chR l)
  | 0, l, hl, hs => by
    match l, hl with
    | [a], _ => exact ⟨a, [], rfl, rfl, rfl, ⟨List.pairwise_singleton _ _, List.Pairwise.nil, (fun e he => by simp [chR, popD, edg] at he), (fun e he => by simp [chR, popD, edg] at he), fun x hx => hx⟩⟩
  | n + 1, l, hl, hs => by
    obtain ⟨l', v, rfl⟩ : ∃ l' v, l = l' ++ [v] := ⟨l.dropLast, l.getLast (by intro h; rw [h] at hl; simp at hl), (List.dropLast_concat_getLast _).symm⟩
    have hl' : l'.length = n + 1 := by simp at hl; omega
    rw [List.pairwise_append] at hs
    obtain ⟨hs1, _, hs3⟩ := hs
    obtain ⟨t, r, e1, e2, e3, hc⟩ := chR_ok n hl' hs1
    have hst : chR (l' ++ [v]) = v :: popD v (chR l') := by unfold chR; rw [List.foldl_append]; rfl
    obtain ⟨b, q, e4, hp⟩ := popD_ok (v := v) e1 hc
    obtain ⟨m, l2, rfl⟩ : ∃ m l2, l' = m :: l2 := by
      cases l' with
      | nil => simp at hl'
      | cons m l2 => exact ⟨m, l2, rfl⟩
    have hlast : (chR (m :: l2)).getLast? = some m := e2
    have hpush := push_ok hp (fun p hpm => hs3 p hpm v (by simp)) hlast (fun p hpm => by
      rcases List.mem_cons.1 hpm with h | h
      · exact .inl h
      · exact .inr ((List.pairwise_cons.1 hs1).1 p h)) (fun t' l3 ht p hpm => by
      rw [e1] at ht
      injection ht with ht _
      subst ht
      have hgl : (m :: l2).getLast? = some t := e3
      obtain ⟨ys, hys⟩ := List.getLast?_eq_some_iff.1 hgl
      rw [hys] at hpm hs1
      rw [List.pairwise_append] at hs1
      rcases List.mem_append.1 hpm with h | h
      · exact .inr (hs1.2.2 p h t (by simp))
      · exact .inl (by simpa using h))
    refine ⟨v, popD v (chR (m :: l2)), hst, ?_, List.getLast?_concat, ?_⟩
    · rw [hst, e4, List.getLast?_cons_cons, hp.last m hlast]; rfl
    · rw [hst, e4]
      refine ⟨hpush.desc, hpush.cvx, fun e he p hpm => hpush.low e he p ?_, hpush.str, fun x hx => ?_⟩
      · rcases List.mem_append.1 hpm with h | h
        · exact .inr h
        · exact .inl (by simpa using h)
      · rcases hpush.sub x hx with rfl | h
        · simp
        · exact List.mem_append.2 (.inl h)
end Go.Proofs.YtghckbohaghgkaaGreat.DW

/-
  The hull of a sorted list: two chains make a polygon that bends to the left everywhere. No program here.
-/
namespace Go.Proofs.YtghckbohaghgkaaGreat.DW
open Go.RowKit
def ngV (v : DV) : DV := (-v.1, -v.2)
theorem ngV_ngV (v : DV) : ngV (ngV v) = v := by unfold ngV; simp
theorem trn_ng (a b c : DV) : trn (ngV a) (ngV b) (ngV c) = trn a b c := by unfold trn ngV; grind
theorem ltV_ng {a b : DV} : ltV (ngV a) (ngV b) ↔ ltV b a := by unfold ltV ngV; simp only; omega
theorem popD_ng (v : DV) : ∀ r : List DV, popD (ngV v) (r.map ngV) = (popD v r).map ngV
  | [] => rfl
  | [a] => rfl
  | b :: a :: l => by
    have ih := popD_ng v (a :: l)
    simp only [List.map_cons] at ih ⊢
    rw [popD, popD, trn_ng]
    split
    · exact ih
    · rfl
theorem chR_ng (l : List DV) : chR (l.map ngV) = (chR l).map ngV := by
  unfold chR
  have : ∀ (l s : List DV), (l.map ngV).foldl (fun c v => v :: popD v c) (s.map ngV) = (l.foldl (fun c v => v :: popD v c) s).map ngV := by
    intro l
    induction l with
    | nil => intro s; rfl
    | cons a l ih =>
      intro s
      rw [List.map_cons, List.foldl_cons, List.foldl_cons, popD_ng]
      exact ih (a :: popD a s)
  exact this l []
def ngE (e : DV × DV) : DV × DV := (ngV e.1, ngV e.2)
theorem edg_ng : ∀ r : List DV, edg (r.map ngV) = (edg r).map ngE
  | [] => rfl
  | [a] => rfl
  | b :: a :: l => by
    have ih := edg_ng (a :: l)
    simp only [List.map_cons] at ih ⊢
    rw [edg_cons, edg_cons, ih]; rfl
theorem edg_ng_mem {r : List DV} {e : DV × DV} (h : e ∈ edg r) : ngE e ∈ edg (r.map ngV) := by rw [edg_ng]; exact List.mem_map_of_mem h
theorem map_ng_ng (r : List DV) : (r.map ngV).map ngV = r := by
  rw [List.map_map, show (ngV ∘ ngV) = id from funext ngV_ngV, List.map_id]
/-- A point of a chain is its first one, its last one, or between two edges. -/
theorem inner_of {P : DV → Prop} {x : DV} : ∀ {r : List DV}, ChOK P r → x ∈ r → r.head? = some x ∨ r.getLast? = some x ∨ ∃ p q, (p, x) ∈ edg r ∧ (x, q) ∈ edg r ∧ 0 < crs (sbV x p) (sbV q x)
  | [], _, h => by simp at h
  | [a], _, h => by simp at h; subst h; exact .inl rfl
  | q :: y :: l, hc, h => by
    rcases List.mem_cons.1 h with rfl | h
    · exact .inl rfl
    · rcases inner_of hc.tail h with h1 | h1 | ⟨p, q', h1, h2, h3⟩
      · simp at h1
        subst h1
        cases l with
        | nil => exact .inr (.inl rfl)
        | cons p l =>
          have hcv := hc.cvx
          rw [edg_cons, edg_cons] at hcv
          refine .inr (.inr ⟨p, q, by rw [edg_cons, edg_cons]; simp, by rw [edg_cons]; simp, ?_⟩)
          exact (List.pairwise_cons.1 hcv).1 (p, y) (by simp)
      · exact .inr (.inl (by rw [List.getLast?_cons_cons]; exact h1))
      · exact .inr (.inr ⟨p, q', by rw [edg_cons]; exact List.mem_cons_of_mem _ h1, by rw [edg_cons]; exact List.mem_cons_of_mem _ h2, h3⟩)
/-- The inner points of one chain lie strictly left of the edges of the other. -/
theorem cross_str {P : DV → Prop} {R R' : List DV} (h : ChOK P R) (h' : ChOK (fun p => P (ngV p)) (R'.map ngV)) {x : DV} (hx : x ∈ R') :
    R'.head? = some x ∨ R'.getLast? = some x ∨ ∀ e ∈ edg R, 0 < trn e.1 e.2 x := by
  have hx' : ngV x ∈ R'.map ngV := List.mem_map_of_mem hx
  have inj : ∀ {a b : DV}, ngV a = ngV b → a = b := fun {a b} e => by rw [← ngV_ngV a, e, ngV_ngV]
  rcases inner_of h' hx' with h1 | h1 | ⟨p, q, h1, h2, h3⟩
  · rw [List.head?_map] at h1
    obtain ⟨a, ha, e⟩ := Option.map_eq_some_iff.1 h1
    exact .inl (by rw [ha, inj e])
  · rw [List.getLast?_map] at h1
    obtain ⟨a, ha, e⟩ := Option.map_eq_some_iff.1 h1
    exact .inr (.inl (by rw [ha, inj e]))
  · refine .inr (.inr fun e he => ?_)
    have hPp : P (ngV p) := h'.sub p (edg_mem h1).1
    have hPq : P (ngV q) := h'.sub q (edg_mem h2).2
    have hPx : P x := by have := h'.sub _ hx'; rw [ngV_ngV] at this; exact this
    have l1 := h.low e he _ hPp
    have l2 := h.low e he _ hPq
    have l3 := h.low e he _ hPx
    by_cases hz : trn e.1 e.2 x = 0
    · exfalso
      have hd := Rt_of (edg_lt h.desc he)
      have ha := Rt_of (edg_lt h'.desc h1)
      have hb := Rt_of (edg_lt h'.desc h2)
      rw [trn_add e.1 e.2 x, hz] at l1 l2
      have e1 : crs (sbV e.2 e.1) (sbV (ngV p) x) = crs (sbV e.2 e.1) (sbV (ngV x) p) := by unfold crs sbV ngV; grind
      have e2 : crs (sbV e.2 e.1) (sbV (ngV q) x) = crs (sbV q (ngV x)) (sbV e.2 e.1) := by unfold crs sbV ngV; grind
      rw [e1] at l1
      rw [e2] at l2
      have := crs_pn ha hb hd h3 (by show 0 ≤ crs (sbV q (ngV x)) (sbV e.2 e.1); omega)
      rw [crs_sw] at this
      simp only at this
      omega
    · omega
theorem edg_idx : ∀ {r : List DV} {i : Nat}, i + 1 < r.length → (nth (t := tVec) r (i + 1), nth (t := tVec) r i) ∈ edg r
  | [], i, h => by simp at h
  | [a], i, h => by simp at h
  | b :: a :: l, 0, h => by rw [edg_cons]; exact List.mem_cons_self
  | b :: a :: l, i + 1, h => by
    rw [edg_cons]
    refine List.mem_cons_of_mem _ ?_
    have := edg_idx (r := a :: l) (i := i) (by simp at h ⊢; omega)
    simpa [nth] using this
theorem nth_rev {r : List DV} {i : Nat} (h : i < r.length) : nth (t := tVec) r.reverse i = nth (t := tVec) r (r.length - 1 - i) := by
  rw [nth_lt (by rw [List.length_reverse]; exact h), nth_lt (by omega), List.getElem_reverse]
theorem nth_dl {r : List DV} {i : Nat} (h : i < r.length - 1) : nth (t := tVec) r.dropLast i = nth (t := tVec) r i := by
  rw [nth_lt (by rw [List.length_dropLast]; exact h), nth_lt (by omega), List.getElem_dropLast]
theorem nth_al {l m : List DV} {i : Nat} (h : i < l.length) : nth (t := tVec) (l ++ m) i = nth (t := tVec) l i := by
  rw [nth_lt (by rw [List.length_append]; omega), nth_lt h, List.getElem_append_left h]
theorem nth_ar {l m : List DV} {i : Nat} (h : l.length ≤ i) (h2 : i < l.length + m.length) : nth (t := tVec) (l ++ m) i = nth (t := tVec) m (i - l.length) := by
  rw [nth_lt (by rw [List.length_append]; omega), nth_lt (by omega), List.getElem_append_right h]
/-- A polygon that bends to the left, all the points of P on its left. -/
structure Cvx (P : DV → Prop) (H : List DV) : Prop where
  three : 3 ≤ H.length
  nodup : H.Nodup
  str : ∀ i, i < H.length → ∀ x ∈ H, x = nth (t := tVec) H i ∨ x = nth (t := tVec) H (nxt H.length i).toNat ∨ 0 < trn (nth (t := tVec) H i) (nth (t := tVec) H (nxt H.length i).toNat) x
  low : ∀ i, i < H.length → ∀ p, P p → 0 ≤ trn (nth (t := tVec) H i) (nth (t := tVec) H (nxt H.length i).toNat) p
  sub : ∀ x ∈ H, P x
theorem nxt_lt {n i : Nat} (h : i + 1 < n) : (nxt n i).toNat = i + 1 := by
  unfold nxt
  rw [Int.emod_eq_of_lt (by omega) (by omega)]; omega
theorem nxt_end {n i : Nat} (h : i + 1 = n) : (nxt n i).toNat = 0 := by
  unfold nxt
  rw [show ((i : Int) + 1) = (n : Int) by omega, Int.emod_self]; rfl
theorem col0 {d u v : DV} (hd : d ≠ (0, 0)) (h1 : crs d u = 0) (h2 : crs d v = 0) : crs u v = 0 := by
  have k1 : d.1 * crs u v = u.1 * crs d v - v.1 * crs d u := by unfold crs; grind
  have k2 : d.2 * crs u v = u.2 * crs d v - v.2 * crs d u := by unfold crs; grind
  rw [h1, h2, Int.mul_zero, Int.mul_zero, Int.sub_zero] at k1 k2
  rcases Int.mul_eq_zero.1 k1 with h | h
  · rcases Int.mul_eq_zero.1 k2 with h' | h'
    · exact absurd (Prod.ext h h') hd
    · exact h'
  · exact h
theorem nth_ap2 {l m : List DV} {x : DV} (k : Nat) (h : k = l.length) : nth (t := tVec) (l ++ x :: m) k = x := by
  subst h
  rw [nth_lt (by simp), List.getElem_append_right (Nat.le_refl _)]
  simp
theorem nth_last {r : List DV} {x : DV} (h : r.getLast? = some x) : nth (t := tVec) r (r.length - 1) = x := by
  obtain ⟨ys, rfl⟩ := List.getLast?_eq_some_iff.1 h
  rw [show (ys ++ [x]).length - 1 = ys.length by simp]
  exact nth_ap2 _ rfl
theorem nth_head {r : List DV} {x : DV} (h : r.head? = some x) : nth (t := tVec) r 0 = x := by
  cases r with
  | nil => simp at h
  | cons a r => simp at h; exact h
/-- Two chains between the first and the last of all points: the polygon. -/
theorem two_cvx {S R R' : List DV} {m M : DV} (hm : m ∈ S) (hM : M ∈ S) (hmM : ltV m M) (hR : ChOK (fun p => p ∈ S) R) (hR' : ChOK (fun p => ngV p ∈ S) (R'.map ngV)) (hh : R.head? = some M) (hl : R.getLast? = some m) (hh' : R'.head? = some m) (hl' : R'.getLast? = some M)
    (hn : ∃ a ∈ S, ∃ b ∈ S, ∃ c ∈ S, trn a b c ≠ 0) : Cvx (fun p => p ∈ S) (R.reverse.dropLast ++ R'.reverse.dropLast) := by
  have inj : ∀ {a b : DV}, ngV a = ngV b → a = b := fun {a b} e => by rw [← ngV_ngV a, e, ngV_ngV]
  have hne : m ≠ M := fun h => by subst h; exact ltV_irrefl _ hmM
  have k1 : 2 ≤ R.length := by
    match R, hh, hl with
    | [a], h1, h2 => simp at h1 h2; exact absurd (h2.symm.trans h1) hne
    | _ :: _ :: _, _, _ => simp
  have k2 : 2 ≤ R'.length := by
    match R', hh', hl' with
    | [a], h1, h2 => simp at h1 h2; exact absurd (h1.symm.trans h2) hne
    | _ :: _ :: _, _, _ => simp
  have mR : m ∈ R := List.mem_of_getLast? hl
  have MR : M ∈ R := List.mem_of_head? hh
  have mR' : m ∈ R' := List.mem_of_head? hh'
  have MR' : M ∈ R' := List.mem_of_getLast? hl'
  have hR2 : ChOK (fun p => ngV (ngV p) ∈ S) ((R.map ngV).map ngV) := by rw [map_ng_ng]; simpa [ngV_ngV] using hR
  -- what an edge has on its left
  have bnd : ∀ e, (e ∈ edg R ∨ e ∈ edg R') → (∀ p ∈ S, 0 ≤ trn e.1 e.2 p) ∧ ∀ x, (x ∈ R ∨ x ∈ R') → x = e.1 ∨ x = e.2 ∨ 0 < trn e.1 e.2 x := by
    rintro e (he | he)
    · refine ⟨hR.low e he, fun x hx => ?_⟩
      rcases hx with hx | hx
      · exact hR.str e he x hx
      · rcases cross_str hR hR' hx with h | h | h
        · rw [hh'] at h; injection h with h; subst h; exact hR.str e he m mR
        · rw [hl'] at h; injection h with h; subst h; exact hR.str e he M MR
        · exact .inr (.inr (h e he))
    · have he' := edg_ng_mem he
      have key : ∀ x, ngV x ∈ R'.map ngV → x = e.1 ∨ x = e.2 ∨ 0 < trn e.1 e.2 x := by
        intro x hx
        rcases hR'.str _ he' _ hx with h | h | h
        · exact .inl (inj h)
        · exact .inr (.inl (inj h))
        · exact .inr (.inr (by rw [← trn_ng]; exact h))
      refine ⟨fun p hp => ?_, fun x hx => ?_⟩
      · have := hR'.low _ he' (ngV p) (by rw [ngV_ngV]; exact hp)
        rw [← trn_ng]; exact this
      · rcases hx with hx | hx
        · rcases cross_str hR' hR2 (List.mem_map_of_mem hx) with h | h | h
          · rw [List.head?_map, hh] at h; injection h with h; rw [← inj h]; exact key M (List.mem_map_of_mem MR')
          · rw [List.getLast?_map, hl] at h; injection h with h; rw [← inj h]; exact key m (List.mem_map_of_mem mR')
          · exact .inr (.inr (by rw [← trn_ng]; exact h _ he'))
        · exact key x (List.mem_map_of_mem hx)
  have lL : R.reverse.length = R.length := List.length_reverse
  have lU : R'.reverse.length = R'.length := List.length_reverse
  have lLd : R.reverse.dropLast.length = R.length - 1 := by rw [List.length_dropLast, lL]
  have lUd : R'.reverse.dropLast.length = R'.length - 1 := by rw [List.length_dropLast, lU]
  have hH : (R.reverse.dropLast ++ R'.reverse.dropLast).length = (R.length - 1) + (R'.length - 1) := by rw [List.length_append, lLd, lUd]
  have iL : ∀ i, i < R.length - 1 → nth (t := tVec) (R.reverse.dropLast ++ R'.reverse.dropLast) i = nth (t := tVec) R (R.length - 1 - i) := fun i hi => by
    rw [nth_al (by omega), nth_dl (by omega), nth_rev (by omega)]
  have iU : ∀ j, j < R'.length - 1 → nth (t := tVec) (R.reverse.dropLast ++ R'.reverse.dropLast) (R.length - 1 + j) = nth (t := tVec) R' (R'.length - 1 - j) := fun j hj => by
    rw [nth_ar (by omega) (by omega), lLd, show R.length - 1 + j - (R.length - 1) = j by omega, nth_dl (by omega), nth_rev (by omega)]
  have r0 := nth_head hh
  have r1 := nth_last hl
  have s0 := nth_head hh'
  have s1 := nth_last hl'
  have iedg : ∀ i, i < (R.length - 1) + (R'.length - 1) → (nth (t := tVec) (R.reverse.dropLast ++ R'.reverse.dropLast) i, nth (t := tVec) (R.reverse.dropLast ++ R'.reverse.dropLast) (nxt ((R.length - 1) + (R'.length - 1)) i).toNat) ∈ edg R ∨ (nth (t := tVec) (R.reverse.dropLast ++ R'.reverse.dropLast) i, nth (t := tVec) (R.reverse.dropLast ++ R'.reverse.dropLast) (nxt ((R.length - 1) + (R'.length - 1)) i).toNat) ∈ edg R' := by
    intro i hi
    by_cases h : i < R.length - 1
    · left
      have e := edg_idx (r := R) (i := R.length - 2 - i) (by omega)
      rw [nxt_lt (by omega), iL i h]
      have h2 : nth (t := tVec) (R.reverse.dropLast ++ R'.reverse.dropLast) (i + 1) = nth (t := tVec) R (R.length - 2 - i) := by
        by_cases h3 : i + 1 < R.length - 1
        · rw [iL _ h3]; congr 1; omega
        · rw [show i + 1 = R.length - 1 + 0 by omega, iU 0 (by omega), show R'.length - 1 - 0 = R'.length - 1 by omega, s1, show R.length - 2 - i = 0 by omega, r0]
      rw [h2, show R.length - 1 - i = R.length - 2 - i + 1 by omega]
      exact e
    · right
      obtain ⟨j, rfl⟩ : ∃ j, i = R.length - 1 + j := ⟨i - (R.length - 1), by omega⟩
      have e := edg_idx (r := R') (i := R'.length - 2 - j) (by omega)
      rw [iU j (by omega)]
      have h2 : nth (t := tVec) (R.reverse.dropLast ++ R'.reverse.dropLast) (nxt ((R.length - 1) + (R'.length - 1)) (R.length - 1 + j)).toNat = nth (t := tVec) R' (R'.length - 2 - j) := by
        by_cases h3 : j + 1 < R'.length - 1
        · rw [nxt_lt (by omega), show R.length - 1 + j + 1 = R.length - 1 + (j + 1) by omega, iU _ h3]; congr 1; omega
        · rw [nxt_end (by omega), iL 0 (by omega), show R.length - 1 - 0 = R.length - 1 by omega, r1, show R'.length - 2 - j = 0 by omega, s0]
      rw [h2, show R'.length - 1 - j = R'.length - 2 - j + 1 by omega]
      exact e
  have inH : ∀ x, x ∈ R.reverse.dropLast ++ R'.reverse.dropLast → x ∈ R ∨ x ∈ R' := by
    intro x hx
    rcases List.mem_append.1 hx with h | h
    · exact .inl (List.mem_reverse.1 (List.dropLast_subset _ h))
    · exact .inr (List.mem_reverse.1 (List.dropLast_subset _ h))
  have subS : ∀ x, (x ∈ R ∨ x ∈ R') → x ∈ S := by
    rintro x (h | h)
    · exact hR.sub x h
    · have := hR'.sub _ (List.mem_map_of_mem h); rw [ngV_ngV] at this; exact this
  have dL : R.reverse.Pairwise ltV := List.pairwise_reverse.2 hR.desc
  have dU : R'.reverse.Pairwise (fun a b => ltV b a) := by
    have := hR'.desc
    rw [List.pairwise_map] at this
    exact List.pairwise_reverse.2 (this.imp fun {a b} h => ltV_ng.1 h)
  have spL : R.reverse = R.reverse.dropLast ++ [M] := by
    have : R.reverse.getLast? = some M := by rw [List.getLast?_reverse]; exact hh
    obtain ⟨ys, hy⟩ := List.getLast?_eq_some_iff.1 this
    rw [hy]; simp
  have spU : R'.reverse = R'.reverse.dropLast ++ [m] := by
    have : R'.reverse.getLast? = some m := by rw [List.getLast?_reverse]; exact hh'
    obtain ⟨ys, hy⟩ := List.getLast?_eq_some_iff.1 this
    rw [hy]; simp
  have ltM : ∀ x ∈ R.reverse.dropLast, ltV x M := fun x hx => by
    rw [spL] at dL
    exact (List.pairwise_append.1 dL).2.2 x hx M (by simp)
  have gtm : ∀ x ∈ R'.reverse.dropLast, ltV m x := fun x hx => by
    rw [spU] at dU
    exact (List.pairwise_append.1 dU).2.2 x hx m (by simp)
  refine ⟨?_, ?_, ?_, ?_, fun x hx => subS x (inH x hx)⟩
  · rw [hH]
    by_cases h : 3 ≤ R.length - 1 + (R'.length - 1)
    · exact h
    · exfalso
      have h1 : R.length = 2 := by omega
      have h2 : R'.length = 2 := by omega
      have e1 := edg_idx (r := R) (i := 0) (by omega)
      have e2 := edg_idx (r := R') (i := 0) (by omega)
      rw [show 0 + 1 = R.length - 1 by omega, r1, r0] at e1
      rw [show 0 + 1 = R'.length - 1 by omega, s1, s0] at e2
      have z : ∀ p ∈ S, crs (sbV M m) (sbV p m) = 0 := fun p hp => by
        have p1 := (bnd _ (.inl e1)).1 p hp
        have p2 := (bnd _ (.inr e2)).1 p hp
        have : trn M m p = - trn m M p := by unfold trn; grind
        simp only at p1 p2
        rw [this] at p2
        rw [← trn_crs]
        omega
      obtain ⟨a, ha, b, hb, c, hc, hne2⟩ := hn
      refine hne2 ?_
      rw [trn_crs]
      refine col0 (d := sbV M m) (fun h => ?_) ?_ ?_
      · have q1 := congrArg Prod.fst h
        have q2 := congrArg Prod.snd h
        unfold sbV at q1 q2
        simp only at q1 q2
        exact hne (Prod.ext (by omega) (by omega))
      · have : crs (sbV M m) (sbV b a) = crs (sbV M m) (sbV b m) - crs (sbV M m) (sbV a m) := by unfold crs sbV; grind
        rw [this, z b hb, z a ha]; rfl
      · have : crs (sbV M m) (sbV c a) = crs (sbV M m) (sbV c m) - crs (sbV M m) (sbV a m) := by unfold crs sbV; grind
        rw [this, z c hc, z a ha]; rfl
  · rw [List.nodup_append]
    refine ⟨?_, ?_, ?_⟩
    · exact (dL.sublist (List.dropLast_sublist _)).imp fun {a b} h e => by subst e; exact ltV_irrefl _ h
    · exact (dU.sublist (List.dropLast_sublist _)).imp fun {a b} h e => by subst e; exact ltV_irrefl _ h
    · rintro x hx y hy rfl
      have q1 := ltM x hx
      have q2 := gtm x hy
      have hxR' : x ∈ R' := List.mem_reverse.1 (List.dropLast_subset _ hy)
      rcases cross_str hR hR' hxR' with h | h | h
      · rw [hh'] at h; injection h with h; subst h; exact ltV_irrefl _ q2
      · rw [hl'] at h; injection h with h; subst h; exact ltV_irrefl _ q1
      · obtain ⟨i, hi, rfl⟩ := List.getElem_of_mem hx
        have hi2 : i < R.length - 1 := by omega
        have e := edg_idx (r := R) (i := R.length - 2 - i) (by omega)
        have e2 : R.reverse.dropLast[i] = nth (t := tVec) R (R.length - 2 - i + 1) := by
          rw [← nth_lt (t := tVec) hi, nth_dl (by omega), nth_rev (by omega)]; congr 1; omega
        have := h _ e
        rw [e2] at this
        simp only at this
        rw [trn_aa] at this
        omega
  · intro i hi x hx
    rw [hH] at hi ⊢
    exact (bnd _ (iedg i hi)).2 x (inH x hx)
  · intro i hi p hp
    rw [hH] at hi ⊢
    exact (bnd _ (iedg i hi)).1 p hp
theorem hull_cvx {S : List DV} (hs : S.Pairwise ltV) (hn : ∃ a ∈ S, ∃ b ∈ S, ∃ c ∈ S, trn a b c ≠ 0) : Cvx (fun p => p ∈ S) (chD S ++ chD S.reverse) := by
  have hn' := hn
  obtain ⟨a, ha, b, hb, c, hc, hne⟩ := hn'
  obtain ⟨n, hnl⟩ : ∃ n, S.length = n + 1 := ⟨S.length - 1, by have := List.length_pos_of_mem ha; omega⟩
  obtain ⟨t, r, e1, e2, e3, hR⟩ := chR_ok n hnl hs
  have hsr : (S.reverse.map ngV).Pairwise ltV := by
    rw [List.pairwise_map, List.pairwise_reverse]
    exact hs.imp fun {a b} h => ltV_ng.2 h
  obtain ⟨t', r', f1, f2, f3, hR0⟩ := chR_ok n (l := S.reverse.map ngV) (by rw [List.length_map, List.length_reverse]; exact hnl) hsr
  rw [chR_ng] at f1 f2 hR0
  have hR' : ChOK (fun p => (ngV p) ∈ S) ((chR S.reverse).map ngV) := by
    refine ⟨hR0.desc, hR0.cvx, fun e he p hp => hR0.low e he p ?_, hR0.str, fun x hx => ?_⟩
    · rw [show p = ngV (ngV p) from (ngV_ngV p).symm]
      exact List.mem_map_of_mem (List.mem_reverse.2 hp)
    · obtain ⟨y, hy, rfl⟩ := List.mem_map.1 (hR0.sub x hx)
      rw [ngV_ngV]
      exact List.mem_reverse.1 hy
  have injO : ∀ {a b : Option DV}, a.map ngV = b.map ngV → a = b := by
    intro a b h
    have := congrArg (Option.map ngV) h
    simpa [Option.map_map, show (ngV ∘ ngV) = id from funext ngV_ngV] using this
  have g2 : (chR S.reverse).getLast? = S.getLast? := by
    rw [List.getLast?_map, List.head?_map] at f2
    rw [injO f2, List.head?_reverse]
  have g3 : (chR S.reverse).head? = S.head? := by
    have h1 : ((chR S.reverse).map ngV).head? = some t' := by rw [f1]; rfl
    rw [← f3, List.head?_map, List.getLast?_map, List.getLast?_reverse] at h1
    exact injO h1
  have g1 : (chR S).head? = S.getLast? := by rw [e1, e3]; rfl
  obtain ⟨m, S', rfl⟩ : ∃ m S', S = m :: S' := by
    cases S with
    | nil => simp at ha
    | cons m S' => exact ⟨m, S', rfl⟩
  obtain ⟨M, hM1, hM2⟩ : ∃ M, (m :: S').getLast? = some M ∧ M ∈ S' := by
    cases S' with
    | nil =>
      simp at ha hb hc
      subst ha hb hc
      exact absurd (trn_aa _ _) hne
    | cons x S' => exact ⟨(x :: S').getLast (by simp), by rw [List.getLast?_cons_cons, List.getLast?_eq_some_getLast], List.getLast_mem _⟩
  exact two_cvx (m := m) (M := M) (by simp) (List.mem_cons_of_mem _ hM2) ((List.pairwise_cons.1 hs).1 M hM2) hR hR' (g1.trans hM1) e2 g3 (g2.trans hM1) hn
end Go.Proofs.YtghckbohaghgkaaGreat.DW

/-
  The sum of two polygons has no more corners than the two together. No program here.
-/
namespace Go.Proofs.YtghckbohaghgkaaGreat.DW
open Go.RowKit
theorem len_le_of_lt : ∀ (N : Nat) (l : List Nat), l.Nodup → (∀ x ∈ l, x < N) → l.length ≤ N
  | 0, l, _, h => by
    cases l with
    | nil => simp
    | cons a l => exact absurd (h a (by simp)) (by omega)
  | N + 1, l, hd, h => by
    by_cases hm : N ∈ l
    · have h1 := List.length_erase_of_mem hm
      have h2 := len_le_of_lt N (l.erase N) (hd.erase N) fun x hx => by
        have h3 := h x (List.mem_of_mem_erase hx)
        have h4 : x ≠ N := fun e => by subst e; exact hd.not_mem_erase hx
        omega
      omega
    · have := len_le_of_lt N l hd fun x hx => by
        have h3 := h x hx
        have h4 : x ≠ N := fun e => by subst e; exact hm hx
        omega
      omega
theorem pigeon {n N : Nat} {R : Nat → Nat → Prop} (h : ∀ i, i < n → ∃ c, c < N ∧ R i c) (inj : ∀ i j c, i < n → j < n → R i c → R j c → i = j) : n ≤ N := by
  have hf : ∃ f : Nat → Nat, ∀ i, i < n → f i < N ∧ R i (f i) := by
    refine ⟨fun i => if hi : i < n then Classical.choose (h i hi) else 0, fun i hi => ?_⟩
    simp only [hi, dif_pos]
    exact Classical.choose_spec (h i hi)
  obtain ⟨f, hf⟩ := hf
  have h1 := len_le_of_lt N ((List.range n).map f) (by
    rw [List.nodup_iff_pairwise_ne, List.pairwise_map]
    have hr : (List.range n).Pairwise (fun a b => a < b) := List.pairwise_lt_range
    refine (List.pairwise_iff_getElem.2 fun i j hi hj hij => ?_)
    simp only [List.length_range] at hi hj
    simp only [List.getElem_range]
    intro e
    have := inj i j (f i) hi hj (hf i hi).2 (by rw [e]; exact (hf j hj).2)
    omega) (by
    intro x hx
    obtain ⟨i, hi, rfl⟩ := List.mem_map.1 hx
    exact (hf i (List.mem_range.1 hi)).1)
  simpa using h1
theorem sq_nn (a : Int) : 0 ≤ a * a := by
  rcases Int.le_total 0 a with h | h
  · exact Int.mul_nonneg h h
  · exact Int.mul_nonneg_of_nonpos_of_nonpos h h
theorem nd_inj {l : List DV} (h : l.Nodup) {i j : Nat} (hi : i < l.length) (hj : j < l.length) (e : l[i] = l[j]) : i = j := by
  rw [List.nodup_iff_pairwise_ne] at h
  rcases Nat.lt_trichotomy i j with h1 | h1 | h1
  · exact absurd e (List.pairwise_iff_getElem.1 h i j hi hj h1)
  · exact h1
  · exact absurd e.symm (List.pairwise_iff_getElem.1 h j i hj hi h1)
theorem sb_ne {a b : DV} (h : a ≠ b) : sbV a b ≠ (0, 0) := by
  intro e
  unfold sbV at e
  have q1 := congrArg Prod.fst e
  have q2 := congrArg Prod.snd e
  simp only at q1 q2
  exact h (Prod.ext (by omega) (by omega))
theorem dt_pos {d : DV} (h : d ≠ (0, 0)) : 0 < dt d d := by
  unfold dt
  have h1 := sq_nn d.1
  have h2 := sq_nn d.2
  by_cases e1 : d.1 = 0
  · by_cases e2 : d.2 = 0
    · exact absurd (Prod.ext e1 e2) h
    · have : d.2 * d.2 ≠ 0 := fun h => (Int.mul_eq_zero.1 h).elim e2 e2
      omega
  · have : d.1 * d.1 ≠ 0 := fun h => (Int.mul_eq_zero.1 h).elim e1 e1
    omega
theorem pos_of_mul {a b c : Int} (h : a * b = c) (hb : 0 < b) (hc : 0 ≤ c) : 0 ≤ a := by
  by_cases ha : 0 ≤ a
  · exact ha
  · have := Int.mul_neg_of_neg_of_pos (show a < 0 by omega) hb
    omega
theorem pos_of_mul' {a b c : Int} (h : a * b = c) (hb : 0 < b) (hc : 0 < c) : 0 < a := by
  have := pos_of_mul h hb (Int.le_of_lt hc)
  by_cases ha : a = 0
  · subst ha; omega
  · omega
/-- Two edges with one direction, a point left of the one, and not right of the other. -/
theorem same_dir {d E c : DV} (hd : d ≠ (0, 0)) (h0 : crs d E = 0) (h1 : 0 < crs E c) (h2 : 0 ≤ crs d c) : 0 < dt d E := by
  have hE : E ≠ (0, 0) := fun h => by subst h; unfold crs at h1; simp at h1
  have k : dt d E * crs E c = crs d c * dt E E - crs d E * dt E c := by unfold dt crs; grind
  rw [h0, Int.zero_mul, Int.sub_zero] at k
  have n1 := pos_of_mul k h1 (Int.mul_nonneg h2 (Int.le_of_lt (dt_pos hE)))
  have k2 : dt d E * dt d E + crs d E * crs d E = dt d d * dt E E := by unfold dt crs; grind
  rw [h0, Int.mul_zero, Int.add_zero] at k2
  have n2 := Int.mul_pos (dt_pos hd) (dt_pos hE)
  by_cases hz : dt d E = 0
  · rw [hz, Int.mul_zero] at k2; omega
  · omega
theorem nxt_cases {n i : Nat} (hi : i < n) : (nxt n i).toNat = (if i + 1 < n then i + 1 else 0) := by
  split
  · exact nxt_lt (by assumption)
  · exact nxt_end (by omega)
theorem prev_of {n i : Nat} (hi : i < n) : ∃ h, h < n ∧ (nxt n h).toNat = i := by
  by_cases h0 : i = 0
  · exact ⟨n - 1, by omega, by rw [nxt_end (by omega), h0]⟩
  · exact ⟨i - 1, by omega, by rw [nxt_lt (by omega)]; omega⟩
theorem corn {l : List DV} (h : polyP l) {i k : Nat} (hi : i < l.length) (hk : k < l.length) (h1 : k ≠ i) (h2 : k ≠ (nxt l.length i).toNat) : 0 < trn (nth (t := tVec) l i) (nth (t := tVec) l (nxt l.length i).toNat) (nth (t := tVec) l k) :=
  h.2.2 i k hi hk (by omega) (by have := nxt_rng (n := l.length) (i := i) (by omega); omega)
theorem third (n i j : Nat) (hn : 3 ≤ n) : ∃ k, k < n ∧ k ≠ i ∧ k ≠ j := by
  by_cases h0 : i ≠ 0 ∧ j ≠ 0
  · exact ⟨0, by omega, by omega, by omega⟩
  · by_cases h1 : i ≠ 1 ∧ j ≠ 1
    · exact ⟨1, by omega, by omega, by omega⟩
    · exact ⟨2, by omega, by omega, by omega⟩
/-- The edge at corner t. -/
def edgV (l : List DV) (t : Nat) : DV := sbV (nth (t := tVec) l (nxt l.length t).toNat) (nth (t := tVec) l t)
theorem supp_edge {l : List DV} (h : polyP l) {d : DV} (hd : d ≠ (0, 0)) {i j : Nat} (hi : i < l.length) (hj : j < l.length) (hne : nth (t := tVec) l i ≠ nth (t := tVec) l j) (hall : ∀ x ∈ l, 0 ≤ crs d (sbV x (nth (t := tVec) l i)))
    (hz : crs d (sbV (nth (t := tVec) l j) (nth (t := tVec) l i)) = 0) : ∃ t, t < l.length ∧ crs d (edgV l t) = 0 ∧ 0 < dt d (edgV l t) := by
  have h3 : 3 ≤ l.length := by have := h.1.1; omega
  have hij : i ≠ j := fun e => hne (by rw [e])
  by_cases c1 : j = (nxt l.length i).toNat
  · obtain ⟨k, hk, hk1, hk2⟩ := third l.length i j h3
    have ht := corn h hi hk hk1 (by rw [← c1]; exact hk2)
    have he : edgV l i = sbV (nth (t := tVec) l j) (nth (t := tVec) l i) := by unfold edgV; rw [← c1]
    refine ⟨i, hi, by rw [he]; exact hz, ?_⟩
    rw [he]
    rw [trn_crs, ← c1] at ht
    exact same_dir hd hz ht (hall _ (nth_mem hk))
  · by_cases c2 : i = (nxt l.length j).toNat
    · obtain ⟨k, hk, hk1, hk2⟩ := third l.length i j h3
      have ht := corn h hj hk hk2 (by rw [← c2]; exact hk1)
      have he : edgV l j = sbV (nth (t := tVec) l i) (nth (t := tVec) l j) := by unfold edgV; rw [← c2]
      have hz' : crs d (sbV (nth (t := tVec) l i) (nth (t := tVec) l j)) = 0 := by
        have : crs d (sbV (nth (t := tVec) l i) (nth (t := tVec) l j)) = - crs d (sbV (nth (t := tVec) l j) (nth (t := tVec) l i)) := by unfold crs sbV; grind
        rw [this, hz]; rfl
      refine ⟨j, hj, by rw [he]; exact hz', ?_⟩
      rw [he]
      rw [trn_crs, ← c2] at ht
      refine same_dir hd hz' ht ?_
      have h4 := hall _ (nth_mem hk)
      have : crs d (sbV (nth (t := tVec) l k) (nth (t := tVec) l j)) = crs d (sbV (nth (t := tVec) l k) (nth (t := tVec) l i)) - crs d (sbV (nth (t := tVec) l j) (nth (t := tVec) l i)) := by unfold crs sbV; grind
      omega
    · exfalso
      obtain ⟨g, hg, hgi⟩ := prev_of hi
      have hr := nxt_rng (n := l.length) (i := i) (by omega)
      have hn : (nxt l.length i).toNat < l.length := by omega
      have t1 := corn h hi hj (Ne.symm hij) c1
      have t2 := corn h hg hj (fun e => c2 (by rw [e]; exact hgi.symm)) (by rw [hgi]; exact Ne.symm hij)
      rw [hgi] at t2
      have a1 := hall _ (nth_mem hn)
      have a2 := hall _ (nth_mem hg)
      generalize nth (t := tVec) l i = p at *
      generalize nth (t := tVec) l j = q at *
      generalize nth (t := tVec) l (nxt l.length i).toNat = s at *
      generalize nth (t := tVec) l g = u at *
      have k1 : trn p s q * dt d d = - (crs d (sbV s p) * dt d (sbV q p)) + dt (sbV s p) d * crs d (sbV q p) := by unfold trn dt crs sbV; grind
      have k2 : trn u p q * dt d d = crs d (sbV u p) * dt d (sbV q p) - crs d (sbV q p) * dt d (sbV u p) := by unfold trn dt crs sbV; grind
      rw [hz, Int.mul_zero, Int.add_zero] at k1
      rw [hz, Int.zero_mul, Int.sub_zero] at k2
      have m1 := Int.mul_pos t1 (dt_pos hd)
      have m2 := Int.mul_pos t2 (dt_pos hd)
      have n1 : dt d (sbV q p) < 0 := by
        by_cases hq : dt d (sbV q p) < 0
        · exact hq
        · have := Int.mul_nonneg a1 (show 0 ≤ dt d (sbV q p) by omega)
          omega
      have n2 : 0 < dt d (sbV q p) := by
        by_cases hq : 0 < dt d (sbV q p)
        · exact hq
        · have := Int.mul_nonneg a2 (show 0 ≤ - dt d (sbV q p) by omega)
          rw [Int.mul_neg] at this
          omega
      omega
/-- All sums. -/
def smV (a b : List DV) : List DV := a.flatMap fun p => b.map (addV p)
theorem smV_mem {a b : List DV} {x : DV} : x ∈ smV a b ↔ ∃ p ∈ a, ∃ q ∈ b, addV p q = x := by
  unfold smV
  simp only [List.mem_flatMap, List.mem_map]
/-- Two corners at which one finds edges of one direction are one corner. -/
theorem dir_inj {P : DV → Prop} {H : List DV} (hH : Cvx P H) {i j : Nat} (hi : i < H.length) (hj : j < H.length) {E : DV} (h1 : crs (edgV H i) E = 0) (h2 : 0 < dt (edgV H i) E) (h3 : crs (edgV H j) E = 0) (h4 : 0 < dt (edgV H j) E) : i = j := by
  have hE : 0 < dt E E := dt_pos fun h => by subst h; unfold dt at h2; simp at h2
  have k1 : crs (edgV H i) (edgV H j) * dt E E = crs (edgV H i) E * dt E (edgV H j) - crs (edgV H j) E * dt E (edgV H i) := by unfold dt crs; grind
  rw [h1, h3, Int.zero_mul, Int.zero_mul, Int.sub_zero] at k1
  have z : crs (edgV H i) (edgV H j) = 0 := by
    rcases Int.mul_eq_zero.1 k1 with h | h
    · exact h
    · omega
  have k2 : dt (edgV H i) (edgV H j) * dt E E = dt (edgV H i) E * dt (edgV H j) E + crs (edgV H i) E * crs (edgV H j) E := by unfold dt crs; grind
  rw [h1, Int.zero_mul, Int.add_zero] at k2
  have p := pos_of_mul' k2 hE (Int.mul_pos h2 h4)
  by_cases hij : i = j
  · exact hij
  · exfalso
    have ri := nxt_rng (n := H.length) (i := i) (by omega)
    have rj := nxt_rng (n := H.length) (i := j) (by omega)
    have mi : nth (t := tVec) H i ∈ H := nth_mem hi
    have mj : nth (t := tVec) H j ∈ H := nth_mem hj
    have ndI : nth (t := tVec) H i ≠ nth (t := tVec) H j := by
      rw [nth_lt hi, nth_lt hj]
      intro e
      exact hij (nd_inj hH.nodup _ _ e)
    have l1 := hH.low i hi _ (hH.sub _ mj)
    have l2 := hH.low j hj _ (hH.sub _ mi)
    have s1 := hH.str i hi _ mj
    have s2 := hH.str j hj _ mi
    unfold edgV at z p h1 h2 h3 h4
    have dd1 : 0 < dt (sbV (nth (t := tVec) H (nxt H.length i).toNat) (nth (t := tVec) H i)) (sbV (nth (t := tVec) H (nxt H.length i).toNat) (nth (t := tVec) H i)) := dt_pos fun h => by rw [h] at h2; unfold dt at h2; simp at h2
    generalize nth (t := tVec) H i = a at *
    generalize nth (t := tVec) H j = b at *
    generalize nth (t := tVec) H (nxt H.length i).toNat = a' at *
    generalize nth (t := tVec) H (nxt H.length j).toNat = b' at *
    rw [trn_crs] at l1 l2
    have k3 : crs (sbV b' b) (sbV a b) * dt (sbV a' a) (sbV a' a) = - (crs (sbV a' a) (sbV b a) * dt (sbV a' a) (sbV b' b)) - crs (sbV a' a) (sbV b' b) * dt (sbV a' a) (sbV a b) := by unfold dt crs sbV; grind
    rw [z, Int.zero_mul, Int.sub_zero] at k3
    have q1 := Int.mul_nonneg l2 (Int.le_of_lt dd1)
    have q2 := Int.mul_nonneg l1 (Int.le_of_lt p)
    have q3 : crs (sbV a' a) (sbV b a) * dt (sbV a' a) (sbV b' b) = 0 := by omega
    have q4 : crs (sbV a' a) (sbV b a) = 0 := by
      rcases Int.mul_eq_zero.1 q3 with h | h
      · exact h
      · omega
    have q5 : crs (sbV b' b) (sbV a b) = 0 := by
      have : crs (sbV b' b) (sbV a b) * dt (sbV a' a) (sbV a' a) = 0 := by rw [k3, q3]; rfl
      rcases Int.mul_eq_zero.1 this with h | h
      · exact h
      · omega
    rw [trn_crs] at s1 s2
    rcases s1 with h | h | h
    · exact ndI h.symm
    · rcases s2 with h' | h' | h'
      · exact ndI h'
      · subst h h'
        have : dt (sbV b a) (sbV a b) = - dt (sbV b a) (sbV b a) := by unfold dt sbV; grind
        omega
      · omega
    · omega
theorem mink_le {a b H : List DV} (ha : polyP a) (hb : polyP b) (hH : Cvx (fun p => p ∈ smV a b) H) : H.length ≤ a.length + b.length := by
  refine pigeon (R := fun i c => (c < a.length ∧ crs (edgV H i) (edgV a c) = 0 ∧ 0 < dt (edgV H i) (edgV a c)) ∨ (a.length ≤ c ∧ crs (edgV H i) (edgV b (c - a.length)) = 0 ∧ 0 < dt (edgV H i) (edgV b (c - a.length)))) ?_ ?_
  · intro i hi
    have ri := nxt_rng (n := H.length) (i := i) (by omega)
    have hn : (nxt H.length i).toNat < H.length := by omega
    have h3 := hH.three
    have hlow := hH.low i hi
    have nd : nth (t := tVec) H (nxt H.length i).toNat ≠ nth (t := tVec) H i := by
      rw [nth_lt hn, nth_lt hi]
      intro e
      have e2 := nd_inj hH.nodup _ _ e
      have := nxt_cases hi
      split at this <;> omega
    obtain ⟨p, hp, q, hq, e1⟩ := smV_mem.1 (hH.sub _ (nth_mem hi))
    obtain ⟨p', hp', q', hq', e2⟩ := smV_mem.1 (hH.sub _ (nth_mem hn))
    have hdd : edgV H i = sbV (nth (t := tVec) H (nxt H.length i).toNat) (nth (t := tVec) H i) := rfl
    have hd0 : edgV H i ≠ (0, 0) := by
      exact sb_ne nd
    have A : ∀ x ∈ a, 0 ≤ crs (edgV H i) (sbV x p) := fun x hx => by
      have h := hlow (addV x q) (smV_mem.2 ⟨x, hx, q, hq, rfl⟩)
      rw [trn_crs, ← hdd, ← e1] at h
      have : sbV (addV x q) (addV p q) = sbV x p := by unfold sbV addV; exact Prod.ext (by simp only; omega) (by simp only; omega)
      rw [this] at h; exact h
    have B : ∀ y ∈ b, 0 ≤ crs (edgV H i) (sbV y q) := fun y hy => by
      have h := hlow (addV p y) (smV_mem.2 ⟨p, hp, y, hy, rfl⟩)
      rw [trn_crs, ← hdd, ← e1] at h
      have : sbV (addV p y) (addV p q) = sbV y q := by unfold sbV addV; exact Prod.ext (by simp only; omega) (by simp only; omega)
      rw [this] at h; exact h
    have hz : crs (edgV H i) (sbV p' p) + crs (edgV H i) (sbV q' q) = 0 := by
      have : edgV H i = (p'.1 - p.1 + (q'.1 - q.1), p'.2 - p.2 + (q'.2 - q.2)) := by
        rw [hdd, ← e1, ← e2]; unfold sbV addV; exact Prod.ext (by simp only; omega) (by simp only; omega)
      rw [this]; unfold crs sbV; grind
    have hA := A p' hp'
    have hB := B q' hq'
    have zA : crs (edgV H i) (sbV p' p) = 0 := by omega
    have zB : crs (edgV H i) (sbV q' q) = 0 := by omega
    obtain ⟨i1, hi1, f1⟩ := List.getElem_of_mem hp
    obtain ⟨i2, hi2, f2⟩ := List.getElem_of_mem hp'
    obtain ⟨j1, hj1, g1⟩ := List.getElem_of_mem hq
    obtain ⟨j2, hj2, g2⟩ := List.getElem_of_mem hq'
    rw [← nth_lt (t := tVec) hi1] at f1
    rw [← nth_lt (t := tVec) hi2] at f2
    rw [← nth_lt (t := tVec) hj1] at g1
    rw [← nth_lt (t := tVec) hj2] at g2
    by_cases hpp : p = p'
    · have hqq : q ≠ q' := fun h => nd (by rw [← e1, ← e2, hpp, h])
      obtain ⟨t, ht, h1, h2⟩ := supp_edge hb hd0 hj1 hj2 (by rw [g1, g2]; exact hqq) (by rw [g1]; exact B) (by rw [g1, g2]; exact zB)
      exact ⟨a.length + t, by omega, .inr ⟨by omega, by rw [show a.length + t - a.length = t by omega]; exact ⟨h1, h2⟩⟩⟩
    · obtain ⟨t, ht, h1, h2⟩ := supp_edge ha hd0 hi1 hi2 (by rw [f1, f2]; exact hpp) (by rw [f1]; exact A) (by rw [f1, f2]; exact zA)
      exact ⟨t, by omega, .inl ⟨ht, h1, h2⟩⟩
  · rintro i j c hi hj (⟨_, h1, h2⟩ | ⟨hc, h1, h2⟩) (⟨_, h3, h4⟩ | ⟨hc', h3, h4⟩)
    · exact dir_inj hH hi hj h1 h2 h3 h4
    · omega
    · omega
    · exact dir_inj hH hi hj h1 h2 h3 h4
theorem hullD_of {l : List DV} (hn : ∃ a ∈ l, ∃ b ∈ l, ∃ c ∈ l, trn a b c ≠ 0) : Cvx (fun p => p ∈ l) (hullD l) := by
  have hn' : ∃ a ∈ srtD l, ∃ b ∈ srtD l, ∃ c ∈ srtD l, trn a b c ≠ 0 := by
    obtain ⟨a, ha, b, hb, c, hc, h⟩ := hn
    exact ⟨a, srtD_mem.2 ha, b, srtD_mem.2 hb, c, srtD_mem.2 hc, h⟩
  have hC := hull_cvx (srtD_srt l) hn'
  have h2 : ¬ (srtD l).length < 2 := by
    obtain ⟨a, ha, b, hb, c, hc, h⟩ := hn'
    intro hlt
    match hs : srtD l, ha, hb, hc with
    | [x], ha, hb, hc =>
      simp at ha hb hc
      subst ha hb hc
      exact h (trn_aa _ _)
    | _ :: _ :: _, _, _, _ => rw [hs] at hlt; simp at hlt; omega
  unfold hullD
  rw [if_neg h2]
  exact ⟨hC.three, hC.nodup, hC.str, fun i hi p hp => hC.low i hi p (srtD_mem.2 hp), fun x hx => srtD_mem.1 (hC.sub x hx)⟩
theorem trn_addV (c : DV) (x y z : DV) : trn (addV x c) (addV y c) (addV z c) = trn x y z := by unfold trn addV; grind
/-- The sum of two small polygons is a polygon. -/
theorem sum_poly {a b : List DV} (ha : polyP a) (hb : polyP b) (hl : a.length + b.length ≤ 16) (hs : ∀ x ∈ smV a b, okV x = true) : polyP (hullD (smV a b)) := by
  have la : 3 ≤ a.length := by have := ha.1.1; omega
  have lb : 3 ≤ b.length := by have := hb.1.1; omega
  have hC := hullD_of (l := smV a b) (by
    have m0 : nth (t := tVec) b 0 ∈ b := nth_mem (by omega)
    have r0 : (nxt a.length 0).toNat = 1 := nxt_lt (by omega)
    refine ⟨_, smV_mem.2 ⟨_, nth_mem (l := a) (i := 0) (by omega), _, m0, rfl⟩, _, smV_mem.2 ⟨_, nth_mem (l := a) (i := 1) (by omega), _, m0, rfl⟩, _, smV_mem.2 ⟨_, nth_mem (l := a) (i := 2) (by omega), _, m0, rfl⟩, ?_⟩
    rw [trn_addV]
    have := corn ha (i := 0) (k := 2) (by omega) (by omega) (by omega) (by omega)
    rw [r0] at this
    omega)
  have hle := mink_le ha hb hC
  have h3 := hC.three
  refine ⟨⟨by omega, by omega⟩, fun v hv => hs v (hC.sub v hv), fun i k hi hk n1 n2 => ?_⟩
  have ri := nxt_rng (n := (hullD (smV a b)).length) (i := i) (by omega)
  have hn : (nxt (hullD (smV a b)).length i).toNat < (hullD (smV a b)).length := by omega
  have nd : ∀ {j : Nat} (hj : j < (hullD (smV a b)).length), k ≠ j → nth (t := tVec) (hullD (smV a b)) k ≠ nth (t := tVec) (hullD (smV a b)) j := by
    intro j hj hkj
    rw [nth_lt hk, nth_lt hj]
    intro e
    exact hkj (nd_inj hC.nodup _ _ e)
  rcases hC.str i hi _ (nth_mem hk) with h | h | h
  · exact absurd h (nd hi (by omega))
  · exact absurd h (nd hn (by omega))
  · exact h
end Go.Proofs.YtghckbohaghgkaaGreat.DW

/-
  Sums of polygons; what a robot blocks; where a point is of a polygon.
-/
namespace Go.Proofs.YtghckbohaghgkaaGreat.DW
open Go.RowKit
theorem polyB_p {l : List DV} (h : polyB l = true) : polyP l := @of_decide_eq_true _ (Classical.propDecidable _) h
theorem poly_map {l : List DV} {f : DV → DV} (h : polyP l) (hok : ∀ v ∈ l, okV (f v) = true) (ht : ∀ a b c, trn (f a) (f b) (f c) = trn a b c) : polyP (l.map f) := by
  have hn : ∀ {k}, k < l.length → nth (t := tVec) (l.map f) k = f (nth (t := tVec) l k) := fun {k} hk => by
    rw [nth_lt (t := tVec) hk, nth_lt (t := tVec) (l := l.map f) (by rw [List.length_map]; exact hk), List.getElem_map]
  refine ⟨by rw [List.length_map]; exact h.1, fun v hv => ?_, fun i k hi hk => ?_⟩
  · obtain ⟨u, hu, rfl⟩ := List.mem_map.1 hv
    exact hok u hu
  · rw [List.length_map] at hi hk
    have ri := nxt_rng (n := l.length) (i := i) (by omega)
    have := h.2.2 i k hi hk
    unfold cornOK at this ⊢
    rw [List.length_map, hn hi, hn hk, hn (by omega), ht]
    exact this
theorem trn_rot1 (a b c : DV) : trn (rot1 a) (rot1 b) (rot1 c) = trn a b c := by unfold trn rot1; grind
theorem trn_rot (a b c : DV) : ∀ n, trn (rotN n a) (rotN n b) (rotN n c) = trn a b c
  | 0 => rfl
  | n + 1 => by
    show trn (rot1 (rotN n a)) (rot1 (rotN n b)) (rot1 (rotN n c)) = _
    rw [trn_rot1, trn_rot a b c n]
theorem okV_neg {v : DV} (h : okV v = true) : okV (negV v) = true := by
  obtain ⟨h1, h2, h3, h4⟩ := okV_b h
  unfold negV
  exact okV_of (by simp only; omega) (by simp only; omega) (by simp only; omega) (by simp only; omega)
theorem poly_neg {l : List DV} (h : polyP l) : polyP (l.map negV) := poly_map h (fun v hv => okV_neg (h.2.1 v hv)) trn_ng
theorem poly_rot {l : List DV} (h : polyP l) (n : Nat) : polyP (l.map (rotN n)) := poly_map h (fun v hv => okV_rot (h.2.1 v hv) n) fun a b c => trn_rot a b c n
theorem inB_b {k : Int} {v : DV} (h : inB k v = true) : -k ≤ v.1 ∧ v.1 ≤ k ∧ -k ≤ v.2 ∧ v.2 ≤ k := by
  unfold inB at h
  rw [Bool.and_eq_true] at h
  exact ⟨(of_decide_eq_true h.1).1, (of_decide_eq_true h.1).2, (of_decide_eq_true h.2).1, (of_decide_eq_true h.2).2⟩
theorem inB_of {k : Int} {v : DV} (h1 : -k ≤ v.1) (h2 : v.1 ≤ k) (h3 : -k ≤ v.2) (h4 : v.2 ≤ k) : inB k v = true := by
  unfold inB
  rw [Bool.and_eq_true, decide_eq_true_iff, decide_eq_true_iff]
  exact ⟨⟨h1, h2⟩, h3, h4⟩
theorem inB_rot {k : Int} {v : DV} (h : inB k v = true) : ∀ n, inB k (rotN n v) = true
  | 0 => h
  | n + 1 => by
    obtain ⟨b1, b2, b3, b4⟩ := inB_b (inB_rot h n)
    show inB k (rot1 (rotN n v)) = true
    unfold rot1
    exact inB_of (by simp only; omega) (by simp only; omega) (by simp only; omega) (by simp only; omega)
/-- A small polygon. -/
structure SmP (k : Int) (l : List DV) : Prop where
  five : l.length ≤ 5
  poly : polyP l
  ins : ∀ v ∈ l, inB k v = true
theorem smB_p {l : List DV} {k : Int} (h : smB l k = true) : SmP k l := by
  unfold smB at h
  rw [Bool.and_eq_true, Bool.and_eq_true] at h
  obtain ⟨h1, h2, h3⟩ := h
  refine ⟨by have := of_decide_eq_true h1; omega, polyB_p h2, fun v hv => ?_⟩
  unfold allIn at h3
  rw [Bool.not_eq_true', List.any_eq_false] at h3
  have := h3 v hv
  simpa using this
theorem SmP.rot {k : Int} {l : List DV} (h : SmP k l) (n : Nat) : SmP k (l.map (rotN n)) :=
  ⟨by rw [List.length_map]; exact h.five, poly_rot h.poly n, fun v hv => by obtain ⟨u, hu, rfl⟩ := List.mem_map.1 hv; exact inB_rot (h.ins u hu) n⟩
theorem SmP.neg {k : Int} {l : List DV} (h : SmP k l) : SmP k (l.map negV) :=
  ⟨by rw [List.length_map]; exact h.five, poly_neg h.poly, fun v hv => by
    obtain ⟨u, hu, rfl⟩ := List.mem_map.1 hv
    obtain ⟨b1, b2, b3, b4⟩ := inB_b (h.ins u hu)
    unfold negV
    exact inB_of (by simp only; omega) (by simp only; omega) (by simp only; omega) (by simp only; omega)⟩
theorem SmP.ok {k : Int} {l : List DV} (h : SmP k l) : ∀ v ∈ l, okV v = true := h.poly.2.1
theorem SmP.sum_ok {k m : Int} {a b : List DV} (ha : SmP k a) (hb : SmP m b) (hkm : k + m ≤ 1000) : ∀ x ∈ smV a b, okV x = true := by
  intro x hx
  obtain ⟨p, hp, q, hq, rfl⟩ := smV_mem.1 hx
  obtain ⟨b1, b2, b3, b4⟩ := inB_b (ha.ins p hp)
  obtain ⟨c1, c2, c3, c4⟩ := inB_b (hb.ins q hq)
  unfold addV
  exact okV_of (by simp only; omega) (by simp only; omega) (by simp only; omega) (by simp only; omega)
theorem SmP.sum {k m : Int} {a b : List DV} (ha : SmP k a) (hb : SmP m b) (hkm : k + m ≤ 1000) : polyP (hullD (smV a b)) :=
  sum_poly ha.poly hb.poly (by have := ha.five; have := hb.five; omega) (ha.sum_ok hb hkm)
def smI (a b : List DV) (i : Nat) : List DV := smV (a.take i) b
theorem smI_step {a b : List DV} {i : Nat} (h : i < a.length) : smI a b (i + 1) = smI a b i ++ b.map (addV (nth (t := tVec) a i)) := by
  unfold smI smV
  rw [List.take_succ_eq_append_getElem h, nth_lt h, List.flatMap_append]
  simp
theorem smV_len (a b : List DV) : (smV a b).length = a.length * b.length := by
  unfold smV
  induction a with
  | nil => simp
  | cons x a ih => rw [List.flatMap_cons, List.length_append, ih, List.length_map, List.length_cons, Nat.succ_mul]; omega
theorem smI_len {a b : List DV} {i : Nat} (h : i ≤ a.length) : (smI a b i).length = i * b.length := by
  unfold smI; rw [smV_len, List.length_take, Nat.min_eq_left h]
theorem smI_all {a b : List DV} {i : Nat} (h : a.length ≤ i) : smI a b i = smV a b := by unfold smI; rw [List.take_of_length_le h]
theorem five_mul {i n : Nat} (h1 : i ≤ 5) (h2 : n ≤ 5) : i * n ≤ 25 := Nat.mul_le_mul h1 h2
theorem SumPolygonsI_fn {k m : Int} (a b : List DV) (ha : SmP k a) (hb : SmP m b) (hkm : k + m ≤ 1000) : Fn Tryz.prog 122 [⟨.slice tVec, a⟩, ⟨.slice tVec, b⟩] true [⟨.slice tVec, hullD (smV a b)⟩] := by
  have c1 := implIsPolygon_fn a
  have c2 := implIsPolygon_fn b
  rw [polyB_t ha.poly] at c1
  rw [polyB_t hb.poly] at c2
  have hab := five_mul ha.five hb.five
  have l1 := ha.five
  have l2 := hb.five
  have hab' : (a.length : Int) * (b.length : Int) ≤ 25 := by exact_mod_cast hab
  have hab0 : (0 : Int) ≤ (a.length : Int) * (b.length : Int) := Int.mul_nonneg (by omega) (by omega)
  have d0 := decide_eq_false (p := (a.length : Int) * (b.length : Int) > 64) (by omega)
  refine fn_enter tabOK mixes Tryz.func122 rfl rfl _ Tryz.ntmps122 _ Tryz.results122 (by simp) fun hwf => ?_
  try simp (maxSteps := 9999999) only [go_sem]
  repeat refine And.intro (by first|omega|(constructor<;>omega)|kernel_rfl) ?_
  refine CallW.mk (c1) ?_
  try simp (maxSteps := 9999999) only [go_sem]
  repeat refine And.intro (by first|omega|(constructor<;>omega)|kernel_rfl) ?_
  refine CallW.mk (c2) ?_
  try simp (maxSteps := 9999999) only [go_sem]
  repeat refine And.intro (by first|omega|(constructor<;>omega)|kernel_rfl) ?_
  try simp (maxSteps := 9999999) only [go_sem, d0]
  refine LoopG.intro _ _ _ (fun i : Nat => ⟨[(1, .sl tVec b), (5, .row 0 0), (26, .sl tVec a), (27, .sc (.int .i64 a.length)), (28, .sc (.int .i64 i))], [(0, .row 113 tVec 0 true (smI a b i))]⟩) (fun i => i ≤ a.length) (fun i => a.length - i) 0 ?_ (Nat.zero_le _) ?_
  · refine Wk.mk [] ?_
    try simp (maxSteps := 9999999) only [go_sem]
    try (and_intros <;> first | rfl | omega | exact ⟨_, rfl⟩)
  · rintro i hi
    try simp (maxSteps := 9999999) only [go_sem]
    refine CondW_dec (fun hA => ?_) (fun hA => ?_)
    · have hlt : i < a.length := by omega
      have hml := smI_len (a := a) (b := b) (i := i) (by omega)
      have h25 := five_mul (i := i) (n := b.length) (by omega) l2
      have e := smI_step (b := b) hlt
      have c3 := moved_fn b (nth (t := tVec) a i) (ha.ok _ (nth_mem hlt)) hb.ok (by omega)
      have hmm : (b.map (addV (nth (t := tVec) a i))).length = b.length := List.length_map ..
      try simp (maxSteps := 9999999) only [go_sem]
      repeat refine And.intro (by first|omega|(constructor<;>omega)|kernel_rfl) ?_
      refine CallW.mk (c3) ?_
      try simp (maxSteps := 9999999) only [go_sem]
      try simp (maxSteps := 9999999) only [go_sem, hml, hmm]
      repeat refine And.intro (by first|omega|(constructor<;>omega)|kernel_rfl) ?_
      refine LoopK.mk (i + 1) ?_ (by omega) (by omega)
      rw [e]
      refine Wk.mk [] ?_
      try simp (maxSteps := 9999999) only [go_sem]
      try (and_intros <;> first | rfl | omega | exact ⟨_, rfl⟩)
    · rw [smI_all (by omega)]
      have hp := ha.sum hb hkm
      have hsl := smV_len a b
      have pos : 0 < (smV a b).length := by
        rw [hsl]
        have := ha.poly.1.1
        have := hb.poly.1.1
        exact Nat.mul_pos (by omega) (by omega)
      have c4 := HullOf_fn (smV a b) (ha.sum_ok hb hkm) pos (by omega)
      have c5 := implIsPolygon_fn (hullD (smV a b))
      rw [polyB_t hp] at c5
      try simp (maxSteps := 9999999) only [go_sem]
      repeat refine And.intro (by first|omega|(constructor<;>omega)|kernel_rfl) ?_
      refine CallW.mk (c4) ?_
      try simp (maxSteps := 9999999) only [go_sem]
      repeat refine And.intro (by first|omega|(constructor<;>omega)|kernel_rfl) ?_
      refine CallW.mk (c5) ?_
      try simp (maxSteps := 9999999) only [go_sem]
theorem addV_c (p q : DV) : addV p q = (p.1 + q.1, p.2 + q.2) := by unfold addV; rw [Int.add_comm q.1, Int.add_comm q.2]
def smJ (a b : List DV) (i j : Nat) : List DV := smI a b i ++ mapi (addV (nth (t := tVec) a i)) b j
theorem smJ_step {a b : List DV} {i j : Nat} (h : j < b.length) : smJ a b i (j + 1) = smJ a b i j ++ [((nth (t := tVec) a i).1 + (nth (t := tVec) b j).1, (nth (t := tVec) a i).2 + (nth (t := tVec) b j).2)] := by
  unfold smJ
  rw [mapi_step h, addV_c, List.append_assoc]
theorem smJ_len {a b : List DV} {i j : Nat} (h : i ≤ a.length) (hj : j ≤ b.length) : (smJ a b i j).length = i * b.length + j := by
  unfold smJ
  rw [List.length_append, smI_len h, mapi_len hj]
theorem smJ_0 (a b : List DV) (i : Nat) : smJ a b i 0 = smI a b i := by unfold smJ mapi; simp
theorem smJ_all {a b : List DV} {i j : Nat} (h : i < a.length) (hj : b.length ≤ j) : smJ a b i j = smI a b (i + 1) := by
  unfold smJ
  rw [smI_step h, mapi_all hj]
theorem SumPolygonsS_fn {k m : Int} (a b : List DV) (ha : SmP k a) (hb : SmP m b) (hkm : k + m ≤ 1000) : Fn Tryz.prog 70 [⟨.slice tVec, a⟩, ⟨.slice tVec, b⟩] true [⟨.slice tVec, hullD (smV a b)⟩] := by
  have c1 := specIsPolygon_fn a
  have c2 := specIsPolygon_fn b
  rw [polyB_t ha.poly] at c1
  rw [polyB_t hb.poly] at c2
  have hab := five_mul ha.five hb.five
  have l1 := ha.five
  have l2 := hb.five
  have hab' : (a.length : Int) * (b.length : Int) ≤ 25 := by exact_mod_cast hab
  have hab0 : (0 : Int) ≤ (a.length : Int) * (b.length : Int) := Int.mul_nonneg (by omega) (by omega)
  have d0 := decide_eq_false (p := (a.length : Int) * (b.length : Int) > 64) (by omega)
  refine fn_enter tabOK mixes Tryz.func70 rfl rfl _ Tryz.ntmps70 _ Tryz.results70 (by simp) fun hwf => ?_
  try simp (maxSteps := 9999999) only [go_sem]
  repeat refine And.intro (by first|omega|(constructor<;>omega)|kernel_rfl) ?_
  refine CallW.mk (c1) ?_
  try simp (maxSteps := 9999999) only [go_sem]
  repeat refine And.intro (by first|omega|(constructor<;>omega)|kernel_rfl) ?_
  refine CallW.mk (c2) ?_
  try simp (maxSteps := 9999999) only [go_sem]
  repeat refine And.intro (by first|omega|(constructor<;>omega)|kernel_rfl) ?_
  try simp (maxSteps := 9999999) only [go_sem, d0]
  refine LoopG.intro _ _ _ (fun i : Nat => ⟨[(1, .sl tVec b), (5, .row 0 0), (28, .sl tVec a), (29, .sc (.int .i64 a.length)), (30, .sc (.int .i64 i))], [(0, .row 113 tVec 0 true (smI a b i))]⟩) (fun i => i ≤ a.length) (fun i => a.length - i) 0 ?_ (Nat.zero_le _) ?_
  · refine Wk.mk [] ?_
    try simp (maxSteps := 9999999) only [go_sem]
    try (and_intros <;> first | rfl | omega | exact ⟨_, rfl⟩)
  · rintro i hi
    try simp (maxSteps := 9999999) only [go_sem]
    refine CondW_dec (fun hA => ?_) (fun hA => ?_)
    · have hlt : i < a.length := by omega
      have h25 := five_mul (i := i) (n := b.length) (by omega) l2
      obtain ⟨q1, q2, q3, q4⟩ := okV_b (ha.ok _ (nth_mem hlt))
      rw [← smJ_0]
      try simp (maxSteps := 9999999) only [go_sem]
      repeat refine And.intro (by first|omega|(constructor<;>omega)|kernel_rfl) ?_
      refine LoopG.intro _ _ _ (fun j : Nat => ⟨[(1, .sl tVec b), (5, .row 0 0), (7, .ptr 1 0), (28, .sl tVec a), (29, .sc (.int .i64 a.length)), (30, .sc (.int .i64 i)), (34, .sl tVec b), (35, .sc (.int .i64 b.length)), (36, .sc (.int .i64 j))], [(1, .box [.sc (.int .i64 (nth (t := tVec) a i).1), .sc (.int .i64 (nth (t := tVec) a i).2)]), (0, .row 113 tVec 0 true (smJ a b i j))]⟩) (fun j => j ≤ b.length) (fun j => b.length - j) 0 ?_ (Nat.zero_le _) ?_
      · refine Wk.mk [] ?_
        try simp (maxSteps := 9999999) only [go_sem]
        try (and_intros <;> first | rfl | omega | exact ⟨_, rfl⟩)
      · rintro j hj
        try simp (maxSteps := 9999999) only [go_sem]
        refine CondW_dec (fun hB => ?_) (fun hB => ?_)
        · have hlt2 : j < b.length := by omega
          have hml := smJ_len (a := a) (b := b) (i := i) (j := j) (by omega) (by omega)
          have e := smJ_step (a := a) (b := b) (i := i) hlt2
          obtain ⟨b1, b2, b3, b4⟩ := okV_b (hb.ok _ (nth_mem hlt2))
          try simp (maxSteps := 9999999) only [go_sem, hml]
          repeat refine And.intro (by first|omega|(constructor<;>omega)|kernel_rfl) ?_
          try simp (maxSteps := 9999999) only [go_sem, hml]
          repeat refine And.intro (by first|omega|(constructor<;>omega)|kernel_rfl) ?_
          refine LoopK.mk (j + 1) ?_ (by omega) (by omega)
          rw [e]
          refine Wk.mk [] ?_
          try simp (maxSteps := 9999999) only [go_sem]
          try (and_intros <;> first | rfl | omega | exact ⟨_, rfl⟩)
          all_goals (first | exact ⟨by omega, rfl⟩ | exact ⟨rfl, rfl⟩)
        · rw [smJ_all hlt (by omega)]
          try simp (maxSteps := 9999999) only [go_sem]
          repeat refine And.intro (by first|omega|(constructor<;>omega)|kernel_rfl) ?_
          refine LoopK.mk (i + 1) ?_ (by omega) (by omega)
          refine Wk.mk [] ?_
          try simp (maxSteps := 9999999) only [go_sem]
          try (and_intros <;> first | rfl | omega | exact ⟨_, rfl⟩)
    · rw [smI_all (by omega)]
      have hp := ha.sum hb hkm
      have hsl := smV_len a b
      have pos : 0 < (smV a b).length := by
        rw [hsl]
        have := ha.poly.1.1
        have := hb.poly.1.1
        exact Nat.mul_pos (by omega) (by omega)
      have c4 := specHull_fn (smV a b) (ha.sum_ok hb hkm) (by omega)
      have c5 := specIsPolygon_fn (hullD (smV a b))
      rw [polyB_t hp] at c5
      try simp (maxSteps := 9999999) only [go_sem]
      repeat refine And.intro (by first|omega|(constructor<;>omega)|kernel_rfl) ?_
      refine CallW.mk (c4) ?_
      try simp (maxSteps := 9999999) only [go_sem]
      repeat refine And.intro (by first|omega|(constructor<;>omega)|kernel_rfl) ?_
      refine CallW.mk (c5) ?_
      try simp (maxSteps := 9999999) only [go_sem]
/-- What a robot blocks. -/
def obsD (r o : List DV) : List DV := hullD (smV o (r.map negV))
theorem ObstacleForI_fn {k m : Int} (r o : List DV) (hr : SmP k r) (ho : SmP m o) (hkm : m + k ≤ 1000) : Fn Tryz.prog 84 [⟨.slice tVec, r⟩, ⟨.slice tVec, o⟩] true [⟨.slice tVec, obsD r o⟩] := by
  have c1 := NegatePolygonI_fn r hr.ok (by have := hr.five; omega)
  have c2 := SumPolygonsI_fn o (r.map negV) ho hr.neg hkm
  unfold obsD
  refine fn_enter tabOK mixes Tryz.func84 rfl rfl _ Tryz.ntmps84 _ Tryz.results84 (by simp) fun hwf => ?_
  try simp (maxSteps := 9999999) only [go_sem]
  repeat refine And.intro (by first|omega|(constructor<;>omega)|kernel_rfl) ?_
  refine CallW.mk (c1) ?_
  try simp (maxSteps := 9999999) only [go_sem]
  repeat refine And.intro (by first|omega|(constructor<;>omega)|kernel_rfl) ?_
  refine CallW.mk (c2) ?_
  try simp (maxSteps := 9999999) only [go_sem]
theorem ObstacleForS_fn {k m : Int} (r o : List DV) (hr : SmP k r) (ho : SmP m o) (hkm : m + k ≤ 1000) : Fn Tryz.prog 34 [⟨.slice tVec, r⟩, ⟨.slice tVec, o⟩] true [⟨.slice tVec, obsD r o⟩] := by
  have c1 := NegatePolygonS_fn r hr.ok (by have := hr.five; omega)
  have c2 := SumPolygonsS_fn o (r.map negV) ho hr.neg hkm
  unfold obsD
  refine fn_enter tabOK mixes Tryz.func34 rfl rfl _ Tryz.ntmps34 _ Tryz.results34 (by simp) fun hwf => ?_
  try simp (maxSteps := 9999999) only [go_sem]
  repeat refine And.intro (by first|omega|(constructor<;>omega)|kernel_rfl) ?_
  refine CallW.mk (c1) ?_
  try simp (maxSteps := 9999999) only [go_sem]
  repeat refine And.intro (by first|omega|(constructor<;>omega)|kernel_rfl) ?_
  refine CallW.mk (c2) ?_
  try simp (maxSteps := 9999999) only [go_sem]
theorem obs_poly {k m : Int} {r o : List DV} (hr : SmP k r) (ho : SmP m o) (hkm : m + k ≤ 1000) : polyP (obsD r o) := ho.sum hr.neg hkm
/-- Where a point is of a polygon. -/
noncomputable def cpD (l : List DV) (p : DP) : Int := if okPt p then cntI l p l.length else -1
theorem ContainsS_fn (l : List DV) (p : DP) (hl : polyP l) : Fn Tryz.prog 36 [⟨.slice tVec, l⟩, ⟨tPoint, p⟩] false [⟨.int, cpD l p⟩] := by
  have c1 := specIsPolygon_fn l
  rw [polyB_t hl] at c1
  have c2 := specIsValidPoint_fn p
  have hn := hl.1.2
  unfold cpD
  cases h : okPt p <;> rw [h] at c2
  · rw [if_neg (by decide)]
    refine fn_enter tabOK mixes Tryz.func36 rfl rfl _ Tryz.ntmps36 _ Tryz.results36 (by simp) fun hwf => ?_
    try simp (maxSteps := 9999999) only [go_sem]
    repeat refine And.intro (by first|omega|(constructor<;>omega)|kernel_rfl) ?_
    refine CallW.mk (c1) ?_
    try simp (maxSteps := 9999999) only [go_sem]
    repeat refine And.intro (by first|omega|(constructor<;>omega)|kernel_rfl) ?_
    refine CallW.mk (c2) ?_
    try simp (maxSteps := 9999999) only [go_sem]
    all_goals repeat refine And.intro (by first|omega|(constructor<;>omega)|kernel_rfl) ?_
    all_goals first | kernel_rfl | omega | rfl
  · rw [if_pos rfl]
    refine fn_enter tabOK mixes Tryz.func36 rfl rfl _ Tryz.ntmps36 _ Tryz.results36 (by simp) fun hwf => ?_
    try simp (maxSteps := 9999999) only [go_sem]
    repeat refine And.intro (by first|omega|(constructor<;>omega)|kernel_rfl) ?_
    refine CallW.mk (c1) ?_
    try simp (maxSteps := 9999999) only [go_sem]
    repeat refine And.intro (by first|omega|(constructor<;>omega)|kernel_rfl) ?_
    refine CallW.mk (c2) ?_
    try simp (maxSteps := 9999999) only [go_sem]
    refine LoopG.intro _ _ _ (fun i : Nat => ⟨[(0, .sl tVec l), (3, .ptr 0 0), (5, .sc (.int .i64 (cntI l p i))), (17, .sl tVec l), (18, .sc (.int .i64 l.length)), (19, .sc (.int .i64 i))], [(0, .box (cel tPoint p))]⟩) (fun i => i ≤ l.length) (fun i => l.length - i) 0 ?_ (Nat.zero_le _) ?_
    · refine Wk.mk [] ?_
      try simp (maxSteps := 9999999) only [go_sem]
      try (and_intros <;> first | rfl | omega | exact ⟨_, rfl⟩)
    · rintro i hi
      try simp (maxSteps := 9999999) only [go_sem]
      refine CondW_dec (fun hA => ?_) (fun hA => ?_)
      · have hlt : i < l.length := by omega
        have hr := nxt_rng (n := l.length) (i := i) (by omega)
        have hr2 : (nxt l.length i).toNat < l.length := by omega
        have c3 := PointOfS_fn (nth (t := tVec) l i)
        have c4 := PointOfS_fn (nth (t := tVec) l (nxt l.length i).toNat)
        have c5 := specSide_fn (ptV (nth (t := tVec) l i)) (ptV (nth (t := tVec) l (nxt l.length i).toNat)) p
        unfold nxt at hr hr2 c4 c5
        have hst : cntI l p (i + 1) = min (cntI l p i) (sdP (ptV (nth (t := tVec) l i)) (ptV (nth (t := tVec) l (((i : Int) + 1) % (l.length : Int)).toNat)) p) := rfl
        try simp (maxSteps := 9999999) only [go_sem]
        repeat refine And.intro (by first|omega|(constructor<;>omega)|kernel_rfl) ?_
        refine CallW.mk (c3) ?_
        try simp (maxSteps := 9999999) only [go_sem]
        repeat refine And.intro (by first|omega|(constructor<;>omega)|kernel_rfl) ?_
        refine RemW.pos (by omega) (by omega) ?_
        try simp (maxSteps := 9999999) only [go_sem]
        repeat refine And.intro (by first|omega|(constructor<;>omega)|kernel_rfl) ?_
        refine CallW.mk (c4) ?_
        try simp (maxSteps := 9999999) only [go_sem]
        repeat refine And.intro (by first|omega|(constructor<;>omega)|kernel_rfl) ?_
        refine CallW.mk (c5) ?_
        try simp (maxSteps := 9999999) only [go_sem]
        repeat refine And.intro (by first|omega|(constructor<;>omega)|kernel_rfl) ?_
        refine CondW_dec (fun hB => ?_) (fun hB => ?_)
        · rw [Int.min_eq_right (by omega)] at hst
          try simp (maxSteps := 9999999) only [go_sem]
          repeat refine And.intro (by first|omega|(constructor<;>omega)|kernel_rfl) ?_
          refine LoopK.mk (i + 1) ?_ (by omega) (by omega)
          rw [hst]
          refine Wk.mk [] ?_
          try simp (maxSteps := 9999999) only [go_sem]
          try (and_intros <;> first | rfl | omega | exact ⟨_, rfl⟩)
        · rw [Int.min_eq_left (by omega)] at hst
          try simp (maxSteps := 9999999) only [go_sem]
          repeat refine And.intro (by first|omega|(constructor<;>omega)|kernel_rfl) ?_
          refine LoopK.mk (i + 1) ?_ (by omega) (by omega)
          rw [hst]
          refine Wk.mk [] ?_
          try simp (maxSteps := 9999999) only [go_sem]
          try (and_intros <;> first | rfl | omega | exact ⟨_, rfl⟩)
      · rw [show l.length = i by omega]
        try simp (maxSteps := 9999999) only [go_sem]
        all_goals repeat refine And.intro (by first|omega|(constructor<;>omega)|kernel_rfl) ?_
        all_goals first | kernel_rfl | omega | rfl
end Go.Proofs.YtghckbohaghgkaaGreat.DW

/-
  The distance of a point from a polygon; discs.
-/
namespace Go.Proofs.YtghckbohaghgkaaGreat.DW
open Go.RowKit
theorem cap_z : capR (0 : Rat) = zeroO := by
  have := okO_zero _ rfl
  exact capR_s (q := ((0 : Int) : Rat)) this
theorem sqD_self {a : DP} (h : okPt a = true) : sqD a a = zeroO := by
  obtain ⟨p1, p2⟩ := Bool.and_eq_true_iff.1 (show (okR a.1 && okR a.2) = true from h)
  obtain ⟨x, _, _, e1⟩ := okR_t p1
  obtain ⟨y, _, _, e2⟩ := okR_t p2
  have s : ∀ x : Rat, subO (some x) (some x) = zeroO := fun x => by
    show capR (x + -x) = _
    rw [← Rat.sub_eq_add_neg, Rat.sub_self, cap_z]
  have m : mulO zeroO zeroO = zeroO := by
    show capR (((0 : Int) : Rat) * ((0 : Int) : Rat)) = _
    rw [show (((0 : Int) : Rat) * ((0 : Int) : Rat)) = 0 from Rat.zero_mul _, cap_z]
  unfold sqD
  rw [e1, e2, s, s, m]
  show capR (((0 : Int) : Rat) + ((0 : Int) : Rat)) = _
  rw [show (((0 : Int) : Rat) + ((0 : Int) : Rat)) = 0 from Rat.add_zero _, cap_z]
theorem capR_some {q r : Rat} (h : capR q = some r) : r = q := by
  by_cases hs : small q
  · rw [capR_s hs] at h; injection h with h; exact h.symm
  · rw [capR_n hs] at h; cases h
theorem rat_sq_nn (x : Rat) : 0 ≤ x * x := by
  rcases Rat.le_total (a := 0) (b := x) with h | h
  · exact Rat.mul_nonneg h h
  · have h2 : 0 ≤ -x := by have := Rat.neg_le_neg h; rwa [Rat.neg_zero] at this
    have := Rat.mul_nonneg h2 h2
    rwa [Rat.neg_mul, Rat.mul_neg, Rat.neg_neg] at this
theorem rat_sum_z {x y : Rat} (hx : 0 ≤ x) (hy : 0 ≤ y) (h : x + y = 0) : x = 0 ∧ y = 0 := by
  have h1 : x ≤ 0 := by have := (Rat.add_le_add_left (c := x)).2 hy; rwa [Rat.add_zero, h] at this
  have hx0 := Rat.le_antisymm h1 hx
  subst hx0
  rw [Rat.zero_add] at h
  exact ⟨rfl, h⟩
theorem subO_z {x y : Option Rat} {d : Rat} (h : subO x y = some d) (hd : d = 0) : x = y := by
  cases x with
  | none => cases h
  | some p =>
    cases y with
    | none => cases h
    | some q =>
      have e := capR_some (show capR (p + -q) = some d from h)
      rw [hd, ← Rat.sub_eq_add_neg] at e
      have : p = q := by
        have h2 : p - q + q = 0 + q := by rw [← e]
        rwa [Rat.sub_add_cancel, Rat.zero_add] at h2
      rw [this]
theorem mulO_some {x : Option Rat} {u : Rat} (h : mulO x x = some u) : ∃ d, x = some d ∧ u = d * d := by
  cases x with
  | none => cases h
  | some d => exact ⟨d, rfl, capR_some h⟩
theorem sqD_zero {a b : DP} (ha : okPt a = true) (hb : okPt b = true) (h : sqD a b = some 0) : a = b := by
  obtain ⟨a1, a2⟩ := Bool.and_eq_true_iff.1 (show (okR a.1 && okR a.2) = true from ha)
  obtain ⟨b1, b2⟩ := Bool.and_eq_true_iff.1 (show (okR b.1 && okR b.2) = true from hb)
  unfold sqD at h
  cases hu : mulO (subO (rdO a.1) (rdO b.1)) (subO (rdO a.1) (rdO b.1)) with
  | none => rw [hu] at h; cases h
  | some u =>
    cases hv : mulO (subO (rdO a.2) (rdO b.2)) (subO (rdO a.2) (rdO b.2)) with
    | none => rw [hu, hv] at h; cases h
    | some v =>
      rw [hu, hv] at h
      have hz := capR_some (show capR (u + v) = some 0 from h)
      obtain ⟨d, hd, e1⟩ := mulO_some hu
      obtain ⟨e, he, e2⟩ := mulO_some hv
      obtain ⟨z1, z2⟩ := rat_sum_z (e1 ▸ rat_sq_nn d) (e2 ▸ rat_sq_nn e) hz.symm
      have d0 : d = 0 := by rw [e1] at z1; exact (Rat.mul_eq_zero.1 z1).elim id id
      have e0 : e = 0 := by rw [e2] at z2; exact (Rat.mul_eq_zero.1 z2).elim id id
      have q1 := subO_z hd d0
      have q2 := subO_z he e0
      refine Prod.ext ?_ ?_
      · rw [← okR_oD a1, ← okR_oD b1, q1]
      · rw [← okR_oD a2, ← okR_oD b2, q2]
theorem sgnO_zero {x : Option Rat} (h : sgnO x = 0) : x = none ∨ x = some 0 := by
  cases x with
  | none => exact .inl rfl
  | some p =>
    refine .inr ?_
    have h : cmpQ p 0 = 0 := h
    unfold cmpQ at h
    by_cases h1 : p < 0
    · simp [h1] at h
    · by_cases h2 : 0 < p
      · simp [h1, h2] at h
      · rw [Rat.le_antisymm (Rat.not_lt.1 h2) (Rat.not_lt.1 h1)]
theorem segD_none {p a b : DP} (ha : okPt a = true) (h : sqD a b = none) : segD p a b = none := by
  have hne : eqb a b = false := by
    refine eqb_false fun e => ?_
    subst e
    rw [sqD_self ha] at h; cases h
  unfold segD
  rw [hne, if_neg (by decide)]
  have ht : tD p a b = none := by unfold tD; rw [h, divO_none_r]; rfl
  rw [ht]
  unfold sqD nearD
  rw [mulO_none_l, show addO (rdO a.1) none = none by cases rdO a.1 <;> rfl, rdO_oD okO_none]
  rw [show subO (rdO p.1) none = none by cases rdO p.1 <;> rfl]
  rfl
theorem addO_z {x : Option Rat} (h : okO x) : addO zeroO x = x := by
  cases x with
  | none => rfl
  | some p =>
    show capR (((0 : Int) : Rat) + p) = some p
    rw [show (((0 : Int) : Rat) + p) = p from Rat.zero_add p]
    exact capR_s (h p rfl)
set_option maxRecDepth 100000 in
set_option maxHeartbeats 1000000 in
theorem SquareToSegmentS_fn (p a b : DP) (ha : okPt a = true) (hb : okPt b = true) : Fn Tryz.prog 140 [⟨tPoint, p⟩, ⟨tPoint, a⟩, ⟨tPoint, b⟩] true [⟨tRat, oD (segD p a b)⟩] := by
  have c1 := SquareDistanceS_fn a b
  have c2 := specRatSign_fn (oD (sqD a b))
  rw [rdO_oD (okO_sqD _ _)] at c2
  by_cases hz : sgnO (sqD a b) = 0
  · have d1 := decide_eq_true hz
    have c3 := specRatMul_fn (oD (sqD a b)) (oD (sqD a b))
    rw [rdO_oD (okO_sqD _ _)] at c3
    have c4 := SquareDistanceS_fn p a
    have c5 := specRatAdd_fn (oD (mulO (sqD a b) (sqD a b))) (oD (sqD p a))
    rw [rdO_oD (okO_mul _ _), rdO_oD (okO_sqD _ _)] at c5
    have e : addO (mulO (sqD a b) (sqD a b)) (sqD p a) = segD p a b := by
      rcases sgnO_zero hz with h | h
      · rw [segD_none ha h, h]; rfl
      · have hab := sqD_zero ha hb h
        subst hab
        have m : mulO (some 0) (some 0) = zeroO := by
          show capR ((0 : Rat) * 0) = _
          rw [Rat.zero_mul, cap_z]
        unfold segD
        rw [h, m, addO_z (okO_sqD _ _), eqb_true rfl, if_pos rfl]
    rw [e] at c5
    refine fn_enter tabOK mixes Tryz.func140 rfl rfl _ Tryz.ntmps140 _ Tryz.results140 (by simp) fun hwf => ?_
    try simp (maxSteps := 9999999) only [go_sem]
    repeat refine And.intro (by first|omega|(constructor<;>omega)|kernel_rfl) ?_
    refine CallW.mk (c1) ?_
    try simp (maxSteps := 9999999) only [go_sem]
    repeat refine And.intro (by first|omega|(constructor<;>omega)|kernel_rfl) ?_
    refine CallW.mk (c2) ?_
    try simp (maxSteps := 9999999) only [go_sem]
    try simp (maxSteps := 9999999) only [go_sem, d1]
    repeat refine And.intro (by first|omega|(constructor<;>omega)|kernel_rfl) ?_
    refine CallW.mk (c3) ?_
    try simp (maxSteps := 9999999) only [go_sem]
    repeat refine And.intro (by first|omega|(constructor<;>omega)|kernel_rfl) ?_
    refine CallW.mk (c4) ?_
    try simp (maxSteps := 9999999) only [go_sem]
    repeat refine And.intro (by first|omega|(constructor<;>omega)|kernel_rfl) ?_
    refine CallW.mk (c5) ?_
    try simp (maxSteps := 9999999) only [go_sem]
    all_goals repeat refine And.intro (by first|omega|(constructor<;>omega)|kernel_rfl) ?_
    all_goals first | kernel_rfl | omega | rfl
  · have d1 := decide_eq_false hz
    have hne : eqb a b = false := by
      refine eqb_false fun e => ?_
      subst e
      rw [sqD_self ha] at hz
      exact hz (cmpQ_self _)
    have c3 := InnerProductS_fn a b p
    rw [inD_comm] at c3
    have c4 := specRatDiv_fn (oD (inD a p b)) (oD (sqD a b))
    rw [rdO_oD (okO_inD _ _ _), rdO_oD (okO_sqD _ _)] at c4
    have c5 := RatFromInt_fn 0
    have c6 := RatFromInt_fn 1
    rw [ratI_z] at c5
    rw [ratI_1] at c6
    have c7 := specRatMax_fn (oD (divO (inD a p b) (sqD a b))) (oD zeroO)
    rw [rdO_oD (okO_div _ _), rdO_oD okO_zero, maxO_comm] at c7
    have c8 := specRatMin_fn (oD (maxO zeroO (divO (inD a p b) (sqD a b)))) (oD oneO)
    rw [rdO_oD (okO_max okO_zero (okO_div _ _)), rdO_oD okO_one, minO_comm] at c8
    have e7 : minO oneO (maxO zeroO (divO (inD a p b) (sqD a b))) = tD p a b := rfl
    rw [e7] at c8
    have c9 := specRatSub_fn b.1 a.1
    have c10 := specRatMul_fn (oD (tD p a b)) (oD (subO (rdO b.1) (rdO a.1)))
    rw [rdO_oD (okO_tD _ _ _), rdO_oD (okO_sub _ _)] at c10
    have c11 := specRatAdd_fn a.1 (oD (mulO (tD p a b) (subO (rdO b.1) (rdO a.1))))
    rw [rdO_oD (okO_mul _ _)] at c11
    have c12 := specRatSub_fn b.2 a.2
    have c13 := specRatMul_fn (oD (tD p a b)) (oD (subO (rdO b.2) (rdO a.2)))
    rw [rdO_oD (okO_tD _ _ _), rdO_oD (okO_sub _ _)] at c13
    have c14 := specRatAdd_fn a.2 (oD (mulO (tD p a b) (subO (rdO b.2) (rdO a.2))))
    rw [rdO_oD (okO_mul _ _)] at c14
    have c15 := SquareDistanceS_fn p (nearD a b (tD p a b))
    unfold segD
    rw [hne, if_neg (by decide)]
    unfold nearD at c15 ⊢
    generalize tD p a b = t at c8 c10 c11 c13 c14 c15 ⊢
    generalize divO (inD a p b) (sqD a b) = dv at c4 c7 c8
    refine fn_enter tabOK mixes Tryz.func140 rfl rfl _ Tryz.ntmps140 _ Tryz.results140 (by simp) fun hwf => ?_
    try simp (maxSteps := 9999999) only [go_sem]
    repeat refine And.intro (by first|omega|(constructor<;>omega)|kernel_rfl) ?_
    refine CallW.mk (c1) ?_
    try simp (maxSteps := 9999999) only [go_sem]
    repeat refine And.intro (by first|omega|(constructor<;>omega)|kernel_rfl) ?_
    refine CallW.mk (c2) ?_
    try simp (maxSteps := 9999999) only [go_sem]
    try simp (maxSteps := 9999999) only [go_sem, d1]
    repeat refine And.intro (by first|omega|(constructor<;>omega)|kernel_rfl) ?_
    refine CallW.mk (c3) ?_
    try simp (maxSteps := 9999999) only [go_sem]
    repeat refine And.intro (by first|omega|(constructor<;>omega)|kernel_rfl) ?_
    refine CallW.mk (c4) ?_
    try simp (maxSteps := 9999999) only [go_sem]
    repeat refine And.intro (by first|omega|(constructor<;>omega)|kernel_rfl) ?_
    refine CallW.mk (c5) ?_
    try simp (maxSteps := 9999999) only [go_sem]
    repeat refine And.intro (by first|omega|(constructor<;>omega)|kernel_rfl) ?_
    refine CallW.mk (c7) ?_
    try simp (maxSteps := 9999999) only [go_sem]
    repeat refine And.intro (by first|omega|(constructor<;>omega)|kernel_rfl) ?_
    refine CallW.mk (c6) ?_
    try simp (maxSteps := 9999999) only [go_sem]
    repeat refine And.intro (by first|omega|(constructor<;>omega)|kernel_rfl) ?_
    refine CallW.mk (c8) ?_
    try simp (maxSteps := 9999999) only [go_sem]
    repeat refine And.intro (by first|omega|(constructor<;>omega)|kernel_rfl) ?_
    refine CallW.mk (c9) ?_
    try simp (maxSteps := 9999999) only [go_sem]
    repeat refine And.intro (by first|omega|(constructor<;>omega)|kernel_rfl) ?_
    refine CallW.mk (c10) ?_
    try simp (maxSteps := 9999999) only [go_sem]
    repeat refine And.intro (by first|omega|(constructor<;>omega)|kernel_rfl) ?_
    refine CallW.mk (c11) ?_
    try simp (maxSteps := 9999999) only [go_sem]
    repeat refine And.intro (by first|omega|(constructor<;>omega)|kernel_rfl) ?_
    refine CallW.mk (c12) ?_
    try simp (maxSteps := 9999999) only [go_sem]
    repeat refine And.intro (by first|omega|(constructor<;>omega)|kernel_rfl) ?_
    refine CallW.mk (c13) ?_
    try simp (maxSteps := 9999999) only [go_sem]
    repeat refine And.intro (by first|omega|(constructor<;>omega)|kernel_rfl) ?_
    refine CallW.mk (c14) ?_
    try simp (maxSteps := 9999999) only [go_sem]
    repeat refine And.intro (by first|omega|(constructor<;>omega)|kernel_rfl) ?_
    refine CallW.mk (c15) ?_
    try simp (maxSteps := 9999999) only [go_sem]
    all_goals repeat refine And.intro (by first|omega|(constructor<;>omega)|kernel_rfl) ?_
    all_goals first | kernel_rfl | omega | rfl
theorem cmpQ_le {p q : Rat} : cmpQ p q ≤ 0 ↔ p ≤ q := by
  unfold cmpQ
  by_cases h1 : p < q
  · simp [h1, Rat.le_of_lt h1]
  · by_cases h2 : q < p
    · simp [h1, h2]; exact Rat.not_le.2 h2
    · simp [h1, h2]; exact Rat.not_lt.1 h2
theorem minO_le {p q : Rat} (h : p ≤ q) : minO (some p) (some q) = some p := by
  show (if cmpQ p q ≤ 0 then some p else some q) = _
  rw [if_pos (cmpQ_le.2 h)]
theorem minO_ge {p q : Rat} (h : q ≤ p) : minO (some p) (some q) = some q := by rw [minO_comm, minO_le h]
theorem minO_self (x : Option Rat) : minO x x = x := by
  cases x with
  | none => rfl
  | some p => exact minO_le Rat.le_refl
theorem minO_nr (x : Option Rat) : minO x none = none := by cases x <;> rfl
theorem minO_assoc (x y z : Option Rat) : minO (minO x y) z = minO x (minO y z) := by
  cases x with
  | none => cases y <;> cases z <;> rfl
  | some p =>
    cases y with
    | none => cases z <;> rfl
    | some q =>
      cases z with
      | none => rw [minO_nr, minO_nr, minO_nr]
      | some r =>
        rcases Rat.le_total (a := p) (b := q) with h1 | h1
        · rw [minO_le h1]
          rcases Rat.le_total (a := q) (b := r) with h2 | h2
          · rw [minO_le h2, minO_le h1, minO_le (Rat.le_trans h1 h2)]
          · rw [minO_ge h2]
        · rw [minO_ge h1]
          rcases Rat.le_total (a := q) (b := r) with h2 | h2
          · rw [minO_le h2, minO_ge h1]
          · rw [minO_ge h2, minO_ge (Rat.le_trans h2 h1)]
/-- The distance from the edge at corner i. -/
noncomputable def edO (l : List DV) (p : DP) (i : Nat) : Option Rat := segD p (ptV (nth (t := tVec) l i)) (ptV (nth (t := tVec) l (nxt l.length i).toNat))
noncomputable def leS (l : List DV) (p : DP) : Nat → Option Rat
  | 0 => edO l p 0
  | i + 1 => minO (leS l p i) (edO l p i)
noncomputable def leI (l : List DV) (p : DP) : Nat → Option Rat
  | 0 => edO l p (l.length - 1)
  | i + 1 => minO (leI l p i) (edO l p i)
theorem leI_S (l : List DV) (p : DP) : ∀ i, leI l p (i + 1) = minO (edO l p (l.length - 1)) (leS l p (i + 1))
  | 0 => by show minO (edO l p (l.length - 1)) (edO l p 0) = minO _ (minO (edO l p 0) (edO l p 0)); rw [minO_self]
  | i + 1 => by
    show minO (leI l p (i + 1)) _ = minO _ (minO (leS l p (i + 1)) _)
    rw [leI_S l p i, minO_assoc]
theorem leI_all {l : List DV} (p : DP) (h : 2 ≤ l.length) : leI l p (l.length - 1) = leS l p l.length := by
  obtain ⟨n, hn⟩ : ∃ n, l.length = n + 2 := ⟨l.length - 2, by omega⟩
  have := leI_S l p n
  rw [show l.length - 1 = n + 1 by omega, this, hn]
  show minO _ _ = minO (leS l p (n + 1)) (edO l p (n + 1))
  rw [minO_comm, show n + 2 - 1 = n + 1 by omega]
theorem okO_edO (l : List DV) (p : DP) (i : Nat) : okO (edO l p i) := okO_segD _ _ _
theorem okO_leS (l : List DV) (p : DP) : ∀ i, okO (leS l p i)
  | 0 => okO_edO _ _ _
  | i + 1 => okO_min (okO_leS l p i) (okO_edO _ _ _)
theorem okO_leI (l : List DV) (p : DP) : ∀ i, okO (leI l p i)
  | 0 => okO_edO _ _ _
  | i + 1 => okO_min (okO_leI l p i) (okO_edO _ _ _)
noncomputable def tpD (l : List DV) (p : DP) : Option Rat := if 0 ≤ cntI l p l.length then zeroO else leS l p l.length
theorem okO_tpD (l : List DV) (p : DP) : okO (tpD l p) := by
  unfold tpD; split
  · exact okO_zero
  · exact okO_leS _ _ _
set_option maxRecDepth 100000 in
set_option maxHeartbeats 1000000 in
theorem toPolygon_fn (l : List DV) (p : DP) (hl : polyP l) (hp : okPt p = true) : Fn Tryz.prog 149 [⟨.slice tVec, l⟩, ⟨tPoint, p⟩] false [⟨tRat, oD (tpD l p)⟩] := by
  have h3 : 3 ≤ l.length := by have := hl.1.1; omega
  have hn : l.length ≤ 1048576 := by have := hl.1.2; omega
  have c1 := contains_fn l p hl.2.1 hn hp
  have c3 := pointsOf_fn l hn
  have hml : (l.map ptV).length = l.length := List.length_map ..
  have ptok : ∀ i, i < l.length → okPt (ptV (nth (t := tVec) l i)) = true := fun i hi => okPt_ptV (hl.2.1 _ (nth_mem hi))
  by_cases h0 : 0 ≤ cntI l p l.length
  · have d1 := decide_eq_true (p := cntI l p l.length ≥ 0) h0
    have c2 := ratInt_fn 0
    rw [ratI_z] at c2
    rw [show tpD l p = zeroO from if_pos h0]
    refine fn_enter tabOK mixes Tryz.func149 rfl rfl _ Tryz.ntmps149 _ Tryz.results149 (by simp) fun hwf => ?_
    try simp (maxSteps := 9999999) only [go_sem]
    repeat refine And.intro (by first|omega|(constructor<;>omega)|kernel_rfl) ?_
    refine CallW.mk (c1) ?_
    try simp (maxSteps := 9999999) only [go_sem]
    try simp (maxSteps := 9999999) only [go_sem, d1]
    repeat refine And.intro (by first|omega|(constructor<;>omega)|kernel_rfl) ?_
    refine CallW.mk (c2) ?_
    try simp (maxSteps := 9999999) only [go_sem]
    all_goals repeat refine And.intro (by first|omega|(constructor<;>omega)|kernel_rfl) ?_
    all_goals first | kernel_rfl | omega | rfl
  · have d1 := decide_eq_false (p := cntI l p l.length ≥ 0) h0
    rw [show tpD l p = leS l p l.length from if_neg h0, ← leI_all p (by omega)]
    have s0 := toSegment_fn p (ptV (nth (t := tVec) l (l.length - 1))) (ptV (nth (t := tVec) l 0)) (gP_ok hp) (gP_ok (ptok _ (by omega))) (gP_ok (ptok _ (by omega)))
    have e0 : segD p (ptV (nth (t := tVec) l (l.length - 1))) (ptV (nth (t := tVec) l 0)) = leI l p 0 := by
      show _ = edO l p (l.length - 1)
      unfold edO
      rw [nxt_end (by omega)]
    rw [e0, ← nth_ptV (by omega), ← nth_ptV (by omega)] at s0
    have ei : ((l.length : Int) - 1).toNat = l.length - 1 := by omega
    rw [← ei] at s0
    refine fn_enter tabOK mixes Tryz.func149 rfl rfl _ Tryz.ntmps149 _ Tryz.results149 (by simp) fun hwf => ?_
    try simp (maxSteps := 9999999) only [go_sem]
    repeat refine And.intro (by first|omega|(constructor<;>omega)|kernel_rfl) ?_
    refine CallW.mk (c1) ?_
    try simp (maxSteps := 9999999) only [go_sem]
    try simp (maxSteps := 9999999) only [go_sem, d1]
    repeat refine And.intro (by first|omega|(constructor<;>omega)|kernel_rfl) ?_
    refine CallW.mk (c3) ?_
    try simp (maxSteps := 9999999) only [go_sem]
    try simp (maxSteps := 9999999) only [go_sem, hml]
    repeat refine And.intro (by first|omega|(constructor<;>omega)|kernel_rfl) ?_
    refine CallW.mk (s0) ?_
    try simp (maxSteps := 9999999) only [go_sem]
    repeat refine And.intro (by first|omega|(constructor<;>omega)|kernel_rfl) ?_
    refine LoopG.intro _ _ _ (fun i : Nat => ⟨[(3, .ptr 0 0), (4, .ptr 1 0), (5, .sl tPoint (l.map ptV)), (6, .ptr 2 0), (7, .sc (.int .i64 (i + 1)))], [(2, .box (cel tRat (oD (leI l p i)))), (1, .box (cel tRat (oD none))), (0, .box (cel tPoint p))]⟩) (fun i => i + 1 ≤ l.length) (fun i => l.length - i) 0 ?_ (by omega) ?_
    · refine Wk.mk [(2, 5)] ?_
      try simp (maxSteps := 9999999) only [go_sem]
      try (and_intros <;> first | rfl | omega | exact ⟨_, rfl⟩)
    · rintro i hi
      try simp (maxSteps := 9999999) only [go_sem, hml]
      refine CondW_dec (fun hA => ?_) (fun hA => ?_)
      · have hlt : i + 1 < l.length := by omega
        have s1 := toSegment_fn p (ptV (nth (t := tVec) l i)) (ptV (nth (t := tVec) l (i + 1))) (gP_ok hp) (gP_ok (ptok _ (by omega))) (gP_ok (ptok _ (by omega)))
        have e1 : segD p (ptV (nth (t := tVec) l i)) (ptV (nth (t := tVec) l (i + 1))) = edO l p i := by
          unfold edO
          rw [nxt_lt (by omega)]
        rw [e1, ← nth_ptV (by omega), ← nth_ptV (by omega)] at s1
        have s2 := ratMin_fn (leI l p i) (edO l p i) (okO_leI _ _ _) (okO_edO _ _ _)
        have hst : leI l p (i + 1) = minO (leI l p i) (edO l p i) := rfl
        have q1 : ((i : Int) + 1 - 1).toNat = i := by omega
        have q2 : ((i : Int) + 1).toNat = i + 1 := by omega
        try simp (maxSteps := 9999999) only [go_sem]
        repeat refine And.intro (by first|omega|(constructor<;>omega)|kernel_rfl) ?_
        rw [q1, q2]
        repeat refine And.intro (by first|omega|(constructor<;>omega)|kernel_rfl) ?_
        refine CallW.mk (s1) ?_
        try simp (maxSteps := 9999999) only [go_sem]
        repeat refine And.intro (by first|omega|(constructor<;>omega)|kernel_rfl) ?_
        refine CallW.mk (s2) ?_
        try simp (maxSteps := 9999999) only [go_sem]
        repeat refine And.intro (by first|omega|(constructor<;>omega)|kernel_rfl) ?_
        refine LoopK.mk (i + 1) ?_ (by omega) (by omega)
        rw [hst]
        refine Wk.mk [] ?_
        try simp (maxSteps := 9999999) only [go_sem]
        try (and_intros <;> first | rfl | omega | exact ⟨_, rfl⟩)
      · rw [show l.length - 1 = i by omega]
        try simp (maxSteps := 9999999) only [go_sem]
        all_goals repeat refine And.intro (by first|omega|(constructor<;>omega)|kernel_rfl) ?_
        all_goals first | kernel_rfl | omega | rfl
end Go.Proofs.YtghckbohaghgkaaGreat.DW

/-
  The distance of a point from a polygon, the reference's; discs; how far a robot reaches.
-/
namespace Go.Proofs.YtghckbohaghgkaaGreat.DW
open Go.RowKit
noncomputable def stpD (l : List DV) (p : DP) : Option Rat := if okPt p then tpD l p else none
theorem okO_stpD (l : List DV) (p : DP) : okO (stpD l p) := by
  unfold stpD; split
  · exact okO_tpD _ _
  · exact okO_none
set_option maxRecDepth 100000 in
set_option maxHeartbeats 1000000 in
theorem SquareToPolygonS_fn (l : List DV) (p : DP) (hl : polyP l) : Fn Tryz.prog 101 [⟨.slice tVec, l⟩, ⟨tPoint, p⟩] false [⟨tRat, oD (stpD l p)⟩] := by
  have h3 : 3 ≤ l.length := by have := hl.1.1; omega
  have hn : l.length ≤ 1048576 := by have := hl.1.2; omega
  have c0 := specIsPolygon_fn l
  rw [polyB_t hl] at c0
  have c1 := specIsValidPoint_fn p
  have c2 := ContainsS_fn l p hl
  have ptok : ∀ i, i < l.length → okPt (ptV (nth (t := tVec) l i)) = true := fun i hi => okPt_ptV (hl.2.1 _ (nth_mem hi))
  unfold stpD
  cases h : okPt p <;> rw [h] at c1
  · rw [if_neg (by decide)]
    refine fn_enter tabOK mixes Tryz.func101 rfl rfl _ Tryz.ntmps101 _ Tryz.results101 (by simp) fun hwf => ?_
    try simp (maxSteps := 9999999) only [go_sem]
    repeat refine And.intro (by first|omega|(constructor<;>omega)|kernel_rfl) ?_
    refine CallW.mk (c0) ?_
    try simp (maxSteps := 9999999) only [go_sem]
    repeat refine And.intro (by first|omega|(constructor<;>omega)|kernel_rfl) ?_
    refine CallW.mk (c1) ?_
    try simp (maxSteps := 9999999) only [go_sem]
    all_goals repeat refine And.intro (by first|omega|(constructor<;>omega)|kernel_rfl) ?_
    all_goals first | kernel_rfl | omega | rfl
  · rw [if_pos rfl]
    have ec : cpD l p = cntI l p l.length := by unfold cpD; rw [h, if_pos rfl]
    rw [ec] at c2
    by_cases h0 : 0 ≤ cntI l p l.length
    · have d1 := decide_eq_true (p := cntI l p l.length ≥ 0) h0
      have c3 := RatFromInt_fn 0
      rw [ratI_z] at c3
      rw [show tpD l p = zeroO from if_pos h0]
      refine fn_enter tabOK mixes Tryz.func101 rfl rfl _ Tryz.ntmps101 _ Tryz.results101 (by simp) fun hwf => ?_
      try simp (maxSteps := 9999999) only [go_sem]
      repeat refine And.intro (by first|omega|(constructor<;>omega)|kernel_rfl) ?_
      refine CallW.mk (c0) ?_
      try simp (maxSteps := 9999999) only [go_sem]
      repeat refine And.intro (by first|omega|(constructor<;>omega)|kernel_rfl) ?_
      refine CallW.mk (c1) ?_
      try simp (maxSteps := 9999999) only [go_sem]
      repeat refine And.intro (by first|omega|(constructor<;>omega)|kernel_rfl) ?_
      refine CallW.mk (c2) ?_
      try simp (maxSteps := 9999999) only [go_sem]
      try simp (maxSteps := 9999999) only [go_sem, d1]
      repeat refine And.intro (by first|omega|(constructor<;>omega)|kernel_rfl) ?_
      refine CallW.mk (c3) ?_
      try simp (maxSteps := 9999999) only [go_sem]
      all_goals repeat refine And.intro (by first|omega|(constructor<;>omega)|kernel_rfl) ?_
      all_goals first | kernel_rfl | omega | rfl
    · have d1 := decide_eq_false (p := cntI l p l.length ≥ 0) h0
      rw [show tpD l p = leS l p l.length from if_neg h0]
      have v0 := PointOfS_fn (nth (t := tVec) l 0)
      have v1 := PointOfS_fn (nth (t := tVec) l 1)
      have s0 := SquareToSegmentS_fn p (ptV (nth (t := tVec) l 0)) (ptV (nth (t := tVec) l 1)) (ptok _ (by omega)) (ptok _ (by omega))
      have e0 : segD p (ptV (nth (t := tVec) l 0)) (ptV (nth (t := tVec) l 1)) = leS l p 0 := by
        show _ = edO l p 0
        unfold edO
        rw [nxt_lt (by omega)]
      rw [e0] at s0
      refine fn_enter tabOK mixes Tryz.func101 rfl rfl _ Tryz.ntmps101 _ Tryz.results101 (by simp) fun hwf => ?_
      try simp (maxSteps := 9999999) only [go_sem]
      repeat refine And.intro (by first|omega|(constructor<;>omega)|kernel_rfl) ?_
      refine CallW.mk (c0) ?_
      try simp (maxSteps := 9999999) only [go_sem]
      repeat refine And.intro (by first|omega|(constructor<;>omega)|kernel_rfl) ?_
      refine CallW.mk (c1) ?_
      try simp (maxSteps := 9999999) only [go_sem]
      repeat refine And.intro (by first|omega|(constructor<;>omega)|kernel_rfl) ?_
      refine CallW.mk (c2) ?_
      try simp (maxSteps := 9999999) only [go_sem]
      try simp (maxSteps := 9999999) only [go_sem, d1]
      repeat refine And.intro (by first|omega|(constructor<;>omega)|kernel_rfl) ?_
      refine CallW.mk (v0) ?_
      try simp (maxSteps := 9999999) only [go_sem]
      repeat refine And.intro (by first|omega|(constructor<;>omega)|kernel_rfl) ?_
      refine CallW.mk (v1) ?_
      try simp (maxSteps := 9999999) only [go_sem]
      repeat refine And.intro (by first|omega|(constructor<;>omega)|kernel_rfl) ?_
      refine CallW.mk (s0) ?_
      try simp (maxSteps := 9999999) only [go_sem]
      repeat refine And.intro (by first|omega|(constructor<;>omega)|kernel_rfl) ?_
      refine LoopG.intro _ _ _ (fun i : Nat => ⟨[(0, .sl tVec l), (3, .ptr 0 0), (4, .ptr 1 0), (5, .ptr 2 0), (32, .sl tVec l), (33, .sc (.int .i64 l.length)), (34, .sc (.int .i64 i))], [(2, .box (cel tRat (oD (leS l p i)))), (1, .box (cel tRat (oD none))), (0, .box (cel tPoint p))]⟩) (fun i => i ≤ l.length) (fun i => l.length - i) 0 ?_ (Nat.zero_le _) ?_
      · refine Wk.mk [(2, 12)] ?_
        try simp (maxSteps := 9999999) only [go_sem]
        try (and_intros <;> first | rfl | omega | exact ⟨_, rfl⟩)
      · rintro i hi
        try simp (maxSteps := 9999999) only [go_sem]
        refine CondW_dec (fun hA => ?_) (fun hA => ?_)
        · have hlt : i < l.length := by omega
          have hr := nxt_rng (n := l.length) (i := i) (by omega)
          have hr2 : (nxt l.length i).toNat < l.length := by omega
          have c3 := PointOfS_fn (nth (t := tVec) l i)
          have c4 := PointOfS_fn (nth (t := tVec) l (nxt l.length i).toNat)
          have s1 := SquareToSegmentS_fn p (ptV (nth (t := tVec) l i)) (ptV (nth (t := tVec) l (nxt l.length i).toNat)) (ptok _ (by omega)) (ptok _ (by omega))
          have e1 : segD p (ptV (nth (t := tVec) l i)) (ptV (nth (t := tVec) l (nxt l.length i).toNat)) = edO l p i := rfl
          rw [e1] at s1
          have s2 := specRatMin_fn (oD (leS l p i)) (oD (edO l p i))
          rw [rdO_oD (okO_leS _ _ _), rdO_oD (okO_edO _ _ _)] at s2
          have hst : leS l p (i + 1) = minO (leS l p i) (edO l p i) := rfl
          unfold nxt at hr hr2 c4 s1
          try simp (maxSteps := 9999999) only [go_sem]
          repeat refine And.intro (by first|omega|(constructor<;>omega)|kernel_rfl) ?_
          refine CallW.mk (c3) ?_
          try simp (maxSteps := 9999999) only [go_sem]
          repeat refine And.intro (by first|omega|(constructor<;>omega)|kernel_rfl) ?_
          refine RemW.pos (by omega) (by omega) ?_
          try simp (maxSteps := 9999999) only [go_sem]
          repeat refine And.intro (by first|omega|(constructor<;>omega)|kernel_rfl) ?_
          refine CallW.mk (c4) ?_
          try simp (maxSteps := 9999999) only [go_sem]
          repeat refine And.intro (by first|omega|(constructor<;>omega)|kernel_rfl) ?_
          refine CallW.mk (s1) ?_
          try simp (maxSteps := 9999999) only [go_sem]
          repeat refine And.intro (by first|omega|(constructor<;>omega)|kernel_rfl) ?_
          refine CallW.mk (s2) ?_
          try simp (maxSteps := 9999999) only [go_sem]
          repeat refine And.intro (by first|omega|(constructor<;>omega)|kernel_rfl) ?_
          refine LoopK.mk (i + 1) ?_ (by omega) (by omega)
          rw [hst]
          refine Wk.mk [] ?_
          try simp (maxSteps := 9999999) only [go_sem]
          try (and_intros <;> first | rfl | omega | exact ⟨_, rfl⟩)
        · rw [show l.length = i by omega]
          try simp (maxSteps := 9999999) only [go_sem]
          all_goals repeat refine And.intro (by first|omega|(constructor<;>omega)|kernel_rfl) ?_
          all_goals first | kernel_rfl | omega | rfl
noncomputable def discB (l : List DV) (p : DP) (n : Int) : Bool := (stpD l p).isSome && decide (cmpO (stpD l p) (some ((n : Int) : Rat)) ≤ 0)
theorem DiscTouchesI_fn (l : List DV) (p : DP) (n : Int) (hl : polyP l) (hn : 0 ≤ n ∧ n ≤ 1000000) : Fn Tryz.prog 107 [⟨.slice tVec, l⟩, ⟨tPoint, p⟩, ⟨.int, n⟩] false [⟨.bool, discB l p n⟩] := by
  have c0 := implIsPolygon_fn l
  rw [polyB_t hl] at c0
  have c1 := arePoints1_fn p
  have d1 := decide_eq_false (p := n < 0) (by omega)
  unfold discB stpD
  cases h : okPt p <;> rw [h] at c1
  · rw [if_neg (by decide)]
    refine fn_enter tabOK mixes Tryz.func107 rfl rfl _ Tryz.ntmps107 _ Tryz.results107 (by simp) fun hwf => ?_
    try simp (maxSteps := 9999999) only [go_sem]
    repeat refine And.intro (by first|omega|(constructor<;>omega)|kernel_rfl) ?_
    refine CallW.mk (c0) ?_
    try simp (maxSteps := 9999999) only [go_sem]
    repeat refine And.intro (by first|omega|(constructor<;>omega)|kernel_rfl) ?_
    refine CallW.mk (c1) ?_
    try simp (maxSteps := 9999999) only [go_sem]
    all_goals repeat refine And.intro (by first|omega|(constructor<;>omega)|kernel_rfl) ?_
    all_goals first | kernel_rfl | omega | rfl
  · rw [if_pos rfl]
    have c2 := toPolygon_fn l p hl h
    have c3 := isGood_fn (tpD l p)
    have c4 := ratInt_fn n
    rw [show ratI n = oD (some ((n : Int) : Rat)) from ratI_eq n] at c4
    have c5 := ratCmp_fn (tpD l p) (some ((n : Int) : Rat)) (okO_tpD _ _) (ok_small (by omega))
    cases hs : (tpD l p).isSome <;> rw [hs] at c3
    · refine fn_enter tabOK mixes Tryz.func107 rfl rfl _ Tryz.ntmps107 _ Tryz.results107 (by simp) fun hwf => ?_
      try simp (maxSteps := 9999999) only [go_sem]
      repeat refine And.intro (by first|omega|(constructor<;>omega)|kernel_rfl) ?_
      refine CallW.mk (c0) ?_
      try simp (maxSteps := 9999999) only [go_sem]
      repeat refine And.intro (by first|omega|(constructor<;>omega)|kernel_rfl) ?_
      refine CallW.mk (c1) ?_
      try simp (maxSteps := 9999999) only [go_sem]
      try simp (maxSteps := 9999999) only [go_sem, d1]
      repeat refine And.intro (by first|omega|(constructor<;>omega)|kernel_rfl) ?_
      refine CallW.mk (c2) ?_
      try simp (maxSteps := 9999999) only [go_sem]
      repeat refine And.intro (by first|omega|(constructor<;>omega)|kernel_rfl) ?_
      refine CallW.mk (c3) ?_
      try simp (maxSteps := 9999999) only [go_sem]
      all_goals repeat refine And.intro (by first|omega|(constructor<;>omega)|kernel_rfl) ?_
      all_goals first | kernel_rfl | omega | rfl
    · refine fn_enter tabOK mixes Tryz.func107 rfl rfl _ Tryz.ntmps107 _ Tryz.results107 (by simp) fun hwf => ?_
      try simp (maxSteps := 9999999) only [go_sem]
      repeat refine And.intro (by first|omega|(constructor<;>omega)|kernel_rfl) ?_
      refine CallW.mk (c0) ?_
      try simp (maxSteps := 9999999) only [go_sem]
      repeat refine And.intro (by first|omega|(constructor<;>omega)|kernel_rfl) ?_
      refine CallW.mk (c1) ?_
      try simp (maxSteps := 9999999) only [go_sem]
      try simp (maxSteps := 9999999) only [go_sem, d1]
      repeat refine And.intro (by first|omega|(constructor<;>omega)|kernel_rfl) ?_
      refine CallW.mk (c2) ?_
      try simp (maxSteps := 9999999) only [go_sem]
      repeat refine And.intro (by first|omega|(constructor<;>omega)|kernel_rfl) ?_
      refine CallW.mk (c3) ?_
      try simp (maxSteps := 9999999) only [go_sem]
      repeat refine And.intro (by first|omega|(constructor<;>omega)|kernel_rfl) ?_
      refine CallW.mk (c4) ?_
      try simp (maxSteps := 9999999) only [go_sem]
      repeat refine And.intro (by first|omega|(constructor<;>omega)|kernel_rfl) ?_
      refine CallW.mk (c5) ?_
      try simp (maxSteps := 9999999) only [go_sem]
      all_goals repeat refine And.intro (by first|omega|(constructor<;>omega)|kernel_rfl) ?_
      all_goals first | kernel_rfl | omega | rfl
theorem DiscTouchesS_fn (l : List DV) (p : DP) (n : Int) (hl : polyP l) (hn : 0 ≤ n ∧ n ≤ 1000000) : Fn Tryz.prog 52 [⟨.slice tVec, l⟩, ⟨tPoint, p⟩, ⟨.int, n⟩] false [⟨.bool, discB l p n⟩] := by
  have d1 := decide_eq_true (p := n ≥ 0) hn.1
  have c2 := SquareToPolygonS_fn l p hl
  have c3 := specRatOk_fn (oD (stpD l p))
  have e3 : okR (oD (stpD l p)) = (stpD l p).isSome := by unfold okR; rw [rdO_oD (okO_stpD _ _)]
  rw [e3] at c3
  have c4 := RatFromInt_fn n
  rw [show ratI n = oD (some ((n : Int) : Rat)) from ratI_eq n] at c4
  have c5 := specRatCmp_fn (oD (stpD l p)) (oD (some ((n : Int) : Rat)))
  rw [rdO_oD (okO_stpD _ _), rdO_oD (ok_small (by omega))] at c5
  unfold discB
  cases hs : (stpD l p).isSome <;> rw [hs] at c3
  · refine fn_enter tabOK mixes Tryz.func52 rfl rfl _ Tryz.ntmps52 _ Tryz.results52 (by simp) fun hwf => ?_
    try simp (maxSteps := 9999999) only [go_sem]
    repeat refine And.intro (by first|omega|(constructor<;>omega)|kernel_rfl) ?_
    refine CallW.mk (c2) ?_
    try simp (maxSteps := 9999999) only [go_sem]
    repeat refine And.intro (by first|omega|(constructor<;>omega)|kernel_rfl) ?_
    refine CallW.mk (c3) ?_
    try simp (maxSteps := 9999999) only [go_sem]
    all_goals repeat refine And.intro (by first|omega|(constructor<;>omega)|kernel_rfl) ?_
    all_goals first | kernel_rfl | omega | rfl
  · refine fn_enter tabOK mixes Tryz.func52 rfl rfl _ Tryz.ntmps52 _ Tryz.results52 (by simp) fun hwf => ?_
    try simp (maxSteps := 9999999) only [go_sem]
    repeat refine And.intro (by first|omega|(constructor<;>omega)|kernel_rfl) ?_
    refine CallW.mk (c2) ?_
    try simp (maxSteps := 9999999) only [go_sem]
    repeat refine And.intro (by first|omega|(constructor<;>omega)|kernel_rfl) ?_
    refine CallW.mk (c3) ?_
    try simp (maxSteps := 9999999) only [go_sem]
    try simp (maxSteps := 9999999) only [go_sem, d1]
    repeat refine And.intro (by first|omega|(constructor<;>omega)|kernel_rfl) ?_
    refine CallW.mk (c4) ?_
    try simp (maxSteps := 9999999) only [go_sem]
    repeat refine And.intro (by first|omega|(constructor<;>omega)|kernel_rfl) ?_
    refine CallW.mk (c5) ?_
    try simp (maxSteps := 9999999) only [go_sem]
    all_goals repeat refine And.intro (by first|omega|(constructor<;>omega)|kernel_rfl) ?_
    all_goals first | kernel_rfl | omega | rfl
/-- The greatest square of a corner's distance, of the first i corners. -/
def rchI (l : List DV) : Nat → Int
  | 0 => 0
  | i + 1 => max (rchI l i) ((nth (t := tVec) l i).1 * (nth (t := tVec) l i).1 + (nth (t := tVec) l i).2 * (nth (t := tVec) l i).2)
theorem sqI_le {k x : Int} (h1 : -k ≤ x) (h2 : x ≤ k) : x * x ≤ k * k := by
  rcases Int.le_total 0 x with h | h
  · exact Int.mul_le_mul h2 h2 h (by omega)
  · have := Int.mul_le_mul (show -x ≤ k by omega) (show -x ≤ k by omega) (by omega) (by omega)
    rwa [Int.neg_mul_neg] at this
theorem l07Max_fn (a b : Int) : Fn Tryz.prog 105 [⟨.int, a⟩, ⟨.int, b⟩] false [⟨.int, max a b⟩] := by
  by_cases h : a > b
  · have d := decide_eq_true h
    rw [Int.max_eq_left (by omega)]
    refine fn_enter tabOK mixes Tryz.func105 rfl rfl _ Tryz.ntmps105 _ Tryz.results105 (by simp) fun hwf => ?_
    try simp (maxSteps := 9999999) only [go_sem, d]
  · have d := decide_eq_false h
    rw [Int.max_eq_right (by omega)]
    refine fn_enter tabOK mixes Tryz.func105 rfl rfl _ Tryz.ntmps105 _ Tryz.results105 (by simp) fun hwf => ?_
    try simp (maxSteps := 9999999) only [go_sem, d]
theorem ReachSquareI_fn (l : List DV) (hl : polyP l) : Fn Tryz.prog 108 [⟨.slice tVec, l⟩] false [⟨.int, rchI l l.length⟩] := by
  have c0 := implIsPolygon_fn l
  rw [polyB_t hl] at c0
  have hn := hl.1.2
  refine fn_enter tabOK mixes Tryz.func108 rfl rfl _ Tryz.ntmps108 _ Tryz.results108 (by simp) fun hwf => ?_
  try simp (maxSteps := 9999999) only [go_sem]
  repeat refine And.intro (by first|omega|(constructor<;>omega)|kernel_rfl) ?_
  refine CallW.mk (c0) ?_
  try simp (maxSteps := 9999999) only [go_sem]
  refine LoopG.intro _ _ _ (fun i : Nat => ⟨[(3, .sc (.int .i64 (rchI l i))), (9, .sl tVec l), (10, .sc (.int .i64 l.length)), (11, .sc (.int .i64 i))], []⟩) (fun i => i ≤ l.length) (fun i => l.length - i) 0 ?_ (Nat.zero_le _) ?_
  · refine Wk.mk [] ?_
    try simp (maxSteps := 9999999) only [go_sem]
    try (and_intros <;> first | rfl | omega | exact ⟨_, rfl⟩)
  · rintro i hi
    try simp (maxSteps := 9999999) only [go_sem]
    refine CondW_dec (fun hA => ?_) (fun hA => ?_)
    · have hlt : i < l.length := by omega
      obtain ⟨b1, b2, b3, b4⟩ := okV_b (hl.2.1 _ (nth_mem hlt))
      have s1 := sqI_le b1 b2
      have s2 := sqI_le b3 b4
      have n1 := sq_nn (nth (t := tVec) l i).1
      have n2 := sq_nn (nth (t := tVec) l i).2
      have hst : rchI l (i + 1) = max (rchI l i) ((nth (t := tVec) l i).1 * (nth (t := tVec) l i).1 + (nth (t := tVec) l i).2 * (nth (t := tVec) l i).2) := rfl
      try simp (maxSteps := 9999999) only [go_sem]
      repeat refine And.intro (by first|omega|(constructor<;>omega)|kernel_rfl) ?_
      refine LoopK.mk (i + 1) ?_ (by omega) (by omega)
      rw [hst]
      refine Wk.mk [] ?_
      try simp (maxSteps := 9999999) only [go_sem]
      try (and_intros <;> first | rfl | omega | exact ⟨_, rfl⟩)
    · rw [show l.length = i by omega]
      try simp (maxSteps := 9999999) only [go_sem]
      all_goals repeat refine And.intro (by first|omega|(constructor<;>omega)|kernel_rfl) ?_
      all_goals first | kernel_rfl | omega | rfl
theorem ReachSquareS_fn (l : List DV) (hl : polyP l) : Fn Tryz.prog 53 [⟨.slice tVec, l⟩] false [⟨.int, rchI l l.length⟩] := by
  have c0 := specIsPolygon_fn l
  rw [polyB_t hl] at c0
  have hn := hl.1.2
  refine fn_enter tabOK mixes Tryz.func53 rfl rfl _ Tryz.ntmps53 _ Tryz.results53 (by simp) fun hwf => ?_
  try simp (maxSteps := 9999999) only [go_sem]
  repeat refine And.intro (by first|omega|(constructor<;>omega)|kernel_rfl) ?_
  refine CallW.mk (c0) ?_
  try simp (maxSteps := 9999999) only [go_sem]
  refine LoopG.intro _ _ _ (fun i : Nat => ⟨[(3, .sc (.int .i64 (rchI l i))), (9, .sl tVec l), (10, .sc (.int .i64 l.length)), (11, .sc (.int .i64 i))], []⟩) (fun i => i ≤ l.length) (fun i => l.length - i) 0 ?_ (Nat.zero_le _) ?_
  · refine Wk.mk [] ?_
    try simp (maxSteps := 9999999) only [go_sem]
    try (and_intros <;> first | rfl | omega | exact ⟨_, rfl⟩)
  · rintro i hi
    try simp (maxSteps := 9999999) only [go_sem]
    refine CondW_dec (fun hA => ?_) (fun hA => ?_)
    · have hlt : i < l.length := by omega
      obtain ⟨b1, b2, b3, b4⟩ := okV_b (hl.2.1 _ (nth_mem hlt))
      have s1 := sqI_le b1 b2
      have s2 := sqI_le b3 b4
      have n1 := sq_nn (nth (t := tVec) l i).1
      have n2 := sq_nn (nth (t := tVec) l i).2
      have hst : rchI l (i + 1) = max (rchI l i) ((nth (t := tVec) l i).1 * (nth (t := tVec) l i).1 + (nth (t := tVec) l i).2 * (nth (t := tVec) l i).2) := rfl
      have c1 := l07Max_fn (rchI l i) ((nth (t := tVec) l i).1 * (nth (t := tVec) l i).1 + (nth (t := tVec) l i).2 * (nth (t := tVec) l i).2)
      try simp (maxSteps := 9999999) only [go_sem]
      repeat refine And.intro (by first|omega|(constructor<;>omega)|kernel_rfl) ?_
      refine CallW.mk (c1) ?_
      try simp (maxSteps := 9999999) only [go_sem]
      repeat refine And.intro (by first|omega|(constructor<;>omega)|kernel_rfl) ?_
      refine LoopK.mk (i + 1) ?_ (by omega) (by omega)
      rw [hst]
      refine Wk.mk [] ?_
      try simp (maxSteps := 9999999) only [go_sem]
      try (and_intros <;> first | rfl | omega | exact ⟨_, rfl⟩)
    · rw [show l.length = i by omega]
      try simp (maxSteps := 9999999) only [go_sem]
      all_goals repeat refine And.intro (by first|omega|(constructor<;>omega)|kernel_rfl) ?_
      all_goals first | kernel_rfl | omega | rfl
end Go.Proofs.YtghckbohaghgkaaGreat.DW

/-
  Segments that meet.
-/
namespace Go.Proofs.YtghckbohaghgkaaGreat.DW
open Go.RowKit
noncomputable def btw (x a b : Option Rat) : Bool := decide (cmpO x (minO a b) ≥ 0) && decide (cmpO x (maxO a b) ≤ 0)
noncomputable def spanB (p a b : DP) : Bool := btw (rdO p.1) (rdO a.1) (rdO b.1) && btw (rdO p.2) (rdO a.2) (rdO b.2)
noncomputable def meetB (a b c d : DP) : Bool := (decide (sdP a b c = 0) && spanB c a b) || (decide (sdP a b d = 0) && spanB d a b) || (decide (sdP c d a = 0) && spanB a c d) || (decide (sdP c d b = 0) && spanB b c d) || (decide (sdP a b c * sdP a b d < 0) && decide (sdP c d a * sdP c d b < 0))
theorem meetB_swap (a b c d : DP) : meetB c d a b = meetB a b c d := by
  unfold meetB
  generalize (decide (sdP a b c = 0) && spanB c a b) = x1
  generalize (decide (sdP a b d = 0) && spanB d a b) = x2
  generalize (decide (sdP c d a = 0) && spanB a c d) = x3
  generalize (decide (sdP c d b = 0) && spanB b c d) = x4
  generalize decide (sdP a b c * sdP a b d < 0) = x5
  generalize decide (sdP c d a * sdP c d b < 0) = x6
  revert x1 x2 x3 x4 x5 x6
  decide
theorem isBetween_fn (x a b : Option Rat) (hx : okO x) (ha : okO a) (hb : okO b) : Fn Tryz.prog 246 [⟨tRat, oD x⟩, ⟨tRat, oD a⟩, ⟨tRat, oD b⟩] false [⟨.bool, btw x a b⟩] := by
  have c1 := ratMin_fn a b ha hb
  have c2 := ratCmp_fn x (minO a b) hx (okO_min ha hb)
  have c3 := ratMax_fn a b ha hb
  have c4 := ratCmp_fn x (maxO a b) hx (okO_max ha hb)
  unfold btw
  by_cases h : cmpO x (minO a b) ≥ 0
  · have d1 := decide_eq_true h
    rw [d1]
    refine fn_enter tabOK mixes Tryz.func246 rfl rfl _ Tryz.ntmps246 _ Tryz.results246 (by simp) fun hwf => ?_
    try simp (maxSteps := 9999999) only [go_sem]
    repeat refine And.intro (by first|omega|(constructor<;>omega)|kernel_rfl) ?_
    refine CallW.mk (c1) ?_
    try simp (maxSteps := 9999999) only [go_sem]
    repeat refine And.intro (by first|omega|(constructor<;>omega)|kernel_rfl) ?_
    refine CallW.mk (c2) ?_
    try simp (maxSteps := 9999999) only [go_sem]
    try simp (maxSteps := 9999999) only [go_sem, d1]
    repeat refine And.intro (by first|omega|(constructor<;>omega)|kernel_rfl) ?_
    refine CallW.mk (c3) ?_
    try simp (maxSteps := 9999999) only [go_sem]
    repeat refine And.intro (by first|omega|(constructor<;>omega)|kernel_rfl) ?_
    refine CallW.mk (c4) ?_
    try simp (maxSteps := 9999999) only [go_sem]
    all_goals repeat refine And.intro (by first|omega|(constructor<;>omega)|kernel_rfl) ?_
    all_goals first | kernel_rfl | omega | rfl
  · have d1 := decide_eq_false h
    rw [d1]
    refine fn_enter tabOK mixes Tryz.func246 rfl rfl _ Tryz.ntmps246 _ Tryz.results246 (by simp) fun hwf => ?_
    try simp (maxSteps := 9999999) only [go_sem]
    repeat refine And.intro (by first|omega|(constructor<;>omega)|kernel_rfl) ?_
    refine CallW.mk (c1) ?_
    try simp (maxSteps := 9999999) only [go_sem]
    repeat refine And.intro (by first|omega|(constructor<;>omega)|kernel_rfl) ?_
    refine CallW.mk (c2) ?_
    try simp (maxSteps := 9999999) only [go_sem]
    try simp (maxSteps := 9999999) only [go_sem, d1]
    all_goals repeat refine And.intro (by first|omega|(constructor<;>omega)|kernel_rfl) ?_
    all_goals first | kernel_rfl | omega | rfl
theorem isInSpan_fn (p a b : DP) (hp : okPt p = true) (ha : okPt a = true) (hb : okPt b = true) : Fn Tryz.prog 233 [⟨tPoint, p⟩, ⟨tPoint, a⟩, ⟨tPoint, b⟩] false [⟨.bool, spanB p a b⟩] := by
  have c1 := isBetween_fn (rdO p.1) (rdO a.1) (rdO b.1) (okO_rdO _) (okO_rdO _) (okO_rdO _)
  have c2 := isBetween_fn (rdO p.2) (rdO a.2) (rdO b.2) (okO_rdO _) (okO_rdO _) (okO_rdO _)
  rw [gP_1 (gP_ok hp), gP_1 (gP_ok ha), gP_1 (gP_ok hb)] at c1
  rw [gP_2 (gP_ok hp), gP_2 (gP_ok ha), gP_2 (gP_ok hb)] at c2
  unfold spanB
  cases h : btw (rdO p.1) (rdO a.1) (rdO b.1) <;> rw [h] at c1
  · refine fn_enter tabOK mixes Tryz.func233 rfl rfl _ Tryz.ntmps233 _ Tryz.results233 (by simp) fun hwf => ?_
    try simp (maxSteps := 9999999) only [go_sem]
    repeat refine And.intro (by first|omega|(constructor<;>omega)|kernel_rfl) ?_
    refine CallW.mk (c1) ?_
    try simp (maxSteps := 9999999) only [go_sem]
    all_goals repeat refine And.intro (by first|omega|(constructor<;>omega)|kernel_rfl) ?_
    all_goals first | kernel_rfl | omega | rfl
  · refine fn_enter tabOK mixes Tryz.func233 rfl rfl _ Tryz.ntmps233 _ Tryz.results233 (by simp) fun hwf => ?_
    try simp (maxSteps := 9999999) only [go_sem]
    repeat refine And.intro (by first|omega|(constructor<;>omega)|kernel_rfl) ?_
    refine CallW.mk (c1) ?_
    try simp (maxSteps := 9999999) only [go_sem]
    repeat refine And.intro (by first|omega|(constructor<;>omega)|kernel_rfl) ?_
    refine CallW.mk (c2) ?_
    try simp (maxSteps := 9999999) only [go_sem]
    all_goals repeat refine And.intro (by first|omega|(constructor<;>omega)|kernel_rfl) ?_
    all_goals first | kernel_rfl | omega | rfl
theorem l08Between_fn (p a b : DP) : Fn Tryz.prog 148 [⟨tPoint, p⟩, ⟨tPoint, a⟩, ⟨tPoint, b⟩] false [⟨.bool, spanB p a b⟩] := by
  have c1 := specRatMin_fn a.1 b.1
  have c2 := specRatCmp_fn p.1 (oD (minO (rdO a.1) (rdO b.1)))
  have c3 := specRatMax_fn a.1 b.1
  have c4 := specRatCmp_fn p.1 (oD (maxO (rdO a.1) (rdO b.1)))
  have c5 := specRatMin_fn a.2 b.2
  have c6 := specRatCmp_fn p.2 (oD (minO (rdO a.2) (rdO b.2)))
  have c7 := specRatMax_fn a.2 b.2
  have c8 := specRatCmp_fn p.2 (oD (maxO (rdO a.2) (rdO b.2)))
  rw [rdO_oD (okO_min (okO_rdO _) (okO_rdO _))] at c2 c6
  rw [rdO_oD (okO_max (okO_rdO _) (okO_rdO _))] at c4 c8
  unfold spanB btw
  by_cases h1 : cmpO (rdO p.1) (minO (rdO a.1) (rdO b.1)) ≥ 0
  · have d1 := decide_eq_true h1
    rw [d1]
    by_cases h2 : cmpO (rdO p.1) (maxO (rdO a.1) (rdO b.1)) ≤ 0
    · have d2 := decide_eq_true h2
      rw [d2]
      by_cases h3 : cmpO (rdO p.2) (minO (rdO a.2) (rdO b.2)) ≥ 0
      · have d3 := decide_eq_true h3
        rw [d3]
        refine fn_enter tabOK mixes Tryz.func148 rfl rfl _ Tryz.ntmps148 _ Tryz.results148 (by simp) fun hwf => ?_
        try simp (maxSteps := 9999999) only [go_sem]
        repeat refine And.intro (by first|omega|(constructor<;>omega)|kernel_rfl) ?_
        refine CallW.mk (c1) ?_
        try simp (maxSteps := 9999999) only [go_sem]
        repeat refine And.intro (by first|omega|(constructor<;>omega)|kernel_rfl) ?_
        refine CallW.mk (c2) ?_
        try simp (maxSteps := 9999999) only [go_sem]
        try simp (maxSteps := 9999999) only [go_sem, d1]
        repeat refine And.intro (by first|omega|(constructor<;>omega)|kernel_rfl) ?_
        refine CallW.mk (c3) ?_
        try simp (maxSteps := 9999999) only [go_sem]
        repeat refine And.intro (by first|omega|(constructor<;>omega)|kernel_rfl) ?_
        refine CallW.mk (c4) ?_
        try simp (maxSteps := 9999999) only [go_sem]
        try simp (maxSteps := 9999999) only [go_sem, d2]
        repeat refine And.intro (by first|omega|(constructor<;>omega)|kernel_rfl) ?_
        refine CallW.mk (c5) ?_
        try simp (maxSteps := 9999999) only [go_sem]
        repeat refine And.intro (by first|omega|(constructor<;>omega)|kernel_rfl) ?_
        refine CallW.mk (c6) ?_
        try simp (maxSteps := 9999999) only [go_sem]
        try simp (maxSteps := 9999999) only [go_sem, d3]
        repeat refine And.intro (by first|omega|(constructor<;>omega)|kernel_rfl) ?_
        refine CallW.mk (c7) ?_
        try simp (maxSteps := 9999999) only [go_sem]
        repeat refine And.intro (by first|omega|(constructor<;>omega)|kernel_rfl) ?_
        refine CallW.mk (c8) ?_
        try simp (maxSteps := 9999999) only [go_sem]
        all_goals repeat refine And.intro (by first|omega|(constructor<;>omega)|kernel_rfl) ?_
        all_goals first | kernel_rfl | omega | rfl
      · have d3 := decide_eq_false h3
        rw [d3]
        refine fn_enter tabOK mixes Tryz.func148 rfl rfl _ Tryz.ntmps148 _ Tryz.results148 (by simp) fun hwf => ?_
        try simp (maxSteps := 9999999) only [go_sem]
        repeat refine And.intro (by first|omega|(constructor<;>omega)|kernel_rfl) ?_
        refine CallW.mk (c1) ?_
        try simp (maxSteps := 9999999) only [go_sem]
        repeat refine And.intro (by first|omega|(constructor<;>omega)|kernel_rfl) ?_
        refine CallW.mk (c2) ?_
        try simp (maxSteps := 9999999) only [go_sem]
        try simp (maxSteps := 9999999) only [go_sem, d1]
        repeat refine And.intro (by first|omega|(constructor<;>omega)|kernel_rfl) ?_
        refine CallW.mk (c3) ?_
        try simp (maxSteps := 9999999) only [go_sem]
        repeat refine And.intro (by first|omega|(constructor<;>omega)|kernel_rfl) ?_
        refine CallW.mk (c4) ?_
        try simp (maxSteps := 9999999) only [go_sem]
        try simp (maxSteps := 9999999) only [go_sem, d2]
        repeat refine And.intro (by first|omega|(constructor<;>omega)|kernel_rfl) ?_
        refine CallW.mk (c5) ?_
        try simp (maxSteps := 9999999) only [go_sem]
        repeat refine And.intro (by first|omega|(constructor<;>omega)|kernel_rfl) ?_
        refine CallW.mk (c6) ?_
        try simp (maxSteps := 9999999) only [go_sem]
        try simp (maxSteps := 9999999) only [go_sem, d3]
        all_goals repeat refine And.intro (by first|omega|(constructor<;>omega)|kernel_rfl) ?_
        all_goals first | kernel_rfl | omega | rfl
    · have d2 := decide_eq_false h2
      rw [d2]
      refine fn_enter tabOK mixes Tryz.func148 rfl rfl _ Tryz.ntmps148 _ Tryz.results148 (by simp) fun hwf => ?_
      try simp (maxSteps := 9999999) only [go_sem]
      repeat refine And.intro (by first|omega|(constructor<;>omega)|kernel_rfl) ?_
      refine CallW.mk (c1) ?_
      try simp (maxSteps := 9999999) only [go_sem]
      repeat refine And.intro (by first|omega|(constructor<;>omega)|kernel_rfl) ?_
      refine CallW.mk (c2) ?_
      try simp (maxSteps := 9999999) only [go_sem]
      try simp (maxSteps := 9999999) only [go_sem, d1]
      repeat refine And.intro (by first|omega|(constructor<;>omega)|kernel_rfl) ?_
      refine CallW.mk (c3) ?_
      try simp (maxSteps := 9999999) only [go_sem]
      repeat refine And.intro (by first|omega|(constructor<;>omega)|kernel_rfl) ?_
      refine CallW.mk (c4) ?_
      try simp (maxSteps := 9999999) only [go_sem]
      try simp (maxSteps := 9999999) only [go_sem, d2]
      all_goals repeat refine And.intro (by first|omega|(constructor<;>omega)|kernel_rfl) ?_
      all_goals first | kernel_rfl | omega | rfl
  · have d1 := decide_eq_false h1
    rw [d1]
    refine fn_enter tabOK mixes Tryz.func148 rfl rfl _ Tryz.ntmps148 _ Tryz.results148 (by simp) fun hwf => ?_
    try simp (maxSteps := 9999999) only [go_sem]
    repeat refine And.intro (by first|omega|(constructor<;>omega)|kernel_rfl) ?_
    refine CallW.mk (c1) ?_
    try simp (maxSteps := 9999999) only [go_sem]
    repeat refine And.intro (by first|omega|(constructor<;>omega)|kernel_rfl) ?_
    refine CallW.mk (c2) ?_
    try simp (maxSteps := 9999999) only [go_sem]
    try simp (maxSteps := 9999999) only [go_sem, d1]
    all_goals repeat refine And.intro (by first|omega|(constructor<;>omega)|kernel_rfl) ?_
    all_goals first | kernel_rfl | omega | rfl
theorem sdP_b (p q r : DP) : -1 ≤ sdP p q r ∧ sdP p q r ≤ 1 := by
  unfold sdP sgnO
  split
  · unfold cmpQ
    split
    · omega
    · split <;> omega
  · omega
theorem mul3 {x y : Int} (hx : -1 ≤ x ∧ x ≤ 1) (hy : -1 ≤ y ∧ y ≤ 1) : -1 ≤ x * y ∧ x * y ≤ 1 := by
  have h1 : x = -1 ∨ x = 0 ∨ x = 1 := by omega
  rcases h1 with rfl | rfl | rfl <;> omega
set_option maxRecDepth 100000 in
set_option maxHeartbeats 4000000 in
theorem meet_fn (a b c d : DP) (ha : okPt a = true) (hb : okPt b = true) (hc : okPt c = true) (hd : okPt d = true) : Fn Tryz.prog 198 [⟨tPoint, a⟩, ⟨tPoint, b⟩, ⟨tPoint, c⟩, ⟨tPoint, d⟩] false [⟨.bool, meetB a b c d⟩] := by
  have c0 := side_fn a b c ha hb hc
  have c1 := side_fn a b d ha hb hd
  have c2 := side_fn c d a hc hd ha
  have c3 := side_fn c d b hc hd hb
  have s0 := isInSpan_fn c a b hc ha hb
  have s1 := isInSpan_fn d a b hd ha hb
  have s2 := isInSpan_fn a c d ha hc hd
  have s3 := isInSpan_fn b c d hb hc hd
  have b0 := sdP_b a b c
  have b1 := sdP_b a b d
  have b2 := sdP_b c d a
  have b3 := sdP_b c d b
  unfold meetB
  generalize sdP a b c = z0 at *
  generalize sdP a b d = z1 at *
  generalize sdP c d a = z2 at *
  generalize sdP c d b = z3 at *
  generalize spanB c a b = g0 at *
  generalize spanB d a b = g1 at *
  generalize spanB a c d = g2 at *
  generalize spanB b c d = g3 at *
  have m0 := mul3 b0 b1
  have m1 := mul3 b2 b3
  refine fn_enter tabOK mixes Tryz.func198 rfl rfl _ Tryz.ntmps198 _ Tryz.results198 (by simp) fun hwf => ?_
  try simp (maxSteps := 9999999) only [go_sem]
  repeat refine And.intro (by first|omega|(constructor<;>omega)|kernel_rfl) ?_
  refine CallW.mk (c0) ?_
  try simp (maxSteps := 9999999) only [go_sem]
  repeat refine And.intro (by first|omega|(constructor<;>omega)|kernel_rfl) ?_
  refine CallW.mk (c1) ?_
  try simp (maxSteps := 9999999) only [go_sem]
  repeat refine And.intro (by first|omega|(constructor<;>omega)|kernel_rfl) ?_
  refine CallW.mk (c2) ?_
  try simp (maxSteps := 9999999) only [go_sem]
  repeat refine And.intro (by first|omega|(constructor<;>omega)|kernel_rfl) ?_
  refine CallW.mk (c3) ?_
  try simp (maxSteps := 9999999) only [go_sem]
  repeat refine And.intro (by first|omega|(constructor<;>omega)|kernel_rfl) ?_
  by_cases h0 : z0 = 0
  · have d0 := decide_eq_true h0
    cases t0 : g0 <;> rw [t0] at s0
    · try simp (maxSteps := 9999999) only [go_sem, d0]
      repeat refine And.intro (by first|omega|(constructor<;>omega)|kernel_rfl) ?_
      refine CallW.mk (s0) ?_
      try simp (maxSteps := 9999999) only [go_sem]
      by_cases h1 : z1 = 0
      · have d1 := decide_eq_true h1
        cases t1 : g1 <;> rw [t1] at s1
        · try simp (maxSteps := 9999999) only [go_sem, d1]
          repeat refine And.intro (by first|omega|(constructor<;>omega)|kernel_rfl) ?_
          refine CallW.mk (s1) ?_
          try simp (maxSteps := 9999999) only [go_sem]
          by_cases h2 : z2 = 0
          · have d2 := decide_eq_true h2
            cases t2 : g2 <;> rw [t2] at s2
            · try simp (maxSteps := 9999999) only [go_sem, d2]
              repeat refine And.intro (by first|omega|(constructor<;>omega)|kernel_rfl) ?_
              refine CallW.mk (s2) ?_
              try simp (maxSteps := 9999999) only [go_sem]
              by_cases h3 : z3 = 0
              · have d3 := decide_eq_true h3
                cases t3 : g3 <;> rw [t3] at s3
                · try simp (maxSteps := 9999999) only [go_sem, d3]
                  repeat refine And.intro (by first|omega|(constructor<;>omega)|kernel_rfl) ?_
                  refine CallW.mk (s3) ?_
                  try simp (maxSteps := 9999999) only [go_sem]
                  by_cases q0 : z0 * z1 < 0
                  · have e0 := decide_eq_true q0
                    try simp (maxSteps := 9999999) only [go_sem, e0]
                    repeat refine And.intro (by first|omega|(constructor<;>omega)|kernel_rfl) ?_
                    all_goals first | omega | (simp [h0, h1, h2, h3, q0]; done)
                  · have e0 := decide_eq_false q0
                    try simp (maxSteps := 9999999) only [go_sem, e0]
                    repeat refine And.intro (by first|omega|(constructor<;>omega)|kernel_rfl) ?_
                    all_goals first | omega | (simp [h0, h1, h2, h3, q0]; done)
                · try simp (maxSteps := 9999999) only [go_sem, d3]
                  repeat refine And.intro (by first|omega|(constructor<;>omega)|kernel_rfl) ?_
                  refine CallW.mk (s3) ?_
                  try simp (maxSteps := 9999999) only [go_sem]
                  all_goals first | omega | (simp [h0, h1, h2, h3]; done)
              · have d3 := decide_eq_false h3
                try simp (maxSteps := 9999999) only [go_sem, d3]
                by_cases q0 : z0 * z1 < 0
                · have e0 := decide_eq_true q0
                  try simp (maxSteps := 9999999) only [go_sem, e0]
                  repeat refine And.intro (by first|omega|(constructor<;>omega)|kernel_rfl) ?_
                  all_goals first | omega | (simp [h0, h1, h2, h3, q0]; done)
                · have e0 := decide_eq_false q0
                  try simp (maxSteps := 9999999) only [go_sem, e0]
                  repeat refine And.intro (by first|omega|(constructor<;>omega)|kernel_rfl) ?_
                  all_goals first | omega | (simp [h0, h1, h2, h3, q0]; done)
            · try simp (maxSteps := 9999999) only [go_sem, d2]
              repeat refine And.intro (by first|omega|(constructor<;>omega)|kernel_rfl) ?_
              refine CallW.mk (s2) ?_
              try simp (maxSteps := 9999999) only [go_sem]
              all_goals first | omega | (simp [h0, h1, h2]; done)
          · have d2 := decide_eq_false h2
            try simp (maxSteps := 9999999) only [go_sem, d2]
            by_cases h3 : z3 = 0
            · have d3 := decide_eq_true h3
              cases t3 : g3 <;> rw [t3] at s3
              · try simp (maxSteps := 9999999) only [go_sem, d3]
                repeat refine And.intro (by first|omega|(constructor<;>omega)|kernel_rfl) ?_
                refine CallW.mk (s3) ?_
                try simp (maxSteps := 9999999) only [go_sem]
                by_cases q0 : z0 * z1 < 0
                · have e0 := decide_eq_true q0
                  try simp (maxSteps := 9999999) only [go_sem, e0]
                  repeat refine And.intro (by first|omega|(constructor<;>omega)|kernel_rfl) ?_
                  all_goals first | omega | (simp [h0, h1, h2, h3, q0]; done)
                · have e0 := decide_eq_false q0
                  try simp (maxSteps := 9999999) only [go_sem, e0]
                  repeat refine And.intro (by first|omega|(constructor<;>omega)|kernel_rfl) ?_
                  all_goals first | omega | (simp [h0, h1, h2, h3, q0]; done)
              · try simp (maxSteps := 9999999) only [go_sem, d3]
                repeat refine And.intro (by first|omega|(constructor<;>omega)|kernel_rfl) ?_
                refine CallW.mk (s3) ?_
                try simp (maxSteps := 9999999) only [go_sem]
                all_goals first | omega | (simp [h0, h1, h2, h3]; done)
            · have d3 := decide_eq_false h3
              try simp (maxSteps := 9999999) only [go_sem, d3]
              by_cases q0 : z0 * z1 < 0
              · have e0 := decide_eq_true q0
                try simp (maxSteps := 9999999) only [go_sem, e0]
                repeat refine And.intro (by first|omega|(constructor<;>omega)|kernel_rfl) ?_
                all_goals first | omega | (simp [h0, h1, h2, h3, q0]; done)
              · have e0 := decide_eq_false q0
                try simp (maxSteps := 9999999) only [go_sem, e0]
                repeat refine And.intro (by first|omega|(constructor<;>omega)|kernel_rfl) ?_
                all_goals first | omega | (simp [h0, h1, h2, h3, q0]; done)
        · try simp (maxSteps := 9999999) only [go_sem, d1]
          repeat refine And.intro (by first|omega|(constructor<;>omega)|kernel_rfl) ?_
          refine CallW.mk (s1) ?_
          try simp (maxSteps := 9999999) only [go_sem]
          all_goals first | omega | (simp [h0, h1]; done)
      · have d1 := decide_eq_false h1
        try simp (maxSteps := 9999999) only [go_sem, d1]
        by_cases h2 : z2 = 0
        · have d2 := decide_eq_true h2
          cases t2 : g2 <;> rw [t2] at s2
          · try simp (maxSteps := 9999999) only [go_sem, d2]
            repeat refine And.intro (by first|omega|(constructor<;>omega)|kernel_rfl) ?_
            refine CallW.mk (s2) ?_
            try simp (maxSteps := 9999999) only [go_sem]
            by_cases h3 : z3 = 0
            · have d3 := decide_eq_true h3
              cases t3 : g3 <;> rw [t3] at s3
              · try simp (maxSteps := 9999999) only [go_sem, d3]
                repeat refine And.intro (by first|omega|(constructor<;>omega)|kernel_rfl) ?_
                refine CallW.mk (s3) ?_
                try simp (maxSteps := 9999999) only [go_sem]
                by_cases q0 : z0 * z1 < 0
                · have e0 := decide_eq_true q0
                  try simp (maxSteps := 9999999) only [go_sem, e0]
                  repeat refine And.intro (by first|omega|(constructor<;>omega)|kernel_rfl) ?_
                  all_goals first | omega | (simp [h0, h1, h2, h3, q0]; done)
                · have e0 := decide_eq_false q0
                  try simp (maxSteps := 9999999) only [go_sem, e0]
                  repeat refine And.intro (by first|omega|(constructor<;>omega)|kernel_rfl) ?_
                  all_goals first | omega | (simp [h0, h1, h2, h3, q0]; done)
              · try simp (maxSteps := 9999999) only [go_sem, d3]
                repeat refine And.intro (by first|omega|(constructor<;>omega)|kernel_rfl) ?_
                refine CallW.mk (s3) ?_
                try simp (maxSteps := 9999999) only [go_sem]
                all_goals first | omega | (simp [h0, h1, h2, h3]; done)
            · have d3 := decide_eq_false h3
              try simp (maxSteps := 9999999) only [go_sem, d3]
              by_cases q0 : z0 * z1 < 0
              · have e0 := decide_eq_true q0
                try simp (maxSteps := 9999999) only [go_sem, e0]
                repeat refine And.intro (by first|omega|(constructor<;>omega)|kernel_rfl) ?_
                all_goals first | omega | (simp [h0, h1, h2, h3, q0]; done)
              · have e0 := decide_eq_false q0
                try simp (maxSteps := 9999999) only [go_sem, e0]
                repeat refine And.intro (by first|omega|(constructor<;>omega)|kernel_rfl) ?_
                all_goals first | omega | (simp [h0, h1, h2, h3, q0]; done)
          · try simp (maxSteps := 9999999) only [go_sem, d2]
            repeat refine And.intro (by first|omega|(constructor<;>omega)|kernel_rfl) ?_
            refine CallW.mk (s2) ?_
            try simp (maxSteps := 9999999) only [go_sem]
            all_goals first | omega | (simp [h0, h1, h2]; done)
        · have d2 := decide_eq_false h2
          try simp (maxSteps := 9999999) only [go_sem, d2]
          by_cases h3 : z3 = 0
          · have d3 := decide_eq_true h3
            cases t3 : g3 <;> rw [t3] at s3
            · try simp (maxSteps := 9999999) only [go_sem, d3]
              repeat refine And.intro (by first|omega|(constructor<;>omega)|kernel_rfl) ?_
              refine CallW.mk (s3) ?_
              try simp (maxSteps := 9999999) only [go_sem]
              by_cases q0 : z0 * z1 < 0
              · have e0 := decide_eq_true q0
                try simp (maxSteps := 9999999) only [go_sem, e0]
                repeat refine And.intro (by first|omega|(constructor<;>omega)|kernel_rfl) ?_
                all_goals first | omega | (simp [h0, h1, h2, h3, q0]; done)
              · have e0 := decide_eq_false q0
                try simp (maxSteps := 9999999) only [go_sem, e0]
                repeat refine And.intro (by first|omega|(constructor<;>omega)|kernel_rfl) ?_
                all_goals first | omega | (simp [h0, h1, h2, h3, q0]; done)
            · try simp (maxSteps := 9999999) only [go_sem, d3]
              repeat refine And.intro (by first|omega|(constructor<;>omega)|kernel_rfl) ?_
              refine CallW.mk (s3) ?_
              try simp (maxSteps := 9999999) only [go_sem]
              all_goals first | omega | (simp [h0, h1, h2, h3]; done)
          · have d3 := decide_eq_false h3
            try simp (maxSteps := 9999999) only [go_sem, d3]
            by_cases q0 : z0 * z1 < 0
            · have e0 := decide_eq_true q0
              try simp (maxSteps := 9999999) only [go_sem, e0]
              repeat refine And.intro (by first|omega|(constructor<;>omega)|kernel_rfl) ?_
              all_goals first | omega | (simp [h0, h1, h2, h3, q0]; done)
            · have e0 := decide_eq_false q0
              try simp (maxSteps := 9999999) only [go_sem, e0]
              repeat refine And.intro (by first|omega|(constructor<;>omega)|kernel_rfl) ?_
              all_goals first | omega | (simp [h0, h1, h2, h3, q0]; done)
    · try simp (maxSteps := 9999999) only [go_sem, d0]
      repeat refine And.intro (by first|omega|(constructor<;>omega)|kernel_rfl) ?_
      refine CallW.mk (s0) ?_
      try simp (maxSteps := 9999999) only [go_sem]
      all_goals first | omega | (simp [h0]; done)
  · have d0 := decide_eq_false h0
    try simp (maxSteps := 9999999) only [go_sem, d0]
    by_cases h1 : z1 = 0
    · have d1 := decide_eq_true h1
      cases t1 : g1 <;> rw [t1] at s1
      · try simp (maxSteps := 9999999) only [go_sem, d1]
        repeat refine And.intro (by first|omega|(constructor<;>omega)|kernel_rfl) ?_
        refine CallW.mk (s1) ?_
        try simp (maxSteps := 9999999) only [go_sem]
        by_cases h2 : z2 = 0
        · have d2 := decide_eq_true h2
          cases t2 : g2 <;> rw [t2] at s2
          · try simp (maxSteps := 9999999) only [go_sem, d2]
            repeat refine And.intro (by first|omega|(constructor<;>omega)|kernel_rfl) ?_
            refine CallW.mk (s2) ?_
            try simp (maxSteps := 9999999) only [go_sem]
            by_cases h3 : z3 = 0
            · have d3 := decide_eq_true h3
              cases t3 : g3 <;> rw [t3] at s3
              · try simp (maxSteps := 9999999) only [go_sem, d3]
                repeat refine And.intro (by first|omega|(constructor<;>omega)|kernel_rfl) ?_
                refine CallW.mk (s3) ?_
                try simp (maxSteps := 9999999) only [go_sem]
                by_cases q0 : z0 * z1 < 0
                · have e0 := decide_eq_true q0
                  try simp (maxSteps := 9999999) only [go_sem, e0]
                  repeat refine And.intro (by first|omega|(constructor<;>omega)|kernel_rfl) ?_
                  all_goals first | omega | (simp [h0, h1, h2, h3, q0]; done)
                · have e0 := decide_eq_false q0
                  try simp (maxSteps := 9999999) only [go_sem, e0]
                  repeat refine And.intro (by first|omega|(constructor<;>omega)|kernel_rfl) ?_
                  all_goals first | omega | (simp [h0, h1, h2, h3, q0]; done)
              · try simp (maxSteps := 9999999) only [go_sem, d3]
                repeat refine And.intro (by first|omega|(constructor<;>omega)|kernel_rfl) ?_
                refine CallW.mk (s3) ?_
                try simp (maxSteps := 9999999) only [go_sem]
                all_goals first | omega | (simp [h0, h1, h2, h3]; done)
            · have d3 := decide_eq_false h3
              try simp (maxSteps := 9999999) only [go_sem, d3]
              by_cases q0 : z0 * z1 < 0
              · have e0 := decide_eq_true q0
                try simp (maxSteps := 9999999) only [go_sem, e0]
                repeat refine And.intro (by first|omega|(constructor<;>omega)|kernel_rfl) ?_
                all_goals first | omega | (simp [h0, h1, h2, h3, q0]; done)
              · have e0 := decide_eq_false q0
                try simp (maxSteps := 9999999) only [go_sem, e0]
                repeat refine And.intro (by first|omega|(constructor<;>omega)|kernel_rfl) ?_
                all_goals first | omega | (simp [h0, h1, h2, h3, q0]; done)
          · try simp (maxSteps := 9999999) only [go_sem, d2]
            repeat refine And.intro (by first|omega|(constructor<;>omega)|kernel_rfl) ?_
            refine CallW.mk (s2) ?_
            try simp (maxSteps := 9999999) only [go_sem]
            all_goals first | omega | (simp [h0, h1, h2]; done)
        · have d2 := decide_eq_false h2
          try simp (maxSteps := 9999999) only [go_sem, d2]
          by_cases h3 : z3 = 0
          · have d3 := decide_eq_true h3
            cases t3 : g3 <;> rw [t3] at s3
            · try simp (maxSteps := 9999999) only [go_sem, d3]
              repeat refine And.intro (by first|omega|(constructor<;>omega)|kernel_rfl) ?_
              refine CallW.mk (s3) ?_
              try simp (maxSteps := 9999999) only [go_sem]
              by_cases q0 : z0 * z1 < 0
              · have e0 := decide_eq_true q0
                try simp (maxSteps := 9999999) only [go_sem, e0]
                repeat refine And.intro (by first|omega|(constructor<;>omega)|kernel_rfl) ?_
                all_goals first | omega | (simp [h0, h1, h2, h3, q0]; done)
              · have e0 := decide_eq_false q0
                try simp (maxSteps := 9999999) only [go_sem, e0]
                repeat refine And.intro (by first|omega|(constructor<;>omega)|kernel_rfl) ?_
                all_goals first | omega | (simp [h0, h1, h2, h3, q0]; done)
            · try simp (maxSteps := 9999999) only [go_sem, d3]
              repeat refine And.intro (by first|omega|(constructor<;>omega)|kernel_rfl) ?_
              refine CallW.mk (s3) ?_
              try simp (maxSteps := 9999999) only [go_sem]
              all_goals first | omega | (simp [h0, h1, h2, h3]; done)
          · have d3 := decide_eq_false h3
            try simp (maxSteps := 9999999) only [go_sem, d3]
            by_cases q0 : z0 * z1 < 0
            · have e0 := decide_eq_true q0
              try simp (maxSteps := 9999999) only [go_sem, e0]
              repeat refine And.intro (by first|omega|(constructor<;>omega)|kernel_rfl) ?_
              all_goals first | omega | (simp [h0, h1, h2, h3, q0]; done)
            · have e0 := decide_eq_false q0
              try simp (maxSteps := 9999999) only [go_sem, e0]
              repeat refine And.intro (by first|omega|(constructor<;>omega)|kernel_rfl) ?_
              all_goals first | omega | (simp [h0, h1, h2, h3, q0]; done)
      · try simp (maxSteps := 9999999) only [go_sem, d1]
        repeat refine And.intro (by first|omega|(constructor<;>omega)|kernel_rfl) ?_
        refine CallW.mk (s1) ?_
        try simp (maxSteps := 9999999) only [go_sem]
        all_goals first | omega | (simp [h0, h1]; done)
    · have d1 := decide_eq_false h1
      try simp (maxSteps := 9999999) only [go_sem, d1]
      by_cases h2 : z2 = 0
      · have d2 := decide_eq_true h2
        cases t2 : g2 <;> rw [t2] at s2
        · try simp (maxSteps := 9999999) only [go_sem, d2]
          repeat refine And.intro (by first|omega|(constructor<;>omega)|kernel_rfl) ?_
          refine CallW.mk (s2) ?_
          try simp (maxSteps := 9999999) only [go_sem]
          by_cases h3 : z3 = 0
          · have d3 := decide_eq_true h3
            cases t3 : g3 <;> rw [t3] at s3
            · try simp (maxSteps := 9999999) only [go_sem, d3]
              repeat refine And.intro (by first|omega|(constructor<;>omega)|kernel_rfl) ?_
              refine CallW.mk (s3) ?_
              try simp (maxSteps := 9999999) only [go_sem]
              by_cases q0 : z0 * z1 < 0
              · have e0 := decide_eq_true q0
                try simp (maxSteps := 9999999) only [go_sem, e0]
                repeat refine And.intro (by first|omega|(constructor<;>omega)|kernel_rfl) ?_
                all_goals first | omega | (simp [h0, h1, h2, h3, q0]; done)
              · have e0 := decide_eq_false q0
                try simp (maxSteps := 9999999) only [go_sem, e0]
                repeat refine And.intro (by first|omega|(constructor<;>omega)|kernel_rfl) ?_
                all_goals first | omega | (simp [h0, h1, h2, h3, q0]; done)
            · try simp (maxSteps := 9999999) only [go_sem, d3]
              repeat refine And.intro (by first|omega|(constructor<;>omega)|kernel_rfl) ?_
              refine CallW.mk (s3) ?_
              try simp (maxSteps := 9999999) only [go_sem]
              all_goals first | omega | (simp [h0, h1, h2, h3]; done)
          · have d3 := decide_eq_false h3
            try simp (maxSteps := 9999999) only [go_sem, d3]
            by_cases q0 : z0 * z1 < 0
            · have e0 := decide_eq_true q0
              try simp (maxSteps := 9999999) only [go_sem, e0]
              repeat refine And.intro (by first|omega|(constructor<;>omega)|kernel_rfl) ?_
              all_goals first | omega | (simp [h0, h1, h2, h3, q0]; done)
            · have e0 := decide_eq_false q0
              try simp (maxSteps := 9999999) only [go_sem, e0]
              repeat refine And.intro (by first|omega|(constructor<;>omega)|kernel_rfl) ?_
              all_goals first | omega | (simp [h0, h1, h2, h3, q0]; done)
        · try simp (maxSteps := 9999999) only [go_sem, d2]
          repeat refine And.intro (by first|omega|(constructor<;>omega)|kernel_rfl) ?_
          refine CallW.mk (s2) ?_
          try simp (maxSteps := 9999999) only [go_sem]
          all_goals first | omega | (simp [h0, h1, h2]; done)
      · have d2 := decide_eq_false h2
        try simp (maxSteps := 9999999) only [go_sem, d2]
        by_cases h3 : z3 = 0
        · have d3 := decide_eq_true h3
          cases t3 : g3 <;> rw [t3] at s3
          · try simp (maxSteps := 9999999) only [go_sem, d3]
            repeat refine And.intro (by first|omega|(constructor<;>omega)|kernel_rfl) ?_
            refine CallW.mk (s3) ?_
            try simp (maxSteps := 9999999) only [go_sem]
            by_cases q0 : z0 * z1 < 0
            · have e0 := decide_eq_true q0
              try simp (maxSteps := 9999999) only [go_sem, e0]
              repeat refine And.intro (by first|omega|(constructor<;>omega)|kernel_rfl) ?_
              all_goals first | omega | (simp [h0, h1, h2, h3, q0]; done)
            · have e0 := decide_eq_false q0
              try simp (maxSteps := 9999999) only [go_sem, e0]
              repeat refine And.intro (by first|omega|(constructor<;>omega)|kernel_rfl) ?_
              all_goals first | omega | (simp [h0, h1, h2, h3, q0]; done)
          · try simp (maxSteps := 9999999) only [go_sem, d3]
            repeat refine And.intro (by first|omega|(constructor<;>omega)|kernel_rfl) ?_
            refine CallW.mk (s3) ?_
            try simp (maxSteps := 9999999) only [go_sem]
            all_goals first | omega | (simp [h0, h1, h2, h3]; done)
        · have d3 := decide_eq_false h3
          try simp (maxSteps := 9999999) only [go_sem, d3]
          by_cases q0 : z0 * z1 < 0
          · have e0 := decide_eq_true q0
            try simp (maxSteps := 9999999) only [go_sem, e0]
            repeat refine And.intro (by first|omega|(constructor<;>omega)|kernel_rfl) ?_
            all_goals first | omega | (simp [h0, h1, h2, h3, q0]; done)
          · have e0 := decide_eq_false q0
            try simp (maxSteps := 9999999) only [go_sem, e0]
            repeat refine And.intro (by first|omega|(constructor<;>omega)|kernel_rfl) ?_
            all_goals first | omega | (simp [h0, h1, h2, h3, q0]; done)
end Go.Proofs.YtghckbohaghgkaaGreat.DW
