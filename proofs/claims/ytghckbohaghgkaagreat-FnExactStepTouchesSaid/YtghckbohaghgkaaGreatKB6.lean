/-
  Texts of a proof, one behind another: Dw52, Dw53, Dw27, Dw46, Dw54, LwT, OpensT, LawStepTouches.
-/
import Derived.Test.YtghckbohaghgkaaGreatKB5
set_option linter.all false
/-
  Segments that meet, the reference.
-/
namespace Go.Proofs.YtghckbohaghgkaaGreat.DW
open Go.RowKit
set_option maxRecDepth 100000 in
set_option maxHeartbeats 4000000 in
theorem SegmentsMeetS_fn (a b c d : DP) (ha : okPt a = true) (hb : okPt b = true) (hc : okPt c = true) (hd : okPt d = true) : Fn Tryz.prog 106 [⟨tPoint, a⟩, ⟨tPoint, b⟩, ⟨tPoint, c⟩, ⟨tPoint, d⟩] false [⟨.bool, meetB a b c d⟩] := by
  have va := specIsValidPoint_fn a
  rw [ha] at va
  have vb := specIsValidPoint_fn b
  rw [hb] at vb
  have vc := specIsValidPoint_fn c
  rw [hc] at vc
  have vd := specIsValidPoint_fn d
  rw [hd] at vd
  have c0 := specSide_fn a b c
  have c1 := specSide_fn a b d
  have c2 := specSide_fn c d a
  have c3 := specSide_fn c d b
  have s0 := l08Between_fn c a b
  have s1 := l08Between_fn d a b
  have s2 := l08Between_fn a c d
  have s3 := l08Between_fn b c d
  have b0 := sdP_b a b c
  have b1 := sdP_b a b d
  have b2 := sdP_b c d a
  have b3 := sdP_b c d b
  unfold meetB
  generalize sdP a b c = z0 at *
  generalize sdP a b d = z1 at *
  generalize sdP c d a = z2 at *
  generalize sdP c d b = z3 at *
  generalize spanB c a b = g0 at *
  generalize spanB d a b = g1 at *
  generalize spanB a c d = g2 at *
  generalize spanB b c d = g3 at *
  have m0 := mul3 b0 b1
  have m1 := mul3 b2 b3
  refine fn_enter tabOK mixes Tryz.func106 rfl rfl _ Tryz.ntmps106 _ Tryz.results106 (by simp) fun hwf => ?_
  try simp (config := { maxSteps := 10000000 }) only [go_sem]
  repeat (refine And.intro (by first | omega | (constructor <;> omega) | kernel_rfl) ?_)
  refine CallW.mk (va) ?_
  try simp (config := { maxSteps := 10000000 }) only [go_sem]
  repeat (refine And.intro (by first | omega | (constructor <;> omega) | kernel_rfl) ?_)
  refine CallW.mk (vb) ?_
  try simp (config := { maxSteps := 10000000 }) only [go_sem]
  repeat (refine And.intro (by first | omega | (constructor <;> omega) | kernel_rfl) ?_)
  refine CallW.mk (vc) ?_
  try simp (config := { maxSteps := 10000000 }) only [go_sem]
  repeat (refine And.intro (by first | omega | (constructor <;> omega) | kernel_rfl) ?_)
  refine CallW.mk (vd) ?_
  try simp (config := { maxSteps := 10000000 }) only [go_sem]
  repeat (refine And.intro (by first | omega | (constructor <;> omega) | kernel_rfl) ?_)
  refine CallW.mk (c0) ?_
  try simp (config := { maxSteps := 10000000 }) only [go_sem]
  repeat (refine And.intro (by first | omega | (constructor <;> omega) | kernel_rfl) ?_)
  refine CallW.mk (c1) ?_
  try simp (config := { maxSteps := 10000000 }) only [go_sem]
  repeat (refine And.intro (by first | omega | (constructor <;> omega) | kernel_rfl) ?_)
  refine CallW.mk (c2) ?_
  try simp (config := { maxSteps := 10000000 }) only [go_sem]
  repeat (refine And.intro (by first | omega | (constructor <;> omega) | kernel_rfl) ?_)
  refine CallW.mk (c3) ?_
  try simp (config := { maxSteps := 10000000 }) only [go_sem]
  repeat (refine And.intro (by first | omega | (constructor <;> omega) | kernel_rfl) ?_)
  by_cases q0 : z0 * z1 < 0
  · have e0 := decide_eq_true q0
    by_cases q1 : z2 * z3 < 0
    · have e1 := decide_eq_true q1
      try simp (config := { maxSteps := 10000000 }) only [go_sem, e0, e1]
      repeat (refine And.intro (by first | omega | (constructor <;> omega) | kernel_rfl) ?_)
      try simp (config := { maxSteps := 10000000 }) only [go_sem, e0, e1]
      all_goals first | omega | (simp [q0, q1]; done)
    · have e1 := decide_eq_false q1
      try simp (config := { maxSteps := 10000000 }) only [go_sem, e0, e1]
      repeat (refine And.intro (by first | omega | (constructor <;> omega) | kernel_rfl) ?_)
      try simp (config := { maxSteps := 10000000 }) only [go_sem, e0, e1]
      by_cases h0 : z0 = 0
      · have d0 := decide_eq_true h0
        cases t0 : g0 <;> rw [t0] at s0
        · try simp (config := { maxSteps := 10000000 }) only [go_sem, e0, e1, d0]
          repeat (refine And.intro (by first | omega | (constructor <;> omega) | kernel_rfl) ?_)
          refine CallW.mk (s0) ?_
          try simp (config := { maxSteps := 10000000 }) only [go_sem]
          by_cases h1 : z1 = 0
          · have d1 := decide_eq_true h1
            cases t1 : g1 <;> rw [t1] at s1
            · try simp (config := { maxSteps := 10000000 }) only [go_sem, e0, e1, d0, d1]
              repeat (refine And.intro (by first | omega | (constructor <;> omega) | kernel_rfl) ?_)
              refine CallW.mk (s1) ?_
              try simp (config := { maxSteps := 10000000 }) only [go_sem]
              by_cases h2 : z2 = 0
              · have d2 := decide_eq_true h2
                cases t2 : g2 <;> rw [t2] at s2
                · try simp (config := { maxSteps := 10000000 }) only [go_sem, e0, e1, d0, d1, d2]
                  repeat (refine And.intro (by first | omega | (constructor <;> omega) | kernel_rfl) ?_)
                  refine CallW.mk (s2) ?_
                  try simp (config := { maxSteps := 10000000 }) only [go_sem]
                  by_cases h3 : z3 = 0
                  · have d3 := decide_eq_true h3
                    cases t3 : g3 <;> rw [t3] at s3
                    · try simp (config := { maxSteps := 10000000 }) only [go_sem, e0, e1, d0, d1, d2, d3]
                      repeat (refine And.intro (by first | omega | (constructor <;> omega) | kernel_rfl) ?_)
                      refine CallW.mk (s3) ?_
                      try simp (config := { maxSteps := 10000000 }) only [go_sem]
                      all_goals first | omega | (simp [q0, q1, h0, h1, h2, h3]; done)
                    · try simp (config := { maxSteps := 10000000 }) only [go_sem, e0, e1, d0, d1, d2, d3]
                      repeat (refine And.intro (by first | omega | (constructor <;> omega) | kernel_rfl) ?_)
                      refine CallW.mk (s3) ?_
                      try simp (config := { maxSteps := 10000000 }) only [go_sem]
                      all_goals first | omega | (simp [q0, q1, h0, h1, h2, h3]; done)
                  · have d3 := decide_eq_false h3
                    try simp (config := { maxSteps := 10000000 }) only [go_sem, e0, e1, d0, d1, d2, d3]
                    all_goals first | omega | (simp [q0, q1, h0, h1, h2, h3]; done)
                · try simp (config := { maxSteps := 10000000 }) only [go_sem, e0, e1, d0, d1, d2]
                  repeat (refine And.intro (by first | omega | (constructor <;> omega) | kernel_rfl) ?_)
                  refine CallW.mk (s2) ?_
                  try simp (config := { maxSteps := 10000000 }) only [go_sem]
                  all_goals first | omega | (simp [q0, q1, h0, h1, h2]; done)
              · have d2 := decide_eq_false h2
                try simp (config := { maxSteps := 10000000 }) only [go_sem, e0, e1, d0, d1, d2]
                by_cases h3 : z3 = 0
                · have d3 := decide_eq_true h3
                  cases t3 : g3 <;> rw [t3] at s3
                  · try simp (config := { maxSteps := 10000000 }) only [go_sem, e0, e1, d0, d1, d2, d3]
                    repeat (refine And.intro (by first | omega | (constructor <;> omega) | kernel_rfl) ?_)
                    refine CallW.mk (s3) ?_
                    try simp (config := { maxSteps := 10000000 }) only [go_sem]
                    all_goals first | omega | (simp [q0, q1, h0, h1, h2, h3]; done)
                  · try simp (config := { maxSteps := 10000000 }) only [go_sem, e0, e1, d0, d1, d2, d3]
                    repeat (refine And.intro (by first | omega | (constructor <;> omega) | kernel_rfl) ?_)
                    refine CallW.mk (s3) ?_
                    try simp (config := { maxSteps := 10000000 }) only [go_sem]
                    all_goals first | omega | (simp [q0, q1, h0, h1, h2, h3]; done)
                · have d3 := decide_eq_false h3
                  try simp (config := { maxSteps := 10000000 }) only [go_sem, e0, e1, d0, d1, d2, d3]
                  all_goals first | omega | (simp [q0, q1, h0, h1, h2, h3]; done)
            · try simp (config := { maxSteps := 10000000 }) only [go_sem, e0, e1, d0, d1]
              repeat (refine And.intro (by first | omega | (constructor <;> omega) | kernel_rfl) ?_)
              refine CallW.mk (s1) ?_
              try simp (config := { maxSteps := 10000000 }) only [go_sem]
              all_goals first | omega | (simp [q0, q1, h0, h1]; done)
          · have d1 := decide_eq_false h1
            try simp (config := { maxSteps := 10000000 }) only [go_sem, e0, e1, d0, d1]
            by_cases h2 : z2 = 0
            · have d2 := decide_eq_true h2
              cases t2 : g2 <;> rw [t2] at s2
              · try simp (config := { maxSteps := 10000000 }) only [go_sem, e0, e1, d0, d1, d2]
                repeat (refine And.intro (by first | omega | (constructor <;> omega) | kernel_rfl) ?_)
                refine CallW.mk (s2) ?_
                try simp (config := { maxSteps := 10000000 }) only [go_sem]
                by_cases h3 : z3 = 0
                · have d3 := decide_eq_true h3
                  cases t3 : g3 <;> rw [t3] at s3
                  · try simp (config := { maxSteps := 10000000 }) only [go_sem, e0, e1, d0, d1, d2, d3]
                    repeat (refine And.intro (by first | omega | (constructor <;> omega) | kernel_rfl) ?_)
                    refine CallW.mk (s3) ?_
                    try simp (config := { maxSteps := 10000000 }) only [go_sem]
                    all_goals first | omega | (simp [q0, q1, h0, h1, h2, h3]; done)
                  · try simp (config := { maxSteps := 10000000 }) only [go_sem, e0, e1, d0, d1, d2, d3]
                    repeat (refine And.intro (by first | omega | (constructor <;> omega) | kernel_rfl) ?_)
                    refine CallW.mk (s3) ?_
                    try simp (config := { maxSteps := 10000000 }) only [go_sem]
                    all_goals first | omega | (simp [q0, q1, h0, h1, h2, h3]; done)
                · have d3 := decide_eq_false h3
                  try simp (config := { maxSteps := 10000000 }) only [go_sem, e0, e1, d0, d1, d2, d3]
                  all_goals first | omega | (simp [q0, q1, h0, h1, h2, h3]; done)
              · try simp (config := { maxSteps := 10000000 }) only [go_sem, e0, e1, d0, d1, d2]
                repeat (refine And.intro (by first | omega | (constructor <;> omega) | kernel_rfl) ?_)
                refine CallW.mk (s2) ?_
                try simp (config := { maxSteps := 10000000 }) only [go_sem]
                all_goals first | omega | (simp [q0, q1, h0, h1, h2]; done)
            · have d2 := decide_eq_false h2
              try simp (config := { maxSteps := 10000000 }) only [go_sem, e0, e1, d0, d1, d2]
              by_cases h3 : z3 = 0
              · have d3 := decide_eq_true h3
                cases t3 : g3 <;> rw [t3] at s3
                · try simp (config := { maxSteps := 10000000 }) only [go_sem, e0, e1, d0, d1, d2, d3]
                  repeat (refine And.intro (by first | omega | (constructor <;> omega) | kernel_rfl) ?_)
                  refine CallW.mk (s3) ?_
                  try simp (config := { maxSteps := 10000000 }) only [go_sem]
                  all_goals first | omega | (simp [q0, q1, h0, h1, h2, h3]; done)
                · try simp (config := { maxSteps := 10000000 }) only [go_sem, e0, e1, d0, d1, d2, d3]
                  repeat (refine And.intro (by first | omega | (constructor <;> omega) | kernel_rfl) ?_)
                  refine CallW.mk (s3) ?_
                  try simp (config := { maxSteps := 10000000 }) only [go_sem]
                  all_goals first | omega | (simp [q0, q1, h0, h1, h2, h3]; done)
              · have d3 := decide_eq_false h3
                try simp (config := { maxSteps := 10000000 }) only [go_sem, e0, e1, d0, d1, d2, d3]
                all_goals first | omega | (simp [q0, q1, h0, h1, h2, h3]; done)
        · try simp (config := { maxSteps := 10000000 }) only [go_sem, e0, e1, d0]
          repeat (refine And.intro (by first | omega | (constructor <;> omega) | kernel_rfl) ?_)
          refine CallW.mk (s0) ?_
          try simp (config := { maxSteps := 10000000 }) only [go_sem]
          all_goals first | omega | (simp [q0, q1, h0]; done)
      · have d0 := decide_eq_false h0
        try simp (config := { maxSteps := 10000000 }) only [go_sem, e0, e1, d0]
        by_cases h1 : z1 = 0
        · have d1 := decide_eq_true h1
          cases t1 : g1 <;> rw [t1] at s1
          · try simp (config := { maxSteps := 10000000 }) only [go_sem, e0, e1, d0, d1]
            repeat (refine And.intro (by first | omega | (constructor <;> omega) | kernel_rfl) ?_)
            refine CallW.mk (s1) ?_
            try simp (config := { maxSteps := 10000000 }) only [go_sem]
            by_cases h2 : z2 = 0
            · have d2 := decide_eq_true h2
              cases t2 : g2 <;> rw [t2] at s2
              · try simp (config := { maxSteps := 10000000 }) only [go_sem, e0, e1, d0, d1, d2]
                repeat (refine And.intro (by first | omega | (constructor <;> omega) | kernel_rfl) ?_)
                refine CallW.mk (s2) ?_
                try simp (config := { maxSteps := 10000000 }) only [go_sem]
                by_cases h3 : z3 = 0
                · have d3 := decide_eq_true h3
                  cases t3 : g3 <;> rw [t3] at s3
                  · try simp (config := { maxSteps := 10000000 }) only [go_sem, e0, e1, d0, d1, d2, d3]
                    repeat (refine And.intro (by first | omega | (constructor <;> omega) | kernel_rfl) ?_)
                    refine CallW.mk (s3) ?_
                    try simp (config := { maxSteps := 10000000 }) only [go_sem]
                    all_goals first | omega | (simp [q0, q1, h0, h1, h2, h3]; done)
                  · try simp (config := { maxSteps := 10000000 }) only [go_sem, e0, e1, d0, d1, d2, d3]
                    repeat (refine And.intro (by first | omega | (constructor <;> omega) | kernel_rfl) ?_)
                    refine CallW.mk (s3) ?_
                    try simp (config := { maxSteps := 10000000 }) only [go_sem]
                    all_goals first | omega | (simp [q0, q1, h0, h1, h2, h3]; done)
                · have d3 := decide_eq_false h3
                  try simp (config := { maxSteps := 10000000 }) only [go_sem, e0, e1, d0, d1, d2, d3]
                  all_goals first | omega | (simp [q0, q1, h0, h1, h2, h3]; done)
              · try simp (config := { maxSteps := 10000000 }) only [go_sem, e0, e1, d0, d1, d2]
                repeat (refine And.intro (by first | omega | (constructor <;> omega) | kernel_rfl) ?_)
                refine CallW.mk (s2) ?_
                try simp (config := { maxSteps := 10000000 }) only [go_sem]
                all_goals first | omega | (simp [q0, q1, h0, h1, h2]; done)
            · have d2 := decide_eq_false h2
              try simp (config := { maxSteps := 10000000 }) only [go_sem, e0, e1, d0, d1, d2]
              by_cases h3 : z3 = 0
              · have d3 := decide_eq_true h3
                cases t3 : g3 <;> rw [t3] at s3
                · try simp (config := { maxSteps := 10000000 }) only [go_sem, e0, e1, d0, d1, d2, d3]
                  repeat (refine And.intro (by first | omega | (constructor <;> omega) | kernel_rfl) ?_)
                  refine CallW.mk (s3) ?_
                  try simp (config := { maxSteps := 10000000 }) only [go_sem]
                  all_goals first | omega | (simp [q0, q1, h0, h1, h2, h3]; done)
                · try simp (config := { maxSteps := 10000000 }) only [go_sem, e0, e1, d0, d1, d2, d3]
                  repeat (refine And.intro (by first | omega | (constructor <;> omega) | kernel_rfl) ?_)
                  refine CallW.mk (s3) ?_
                  try simp (config := { maxSteps := 10000000 }) only [go_sem]
                  all_goals first | omega | (simp [q0, q1, h0, h1, h2, h3]; done)
              · have d3 := decide_eq_false h3
                try simp (config := { maxSteps := 10000000 }) only [go_sem, e0, e1, d0, d1, d2, d3]
                all_goals first | omega | (simp [q0, q1, h0, h1, h2, h3]; done)
          · try simp (config := { maxSteps := 10000000 }) only [go_sem, e0, e1, d0, d1]
            repeat (refine And.intro (by first | omega | (constructor <;> omega) | kernel_rfl) ?_)
            refine CallW.mk (s1) ?_
            try simp (config := { maxSteps := 10000000 }) only [go_sem]
            all_goals first | omega | (simp [q0, q1, h0, h1]; done)
        · have d1 := decide_eq_false h1
          try simp (config := { maxSteps := 10000000 }) only [go_sem, e0, e1, d0, d1]
          by_cases h2 : z2 = 0
          · have d2 := decide_eq_true h2
            cases t2 : g2 <;> rw [t2] at s2
            · try simp (config := { maxSteps := 10000000 }) only [go_sem, e0, e1, d0, d1, d2]
              repeat (refine And.intro (by first | omega | (constructor <;> omega) | kernel_rfl) ?_)
              refine CallW.mk (s2) ?_
              try simp (config := { maxSteps := 10000000 }) only [go_sem]
              by_cases h3 : z3 = 0
              · have d3 := decide_eq_true h3
                cases t3 : g3 <;> rw [t3] at s3
                · try simp (config := { maxSteps := 10000000 }) only [go_sem, e0, e1, d0, d1, d2, d3]
                  repeat (refine And.intro (by first | omega | (constructor <;> omega) | kernel_rfl) ?_)
                  refine CallW.mk (s3) ?_
                  try simp (config := { maxSteps := 10000000 }) only [go_sem]
                  all_goals first | omega | (simp [q0, q1, h0, h1, h2, h3]; done)
                · try simp (config := { maxSteps := 10000000 }) only [go_sem, e0, e1, d0, d1, d2, d3]
                  repeat (refine And.intro (by first | omega | (constructor <;> omega) | kernel_rfl) ?_)
                  refine CallW.mk (s3) ?_
                  try simp (config := { maxSteps := 10000000 }) only [go_sem]
                  all_goals first | omega | (simp [q0, q1, h0, h1, h2, h3]; done)
              · have d3 := decide_eq_false h3
                try simp (config := { maxSteps := 10000000 }) only [go_sem, e0, e1, d0, d1, d2, d3]
                all_goals first | omega | (simp [q0, q1, h0, h1, h2, h3]; done)
            · try simp (config := { maxSteps := 10000000 }) only [go_sem, e0, e1, d0, d1, d2]
              repeat (refine And.intro (by first | omega | (constructor <;> omega) | kernel_rfl) ?_)
              refine CallW.mk (s2) ?_
              try simp (config := { maxSteps := 10000000 }) only [go_sem]
              all_goals first | omega | (simp [q0, q1, h0, h1, h2]; done)
          · have d2 := decide_eq_false h2
            try simp (config := { maxSteps := 10000000 }) only [go_sem, e0, e1, d0, d1, d2]
            by_cases h3 : z3 = 0
            · have d3 := decide_eq_true h3
              cases t3 : g3 <;> rw [t3] at s3
              · try simp (config := { maxSteps := 10000000 }) only [go_sem, e0, e1, d0, d1, d2, d3]
                repeat (refine And.intro (by first | omega | (constructor <;> omega) | kernel_rfl) ?_)
                refine CallW.mk (s3) ?_
                try simp (config := { maxSteps := 10000000 }) only [go_sem]
                all_goals first | omega | (simp [q0, q1, h0, h1, h2, h3]; done)
              · try simp (config := { maxSteps := 10000000 }) only [go_sem, e0, e1, d0, d1, d2, d3]
                repeat (refine And.intro (by first | omega | (constructor <;> omega) | kernel_rfl) ?_)
                refine CallW.mk (s3) ?_
                try simp (config := { maxSteps := 10000000 }) only [go_sem]
                all_goals first | omega | (simp [q0, q1, h0, h1, h2, h3]; done)
            · have d3 := decide_eq_false h3
              try simp (config := { maxSteps := 10000000 }) only [go_sem, e0, e1, d0, d1, d2, d3]
              all_goals first | omega | (simp [q0, q1, h0, h1, h2, h3]; done)
  · have e0 := decide_eq_false q0
    try simp (config := { maxSteps := 10000000 }) only [go_sem, e0]
    repeat (refine And.intro (by first | omega | (constructor <;> omega) | kernel_rfl) ?_)
    by_cases h0 : z0 = 0
    · have d0 := decide_eq_true h0
      cases t0 : g0 <;> rw [t0] at s0
      · try simp (config := { maxSteps := 10000000 }) only [go_sem, e0, d0]
        repeat (refine And.intro (by first | omega | (constructor <;> omega) | kernel_rfl) ?_)
        refine CallW.mk (s0) ?_
        try simp (config := { maxSteps := 10000000 }) only [go_sem]
        by_cases h1 : z1 = 0
        · have d1 := decide_eq_true h1
          cases t1 : g1 <;> rw [t1] at s1
          · try simp (config := { maxSteps := 10000000 }) only [go_sem, e0, d0, d1]
            repeat (refine And.intro (by first | omega | (constructor <;> omega) | kernel_rfl) ?_)
            refine CallW.mk (s1) ?_
            try simp (config := { maxSteps := 10000000 }) only [go_sem]
            by_cases h2 : z2 = 0
            · have d2 := decide_eq_true h2
              cases t2 : g2 <;> rw [t2] at s2
              · try simp (config := { maxSteps := 10000000 }) only [go_sem, e0, d0, d1, d2]
                repeat (refine And.intro (by first | omega | (constructor <;> omega) | kernel_rfl) ?_)
                refine CallW.mk (s2) ?_
                try simp (config := { maxSteps := 10000000 }) only [go_sem]
                by_cases h3 : z3 = 0
                · have d3 := decide_eq_true h3
                  cases t3 : g3 <;> rw [t3] at s3
                  · try simp (config := { maxSteps := 10000000 }) only [go_sem, e0, d0, d1, d2, d3]
                    repeat (refine And.intro (by first | omega | (constructor <;> omega) | kernel_rfl) ?_)
                    refine CallW.mk (s3) ?_
                    try simp (config := { maxSteps := 10000000 }) only [go_sem]
                    all_goals first | omega | (simp [q0, h0, h1, h2, h3]; done)
                  · try simp (config := { maxSteps := 10000000 }) only [go_sem, e0, d0, d1, d2, d3]
                    repeat (refine And.intro (by first | omega | (constructor <;> omega) | kernel_rfl) ?_)
                    refine CallW.mk (s3) ?_
                    try simp (config := { maxSteps := 10000000 }) only [go_sem]
                    all_goals first | omega | (simp [q0, h0, h1, h2, h3]; done)
                · have d3 := decide_eq_false h3
                  try simp (config := { maxSteps := 10000000 }) only [go_sem, e0, d0, d1, d2, d3]
                  all_goals first | omega | (simp [q0, h0, h1, h2, h3]; done)
              · try simp (config := { maxSteps := 10000000 }) only [go_sem, e0, d0, d1, d2]
                repeat (refine And.intro (by first | omega | (constructor <;> omega) | kernel_rfl) ?_)
                refine CallW.mk (s2) ?_
                try simp (config := { maxSteps := 10000000 }) only [go_sem]
                all_goals first | omega | (simp [q0, h0, h1, h2]; done)
            · have d2 := decide_eq_false h2
              try simp (config := { maxSteps := 10000000 }) only [go_sem, e0, d0, d1, d2]
              by_cases h3 : z3 = 0
              · have d3 := decide_eq_true h3
                cases t3 : g3 <;> rw [t3] at s3
                · try simp (config := { maxSteps := 10000000 }) only [go_sem, e0, d0, d1, d2, d3]
                  repeat (refine And.intro (by first | omega | (constructor <;> omega) | kernel_rfl) ?_)
                  refine CallW.mk (s3) ?_
                  try simp (config := { maxSteps := 10000000 }) only [go_sem]
                  all_goals first | omega | (simp [q0, h0, h1, h2, h3]; done)
                · try simp (config := { maxSteps := 10000000 }) only [go_sem, e0, d0, d1, d2, d3]
                  repeat (refine And.intro (by first | omega | (constructor <;> omega) | kernel_rfl) ?_)
                  refine CallW.mk (s3) ?_
                  try simp (config := { maxSteps := 10000000 }) only [go_sem]
                  all_goals first | omega | (simp [q0, h0, h1, h2, h3]; done)
              · have d3 := decide_eq_false h3
                try simp (config := { maxSteps := 10000000 }) only [go_sem, e0, d0, d1, d2, d3]
                all_goals first | omega | (simp [q0, h0, h1, h2, h3]; done)
          · try simp (config := { maxSteps := 10000000 }) only [go_sem, e0, d0, d1]
            repeat (refine And.intro (by first | omega | (constructor <;> omega) | kernel_rfl) ?_)
            refine CallW.mk (s1) ?_
            try simp (config := { maxSteps := 10000000 }) only [go_sem]
            all_goals first | omega | (simp [q0, h0, h1]; done)
        · have d1 := decide_eq_false h1
          try simp (config := { maxSteps := 10000000 }) only [go_sem, e0, d0, d1]
          by_cases h2 : z2 = 0
          · have d2 := decide_eq_true h2
            cases t2 : g2 <;> rw [t2] at s2
            · try simp (config := { maxSteps := 10000000 }) only [go_sem, e0, d0, d1, d2]
              repeat (refine And.intro (by first | omega | (constructor <;> omega) | kernel_rfl) ?_)
              refine CallW.mk (s2) ?_
              try simp (config := { maxSteps := 10000000 }) only [go_sem]
              by_cases h3 : z3 = 0
              · have d3 := decide_eq_true h3
                cases t3 : g3 <;> rw [t3] at s3
                · try simp (config := { maxSteps := 10000000 }) only [go_sem, e0, d0, d1, d2, d3]
                  repeat (refine And.intro (by first | omega | (constructor <;> omega) | kernel_rfl) ?_)
                  refine CallW.mk (s3) ?_
                  try simp (config := { maxSteps := 10000000 }) only [go_sem]
                  all_goals first | omega | (simp [q0, h0, h1, h2, h3]; done)
                · try simp (config := { maxSteps := 10000000 }) only [go_sem, e0, d0, d1, d2, d3]
                  repeat (refine And.intro (by first | omega | (constructor <;> omega) | kernel_rfl) ?_)
                  refine CallW.mk (s3) ?_
                  try simp (config := { maxSteps := 10000000 }) only [go_sem]
                  all_goals first | omega | (simp [q0, h0, h1, h2, h3]; done)
              · have d3 := decide_eq_false h3
                try simp (config := { maxSteps := 10000000 }) only [go_sem, e0, d0, d1, d2, d3]
                all_goals first | omega | (simp [q0, h0, h1, h2, h3]; done)
            · try simp (config := { maxSteps := 10000000 }) only [go_sem, e0, d0, d1, d2]
              repeat (refine And.intro (by first | omega | (constructor <;> omega) | kernel_rfl) ?_)
              refine CallW.mk (s2) ?_
              try simp (config := { maxSteps := 10000000 }) only [go_sem]
              all_goals first | omega | (simp [q0, h0, h1, h2]; done)
          · have d2 := decide_eq_false h2
            try simp (config := { maxSteps := 10000000 }) only [go_sem, e0, d0, d1, d2]
            by_cases h3 : z3 = 0
            · have d3 := decide_eq_true h3
              cases t3 : g3 <;> rw [t3] at s3
              · try simp (config := { maxSteps := 10000000 }) only [go_sem, e0, d0, d1, d2, d3]
                repeat (refine And.intro (by first | omega | (constructor <;> omega) | kernel_rfl) ?_)
                refine CallW.mk (s3) ?_
                try simp (config := { maxSteps := 10000000 }) only [go_sem]
                all_goals first | omega | (simp [q0, h0, h1, h2, h3]; done)
              · try simp (config := { maxSteps := 10000000 }) only [go_sem, e0, d0, d1, d2, d3]
                repeat (refine And.intro (by first | omega | (constructor <;> omega) | kernel_rfl) ?_)
                refine CallW.mk (s3) ?_
                try simp (config := { maxSteps := 10000000 }) only [go_sem]
                all_goals first | omega | (simp [q0, h0, h1, h2, h3]; done)
            · have d3 := decide_eq_false h3
              try simp (config := { maxSteps := 10000000 }) only [go_sem, e0, d0, d1, d2, d3]
              all_goals first | omega | (simp [q0, h0, h1, h2, h3]; done)
      · try simp (config := { maxSteps := 10000000 }) only [go_sem, e0, d0]
        repeat (refine And.intro (by first | omega | (constructor <;> omega) | kernel_rfl) ?_)
        refine CallW.mk (s0) ?_
        try simp (config := { maxSteps := 10000000 }) only [go_sem]
        all_goals first | omega | (simp [q0, h0]; done)
    · have d0 := decide_eq_false h0
      try simp (config := { maxSteps := 10000000 }) only [go_sem, e0, d0]
      by_cases h1 : z1 = 0
      · have d1 := decide_eq_true h1
        cases t1 : g1 <;> rw [t1] at s1
        · try simp (config := { maxSteps := 10000000 }) only [go_sem, e0, d0, d1]
          repeat (refine And.intro (by first | omega | (constructor <;> omega) | kernel_rfl) ?_)
          refine CallW.mk (s1) ?_
          try simp (config := { maxSteps := 10000000 }) only [go_sem]
          by_cases h2 : z2 = 0
          · have d2 := decide_eq_true h2
            cases t2 : g2 <;> rw [t2] at s2
            · try simp (config := { maxSteps := 10000000 }) only [go_sem, e0, d0, d1, d2]
              repeat (refine And.intro (by first | omega | (constructor <;> omega) | kernel_rfl) ?_)
              refine CallW.mk (s2) ?_
              try simp (config := { maxSteps := 10000000 }) only [go_sem]
              by_cases h3 : z3 = 0
              · have d3 := decide_eq_true h3
                cases t3 : g3 <;> rw [t3] at s3
                · try simp (config := { maxSteps := 10000000 }) only [go_sem, e0, d0, d1, d2, d3]
                  repeat (refine And.intro (by first | omega | (constructor <;> omega) | kernel_rfl) ?_)
                  refine CallW.mk (s3) ?_
                  try simp (config := { maxSteps := 10000000 }) only [go_sem]
                  all_goals first | omega | (simp [q0, h0, h1, h2, h3]; done)
                · try simp (config := { maxSteps := 10000000 }) only [go_sem, e0, d0, d1, d2, d3]
                  repeat (refine And.intro (by first | omega | (constructor <;> omega) | kernel_rfl) ?_)
                  refine CallW.mk (s3) ?_
                  try simp (config := { maxSteps := 10000000 }) only [go_sem]
                  all_goals first | omega | (simp [q0, h0, h1, h2, h3]; done)
              · have d3 := decide_eq_false h3
                try simp (config := { maxSteps := 10000000 }) only [go_sem, e0, d0, d1, d2, d3]
                all_goals first | omega | (simp [q0, h0, h1, h2, h3]; done)
            · try simp (config := { maxSteps := 10000000 }) only [go_sem, e0, d0, d1, d2]
              repeat (refine And.intro (by first | omega | (constructor <;> omega) | kernel_rfl) ?_)
              refine CallW.mk (s2) ?_
              try simp (config := { maxSteps := 10000000 }) only [go_sem]
              all_goals first | omega | (simp [q0, h0, h1, h2]; done)
          · have d2 := decide_eq_false h2
            try simp (config := { maxSteps := 10000000 }) only [go_sem, e0, d0, d1, d2]
            by_cases h3 : z3 = 0
            · have d3 := decide_eq_true h3
              cases t3 : g3 <;> rw [t3] at s3
              · try simp (config := { maxSteps := 10000000 }) only [go_sem, e0, d0, d1, d2, d3]
                repeat (refine And.intro (by first | omega | (constructor <;> omega) | kernel_rfl) ?_)
                refine CallW.mk (s3) ?_
                try simp (config := { maxSteps := 10000000 }) only [go_sem]
                all_goals first | omega | (simp [q0, h0, h1, h2, h3]; done)
              · try simp (config := { maxSteps := 10000000 }) only [go_sem, e0, d0, d1, d2, d3]
                repeat (refine And.intro (by first | omega | (constructor <;> omega) | kernel_rfl) ?_)
                refine CallW.mk (s3) ?_
                try simp (config := { maxSteps := 10000000 }) only [go_sem]
                all_goals first | omega | (simp [q0, h0, h1, h2, h3]; done)
            · have d3 := decide_eq_false h3
              try simp (config := { maxSteps := 10000000 }) only [go_sem, e0, d0, d1, d2, d3]
              all_goals first | omega | (simp [q0, h0, h1, h2, h3]; done)
        · try simp (config := { maxSteps := 10000000 }) only [go_sem, e0, d0, d1]
          repeat (refine And.intro (by first | omega | (constructor <;> omega) | kernel_rfl) ?_)
          refine CallW.mk (s1) ?_
          try simp (config := { maxSteps := 10000000 }) only [go_sem]
          all_goals first | omega | (simp [q0, h0, h1]; done)
      · have d1 := decide_eq_false h1
        try simp (config := { maxSteps := 10000000 }) only [go_sem, e0, d0, d1]
        by_cases h2 : z2 = 0
        · have d2 := decide_eq_true h2
          cases t2 : g2 <;> rw [t2] at s2
          · try simp (config := { maxSteps := 10000000 }) only [go_sem, e0, d0, d1, d2]
            repeat (refine And.intro (by first | omega | (constructor <;> omega) | kernel_rfl) ?_)
            refine CallW.mk (s2) ?_
            try simp (config := { maxSteps := 10000000 }) only [go_sem]
            by_cases h3 : z3 = 0
            · have d3 := decide_eq_true h3
              cases t3 : g3 <;> rw [t3] at s3
              · try simp (config := { maxSteps := 10000000 }) only [go_sem, e0, d0, d1, d2, d3]
                repeat (refine And.intro (by first | omega | (constructor <;> omega) | kernel_rfl) ?_)
                refine CallW.mk (s3) ?_
                try simp (config := { maxSteps := 10000000 }) only [go_sem]
                all_goals first | omega | (simp [q0, h0, h1, h2, h3]; done)
              · try simp (config := { maxSteps := 10000000 }) only [go_sem, e0, d0, d1, d2, d3]
                repeat (refine And.intro (by first | omega | (constructor <;> omega) | kernel_rfl) ?_)
                refine CallW.mk (s3) ?_
                try simp (config := { maxSteps := 10000000 }) only [go_sem]
                all_goals first | omega | (simp [q0, h0, h1, h2, h3]; done)
            · have d3 := decide_eq_false h3
              try simp (config := { maxSteps := 10000000 }) only [go_sem, e0, d0, d1, d2, d3]
              all_goals first | omega | (simp [q0, h0, h1, h2, h3]; done)
          · try simp (config := { maxSteps := 10000000 }) only [go_sem, e0, d0, d1, d2]
            repeat (refine And.intro (by first | omega | (constructor <;> omega) | kernel_rfl) ?_)
            refine CallW.mk (s2) ?_
            try simp (config := { maxSteps := 10000000 }) only [go_sem]
            all_goals first | omega | (simp [q0, h0, h1, h2]; done)
        · have d2 := decide_eq_false h2
          try simp (config := { maxSteps := 10000000 }) only [go_sem, e0, d0, d1, d2]
          by_cases h3 : z3 = 0
          · have d3 := decide_eq_true h3
            cases t3 : g3 <;> rw [t3] at s3
            · try simp (config := { maxSteps := 10000000 }) only [go_sem, e0, d0, d1, d2, d3]
              repeat (refine And.intro (by first | omega | (constructor <;> omega) | kernel_rfl) ?_)
              refine CallW.mk (s3) ?_
              try simp (config := { maxSteps := 10000000 }) only [go_sem]
              all_goals first | omega | (simp [q0, h0, h1, h2, h3]; done)
            · try simp (config := { maxSteps := 10000000 }) only [go_sem, e0, d0, d1, d2, d3]
              repeat (refine And.intro (by first | omega | (constructor <;> omega) | kernel_rfl) ?_)
              refine CallW.mk (s3) ?_
              try simp (config := { maxSteps := 10000000 }) only [go_sem]
              all_goals first | omega | (simp [q0, h0, h1, h2, h3]; done)
          · have d3 := decide_eq_false h3
            try simp (config := { maxSteps := 10000000 }) only [go_sem, e0, d0, d1, d2, d3]
            all_goals first | omega | (simp [q0, h0, h1, h2, h3]; done)
end Go.Proofs.YtghckbohaghgkaaGreat.DW

/-
  Segments and polygons.
-/
namespace Go.Proofs.YtghckbohaghgkaaGreat.DW
open Go.RowKit
/-- Does the segment meet one of the first i edges? -/
noncomputable def smI_ (l : List DV) (p q : DP) (i : Nat) : Bool := meetB p q (ptV (nth (t := tVec) l i)) (ptV (nth (t := tVec) l (nxt l.length i).toNat))
def smAny (l : List DV) (p q : DP) : Prop := ∃ i, i < l.length ∧ smI_ l p q i = true
noncomputable def segB (l : List DV) (p q : DP) : Bool := decide (cntI l p l.length ≥ 0) || (decide (cntI l q l.length ≥ 0) || bdec (smAny l p q))
theorem segmentMeets_fn (l : List DV) (p q : DP) (hl : polyP l) (hp : okPt p = true) (hq : okPt q = true) : Fn Tryz.prog 153 [⟨.slice tVec, l⟩, ⟨tPoint, p⟩, ⟨tPoint, q⟩] false [⟨.bool, segB l p q⟩] := by
  have h3 : 3 ≤ l.length := by have := hl.1.1; omega
  have hn : l.length ≤ 1048576 := by have := hl.1.2; omega
  have c1 := contains_fn l p hl.2.1 hn hp
  have c2 := contains_fn l q hl.2.1 hn hq
  have c3 := pointsOf_fn l hn
  have hml : (l.map ptV).length = l.length := List.length_map ..
  have ptok : ∀ i, i < l.length → okPt (ptV (nth (t := tVec) l i)) = true := fun i hi => okPt_ptV (hl.2.1 _ (nth_mem hi))
  unfold segB
  by_cases h1 : cntI l p l.length ≥ 0
  · have d1 := decide_eq_true h1
    rw [d1]
    refine fn_enter tabOK mixes Tryz.func153 rfl rfl _ Tryz.ntmps153 _ Tryz.results153 (by simp) fun hwf => ?_
    try simp (config := { maxSteps := 10000000 }) only [go_sem]
    repeat (refine And.intro (by first | omega | (constructor <;> omega) | kernel_rfl) ?_)
    refine CallW.mk (c1) ?_
    try simp (config := { maxSteps := 10000000 }) only [go_sem]
    try simp (config := { maxSteps := 10000000 }) only [go_sem, d1]
    all_goals repeat (refine And.intro (by first | omega | (constructor <;> omega) | kernel_rfl) ?_)
    all_goals first | kernel_rfl | omega | rfl
  · have d1 := decide_eq_false h1
    rw [d1]
    by_cases h2 : cntI l q l.length ≥ 0
    · have d2 := decide_eq_true h2
      rw [d2]
      refine fn_enter tabOK mixes Tryz.func153 rfl rfl _ Tryz.ntmps153 _ Tryz.results153 (by simp) fun hwf => ?_
      try simp (config := { maxSteps := 10000000 }) only [go_sem]
      repeat (refine And.intro (by first | omega | (constructor <;> omega) | kernel_rfl) ?_)
      refine CallW.mk (c1) ?_
      try simp (config := { maxSteps := 10000000 }) only [go_sem]
      try simp (config := { maxSteps := 10000000 }) only [go_sem, d1]
      repeat (refine And.intro (by first | omega | (constructor <;> omega) | kernel_rfl) ?_)
      refine CallW.mk (c2) ?_
      try simp (config := { maxSteps := 10000000 }) only [go_sem]
      try simp (config := { maxSteps := 10000000 }) only [go_sem, d2]
      all_goals repeat (refine And.intro (by first | omega | (constructor <;> omega) | kernel_rfl) ?_)
      all_goals first | kernel_rfl | omega | rfl
    · have d2 := decide_eq_false h2
      rw [d2]
      refine fn_enter tabOK mixes Tryz.func153 rfl rfl _ Tryz.ntmps153 _ Tryz.results153 (by simp) fun hwf => ?_
      try simp (config := { maxSteps := 10000000 }) only [go_sem]
      repeat (refine And.intro (by first | omega | (constructor <;> omega) | kernel_rfl) ?_)
      refine CallW.mk (c1) ?_
      try simp (config := { maxSteps := 10000000 }) only [go_sem]
      try simp (config := { maxSteps := 10000000 }) only [go_sem, d1]
      repeat (refine And.intro (by first | omega | (constructor <;> omega) | kernel_rfl) ?_)
      refine CallW.mk (c2) ?_
      try simp (config := { maxSteps := 10000000 }) only [go_sem]
      try simp (config := { maxSteps := 10000000 }) only [go_sem, d2]
      repeat (refine And.intro (by first | omega | (constructor <;> omega) | kernel_rfl) ?_)
      refine CallW.mk (c3) ?_
      try simp (config := { maxSteps := 10000000 }) only [go_sem]
      try simp (config := { maxSteps := 10000000 }) only [go_sem, hml]
      refine LoopG.intro _ _ _ (fun i : Nat => ⟨[(4, .ptr 0 0), (5, .ptr 1 0), (7, .sl tPoint (l.map ptV)), (22, .sl tPoint (l.map ptV)), (23, .sc (.int .i64 l.length)), (24, .sc (.int .i64 i))], [(1, .box (cel tPoint q)), (0, .box (cel tPoint p))]⟩) (fun i => ∀ j, j < i → j < l.length → smI_ l p q j = false) (fun i => l.length - i) 0 ?_ (fun j h => absurd h (Nat.not_lt_zero _)) ?_
      · refine Wk.mk [] ?_
        try simp (config := { maxSteps := 10000000 }) only [go_sem]
        try (and_intros <;> first | rfl | omega | exact ⟨_, rfl⟩)
      · rintro i hi
        try simp (config := { maxSteps := 10000000 }) only [go_sem]
        refine CondW_dec (fun hA => ?_) (fun hA => ?_)
        · have hlt : i < l.length := by omega
          have hr := nxt_rng (n := l.length) (i := i) (by omega)
          have hr2 : (nxt l.length i).toNat < l.length := by omega
          have c4 := meet_fn p q (ptV (nth (t := tVec) l i)) (ptV (nth (t := tVec) l (nxt l.length i).toNat)) hp hq (ptok _ (by omega)) (ptok _ hr2)
          rw [show meetB p q (ptV (nth (t := tVec) l i)) (ptV (nth (t := tVec) l (nxt l.length i).toNat)) = smI_ l p q i from rfl] at c4
          rw [← nth_ptV hlt, ← nth_ptV hr2] at c4
          unfold nxt at hr hr2 c4
          cases hs : smI_ l p q i <;> rw [hs] at c4
          · try simp (config := { maxSteps := 10000000 }) only [go_sem, hml]
            repeat (refine And.intro (by first | omega | (constructor <;> omega) | kernel_rfl) ?_)
            refine RemW.pos (by omega) (by omega) ?_
            try simp (config := { maxSteps := 10000000 }) only [go_sem, hml]
            repeat (refine And.intro (by first | omega | (constructor <;> omega) | kernel_rfl) ?_)
            repeat (refine And.intro (by first | omega | (constructor <;> omega) | kernel_rfl) ?_)
            refine CallW.mk (c4) ?_
            try simp (config := { maxSteps := 10000000 }) only [go_sem]
            repeat (refine And.intro (by first | omega | (constructor <;> omega) | kernel_rfl) ?_)
            refine LoopK.mk (i + 1) ?_ (fun j h1 h2 => ?_) (by omega)
            · refine Wk.mk [] ?_
              try simp (config := { maxSteps := 10000000 }) only [go_sem]
              try (and_intros <;> first | rfl | omega | exact ⟨_, rfl⟩)
            · by_cases h : j < i
              · exact hi j h h2
              · rw [show j = i by omega]; exact hs
          · have e : bdec (smAny l p q) = true := bdec_t ⟨i, hlt, hs⟩
            rw [e]
            try simp (config := { maxSteps := 10000000 }) only [go_sem, hml]
            repeat (refine And.intro (by first | omega | (constructor <;> omega) | kernel_rfl) ?_)
            refine RemW.pos (by omega) (by omega) ?_
            try simp (config := { maxSteps := 10000000 }) only [go_sem, hml]
            repeat (refine And.intro (by first | omega | (constructor <;> omega) | kernel_rfl) ?_)
            repeat (refine And.intro (by first | omega | (constructor <;> omega) | kernel_rfl) ?_)
            refine CallW.mk (c4) ?_
            try simp (config := { maxSteps := 10000000 }) only [go_sem]
            all_goals repeat (refine And.intro (by first | omega | (constructor <;> omega) | kernel_rfl) ?_)
            all_goals first | kernel_rfl | omega | rfl
        · have e : bdec (smAny l p q) = false := bdec_f (by rintro ⟨j, h1, h2⟩; rw [hi j (by omega) h1] at h2; cases h2)
          rw [e]
          try simp (config := { maxSteps := 10000000 }) only [go_sem]
          all_goals repeat (refine And.intro (by first | omega | (constructor <;> omega) | kernel_rfl) ?_)
          all_goals first | kernel_rfl | omega | rfl
noncomputable def sgmB (l : List DV) (p q : DP) : Bool := okPt p && (okPt q && segB l p q)
theorem SegmentMeetsI_fn (l : List DV) (p q : DP) (hl : polyP l) : Fn Tryz.prog 109 [⟨.slice tVec, l⟩, ⟨tPoint, p⟩, ⟨tPoint, q⟩] false [⟨.bool, sgmB l p q⟩] := by
  have c0 := implIsPolygon_fn l
  rw [polyB_t hl] at c0
  have c1 := arePoints2_fn p q
  unfold sgmB
  cases hp : okPt p <;> rw [hp] at c1
  · refine fn_enter tabOK mixes Tryz.func109 rfl rfl _ Tryz.ntmps109 _ Tryz.results109 (by simp) fun hwf => ?_
    try simp (config := { maxSteps := 10000000 }) only [go_sem]
    repeat (refine And.intro (by first | omega | (constructor <;> omega) | kernel_rfl) ?_)
    refine CallW.mk (c0) ?_
    try simp (config := { maxSteps := 10000000 }) only [go_sem]
    repeat (refine And.intro (by first | omega | (constructor <;> omega) | kernel_rfl) ?_)
    refine CallW.mk (c1) ?_
    try simp (config := { maxSteps := 10000000 }) only [go_sem]
    all_goals repeat (refine And.intro (by first | omega | (constructor <;> omega) | kernel_rfl) ?_)
    all_goals first | kernel_rfl | omega | rfl
  · cases hq : okPt q <;> rw [hq] at c1
    · refine fn_enter tabOK mixes Tryz.func109 rfl rfl _ Tryz.ntmps109 _ Tryz.results109 (by simp) fun hwf => ?_
      try simp (config := { maxSteps := 10000000 }) only [go_sem]
      repeat (refine And.intro (by first | omega | (constructor <;> omega) | kernel_rfl) ?_)
      refine CallW.mk (c0) ?_
      try simp (config := { maxSteps := 10000000 }) only [go_sem]
      repeat (refine And.intro (by first | omega | (constructor <;> omega) | kernel_rfl) ?_)
      refine CallW.mk (c1) ?_
      try simp (config := { maxSteps := 10000000 }) only [go_sem]
      all_goals repeat (refine And.intro (by first | omega | (constructor <;> omega) | kernel_rfl) ?_)
      all_goals first | kernel_rfl | omega | rfl
    · have c2 := segmentMeets_fn l p q hl hp hq
      refine fn_enter tabOK mixes Tryz.func109 rfl rfl _ Tryz.ntmps109 _ Tryz.results109 (by simp) fun hwf => ?_
      try simp (config := { maxSteps := 10000000 }) only [go_sem]
      repeat (refine And.intro (by first | omega | (constructor <;> omega) | kernel_rfl) ?_)
      refine CallW.mk (c0) ?_
      try simp (config := { maxSteps := 10000000 }) only [go_sem]
      repeat (refine And.intro (by first | omega | (constructor <;> omega) | kernel_rfl) ?_)
      refine CallW.mk (c1) ?_
      try simp (config := { maxSteps := 10000000 }) only [go_sem]
      repeat (refine And.intro (by first | omega | (constructor <;> omega) | kernel_rfl) ?_)
      refine CallW.mk (c2) ?_
      try simp (config := { maxSteps := 10000000 }) only [go_sem]
      all_goals repeat (refine And.intro (by first | omega | (constructor <;> omega) | kernel_rfl) ?_)
      all_goals first | kernel_rfl | omega | rfl
theorem SegmentMeetsS_fn (l : List DV) (p q : DP) (hl : polyP l) : Fn Tryz.prog 54 [⟨.slice tVec, l⟩, ⟨tPoint, p⟩, ⟨tPoint, q⟩] false [⟨.bool, sgmB l p q⟩] := by
  have h3 : 3 ≤ l.length := by have := hl.1.1; omega
  have hn : l.length ≤ 1048576 := by have := hl.1.2; omega
  have c0 := specIsPolygon_fn l
  rw [polyB_t hl] at c0
  have v1 := specIsValidPoint_fn p
  have v2 := specIsValidPoint_fn q
  have ptok : ∀ i, i < l.length → okPt (ptV (nth (t := tVec) l i)) = true := fun i hi => okPt_ptV (hl.2.1 _ (nth_mem hi))
  unfold sgmB
  cases hp : okPt p <;> rw [hp] at v1
  · refine fn_enter tabOK mixes Tryz.func54 rfl rfl _ Tryz.ntmps54 _ Tryz.results54 (by simp) fun hwf => ?_
    try simp (config := { maxSteps := 10000000 }) only [go_sem]
    repeat (refine And.intro (by first | omega | (constructor <;> omega) | kernel_rfl) ?_)
    refine CallW.mk (c0) ?_
    try simp (config := { maxSteps := 10000000 }) only [go_sem]
    repeat (refine And.intro (by first | omega | (constructor <;> omega) | kernel_rfl) ?_)
    refine CallW.mk (v1) ?_
    try simp (config := { maxSteps := 10000000 }) only [go_sem]
    all_goals repeat (refine And.intro (by first | omega | (constructor <;> omega) | kernel_rfl) ?_)
    all_goals first | kernel_rfl | omega | rfl
  · cases hq : okPt q <;> rw [hq] at v2
    · refine fn_enter tabOK mixes Tryz.func54 rfl rfl _ Tryz.ntmps54 _ Tryz.results54 (by simp) fun hwf => ?_
      try simp (config := { maxSteps := 10000000 }) only [go_sem]
      repeat (refine And.intro (by first | omega | (constructor <;> omega) | kernel_rfl) ?_)
      refine CallW.mk (c0) ?_
      try simp (config := { maxSteps := 10000000 }) only [go_sem]
      repeat (refine And.intro (by first | omega | (constructor <;> omega) | kernel_rfl) ?_)
      refine CallW.mk (v1) ?_
      try simp (config := { maxSteps := 10000000 }) only [go_sem]
      repeat (refine And.intro (by first | omega | (constructor <;> omega) | kernel_rfl) ?_)
      refine CallW.mk (v2) ?_
      try simp (config := { maxSteps := 10000000 }) only [go_sem]
      all_goals repeat (refine And.intro (by first | omega | (constructor <;> omega) | kernel_rfl) ?_)
      all_goals first | kernel_rfl | omega | rfl
    · have c1 := ContainsS_fn l p hl
      have c2 := ContainsS_fn l q hl
      rw [show cpD l p = cntI l p l.length by unfold cpD; rw [hp, if_pos rfl]] at c1
      rw [show cpD l q = cntI l q l.length by unfold cpD; rw [hq, if_pos rfl]] at c2
      unfold segB
      by_cases h1 : cntI l p l.length ≥ 0
      · have d1 := decide_eq_true h1
        rw [d1]
        refine fn_enter tabOK mixes Tryz.func54 rfl rfl _ Tryz.ntmps54 _ Tryz.results54 (by simp) fun hwf => ?_
        try simp (config := { maxSteps := 10000000 }) only [go_sem]
        repeat (refine And.intro (by first | omega | (constructor <;> omega) | kernel_rfl) ?_)
        refine CallW.mk (c0) ?_
        try simp (config := { maxSteps := 10000000 }) only [go_sem]
        repeat (refine And.intro (by first | omega | (constructor <;> omega) | kernel_rfl) ?_)
        refine CallW.mk (v1) ?_
        try simp (config := { maxSteps := 10000000 }) only [go_sem]
        repeat (refine And.intro (by first | omega | (constructor <;> omega) | kernel_rfl) ?_)
        refine CallW.mk (v2) ?_
        try simp (config := { maxSteps := 10000000 }) only [go_sem]
        repeat (refine And.intro (by first | omega | (constructor <;> omega) | kernel_rfl) ?_)
        refine CallW.mk (c1) ?_
        try simp (config := { maxSteps := 10000000 }) only [go_sem]
        try simp (config := { maxSteps := 10000000 }) only [go_sem, d1]
        all_goals repeat (refine And.intro (by first | omega | (constructor <;> omega) | kernel_rfl) ?_)
        all_goals first | kernel_rfl | omega | rfl
      · have d1 := decide_eq_false h1
        rw [d1]
        by_cases h2 : cntI l q l.length ≥ 0
        · have d2 := decide_eq_true h2
          rw [d2]
          refine fn_enter tabOK mixes Tryz.func54 rfl rfl _ Tryz.ntmps54 _ Tryz.results54 (by simp) fun hwf => ?_
          try simp (config := { maxSteps := 10000000 }) only [go_sem]
          repeat (refine And.intro (by first | omega | (constructor <;> omega) | kernel_rfl) ?_)
          refine CallW.mk (c0) ?_
          try simp (config := { maxSteps := 10000000 }) only [go_sem]
          repeat (refine And.intro (by first | omega | (constructor <;> omega) | kernel_rfl) ?_)
          refine CallW.mk (v1) ?_
          try simp (config := { maxSteps := 10000000 }) only [go_sem]
          repeat (refine And.intro (by first | omega | (constructor <;> omega) | kernel_rfl) ?_)
          refine CallW.mk (v2) ?_
          try simp (config := { maxSteps := 10000000 }) only [go_sem]
          repeat (refine And.intro (by first | omega | (constructor <;> omega) | kernel_rfl) ?_)
          refine CallW.mk (c1) ?_
          try simp (config := { maxSteps := 10000000 }) only [go_sem]
          try simp (config := { maxSteps := 10000000 }) only [go_sem, d1]
          repeat (refine And.intro (by first | omega | (constructor <;> omega) | kernel_rfl) ?_)
          refine CallW.mk (c2) ?_
          try simp (config := { maxSteps := 10000000 }) only [go_sem]
          try simp (config := { maxSteps := 10000000 }) only [go_sem, d2]
          all_goals repeat (refine And.intro (by first | omega | (constructor <;> omega) | kernel_rfl) ?_)
          all_goals first | kernel_rfl | omega | rfl
        · have d2 := decide_eq_false h2
          rw [d2]
          refine fn_enter tabOK mixes Tryz.func54 rfl rfl _ Tryz.ntmps54 _ Tryz.results54 (by simp) fun hwf => ?_
          try simp (config := { maxSteps := 10000000 }) only [go_sem]
          repeat (refine And.intro (by first | omega | (constructor <;> omega) | kernel_rfl) ?_)
          refine CallW.mk (c0) ?_
          try simp (config := { maxSteps := 10000000 }) only [go_sem]
          repeat (refine And.intro (by first | omega | (constructor <;> omega) | kernel_rfl) ?_)
          refine CallW.mk (v1) ?_
          try simp (config := { maxSteps := 10000000 }) only [go_sem]
          repeat (refine And.intro (by first | omega | (constructor <;> omega) | kernel_rfl) ?_)
          refine CallW.mk (v2) ?_
          try simp (config := { maxSteps := 10000000 }) only [go_sem]
          repeat (refine And.intro (by first | omega | (constructor <;> omega) | kernel_rfl) ?_)
          refine CallW.mk (c1) ?_
          try simp (config := { maxSteps := 10000000 }) only [go_sem]
          try simp (config := { maxSteps := 10000000 }) only [go_sem, d1]
          repeat (refine And.intro (by first | omega | (constructor <;> omega) | kernel_rfl) ?_)
          refine CallW.mk (c2) ?_
          try simp (config := { maxSteps := 10000000 }) only [go_sem]
          try simp (config := { maxSteps := 10000000 }) only [go_sem, d2]
          refine LoopG.intro _ _ _ (fun i : Nat => ⟨[(0, .sl tVec l), (4, .ptr 0 0), (5, .ptr 1 0), (32, .sl tVec l), (33, .sc (.int .i64 l.length)), (34, .sc (.int .i64 i))], [(1, .box (cel tPoint q)), (0, .box (cel tPoint p))]⟩) (fun i => ∀ j, j < i → j < l.length → smI_ l p q j = false) (fun i => l.length - i) 0 ?_ (fun j h => absurd h (Nat.not_lt_zero _)) ?_
          · refine Wk.mk [] ?_
            try simp (config := { maxSteps := 10000000 }) only [go_sem]
            try (and_intros <;> first | rfl | omega | exact ⟨_, rfl⟩)
          · rintro i hi
            try simp (config := { maxSteps := 10000000 }) only [go_sem]
            refine CondW_dec (fun hA => ?_) (fun hA => ?_)
            · have hlt : i < l.length := by omega
              have hr := nxt_rng (n := l.length) (i := i) (by omega)
              have hr2 : (nxt l.length i).toNat < l.length := by omega
              have c3 := PointOfS_fn (nth (t := tVec) l i)
              have c4 := PointOfS_fn (nth (t := tVec) l (nxt l.length i).toNat)
              have c5 := SegmentsMeetS_fn (ptV (nth (t := tVec) l i)) (ptV (nth (t := tVec) l (nxt l.length i).toNat)) p q (ptok _ (by omega)) (ptok _ hr2) hp hq
              rw [meetB_swap p q, show meetB p q (ptV (nth (t := tVec) l i)) (ptV (nth (t := tVec) l (nxt l.length i).toNat)) = smI_ l p q i from rfl] at c5
              unfold nxt at hr hr2 c4 c5
              cases hs : smI_ l p q i <;> rw [hs] at c5
              · try simp (config := { maxSteps := 10000000 }) only [go_sem]
                repeat (refine And.intro (by first | omega | (constructor <;> omega) | kernel_rfl) ?_)
                repeat (refine And.intro (by first | omega | (constructor <;> omega) | kernel_rfl) ?_)
                refine CallW.mk (c3) ?_
                try simp (config := { maxSteps := 10000000 }) only [go_sem]
                repeat (refine And.intro (by first | omega | (constructor <;> omega) | kernel_rfl) ?_)
                refine RemW.pos (by omega) (by omega) ?_
                try simp (config := { maxSteps := 10000000 }) only [go_sem]
                repeat (refine And.intro (by first | omega | (constructor <;> omega) | kernel_rfl) ?_)
                repeat (refine And.intro (by first | omega | (constructor <;> omega) | kernel_rfl) ?_)
                refine CallW.mk (c4) ?_
                try simp (config := { maxSteps := 10000000 }) only [go_sem]
                repeat (refine And.intro (by first | omega | (constructor <;> omega) | kernel_rfl) ?_)
                refine CallW.mk (c5) ?_
                try simp (config := { maxSteps := 10000000 }) only [go_sem]
                repeat (refine And.intro (by first | omega | (constructor <;> omega) | kernel_rfl) ?_)
                refine LoopK.mk (i + 1) ?_ (fun j h1 h2 => ?_) (by omega)
                · refine Wk.mk [] ?_
                  try simp (config := { maxSteps := 10000000 }) only [go_sem]
                  try (and_intros <;> first | rfl | omega | exact ⟨_, rfl⟩)
                · by_cases h : j < i
                  · exact hi j h h2
                  · rw [show j = i by omega]; exact hs
              · have e : bdec (smAny l p q) = true := bdec_t ⟨i, hlt, hs⟩
                rw [e]
                try simp (config := { maxSteps := 10000000 }) only [go_sem]
                repeat (refine And.intro (by first | omega | (constructor <;> omega) | kernel_rfl) ?_)
                repeat (refine And.intro (by first | omega | (constructor <;> omega) | kernel_rfl) ?_)
                refine CallW.mk (c3) ?_
                try simp (config := { maxSteps := 10000000 }) only [go_sem]
                repeat (refine And.intro (by first | omega | (constructor <;> omega) | kernel_rfl) ?_)
                refine RemW.pos (by omega) (by omega) ?_
                try simp (config := { maxSteps := 10000000 }) only [go_sem]
                repeat (refine And.intro (by first | omega | (constructor <;> omega) | kernel_rfl) ?_)
                repeat (refine And.intro (by first | omega | (constructor <;> omega) | kernel_rfl) ?_)
                refine CallW.mk (c4) ?_
                try simp (config := { maxSteps := 10000000 }) only [go_sem]
                repeat (refine And.intro (by first | omega | (constructor <;> omega) | kernel_rfl) ?_)
                refine CallW.mk (c5) ?_
                try simp (config := { maxSteps := 10000000 }) only [go_sem]
                all_goals repeat (refine And.intro (by first | omega | (constructor <;> omega) | kernel_rfl) ?_)
                all_goals first | kernel_rfl | omega | rfl
            · have e : bdec (smAny l p q) = false := bdec_f (by rintro ⟨j, h1, h2⟩; rw [hi j (by omega) h1] at h2; cases h2)
              rw [e]
              try simp (config := { maxSteps := 10000000 }) only [go_sem]
              all_goals repeat (refine And.intro (by first | omega | (constructor <;> omega) | kernel_rfl) ?_)
              all_goals first | kernel_rfl | omega | rfl
end Go.Proofs.YtghckbohaghgkaaGreat.DW

/-
  Tours: stands.
-/
namespace Go.Proofs.YtghckbohaghgkaaGreat.DW
open Go.RowKit
theorem l05Copy_fn (p : DP) (h : okPt p = true) : Fn Tryz.prog 113 [⟨tPoint, p⟩] true [⟨tPoint, p⟩] := by
  unfold okPt at h
  rw [Bool.and_eq_true] at h
  have h1 := okR_len h.1
  have h2 := okR_len h.2
  have c1 := l04Copy_fn p.1 (by omega) (by omega)
  have c2 := l04Copy_fn p.2 (by omega) (by omega)
  refine fn_enter tabOK mixes Tryz.func113 rfl rfl _ Tryz.ntmps113 _ Tryz.results113 (by simp) fun hwf => ?_
  try simp (config := { maxSteps := 10000000 }) only [go_sem]
  repeat (refine And.intro (by first | omega | (constructor <;> omega) | kernel_rfl) ?_)
  refine CallW.mk (c1) ?_
  try simp (config := { maxSteps := 10000000 }) only [go_sem]
  repeat (refine And.intro (by first | omega | (constructor <;> omega) | kernel_rfl) ?_)
  refine CallW.mk (c2) ?_
  try simp (config := { maxSteps := 10000000 }) only [go_sem]
  all_goals repeat (refine And.intro (by first | omega | (constructor <;> omega) | kernel_rfl) ?_)
  all_goals first | kernel_rfl | omega | rfl
/-- How many steps are taken. -/
def clip (k : Int) (n : Nat) : Nat := (max 0 (min k (n : Int))).toNat
theorem after_fn (p : DS) (l : List DS) (k : Int) : Fn Tryz.prog 121 [⟨tStep, p⟩, ⟨.slice tStep, l⟩, ⟨.int, k⟩] false [⟨tStep, plcS p l (clip k l.length)⟩] := by
  unfold plcS clip
  refine fn_enter tabOK mixes Tryz.func121 rfl rfl _ Tryz.ntmps121 _ Tryz.results121 (by simp) fun hwf => ?_
  have hl : l.length ≤ 9223372036854775807 := (hwf ⟨.slice tStep, l⟩ (by simp)).1
  try simp (config := { maxSteps := 10000000 }) only [go_sem]
  have hml : (List.take (max 0 (min k ↑l.length)).toNat l).length ≤ 9223372036854775807 := by rw [List.length_take]; omega
  generalize List.take (max 0 (min k ↑l.length)).toNat l = m at hml ⊢
  repeat (refine And.intro (by first | omega | (constructor <;> omega) | kernel_rfl) ?_)
  refine LoopG.intro _ _ _ (fun i : Nat => ⟨[(3, .ptr 0 0), (6, .ptr 1 0), (15, .sl tStep m), (16, .sc (.int .i64 m.length)), (17, .sc (.int .i64 i))], [(1, .box [.sc (.int .i64 0), .sc (.bool false), .sc (.slice none 0 0), .sc (.slice none 0 0), .sc (.bool false), .sc (.slice none 0 0), .sc (.slice none 0 0)]), (0, .box [.sc (.int .i64 (plcS p m i).1), .sc (.bool (plcS p m i).2.1.1.1), .sl .int (plcS p m i).2.1.1.2, .sl .int (plcS p m i).2.1.2, .sc (.bool (plcS p m i).2.2.1.1), .sl .int (plcS p m i).2.2.1.2, .sl .int (plcS p m i).2.2.2])]⟩) (fun i => i ≤ m.length) (fun i => m.length - i) 0 ?_ (Nat.zero_le _) ?_
  · refine Wk.mk [] ?_
    try simp (config := { maxSteps := 10000000 }) only [go_sem]
    try (and_intros <;> first | rfl | omega | exact ⟨_, rfl⟩)
  · rintro i hi
    try simp (config := { maxSteps := 10000000 }) only [go_sem]
    refine CondW_dec (fun hA => ?_) (fun hA => ?_)
    · have hst := plcS_step p (show i < m.length by omega)
      have c1 := stepped_fn (plcS p m i) (nth (t := tStep) m i)
      try simp (config := { maxSteps := 10000000 }) only [go_sem]
      repeat (refine And.intro (by first | omega | (constructor <;> omega) | kernel_rfl) ?_)
      repeat (refine And.intro (by first | omega | (constructor <;> omega) | kernel_rfl) ?_)
      refine CallW.mk (c1) ?_
      try simp (config := { maxSteps := 10000000 }) only [go_sem]
      repeat (refine And.intro (by first | omega | (constructor <;> omega) | kernel_rfl) ?_)
      refine LoopK.mk (i + 1) ?_ (by omega) (by omega)
      rw [hst]
      refine Wk.mk [] ?_
      try simp (config := { maxSteps := 10000000 }) only [go_sem]
      try (and_intros <;> first | rfl | omega | exact ⟨_, rfl⟩)
    · have : plcF p m = plcS p m i := by unfold plcS; rw [List.take_of_length_le (by omega)]
      rw [this]
      try simp (config := { maxSteps := 10000000 }) only [go_sem]
      all_goals repeat (refine And.intro (by first | omega | (constructor <;> omega) | kernel_rfl) ?_)
      all_goals first | kernel_rfl | omega | rfl
theorem PlacementAfter_fn (p : DS) (l : List DS) (k : Int) (h : okPt (plcS p l (clip k l.length)).2 = true) : Fn Tryz.prog 69 [⟨tStep, p⟩, ⟨.slice tStep, l⟩, ⟨.int, k⟩] true [⟨tStep, plcS p l (clip k l.length)⟩] := by
  have c2 := l05Copy_fn _ h
  refine fn_enter tabOK mixes Tryz.func69 rfl rfl _ Tryz.ntmps69 _ Tryz.results69 (by simp) fun hwf => ?_
  have hl : l.length ≤ 9223372036854775807 := (hwf ⟨.slice tStep, l⟩ (by simp)).1
  try simp (config := { maxSteps := 10000000 }) only [go_sem]
  refine LoopG.intro _ _ _ (fun i : Nat => ⟨[(2, .sc (.int .i64 k)), (3, .ptr 0 0), (6, .ptr 1 0), (9, .sl tStep l), (10, .sc (.int .i64 l.length)), (11, .sc (.int .i64 i))], [(1, .box [.sc (.int .i64 0), .sc (.bool false), .sc (.slice none 0 0), .sc (.slice none 0 0), .sc (.bool false), .sc (.slice none 0 0), .sc (.slice none 0 0)]), (0, .box [.sc (.int .i64 (plcS p l (clip k i)).1), .sc (.bool (plcS p l (clip k i)).2.1.1.1), .sl .int (plcS p l (clip k i)).2.1.1.2, .sl .int (plcS p l (clip k i)).2.1.2, .sc (.bool (plcS p l (clip k i)).2.2.1.1), .sl .int (plcS p l (clip k i)).2.2.1.2, .sl .int (plcS p l (clip k i)).2.2.2])]⟩) (fun i => i ≤ l.length) (fun i => l.length - i) 0 ?_ (Nat.zero_le _) ?_
  · have e0 : plcS p l (clip k 0) = p := by rw [show clip k 0 = 0 by unfold clip; omega]; rfl
    rw [e0]
    refine Wk.mk [] ?_
    try simp (config := { maxSteps := 10000000 }) only [go_sem]
    try (and_intros <;> first | rfl | omega | exact ⟨_, rfl⟩)
  · rintro i hi
    try simp (config := { maxSteps := 10000000 }) only [go_sem]
    refine CondW_dec (fun hA => ?_) (fun hA => ?_)
    · try simp (config := { maxSteps := 10000000 }) only [go_sem]
      repeat (refine And.intro (by first | omega | (constructor <;> omega) | kernel_rfl) ?_)
      refine CondW_dec (fun hB => ?_) (fun hB => ?_)
      · have hst := plcS_step p (show i < l.length by omega)
        rw [show i = clip k i by unfold clip; omega, show clip k i + 1 = clip k (i + 1) by unfold clip; omega] at hst
        have hci : clip k i = i := by unfold clip; omega
        rw [hci] at hst
        have c1 := l22After_fn (plcS p l i) (nth (t := tStep) l i)
        rw [hci]
        try simp (config := { maxSteps := 10000000 }) only [go_sem]
        repeat (refine And.intro (by first | omega | (constructor <;> omega) | kernel_rfl) ?_)
        refine CallW.mk (c1) ?_
        try simp (config := { maxSteps := 10000000 }) only [go_sem]
        repeat (refine And.intro (by first | omega | (constructor <;> omega) | kernel_rfl) ?_)
        refine LoopK.mk (i + 1) ?_ (by omega) (by omega)
        rw [hst]
        refine Wk.mk [] ?_
        try simp (config := { maxSteps := 10000000 }) only [go_sem]
        try (and_intros <;> first | rfl | omega | exact ⟨_, rfl⟩)
      · have hst : clip k (i + 1) = clip k i := by unfold clip; omega
        try simp (config := { maxSteps := 10000000 }) only [go_sem]
        repeat (refine And.intro (by first | omega | (constructor <;> omega) | kernel_rfl) ?_)
        refine LoopK.mk (i + 1) ?_ (by omega) (by omega)
        rw [hst]
        refine Wk.mk [] ?_
        try simp (config := { maxSteps := 10000000 }) only [go_sem]
        try (and_intros <;> first | rfl | omega | exact ⟨_, rfl⟩)
    · rw [show i = l.length by omega]
      generalize plcS p l (clip k l.length) = q at c2 ⊢
      try simp (config := { maxSteps := 10000000 }) only [go_sem]
      repeat (refine And.intro (by first | omega | (constructor <;> omega) | kernel_rfl) ?_)
      repeat (refine And.intro (by first | omega | (constructor <;> omega) | kernel_rfl) ?_)
      refine CallW.mk (c2) ?_
      try simp (config := { maxSteps := 10000000 }) only [go_sem]
      all_goals repeat (refine And.intro (by first | omega | (constructor <;> omega) | kernel_rfl) ?_)
      all_goals first | kernel_rfl | omega | rfl
theorem okPt_stp {p x : DS} (hp : okPt p.2 = true) (hx : okPt x.2 = true) : okPt (stp p x).2 = true := by
  unfold stp
  split
  · exact hx
  · split
    · exact hp
    · exact hp
theorem okPt_go {l : List DS} : ∀ {p : DS}, okPt p.2 = true → tvGo p l = true → ∀ i, okPt (plcS p l i).2 = true := by
  induction l with
  | nil => intro p hp _ i; unfold plcS; rw [List.take_nil]; exact hp
  | cons x l ih =>
    intro p hp h i
    have h' : (tvStep p x && tvGo (stp p x) l) = true := h
    rw [Bool.and_eq_true] at h'
    have hx : okPt x.2 = true := by
      have := h'.1
      unfold tvStep at this
      rw [Bool.and_eq_true, Bool.and_eq_true] at this
      exact this.2.1
    cases i with
    | zero => exact hp
    | succ i => exact ih (okPt_stp hp hx) h'.2 i
theorem okPt_tour {t : DT} (h : tourB t = true) (i : Nat) : okPt (plcS t.2.1 t.2.2 i).2 = true := by
  unfold tourB at h
  simp only [Bool.and_eq_true] at h
  exact okPt_go h.2.2.1 h.2.2.2.2 i
noncomputable def standB (t : DT) (k : Int) : Bool := tourB t && decide (0 ≤ k ∧ k ≤ (t.2.2.length : Int))
noncomputable def standP (t : DT) (k : Int) : DS := plcS t.2.1 t.2.2 (clip k t.2.2.length)
noncomputable def standO (t : DT) (k : Int) : DS := if standB t k then standP t k else (0, ptZ)
theorem isStand_fn (t : DT) (k : Int) : Fn Tryz.prog 41 [⟨tTour, t⟩, ⟨.int, k⟩] false [⟨.bool, standB t k⟩] := by
  have c1 := implIsValidTour_fn t
  unfold standB
  cases h : tourB t <;> rw [h] at c1
  · refine fn_enter tabOK mixes Tryz.func41 rfl rfl _ Tryz.ntmps41 _ Tryz.results41 (by simp) fun hwf => ?_
    try simp (config := { maxSteps := 10000000 }) only [go_sem]
    repeat (refine And.intro (by first | omega | (constructor <;> omega) | kernel_rfl) ?_)
    refine CallW.mk (c1) ?_
    try simp (config := { maxSteps := 10000000 }) only [go_sem]
  · refine fn_enter tabOK mixes Tryz.func41 rfl rfl _ Tryz.ntmps41 _ Tryz.results41 (by simp) fun hwf => ?_
    try simp (config := { maxSteps := 10000000 }) only [go_sem]
    repeat (refine And.intro (by first | omega | (constructor <;> omega) | kernel_rfl) ?_)
    refine CallW.mk (c1) ?_
    try simp (config := { maxSteps := 10000000 }) only [go_sem]
    repeat (refine And.intro (by first | omega | (constructor <;> omega) | kernel_rfl) ?_)
    refine CallW.mk (within_fn k 0 t.2.2.length) ?_
    try simp (config := { maxSteps := 10000000 }) only [go_sem]
theorem stand_fn (t : DT) (k : Int) : Fn Tryz.prog 83 [⟨tTour, t⟩, ⟨.int, k⟩] false [⟨tStep, standP t k⟩] := by
  have c1 := after_fn t.2.1 t.2.2 k
  refine fn_enter tabOK mixes Tryz.func83 rfl rfl _ Tryz.ntmps83 _ Tryz.results83 (by simp) fun hwf => ?_
  unfold standP
  try simp (config := { maxSteps := 10000000 }) only [go_sem]
  repeat (refine And.intro (by first | omega | (constructor <;> omega) | kernel_rfl) ?_)
  refine CallW.mk (c1) ?_
  try simp (config := { maxSteps := 10000000 }) only [go_sem]
  all_goals repeat (refine And.intro (by first | omega | (constructor <;> omega) | kernel_rfl) ?_)
  all_goals first | kernel_rfl | omega | rfl
theorem specStandOf_fn (t : DT) (k : Int) : FnT Tryz.prog 33 [⟨tTour, t⟩, ⟨.int, k⟩] [⟨tStep, standO t k⟩, ⟨.bool, standB t k⟩] := by
  have c1 := specIsValidTour_fn t
  have c2 := l01In_fn k 0 t.2.2.length
  unfold standO standB
  cases h : tourB t <;> rw [h] at c1
  · rw [Bool.false_and, if_neg (by decide)]
    refine fnT_enter tabOK mixes Tryz.func33 rfl rfl _ Tryz.ntmps33 _ Tryz.results33 (by simp) fun hwf => ?_
    try simp (config := { maxSteps := 10000000 }) only [go_sem]
    repeat (refine And.intro (by first | omega | (constructor <;> omega) | kernel_rfl) ?_)
    refine CallW.mk (c1) ?_
    try simp (config := { maxSteps := 10000000 }) only [go_sem]
    all_goals repeat (refine And.intro (by first | omega | (constructor <;> omega) | kernel_rfl) ?_)
    all_goals first | kernel_rfl | omega | rfl
  · cases h2 : decide (0 ≤ k ∧ k ≤ (t.2.2.length : Int)) <;> rw [h2] at c2
    · rw [Bool.and_false, if_neg (by decide)]
      refine fnT_enter tabOK mixes Tryz.func33 rfl rfl _ Tryz.ntmps33 _ Tryz.results33 (by simp) fun hwf => ?_
      try simp (config := { maxSteps := 10000000 }) only [go_sem]
      repeat (refine And.intro (by first | omega | (constructor <;> omega) | kernel_rfl) ?_)
      refine CallW.mk (c1) ?_
      try simp (config := { maxSteps := 10000000 }) only [go_sem]
      repeat (refine And.intro (by first | omega | (constructor <;> omega) | kernel_rfl) ?_)
      refine CallW.mk (c2) ?_
      try simp (config := { maxSteps := 10000000 }) only [go_sem]
      all_goals repeat (refine And.intro (by first | omega | (constructor <;> omega) | kernel_rfl) ?_)
      all_goals first | kernel_rfl | omega | rfl
    · have c3 := PlacementAfter_fn t.2.1 t.2.2 k (okPt_tour h _)
      rw [Bool.and_self, if_pos rfl]
      unfold standP
      refine fnT_enter tabOK mixes Tryz.func33 rfl rfl _ Tryz.ntmps33 _ Tryz.results33 (by simp) fun hwf => ?_
      try simp (config := { maxSteps := 10000000 }) only [go_sem]
      repeat (refine And.intro (by first | omega | (constructor <;> omega) | kernel_rfl) ?_)
      refine CallW.mk (c1) ?_
      try simp (config := { maxSteps := 10000000 }) only [go_sem]
      repeat (refine And.intro (by first | omega | (constructor <;> omega) | kernel_rfl) ?_)
      refine CallW.mk (c2) ?_
      try simp (config := { maxSteps := 10000000 }) only [go_sem]
      repeat (refine And.intro (by first | omega | (constructor <;> omega) | kernel_rfl) ?_)
      refine CallW.mk (c3) ?_
      try simp (config := { maxSteps := 10000000 }) only [go_sem]
      all_goals repeat (refine And.intro (by first | omega | (constructor <;> omega) | kernel_rfl) ?_)
      all_goals first | kernel_rfl | omega | rfl
end Go.Proofs.YtghckbohaghgkaaGreat.DW

/-
  Robots at stands: do they touch?
-/
namespace Go.Proofs.YtghckbohaghgkaaGreat.DW
open Go.RowKit
theorem differenceP_fn (p q : DP) (hp : okPt p = true) (hq : okPt q = true) : Fn Tryz.prog 87 [⟨tPoint, p⟩, ⟨tPoint, q⟩] true [⟨tPoint, subP p q⟩] := by
  obtain ⟨p1, p2⟩ := Bool.and_eq_true_iff.1 (show (okR p.1 && okR p.2) = true from hp)
  obtain ⟨q1, q2⟩ := Bool.and_eq_true_iff.1 (show (okR q.1 && okR q.2) = true from hq)
  have h2 := difference_fn (rdO p.1) (rdO p.2) (rdO q.1) (rdO q.2) (okO_rdO _) (okO_rdO _) (okO_rdO _) (okO_rdO _)
  rw [okR_oD p1, okR_oD p2, okR_oD q1, okR_oD q2] at h2
  unfold subP
  exact h2
theorem stp_hd {p x : DS} (hp : 0 ≤ p.1 ∧ p.1 ≤ 3) : 0 ≤ (stp p x).1 ∧ (stp p x).1 ≤ 3 := by
  unfold stp
  split
  · exact hp
  · split
    · rename_i h
      show 0 ≤ nxH p.1 x.1 ∧ nxH p.1 x.1 ≤ 3
      rw [nxH_in hp h]
      omega
    · exact hp
theorem plcF_hd : ∀ {l : List DS} {p : DS}, 0 ≤ p.1 ∧ p.1 ≤ 3 → 0 ≤ (plcF p l).1 ∧ (plcF p l).1 ≤ 3
  | [], _, h => h
  | x :: l, p, h => plcF_hd (l := l) (p := stp p x) (stp_hd h)
theorem tour_parts {t : DT} (h : tourB t = true) : SmP 20 t.1 ∧ (0 ≤ t.2.1.1 ∧ t.2.1.1 ≤ 3) ∧ okPt t.2.1.2 = true ∧ t.2.2.length ≤ 8 ∧ tvGo t.2.1 t.2.2 = true := by
  unfold tourB at h
  simp only [Bool.and_eq_true] at h
  obtain ⟨h1, h2, h3, h4, h5⟩ := h
  exact ⟨smB_p h1, of_decide_eq_true h2, h3, by have := of_decide_eq_true h4; omega, h5⟩
theorem standP_hd {t : DT} (h : tourB t = true) (k : Int) : 0 ≤ (standP t k).1 ∧ (standP t k).1 ≤ 3 := plcF_hd (tour_parts h).2.1
theorem standP_ok {t : DT} (h : tourB t = true) (k : Int) : okPt (standP t k).2 = true := okPt_tour h _
theorem standB_t {t : DT} {k : Int} (h : standB t k = true) : tourB t = true := by unfold standB at h; rw [Bool.and_eq_true] at h; exact h.1
/-- The robot of a tour at a stand, turned. -/
noncomputable def robD (t : DT) (k : Int) : List DV := t.1.map (rotN (standP t k).1.toNat)
theorem robD_sm {t : DT} (h : tourB t = true) (k : Int) : SmP 20 (robD t k) := (tour_parts h).1.rot _
noncomputable def areaD (a : DT) (i : Int) (b : DT) (j : Int) : List DV := obsD (robD a i) (robD b j)
theorem areaD_poly {a b : DT} (ha : tourB a = true) (hb : tourB b = true) (i j : Int) : polyP (areaD a i b j) := obs_poly (robD_sm ha i) (robD_sm hb j) (by decide)
theorem standO_t {t : DT} {k : Int} (h : standB t k = true) : standO t k = standP t k := if_pos h
end Go.Proofs.YtghckbohaghgkaaGreat.DW

/-
  A step of a robot beside another robot.
-/
namespace Go.Proofs.YtghckbohaghgkaaGreat.DW
open Go.RowKit
theorem rch_sm {l : List DV} (hl : ∀ v ∈ l, inB 20 v = true) : ∀ i, i ≤ l.length → 0 ≤ rchI l i ∧ rchI l i ≤ 800
  | 0, _ => by unfold rchI; omega
  | i + 1, h => by
    obtain ⟨h1, h2⟩ := rch_sm hl i (by omega)
    obtain ⟨b1, b2, b3, b4⟩ := inB_b (hl _ (nth_mem (show i < l.length by omega)))
    have s1 := sqI_le b1 b2
    have s2 := sqI_le b3 b4
    unfold rchI
    omega
theorem tv_ok : ∀ {l : List DS} {p : DS}, tvGo p l = true → ∀ i, i < l.length → okPt (nth (t := tStep) l i).2 = true
  | [], _, _, i, h => by simp at h
  | x :: l, p, hg, i, h => by
    have h' : (tvStep p x && tvGo (stp p x) l) = true := hg
    rw [Bool.and_eq_true] at h'
    cases i with
    | zero =>
      have := h'.1
      unfold tvStep at this
      rw [Bool.and_eq_true, Bool.and_eq_true] at this
      exact this.2.1
    | succ i =>
      have := tv_ok h'.2 i (by simp at h; omega)
      simpa [nth] using this
theorem tour_step {t : DT} (h : tourB t = true) {i : Nat} (hi : i < t.2.2.length) : okPt (nth (t := tStep) t.2.2 i).2 = true := tv_ok (tour_parts h).2.2.2.2 i hi
/-- Does a step touch? -/
noncomputable def stpTB (a : DT) (i : Int) (b : DT) (j : Int) : Bool :=
  if (nth (t := tStep) a.2.2 i.toNat).1 = 0 then sgmB (areaD a i b j) (subP (standP a i).2 (standP b j).2) (subP (nth (t := tStep) a.2.2 i.toNat).2 (standP b j).2)
  else discB (robD b j) (subP (standP a i).2 (standP b j).2) (rchI a.1 a.1.length)
set_option maxRecDepth 100000 in
set_option maxHeartbeats 1000000 in
theorem stepTouches_fn (a : DT) (i : Int) (b : DT) (j : Int) (ha : tourB a = true) (hb : tourB b = true) (h0 : 0 ≤ i) (h1 : i < a.2.2.length) : Fn Tryz.prog 55 [⟨tTour, a⟩, ⟨.int, i⟩, ⟨tTour, b⟩, ⟨.int, j⟩] false [⟨.bool, stpTB a i b j⟩] := by
  have c1 := stand_fn a i
  have c2 := stand_fn b j
  have p1 := (tour_parts ha).1
  have p2 := (tour_parts hb).1
  have l1 := p1.five
  have l2 := p2.five
  have c3 := TurnPolygonI_fn a.1 (standP a i).1 p1.ok (by omega) (standP_hd ha i)
  have c4 := TurnPolygonI_fn b.1 (standP b j).1 p2.ok (by omega) (standP_hd hb j)
  have c6 := differenceP_fn _ _ (standP_ok ha i) (standP_ok hb j)
  by_cases hz : (nth (t := tStep) a.2.2 i.toNat).1 = 0
  · have d1 := decide_eq_true hz
    have c5 := ObstacleForI_fn _ _ (robD_sm ha i) (robD_sm hb j) (by decide)
    have c7 := differenceP_fn _ _ (tour_step ha (i := i.toNat) (by omega)) (standP_ok hb j)
    have c8 := SegmentMeetsI_fn (areaD a i b j) (subP (standP a i).2 (standP b j).2) (subP (nth (t := tStep) a.2.2 i.toNat).2 (standP b j).2) (areaD_poly ha hb i j)
    rw [show stpTB a i b j = sgmB (areaD a i b j) (subP (standP a i).2 (standP b j).2) (subP (nth (t := tStep) a.2.2 i.toNat).2 (standP b j).2) from if_pos hz]
    unfold robD at c5
    unfold areaD robD at c8 ⊢
    refine fn_enter tabOK mixes Tryz.func55 rfl rfl _ Tryz.ntmps55 _ Tryz.results55 (by simp) fun hwf => ?_
    try simp (config := { maxSteps := 10000000 }) only [go_sem]
    repeat (refine And.intro (by first | omega | (constructor <;> omega) | kernel_rfl) ?_)
    refine CallW.mk (c1) ?_
    try simp (config := { maxSteps := 10000000 }) only [go_sem]
    repeat (refine And.intro (by first | omega | (constructor <;> omega) | kernel_rfl) ?_)
    refine CallW.mk (c2) ?_
    try simp (config := { maxSteps := 10000000 }) only [go_sem]
    repeat (refine And.intro (by first | omega | (constructor <;> omega) | kernel_rfl) ?_)
    repeat (refine And.intro (by first | omega | (constructor <;> omega) | kernel_rfl) ?_)
    refine CallW.mk (c4) ?_
    try simp (config := { maxSteps := 10000000 }) only [go_sem]
    try simp (config := { maxSteps := 10000000 }) only [go_sem, d1]
    repeat (refine And.intro (by first | omega | (constructor <;> omega) | kernel_rfl) ?_)
    refine CallW.mk (c3) ?_
    try simp (config := { maxSteps := 10000000 }) only [go_sem]
    repeat (refine And.intro (by first | omega | (constructor <;> omega) | kernel_rfl) ?_)
    refine CallW.mk (c5) ?_
    try simp (config := { maxSteps := 10000000 }) only [go_sem]
    repeat (refine And.intro (by first | omega | (constructor <;> omega) | kernel_rfl) ?_)
    repeat (refine And.intro (by first | omega | (constructor <;> omega) | kernel_rfl) ?_)
    refine CallW.mk (c6) ?_
    try simp (config := { maxSteps := 10000000 }) only [go_sem]
    repeat (refine And.intro (by first | omega | (constructor <;> omega) | kernel_rfl) ?_)
    refine CallW.mk (c7) ?_
    try simp (config := { maxSteps := 10000000 }) only [go_sem]
    repeat (refine And.intro (by first | omega | (constructor <;> omega) | kernel_rfl) ?_)
    refine CallW.mk (c8) ?_
    try simp (config := { maxSteps := 10000000 }) only [go_sem]
    all_goals repeat (refine And.intro (by first | omega | (constructor <;> omega) | kernel_rfl) ?_)
    all_goals first | kernel_rfl | omega | rfl
  · have d1 := decide_eq_false hz
    have hr := rch_sm p1.ins a.1.length (Nat.le_refl _)
    have c5 := ReachSquareI_fn a.1 p1.poly
    have c7 := DiscTouchesI_fn (robD b j) (subP (standP a i).2 (standP b j).2) (rchI a.1 a.1.length) (robD_sm hb j).poly (by omega)
    rw [show stpTB a i b j = discB (robD b j) (subP (standP a i).2 (standP b j).2) (rchI a.1 a.1.length) from if_neg hz]
    unfold robD at c7 ⊢
    refine fn_enter tabOK mixes Tryz.func55 rfl rfl _ Tryz.ntmps55 _ Tryz.results55 (by simp) fun hwf => ?_
    try simp (config := { maxSteps := 10000000 }) only [go_sem]
    repeat (refine And.intro (by first | omega | (constructor <;> omega) | kernel_rfl) ?_)
    refine CallW.mk (c1) ?_
    try simp (config := { maxSteps := 10000000 }) only [go_sem]
    repeat (refine And.intro (by first | omega | (constructor <;> omega) | kernel_rfl) ?_)
    refine CallW.mk (c2) ?_
    try simp (config := { maxSteps := 10000000 }) only [go_sem]
    repeat (refine And.intro (by first | omega | (constructor <;> omega) | kernel_rfl) ?_)
    repeat (refine And.intro (by first | omega | (constructor <;> omega) | kernel_rfl) ?_)
    refine CallW.mk (c4) ?_
    try simp (config := { maxSteps := 10000000 }) only [go_sem]
    try simp (config := { maxSteps := 10000000 }) only [go_sem, d1]
    repeat (refine And.intro (by first | omega | (constructor <;> omega) | kernel_rfl) ?_)
    refine CallW.mk (c6) ?_
    try simp (config := { maxSteps := 10000000 }) only [go_sem]
    repeat (refine And.intro (by first | omega | (constructor <;> omega) | kernel_rfl) ?_)
    refine CallW.mk (c5) ?_
    try simp (config := { maxSteps := 10000000 }) only [go_sem]
    repeat (refine And.intro (by first | omega | (constructor <;> omega) | kernel_rfl) ?_)
    refine CallW.mk (c7) ?_
    try simp (config := { maxSteps := 10000000 }) only [go_sem]
    all_goals repeat (refine And.intro (by first | omega | (constructor <;> omega) | kernel_rfl) ?_)
    all_goals first | kernel_rfl | omega | rfl
noncomputable def stpTouch (a : DT) (i : Int) (b : DT) (j : Int) : Bool := !standB a i || (decide (i = (a.2.2.length : Int)) || (!standB b j || stpTB a i b j))
theorem standB_rng {t : DT} {k : Int} (h : standB t k = true) : 0 ≤ k ∧ k ≤ t.2.2.length := by
  unfold standB at h
  rw [Bool.and_eq_true] at h
  exact of_decide_eq_true h.2
theorem StepTouchesI_fn (a : DT) (i : Int) (b : DT) (j : Int) : Fn Tryz.prog 19 [⟨tTour, a⟩, ⟨.int, i⟩, ⟨tTour, b⟩, ⟨.int, j⟩] false [⟨.bool, stpTouch a i b j⟩] := by
  have c1 := isStand_fn a i
  have c2 := isStand_fn b j
  unfold stpTouch
  cases h1 : standB a i <;> rw [h1] at c1
  · refine fn_enter tabOK mixes Tryz.func19 rfl rfl _ Tryz.ntmps19 _ Tryz.results19 (by simp) fun hwf => ?_
    try simp (config := { maxSteps := 10000000 }) only [go_sem]
    repeat (refine And.intro (by first | omega | (constructor <;> omega) | kernel_rfl) ?_)
    refine CallW.mk (c1) ?_
    try simp (config := { maxSteps := 10000000 }) only [go_sem]
    all_goals repeat (refine And.intro (by first | omega | (constructor <;> omega) | kernel_rfl) ?_)
    all_goals first | kernel_rfl | omega | rfl
  · by_cases hi : i = (a.2.2.length : Int)
    · have d1 := decide_eq_true hi
      rw [d1]
      refine fn_enter tabOK mixes Tryz.func19 rfl rfl _ Tryz.ntmps19 _ Tryz.results19 (by simp) fun hwf => ?_
      try simp (config := { maxSteps := 10000000 }) only [go_sem]
      repeat (refine And.intro (by first | omega | (constructor <;> omega) | kernel_rfl) ?_)
      refine CallW.mk (c1) ?_
      try simp (config := { maxSteps := 10000000 }) only [go_sem]
      try simp (config := { maxSteps := 10000000 }) only [go_sem, d1]
      all_goals repeat (refine And.intro (by first | omega | (constructor <;> omega) | kernel_rfl) ?_)
      all_goals first | kernel_rfl | omega | rfl
    · have d1 := decide_eq_false hi
      rw [d1]
      have hr := standB_rng h1
      cases h2 : standB b j <;> rw [h2] at c2
      · refine fn_enter tabOK mixes Tryz.func19 rfl rfl _ Tryz.ntmps19 _ Tryz.results19 (by simp) fun hwf => ?_
        try simp (config := { maxSteps := 10000000 }) only [go_sem]
        repeat (refine And.intro (by first | omega | (constructor <;> omega) | kernel_rfl) ?_)
        refine CallW.mk (c1) ?_
        try simp (config := { maxSteps := 10000000 }) only [go_sem]
        try simp (config := { maxSteps := 10000000 }) only [go_sem, d1]
        repeat (refine And.intro (by first | omega | (constructor <;> omega) | kernel_rfl) ?_)
        refine CallW.mk (c2) ?_
        try simp (config := { maxSteps := 10000000 }) only [go_sem]
        all_goals repeat (refine And.intro (by first | omega | (constructor <;> omega) | kernel_rfl) ?_)
        all_goals first | kernel_rfl | omega | rfl
      · have c3 := stepTouches_fn a i b j (standB_t h1) (standB_t h2) (by omega) (by omega)
        refine fn_enter tabOK mixes Tryz.func19 rfl rfl _ Tryz.ntmps19 _ Tryz.results19 (by simp) fun hwf => ?_
        try simp (config := { maxSteps := 10000000 }) only [go_sem]
        repeat (refine And.intro (by first | omega | (constructor <;> omega) | kernel_rfl) ?_)
        refine CallW.mk (c1) ?_
        try simp (config := { maxSteps := 10000000 }) only [go_sem]
        try simp (config := { maxSteps := 10000000 }) only [go_sem, d1]
        repeat (refine And.intro (by first | omega | (constructor <;> omega) | kernel_rfl) ?_)
        refine CallW.mk (c2) ?_
        try simp (config := { maxSteps := 10000000 }) only [go_sem]
        repeat (refine And.intro (by first | omega | (constructor <;> omega) | kernel_rfl) ?_)
        refine CallW.mk (c3) ?_
        try simp (config := { maxSteps := 10000000 }) only [go_sem]
        all_goals repeat (refine And.intro (by first | omega | (constructor <;> omega) | kernel_rfl) ?_)
        all_goals first | kernel_rfl | omega | rfl
set_option maxRecDepth 100000 in
set_option maxHeartbeats 1000000 in
theorem StepTouchesS_fn (a : DT) (i : Int) (b : DT) (j : Int) : Fn Tryz.prog 18 [⟨tTour, a⟩, ⟨.int, i⟩, ⟨tTour, b⟩, ⟨.int, j⟩] false [⟨.bool, stpTouch a i b j⟩] := by
  have c1 := specStandOf_fn a i
  have c2 := specStandOf_fn b j
  unfold stpTouch
  cases h1 : standB a i <;> rw [h1] at c1
  · refine fn_enter tabOK mixes Tryz.func18 rfl rfl _ Tryz.ntmps18 _ Tryz.results18 (by simp) fun hwf => ?_
    try simp (config := { maxSteps := 10000000 }) only [go_sem]
    repeat (refine And.intro (by first | omega | (constructor <;> omega) | kernel_rfl) ?_)
    refine CallW.t (c1) ?_
    try simp (config := { maxSteps := 10000000 }) only [go_sem]
    repeat (refine And.intro (by first | omega | (constructor <;> omega) | kernel_rfl) ?_)
    refine CallW.t (c2) ?_
    try simp (config := { maxSteps := 10000000 }) only [go_sem]
    all_goals repeat (refine And.intro (by first | omega | (constructor <;> omega) | kernel_rfl) ?_)
    all_goals first | kernel_rfl | omega | rfl
  · cases h2 : standB b j <;> rw [h2] at c2
    · have e : (decide (i = (a.2.2.length : Int)) || (!false || stpTB a i b j)) = true := by simp
      rw [Bool.not_true, Bool.false_or, e]
      refine fn_enter tabOK mixes Tryz.func18 rfl rfl _ Tryz.ntmps18 _ Tryz.results18 (by simp) fun hwf => ?_
      try simp (config := { maxSteps := 10000000 }) only [go_sem]
      repeat (refine And.intro (by first | omega | (constructor <;> omega) | kernel_rfl) ?_)
      refine CallW.t (c1) ?_
      try simp (config := { maxSteps := 10000000 }) only [go_sem]
      repeat (refine And.intro (by first | omega | (constructor <;> omega) | kernel_rfl) ?_)
      refine CallW.t (c2) ?_
      try simp (config := { maxSteps := 10000000 }) only [go_sem]
      all_goals repeat (refine And.intro (by first | omega | (constructor <;> omega) | kernel_rfl) ?_)
      all_goals first | kernel_rfl | omega | rfl
    · have hr := standB_rng h1
      have ha := standB_t h1
      have hb := standB_t h2
      have p1 := (tour_parts ha).1
      have p2 := (tour_parts hb).1
      have l1 := p1.five
      have l2 := p2.five
      by_cases hi : i = (a.2.2.length : Int)
      · have d1 := decide_eq_true (p := i ≥ (a.2.2.length : Int)) (by omega)
        rw [decide_eq_true hi]
        refine fn_enter tabOK mixes Tryz.func18 rfl rfl _ Tryz.ntmps18 _ Tryz.results18 (by simp) fun hwf => ?_
        try simp (config := { maxSteps := 10000000 }) only [go_sem]
        repeat (refine And.intro (by first | omega | (constructor <;> omega) | kernel_rfl) ?_)
        refine CallW.t (c1) ?_
        try simp (config := { maxSteps := 10000000 }) only [go_sem]
        repeat (refine And.intro (by first | omega | (constructor <;> omega) | kernel_rfl) ?_)
        refine CallW.t (c2) ?_
        try simp (config := { maxSteps := 10000000 }) only [go_sem]
        try simp (config := { maxSteps := 10000000 }) only [go_sem, d1]
        all_goals repeat (refine And.intro (by first | omega | (constructor <;> omega) | kernel_rfl) ?_)
        all_goals first | kernel_rfl | omega | rfl
      · have d1 := decide_eq_false (p := i ≥ (a.2.2.length : Int)) (by omega)
        rw [decide_eq_false hi, Bool.not_true, Bool.false_or, Bool.false_or, Bool.false_or]
        rw [standO_t h1] at c1
        rw [standO_t h2] at c2
        have c3 := TurnPolygonS_fn a.1 (standP a i).1 p1.ok (by omega) (standP_hd ha i)
        have c4 := TurnPolygonS_fn b.1 (standP b j).1 p2.ok (by omega) (standP_hd hb j)
        have c6 := specSubtractPoints_fn (standP a i).2 (standP b j).2
        by_cases hz : (nth (t := tStep) a.2.2 i.toNat).1 = 0
        · have d2 := decide_eq_true hz
          have c5 := ObstacleForS_fn _ _ (robD_sm ha i) (robD_sm hb j) (by decide)
          have c7 := specSubtractPoints_fn (nth (t := tStep) a.2.2 i.toNat).2 (standP b j).2
          have c8 := SegmentMeetsS_fn (areaD a i b j) (subP (standP a i).2 (standP b j).2) (subP (nth (t := tStep) a.2.2 i.toNat).2 (standP b j).2) (areaD_poly ha hb i j)
          rw [show stpTB a i b j = sgmB (areaD a i b j) (subP (standP a i).2 (standP b j).2) (subP (nth (t := tStep) a.2.2 i.toNat).2 (standP b j).2) from if_pos hz]
          unfold robD at c5
          unfold areaD robD at c8 ⊢
          refine fn_enter tabOK mixes Tryz.func18 rfl rfl _ Tryz.ntmps18 _ Tryz.results18 (by simp) fun hwf => ?_
          try simp (config := { maxSteps := 10000000 }) only [go_sem]
          repeat (refine And.intro (by first | omega | (constructor <;> omega) | kernel_rfl) ?_)
          refine CallW.t (c1) ?_
          try simp (config := { maxSteps := 10000000 }) only [go_sem]
          repeat (refine And.intro (by first | omega | (constructor <;> omega) | kernel_rfl) ?_)
          refine CallW.t (c2) ?_
          try simp (config := { maxSteps := 10000000 }) only [go_sem]
          try simp (config := { maxSteps := 10000000 }) only [go_sem, d1]
          repeat (refine And.intro (by first | omega | (constructor <;> omega) | kernel_rfl) ?_)
          repeat (refine And.intro (by first | omega | (constructor <;> omega) | kernel_rfl) ?_)
          refine CallW.mk (c4) ?_
          try simp (config := { maxSteps := 10000000 }) only [go_sem]
          try simp (config := { maxSteps := 10000000 }) only [go_sem, d2]
          repeat (refine And.intro (by first | omega | (constructor <;> omega) | kernel_rfl) ?_)
          refine CallW.mk (c3) ?_
          try simp (config := { maxSteps := 10000000 }) only [go_sem]
          repeat (refine And.intro (by first | omega | (constructor <;> omega) | kernel_rfl) ?_)
          refine CallW.mk (c5) ?_
          try simp (config := { maxSteps := 10000000 }) only [go_sem]
          repeat (refine And.intro (by first | omega | (constructor <;> omega) | kernel_rfl) ?_)
          repeat (refine And.intro (by first | omega | (constructor <;> omega) | kernel_rfl) ?_)
          refine CallW.mx (c6) ?_
          try simp (config := { maxSteps := 10000000 }) only [go_sem]
          repeat (refine And.intro (by first | omega | (constructor <;> omega) | kernel_rfl) ?_)
          refine CallW.mx (c7) ?_
          try simp (config := { maxSteps := 10000000 }) only [go_sem]
          repeat (refine And.intro (by first | omega | (constructor <;> omega) | kernel_rfl) ?_)
          refine CallW.mx (c8) ?_
          try simp (config := { maxSteps := 10000000 }) only [go_sem]
          all_goals repeat (refine And.intro (by first | omega | (constructor <;> omega) | kernel_rfl) ?_)
          all_goals first | kernel_rfl | omega | rfl
        · have d2 := decide_eq_false hz
          have hr2 := rch_sm p1.ins a.1.length (Nat.le_refl _)
          have c5 := ReachSquareS_fn a.1 p1.poly
          have c7 := DiscTouchesS_fn (robD b j) (subP (standP a i).2 (standP b j).2) (rchI a.1 a.1.length) (robD_sm hb j).poly (by omega)
          rw [show stpTB a i b j = discB (robD b j) (subP (standP a i).2 (standP b j).2) (rchI a.1 a.1.length) from if_neg hz]
          unfold robD at c7 ⊢
          refine fn_enter tabOK mixes Tryz.func18 rfl rfl _ Tryz.ntmps18 _ Tryz.results18 (by simp) fun hwf => ?_
          try simp (config := { maxSteps := 10000000 }) only [go_sem]
          repeat (refine And.intro (by first | omega | (constructor <;> omega) | kernel_rfl) ?_)
          refine CallW.t (c1) ?_
          try simp (config := { maxSteps := 10000000 }) only [go_sem]
          repeat (refine And.intro (by first | omega | (constructor <;> omega) | kernel_rfl) ?_)
          refine CallW.t (c2) ?_
          try simp (config := { maxSteps := 10000000 }) only [go_sem]
          try simp (config := { maxSteps := 10000000 }) only [go_sem, d1]
          repeat (refine And.intro (by first | omega | (constructor <;> omega) | kernel_rfl) ?_)
          repeat (refine And.intro (by first | omega | (constructor <;> omega) | kernel_rfl) ?_)
          refine CallW.mk (c4) ?_
          try simp (config := { maxSteps := 10000000 }) only [go_sem]
          try simp (config := { maxSteps := 10000000 }) only [go_sem, d2]
          repeat (refine And.intro (by first | omega | (constructor <;> omega) | kernel_rfl) ?_)
          refine CallW.mx (c6) ?_
          try simp (config := { maxSteps := 10000000 }) only [go_sem]
          repeat (refine And.intro (by first | omega | (constructor <;> omega) | kernel_rfl) ?_)
          refine CallW.mx (c5) ?_
          try simp (config := { maxSteps := 10000000 }) only [go_sem]
          repeat (refine And.intro (by first | omega | (constructor <;> omega) | kernel_rfl) ?_)
          refine CallW.mx (c7) ?_
          try simp (config := { maxSteps := 10000000 }) only [go_sem]
          all_goals repeat (refine And.intro (by first | omega | (constructor <;> omega) | kernel_rfl) ?_)
          all_goals first | kernel_rfl | omega | rfl
end Go.Proofs.YtghckbohaghgkaaGreat.DW

/-
  The laws' helpers for vectors and tours, as contracts on data.
-/
namespace Go.Proofs.YtghckbohaghgkaaGreat
open Go.RowKit
abbrev DVec := Int × Int
abbrev RVec : Rp DVec := Rp.prod Rp.int Rp.int
abbrev DVecS := List DVec
abbrev RVecS : Rp DVecS := Rp.slice RVec (by decide)
abbrev DTour := DVecS × (DPlacement × DStepS)
abbrev RTour : Rp DTour := Rp.prod RVecS (Rp.prod RPlacement RStepS)
def tTour (x : DTour) : Nat := (x.1.length + tPlacement x.2.1) + (x.2.2.length + tStepS x.2.2)
theorem list9 {α : Type} {l : List α} (h : l.length = 9) : ∃ c0 c1 c2 c3 c4 c5 c6 c7 c8, l = [c0, c1, c2, c3, c4, c5, c6, c7, c8] := by
  match l, h with
  | [c0, c1, c2, c3, c4, c5, c6, c7, c8], _ => exact ⟨c0, c1, c2, c3, c4, c5, c6, c7, c8, rfl⟩
namespace DW
theorem szVecS_fn (x : DVecS) (left : Int) (h0 : 0 ≤ left) (h1 : left ≤ 1048576) : Fn Tryz.prog 30 [⟨.slice DW.tVec, x⟩, ⟨.int, left⟩] false [⟨.int, szr left x.length⟩] := by
  by_cases h : (x.length : Int) ≤ left
  · rw [← szr_ge h]
    have d := decide_eq_false (p := left - (x.length : Int) < 0) (by omega)
    refine fn_enter tabOK mixes Tryz.func30 rfl rfl _ Tryz.ntmps30 _ Tryz.results30 (by simp) fun hwf => ?_
    have hl : x.length ≤ 9223372036854775807 := (hwf ⟨.slice DW.tVec, x⟩ (by simp)).1
    try simp (config := { maxSteps := 10000000 }) only [go_sem]
    repeat (refine And.intro (by first | omega | (constructor <;> omega) | kernel_rfl) ?_)
    try simp (config := { maxSteps := 10000000 }) only [go_sem, d]
    all_goals repeat (refine And.intro (by first | omega | (constructor <;> omega) | kernel_rfl) ?_)
    all_goals first | kernel_rfl | omega | rfl
  · rw [← szr_lt (by omega)]
    have d := decide_eq_true (p := left - (x.length : Int) < 0) (by omega)
    refine fn_enter tabOK mixes Tryz.func30 rfl rfl _ Tryz.ntmps30 _ Tryz.results30 (by simp) fun hwf => ?_
    have hl : x.length ≤ 9223372036854775807 := (hwf ⟨.slice DW.tVec, x⟩ (by simp)).1
    try simp (config := { maxSteps := 10000000 }) only [go_sem]
    repeat (refine And.intro (by first | omega | (constructor <;> omega) | kernel_rfl) ?_)
    try simp (config := { maxSteps := 10000000 }) only [go_sem, d]
    all_goals repeat (refine And.intro (by first | omega | (constructor <;> omega) | kernel_rfl) ?_)
    all_goals first | kernel_rfl | omega | rfl
theorem toVec_fn (x : DVec) : Fn Tryz.prog 80 [⟨DW.tVec, x⟩] false [⟨DW.tVec, x⟩] := by
  refine fn_enter tabOK mixes Tryz.func80 rfl rfl _ Tryz.ntmps80 _ Tryz.results80 (by simp) fun hwf => ?_
  try simp (config := { maxSteps := 10000000 }) only [go_sem]
  all_goals repeat (refine And.intro (by first | omega | (constructor <;> omega) | kernel_rfl) ?_)
  all_goals first | kernel_rfl | omega | rfl
theorem toVecS_fn (x : DVecS) (hs : x.length ≤ 1048576) : Fn Tryz.prog 38 [⟨.slice DW.tVec, x⟩] true [⟨.slice DW.tVec, x⟩] := by
  refine fn_enter tabOK mixes Tryz.func38 rfl rfl _ Tryz.ntmps38 _ Tryz.results38 (by simp) fun hwf => ?_
  try simp (config := { maxSteps := 10000000 }) only [go_sem]
  repeat (refine And.intro (by first | omega | (constructor <;> omega) | kernel_rfl) ?_)
  refine LoopG.intro _ _ _ (fun i : Nat => ⟨[(0, .sl DW.tVec x), (3, .row 0 0), (4, .sc (.int .i64 i))], [(0, .row 113 DW.tVec 0 true (x.take i ++ List.replicate (x.length - i) ((0 : Int), (0 : Int))))]⟩) (fun i => i ≤ x.length) (fun i => x.length - i) 0 ?_ (Nat.zero_le _) ?_
  · refine Wk.mk [] ?_
    try simp (config := { maxSteps := 10000000 }) only [go_sem]
    try (and_intros <;> first | rfl | omega | exact ⟨_, rfl⟩)
  · rintro i hi
    have hlen : (x.take i ++ List.replicate (x.length - i) ((0 : Int), (0 : Int))).length = x.length := by simp; omega
    try simp (config := { maxSteps := 10000000 }) only [go_sem]
    refine CondW_dec (fun hA => ?_) (fun hA => ?_)
    · have hset : (x.take i ++ List.replicate (x.length - i) ((0 : Int), (0 : Int))).set i (nth (t := DW.tVec) x i) = x.take (i + 1) ++ List.replicate (x.length - (i + 1)) ((0 : Int), (0 : Int)) := by
        have hlt : i < x.length := by omega
        rw [List.set_append_right _ _ (by rw [List.length_take]; omega), List.length_take, show i - min i x.length = 0 by omega, show x.length - i = (x.length - (i + 1)) + 1 by omega, List.replicate_succ, List.set_cons_zero, nth_lt hlt]
        have e : x.take (i + 1) = x.take i ++ [x[i]] := List.take_succ_eq_append_getElem hlt
        rw [e, List.append_assoc]; rfl
      have ht : (List.take i x).length = i := by rw [List.length_take]; omega
      have c1 := toVec_fn (nth (t := DW.tVec) x i)
      try simp (config := { maxSteps := 10000000 }) only [go_sem]
      repeat (refine And.intro (by first | omega | (constructor <;> omega) | kernel_rfl) ?_)
      repeat (refine And.intro (by first | omega | (constructor <;> omega) | kernel_rfl) ?_)
      refine CallW.mk (c1) ?_
      try simp (config := { maxSteps := 10000000 }) only [go_sem]
      repeat (refine And.intro (by first | omega | (constructor <;> omega) | kernel_rfl) ?_)
      refine LoopK.mk (i + 1) ?_ (by omega) (by omega)
      rw [← hset]
      refine Wk.mk [] ?_
      try simp (config := { maxSteps := 10000000 }) only [go_sem]
      try (and_intros <;> first | rfl | omega | exact ⟨_, rfl⟩)
    · have : x.take i ++ List.replicate (x.length - i) ((0 : Int), (0 : Int)) = x := by
        rw [List.take_of_length_le (by omega), show x.length - i = 0 by omega]; simp
      rw [this]
      try simp (config := { maxSteps := 10000000 }) only [go_sem]
      all_goals repeat (refine And.intro (by first | omega | (constructor <;> omega) | kernel_rfl) ?_)
      all_goals first | kernel_rfl | omega | rfl
theorem eqVec_fn (x y : DVec) : Fn Tryz.prog 88 [⟨DW.tVec, x⟩, ⟨DW.tVec, y⟩] false [⟨.bool, eqb x y⟩] := by
  by_cases h1 : x.1 = y.1
  · have d1 := decide_eq_true h1
    by_cases h2 : x.2 = y.2
    · have d2 := decide_eq_true h2
      rw [eqb_true (Prod.ext h1 h2)]
      refine fn_enter tabOK mixes Tryz.func88 rfl rfl _ Tryz.ntmps88 _ Tryz.results88 (by simp) fun hwf => ?_
      try simp (config := { maxSteps := 10000000 }) only [go_sem, d1, d2]
    · have d2 := decide_eq_false h2
      rw [eqb_false (fun h => h2 (by rw [h]))]
      refine fn_enter tabOK mixes Tryz.func88 rfl rfl _ Tryz.ntmps88 _ Tryz.results88 (by simp) fun hwf => ?_
      try simp (config := { maxSteps := 10000000 }) only [go_sem, d1, d2]
  · have d1 := decide_eq_false h1
    rw [eqb_false (fun h => h1 (by rw [h]))]
    refine fn_enter tabOK mixes Tryz.func88 rfl rfl _ Tryz.ntmps88 _ Tryz.results88 (by simp) fun hwf => ?_
    try simp (config := { maxSteps := 10000000 }) only [go_sem, d1]
theorem eqVecS_fn (x y : DVecS) : Fn Tryz.prog 43 [⟨.slice DW.tVec, x⟩, ⟨.slice DW.tVec, y⟩] false [⟨.bool, eqb x y⟩] := by
  by_cases h0 : (x.length : Int) = y.length
  · have d0 := decide_eq_true h0
    refine fn_enter tabOK mixes Tryz.func43 rfl rfl _ Tryz.ntmps43 _ Tryz.results43 (by simp) fun hwf => ?_
    have hl : x.length ≤ 9223372036854775807 := (hwf ⟨.slice DW.tVec, x⟩ (by simp)).1
    try simp (config := { maxSteps := 10000000 }) only [go_sem, d0]
    refine LoopG.intro _ _ _ (fun i : Nat => ⟨[(0, .sl DW.tVec x), (1, .sl DW.tVec y), (5, .sc (.int .i64 i))], []⟩) (fun i => ∀ j, j < i → j < x.length → nth (t := DW.tVec) x j = nth (t := DW.tVec) y j) (fun i => x.length - i) 0 ?_ (fun j h => absurd h (Nat.not_lt_zero _)) ?_
    · refine Wk.mk [] ?_
      try simp (config := { maxSteps := 10000000 }) only [go_sem]
      try (and_intros <;> first | rfl | omega | exact ⟨_, rfl⟩)
    · rintro i hi
      try simp (config := { maxSteps := 10000000 }) only [go_sem]
      refine CondW_dec (fun hA => ?_) (fun hA => ?_)
      · have c1 := eqVec_fn (nth (t := DW.tVec) x i) (nth (t := DW.tVec) y i)
        by_cases e : nth (t := DW.tVec) x i = nth (t := DW.tVec) y i
        · rw [eqb_true e] at c1
          try simp (config := { maxSteps := 10000000 }) only [go_sem]
          repeat (refine And.intro (by first | omega | (constructor <;> omega) | kernel_rfl) ?_)
          repeat (refine And.intro (by first | omega | (constructor <;> omega) | kernel_rfl) ?_)
          refine CallW.mk (c1) ?_
          try simp (config := { maxSteps := 10000000 }) only [go_sem]
          repeat (refine And.intro (by first | omega | (constructor <;> omega) | kernel_rfl) ?_)
          refine LoopK.mk (i + 1) ?_ (fun j h1 h2 => ?_) (by omega)
          · refine Wk.mk [] ?_
            try simp (config := { maxSteps := 10000000 }) only [go_sem]
            try (and_intros <;> first | rfl | omega | exact ⟨_, rfl⟩)
          · by_cases h3 : j < i
            · exact hi j h3 h2
            · rw [show j = i by omega]; exact e
        · rw [eqb_false e] at c1
          rw [eqb_false (fun h => e (by rw [h]))]
          try simp (config := { maxSteps := 10000000 }) only [go_sem]
          repeat (refine And.intro (by first | omega | (constructor <;> omega) | kernel_rfl) ?_)
          repeat (refine And.intro (by first | omega | (constructor <;> omega) | kernel_rfl) ?_)
          refine CallW.mk (c1) ?_
          try simp (config := { maxSteps := 10000000 }) only [go_sem]
          all_goals repeat (refine And.intro (by first | omega | (constructor <;> omega) | kernel_rfl) ?_)
          all_goals first | kernel_rfl | omega | rfl
      · have : x = y := by
          refine List.ext_getElem (by omega) fun j h1 h2 => ?_
          have := hi j (by omega) h1
          rwa [nth_lt h1, nth_lt h2] at this
        rw [eqb_true this]
        try simp (config := { maxSteps := 10000000 }) only [go_sem]
  · have d0 := decide_eq_false h0
    rw [eqb_false (fun h => h0 (by rw [h]))]
    refine fn_enter tabOK mixes Tryz.func43 rfl rfl _ Tryz.ntmps43 _ Tryz.results43 (by simp) fun hwf => ?_
    try simp (config := { maxSteps := 10000000 }) only [go_sem, d0]
theorem szTour_fn (x : DTour) (left : Int) (h0 : 0 ≤ left) (h1 : left ≤ 1048576) : Fn Tryz.prog 8 [⟨DW.tTour, x⟩, ⟨.int, left⟩] false [⟨.int, szr left (Go.Proofs.YtghckbohaghgkaaGreat.tTour x)⟩] := by
  obtain ⟨r, p, l⟩ := x
  have c1 := szVecS_fn r left h0 h1
  have r1 := szr_lo left r.length h0
  have hT : Go.Proofs.YtghckbohaghgkaaGreat.tTour (r, p, l) = (r.length + tPlacement p) + (l.length + tStepS l) := rfl
  by_cases e1 : szr left r.length < 0
  · have d1 := decide_eq_true e1
    rw [← szr_fail e1 (b := Go.Proofs.YtghckbohaghgkaaGreat.tTour (r, p, l)) (by omega)]
    refine fn_enter tabOK mixes Tryz.func8 rfl rfl _ Tryz.ntmps8 _ Tryz.results8 (by simp) fun hwf => ?_
    try simp (config := { maxSteps := 10000000 }) only [go_sem]
    repeat (refine And.intro (by first | omega | (constructor <;> omega) | kernel_rfl) ?_)
    refine CallW.mk (c1) ?_
    try simp (config := { maxSteps := 10000000 }) only [go_sem]
    try simp (config := { maxSteps := 10000000 }) only [go_sem, d1]
    all_goals repeat (refine And.intro (by first | omega | (constructor <;> omega) | kernel_rfl) ?_)
    all_goals first | kernel_rfl | omega | rfl
  · have d1 := decide_eq_false e1
    have c2 := szPlacement_fn p (szr left r.length) (by omega) (by omega)
    have r2 := szr_lo (szr left r.length) (tPlacement p) (by omega)
    have a2 := szr_add left r.length (tPlacement p) (by omega)
    by_cases e2 : szr (szr left r.length) (tPlacement p) < 0
    · have d2 := decide_eq_true e2
      rw [← szr_fail (by rw [← a2]; exact e2) (a := r.length + tPlacement p) (b := Go.Proofs.YtghckbohaghgkaaGreat.tTour (r, p, l)) (by omega)]
      refine fn_enter tabOK mixes Tryz.func8 rfl rfl _ Tryz.ntmps8 _ Tryz.results8 (by simp) fun hwf => ?_
      try simp (config := { maxSteps := 10000000 }) only [go_sem]
      repeat (refine And.intro (by first | omega | (constructor <;> omega) | kernel_rfl) ?_)
      refine CallW.mk (c1) ?_
      try simp (config := { maxSteps := 10000000 }) only [go_sem]
      try simp (config := { maxSteps := 10000000 }) only [go_sem, d1]
      repeat (refine And.intro (by first | omega | (constructor <;> omega) | kernel_rfl) ?_)
      refine CallW.mk (c2) ?_
      try simp (config := { maxSteps := 10000000 }) only [go_sem]
      try simp (config := { maxSteps := 10000000 }) only [go_sem, d2]
      all_goals repeat (refine And.intro (by first | omega | (constructor <;> omega) | kernel_rfl) ?_)
      all_goals first | kernel_rfl | omega | rfl
    · have d2 := decide_eq_false e2
      have c3 := szStepS_fn l (szr (szr left r.length) (tPlacement p)) (by omega) (by omega)
      have r3 := szr_lo (szr (szr left r.length) (tPlacement p)) (l.length + tStepS l) (by omega)
      have a3 := szr_add left (r.length + tPlacement p) (l.length + tStepS l) (by rw [← a2]; omega)
      rw [← a2] at a3
      rw [hT, ← a3]
      by_cases e3 : szr (szr (szr left r.length) (tPlacement p)) (l.length + tStepS l) < 0
      · have d3 := decide_eq_true e3
        have e4 : szr (szr (szr left r.length) (tPlacement p)) (l.length + tStepS l) = -1 := by omega
        rw [e4] at d3 c3 ⊢
        refine fn_enter tabOK mixes Tryz.func8 rfl rfl _ Tryz.ntmps8 _ Tryz.results8 (by simp) fun hwf => ?_
        try simp (config := { maxSteps := 10000000 }) only [go_sem]
        repeat (refine And.intro (by first | omega | (constructor <;> omega) | kernel_rfl) ?_)
        refine CallW.mk (c1) ?_
        try simp (config := { maxSteps := 10000000 }) only [go_sem]
        try simp (config := { maxSteps := 10000000 }) only [go_sem, d1]
        repeat (refine And.intro (by first | omega | (constructor <;> omega) | kernel_rfl) ?_)
        refine CallW.mk (c2) ?_
        try simp (config := { maxSteps := 10000000 }) only [go_sem]
        try simp (config := { maxSteps := 10000000 }) only [go_sem, d2]
        repeat (refine And.intro (by first | omega | (constructor <;> omega) | kernel_rfl) ?_)
        refine CallW.mk (c3) ?_
        try simp (config := { maxSteps := 10000000 }) only [go_sem]
        all_goals repeat (refine And.intro (by first | omega | (constructor <;> omega) | kernel_rfl) ?_)
        all_goals first | kernel_rfl | omega | rfl
      · have d3 := decide_eq_false e3
        refine fn_enter tabOK mixes Tryz.func8 rfl rfl _ Tryz.ntmps8 _ Tryz.results8 (by simp) fun hwf => ?_
        try simp (config := { maxSteps := 10000000 }) only [go_sem]
        repeat (refine And.intro (by first | omega | (constructor <;> omega) | kernel_rfl) ?_)
        refine CallW.mk (c1) ?_
        try simp (config := { maxSteps := 10000000 }) only [go_sem]
        try simp (config := { maxSteps := 10000000 }) only [go_sem, d1]
        repeat (refine And.intro (by first | omega | (constructor <;> omega) | kernel_rfl) ?_)
        refine CallW.mk (c2) ?_
        try simp (config := { maxSteps := 10000000 }) only [go_sem]
        try simp (config := { maxSteps := 10000000 }) only [go_sem, d2]
        repeat (refine And.intro (by first | omega | (constructor <;> omega) | kernel_rfl) ?_)
        refine CallW.mk (c3) ?_
        try simp (config := { maxSteps := 10000000 }) only [go_sem]
        try simp (config := { maxSteps := 10000000 }) only [go_sem, d3]
        all_goals repeat (refine And.intro (by first | omega | (constructor <;> omega) | kernel_rfl) ?_)
        all_goals first | kernel_rfl | omega | rfl
theorem toTour_fn (x : DTour) (hs : Go.Proofs.YtghckbohaghgkaaGreat.tTour x ≤ 1048576) : Fn Tryz.prog 10 [⟨DW.tTour, x⟩] true [⟨DW.tTour, x⟩] := by
  obtain ⟨r, p, l⟩ := x
  have hT : Go.Proofs.YtghckbohaghgkaaGreat.tTour (r, p, l) = (r.length + tPlacement p) + (l.length + tStepS l) := rfl
  have c1 := toVecS_fn r (by omega)
  have c2 := toPlacement_fn p (by omega)
  have c3 := toStepS_fn l (by omega)
  refine fn_enter tabOK mixes Tryz.func10 rfl rfl _ Tryz.ntmps10 _ Tryz.results10 (by simp) fun hwf => ?_
  try simp (config := { maxSteps := 10000000 }) only [go_sem]
  repeat (refine And.intro (by first | omega | (constructor <;> omega) | kernel_rfl) ?_)
  refine CallW.mk (c1) ?_
  try simp (config := { maxSteps := 10000000 }) only [go_sem]
  repeat (refine And.intro (by first | omega | (constructor <;> omega) | kernel_rfl) ?_)
  refine CallW.mk (c2) ?_
  try simp (config := { maxSteps := 10000000 }) only [go_sem]
  repeat (refine And.intro (by first | omega | (constructor <;> omega) | kernel_rfl) ?_)
  refine CallW.mk (c3) ?_
  try simp (config := { maxSteps := 10000000 }) only [go_sem]
  all_goals repeat (refine And.intro (by first | omega | (constructor <;> omega) | kernel_rfl) ?_)
  all_goals first | kernel_rfl | omega | rfl
theorem eqTour_fn (x y : DTour) : Fn Tryz.prog 12 [⟨DW.tTour, x⟩, ⟨DW.tTour, y⟩] false [⟨.bool, eqb x y⟩] := by
  obtain ⟨r, p, l⟩ := x
  obtain ⟨r', p', l'⟩ := y
  have c1 := eqVecS_fn r r'
  have c2 := eqPlacement_fn p p'
  have c3 := eqStepS_fn l l'
  by_cases e1 : r = r'
  · rw [eqb_true e1] at c1
    by_cases e2 : p = p'
    · rw [eqb_true e2] at c2
      by_cases e3 : l = l'
      · rw [eqb_true e3] at c3
        rw [eqb_true (by rw [e1, e2, e3])]
        refine fn_enter tabOK mixes Tryz.func12 rfl rfl _ Tryz.ntmps12 _ Tryz.results12 (by simp) fun hwf => ?_
        try simp (config := { maxSteps := 10000000 }) only [go_sem]
        repeat (refine And.intro (by first | omega | (constructor <;> omega) | kernel_rfl) ?_)
        refine CallW.mk (c1) ?_
        try simp (config := { maxSteps := 10000000 }) only [go_sem]
        repeat (refine And.intro (by first | omega | (constructor <;> omega) | kernel_rfl) ?_)
        refine CallW.mk (c2) ?_
        try simp (config := { maxSteps := 10000000 }) only [go_sem]
        repeat (refine And.intro (by first | omega | (constructor <;> omega) | kernel_rfl) ?_)
        refine CallW.mk (c3) ?_
        try simp (config := { maxSteps := 10000000 }) only [go_sem]
      · rw [eqb_false e3] at c3
        rw [eqb_false (fun h => e3 (congrArg (fun z => z.2.2) h))]
        refine fn_enter tabOK mixes Tryz.func12 rfl rfl _ Tryz.ntmps12 _ Tryz.results12 (by simp) fun hwf => ?_
        try simp (config := { maxSteps := 10000000 }) only [go_sem]
        repeat (refine And.intro (by first | omega | (constructor <;> omega) | kernel_rfl) ?_)
        refine CallW.mk (c1) ?_
        try simp (config := { maxSteps := 10000000 }) only [go_sem]
        repeat (refine And.intro (by first | omega | (constructor <;> omega) | kernel_rfl) ?_)
        refine CallW.mk (c2) ?_
        try simp (config := { maxSteps := 10000000 }) only [go_sem]
        repeat (refine And.intro (by first | omega | (constructor <;> omega) | kernel_rfl) ?_)
        refine CallW.mk (c3) ?_
        try simp (config := { maxSteps := 10000000 }) only [go_sem]
    · rw [eqb_false e2] at c2
      rw [eqb_false (fun h => e2 (congrArg (fun z => z.2.1) h))]
      refine fn_enter tabOK mixes Tryz.func12 rfl rfl _ Tryz.ntmps12 _ Tryz.results12 (by simp) fun hwf => ?_
      try simp (config := { maxSteps := 10000000 }) only [go_sem]
      repeat (refine And.intro (by first | omega | (constructor <;> omega) | kernel_rfl) ?_)
      refine CallW.mk (c1) ?_
      try simp (config := { maxSteps := 10000000 }) only [go_sem]
      repeat (refine And.intro (by first | omega | (constructor <;> omega) | kernel_rfl) ?_)
      refine CallW.mk (c2) ?_
      try simp (config := { maxSteps := 10000000 }) only [go_sem]
  · rw [eqb_false e1] at c1
    rw [eqb_false (fun h => e1 (congrArg (fun z => z.1) h))]
    refine fn_enter tabOK mixes Tryz.func12 rfl rfl _ Tryz.ntmps12 _ Tryz.results12 (by simp) fun hwf => ?_
    try simp (config := { maxSteps := 10000000 }) only [go_sem]
    repeat (refine And.intro (by first | omega | (constructor <;> omega) | kernel_rfl) ?_)
    refine CallW.mk (c1) ?_
    try simp (config := { maxSteps := 10000000 }) only [go_sem]
end DW
end Go.Proofs.YtghckbohaghgkaaGreat

/-
  The arguments' types of this program, opened: vectors and tours.
-/
namespace Go.Proofs.YtghckbohaghgkaaGreat
open Go.RowKit
section
variable {H : Type} {enc : TypeId × Value → H} {w : World} {P : Program}
theorem Opens.prod3 {α β γ : Type} {t : TypeId} {A : Rp α} {B : Rp β} {C : Rp γ} {f0 f1 f2 : Field} (ht : P.underlying t = some (.struct #[f0, f1, f2])) (o0 : f0.offset = 0) (o1 : f1.offset = A.size) (o2 : f2.offset = A.size + B.size)
    (s0 : P.cellsOf f0.type = A.size) (s1 : P.cellsOf f1.type = B.size) (s2 : P.cellsOf f2.type = C.size) (s : P.cellsOf t = A.size + (B.size + C.size)) (h0 : Opens enc P w f0.type A) (h1 : Opens enc P w f1.type B) (h2 : Opens enc P w f2.type C) : Opens enc P w t (Rp.prod A (Rp.prod B C)) := fun fuel cs x h => by
  obtain ⟨xs, n, _, _, hl, hxl, hf⟩ := DataW.trod_struct ht h
  have e0 := hf 0 f0 rfl
  have e1 := hf 1 f1 rfl
  have e2 := hf 2 f2 rfl
  have hxl' : xs.length = 3 := hxl
  rw [o0, s0, List.getElem?_eq_getElem (by omega)] at e0
  rw [o1, s1, List.getElem?_eq_getElem (by omega)] at e1
  rw [o2, s2, List.getElem?_eq_getElem (by omega)] at e2
  obtain ⟨a, fa, ra⟩ := h0 _ _ _ e0
  obtain ⟨b, fb, rb⟩ := h1 _ _ _ e1
  obtain ⟨c, fc, rc⟩ := h2 _ _ _ e2
  refine ⟨(a, b, c), fa ++ (fb ++ fc), _, cs.drop A.size, fa, fb ++ fc, ?_, rfl, ra, _, _, fb, fc, ?_, rfl, rb, rc⟩
  · rw [List.drop_zero, List.take_append_drop]
  · rw [← List.drop_drop, List.take_of_length_le (show ((cs.drop A.size).drop B.size).length ≤ C.size by simp; omega), List.take_append_drop]
theorem oVec : Opens enc Tryz.prog w 123 RVec := Opens.prod Tryz.underlying123 rfl rfl (by kernel_rfl) (by kernel_rfl) (by kernel_rfl) oInt oInt
theorem oVecS : Opens enc Tryz.prog w 22 RVecS := Opens.slice Tryz.underlying22 (by kernel_rfl) oVec
theorem oTour : Opens enc Tryz.prog w 34 RTour := Opens.prod3 Tryz.underlying34 rfl rfl rfl (by kernel_rfl) (by kernel_rfl) (by kernel_rfl) (by kernel_rfl) oVecS oPlacement oStepS
end
end Go.Proofs.YtghckbohaghgkaaGreat

/-
  The law FnExactStepTouches returns true: the walk through it on data, by the contracts.
-/
namespace Go.Proofs.YtghckbohaghgkaaGreat.DW
open Go.RowKit

set_option maxRecDepth 100000 in
set_option maxHeartbeats 8000000 in
theorem lawStepTouches_fn (x0 : DTour) (n1 : Int) (x2 : DTour) (n3 : Int) : Fn Tryz.prog 5 [⟨DW.tTour, x0⟩, ⟨.int, n1⟩, ⟨DW.tTour, x2⟩, ⟨.int, n3⟩] false [⟨.bool, true⟩] := by
  refine fn_enter tabOK mixes Tryz.func5 rfl rfl _ Tryz.ntmps5 _ Tryz.results5 (by simp) fun hwf => ?_
  have hI1 : I64 n1 := hwf ⟨.int, n1⟩ (by simp)
  have hI3 : I64 n3 := hwf ⟨.int, n3⟩ (by simp)
  try simp (config := { maxSteps := 10000000 }) only [go_sem]
  repeat (refine And.intro (by first | omega | (constructor <;> omega) | kernel_rfl) ?_)
  refine CallW.mk (szTour_fn x0 1048576 (by omega) (by omega)) ?_
  try simp (config := { maxSteps := 10000000 }) only [go_sem]
  repeat (refine And.intro (by first | omega | (constructor <;> omega) | kernel_rfl) ?_)
  have hr0 := szr_lo 1048576 (Go.Proofs.YtghckbohaghgkaaGreat.tTour x0) (by omega)
  refine CondW_dec (fun hlt => ?_) (fun hge0 => ?_)
  · try simp (config := { maxSteps := 10000000 }) only [go_sem]
  have hge0' : 0 ≤ szr 1048576 (Go.Proofs.YtghckbohaghgkaaGreat.tTour x0) := by omega
  try simp (config := { maxSteps := 10000000 }) only [go_sem]
  repeat (refine And.intro (by first | omega | (constructor <;> omega) | kernel_rfl) ?_)
  refine CallW.mk (szTour_fn x2 (szr 1048576 (Go.Proofs.YtghckbohaghgkaaGreat.tTour x0)) (by omega) (by omega)) ?_
  try simp (config := { maxSteps := 10000000 }) only [go_sem]
  repeat (refine And.intro (by first | omega | (constructor <;> omega) | kernel_rfl) ?_)
  have hr1 := szr_lo (szr 1048576 (Go.Proofs.YtghckbohaghgkaaGreat.tTour x0)) (Go.Proofs.YtghckbohaghgkaaGreat.tTour x2) (by omega)
  refine CondW_dec (fun hlt => ?_) (fun hge1 => ?_)
  · try simp (config := { maxSteps := 10000000 }) only [go_sem]
  have hge1' : 0 ≤ szr (szr 1048576 (Go.Proofs.YtghckbohaghgkaaGreat.tTour x0)) (Go.Proofs.YtghckbohaghgkaaGreat.tTour x2) := by omega
  have hs0 := (szr_ok hge0').1
  have hs1 := (szr_ok hge1').1
  have hle0 : Go.Proofs.YtghckbohaghgkaaGreat.tTour x0 ≤ 1048576 := by omega
  have hle2 : Go.Proofs.YtghckbohaghgkaaGreat.tTour x2 ≤ 1048576 := by omega
  clear hr0 hs0 hge0 hge0' hr1 hs1 hge1 hge1'
  try simp (config := { maxSteps := 10000000 }) only [go_sem]
  repeat (refine And.intro (by first | omega | (constructor <;> omega) | kernel_rfl) ?_)
  refine CallW.mk (toTour_fn x0 hle0) ?_
  try simp (config := { maxSteps := 10000000 }) only [go_sem]
  repeat (refine And.intro (by first | omega | (constructor <;> omega) | kernel_rfl) ?_)
  refine CallW.mk (toTour_fn x2 hle2) ?_
  try simp (config := { maxSteps := 10000000 }) only [go_sem]
  repeat (refine And.intro (by first | omega | (constructor <;> omega) | kernel_rfl) ?_)
  refine CallW.mk (StepTouchesS_fn x0 n1 x2 n3) ?_
  try simp (config := { maxSteps := 10000000 }) only [go_sem]
  repeat (refine And.intro (by first | omega | (constructor <;> omega) | kernel_rfl) ?_)
  refine CallW.mx (toTour_fn x0 hle0) ?_
  try simp (config := { maxSteps := 10000000 }) only [go_sem]
  repeat (refine And.intro (by first | omega | (constructor <;> omega) | kernel_rfl) ?_)
  refine CallW.mx (toTour_fn x2 hle2) ?_
  try simp (config := { maxSteps := 10000000 }) only [go_sem]
  repeat (refine And.intro (by first | omega | (constructor <;> omega) | kernel_rfl) ?_)
  refine CallW.mx (StepTouchesI_fn x0 n1 x2 n3) ?_
  try simp (config := { maxSteps := 10000000 }) only [go_sem]
  repeat (refine And.intro (by first | omega | (constructor <;> omega) | kernel_rfl) ?_)
  refine CallW.mk (toTour_fn x0 hle0) ?_
  try simp (config := { maxSteps := 10000000 }) only [go_sem]
  repeat (refine And.intro (by first | omega | (constructor <;> omega) | kernel_rfl) ?_)
  refine CallW.mx (eqTour_fn x0 x0) ?_
  try simp (config := { maxSteps := 10000000 }) only [go_sem]
  repeat (refine And.intro (by first | omega | (constructor <;> omega) | kernel_rfl) ?_)
  refine CallW.mk (toTour_fn x2 hle2) ?_
  try simp (config := { maxSteps := 10000000 }) only [go_sem]
  repeat (refine And.intro (by first | omega | (constructor <;> omega) | kernel_rfl) ?_)
  refine CallW.mx (eqTour_fn x2 x2) ?_
  try simp (config := { maxSteps := 10000000 }) only [go_sem]
  all_goals repeat (refine And.intro (by first | omega | (constructor <;> omega) | kernel_rfl) ?_)
  all_goals first | kernel_rfl | omega | rfl
end Go.Proofs.YtghckbohaghgkaaGreat.DW
namespace Go.Proofs.YtghckbohaghgkaaGreat
open Go.RowKit DW
theorem law_FnExactStepTouches (a0_0 a0_1 a0_2 a0_3 a0_4 a0_5 a0_6 a0_7 a0_8 : Value) (x0 : DTour) (n1 : Int) (a2_0 a2_1 a2_2 a2_3 a2_4 a2_5 a2_6 a2_7 a2_8 : Value) (x2 : DTour) (n3 : Int) (w : World) (hx0 : Has RTour w [a0_0, a0_1, a0_2, a0_3, a0_4, a0_5, a0_6, a0_7, a0_8] x0) (hI1 : I64 n1) (hx2 : Has RTour w [a2_0, a2_1, a2_2, a2_3, a2_4, a2_5, a2_6, a2_7, a2_8] x2) (hI3 : I64 n3) :
    Calls Tryz.prog 5 #[.agg #[a0_0, a0_1, a0_2, a0_3, a0_4, a0_5, a0_6, a0_7, a0_8], .int .i64 n1, .agg #[a2_0, a2_1, a2_2, a2_3, a2_4, a2_5, a2_6, a2_7, a2_8], .int .i64 n3] w (Post fun r w' => r = .bool true ∧ Below w.heap.size w w') :=
  (DW.lawStepTouches_fn x0 n1 x2 n3).bool (vs := [.agg #[a0_0, a0_1, a0_2, a0_3, a0_4, a0_5, a0_6, a0_7, a0_8], .int .i64 n1, .agg #[a2_0, a2_1, a2_2, a2_3, a2_4, a2_5, a2_6, a2_7, a2_8], .int .i64 n3]) ⟨Arg.agg (t := DW.tTour) (cs := [a0_0, a0_1, a0_2, a0_3, a0_4, a0_5, a0_6, a0_7, a0_8]) rfl hx0, Arg.int hI1, Arg.agg (t := DW.tTour) (cs := [a2_0, a2_1, a2_2, a2_3, a2_4, a2_5, a2_6, a2_7, a2_8]) rfl hx2, Arg.int hI3, trivial⟩
end Go.Proofs.YtghckbohaghgkaaGreat
