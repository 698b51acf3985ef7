/-
  Texts of a proof, one behind another: Dw52, Dw53, Dw27, Dw46, Dw54, Dw56, LwT, LwB, TabZ, LwT2, MarkT, OpensT, LawTouchTable.
-/
import Derived.Test.YtghckbohaghgkaaGreatKB5
set_option linter.all false
/-
  Segments that meet, the reference.
-/
namespace Go.Proofs.YtghckbohaghgkaaGreat.DW
open Go.RowKit
set_option maxRecDepth 100000 in
set_option maxHeartbeats 4000000 in
theorem SegmentsMeetS_fn (a b c d : DP) (ha : okPt a = true) (hb : okPt b = true) (hc : okPt c = true) (hd : okPt d = true) : Fn Tryz.prog 106 [⟨tPoint, a⟩, ⟨tPoint, b⟩, ⟨tPoint, c⟩, ⟨tPoint, d⟩] false [⟨.bool, meetB a b c d⟩] := by
  have va := specIsValidPoint_fn a
  rw [ha] at va
  have vb := specIsValidPoint_fn b
  rw [hb] at vb
  have vc := specIsValidPoint_fn c
  rw [hc] at vc
  have vd := specIsValidPoint_fn d
  rw [hd] at vd
  have c0 := specSide_fn a b c
  have c1 := specSide_fn a b d
  have c2 := specSide_fn c d a
  have c3 := specSide_fn c d b
  have s0 := l08Between_fn c a b
  have s1 := l08Between_fn d a b
  have s2 := l08Between_fn a c d
  have s3 := l08Between_fn b c d
  have b0 := sdP_b a b c
  have b1 := sdP_b a b d
  have b2 := sdP_b c d a
  have b3 := sdP_b c d b
  unfold meetB
  generalize sdP a b c = z0 at *
  generalize sdP a b d = z1 at *
  generalize sdP c d a = z2 at *
  generalize sdP c d b = z3 at *
  generalize spanB c a b = g0 at *
  generalize spanB d a b = g1 at *
  generalize spanB a c d = g2 at *
  generalize spanB b c d = g3 at *
  have m0 := mul3 b0 b1
  have m1 := mul3 b2 b3
  refine fn_enter tabOK mixes Tryz.func106 rfl rfl _ Tryz.ntmps106 _ Tryz.results106 (by simp) fun hwf => ?_
  try simp (maxSteps := 9999999) only [go_sem]
  repeat refine And.intro (by first|omega|(constructor<;>omega)|kernel_rfl) ?_
  refine CallW.mk (va) ?_
  try simp (maxSteps := 9999999) only [go_sem]
  repeat refine And.intro (by first|omega|(constructor<;>omega)|kernel_rfl) ?_
  refine CallW.mk (vb) ?_
  try simp (maxSteps := 9999999) only [go_sem]
  repeat refine And.intro (by first|omega|(constructor<;>omega)|kernel_rfl) ?_
  refine CallW.mk (vc) ?_
  try simp (maxSteps := 9999999) only [go_sem]
  repeat refine And.intro (by first|omega|(constructor<;>omega)|kernel_rfl) ?_
  refine CallW.mk (vd) ?_
  try simp (maxSteps := 9999999) only [go_sem]
  repeat refine And.intro (by first|omega|(constructor<;>omega)|kernel_rfl) ?_
  refine CallW.mk (c0) ?_
  try simp (maxSteps := 9999999) only [go_sem]
  repeat refine And.intro (by first|omega|(constructor<;>omega)|kernel_rfl) ?_
  refine CallW.mk (c1) ?_
  try simp (maxSteps := 9999999) only [go_sem]
  repeat refine And.intro (by first|omega|(constructor<;>omega)|kernel_rfl) ?_
  refine CallW.mk (c2) ?_
  try simp (maxSteps := 9999999) only [go_sem]
  repeat refine And.intro (by first|omega|(constructor<;>omega)|kernel_rfl) ?_
  refine CallW.mk (c3) ?_
  try simp (maxSteps := 9999999) only [go_sem]
  repeat refine And.intro (by first|omega|(constructor<;>omega)|kernel_rfl) ?_
  by_cases q0 : z0 * z1 < 0
  · have e0 := decide_eq_true q0
    by_cases q1 : z2 * z3 < 0
    · have e1 := decide_eq_true q1
      try simp (maxSteps := 9999999) only [go_sem, e0, e1]
      repeat refine And.intro (by first|omega|(constructor<;>omega)|kernel_rfl) ?_
      try simp (maxSteps := 9999999) only [go_sem, e0, e1]
      all_goals first | omega | (simp [q0, q1]; done)
    · have e1 := decide_eq_false q1
      try simp (maxSteps := 9999999) only [go_sem, e0, e1]
      repeat refine And.intro (by first|omega|(constructor<;>omega)|kernel_rfl) ?_
      try simp (maxSteps := 9999999) only [go_sem, e0, e1]
      by_cases h0 : z0 = 0
      · have d0 := decide_eq_true h0
        cases t0 : g0 <;> rw [t0] at s0
        · try simp (maxSteps := 9999999) only [go_sem, e0, e1, d0]
          repeat refine And.intro (by first|omega|(constructor<;>omega)|kernel_rfl) ?_
          refine CallW.mk (s0) ?_
          try simp (maxSteps := 9999999) only [go_sem]
          by_cases h1 : z1 = 0
          · have d1 := decide_eq_true h1
            cases t1 : g1 <;> rw [t1] at s1
            · try simp (maxSteps := 9999999) only [go_sem, e0, e1, d0, d1]
              repeat refine And.intro (by first|omega|(constructor<;>omega)|kernel_rfl) ?_
              refine CallW.mk (s1) ?_
              try simp (maxSteps := 9999999) only [go_sem]
              by_cases h2 : z2 = 0
              · have d2 := decide_eq_true h2
                cases t2 : g2 <;> rw [t2] at s2
                · try simp (maxSteps := 9999999) only [go_sem, e0, e1, d0, d1, d2]
                  repeat refine And.intro (by first|omega|(constructor<;>omega)|kernel_rfl) ?_
                  refine CallW.mk (s2) ?_
                  try simp (maxSteps := 9999999) only [go_sem]
                  by_cases h3 : z3 = 0
                  · have d3 := decide_eq_true h3
                    cases t3 : g3 <;> rw [t3] at s3
                    · try simp (maxSteps := 9999999) only [go_sem, e0, e1, d0, d1, d2, d3]
                      repeat refine And.intro (by first|omega|(constructor<;>omega)|kernel_rfl) ?_
                      refine CallW.mk (s3) ?_
                      try simp (maxSteps := 9999999) only [go_sem]
                      all_goals first | omega | (simp [q0, q1, h0, h1, h2, h3]; done)
                    · try simp (maxSteps := 9999999) only [go_sem, e0, e1, d0, d1, d2, d3]
                      repeat refine And.intro (by first|omega|(constructor<;>omega)|kernel_rfl) ?_
                      refine CallW.mk (s3) ?_
                      try simp (maxSteps := 9999999) only [go_sem]
                      all_goals first | omega | (simp [q0, q1, h0, h1, h2, h3]; done)
                  · have d3 := decide_eq_false h3
                    try simp (maxSteps := 9999999) only [go_sem, e0, e1, d0, d1, d2, d3]
                    all_goals first | omega | (simp [q0, q1, h0, h1, h2, h3]; done)
                · try simp (maxSteps := 9999999) only [go_sem, e0, e1, d0, d1, d2]
                  repeat refine And.intro (by first|omega|(constructor<;>omega)|kernel_rfl) ?_
                  refine CallW.mk (s2) ?_
                  try simp (maxSteps := 9999999) only [go_sem]
                  all_goals first | omega | (simp [q0, q1, h0, h1, h2]; done)
              · have d2 := decide_eq_false h2
                try simp (maxSteps := 9999999) only [go_sem, e0, e1, d0, d1, d2]
                by_cases h3 : z3 = 0
                · have d3 := decide_eq_true h3
                  cases t3 : g3 <;> rw [t3] at s3
                  · try simp (maxSteps := 9999999) only [go_sem, e0, e1, d0, d1, d2, d3]
                    repeat refine And.intro (by first|omega|(constructor<;>omega)|kernel_rfl) ?_
                    refine CallW.mk (s3) ?_
                    try simp (maxSteps := 9999999) only [go_sem]
                    all_goals first | omega | (simp [q0, q1, h0, h1, h2, h3]; done)
                  · try simp (maxSteps := 9999999) only [go_sem, e0, e1, d0, d1, d2, d3]
                    repeat refine And.intro (by first|omega|(constructor<;>omega)|kernel_rfl) ?_
                    refine CallW.mk (s3) ?_
                    try simp (maxSteps := 9999999) only [go_sem]
                    all_goals first | omega | (simp [q0, q1, h0, h1, h2, h3]; done)
                · have d3 := decide_eq_false h3
                  try simp (maxSteps := 9999999) only [go_sem, e0, e1, d0, d1, d2, d3]
                  all_goals first | omega | (simp [q0, q1, h0, h1, h2, h3]; done)
            · try simp (maxSteps := 9999999) only [go_sem, e0, e1, d0, d1]
              repeat refine And.intro (by first|omega|(constructor<;>omega)|kernel_rfl) ?_
              refine CallW.mk (s1) ?_
              try simp (maxSteps := 9999999) only [go_sem]
              all_goals first | omega | (simp [q0, q1, h0, h1]; done)
          · have d1 := decide_eq_false h1
            try simp (maxSteps := 9999999) only [go_sem, e0, e1, d0, d1]
            by_cases h2 : z2 = 0
            · have d2 := decide_eq_true h2
              cases t2 : g2 <;> rw [t2] at s2
              · try simp (maxSteps := 9999999) only [go_sem, e0, e1, d0, d1, d2]
                repeat refine And.intro (by first|omega|(constructor<;>omega)|kernel_rfl) ?_
                refine CallW.mk (s2) ?_
                try simp (maxSteps := 9999999) only [go_sem]
                by_cases h3 : z3 = 0
                · have d3 := decide_eq_true h3
                  cases t3 : g3 <;> rw [t3] at s3
                  · try simp (maxSteps := 9999999) only [go_sem, e0, e1, d0, d1, d2, d3]
                    repeat refine And.intro (by first|omega|(constructor<;>omega)|kernel_rfl) ?_
                    refine CallW.mk (s3) ?_
                    try simp (maxSteps := 9999999) only [go_sem]
                    all_goals first | omega | (simp [q0, q1, h0, h1, h2, h3]; done)
                  · try simp (maxSteps := 9999999) only [go_sem, e0, e1, d0, d1, d2, d3]
                    repeat refine And.intro (by first|omega|(constructor<;>omega)|kernel_rfl) ?_
                    refine CallW.mk (s3) ?_
                    try simp (maxSteps := 9999999) only [go_sem]
                    all_goals first | omega | (simp [q0, q1, h0, h1, h2, h3]; done)
                · have d3 := decide_eq_false h3
                  try simp (maxSteps := 9999999) only [go_sem, e0, e1, d0, d1, d2, d3]
                  all_goals first | omega | (simp [q0, q1, h0, h1, h2, h3]; done)
              · try simp (maxSteps := 9999999) only [go_sem, e0, e1, d0, d1, d2]
                repeat refine And.intro (by first|omega|(constructor<;>omega)|kernel_rfl) ?_
                refine CallW.mk (s2) ?_
                try simp (maxSteps := 9999999) only [go_sem]
                all_goals first | omega | (simp [q0, q1, h0, h1, h2]; done)
            · have d2 := decide_eq_false h2
              try simp (maxSteps := 9999999) only [go_sem, e0, e1, d0, d1, d2]
              by_cases h3 : z3 = 0
              · have d3 := decide_eq_true h3
                cases t3 : g3 <;> rw [t3] at s3
                · try simp (maxSteps := 9999999) only [go_sem, e0, e1, d0, d1, d2, d3]
                  repeat refine And.intro (by first|omega|(constructor<;>omega)|kernel_rfl) ?_
                  refine CallW.mk (s3) ?_
                  try simp (maxSteps := 9999999) only [go_sem]
                  all_goals first | omega | (simp [q0, q1, h0, h1, h2, h3]; done)
                · try simp (maxSteps := 9999999) only [go_sem, e0, e1, d0, d1, d2, d3]
                  repeat refine And.intro (by first|omega|(constructor<;>omega)|kernel_rfl) ?_
                  refine CallW.mk (s3) ?_
                  try simp (maxSteps := 9999999) only [go_sem]
                  all_goals first | omega | (simp [q0, q1, h0, h1, h2, h3]; done)
              · have d3 := decide_eq_false h3
                try simp (maxSteps := 9999999) only [go_sem, e0, e1, d0, d1, d2, d3]
                all_goals first | omega | (simp [q0, q1, h0, h1, h2, h3]; done)
        · try simp (maxSteps := 9999999) only [go_sem, e0, e1, d0]
          repeat refine And.intro (by first|omega|(constructor<;>omega)|kernel_rfl) ?_
          refine CallW.mk (s0) ?_
          try simp (maxSteps := 9999999) only [go_sem]
          all_goals first | omega | (simp [q0, q1, h0]; done)
      · have d0 := decide_eq_false h0
        try simp (maxSteps := 9999999) only [go_sem, e0, e1, d0]
        by_cases h1 : z1 = 0
        · have d1 := decide_eq_true h1
          cases t1 : g1 <;> rw [t1] at s1
          · try simp (maxSteps := 9999999) only [go_sem, e0, e1, d0, d1]
            repeat refine And.intro (by first|omega|(constructor<;>omega)|kernel_rfl) ?_
            refine CallW.mk (s1) ?_
            try simp (maxSteps := 9999999) only [go_sem]
            by_cases h2 : z2 = 0
            · have d2 := decide_eq_true h2
              cases t2 : g2 <;> rw [t2] at s2
              · try simp (maxSteps := 9999999) only [go_sem, e0, e1, d0, d1, d2]
                repeat refine And.intro (by first|omega|(constructor<;>omega)|kernel_rfl) ?_
                refine CallW.mk (s2) ?_
                try simp (maxSteps := 9999999) only [go_sem]
                by_cases h3 : z3 = 0
                · have d3 := decide_eq_true h3
                  cases t3 : g3 <;> rw [t3] at s3
                  · try simp (maxSteps := 9999999) only [go_sem, e0, e1, d0, d1, d2, d3]
                    repeat refine And.intro (by first|omega|(constructor<;>omega)|kernel_rfl) ?_
                    refine CallW.mk (s3) ?_
                    try simp (maxSteps := 9999999) only [go_sem]
                    all_goals first | omega | (simp [q0, q1, h0, h1, h2, h3]; done)
                  · try simp (maxSteps := 9999999) only [go_sem, e0, e1, d0, d1, d2, d3]
                    repeat refine And.intro (by first|omega|(constructor<;>omega)|kernel_rfl) ?_
                    refine CallW.mk (s3) ?_
                    try simp (maxSteps := 9999999) only [go_sem]
                    all_goals first | omega | (simp [q0, q1, h0, h1, h2, h3]; done)
                · have d3 := decide_eq_false h3
                  try simp (maxSteps := 9999999) only [go_sem, e0, e1, d0, d1, d2, d3]
                  all_goals first | omega | (simp [q0, q1, h0, h1, h2, h3]; done)
              · try simp (maxSteps := 9999999) only [go_sem, e0, e1, d0, d1, d2]
                repeat refine And.intro (by first|omega|(constructor<;>omega)|kernel_rfl) ?_
                refine CallW.mk (s2) ?_
                try simp (maxSteps := 9999999) only [go_sem]
                all_goals first | omega | (simp [q0, q1, h0, h1, h2]; done)
            · have d2 := decide_eq_false h2
              try simp (maxSteps := 9999999) only [go_sem, e0, e1, d0, d1, d2]
              by_cases h3 : z3 = 0
              · have d3 := decide_eq_true h3
                cases t3 : g3 <;> rw [t3] at s3
                · try simp (maxSteps := 9999999) only [go_sem, e0, e1, d0, d1, d2, d3]
                  repeat refine And.intro (by first|omega|(constructor<;>omega)|kernel_rfl) ?_
                  refine CallW.mk (s3) ?_
                  try simp (maxSteps := 9999999) only [go_sem]
                  all_goals first | omega | (simp [q0, q1, h0, h1, h2, h3]; done)
                · try simp (maxSteps := 9999999) only [go_sem, e0, e1, d0, d1, d2, d3]
                  repeat refine And.intro (by first|omega|(constructor<;>omega)|kernel_rfl) ?_
                  refine CallW.mk (s3) ?_
                  try simp (maxSteps := 9999999) only [go_sem]
                  all_goals first | omega | (simp [q0, q1, h0, h1, h2, h3]; done)
              · have d3 := decide_eq_false h3
                try simp (maxSteps := 9999999) only [go_sem, e0, e1, d0, d1, d2, d3]
                all_goals first | omega | (simp [q0, q1, h0, h1, h2, h3]; done)
          · try simp (maxSteps := 9999999) only [go_sem, e0, e1, d0, d1]
            repeat refine And.intro (by first|omega|(constructor<;>omega)|kernel_rfl) ?_
            refine CallW.mk (s1) ?_
            try simp (maxSteps := 9999999) only [go_sem]
            all_goals first | omega | (simp [q0, q1, h0, h1]; done)
        · have d1 := decide_eq_false h1
          try simp (maxSteps := 9999999) only [go_sem, e0, e1, d0, d1]
          by_cases h2 : z2 = 0
          · have d2 := decide_eq_true h2
            cases t2 : g2 <;> rw [t2] at s2
            · try simp (maxSteps := 9999999) only [go_sem, e0, e1, d0, d1, d2]
              repeat refine And.intro (by first|omega|(constructor<;>omega)|kernel_rfl) ?_
              refine CallW.mk (s2) ?_
              try simp (maxSteps := 9999999) only [go_sem]
              by_cases h3 : z3 = 0
              · have d3 := decide_eq_true h3
                cases t3 : g3 <;> rw [t3] at s3
                · try simp (maxSteps := 9999999) only [go_sem, e0, e1, d0, d1, d2, d3]
                  repeat refine And.intro (by first|omega|(constructor<;>omega)|kernel_rfl) ?_
                  refine CallW.mk (s3) ?_
                  try simp (maxSteps := 9999999) only [go_sem]
                  all_goals first | omega | (simp [q0, q1, h0, h1, h2, h3]; done)
                · try simp (maxSteps := 9999999) only [go_sem, e0, e1, d0, d1, d2, d3]
                  repeat refine And.intro (by first|omega|(constructor<;>omega)|kernel_rfl) ?_
                  refine CallW.mk (s3) ?_
                  try simp (maxSteps := 9999999) only [go_sem]
                  all_goals first | omega | (simp [q0, q1, h0, h1, h2, h3]; done)
              · have d3 := decide_eq_false h3
                try simp (maxSteps := 9999999) only [go_sem, e0, e1, d0, d1, d2, d3]
                all_goals first | omega | (simp [q0, q1, h0, h1, h2, h3]; done)
            · try simp (maxSteps := 9999999) only [go_sem, e0, e1, d0, d1, d2]
              repeat refine And.intro (by first|omega|(constructor<;>omega)|kernel_rfl) ?_
              refine CallW.mk (s2) ?_
              try simp (maxSteps := 9999999) only [go_sem]
              all_goals first | omega | (simp [q0, q1, h0, h1, h2]; done)
          · have d2 := decide_eq_false h2
            try simp (maxSteps := 9999999) only [go_sem, e0, e1, d0, d1, d2]
            by_cases h3 : z3 = 0
            · have d3 := decide_eq_true h3
              cases t3 : g3 <;> rw [t3] at s3
              · try simp (maxSteps := 9999999) only [go_sem, e0, e1, d0, d1, d2, d3]
                repeat refine And.intro (by first|omega|(constructor<;>omega)|kernel_rfl) ?_
                refine CallW.mk (s3) ?_
                try simp (maxSteps := 9999999) only [go_sem]
                all_goals first | omega | (simp [q0, q1, h0, h1, h2, h3]; done)
              · try simp (maxSteps := 9999999) only [go_sem, e0, e1, d0, d1, d2, d3]
                repeat refine And.intro (by first|omega|(constructor<;>omega)|kernel_rfl) ?_
                refine CallW.mk (s3) ?_
                try simp (maxSteps := 9999999) only [go_sem]
                all_goals first | omega | (simp [q0, q1, h0, h1, h2, h3]; done)
            · have d3 := decide_eq_false h3
              try simp (maxSteps := 9999999) only [go_sem, e0, e1, d0, d1, d2, d3]
              all_goals first | omega | (simp [q0, q1, h0, h1, h2, h3]; done)
  · have e0 := decide_eq_false q0
    try simp (maxSteps := 9999999) only [go_sem, e0]
    repeat refine And.intro (by first|omega|(constructor<;>omega)|kernel_rfl) ?_
    by_cases h0 : z0 = 0
    · have d0 := decide_eq_true h0
      cases t0 : g0 <;> rw [t0] at s0
      · try simp (maxSteps := 9999999) only [go_sem, e0, d0]
        repeat refine And.intro (by first|omega|(constructor<;>omega)|kernel_rfl) ?_
        refine CallW.mk (s0) ?_
        try simp (maxSteps := 9999999) only [go_sem]
        by_cases h1 : z1 = 0
        · have d1 := decide_eq_true h1
          cases t1 : g1 <;> rw [t1] at s1
          · try simp (maxSteps := 9999999) only [go_sem, e0, d0, d1]
            repeat refine And.intro (by first|omega|(constructor<;>omega)|kernel_rfl) ?_
            refine CallW.mk (s1) ?_
            try simp (maxSteps := 9999999) only [go_sem]
            by_cases h2 : z2 = 0
            · have d2 := decide_eq_true h2
              cases t2 : g2 <;> rw [t2] at s2
              · try simp (maxSteps := 9999999) only [go_sem, e0, d0, d1, d2]
                repeat refine And.intro (by first|omega|(constructor<;>omega)|kernel_rfl) ?_
                refine CallW.mk (s2) ?_
                try simp (maxSteps := 9999999) only [go_sem]
                by_cases h3 : z3 = 0
                · have d3 := decide_eq_true h3
                  cases t3 : g3 <;> rw [t3] at s3
                  · try simp (maxSteps := 9999999) only [go_sem, e0, d0, d1, d2, d3]
                    repeat refine And.intro (by first|omega|(constructor<;>omega)|kernel_rfl) ?_
                    refine CallW.mk (s3) ?_
                    try simp (maxSteps := 9999999) only [go_sem]
                    all_goals first | omega | (simp [q0, h0, h1, h2, h3]; done)
                  · try simp (maxSteps := 9999999) only [go_sem, e0, d0, d1, d2, d3]
                    repeat refine And.intro (by first|omega|(constructor<;>omega)|kernel_rfl) ?_
                    refine CallW.mk (s3) ?_
                    try simp (maxSteps := 9999999) only [go_sem]
                    all_goals first | omega | (simp [q0, h0, h1, h2, h3]; done)
                · have d3 := decide_eq_false h3
                  try simp (maxSteps := 9999999) only [go_sem, e0, d0, d1, d2, d3]
                  all_goals first | omega | (simp [q0, h0, h1, h2, h3]; done)
              · try simp (maxSteps := 9999999) only [go_sem, e0, d0, d1, d2]
                repeat refine And.intro (by first|omega|(constructor<;>omega)|kernel_rfl) ?_
                refine CallW.mk (s2) ?_
                try simp (maxSteps := 9999999) only [go_sem]
                all_goals first | omega | (simp [q0, h0, h1, h2]; done)
            · have d2 := decide_eq_false h2
              try simp (maxSteps := 9999999) only [go_sem, e0, d0, d1, d2]
              by_cases h3 : z3 = 0
              · have d3 := decide_eq_true h3
                cases t3 : g3 <;> rw [t3] at s3
                · try simp (maxSteps := 9999999) only [go_sem, e0, d0, d1, d2, d3]
                  repeat refine And.intro (by first|omega|(constructor<;>omega)|kernel_rfl) ?_
                  refine CallW.mk (s3) ?_
                  try simp (maxSteps := 9999999) only [go_sem]
                  all_goals first | omega | (simp [q0, h0, h1, h2, h3]; done)
                · try simp (maxSteps := 9999999) only [go_sem, e0, d0, d1, d2, d3]
                  repeat refine And.intro (by first|omega|(constructor<;>omega)|kernel_rfl) ?_
                  refine CallW.mk (s3) ?_
                  try simp (maxSteps := 9999999) only [go_sem]
                  all_goals first | omega | (simp [q0, h0, h1, h2, h3]; done)
              · have d3 := decide_eq_false h3
                try simp (maxSteps := 9999999) only [go_sem, e0, d0, d1, d2, d3]
                all_goals first | omega | (simp [q0, h0, h1, h2, h3]; done)
          · try simp (maxSteps := 9999999) only [go_sem, e0, d0, d1]
            repeat refine And.intro (by first|omega|(constructor<;>omega)|kernel_rfl) ?_
            refine CallW.mk (s1) ?_
            try simp (maxSteps := 9999999) only [go_sem]
            all_goals first | omega | (simp [q0, h0, h1]; done)
        · have d1 := decide_eq_false h1
          try simp (maxSteps := 9999999) only [go_sem, e0, d0, d1]
          by_cases h2 : z2 = 0
          · have d2 := decide_eq_true h2
            cases t2 : g2 <;> rw [t2] at s2
            · try simp (maxSteps := 9999999) only [go_sem, e0, d0, d1, d2]
              repeat refine And.intro (by first|omega|(constructor<;>omega)|kernel_rfl) ?_
              refine CallW.mk (s2) ?_
              try simp (maxSteps := 9999999) only [go_sem]
              by_cases h3 : z3 = 0
              · have d3 := decide_eq_true h3
                cases t3 : g3 <;> rw [t3] at s3
                · try simp (maxSteps := 9999999) only [go_sem, e0, d0, d1, d2, d3]
                  repeat refine And.intro (by first|omega|(constructor<;>omega)|kernel_rfl) ?_
                  refine CallW.mk (s3) ?_
                  try simp (maxSteps := 9999999) only [go_sem]
                  all_goals first | omega | (simp [q0, h0, h1, h2, h3]; done)
                · try simp (maxSteps := 9999999) only [go_sem, e0, d0, d1, d2, d3]
                  repeat refine And.intro (by first|omega|(constructor<;>omega)|kernel_rfl) ?_
                  refine CallW.mk (s3) ?_
                  try simp (maxSteps := 9999999) only [go_sem]
                  all_goals first | omega | (simp [q0, h0, h1, h2, h3]; done)
              · have d3 := decide_eq_false h3
                try simp (maxSteps := 9999999) only [go_sem, e0, d0, d1, d2, d3]
                all_goals first | omega | (simp [q0, h0, h1, h2, h3]; done)
            · try simp (maxSteps := 9999999) only [go_sem, e0, d0, d1, d2]
              repeat refine And.intro (by first|omega|(constructor<;>omega)|kernel_rfl) ?_
              refine CallW.mk (s2) ?_
              try simp (maxSteps := 9999999) only [go_sem]
              all_goals first | omega | (simp [q0, h0, h1, h2]; done)
          · have d2 := decide_eq_false h2
            try simp (maxSteps := 9999999) only [go_sem, e0, d0, d1, d2]
            by_cases h3 : z3 = 0
            · have d3 := decide_eq_true h3
              cases t3 : g3 <;> rw [t3] at s3
              · try simp (maxSteps := 9999999) only [go_sem, e0, d0, d1, d2, d3]
                repeat refine And.intro (by first|omega|(constructor<;>omega)|kernel_rfl) ?_
                refine CallW.mk (s3) ?_
                try simp (maxSteps := 9999999) only [go_sem]
                all_goals first | omega | (simp [q0, h0, h1, h2, h3]; done)
              · try simp (maxSteps := 9999999) only [go_sem, e0, d0, d1, d2, d3]
                repeat refine And.intro (by first|omega|(constructor<;>omega)|kernel_rfl) ?_
                refine CallW.mk (s3) ?_
                try simp (maxSteps := 9999999) only [go_sem]
                all_goals first | omega | (simp [q0, h0, h1, h2, h3]; done)
            · have d3 := decide_eq_false h3
              try simp (maxSteps := 9999999) only [go_sem, e0, d0, d1, d2, d3]
              all_goals first | omega | (simp [q0, h0, h1, h2, h3]; done)
      · try simp (maxSteps := 9999999) only [go_sem, e0, d0]
        repeat refine And.intro (by first|omega|(constructor<;>omega)|kernel_rfl) ?_
        refine CallW.mk (s0) ?_
        try simp (maxSteps := 9999999) only [go_sem]
        all_goals first | omega | (simp [q0, h0]; done)
    · have d0 := decide_eq_false h0
      try simp (maxSteps := 9999999) only [go_sem, e0, d0]
      by_cases h1 : z1 = 0
      · have d1 := decide_eq_true h1
        cases t1 : g1 <;> rw [t1] at s1
        · try simp (maxSteps := 9999999) only [go_sem, e0, d0, d1]
          repeat refine And.intro (by first|omega|(constructor<;>omega)|kernel_rfl) ?_
          refine CallW.mk (s1) ?_
          try simp (maxSteps := 9999999) only [go_sem]
          by_cases h2 : z2 = 0
          · have d2 := decide_eq_true h2
            cases t2 : g2 <;> rw [t2] at s2
            · try simp (maxSteps := 9999999) only [go_sem, e0, d0, d1, d2]
              repeat refine And.intro (by first|omega|(constructor<;>omega)|kernel_rfl) ?_
              refine CallW.mk (s2) ?_
              try simp (maxSteps := 9999999) only [go_sem]
              by_cases h3 : z3 = 0
              · have d3 := decide_eq_true h3
                cases t3 : g3 <;> rw [t3] at s3
                · try simp (maxSteps := 9999999) only [go_sem, e0, d0, d1, d2, d3]
                  repeat refine And.intro (by first|omega|(constructor<;>omega)|kernel_rfl) ?_
                  refine CallW.mk (s3) ?_
                  try simp (maxSteps := 9999999) only [go_sem]
                  all_goals first | omega | (simp [q0, h0, h1, h2, h3]; done)
                · try simp (maxSteps := 9999999) only [go_sem, e0, d0, d1, d2, d3]
                  repeat refine And.intro (by first|omega|(constructor<;>omega)|kernel_rfl) ?_
                  refine CallW.mk (s3) ?_
                  try simp (maxSteps := 9999999) only [go_sem]
                  all_goals first | omega | (simp [q0, h0, h1, h2, h3]; done)
              · have d3 := decide_eq_false h3
                try simp (maxSteps := 9999999) only [go_sem, e0, d0, d1, d2, d3]
                all_goals first | omega | (simp [q0, h0, h1, h2, h3]; done)
            · try simp (maxSteps := 9999999) only [go_sem, e0, d0, d1, d2]
              repeat refine And.intro (by first|omega|(constructor<;>omega)|kernel_rfl) ?_
              refine CallW.mk (s2) ?_
              try simp (maxSteps := 9999999) only [go_sem]
              all_goals first | omega | (simp [q0, h0, h1, h2]; done)
          · have d2 := decide_eq_false h2
            try simp (maxSteps := 9999999) only [go_sem, e0, d0, d1, d2]
            by_cases h3 : z3 = 0
            · have d3 := decide_eq_true h3
              cases t3 : g3 <;> rw [t3] at s3
              · try simp (maxSteps := 9999999) only [go_sem, e0, d0, d1, d2, d3]
                repeat refine And.intro (by first|omega|(constructor<;>omega)|kernel_rfl) ?_
                refine CallW.mk (s3) ?_
                try simp (maxSteps := 9999999) only [go_sem]
                all_goals first | omega | (simp [q0, h0, h1, h2, h3]; done)
              · try simp (maxSteps := 9999999) only [go_sem, e0, d0, d1, d2, d3]
                repeat refine And.intro (by first|omega|(constructor<;>omega)|kernel_rfl) ?_
                refine CallW.mk (s3) ?_
                try simp (maxSteps := 9999999) only [go_sem]
                all_goals first | omega | (simp [q0, h0, h1, h2, h3]; done)
            · have d3 := decide_eq_false h3
              try simp (maxSteps := 9999999) only [go_sem, e0, d0, d1, d2, d3]
              all_goals first | omega | (simp [q0, h0, h1, h2, h3]; done)
        · try simp (maxSteps := 9999999) only [go_sem, e0, d0, d1]
          repeat refine And.intro (by first|omega|(constructor<;>omega)|kernel_rfl) ?_
          refine CallW.mk (s1) ?_
          try simp (maxSteps := 9999999) only [go_sem]
          all_goals first | omega | (simp [q0, h0, h1]; done)
      · have d1 := decide_eq_false h1
        try simp (maxSteps := 9999999) only [go_sem, e0, d0, d1]
        by_cases h2 : z2 = 0
        · have d2 := decide_eq_true h2
          cases t2 : g2 <;> rw [t2] at s2
          · try simp (maxSteps := 9999999) only [go_sem, e0, d0, d1, d2]
            repeat refine And.intro (by first|omega|(constructor<;>omega)|kernel_rfl) ?_
            refine CallW.mk (s2) ?_
            try simp (maxSteps := 9999999) only [go_sem]
            by_cases h3 : z3 = 0
            · have d3 := decide_eq_true h3
              cases t3 : g3 <;> rw [t3] at s3
              · try simp (maxSteps := 9999999) only [go_sem, e0, d0, d1, d2, d3]
                repeat refine And.intro (by first|omega|(constructor<;>omega)|kernel_rfl) ?_
                refine CallW.mk (s3) ?_
                try simp (maxSteps := 9999999) only [go_sem]
                all_goals first | omega | (simp [q0, h0, h1, h2, h3]; done)
              · try simp (maxSteps := 9999999) only [go_sem, e0, d0, d1, d2, d3]
                repeat refine And.intro (by first|omega|(constructor<;>omega)|kernel_rfl) ?_
                refine CallW.mk (s3) ?_
                try simp (maxSteps := 9999999) only [go_sem]
                all_goals first | omega | (simp [q0, h0, h1, h2, h3]; done)
            · have d3 := decide_eq_false h3
              try simp (maxSteps := 9999999) only [go_sem, e0, d0, d1, d2, d3]
              all_goals first | omega | (simp [q0, h0, h1, h2, h3]; done)
          · try simp (maxSteps := 9999999) only [go_sem, e0, d0, d1, d2]
            repeat refine And.intro (by first|omega|(constructor<;>omega)|kernel_rfl) ?_
            refine CallW.mk (s2) ?_
            try simp (maxSteps := 9999999) only [go_sem]
            all_goals first | omega | (simp [q0, h0, h1, h2]; done)
        · have d2 := decide_eq_false h2
          try simp (maxSteps := 9999999) only [go_sem, e0, d0, d1, d2]
          by_cases h3 : z3 = 0
          · have d3 := decide_eq_true h3
            cases t3 : g3 <;> rw [t3] at s3
            · try simp (maxSteps := 9999999) only [go_sem, e0, d0, d1, d2, d3]
              repeat refine And.intro (by first|omega|(constructor<;>omega)|kernel_rfl) ?_
              refine CallW.mk (s3) ?_
              try simp (maxSteps := 9999999) only [go_sem]
              all_goals first | omega | (simp [q0, h0, h1, h2, h3]; done)
            · try simp (maxSteps := 9999999) only [go_sem, e0, d0, d1, d2, d3]
              repeat refine And.intro (by first|omega|(constructor<;>omega)|kernel_rfl) ?_
              refine CallW.mk (s3) ?_
              try simp (maxSteps := 9999999) only [go_sem]
              all_goals first | omega | (simp [q0, h0, h1, h2, h3]; done)
          · have d3 := decide_eq_false h3
            try simp (maxSteps := 9999999) only [go_sem, e0, d0, d1, d2, d3]
            all_goals first | omega | (simp [q0, h0, h1, h2, h3]; done)
end Go.Proofs.YtghckbohaghgkaaGreat.DW

/-
  Segments and polygons.
-/
namespace Go.Proofs.YtghckbohaghgkaaGreat.DW
open Go.RowKit
/-- Does the segment meet one of the first i edges? -/
noncomputable def smI_ (l : List DV) (p q : DP) (i : Nat) : Bool := meetB p q (ptV (nth (t := tVec) l i)) (ptV (nth (t := tVec) l (nxt l.length i).toNat))
def smAny (l : List DV) (p q : DP) : Prop := ∃ i, i < l.length ∧ smI_ l p q i = true
noncomputable def segB (l : List DV) (p q : DP) : Bool := decide (cntI l p l.length ≥ 0) || (decide (cntI l q l.length ≥ 0) || bdec (smAny l p q))
theorem segmentMeets_fn (l : List DV) (p q : DP) (hl : polyP l) (hp : okPt p = true) (hq : okPt q = true) : Fn Tryz.prog 153 [⟨.slice tVec, l⟩, ⟨tPoint, p⟩, ⟨tPoint, q⟩] false [⟨.bool, segB l p q⟩] := by
  have h3 : 3 ≤ l.length := by have := hl.1.1; omega
  have hn : l.length ≤ 1048576 := by have := hl.1.2; omega
  have c1 := contains_fn l p hl.2.1 hn hp
  have c2 := contains_fn l q hl.2.1 hn hq
  have c3 := pointsOf_fn l hn
  have hml : (l.map ptV).length = l.length := List.length_map ..
  have ptok : ∀ i, i < l.length → okPt (ptV (nth (t := tVec) l i)) = true := fun i hi => okPt_ptV (hl.2.1 _ (nth_mem hi))
  unfold segB
  by_cases h1 : cntI l p l.length ≥ 0
  · have d1 := decide_eq_true h1
    rw [d1]
    refine fn_enter tabOK mixes Tryz.func153 rfl rfl _ Tryz.ntmps153 _ Tryz.results153 (by simp) fun hwf => ?_
    try simp (maxSteps := 9999999) only [go_sem]
    repeat refine And.intro (by first|omega|(constructor<;>omega)|kernel_rfl) ?_
    refine CallW.mk (c1) ?_
    try simp (maxSteps := 9999999) only [go_sem]
    try simp (maxSteps := 9999999) only [go_sem, d1]
    all_goals repeat refine And.intro (by first|omega|(constructor<;>omega)|kernel_rfl) ?_
    all_goals first | kernel_rfl | omega | rfl
  · have d1 := decide_eq_false h1
    rw [d1]
    by_cases h2 : cntI l q l.length ≥ 0
    · have d2 := decide_eq_true h2
      rw [d2]
      refine fn_enter tabOK mixes Tryz.func153 rfl rfl _ Tryz.ntmps153 _ Tryz.results153 (by simp) fun hwf => ?_
      try simp (maxSteps := 9999999) only [go_sem]
      repeat refine And.intro (by first|omega|(constructor<;>omega)|kernel_rfl) ?_
      refine CallW.mk (c1) ?_
      try simp (maxSteps := 9999999) only [go_sem]
      try simp (maxSteps := 9999999) only [go_sem, d1]
      repeat refine And.intro (by first|omega|(constructor<;>omega)|kernel_rfl) ?_
      refine CallW.mk (c2) ?_
      try simp (maxSteps := 9999999) only [go_sem]
      try simp (maxSteps := 9999999) only [go_sem, d2]
      all_goals repeat refine And.intro (by first|omega|(constructor<;>omega)|kernel_rfl) ?_
      all_goals first | kernel_rfl | omega | rfl
    · have d2 := decide_eq_false h2
      rw [d2]
      refine fn_enter tabOK mixes Tryz.func153 rfl rfl _ Tryz.ntmps153 _ Tryz.results153 (by simp) fun hwf => ?_
      try simp (maxSteps := 9999999) only [go_sem]
      repeat refine And.intro (by first|omega|(constructor<;>omega)|kernel_rfl) ?_
      refine CallW.mk (c1) ?_
      try simp (maxSteps := 9999999) only [go_sem]
      try simp (maxSteps := 9999999) only [go_sem, d1]
      repeat refine And.intro (by first|omega|(constructor<;>omega)|kernel_rfl) ?_
      refine CallW.mk (c2) ?_
      try simp (maxSteps := 9999999) only [go_sem]
      try simp (maxSteps := 9999999) only [go_sem, d2]
      repeat refine And.intro (by first|omega|(constructor<;>omega)|kernel_rfl) ?_
      refine CallW.mk (c3) ?_
      try simp (maxSteps := 9999999) only [go_sem]
      try simp (maxSteps := 9999999) only [go_sem, hml]
      refine LoopG.intro _ _ _ (fun i : Nat => ⟨[(4, .ptr 0 0), (5, .ptr 1 0), (7, .sl tPoint (l.map ptV)), (22, .sl tPoint (l.map ptV)), (23, .sc (.int .i64 l.length)), (24, .sc (.int .i64 i))], [(1, .box (cel tPoint q)), (0, .box (cel tPoint p))]⟩) (fun i => ∀ j, j < i → j < l.length → smI_ l p q j = false) (fun i => l.length - i) 0 ?_ (fun j h => absurd h (Nat.not_lt_zero _)) ?_
      · refine Wk.mk [] ?_
        try simp (maxSteps := 9999999) only [go_sem]
        try (and_intros <;> first | rfl | omega | exact ⟨_, rfl⟩)
      · rintro i hi
        try simp (maxSteps := 9999999) only [go_sem]
        refine CondW_dec (fun hA => ?_) (fun hA => ?_)
        · have hlt : i < l.length := by omega
          have hr := nxt_rng (n := l.length) (i := i) (by omega)
          have hr2 : (nxt l.length i).toNat < l.length := by omega
          have c4 := meet_fn p q (ptV (nth (t := tVec) l i)) (ptV (nth (t := tVec) l (nxt l.length i).toNat)) hp hq (ptok _ (by omega)) (ptok _ hr2)
          rw [show meetB p q (ptV (nth (t := tVec) l i)) (ptV (nth (t := tVec) l (nxt l.length i).toNat)) = smI_ l p q i from rfl] at c4
          rw [← nth_ptV hlt, ← nth_ptV hr2] at c4
          unfold nxt at hr hr2 c4
          cases hs : smI_ l p q i <;> rw [hs] at c4
          · try simp (maxSteps := 9999999) only [go_sem, hml]
            repeat refine And.intro (by first|omega|(constructor<;>omega)|kernel_rfl) ?_
            refine RemW.pos (by omega) (by omega) ?_
            try simp (maxSteps := 9999999) only [go_sem, hml]
            repeat refine And.intro (by first|omega|(constructor<;>omega)|kernel_rfl) ?_
            refine CallW.mk (c4) ?_
            try simp (maxSteps := 9999999) only [go_sem]
            repeat refine And.intro (by first|omega|(constructor<;>omega)|kernel_rfl) ?_
            refine LoopK.mk (i + 1) ?_ (fun j h1 h2 => ?_) (by omega)
            · refine Wk.mk [] ?_
              try simp (maxSteps := 9999999) only [go_sem]
              try (and_intros <;> first | rfl | omega | exact ⟨_, rfl⟩)
            · by_cases h : j < i
              · exact hi j h h2
              · rw [show j = i by omega]; exact hs
          · have e : bdec (smAny l p q) = true := bdec_t ⟨i, hlt, hs⟩
            rw [e]
            try simp (maxSteps := 9999999) only [go_sem, hml]
            repeat refine And.intro (by first|omega|(constructor<;>omega)|kernel_rfl) ?_
            refine RemW.pos (by omega) (by omega) ?_
            try simp (maxSteps := 9999999) only [go_sem, hml]
            repeat refine And.intro (by first|omega|(constructor<;>omega)|kernel_rfl) ?_
            refine CallW.mk (c4) ?_
            try simp (maxSteps := 9999999) only [go_sem]
            all_goals repeat refine And.intro (by first|omega|(constructor<;>omega)|kernel_rfl) ?_
            all_goals first | kernel_rfl | omega | rfl
        · have e : bdec (smAny l p q) = false := bdec_f (by rintro ⟨j, h1, h2⟩; rw [hi j (by omega) h1] at h2; cases h2)
          rw [e]
          try simp (maxSteps := 9999999) only [go_sem]
          all_goals repeat refine And.intro (by first|omega|(constructor<;>omega)|kernel_rfl) ?_
          all_goals first | kernel_rfl | omega | rfl
noncomputable def sgmB (l : List DV) (p q : DP) : Bool := okPt p && (okPt q && segB l p q)
theorem SegmentMeetsI_fn (l : List DV) (p q : DP) (hl : polyP l) : Fn Tryz.prog 109 [⟨.slice tVec, l⟩, ⟨tPoint, p⟩, ⟨tPoint, q⟩] false [⟨.bool, sgmB l p q⟩] := by
  have c0 := implIsPolygon_fn l
  rw [polyB_t hl] at c0
  have c1 := arePoints2_fn p q
  unfold sgmB
  cases hp : okPt p <;> rw [hp] at c1
  · refine fn_enter tabOK mixes Tryz.func109 rfl rfl _ Tryz.ntmps109 _ Tryz.results109 (by simp) fun hwf => ?_
    try simp (maxSteps := 9999999) only [go_sem]
    repeat refine And.intro (by first|omega|(constructor<;>omega)|kernel_rfl) ?_
    refine CallW.mk (c0) ?_
    try simp (maxSteps := 9999999) only [go_sem]
    repeat refine And.intro (by first|omega|(constructor<;>omega)|kernel_rfl) ?_
    refine CallW.mk (c1) ?_
    try simp (maxSteps := 9999999) only [go_sem]
    all_goals repeat refine And.intro (by first|omega|(constructor<;>omega)|kernel_rfl) ?_
    all_goals first | kernel_rfl | omega | rfl
  · cases hq : okPt q <;> rw [hq] at c1
    · refine fn_enter tabOK mixes Tryz.func109 rfl rfl _ Tryz.ntmps109 _ Tryz.results109 (by simp) fun hwf => ?_
      try simp (maxSteps := 9999999) only [go_sem]
      repeat refine And.intro (by first|omega|(constructor<;>omega)|kernel_rfl) ?_
      refine CallW.mk (c0) ?_
      try simp (maxSteps := 9999999) only [go_sem]
      repeat refine And.intro (by first|omega|(constructor<;>omega)|kernel_rfl) ?_
      refine CallW.mk (c1) ?_
      try simp (maxSteps := 9999999) only [go_sem]
      all_goals repeat refine And.intro (by first|omega|(constructor<;>omega)|kernel_rfl) ?_
      all_goals first | kernel_rfl | omega | rfl
    · have c2 := segmentMeets_fn l p q hl hp hq
      refine fn_enter tabOK mixes Tryz.func109 rfl rfl _ Tryz.ntmps109 _ Tryz.results109 (by simp) fun hwf => ?_
      try simp (maxSteps := 9999999) only [go_sem]
      repeat refine And.intro (by first|omega|(constructor<;>omega)|kernel_rfl) ?_
      refine CallW.mk (c0) ?_
      try simp (maxSteps := 9999999) only [go_sem]
      repeat refine And.intro (by first|omega|(constructor<;>omega)|kernel_rfl) ?_
      refine CallW.mk (c1) ?_
      try simp (maxSteps := 9999999) only [go_sem]
      repeat refine And.intro (by first|omega|(constructor<;>omega)|kernel_rfl) ?_
      refine CallW.mk (c2) ?_
      try simp (maxSteps := 9999999) only [go_sem]
      all_goals repeat refine And.intro (by first|omega|(constructor<;>omega)|kernel_rfl) ?_
      all_goals first | kernel_rfl | omega | rfl
theorem SegmentMeetsS_fn (l : List DV) (p q : DP) (hl : polyP l) : Fn Tryz.prog 54 [⟨.slice tVec, l⟩, ⟨tPoint, p⟩, ⟨tPoint, q⟩] false [⟨.bool, sgmB l p q⟩] := by
  have h3 : 3 ≤ l.length := by have := hl.1.1; omega
  have hn : l.length ≤ 1048576 := by have := hl.1.2; omega
  have c0 := specIsPolygon_fn l
  rw [polyB_t hl] at c0
  have v1 := specIsValidPoint_fn p
  have v2 := specIsValidPoint_fn q
  have ptok : ∀ i, i < l.length → okPt (ptV (nth (t := tVec) l i)) = true := fun i hi => okPt_ptV (hl.2.1 _ (nth_mem hi))
  unfold sgmB
  cases hp : okPt p <;> rw [hp] at v1
  · refine fn_enter tabOK mixes Tryz.func54 rfl rfl _ Tryz.ntmps54 _ Tryz.results54 (by simp) fun hwf => ?_
    try simp (maxSteps := 9999999) only [go_sem]
    repeat refine And.intro (by first|omega|(constructor<;>omega)|kernel_rfl) ?_
    refine CallW.mk (c0) ?_
    try simp (maxSteps := 9999999) only [go_sem]
    repeat refine And.intro (by first|omega|(constructor<;>omega)|kernel_rfl) ?_
    refine CallW.mk (v1) ?_
    try simp (maxSteps := 9999999) only [go_sem]
    all_goals repeat refine And.intro (by first|omega|(constructor<;>omega)|kernel_rfl) ?_
    all_goals first | kernel_rfl | omega | rfl
  · cases hq : okPt q <;> rw [hq] at v2
    · refine fn_enter tabOK mixes Tryz.func54 rfl rfl _ Tryz.ntmps54 _ Tryz.results54 (by simp) fun hwf => ?_
      try simp (maxSteps := 9999999) only [go_sem]
      repeat refine And.intro (by first|omega|(constructor<;>omega)|kernel_rfl) ?_
      refine CallW.mk (c0) ?_
      try simp (maxSteps := 9999999) only [go_sem]
      repeat refine And.intro (by first|omega|(constructor<;>omega)|kernel_rfl) ?_
      refine CallW.mk (v1) ?_
      try simp (maxSteps := 9999999) only [go_sem]
      repeat refine And.intro (by first|omega|(constructor<;>omega)|kernel_rfl) ?_
      refine CallW.mk (v2) ?_
      try simp (maxSteps := 9999999) only [go_sem]
      all_goals repeat refine And.intro (by first|omega|(constructor<;>omega)|kernel_rfl) ?_
      all_goals first | kernel_rfl | omega | rfl
    · have c1 := ContainsS_fn l p hl
      have c2 := ContainsS_fn l q hl
      rw [show cpD l p = cntI l p l.length by unfold cpD; rw [hp, if_pos rfl]] at c1
      rw [show cpD l q = cntI l q l.length by unfold cpD; rw [hq, if_pos rfl]] at c2
      unfold segB
      by_cases h1 : cntI l p l.length ≥ 0
      · have d1 := decide_eq_true h1
        rw [d1]
        refine fn_enter tabOK mixes Tryz.func54 rfl rfl _ Tryz.ntmps54 _ Tryz.results54 (by simp) fun hwf => ?_
        try simp (maxSteps := 9999999) only [go_sem]
        repeat refine And.intro (by first|omega|(constructor<;>omega)|kernel_rfl) ?_
        refine CallW.mk (c0) ?_
        try simp (maxSteps := 9999999) only [go_sem]
        repeat refine And.intro (by first|omega|(constructor<;>omega)|kernel_rfl) ?_
        refine CallW.mk (v1) ?_
        try simp (maxSteps := 9999999) only [go_sem]
        repeat refine And.intro (by first|omega|(constructor<;>omega)|kernel_rfl) ?_
        refine CallW.mk (v2) ?_
        try simp (maxSteps := 9999999) only [go_sem]
        repeat refine And.intro (by first|omega|(constructor<;>omega)|kernel_rfl) ?_
        refine CallW.mk (c1) ?_
        try simp (maxSteps := 9999999) only [go_sem]
        try simp (maxSteps := 9999999) only [go_sem, d1]
        all_goals repeat refine And.intro (by first|omega|(constructor<;>omega)|kernel_rfl) ?_
        all_goals first | kernel_rfl | omega | rfl
      · have d1 := decide_eq_false h1
        rw [d1]
        by_cases h2 : cntI l q l.length ≥ 0
        · have d2 := decide_eq_true h2
          rw [d2]
          refine fn_enter tabOK mixes Tryz.func54 rfl rfl _ Tryz.ntmps54 _ Tryz.results54 (by simp) fun hwf => ?_
          try simp (maxSteps := 9999999) only [go_sem]
          repeat refine And.intro (by first|omega|(constructor<;>omega)|kernel_rfl) ?_
          refine CallW.mk (c0) ?_
          try simp (maxSteps := 9999999) only [go_sem]
          repeat refine And.intro (by first|omega|(constructor<;>omega)|kernel_rfl) ?_
          refine CallW.mk (v1) ?_
          try simp (maxSteps := 9999999) only [go_sem]
          repeat refine And.intro (by first|omega|(constructor<;>omega)|kernel_rfl) ?_
          refine CallW.mk (v2) ?_
          try simp (maxSteps := 9999999) only [go_sem]
          repeat refine And.intro (by first|omega|(constructor<;>omega)|kernel_rfl) ?_
          refine CallW.mk (c1) ?_
          try simp (maxSteps := 9999999) only [go_sem]
          try simp (maxSteps := 9999999) only [go_sem, d1]
          repeat refine And.intro (by first|omega|(constructor<;>omega)|kernel_rfl) ?_
          refine CallW.mk (c2) ?_
          try simp (maxSteps := 9999999) only [go_sem]
          try simp (maxSteps := 9999999) only [go_sem, d2]
          all_goals repeat refine And.intro (by first|omega|(constructor<;>omega)|kernel_rfl) ?_
          all_goals first | kernel_rfl | omega | rfl
        · have d2 := decide_eq_false h2
          rw [d2]
          refine fn_enter tabOK mixes Tryz.func54 rfl rfl _ Tryz.ntmps54 _ Tryz.results54 (by simp) fun hwf => ?_
          try simp (maxSteps := 9999999) only [go_sem]
          repeat refine And.intro (by first|omega|(constructor<;>omega)|kernel_rfl) ?_
          refine CallW.mk (c0) ?_
          try simp (maxSteps := 9999999) only [go_sem]
          repeat refine And.intro (by first|omega|(constructor<;>omega)|kernel_rfl) ?_
          refine CallW.mk (v1) ?_
          try simp (maxSteps := 9999999) only [go_sem]
          repeat refine And.intro (by first|omega|(constructor<;>omega)|kernel_rfl) ?_
          refine CallW.mk (v2) ?_
          try simp (maxSteps := 9999999) only [go_sem]
          repeat refine And.intro (by first|omega|(constructor<;>omega)|kernel_rfl) ?_
          refine CallW.mk (c1) ?_
          try simp (maxSteps := 9999999) only [go_sem]
          try simp (maxSteps := 9999999) only [go_sem, d1]
          repeat refine And.intro (by first|omega|(constructor<;>omega)|kernel_rfl) ?_
          refine CallW.mk (c2) ?_
          try simp (maxSteps := 9999999) only [go_sem]
          try simp (maxSteps := 9999999) only [go_sem, d2]
          refine LoopG.intro _ _ _ (fun i : Nat => ⟨[(0, .sl tVec l), (4, .ptr 0 0), (5, .ptr 1 0), (32, .sl tVec l), (33, .sc (.int .i64 l.length)), (34, .sc (.int .i64 i))], [(1, .box (cel tPoint q)), (0, .box (cel tPoint p))]⟩) (fun i => ∀ j, j < i → j < l.length → smI_ l p q j = false) (fun i => l.length - i) 0 ?_ (fun j h => absurd h (Nat.not_lt_zero _)) ?_
          · refine Wk.mk [] ?_
            try simp (maxSteps := 9999999) only [go_sem]
            try (and_intros <;> first | rfl | omega | exact ⟨_, rfl⟩)
          · rintro i hi
            try simp (maxSteps := 9999999) only [go_sem]
            refine CondW_dec (fun hA => ?_) (fun hA => ?_)
            · have hlt : i < l.length := by omega
              have hr := nxt_rng (n := l.length) (i := i) (by omega)
              have hr2 : (nxt l.length i).toNat < l.length := by omega
              have c3 := PointOfS_fn (nth (t := tVec) l i)
              have c4 := PointOfS_fn (nth (t := tVec) l (nxt l.length i).toNat)
              have c5 := SegmentsMeetS_fn (ptV (nth (t := tVec) l i)) (ptV (nth (t := tVec) l (nxt l.length i).toNat)) p q (ptok _ (by omega)) (ptok _ hr2) hp hq
              rw [meetB_swap p q, show meetB p q (ptV (nth (t := tVec) l i)) (ptV (nth (t := tVec) l (nxt l.length i).toNat)) = smI_ l p q i from rfl] at c5
              unfold nxt at hr hr2 c4 c5
              cases hs : smI_ l p q i <;> rw [hs] at c5
              · try simp (maxSteps := 9999999) only [go_sem]
                repeat refine And.intro (by first|omega|(constructor<;>omega)|kernel_rfl) ?_
                refine CallW.mk (c3) ?_
                try simp (maxSteps := 9999999) only [go_sem]
                repeat refine And.intro (by first|omega|(constructor<;>omega)|kernel_rfl) ?_
                refine RemW.pos (by omega) (by omega) ?_
                try simp (maxSteps := 9999999) only [go_sem]
                repeat refine And.intro (by first|omega|(constructor<;>omega)|kernel_rfl) ?_
                refine CallW.mk (c4) ?_
                try simp (maxSteps := 9999999) only [go_sem]
                repeat refine And.intro (by first|omega|(constructor<;>omega)|kernel_rfl) ?_
                refine CallW.mk (c5) ?_
                try simp (maxSteps := 9999999) only [go_sem]
                repeat refine And.intro (by first|omega|(constructor<;>omega)|kernel_rfl) ?_
                refine LoopK.mk (i + 1) ?_ (fun j h1 h2 => ?_) (by omega)
                · refine Wk.mk [] ?_
                  try simp (maxSteps := 9999999) only [go_sem]
                  try (and_intros <;> first | rfl | omega | exact ⟨_, rfl⟩)
                · by_cases h : j < i
                  · exact hi j h h2
                  · rw [show j = i by omega]; exact hs
              · have e : bdec (smAny l p q) = true := bdec_t ⟨i, hlt, hs⟩
                rw [e]
                try simp (maxSteps := 9999999) only [go_sem]
                repeat refine And.intro (by first|omega|(constructor<;>omega)|kernel_rfl) ?_
                refine CallW.mk (c3) ?_
                try simp (maxSteps := 9999999) only [go_sem]
                repeat refine And.intro (by first|omega|(constructor<;>omega)|kernel_rfl) ?_
                refine RemW.pos (by omega) (by omega) ?_
                try simp (maxSteps := 9999999) only [go_sem]
                repeat refine And.intro (by first|omega|(constructor<;>omega)|kernel_rfl) ?_
                refine CallW.mk (c4) ?_
                try simp (maxSteps := 9999999) only [go_sem]
                repeat refine And.intro (by first|omega|(constructor<;>omega)|kernel_rfl) ?_
                refine CallW.mk (c5) ?_
                try simp (maxSteps := 9999999) only [go_sem]
                all_goals repeat refine And.intro (by first|omega|(constructor<;>omega)|kernel_rfl) ?_
                all_goals first | kernel_rfl | omega | rfl
            · have e : bdec (smAny l p q) = false := bdec_f (by rintro ⟨j, h1, h2⟩; rw [hi j (by omega) h1] at h2; cases h2)
              rw [e]
              try simp (maxSteps := 9999999) only [go_sem]
              all_goals repeat refine And.intro (by first|omega|(constructor<;>omega)|kernel_rfl) ?_
              all_goals first | kernel_rfl | omega | rfl
end Go.Proofs.YtghckbohaghgkaaGreat.DW

/-
  Tours: stands.
-/
namespace Go.Proofs.YtghckbohaghgkaaGreat.DW
open Go.RowKit
theorem l05Copy_fn (p : DP) (h : okPt p = true) : Fn Tryz.prog 113 [⟨tPoint, p⟩] true [⟨tPoint, p⟩] := by
  unfold okPt at h
  rw [Bool.and_eq_true] at h
  have h1 := okR_len h.1
  have h2 := okR_len h.2
  have c1 := l04Copy_fn p.1 (by omega) (by omega)
  have c2 := l04Copy_fn p.2 (by omega) (by omega)
  refine fn_enter tabOK mixes Tryz.func113 rfl rfl _ Tryz.ntmps113 _ Tryz.results113 (by simp) fun hwf => ?_
  try simp (maxSteps := 9999999) only [go_sem]
  repeat refine And.intro (by first|omega|(constructor<;>omega)|kernel_rfl) ?_
  refine CallW.mk (c1) ?_
  try simp (maxSteps := 9999999) only [go_sem]
  repeat refine And.intro (by first|omega|(constructor<;>omega)|kernel_rfl) ?_
  refine CallW.mk (c2) ?_
  try simp (maxSteps := 9999999) only [go_sem]
  all_goals repeat refine And.intro (by first|omega|(constructor<;>omega)|kernel_rfl) ?_
  all_goals first | kernel_rfl | omega | rfl
/-- How many steps are taken. -/
def clip (k : Int) (n : Nat) : Nat := (max 0 (min k (n : Int))).toNat
theorem after_fn (p : DS) (l : List DS) (k : Int) : Fn Tryz.prog 121 [⟨tStep, p⟩, ⟨.slice tStep, l⟩, ⟨.int, k⟩] false [⟨tStep, plcS p l (clip k l.length)⟩] := by
  unfold plcS clip
  refine fn_enter tabOK mixes Tryz.func121 rfl rfl _ Tryz.ntmps121 _ Tryz.results121 (by simp) fun hwf => ?_
  have hl : l.length ≤ 9223372036854775807 := (hwf ⟨.slice tStep, l⟩ (by simp)).1
  try simp (maxSteps := 9999999) only [go_sem]
  have hml : (List.take (max 0 (min k ↑l.length)).toNat l).length ≤ 9223372036854775807 := by rw [List.length_take]; omega
  generalize List.take (max 0 (min k ↑l.length)).toNat l = m at hml ⊢
  repeat refine And.intro (by first|omega|(constructor<;>omega)|kernel_rfl) ?_
  refine LoopG.intro _ _ _ (fun i : Nat => ⟨[(3, .ptr 0 0), (6, .ptr 1 0), (15, .sl tStep m), (16, .sc (.int .i64 m.length)), (17, .sc (.int .i64 i))], [(1, .box [.sc (.int .i64 0), .sc (.bool false), .sc (.slice none 0 0), .sc (.slice none 0 0), .sc (.bool false), .sc (.slice none 0 0), .sc (.slice none 0 0)]), (0, .box [.sc (.int .i64 (plcS p m i).1), .sc (.bool (plcS p m i).2.1.1.1), .sl .int (plcS p m i).2.1.1.2, .sl .int (plcS p m i).2.1.2, .sc (.bool (plcS p m i).2.2.1.1), .sl .int (plcS p m i).2.2.1.2, .sl .int (plcS p m i).2.2.2])]⟩) (fun i => i ≤ m.length) (fun i => m.length - i) 0 ?_ (Nat.zero_le _) ?_
  · refine Wk.mk [] ?_
    try simp (maxSteps := 9999999) only [go_sem]
    try (and_intros <;> first | rfl | omega | exact ⟨_, rfl⟩)
  · rintro i hi
    try simp (maxSteps := 9999999) only [go_sem]
    refine CondW_dec (fun hA => ?_) (fun hA => ?_)
    · have hst := plcS_step p (show i < m.length by omega)
      have c1 := stepped_fn (plcS p m i) (nth (t := tStep) m i)
      try simp (maxSteps := 9999999) only [go_sem]
      repeat refine And.intro (by first|omega|(constructor<;>omega)|kernel_rfl) ?_
      refine CallW.mk (c1) ?_
      try simp (maxSteps := 9999999) only [go_sem]
      repeat refine And.intro (by first|omega|(constructor<;>omega)|kernel_rfl) ?_
      refine LoopK.mk (i + 1) ?_ (by omega) (by omega)
      rw [hst]
      refine Wk.mk [] ?_
      try simp (maxSteps := 9999999) only [go_sem]
      try (and_intros <;> first | rfl | omega | exact ⟨_, rfl⟩)
    · have : plcF p m = plcS p m i := by unfold plcS; rw [List.take_of_length_le (by omega)]
      rw [this]
      try simp (maxSteps := 9999999) only [go_sem]
      all_goals repeat refine And.intro (by first|omega|(constructor<;>omega)|kernel_rfl) ?_
      all_goals first | kernel_rfl | omega | rfl
theorem PlacementAfter_fn (p : DS) (l : List DS) (k : Int) (h : okPt (plcS p l (clip k l.length)).2 = true) : Fn Tryz.prog 69 [⟨tStep, p⟩, ⟨.slice tStep, l⟩, ⟨.int, k⟩] true [⟨tStep, plcS p l (clip k l.length)⟩] := by
  have c2 := l05Copy_fn _ h
  refine fn_enter tabOK mixes Tryz.func69 rfl rfl _ Tryz.ntmps69 _ Tryz.results69 (by simp) fun hwf => ?_
  have hl : l.length ≤ 9223372036854775807 := (hwf ⟨.slice tStep, l⟩ (by simp)).1
  try simp (maxSteps := 9999999) only [go_sem]
  refine LoopG.intro _ _ _ (fun i : Nat => ⟨[(2, .sc (.int .i64 k)), (3, .ptr 0 0), (6, .ptr 1 0), (9, .sl tStep l), (10, .sc (.int .i64 l.length)), (11, .sc (.int .i64 i))], [(1, .box [.sc (.int .i64 0), .sc (.bool false), .sc (.slice none 0 0), .sc (.slice none 0 0), .sc (.bool false), .sc (.slice none 0 0), .sc (.slice none 0 0)]), (0, .box [.sc (.int .i64 (plcS p l (clip k i)).1), .sc (.bool (plcS p l (clip k i)).2.1.1.1), .sl .int (plcS p l (clip k i)).2.1.1.2, .sl .int (plcS p l (clip k i)).2.1.2, .sc (.bool (plcS p l (clip k i)).2.2.1.1), .sl .int (plcS p l (clip k i)).2.2.1.2, .sl .int (plcS p l (clip k i)).2.2.2])]⟩) (fun i => i ≤ l.length) (fun i => l.length - i) 0 ?_ (Nat.zero_le _) ?_
  · have e0 : plcS p l (clip k 0) = p := by rw [show clip k 0 = 0 by unfold clip; omega]; rfl
    rw [e0]
    refine Wk.mk [] ?_
    try simp (maxSteps := 9999999) only [go_sem]
    try (and_intros <;> first | rfl | omega | exact ⟨_, rfl⟩)
  · rintro i hi
    try simp (maxSteps := 9999999) only [go_sem]
    refine CondW_dec (fun hA => ?_) (fun hA => ?_)
    · try simp (maxSteps := 9999999) only [go_sem]
      repeat refine And.intro (by first|omega|(constructor<;>omega)|kernel_rfl) ?_
      refine CondW_dec (fun hB => ?_) (fun hB => ?_)
      · have hst := plcS_step p (show i < l.length by omega)
        rw [show i = clip k i by unfold clip; omega, show clip k i + 1 = clip k (i + 1) by unfold clip; omega] at hst
        have hci : clip k i = i := by unfold clip; omega
        rw [hci] at hst
        have c1 := l22After_fn (plcS p l i) (nth (t := tStep) l i)
        rw [hci]
        try simp (maxSteps := 9999999) only [go_sem]
        repeat refine And.intro (by first|omega|(constructor<;>omega)|kernel_rfl) ?_
        refine CallW.mk (c1) ?_
        try simp (maxSteps := 9999999) only [go_sem]
        repeat refine And.intro (by first|omega|(constructor<;>omega)|kernel_rfl) ?_
        refine LoopK.mk (i + 1) ?_ (by omega) (by omega)
        rw [hst]
        refine Wk.mk [] ?_
        try simp (maxSteps := 9999999) only [go_sem]
        try (and_intros <;> first | rfl | omega | exact ⟨_, rfl⟩)
      · have hst : clip k (i + 1) = clip k i := by unfold clip; omega
        try simp (maxSteps := 9999999) only [go_sem]
        repeat refine And.intro (by first|omega|(constructor<;>omega)|kernel_rfl) ?_
        refine LoopK.mk (i + 1) ?_ (by omega) (by omega)
        rw [hst]
        refine Wk.mk [] ?_
        try simp (maxSteps := 9999999) only [go_sem]
        try (and_intros <;> first | rfl | omega | exact ⟨_, rfl⟩)
    · rw [show i = l.length by omega]
      generalize plcS p l (clip k l.length) = q at c2 ⊢
      try simp (maxSteps := 9999999) only [go_sem]
      repeat refine And.intro (by first|omega|(constructor<;>omega)|kernel_rfl) ?_
      refine CallW.mk (c2) ?_
      try simp (maxSteps := 9999999) only [go_sem]
      all_goals repeat refine And.intro (by first|omega|(constructor<;>omega)|kernel_rfl) ?_
      all_goals first | kernel_rfl | omega | rfl
theorem okPt_stp {p x : DS} (hp : okPt p.2 = true) (hx : okPt x.2 = true) : okPt (stp p x).2 = true := by
  unfold stp
  split
  · exact hx
  · split
    · exact hp
    · exact hp
theorem okPt_go {l : List DS} : ∀ {p : DS}, okPt p.2 = true → tvGo p l = true → ∀ i, okPt (plcS p l i).2 = true := by
  induction l with
  | nil => intro p hp _ i; unfold plcS; rw [List.take_nil]; exact hp
  | cons x l ih =>
    intro p hp h i
    have h' : (tvStep p x && tvGo (stp p x) l) = true := h
    rw [Bool.and_eq_true] at h'
    have hx : okPt x.2 = true := by
      have := h'.1
      unfold tvStep at this
      rw [Bool.and_eq_true, Bool.and_eq_true] at this
      exact this.2.1
    cases i with
    | zero => exact hp
    | succ i => exact ih (okPt_stp hp hx) h'.2 i
theorem okPt_tour {t : DT} (h : tourB t = true) (i : Nat) : okPt (plcS t.2.1 t.2.2 i).2 = true := by
  unfold tourB at h
  simp only [Bool.and_eq_true] at h
  exact okPt_go h.2.2.1 h.2.2.2.2 i
noncomputable def standB (t : DT) (k : Int) : Bool := tourB t && decide (0 ≤ k ∧ k ≤ (t.2.2.length : Int))
noncomputable def standP (t : DT) (k : Int) : DS := plcS t.2.1 t.2.2 (clip k t.2.2.length)
noncomputable def standO (t : DT) (k : Int) : DS := if standB t k then standP t k else (0, ptZ)
theorem stand_fn (t : DT) (k : Int) : Fn Tryz.prog 83 [⟨tTour, t⟩, ⟨.int, k⟩] false [⟨tStep, standP t k⟩] := by
  have c1 := after_fn t.2.1 t.2.2 k
  refine fn_enter tabOK mixes Tryz.func83 rfl rfl _ Tryz.ntmps83 _ Tryz.results83 (by simp) fun hwf => ?_
  unfold standP
  try simp (maxSteps := 9999999) only [go_sem]
  repeat refine And.intro (by first|omega|(constructor<;>omega)|kernel_rfl) ?_
  refine CallW.mk (c1) ?_
  try simp (maxSteps := 9999999) only [go_sem]
  all_goals repeat refine And.intro (by first|omega|(constructor<;>omega)|kernel_rfl) ?_
  all_goals first | kernel_rfl | omega | rfl
theorem specStandOf_fn (t : DT) (k : Int) : FnT Tryz.prog 33 [⟨tTour, t⟩, ⟨.int, k⟩] [⟨tStep, standO t k⟩, ⟨.bool, standB t k⟩] := by
  have c1 := specIsValidTour_fn t
  have c2 := l01In_fn k 0 t.2.2.length
  unfold standO standB
  cases h : tourB t <;> rw [h] at c1
  · rw [Bool.false_and, if_neg (by decide)]
    refine fnT_enter tabOK mixes Tryz.func33 rfl rfl _ Tryz.ntmps33 _ Tryz.results33 (by simp) fun hwf => ?_
    try simp (maxSteps := 9999999) only [go_sem]
    repeat refine And.intro (by first|omega|(constructor<;>omega)|kernel_rfl) ?_
    refine CallW.mk (c1) ?_
    try simp (maxSteps := 9999999) only [go_sem]
    all_goals repeat refine And.intro (by first|omega|(constructor<;>omega)|kernel_rfl) ?_
    all_goals first | kernel_rfl | omega | rfl
  · cases h2 : decide (0 ≤ k ∧ k ≤ (t.2.2.length : Int)) <;> rw [h2] at c2
    · rw [Bool.and_false, if_neg (by decide)]
      refine fnT_enter tabOK mixes Tryz.func33 rfl rfl _ Tryz.ntmps33 _ Tryz.results33 (by simp) fun hwf => ?_
      try simp (maxSteps := 9999999) only [go_sem]
      repeat refine And.intro (by first|omega|(constructor<;>omega)|kernel_rfl) ?_
      refine CallW.mk (c1) ?_
      try simp (maxSteps := 9999999) only [go_sem]
      repeat refine And.intro (by first|omega|(constructor<;>omega)|kernel_rfl) ?_
      refine CallW.mk (c2) ?_
      try simp (maxSteps := 9999999) only [go_sem]
      all_goals repeat refine And.intro (by first|omega|(constructor<;>omega)|kernel_rfl) ?_
      all_goals first | kernel_rfl | omega | rfl
    · have c3 := PlacementAfter_fn t.2.1 t.2.2 k (okPt_tour h _)
      rw [Bool.and_self, if_pos rfl]
      unfold standP
      refine fnT_enter tabOK mixes Tryz.func33 rfl rfl _ Tryz.ntmps33 _ Tryz.results33 (by simp) fun hwf => ?_
      try simp (maxSteps := 9999999) only [go_sem]
      repeat refine And.intro (by first|omega|(constructor<;>omega)|kernel_rfl) ?_
      refine CallW.mk (c1) ?_
      try simp (maxSteps := 9999999) only [go_sem]
      repeat refine And.intro (by first|omega|(constructor<;>omega)|kernel_rfl) ?_
      refine CallW.mk (c2) ?_
      try simp (maxSteps := 9999999) only [go_sem]
      repeat refine And.intro (by first|omega|(constructor<;>omega)|kernel_rfl) ?_
      refine CallW.mk (c3) ?_
      try simp (maxSteps := 9999999) only [go_sem]
      all_goals repeat refine And.intro (by first|omega|(constructor<;>omega)|kernel_rfl) ?_
      all_goals first | kernel_rfl | omega | rfl
end Go.Proofs.YtghckbohaghgkaaGreat.DW

/-
  Robots at stands: do they touch?
-/
namespace Go.Proofs.YtghckbohaghgkaaGreat.DW
open Go.RowKit
theorem differenceP_fn (p q : DP) (hp : okPt p = true) (hq : okPt q = true) : Fn Tryz.prog 87 [⟨tPoint, p⟩, ⟨tPoint, q⟩] true [⟨tPoint, subP p q⟩] := by
  obtain ⟨p1, p2⟩ := Bool.and_eq_true_iff.1 (show (okR p.1 && okR p.2) = true from hp)
  obtain ⟨q1, q2⟩ := Bool.and_eq_true_iff.1 (show (okR q.1 && okR q.2) = true from hq)
  have h2 := difference_fn (rdO p.1) (rdO p.2) (rdO q.1) (rdO q.2) (okO_rdO _) (okO_rdO _) (okO_rdO _) (okO_rdO _)
  rw [okR_oD p1, okR_oD p2, okR_oD q1, okR_oD q2] at h2
  unfold subP
  exact h2
theorem stp_hd {p x : DS} (hp : 0 ≤ p.1 ∧ p.1 ≤ 3) : 0 ≤ (stp p x).1 ∧ (stp p x).1 ≤ 3 := by
  unfold stp
  split
  · exact hp
  · split
    · rename_i h
      show 0 ≤ nxH p.1 x.1 ∧ nxH p.1 x.1 ≤ 3
      rw [nxH_in hp h]
      omega
    · exact hp
theorem plcF_hd : ∀ {l : List DS} {p : DS}, 0 ≤ p.1 ∧ p.1 ≤ 3 → 0 ≤ (plcF p l).1 ∧ (plcF p l).1 ≤ 3
  | [], _, h => h
  | x :: l, p, h => plcF_hd (l := l) (p := stp p x) (stp_hd h)
theorem tour_parts {t : DT} (h : tourB t = true) : SmP 20 t.1 ∧ (0 ≤ t.2.1.1 ∧ t.2.1.1 ≤ 3) ∧ okPt t.2.1.2 = true ∧ t.2.2.length ≤ 8 ∧ tvGo t.2.1 t.2.2 = true := by
  unfold tourB at h
  simp only [Bool.and_eq_true] at h
  obtain ⟨h1, h2, h3, h4, h5⟩ := h
  exact ⟨smB_p h1, of_decide_eq_true h2, h3, by have := of_decide_eq_true h4; omega, h5⟩
theorem standP_hd {t : DT} (h : tourB t = true) (k : Int) : 0 ≤ (standP t k).1 ∧ (standP t k).1 ≤ 3 := plcF_hd (tour_parts h).2.1
theorem standP_ok {t : DT} (h : tourB t = true) (k : Int) : okPt (standP t k).2 = true := okPt_tour h _
theorem standB_t {t : DT} {k : Int} (h : standB t k = true) : tourB t = true := by unfold standB at h; rw [Bool.and_eq_true] at h; exact h.1
/-- The robot of a tour at a stand, turned. -/
noncomputable def robD (t : DT) (k : Int) : List DV := t.1.map (rotN (standP t k).1.toNat)
theorem robD_sm {t : DT} (h : tourB t = true) (k : Int) : SmP 20 (robD t k) := (tour_parts h).1.rot _
noncomputable def areaD (a : DT) (i : Int) (b : DT) (j : Int) : List DV := obsD (robD a i) (robD b j)
theorem areaD_poly {a b : DT} (ha : tourB a = true) (hb : tourB b = true) (i j : Int) : polyP (areaD a i b j) := obs_poly (robD_sm ha i) (robD_sm hb j) (by decide)
theorem standO_t {t : DT} {k : Int} (h : standB t k = true) : standO t k = standP t k := if_pos h
end Go.Proofs.YtghckbohaghgkaaGreat.DW

/-
  A step of a robot beside another robot.
-/
namespace Go.Proofs.YtghckbohaghgkaaGreat.DW
open Go.RowKit
theorem rch_sm {l : List DV} (hl : ∀ v ∈ l, inB 20 v = true) : ∀ i, i ≤ l.length → 0 ≤ rchI l i ∧ rchI l i ≤ 800
  | 0, _ => by unfold rchI; omega
  | i + 1, h => by
    obtain ⟨h1, h2⟩ := rch_sm hl i (by omega)
    obtain ⟨b1, b2, b3, b4⟩ := inB_b (hl _ (nth_mem (show i < l.length by omega)))
    have s1 := sqI_le b1 b2
    have s2 := sqI_le b3 b4
    unfold rchI
    omega
theorem tv_ok : ∀ {l : List DS} {p : DS}, tvGo p l = true → ∀ i, i < l.length → okPt (nth (t := tStep) l i).2 = true
  | [], _, _, i, h => by simp at h
  | x :: l, p, hg, i, h => by
    have h' : (tvStep p x && tvGo (stp p x) l) = true := hg
    rw [Bool.and_eq_true] at h'
    cases i with
    | zero =>
      have := h'.1
      unfold tvStep at this
      rw [Bool.and_eq_true, Bool.and_eq_true] at this
      exact this.2.1
    | succ i =>
      have := tv_ok h'.2 i (by simp at h; omega)
      simpa [nth] using this
theorem tour_step {t : DT} (h : tourB t = true) {i : Nat} (hi : i < t.2.2.length) : okPt (nth (t := tStep) t.2.2 i).2 = true := tv_ok (tour_parts h).2.2.2.2 i hi
/-- Does a step touch? -/
noncomputable def stpTB (a : DT) (i : Int) (b : DT) (j : Int) : Bool :=
  if (nth (t := tStep) a.2.2 i.toNat).1 = 0 then sgmB (areaD a i b j) (subP (standP a i).2 (standP b j).2) (subP (nth (t := tStep) a.2.2 i.toNat).2 (standP b j).2)
  else discB (robD b j) (subP (standP a i).2 (standP b j).2) (rchI a.1 a.1.length)
set_option maxRecDepth 100000 in
set_option maxHeartbeats 1000000 in
theorem stepTouches_fn (a : DT) (i : Int) (b : DT) (j : Int) (ha : tourB a = true) (hb : tourB b = true) (h0 : 0 ≤ i) (h1 : i < a.2.2.length) : Fn Tryz.prog 55 [⟨tTour, a⟩, ⟨.int, i⟩, ⟨tTour, b⟩, ⟨.int, j⟩] false [⟨.bool, stpTB a i b j⟩] := by
  have c1 := stand_fn a i
  have c2 := stand_fn b j
  have p1 := (tour_parts ha).1
  have p2 := (tour_parts hb).1
  have l1 := p1.five
  have l2 := p2.five
  have c3 := TurnPolygonI_fn a.1 (standP a i).1 p1.ok (by omega) (standP_hd ha i)
  have c4 := TurnPolygonI_fn b.1 (standP b j).1 p2.ok (by omega) (standP_hd hb j)
  have c6 := differenceP_fn _ _ (standP_ok ha i) (standP_ok hb j)
  by_cases hz : (nth (t := tStep) a.2.2 i.toNat).1 = 0
  · have d1 := decide_eq_true hz
    have c5 := ObstacleForI_fn _ _ (robD_sm ha i) (robD_sm hb j) (by decide)
    have c7 := differenceP_fn _ _ (tour_step ha (i := i.toNat) (by omega)) (standP_ok hb j)
    have c8 := SegmentMeetsI_fn (areaD a i b j) (subP (standP a i).2 (standP b j).2) (subP (nth (t := tStep) a.2.2 i.toNat).2 (standP b j).2) (areaD_poly ha hb i j)
    rw [show stpTB a i b j = sgmB (areaD a i b j) (subP (standP a i).2 (standP b j).2) (subP (nth (t := tStep) a.2.2 i.toNat).2 (standP b j).2) from if_pos hz]
    unfold robD at c5
    unfold areaD robD at c8 ⊢
    refine fn_enter tabOK mixes Tryz.func55 rfl rfl _ Tryz.ntmps55 _ Tryz.results55 (by simp) fun hwf => ?_
    try simp (maxSteps := 9999999) only [go_sem]
    repeat refine And.intro (by first|omega|(constructor<;>omega)|kernel_rfl) ?_
    refine CallW.mk (c1) ?_
    try simp (maxSteps := 9999999) only [go_sem]
    repeat refine And.intro (by first|omega|(constructor<;>omega)|kernel_rfl) ?_
    refine CallW.mk (c2) ?_
    try simp (maxSteps := 9999999) only [go_sem]
    repeat refine And.intro (by first|omega|(constructor<;>omega)|kernel_rfl) ?_
    refine CallW.mk (c4) ?_
    try simp (maxSteps := 9999999) only [go_sem]
    try simp (maxSteps := 9999999) only [go_sem, d1]
    repeat refine And.intro (by first|omega|(constructor<;>omega)|kernel_rfl) ?_
    refine CallW.mk (c3) ?_
    try simp (maxSteps := 9999999) only [go_sem]
    repeat refine And.intro (by first|omega|(constructor<;>omega)|kernel_rfl) ?_
    refine CallW.mk (c5) ?_
    try simp (maxSteps := 9999999) only [go_sem]
    repeat refine And.intro (by first|omega|(constructor<;>omega)|kernel_rfl) ?_
    refine CallW.mk (c6) ?_
    try simp (maxSteps := 9999999) only [go_sem]
    repeat refine And.intro (by first|omega|(constructor<;>omega)|kernel_rfl) ?_
    refine CallW.mk (c7) ?_
    try simp (maxSteps := 9999999) only [go_sem]
    repeat refine And.intro (by first|omega|(constructor<;>omega)|kernel_rfl) ?_
    refine CallW.mk (c8) ?_
    try simp (maxSteps := 9999999) only [go_sem]
    all_goals repeat refine And.intro (by first|omega|(constructor<;>omega)|kernel_rfl) ?_
    all_goals first | kernel_rfl | omega | rfl
  · have d1 := decide_eq_false hz
    have hr := rch_sm p1.ins a.1.length (Nat.le_refl _)
    have c5 := ReachSquareI_fn a.1 p1.poly
    have c7 := DiscTouchesI_fn (robD b j) (subP (standP a i).2 (standP b j).2) (rchI a.1 a.1.length) (robD_sm hb j).poly (by omega)
    rw [show stpTB a i b j = discB (robD b j) (subP (standP a i).2 (standP b j).2) (rchI a.1 a.1.length) from if_neg hz]
    unfold robD at c7 ⊢
    refine fn_enter tabOK mixes Tryz.func55 rfl rfl _ Tryz.ntmps55 _ Tryz.results55 (by simp) fun hwf => ?_
    try simp (maxSteps := 9999999) only [go_sem]
    repeat refine And.intro (by first|omega|(constructor<;>omega)|kernel_rfl) ?_
    refine CallW.mk (c1) ?_
    try simp (maxSteps := 9999999) only [go_sem]
    repeat refine And.intro (by first|omega|(constructor<;>omega)|kernel_rfl) ?_
    refine CallW.mk (c2) ?_
    try simp (maxSteps := 9999999) only [go_sem]
    repeat refine And.intro (by first|omega|(constructor<;>omega)|kernel_rfl) ?_
    refine CallW.mk (c4) ?_
    try simp (maxSteps := 9999999) only [go_sem]
    try simp (maxSteps := 9999999) only [go_sem, d1]
    repeat refine And.intro (by first|omega|(constructor<;>omega)|kernel_rfl) ?_
    refine CallW.mk (c6) ?_
    try simp (maxSteps := 9999999) only [go_sem]
    repeat refine And.intro (by first|omega|(constructor<;>omega)|kernel_rfl) ?_
    refine CallW.mk (c5) ?_
    try simp (maxSteps := 9999999) only [go_sem]
    repeat refine And.intro (by first|omega|(constructor<;>omega)|kernel_rfl) ?_
    refine CallW.mk (c7) ?_
    try simp (maxSteps := 9999999) only [go_sem]
    all_goals repeat refine And.intro (by first|omega|(constructor<;>omega)|kernel_rfl) ?_
    all_goals first | kernel_rfl | omega | rfl
noncomputable def stpTouch (a : DT) (i : Int) (b : DT) (j : Int) : Bool := !standB a i || (decide (i = (a.2.2.length : Int)) || (!standB b j || stpTB a i b j))
theorem standB_rng {t : DT} {k : Int} (h : standB t k = true) : 0 ≤ k ∧ k ≤ t.2.2.length := by
  unfold standB at h
  rw [Bool.and_eq_true] at h
  exact of_decide_eq_true h.2
set_option maxRecDepth 100000 in
set_option maxHeartbeats 1000000 in
theorem StepTouchesS_fn (a : DT) (i : Int) (b : DT) (j : Int) : Fn Tryz.prog 18 [⟨tTour, a⟩, ⟨.int, i⟩, ⟨tTour, b⟩, ⟨.int, j⟩] false [⟨.bool, stpTouch a i b j⟩] := by
  have c1 := specStandOf_fn a i
  have c2 := specStandOf_fn b j
  unfold stpTouch
  cases h1 : standB a i <;> rw [h1] at c1
  · refine fn_enter tabOK mixes Tryz.func18 rfl rfl _ Tryz.ntmps18 _ Tryz.results18 (by simp) fun hwf => ?_
    try simp (maxSteps := 9999999) only [go_sem]
    repeat refine And.intro (by first|omega|(constructor<;>omega)|kernel_rfl) ?_
    refine CallW.t (c1) ?_
    try simp (maxSteps := 9999999) only [go_sem]
    repeat refine And.intro (by first|omega|(constructor<;>omega)|kernel_rfl) ?_
    refine CallW.t (c2) ?_
    try simp (maxSteps := 9999999) only [go_sem]
    all_goals repeat refine And.intro (by first|omega|(constructor<;>omega)|kernel_rfl) ?_
    all_goals first | kernel_rfl | omega | rfl
  · cases h2 : standB b j <;> rw [h2] at c2
    · have e : (decide (i = (a.2.2.length : Int)) || (!false || stpTB a i b j)) = true := by simp
      rw [Bool.not_true, Bool.false_or, e]
      refine fn_enter tabOK mixes Tryz.func18 rfl rfl _ Tryz.ntmps18 _ Tryz.results18 (by simp) fun hwf => ?_
      try simp (maxSteps := 9999999) only [go_sem]
      repeat refine And.intro (by first|omega|(constructor<;>omega)|kernel_rfl) ?_
      refine CallW.t (c1) ?_
      try simp (maxSteps := 9999999) only [go_sem]
      repeat refine And.intro (by first|omega|(constructor<;>omega)|kernel_rfl) ?_
      refine CallW.t (c2) ?_
      try simp (maxSteps := 9999999) only [go_sem]
      all_goals repeat refine And.intro (by first|omega|(constructor<;>omega)|kernel_rfl) ?_
      all_goals first | kernel_rfl | omega | rfl
    · have hr := standB_rng h1
      have ha := standB_t h1
      have hb := standB_t h2
      have p1 := (tour_parts ha).1
      have p2 := (tour_parts hb).1
      have l1 := p1.five
      have l2 := p2.five
      by_cases hi : i = (a.2.2.length : Int)
      · have d1 := decide_eq_true (p := i ≥ (a.2.2.length : Int)) (by omega)
        rw [decide_eq_true hi]
        refine fn_enter tabOK mixes Tryz.func18 rfl rfl _ Tryz.ntmps18 _ Tryz.results18 (by simp) fun hwf => ?_
        try simp (maxSteps := 9999999) only [go_sem]
        repeat refine And.intro (by first|omega|(constructor<;>omega)|kernel_rfl) ?_
        refine CallW.t (c1) ?_
        try simp (maxSteps := 9999999) only [go_sem]
        repeat refine And.intro (by first|omega|(constructor<;>omega)|kernel_rfl) ?_
        refine CallW.t (c2) ?_
        try simp (maxSteps := 9999999) only [go_sem]
        try simp (maxSteps := 9999999) only [go_sem, d1]
        all_goals repeat refine And.intro (by first|omega|(constructor<;>omega)|kernel_rfl) ?_
        all_goals first | kernel_rfl | omega | rfl
      · have d1 := decide_eq_false (p := i ≥ (a.2.2.length : Int)) (by omega)
        rw [decide_eq_false hi, Bool.not_true, Bool.false_or, Bool.false_or, Bool.false_or]
        rw [standO_t h1] at c1
        rw [standO_t h2] at c2
        have c3 := TurnPolygonS_fn a.1 (standP a i).1 p1.ok (by omega) (standP_hd ha i)
        have c4 := TurnPolygonS_fn b.1 (standP b j).1 p2.ok (by omega) (standP_hd hb j)
        have c6 := specSubtractPoints_fn (standP a i).2 (standP b j).2
        by_cases hz : (nth (t := tStep) a.2.2 i.toNat).1 = 0
        · have d2 := decide_eq_true hz
          have c5 := ObstacleForS_fn _ _ (robD_sm ha i) (robD_sm hb j) (by decide)
          have c7 := specSubtractPoints_fn (nth (t := tStep) a.2.2 i.toNat).2 (standP b j).2
          have c8 := SegmentMeetsS_fn (areaD a i b j) (subP (standP a i).2 (standP b j).2) (subP (nth (t := tStep) a.2.2 i.toNat).2 (standP b j).2) (areaD_poly ha hb i j)
          rw [show stpTB a i b j = sgmB (areaD a i b j) (subP (standP a i).2 (standP b j).2) (subP (nth (t := tStep) a.2.2 i.toNat).2 (standP b j).2) from if_pos hz]
          unfold robD at c5
          unfold areaD robD at c8 ⊢
          refine fn_enter tabOK mixes Tryz.func18 rfl rfl _ Tryz.ntmps18 _ Tryz.results18 (by simp) fun hwf => ?_
          try simp (maxSteps := 9999999) only [go_sem]
          repeat refine And.intro (by first|omega|(constructor<;>omega)|kernel_rfl) ?_
          refine CallW.t (c1) ?_
          try simp (maxSteps := 9999999) only [go_sem]
          repeat refine And.intro (by first|omega|(constructor<;>omega)|kernel_rfl) ?_
          refine CallW.t (c2) ?_
          try simp (maxSteps := 9999999) only [go_sem]
          try simp (maxSteps := 9999999) only [go_sem, d1]
          repeat refine And.intro (by first|omega|(constructor<;>omega)|kernel_rfl) ?_
          refine CallW.mk (c4) ?_
          try simp (maxSteps := 9999999) only [go_sem]
          try simp (maxSteps := 9999999) only [go_sem, d2]
          repeat refine And.intro (by first|omega|(constructor<;>omega)|kernel_rfl) ?_
          refine CallW.mk (c3) ?_
          try simp (maxSteps := 9999999) only [go_sem]
          repeat refine And.intro (by first|omega|(constructor<;>omega)|kernel_rfl) ?_
          refine CallW.mk (c5) ?_
          try simp (maxSteps := 9999999) only [go_sem]
          repeat refine And.intro (by first|omega|(constructor<;>omega)|kernel_rfl) ?_
          refine CallW.mx (c6) ?_
          try simp (maxSteps := 9999999) only [go_sem]
          repeat refine And.intro (by first|omega|(constructor<;>omega)|kernel_rfl) ?_
          refine CallW.mx (c7) ?_
          try simp (maxSteps := 9999999) only [go_sem]
          repeat refine And.intro (by first|omega|(constructor<;>omega)|kernel_rfl) ?_
          refine CallW.mx (c8) ?_
          try simp (maxSteps := 9999999) only [go_sem]
          all_goals repeat refine And.intro (by first|omega|(constructor<;>omega)|kernel_rfl) ?_
          all_goals first | kernel_rfl | omega | rfl
        · have d2 := decide_eq_false hz
          have hr2 := rch_sm p1.ins a.1.length (Nat.le_refl _)
          have c5 := ReachSquareS_fn a.1 p1.poly
          have c7 := DiscTouchesS_fn (robD b j) (subP (standP a i).2 (standP b j).2) (rchI a.1 a.1.length) (robD_sm hb j).poly (by omega)
          rw [show stpTB a i b j = discB (robD b j) (subP (standP a i).2 (standP b j).2) (rchI a.1 a.1.length) from if_neg hz]
          unfold robD at c7 ⊢
          refine fn_enter tabOK mixes Tryz.func18 rfl rfl _ Tryz.ntmps18 _ Tryz.results18 (by simp) fun hwf => ?_
          try simp (maxSteps := 9999999) only [go_sem]
          repeat refine And.intro (by first|omega|(constructor<;>omega)|kernel_rfl) ?_
          refine CallW.t (c1) ?_
          try simp (maxSteps := 9999999) only [go_sem]
          repeat refine And.intro (by first|omega|(constructor<;>omega)|kernel_rfl) ?_
          refine CallW.t (c2) ?_
          try simp (maxSteps := 9999999) only [go_sem]
          try simp (maxSteps := 9999999) only [go_sem, d1]
          repeat refine And.intro (by first|omega|(constructor<;>omega)|kernel_rfl) ?_
          refine CallW.mk (c4) ?_
          try simp (maxSteps := 9999999) only [go_sem]
          try simp (maxSteps := 9999999) only [go_sem, d2]
          repeat refine And.intro (by first|omega|(constructor<;>omega)|kernel_rfl) ?_
          refine CallW.mx (c6) ?_
          try simp (maxSteps := 9999999) only [go_sem]
          repeat refine And.intro (by first|omega|(constructor<;>omega)|kernel_rfl) ?_
          refine CallW.mx (c5) ?_
          try simp (maxSteps := 9999999) only [go_sem]
          repeat refine And.intro (by first|omega|(constructor<;>omega)|kernel_rfl) ?_
          refine CallW.mx (c7) ?_
          try simp (maxSteps := 9999999) only [go_sem]
          all_goals repeat refine And.intro (by first|omega|(constructor<;>omega)|kernel_rfl) ?_
          all_goals first | kernel_rfl | omega | rfl
end Go.Proofs.YtghckbohaghgkaaGreat.DW

/-
  TouchTable of both sides, as contracts on data.
-/
namespace Go.Proofs.YtghckbohaghgkaaGreat.DW
open Go.RowKit
noncomputable def tabRow (a b : DT) (i : Nat) (n : Nat) : List Bool := (List.range n).map fun (j : Nat) => stpTB a i b j
noncomputable def tabTo (a b : DT) (n : Nat) : List (List Bool) := (List.range n).map fun (i : Nat) => tabRow a b i (b.2.2.length + 1)
noncomputable def tabD (a b : DT) : List (List Bool) := if (tourB a && tourB b) = true then tabTo a b a.2.2.length else []
theorem tabRow_s (a b : DT) (i n : Nat) : tabRow a b i (n + 1) = tabRow a b i n ++ [stpTB a i b n] := by
  unfold tabRow; rw [List.range_succ, List.map_append]; rfl
theorem tabTo_s (a b : DT) (n : Nat) : tabTo a b (n + 1) = tabTo a b n ++ [tabRow a b n (b.2.2.length + 1)] := by
  unfold tabTo; rw [List.range_succ, List.map_append]; rfl
theorem tabRow_len (a b : DT) (i n : Nat) : (tabRow a b i n).length = n := by simp [tabRow]
theorem tabTo_len (a b : DT) (n : Nat) : (tabTo a b n).length = n := by simp [tabTo]
theorem stpTouch_tt {a b : DT} {i j : Nat} (ha : tourB a = true) (hb : tourB b = true) (hi : i < a.2.2.length) (hj : j ≤ b.2.2.length) : stpTouch a i b j = stpTB a i b j := by
  have h1 : standB a i = true := by unfold standB; rw [ha, Bool.true_and]; exact decide_eq_true (by omega)
  have h2 : standB b j = true := by unfold standB; rw [hb, Bool.true_and]; exact decide_eq_true (by omega)
  have h3 : decide ((i : Int) = (a.2.2.length : Int)) = false := decide_eq_false (by omega)
  unfold stpTouch
  rw [h1, h2, h3]; rfl
theorem TouchTableI_fn (a b : DT) : Fn Tryz.prog 21 [⟨tTour, a⟩, ⟨tTour, b⟩] true [⟨.slice (.slice .bool), tabD a b⟩] := by
  have v1 := implIsValidTour_fn a
  have v2 := implIsValidTour_fn b
  cases ha : tourB a
  · rw [ha] at v1
    rw [show tabD a b = [] from if_neg (by rw [ha]; simp)]
    refine fn_enter tabOK mixes Tryz.func21 rfl rfl _ Tryz.ntmps21 _ Tryz.results21 (by simp) fun hwf => ?_
    try simp (maxSteps := 9999999) only [go_sem]
    repeat refine And.intro (by first|omega|(constructor<;>omega)|kernel_rfl) ?_
    refine CallW.mk (v1) ?_
    try simp (maxSteps := 9999999) only [go_sem]
    all_goals repeat refine And.intro (by first|omega|(constructor<;>omega)|kernel_rfl) ?_
    all_goals first | kernel_rfl | omega | rfl
  · rw [ha] at v1
    cases hb : tourB b
    · rw [hb] at v2
      rw [show tabD a b = [] from if_neg (by rw [hb, Bool.and_false]; decide)]
      refine fn_enter tabOK mixes Tryz.func21 rfl rfl _ Tryz.ntmps21 _ Tryz.results21 (by simp) fun hwf => ?_
      try simp (maxSteps := 9999999) only [go_sem]
      repeat refine And.intro (by first|omega|(constructor<;>omega)|kernel_rfl) ?_
      refine CallW.mk (v1) ?_
      try simp (maxSteps := 9999999) only [go_sem]
      repeat refine And.intro (by first|omega|(constructor<;>omega)|kernel_rfl) ?_
      refine CallW.mk (v2) ?_
      try simp (maxSteps := 9999999) only [go_sem]
      all_goals repeat refine And.intro (by first|omega|(constructor<;>omega)|kernel_rfl) ?_
      all_goals first | kernel_rfl | omega | rfl
    · rw [hb] at v2
      rw [show tabD a b = tabTo a b a.2.2.length from if_pos (by rw [ha, hb]; rfl)]
      have hla := (tour_parts ha).2.2.2.1
      have hlb := (tour_parts hb).2.2.2.1
      refine fn_enter tabOK mixes Tryz.func21 rfl rfl _ Tryz.ntmps21 _ Tryz.results21 (by simp) fun hwf => ?_
      try simp (maxSteps := 9999999) only [go_sem]
      repeat refine And.intro (by first|omega|(constructor<;>omega)|kernel_rfl) ?_
      refine CallW.mk (v1) ?_
      try simp (maxSteps := 9999999) only [go_sem]
      repeat refine And.intro (by first|omega|(constructor<;>omega)|kernel_rfl) ?_
      refine CallW.mk (v2) ?_
      try simp (maxSteps := 9999999) only [go_sem]
      repeat refine And.intro (by first|omega|(constructor<;>omega)|kernel_rfl) ?_
      refine LoopG.intro _ _ _ (fun i : Nat => ⟨[(2, .ptr 0 0), (3, .ptr 1 0), (5, .row 2 0), (20, .sc (.int .i64 a.2.2.length)), (21, .sc (.int .i64 i))], [(0, .box (cel tTour a)), (1, .box (cel tTour b)), (2, .row 92 (.slice .bool) 0 true (tabTo a b i))]⟩) (fun i => i ≤ a.2.2.length) (fun i => a.2.2.length - i) 0 ?_ (Nat.zero_le _) ?_
      · refine Wk.mk [] ?_
        try simp (maxSteps := 9999999) only [go_sem]
        try (and_intros <;> first | rfl | omega | exact ⟨_, rfl⟩)
      · rintro i hi
        try simp (maxSteps := 9999999) only [go_sem]
        refine CondW_dec (fun hA => ?_) (fun hA => ?_)
        · try simp (maxSteps := 9999999) only [go_sem]
          repeat refine And.intro (by first|omega|(constructor<;>omega)|kernel_rfl) ?_
          refine LoopG.intro _ _ _ (fun j : Nat => ⟨[(2, .ptr 0 0), (3, .ptr 1 0), (5, .row 2 0), (6, .sc (.int .i64 i)), (7, .row 3 0), (20, .sc (.int .i64 a.2.2.length)), (21, .sc (.int .i64 i)), (28, .sc (.int .i64 ((b.2.2.length : Int) + 1))), (29, .sc (.int .i64 j))], [(0, .box (cel tTour a)), (1, .box (cel tTour b)), (2, .row 92 (.slice .bool) 0 true (tabTo a b i)), (3, .row 4 .bool 0 true (tabRow a b i j))]⟩) (fun j => j ≤ b.2.2.length + 1) (fun j => b.2.2.length + 1 - j) 0 ?_ (Nat.zero_le _) ?_
          · refine Wk.mk [] ?_
            try simp (maxSteps := 9999999) only [go_sem]
            try (and_intros <;> first | rfl | omega | exact ⟨_, rfl⟩)
          · rintro j hj
            have hrl := tabRow_len a b i j
            try simp (maxSteps := 9999999) only [go_sem]
            refine CondW_dec (fun hB => ?_) (fun hB => ?_)
            · have c1 := stepTouches_fn a i b j ha hb (by omega) (by omega)
              try simp (maxSteps := 9999999) only [go_sem]
              repeat refine And.intro (by first|omega|(constructor<;>omega)|kernel_rfl) ?_
              refine CallW.mk (c1) ?_
              try simp (maxSteps := 9999999) only [go_sem]
              try simp (maxSteps := 9999999) only [go_sem, hrl]
              repeat refine And.intro (by first|omega|(constructor<;>omega)|kernel_rfl) ?_
              refine LoopK.mk (j + 1) ?_ (by omega) (by omega)
              rw [tabRow_s]
              refine Wk.mk [] ?_
              try simp (maxSteps := 9999999) only [go_sem]
              try (and_intros <;> first | rfl | omega | exact ⟨_, rfl⟩)
            · have hj2 : j = b.2.2.length + 1 := by omega
              subst hj2
              have htl := tabTo_len a b i
              try simp (maxSteps := 9999999) only [go_sem, htl]
              repeat refine And.intro (by first|omega|(constructor<;>omega)|kernel_rfl) ?_
              refine LoopK.mk (i + 1) ?_ (by omega) (by omega)
              rw [tabTo_s]
              refine Wk.mk [] ?_
              try simp (maxSteps := 9999999) only [go_sem]
              try (and_intros <;> first | rfl | omega | exact ⟨_, rfl⟩)
        · have hi2 : i = a.2.2.length := by omega
          subst hi2
          try simp (maxSteps := 9999999) only [go_sem]
          all_goals repeat refine And.intro (by first|omega|(constructor<;>omega)|kernel_rfl) ?_
          all_goals first | kernel_rfl | omega | rfl
theorem TouchTableS_fn (a b : DT) : Fn Tryz.prog 20 [⟨tTour, a⟩, ⟨tTour, b⟩] true [⟨.slice (.slice .bool), tabD a b⟩] := by
  have v1 := specIsValidTour_fn a
  have v2 := specIsValidTour_fn b
  cases ha : tourB a
  · rw [ha] at v1
    rw [show tabD a b = [] from if_neg (by rw [ha]; simp)]
    refine fn_enter tabOK mixes Tryz.func20 rfl rfl _ Tryz.ntmps20 _ Tryz.results20 (by simp) fun hwf => ?_
    try simp (maxSteps := 9999999) only [go_sem]
    repeat refine And.intro (by first|omega|(constructor<;>omega)|kernel_rfl) ?_
    refine CallW.mk (v1) ?_
    try simp (maxSteps := 9999999) only [go_sem]
    all_goals repeat refine And.intro (by first|omega|(constructor<;>omega)|kernel_rfl) ?_
    all_goals first | kernel_rfl | omega | rfl
  · rw [ha] at v1
    cases hb : tourB b
    · rw [hb] at v2
      rw [show tabD a b = [] from if_neg (by rw [hb, Bool.and_false]; decide)]
      refine fn_enter tabOK mixes Tryz.func20 rfl rfl _ Tryz.ntmps20 _ Tryz.results20 (by simp) fun hwf => ?_
      try simp (maxSteps := 9999999) only [go_sem]
      repeat refine And.intro (by first|omega|(constructor<;>omega)|kernel_rfl) ?_
      refine CallW.mk (v1) ?_
      try simp (maxSteps := 9999999) only [go_sem]
      repeat refine And.intro (by first|omega|(constructor<;>omega)|kernel_rfl) ?_
      refine CallW.mk (v2) ?_
      try simp (maxSteps := 9999999) only [go_sem]
      all_goals repeat refine And.intro (by first|omega|(constructor<;>omega)|kernel_rfl) ?_
      all_goals first | kernel_rfl | omega | rfl
    · rw [hb] at v2
      rw [show tabD a b = tabTo a b a.2.2.length from if_pos (by rw [ha, hb]; rfl)]
      have hla := (tour_parts ha).2.2.2.1
      have hlb := (tour_parts hb).2.2.2.1
      refine fn_enter tabOK mixes Tryz.func20 rfl rfl _ Tryz.ntmps20 _ Tryz.results20 (by simp) fun hwf => ?_
      try simp (maxSteps := 9999999) only [go_sem]
      repeat refine And.intro (by first|omega|(constructor<;>omega)|kernel_rfl) ?_
      refine CallW.mk (v1) ?_
      try simp (maxSteps := 9999999) only [go_sem]
      repeat refine And.intro (by first|omega|(constructor<;>omega)|kernel_rfl) ?_
      refine CallW.mk (v2) ?_
      try simp (maxSteps := 9999999) only [go_sem]
      repeat refine And.intro (by first|omega|(constructor<;>omega)|kernel_rfl) ?_
      refine LoopG.intro _ _ _ (fun i : Nat => ⟨[(2, .ptr 0 0), (3, .ptr 1 0), (5, .row 2 0), (20, .sc (.int .i64 a.2.2.length)), (21, .sc (.int .i64 i))], [(0, .box (cel tTour a)), (1, .box (cel tTour b)), (2, .row 92 (.slice .bool) 0 true (tabTo a b i))]⟩) (fun i => i ≤ a.2.2.length) (fun i => a.2.2.length - i) 0 ?_ (Nat.zero_le _) ?_
      · refine Wk.mk [] ?_
        try simp (maxSteps := 9999999) only [go_sem]
        try (and_intros <;> first | rfl | omega | exact ⟨_, rfl⟩)
      · rintro i hi
        try simp (maxSteps := 9999999) only [go_sem]
        refine CondW_dec (fun hA => ?_) (fun hA => ?_)
        · try simp (maxSteps := 9999999) only [go_sem]
          repeat refine And.intro (by first|omega|(constructor<;>omega)|kernel_rfl) ?_
          refine LoopG.intro _ _ _ (fun j : Nat => ⟨[(2, .ptr 0 0), (3, .ptr 1 0), (5, .row 2 0), (6, .sc (.int .i64 i)), (7, .row 3 0), (8, .sc (.int .i64 j)), (20, .sc (.int .i64 a.2.2.length)), (21, .sc (.int .i64 i))], [(0, .box (cel tTour a)), (1, .box (cel tTour b)), (2, .row 92 (.slice .bool) 0 true (tabTo a b i)), (3, .row 4 .bool 0 true (tabRow a b i j))]⟩) (fun j => j ≤ b.2.2.length + 1) (fun j => b.2.2.length + 1 - j) 0 ?_ (Nat.zero_le _) ?_
          · refine Wk.mk [] ?_
            try simp (maxSteps := 9999999) only [go_sem]
            try (and_intros <;> first | rfl | omega | exact ⟨_, rfl⟩)
          · rintro j hj
            have hrl := tabRow_len a b i j
            try simp (maxSteps := 9999999) only [go_sem]
            refine CondW_dec (fun hB => ?_) (fun hB => ?_)
            · have c1 := StepTouchesS_fn a i b j
              rw [stpTouch_tt ha hb (by omega) (by omega)] at c1
              try simp (maxSteps := 9999999) only [go_sem]
              repeat refine And.intro (by first|omega|(constructor<;>omega)|kernel_rfl) ?_
              refine CallW.mk (c1) ?_
              try simp (maxSteps := 9999999) only [go_sem]
              try simp (maxSteps := 9999999) only [go_sem, hrl]
              repeat refine And.intro (by first|omega|(constructor<;>omega)|kernel_rfl) ?_
              refine LoopK.mk (j + 1) ?_ (by omega) (by omega)
              rw [tabRow_s]
              refine Wk.mk [] ?_
              try simp (maxSteps := 9999999) only [go_sem]
              try (and_intros <;> first | rfl | omega | exact ⟨_, rfl⟩)
            · have hj2 : j = b.2.2.length + 1 := by omega
              subst hj2
              have htl := tabTo_len a b i
              try simp (maxSteps := 9999999) only [go_sem, htl]
              repeat refine And.intro (by first|omega|(constructor<;>omega)|kernel_rfl) ?_
              refine LoopK.mk (i + 1) ?_ (by omega) (by omega)
              rw [tabTo_s]
              refine Wk.mk [] ?_
              try simp (maxSteps := 9999999) only [go_sem]
              try (and_intros <;> first | rfl | omega | exact ⟨_, rfl⟩)
        · have hi2 : i = a.2.2.length := by omega
          subst hi2
          try simp (maxSteps := 9999999) only [go_sem]
          all_goals repeat refine And.intro (by first|omega|(constructor<;>omega)|kernel_rfl) ?_
          all_goals first | kernel_rfl | omega | rfl
end Go.Proofs.YtghckbohaghgkaaGreat.DW

/-
  The laws' helpers for vectors and tours, as contracts on data.
-/
namespace Go.Proofs.YtghckbohaghgkaaGreat
open Go.RowKit
abbrev DVec := Int × Int
abbrev RVec : Rp DVec := Rp.prod Rp.int Rp.int
abbrev DVecS := List DVec
abbrev RVecS : Rp DVecS := Rp.slice RVec (by decide)
abbrev DTour := DVecS × (DPlacement × DStepS)
abbrev RTour : Rp DTour := Rp.prod RVecS (Rp.prod RPlacement RStepS)
def tTour (x : DTour) : Nat := (x.1.length + tPlacement x.2.1) + (x.2.2.length + tStepS x.2.2)
theorem list9 {α : Type} {l : List α} (h : l.length = 9) : ∃ c0 c1 c2 c3 c4 c5 c6 c7 c8, l = [c0, c1, c2, c3, c4, c5, c6, c7, c8] := by
  match l, h with
  | [c0, c1, c2, c3, c4, c5, c6, c7, c8], _ => exact ⟨c0, c1, c2, c3, c4, c5, c6, c7, c8, rfl⟩
namespace DW
theorem szVecS_fn (x : DVecS) (left : Int) (h0 : 0 ≤ left) (h1 : left ≤ 1048576) : Fn Tryz.prog 30 [⟨.slice DW.tVec, x⟩, ⟨.int, left⟩] false [⟨.int, szr left x.length⟩] := by
  by_cases h : (x.length : Int) ≤ left
  · rw [← szr_ge h]
    have d := decide_eq_false (p := left - (x.length : Int) < 0) (by omega)
    refine fn_enter tabOK mixes Tryz.func30 rfl rfl _ Tryz.ntmps30 _ Tryz.results30 (by simp) fun hwf => ?_
    have hl : x.length ≤ 9223372036854775807 := (hwf ⟨.slice DW.tVec, x⟩ (by simp)).1
    try simp (maxSteps := 9999999) only [go_sem]
    repeat refine And.intro (by first|omega|(constructor<;>omega)|kernel_rfl) ?_
    try simp (maxSteps := 9999999) only [go_sem, d]
    all_goals repeat refine And.intro (by first|omega|(constructor<;>omega)|kernel_rfl) ?_
    all_goals first | kernel_rfl | omega | rfl
  · rw [← szr_lt (by omega)]
    have d := decide_eq_true (p := left - (x.length : Int) < 0) (by omega)
    refine fn_enter tabOK mixes Tryz.func30 rfl rfl _ Tryz.ntmps30 _ Tryz.results30 (by simp) fun hwf => ?_
    have hl : x.length ≤ 9223372036854775807 := (hwf ⟨.slice DW.tVec, x⟩ (by simp)).1
    try simp (maxSteps := 9999999) only [go_sem]
    repeat refine And.intro (by first|omega|(constructor<;>omega)|kernel_rfl) ?_
    try simp (maxSteps := 9999999) only [go_sem, d]
    all_goals repeat refine And.intro (by first|omega|(constructor<;>omega)|kernel_rfl) ?_
    all_goals first | kernel_rfl | omega | rfl
theorem toVec_fn (x : DVec) : Fn Tryz.prog 80 [⟨DW.tVec, x⟩] false [⟨DW.tVec, x⟩] := by
  refine fn_enter tabOK mixes Tryz.func80 rfl rfl _ Tryz.ntmps80 _ Tryz.results80 (by simp) fun hwf => ?_
  try simp (maxSteps := 9999999) only [go_sem]
  all_goals repeat refine And.intro (by first|omega|(constructor<;>omega)|kernel_rfl) ?_
  all_goals first | kernel_rfl | omega | rfl
theorem toVecS_fn (x : DVecS) (hs : x.length ≤ 1048576) : Fn Tryz.prog 38 [⟨.slice DW.tVec, x⟩] true [⟨.slice DW.tVec, x⟩] := by
  refine fn_enter tabOK mixes Tryz.func38 rfl rfl _ Tryz.ntmps38 _ Tryz.results38 (by simp) fun hwf => ?_
  try simp (maxSteps := 9999999) only [go_sem]
  repeat refine And.intro (by first|omega|(constructor<;>omega)|kernel_rfl) ?_
  refine LoopG.intro _ _ _ (fun i : Nat => ⟨[(0, .sl DW.tVec x), (3, .row 0 0), (4, .sc (.int .i64 i))], [(0, .row 113 DW.tVec 0 true (x.take i ++ List.replicate (x.length - i) ((0 : Int), (0 : Int))))]⟩) (fun i => i ≤ x.length) (fun i => x.length - i) 0 ?_ (Nat.zero_le _) ?_
  · refine Wk.mk [] ?_
    try simp (maxSteps := 9999999) only [go_sem]
    try (and_intros <;> first | rfl | omega | exact ⟨_, rfl⟩)
  · rintro i hi
    have hlen : (x.take i ++ List.replicate (x.length - i) ((0 : Int), (0 : Int))).length = x.length := by simp; omega
    try simp (maxSteps := 9999999) only [go_sem]
    refine CondW_dec (fun hA => ?_) (fun hA => ?_)
    · have hset : (x.take i ++ List.replicate (x.length - i) ((0 : Int), (0 : Int))).set i (nth (t := DW.tVec) x i) = x.take (i + 1) ++ List.replicate (x.length - (i + 1)) ((0 : Int), (0 : Int)) := by
        have hlt : i < x.length := by omega
        rw [List.set_append_right _ _ (by rw [List.length_take]; omega), List.length_take, show i - min i x.length = 0 by omega, show x.length - i = (x.length - (i + 1)) + 1 by omega, List.replicate_succ, List.set_cons_zero, nth_lt hlt]
        have e : x.take (i + 1) = x.take i ++ [x[i]] := List.take_succ_eq_append_getElem hlt
        rw [e, List.append_assoc]; rfl
      have ht : (List.take i x).length = i := by rw [List.length_take]; omega
      have c1 := toVec_fn (nth (t := DW.tVec) x i)
      try simp (maxSteps := 9999999) only [go_sem]
      repeat refine And.intro (by first|omega|(constructor<;>omega)|kernel_rfl) ?_
      refine CallW.mk (c1) ?_
      try simp (maxSteps := 9999999) only [go_sem]
      repeat refine And.intro (by first|omega|(constructor<;>omega)|kernel_rfl) ?_
      refine LoopK.mk (i + 1) ?_ (by omega) (by omega)
      rw [← hset]
      refine Wk.mk [] ?_
      try simp (maxSteps := 9999999) only [go_sem]
      try (and_intros <;> first | rfl | omega | exact ⟨_, rfl⟩)
    · have : x.take i ++ List.replicate (x.length - i) ((0 : Int), (0 : Int)) = x := by
        rw [List.take_of_length_le (by omega), show x.length - i = 0 by omega]; simp
      rw [this]
      try simp (maxSteps := 9999999) only [go_sem]
      all_goals repeat refine And.intro (by first|omega|(constructor<;>omega)|kernel_rfl) ?_
      all_goals first | kernel_rfl | omega | rfl
theorem eqVec_fn (x y : DVec) : Fn Tryz.prog 88 [⟨DW.tVec, x⟩, ⟨DW.tVec, y⟩] false [⟨.bool, eqb x y⟩] := by
  by_cases h1 : x.1 = y.1
  · have d1 := decide_eq_true h1
    by_cases h2 : x.2 = y.2
    · have d2 := decide_eq_true h2
      rw [eqb_true (Prod.ext h1 h2)]
      refine fn_enter tabOK mixes Tryz.func88 rfl rfl _ Tryz.ntmps88 _ Tryz.results88 (by simp) fun hwf => ?_
      try simp (maxSteps := 9999999) only [go_sem, d1, d2]
    · have d2 := decide_eq_false h2
      rw [eqb_false (fun h => h2 (by rw [h]))]
      refine fn_enter tabOK mixes Tryz.func88 rfl rfl _ Tryz.ntmps88 _ Tryz.results88 (by simp) fun hwf => ?_
      try simp (maxSteps := 9999999) only [go_sem, d1, d2]
  · have d1 := decide_eq_false h1
    rw [eqb_false (fun h => h1 (by rw [h]))]
    refine fn_enter tabOK mixes Tryz.func88 rfl rfl _ Tryz.ntmps88 _ Tryz.results88 (by simp) fun hwf => ?_
    try simp (maxSteps := 9999999) only [go_sem, d1]
theorem eqVecS_fn (x y : DVecS) : Fn Tryz.prog 43 [⟨.slice DW.tVec, x⟩, ⟨.slice DW.tVec, y⟩] false [⟨.bool, eqb x y⟩] := by
  by_cases h0 : (x.length : Int) = y.length
  · have d0 := decide_eq_true h0
    refine fn_enter tabOK mixes Tryz.func43 rfl rfl _ Tryz.ntmps43 _ Tryz.results43 (by simp) fun hwf => ?_
    have hl : x.length ≤ 9223372036854775807 := (hwf ⟨.slice DW.tVec, x⟩ (by simp)).1
    try simp (maxSteps := 9999999) only [go_sem, d0]
    refine LoopG.intro _ _ _ (fun i : Nat => ⟨[(0, .sl DW.tVec x), (1, .sl DW.tVec y), (5, .sc (.int .i64 i))], []⟩) (fun i => ∀ j, j < i → j < x.length → nth (t := DW.tVec) x j = nth (t := DW.tVec) y j) (fun i => x.length - i) 0 ?_ (fun j h => absurd h (Nat.not_lt_zero _)) ?_
    · refine Wk.mk [] ?_
      try simp (maxSteps := 9999999) only [go_sem]
      try (and_intros <;> first | rfl | omega | exact ⟨_, rfl⟩)
    · rintro i hi
      try simp (maxSteps := 9999999) only [go_sem]
      refine CondW_dec (fun hA => ?_) (fun hA => ?_)
      · have c1 := eqVec_fn (nth (t := DW.tVec) x i) (nth (t := DW.tVec) y i)
        by_cases e : nth (t := DW.tVec) x i = nth (t := DW.tVec) y i
        · rw [eqb_true e] at c1
          try simp (maxSteps := 9999999) only [go_sem]
          repeat refine And.intro (by first|omega|(constructor<;>omega)|kernel_rfl) ?_
          refine CallW.mk (c1) ?_
          try simp (maxSteps := 9999999) only [go_sem]
          repeat refine And.intro (by first|omega|(constructor<;>omega)|kernel_rfl) ?_
          refine LoopK.mk (i + 1) ?_ (fun j h1 h2 => ?_) (by omega)
          · refine Wk.mk [] ?_
            try simp (maxSteps := 9999999) only [go_sem]
            try (and_intros <;> first | rfl | omega | exact ⟨_, rfl⟩)
          · by_cases h3 : j < i
            · exact hi j h3 h2
            · rw [show j = i by omega]; exact e
        · rw [eqb_false e] at c1
          rw [eqb_false (fun h => e (by rw [h]))]
          try simp (maxSteps := 9999999) only [go_sem]
          repeat refine And.intro (by first|omega|(constructor<;>omega)|kernel_rfl) ?_
          refine CallW.mk (c1) ?_
          try simp (maxSteps := 9999999) only [go_sem]
          all_goals repeat refine And.intro (by first|omega|(constructor<;>omega)|kernel_rfl) ?_
          all_goals first | kernel_rfl | omega | rfl
      · have : x = y := by
          refine List.ext_getElem (by omega) fun j h1 h2 => ?_
          have := hi j (by omega) h1
          rwa [nth_lt h1, nth_lt h2] at this
        rw [eqb_true this]
        try simp (maxSteps := 9999999) only [go_sem]
  · have d0 := decide_eq_false h0
    rw [eqb_false (fun h => h0 (by rw [h]))]
    refine fn_enter tabOK mixes Tryz.func43 rfl rfl _ Tryz.ntmps43 _ Tryz.results43 (by simp) fun hwf => ?_
    try simp (maxSteps := 9999999) only [go_sem, d0]
theorem szTour_fn (x : DTour) (left : Int) (h0 : 0 ≤ left) (h1 : left ≤ 1048576) : Fn Tryz.prog 8 [⟨DW.tTour, x⟩, ⟨.int, left⟩] false [⟨.int, szr left (Go.Proofs.YtghckbohaghgkaaGreat.tTour x)⟩] := by
  obtain ⟨r, p, l⟩ := x
  have c1 := szVecS_fn r left h0 h1
  have r1 := szr_lo left r.length h0
  have hT : Go.Proofs.YtghckbohaghgkaaGreat.tTour (r, p, l) = (r.length + tPlacement p) + (l.length + tStepS l) := rfl
  by_cases e1 : szr left r.length < 0
  · have d1 := decide_eq_true e1
    rw [← szr_fail e1 (b := Go.Proofs.YtghckbohaghgkaaGreat.tTour (r, p, l)) (by omega)]
    refine fn_enter tabOK mixes Tryz.func8 rfl rfl _ Tryz.ntmps8 _ Tryz.results8 (by simp) fun hwf => ?_
    try simp (maxSteps := 9999999) only [go_sem]
    repeat refine And.intro (by first|omega|(constructor<;>omega)|kernel_rfl) ?_
    refine CallW.mk (c1) ?_
    try simp (maxSteps := 9999999) only [go_sem]
    try simp (maxSteps := 9999999) only [go_sem, d1]
    all_goals repeat refine And.intro (by first|omega|(constructor<;>omega)|kernel_rfl) ?_
    all_goals first | kernel_rfl | omega | rfl
  · have d1 := decide_eq_false e1
    have c2 := szPlacement_fn p (szr left r.length) (by omega) (by omega)
    have r2 := szr_lo (szr left r.length) (tPlacement p) (by omega)
    have a2 := szr_add left r.length (tPlacement p) (by omega)
    by_cases e2 : szr (szr left r.length) (tPlacement p) < 0
    · have d2 := decide_eq_true e2
      rw [← szr_fail (by rw [← a2]; exact e2) (a := r.length + tPlacement p) (b := Go.Proofs.YtghckbohaghgkaaGreat.tTour (r, p, l)) (by omega)]
      refine fn_enter tabOK mixes Tryz.func8 rfl rfl _ Tryz.ntmps8 _ Tryz.results8 (by simp) fun hwf => ?_
      try simp (maxSteps := 9999999) only [go_sem]
      repeat refine And.intro (by first|omega|(constructor<;>omega)|kernel_rfl) ?_
      refine CallW.mk (c1) ?_
      try simp (maxSteps := 9999999) only [go_sem]
      try simp (maxSteps := 9999999) only [go_sem, d1]
      repeat refine And.intro (by first|omega|(constructor<;>omega)|kernel_rfl) ?_
      refine CallW.mk (c2) ?_
      try simp (maxSteps := 9999999) only [go_sem]
      try simp (maxSteps := 9999999) only [go_sem, d2]
      all_goals repeat refine And.intro (by first|omega|(constructor<;>omega)|kernel_rfl) ?_
      all_goals first | kernel_rfl | omega | rfl
    · have d2 := decide_eq_false e2
      have c3 := szStepS_fn l (szr (szr left r.length) (tPlacement p)) (by omega) (by omega)
      have r3 := szr_lo (szr (szr left r.length) (tPlacement p)) (l.length + tStepS l) (by omega)
      have a3 := szr_add left (r.length + tPlacement p) (l.length + tStepS l) (by rw [← a2]; omega)
      rw [← a2] at a3
      rw [hT, ← a3]
      by_cases e3 : szr (szr (szr left r.length) (tPlacement p)) (l.length + tStepS l) < 0
      · have d3 := decide_eq_true e3
        have e4 : szr (szr (szr left r.length) (tPlacement p)) (l.length + tStepS l) = -1 := by omega
        rw [e4] at d3 c3 ⊢
        refine fn_enter tabOK mixes Tryz.func8 rfl rfl _ Tryz.ntmps8 _ Tryz.results8 (by simp) fun hwf => ?_
        try simp (maxSteps := 9999999) only [go_sem]
        repeat refine And.intro (by first|omega|(constructor<;>omega)|kernel_rfl) ?_
        refine CallW.mk (c1) ?_
        try simp (maxSteps := 9999999) only [go_sem]
        try simp (maxSteps := 9999999) only [go_sem, d1]
        repeat refine And.intro (by first|omega|(constructor<;>omega)|kernel_rfl) ?_
        refine CallW.mk (c2) ?_
        try simp (maxSteps := 9999999) only [go_sem]
        try simp (maxSteps := 9999999) only [go_sem, d2]
        repeat refine And.intro (by first|omega|(constructor<;>omega)|kernel_rfl) ?_
        refine CallW.mk (c3) ?_
        try simp (maxSteps := 9999999) only [go_sem]
        all_goals repeat refine And.intro (by first|omega|(constructor<;>omega)|kernel_rfl) ?_
        all_goals first | kernel_rfl | omega | rfl
      · have d3 := decide_eq_false e3
        refine fn_enter tabOK mixes Tryz.func8 rfl rfl _ Tryz.ntmps8 _ Tryz.results8 (by simp) fun hwf => ?_
        try simp (maxSteps := 9999999) only [go_sem]
        repeat refine And.intro (by first|omega|(constructor<;>omega)|kernel_rfl) ?_
        refine CallW.mk (c1) ?_
        try simp (maxSteps := 9999999) only [go_sem]
        try simp (maxSteps := 9999999) only [go_sem, d1]
        repeat refine And.intro (by first|omega|(constructor<;>omega)|kernel_rfl) ?_
        refine CallW.mk (c2) ?_
        try simp (maxSteps := 9999999) only [go_sem]
        try simp (maxSteps := 9999999) only [go_sem, d2]
        repeat refine And.intro (by first|omega|(constructor<;>omega)|kernel_rfl) ?_
        refine CallW.mk (c3) ?_
        try simp (maxSteps := 9999999) only [go_sem]
        try simp (maxSteps := 9999999) only [go_sem, d3]
        all_goals repeat refine And.intro (by first|omega|(constructor<;>omega)|kernel_rfl) ?_
        all_goals first | kernel_rfl | omega | rfl
theorem toTour_fn (x : DTour) (hs : Go.Proofs.YtghckbohaghgkaaGreat.tTour x ≤ 1048576) : Fn Tryz.prog 10 [⟨DW.tTour, x⟩] true [⟨DW.tTour, x⟩] := by
  obtain ⟨r, p, l⟩ := x
  have hT : Go.Proofs.YtghckbohaghgkaaGreat.tTour (r, p, l) = (r.length + tPlacement p) + (l.length + tStepS l) := rfl
  have c1 := toVecS_fn r (by omega)
  have c2 := toPlacement_fn p (by omega)
  have c3 := toStepS_fn l (by omega)
  refine fn_enter tabOK mixes Tryz.func10 rfl rfl _ Tryz.ntmps10 _ Tryz.results10 (by simp) fun hwf => ?_
  try simp (maxSteps := 9999999) only [go_sem]
  repeat refine And.intro (by first|omega|(constructor<;>omega)|kernel_rfl) ?_
  refine CallW.mk (c1) ?_
  try simp (maxSteps := 9999999) only [go_sem]
  repeat refine And.intro (by first|omega|(constructor<;>omega)|kernel_rfl) ?_
  refine CallW.mk (c2) ?_
  try simp (maxSteps := 9999999) only [go_sem]
  repeat refine And.intro (by first|omega|(constructor<;>omega)|kernel_rfl) ?_
  refine CallW.mk (c3) ?_
  try simp (maxSteps := 9999999) only [go_sem]
  all_goals repeat refine And.intro (by first|omega|(constructor<;>omega)|kernel_rfl) ?_
  all_goals first | kernel_rfl | omega | rfl
theorem eqTour_fn (x y : DTour) : Fn Tryz.prog 12 [⟨DW.tTour, x⟩, ⟨DW.tTour, y⟩] false [⟨.bool, eqb x y⟩] := by
  obtain ⟨r, p, l⟩ := x
  obtain ⟨r', p', l'⟩ := y
  have c1 := eqVecS_fn r r'
  have c2 := eqPlacement_fn p p'
  have c3 := eqStepS_fn l l'
  by_cases e1 : r = r'
  · rw [eqb_true e1] at c1
    by_cases e2 : p = p'
    · rw [eqb_true e2] at c2
      by_cases e3 : l = l'
      · rw [eqb_true e3] at c3
        rw [eqb_true (by rw [e1, e2, e3])]
        refine fn_enter tabOK mixes Tryz.func12 rfl rfl _ Tryz.ntmps12 _ Tryz.results12 (by simp) fun hwf => ?_
        try simp (maxSteps := 9999999) only [go_sem]
        repeat refine And.intro (by first|omega|(constructor<;>omega)|kernel_rfl) ?_
        refine CallW.mk (c1) ?_
        try simp (maxSteps := 9999999) only [go_sem]
        repeat refine And.intro (by first|omega|(constructor<;>omega)|kernel_rfl) ?_
        refine CallW.mk (c2) ?_
        try simp (maxSteps := 9999999) only [go_sem]
        repeat refine And.intro (by first|omega|(constructor<;>omega)|kernel_rfl) ?_
        refine CallW.mk (c3) ?_
        try simp (maxSteps := 9999999) only [go_sem]
      · rw [eqb_false e3] at c3
        rw [eqb_false (fun h => e3 (congrArg (fun z => z.2.2) h))]
        refine fn_enter tabOK mixes Tryz.func12 rfl rfl _ Tryz.ntmps12 _ Tryz.results12 (by simp) fun hwf => ?_
        try simp (maxSteps := 9999999) only [go_sem]
        repeat refine And.intro (by first|omega|(constructor<;>omega)|kernel_rfl) ?_
        refine CallW.mk (c1) ?_
        try simp (maxSteps := 9999999) only [go_sem]
        repeat refine And.intro (by first|omega|(constructor<;>omega)|kernel_rfl) ?_
        refine CallW.mk (c2) ?_
        try simp (maxSteps := 9999999) only [go_sem]
        repeat refine And.intro (by first|omega|(constructor<;>omega)|kernel_rfl) ?_
        refine CallW.mk (c3) ?_
        try simp (maxSteps := 9999999) only [go_sem]
    · rw [eqb_false e2] at c2
      rw [eqb_false (fun h => e2 (congrArg (fun z => z.2.1) h))]
      refine fn_enter tabOK mixes Tryz.func12 rfl rfl _ Tryz.ntmps12 _ Tryz.results12 (by simp) fun hwf => ?_
      try simp (maxSteps := 9999999) only [go_sem]
      repeat refine And.intro (by first|omega|(constructor<;>omega)|kernel_rfl) ?_
      refine CallW.mk (c1) ?_
      try simp (maxSteps := 9999999) only [go_sem]
      repeat refine And.intro (by first|omega|(constructor<;>omega)|kernel_rfl) ?_
      refine CallW.mk (c2) ?_
      try simp (maxSteps := 9999999) only [go_sem]
  · rw [eqb_false e1] at c1
    rw [eqb_false (fun h => e1 (congrArg (fun z => z.1) h))]
    refine fn_enter tabOK mixes Tryz.func12 rfl rfl _ Tryz.ntmps12 _ Tryz.results12 (by simp) fun hwf => ?_
    try simp (maxSteps := 9999999) only [go_sem]
    repeat refine And.intro (by first|omega|(constructor<;>omega)|kernel_rfl) ?_
    refine CallW.mk (c1) ?_
    try simp (maxSteps := 9999999) only [go_sem]
end DW
end Go.Proofs.YtghckbohaghgkaaGreat

/-
  The laws' helpers for lists and tables of truth values.
-/
namespace Go.Proofs.YtghckbohaghgkaaGreat
open Go.RowKit
abbrev DBoolS := List Bool
abbrev RBoolS : Rp DBoolS := Rp.slice Rp.bool (by decide)
abbrev DBoolSS := List DBoolS
abbrev RBoolSS : Rp DBoolSS := Rp.slice RBoolS (by decide)
def mkBoolS (l : DBoolS) (k : Int) : DBoolS := (List.range l.length).map fun i => (k + (i : Nat)) % 3 == 0
def cnBoolSS : DBoolSS → Nat
  | [] => 0
  | x :: l => x.length + cnBoolSS l
theorem cnBoolSS_snoc (l : DBoolSS) (x : DBoolS) : cnBoolSS (l ++ [x]) = cnBoolSS l + x.length := by
  induction l with
  | nil => simp [cnBoolSS]
  | cons y l ih => simp [cnBoolSS, ih]; omega
theorem cnBoolSS_take (l : DBoolSS) (k : Nat) : cnBoolSS (l.take k) ≤ cnBoolSS l := by
  induction l generalizing k with
  | nil => simp [cnBoolSS]
  | cons y l ih => cases k with
    | zero => simp [cnBoolSS]
    | succ k => have := ih k; simp [cnBoolSS]; omega
def mkBoolSS : DBoolSS → Int → DBoolSS
  | [], _ => []
  | x :: l, k => mkBoolS x k :: mkBoolSS l (k + x.length)
theorem mkBoolS_len (l : DBoolS) (k : Int) : (mkBoolS l k).length = l.length := by simp [mkBoolS]
theorem mkBoolSS_len (l : DBoolSS) (k : Int) : (mkBoolSS l k).length = l.length := by
  induction l generalizing k with
  | nil => rfl
  | cons y l ih => simp [mkBoolSS, ih]
theorem mkBoolSS_snoc (l : DBoolSS) (x : DBoolS) (k : Int) : mkBoolSS (l ++ [x]) k = mkBoolSS l k ++ [mkBoolS x (k + cnBoolSS l)] := by
  induction l generalizing k with
  | nil => simp [mkBoolSS, cnBoolSS]
  | cons y l ih => simp only [List.cons_append, mkBoolSS, ih, cnBoolSS]; rw [show k + (y.length : Int) + (cnBoolSS l : Int) = k + ((y.length + cnBoolSS l : Nat) : Int) from by omega]
theorem mkBoolS_get (l : DBoolS) (k : Int) (j : Nat) (h : j < l.length) : (mkBoolS l k)[j]? = some ((k + (j : Nat)) % 3 == 0) := by
  unfold mkBoolS
  rw [List.getElem?_map, List.getElem?_range h]; rfl
theorem mkBoolSS_get (l : DBoolSS) (k : Int) (j : Nat) (x : DBoolS) (h : l[j]? = some x) : (mkBoolSS l k)[j]? = some (mkBoolS x (k + (cnBoolSS (l.take j) : Nat))) := by
  induction l generalizing k j with
  | nil => simp at h
  | cons y l ih => cases j with
    | zero => simp at h; subst h; simp [mkBoolSS, cnBoolSS]
    | succ j => simp at h; simp only [mkBoolSS, List.getElem?_cons_succ, List.take_succ_cons, cnBoolSS]; rw [ih _ j h, show k + (y.length : Int) + ((cnBoolSS (l.take j) : Nat) : Int) = k + ((y.length + cnBoolSS (l.take j) : Nat) : Int) from by omega]
set_option maxHeartbeats 400000 in
theorem markBoolS_any (v : Value) (x : DBoolS) (k : Int) (fp : List Nat) (w : World) (hx : RBoolS.rep w [v] x fp) (hn : fp.Nodup) (hf : ∀ b ∈ fp, Free w b) (h0 : 0 ≤ k) (h1 : k + x.length ≤ 1073741824) :
    Calls Tryz.prog 60 #[v, .int .i64 k] w (Post (MarkPost RBoolS [v] (mkBoolS x k) fp (k + x.length) w)) := by
  obtain ⟨ad, c, hv, hlc, hm, hh⟩ := hx
  injection hv with hv
  subst hv
  unfold maxLen at hm
  rcases hh with ⟨rfl, rfl⟩ | ⟨b, off, fps, hl, rfl, rfl, he⟩
  · go_enter Tryz.func60, Tryz.ntmps60
    go_wp2
    go_loopw [1, 5] (fun kk i wr => i = .int .i64 0 ∧ kk = .int .i64 k ∧ wr = w) (fun _ _ _ => 0)
    case atStart => exact ⟨rfl, rfl, rfl⟩
    case round =>
      obtain ⟨rfl, rfl, rfl⟩ := hrel
      go_wp2
      go_ret
      exact ⟨_, rfl, congrArg (Value.int .i64) (by simp), ⟨ad, c, rfl, hlc, by unfold maxLen; omega, .inl ⟨rfl, rfl⟩⟩, Upto.refl _ _⟩
  have HN := Lib.hid hn; have HF := Lib.hid hf; have HE := Lib.hid he; have HL := Lib.hid hl; clear hn hf he hl
  go_enter Tryz.func60, Tryz.ntmps60
  go_wp2
  go_loopw [1, 5] (fun kk i wr => ∃ j : Nat, j ≤ x.length ∧ i = .int .i64 j ∧ kk = .int .i64 (k + j) ∧ Elems Rp.bool wr b off (mkBoolS (x.take j) k ++ x.drop j) fps ∧ Upto (b :: fps.flatten) w wr) (fun _ i _ => x.length - (intOf i).toNat)
  case atStart => exact ⟨0, Nat.zero_le _, rfl, congrArg (Value.int .i64) (by simp), by simpa [mkBoolS] using HE.out, Upto.refl _ _⟩
  case round =>
    obtain ⟨j, hj, rfl, rfl, hE, hU⟩ := hrel
    have HEr := Lib.hid hE; have HU := Lib.hid hU; clear hE hU
    by_cases hjl : j < x.length
    rotate_left
    · obtain rfl : j = x.length := by omega
      go_wp2
      go_ret
      have h := HEr.out
      rw [List.take_length, List.drop_length, List.append_nil] at h
      have hml : (mkBoolS x k).length = x.length := mkBoolS_len x k
      exact ⟨_, rfl, rfl, ⟨_, c, by rw [hml], by rw [hml]; exact hlc, by unfold maxLen; omega, .inr ⟨b, off, fps, fun e => HL.out (List.eq_nil_of_length_eq_zero (by rw [← hml, e]; rfl)), rfl, rfl, h⟩⟩, HU.out⟩
    have hml : (mkBoolS (x.take j) k).length = j := by rw [mkBoolS_len, List.length_take]; omega
    have hget : (mkBoolS (x.take j) k ++ x.drop j)[j]? = some x[j] := by rw [List.getElem?_append_right (by omega), hml]; simp
    obtain ⟨f, cs, hfj, hr, hcs⟩ := HEr.out.2 j _ hget
    obtain ⟨rfl, rfl⟩ := hr
    have hfr := HU.out.free b List.mem_cons_self (HF.out b List.mem_cons_self)
    have g0 : wr.cell? ⟨b, off + j, none⟩ = some (.bool x[j]) := by simpa [Rp.bool] using hcs 0 _ rfl
    have hfz := hfr.frozen
    have HML := Lib.hid hml; have HFJ := Lib.hid hfj
    obtain ⟨q, hq⟩ : ∃ q : Int, q = k + (j : Nat) := ⟨_, rfl⟩
    have hq0 : 0 ≤ q := by omega
    have hq1 : q < 1073741824 := by omega
    rw [← hq]
    have HQ := Lib.hid hq
    clear hml hget hcs hfj hfr hq
    go_wp2
    go_roundw
    case rel =>
      refine ⟨j + 1, by omega, by go_num, congrArg (Value.int .i64) (by have := HQ.out; omega), ?_, HU.out.setCell (p := ⟨b, off + j, none⟩) List.mem_cons_self _⟩
      have hup := HEr.out.update (w' := wr.setCell ⟨b, off + j, none⟩ (.bool (q % 3 == 0))) (x' := (q % 3 == 0)) (cs' := [.bool (q % 3 == 0)]) HN.out HFJ.out ⟨rfl, rfl⟩
        (cells_cons (by simpa [Rp.bool] using World.cell?_setCell_same wr ⟨b, off + j, none⟩ (.bool (q % 3 == 0)) g0) cells_nil)
        (fun z _ hz _ => Below.heap_setCell _ _ _ _ hz) (fun o ho => setCell_out _ (by simp [Rp.bool] at ho; omega))
      have e : (mkBoolS (x.take j) k ++ x.drop j).set j (q % 3 == 0) = mkBoolS (x.take (j + 1)) k ++ x.drop (j + 1) := by
        rw [HQ.out, List.set_append_right _ _ (by rw [HML.out]; exact Nat.le_refl _), HML.out, Nat.sub_self, List.drop_eq_getElem_cons hjl, List.set_cons_zero, show mkBoolS (x.take (j + 1)) k = mkBoolS (x.take j) k ++ [(k + (j : Nat)) % 3 == 0] from by simp only [mkBoolS, List.length_take, Nat.min_eq_left (Nat.le_of_lt hjl), Nat.min_eq_left (Nat.succ_le_of_lt hjl), List.range_succ, List.map_append]; rfl]
        simp
      rw [e] at hup
      exact hup
    case measure => simp [intOf]; omega
set_option maxHeartbeats 400000 in
theorem markBoolSS_any (v : Value) (x : DBoolSS) (k : Int) (fp : List Nat) (w : World) (hx : RBoolSS.rep w [v] x fp) (hn : fp.Nodup) (hf : ∀ b ∈ fp, Free w b) (h0 : 0 ≤ k) (h1 : k + cnBoolSS x ≤ 1073741824) :
    Calls Tryz.prog 24 #[v, .int .i64 k] w (Post (MarkPost RBoolSS [v] (mkBoolSS x k) fp (k + cnBoolSS x) w)) := by
  obtain ⟨ad, c, hv, hlc, hm, hh⟩ := hx
  injection hv with hv
  subst hv
  unfold maxLen at hm
  rcases hh with ⟨rfl, rfl⟩ | ⟨b, off, fps, hl, rfl, rfl, he⟩
  · go_enter Tryz.func24, Tryz.ntmps24
    go_wp2
    go_loopw [1, 5] (fun kk i wr => i = .int .i64 0 ∧ kk = .int .i64 k ∧ wr = w) (fun _ _ _ => 0)
    case atStart => exact ⟨rfl, rfl, rfl⟩
    case round =>
      obtain ⟨rfl, rfl, rfl⟩ := hrel
      go_wp2
      go_ret
      exact ⟨_, rfl, congrArg (Value.int .i64) (by simp [cnBoolSS]), ⟨ad, c, rfl, hlc, by unfold maxLen; omega, .inl ⟨rfl, rfl⟩⟩, Upto.refl _ _⟩
  have HN := Lib.hid hn; have HF := Lib.hid hf; have HE := Lib.hid he; have HL := Lib.hid hl; clear hn hf he hl
  go_enter Tryz.func24, Tryz.ntmps24
  go_wp2
  go_loopw [1, 5] (fun kk i wr => ∃ j : Nat, j ≤ x.length ∧ i = .int .i64 j ∧ kk = .int .i64 (k + (cnBoolSS (x.take j) : Nat)) ∧ Elems RBoolS wr b off (mkBoolSS (x.take j) k ++ x.drop j) fps ∧ Upto (b :: fps.flatten) w wr) (fun _ i _ => x.length - (intOf i).toNat)
  case atStart => exact ⟨0, Nat.zero_le _, rfl, congrArg (Value.int .i64) (by simp [cnBoolSS]), by simpa [mkBoolSS] using HE.out, Upto.refl _ _⟩
  case round =>
    obtain ⟨j, hj, rfl, rfl, hE, hU⟩ := hrel
    have HEr := Lib.hid hE; have HU := Lib.hid hU; clear hE hU
    by_cases hjl : j < x.length
    rotate_left
    · obtain rfl : j = x.length := by omega
      go_wp2
      go_ret
      have h := HEr.out
      rw [List.take_length, List.drop_length, List.append_nil] at h
      have hml := mkBoolSS_len x k
      exact ⟨_, rfl, congrArg (Value.int .i64) (by rw [List.take_length]), ⟨_, c, by rw [hml], by rw [hml]; exact hlc, by unfold maxLen; omega, .inr ⟨b, off, fps, fun e => HL.out (List.eq_nil_of_length_eq_zero (by rw [← hml, e]; rfl)), rfl, rfl, h⟩⟩, HU.out⟩
    have hml : (mkBoolSS (x.take j) k).length = j := by rw [mkBoolSS_len, List.length_take]; omega
    have hget : (mkBoolSS (x.take j) k ++ x.drop j)[j]? = some x[j] := by rw [List.getElem?_append_right (by omega), hml]; simp
    obtain ⟨f, cs, hfj, hr, hcs⟩ := HEr.out.2 j _ hget
    have hfr := HU.out.free b List.mem_cons_self (HF.out b List.mem_cons_self)
    have hbf : b ∉ f := fun h => (List.nodup_cons.1 HN.out).1 (flat_mem hfj b h)
    have hff : ∀ z ∈ f, Free wr z := fun z hz => HU.out.free z (List.mem_cons_of_mem _ (flat_mem hfj z hz)) (HF.out z (List.mem_cons_of_mem _ (flat_mem hfj z hz)))
    have hfn : f.Nodup := (List.pairwise_flatten.1 (List.nodup_cons.1 HN.out).2).1 f (List.mem_of_getElem? hfj)
    have hec : cnBoolSS (x.take j) + x[j].length = cnBoolSS (x.take (j + 1)) := by rw [List.take_succ_eq_append_getElem hjl, cnBoolSS_snoc]
    have hect := cnBoolSS_take x (j + 1)
    obtain ⟨q, hq⟩ : ∃ q : Int, q = k + (cnBoolSS (x.take j) : Nat) := ⟨_, rfl⟩
    have hq0 : 0 ≤ q := by omega
    have hq1 : q + (x[j].length : Nat) ≤ 1073741824 := by omega
    rw [← hq]
    have HQ := Lib.hid hq; have HEC := Lib.hid hec; have HML := Lib.hid hml; have HFJ := Lib.hid hfj
    clear hq hec hml hget hfj hect
    obtain ⟨c0, rfl⟩ := list1 (RBoolS.len hr)
    have HR := Lib.hid hr; have HFF := Lib.hid hff; have HBF := Lib.hid hbf; have HFN := Lib.hid hfn; clear hr hff hbf hfn
    have hbl0 : b < wr.heap.size := hfr.lt
    have g0 : wr.cell? ⟨b, off + j, none⟩ = some c0 := by simpa [Rp.slice] using hcs 0 _ rfl
    have hl0 : (0 : Int) ≤ (x[j].length : Nat) := Int.natCast_nonneg _
    clear hcs hfr
    go_wp2_with fail
    refine (markBoolS_any _ _ _ f _ HR.out HFN.out HFF.out (by omega) (by omega)).mono ?_
    rintro e w1 ⟨v, rfl, rfl, hmm, hu1⟩
    have HMM := Lib.hid hmm; have HU1 := Lib.hid hu1
    have hcb1 := hu1.cell (b := b) hbl0 HBF.out
    clear hmm hu1
    go_wp2
    go_roundw
    case rel =>
      have e0 : w1.cell? ⟨b, off + j, none⟩ = some c0 := by simp [go_sem, hcb1, g0]
      have hup := HEr.out.update (w' := w1) (x' := mkBoolS x[j] q) (cs' := [c0]) HN.out HFJ.out HMM.out (cells_cons (by simpa [Rp.slice] using e0) cells_nil)
        (fun z hz _ hzf => HU1.out.block z hz hzf)
        (fun o _ => hcb1 o)
      have e : (mkBoolSS (x.take j) k ++ x.drop j).set j (mkBoolS x[j] q) = mkBoolSS (x.take (j + 1)) k ++ x.drop (j + 1) := by
        rw [List.set_append_right _ _ (by rw [HML.out]; exact Nat.le_refl _), HML.out, Nat.sub_self, List.drop_eq_getElem_cons hjl, List.set_cons_zero, List.take_succ_eq_append_getElem hjl, mkBoolSS_snoc, ← HQ.out]
        simp
      rw [e] at hup
      refine ⟨j + 1, by omega, by go_num, congrArg (Value.int .i64) ?_, hup, HU.out.trans (HU1.out.mono ?_)⟩
      · have h1 := HQ.out; have h2 := HEC.out; omega
      · intro z hz; exact List.mem_cons_of_mem _ (flat_mem HFJ.out z hz)
    case measure => simp [intOf]; omega
namespace DW
theorem eqBoolS_fn (x y : DBoolS) : Fn Tryz.prog 56 [⟨.slice .bool, x⟩, ⟨.slice .bool, y⟩] false [⟨.bool, eqb x y⟩] := by
  by_cases h0 : (x.length : Int) = y.length
  · have d0 := decide_eq_true h0
    refine fn_enter tabOK mixes Tryz.func56 rfl rfl _ Tryz.ntmps56 _ Tryz.results56 (by simp) fun hwf => ?_
    have hl : x.length ≤ 9223372036854775807 := (hwf ⟨.slice .bool, x⟩ (by simp)).1
    try simp (maxSteps := 9999999) only [go_sem, d0]
    refine LoopG.intro _ _ _ (fun i : Nat => ⟨[(0, .sl .bool x), (1, .sl .bool y), (5, .sc (.int .i64 i))], []⟩) (fun i => ∀ j, j < i → j < x.length → nth (t := .bool) x j = nth (t := .bool) y j) (fun i => x.length - i) 0 ?_ (fun j h => absurd h (Nat.not_lt_zero _)) ?_
    · refine Wk.mk [] ?_
      try simp (maxSteps := 9999999) only [go_sem]
      try (and_intros <;> first | rfl | omega | exact ⟨_, rfl⟩)
    · rintro i hi
      try simp (maxSteps := 9999999) only [go_sem]
      refine CondW_dec (fun hA => ?_) (fun hA => ?_)
      · try simp (maxSteps := 9999999) only [go_sem]
        repeat refine And.intro (by first|omega|(constructor<;>omega)|kernel_rfl) ?_
        refine CondW_b (fun h => ?_) (fun h => ?_)
        · have e : nth (t := .bool) x i ≠ nth (t := .bool) y i := by
            intro e; rw [e] at h; simp at h
          rw [eqb_false (fun h => e (by rw [h]))]
          try simp (maxSteps := 9999999) only [go_sem]
          all_goals repeat refine And.intro (by first|omega|(constructor<;>omega)|kernel_rfl) ?_
          all_goals first | kernel_rfl | omega | rfl
        · have e : nth (t := .bool) x i = nth (t := .bool) y i := by simpa using h
          try simp (maxSteps := 9999999) only [go_sem]
          repeat refine And.intro (by first|omega|(constructor<;>omega)|kernel_rfl) ?_
          refine LoopK.mk (i + 1) ?_ (fun j h1 h2 => ?_) (by omega)
          · refine Wk.mk [] ?_
            try simp (maxSteps := 9999999) only [go_sem]
            try (and_intros <;> first | rfl | omega | exact ⟨_, rfl⟩)
          · by_cases h3 : j < i
            · exact hi j h3 h2
            · rw [show j = i by omega]; exact e
      · have : x = y := by
          refine List.ext_getElem (by omega) fun j h1 h2 => ?_
          have := hi j (by omega) h1
          rwa [nth_lt h1, nth_lt h2] at this
        rw [eqb_true this]
        try simp (maxSteps := 9999999) only [go_sem]
  · have d0 := decide_eq_false h0
    rw [eqb_false (fun h => h0 (by rw [h]))]
    refine fn_enter tabOK mixes Tryz.func56 rfl rfl _ Tryz.ntmps56 _ Tryz.results56 (by simp) fun hwf => ?_
    try simp (maxSteps := 9999999) only [go_sem, d0]
theorem eqBoolSS_fn (x y : DBoolSS) : Fn Tryz.prog 22 [⟨.slice (.slice .bool), x⟩, ⟨.slice (.slice .bool), y⟩] false [⟨.bool, eqb x y⟩] := by
  by_cases h0 : (x.length : Int) = y.length
  · have d0 := decide_eq_true h0
    refine fn_enter tabOK mixes Tryz.func22 rfl rfl _ Tryz.ntmps22 _ Tryz.results22 (by simp) fun hwf => ?_
    have hl : x.length ≤ 9223372036854775807 := (hwf ⟨.slice (.slice .bool), x⟩ (by simp)).1
    try simp (maxSteps := 9999999) only [go_sem, d0]
    refine LoopG.intro _ _ _ (fun i : Nat => ⟨[(0, .sl (.slice .bool) x), (1, .sl (.slice .bool) y), (5, .sc (.int .i64 i))], []⟩) (fun i => ∀ j, j < i → j < x.length → nth (t := .slice .bool) x j = nth (t := .slice .bool) y j) (fun i => x.length - i) 0 ?_ (fun j h => absurd h (Nat.not_lt_zero _)) ?_
    · refine Wk.mk [] ?_
      try simp (maxSteps := 9999999) only [go_sem]
      try (and_intros <;> first | rfl | omega | exact ⟨_, rfl⟩)
    · rintro i hi
      try simp (maxSteps := 9999999) only [go_sem]
      refine CondW_dec (fun hA => ?_) (fun hA => ?_)
      · have c1 := eqBoolS_fn (nth (t := .slice .bool) x i) (nth (t := .slice .bool) y i)
        by_cases e : nth (t := .slice .bool) x i = nth (t := .slice .bool) y i
        · rw [eqb_true e] at c1
          try simp (maxSteps := 9999999) only [go_sem]
          repeat refine And.intro (by first|omega|(constructor<;>omega)|kernel_rfl) ?_
          refine CallW.mk (c1) ?_
          try simp (maxSteps := 9999999) only [go_sem]
          repeat refine And.intro (by first|omega|(constructor<;>omega)|kernel_rfl) ?_
          refine LoopK.mk (i + 1) ?_ (fun j h1 h2 => ?_) (by omega)
          · refine Wk.mk [] ?_
            try simp (maxSteps := 9999999) only [go_sem]
            try (and_intros <;> first | rfl | omega | exact ⟨_, rfl⟩)
          · by_cases h3 : j < i
            · exact hi j h3 h2
            · rw [show j = i by omega]; exact e
        · rw [eqb_false e] at c1
          rw [eqb_false (fun h => e (by rw [h]))]
          try simp (maxSteps := 9999999) only [go_sem]
          repeat refine And.intro (by first|omega|(constructor<;>omega)|kernel_rfl) ?_
          refine CallW.mk (c1) ?_
          try simp (maxSteps := 9999999) only [go_sem]
          all_goals repeat refine And.intro (by first|omega|(constructor<;>omega)|kernel_rfl) ?_
          all_goals first | kernel_rfl | omega | rfl
      · have : x = y := by
          refine List.ext_getElem (by omega) fun j h1 h2 => ?_
          have := hi j (by omega) h1
          rwa [nth_lt h1, nth_lt h2] at this
        rw [eqb_true this]
        try simp (maxSteps := 9999999) only [go_sem]
  · have d0 := decide_eq_false h0
    rw [eqb_false (fun h => h0 (by rw [h]))]
    refine fn_enter tabOK mixes Tryz.func22 rfl rfl _ Tryz.ntmps22 _ Tryz.results22 (by simp) fun hwf => ?_
    try simp (maxSteps := 9999999) only [go_sem, d0]
theorem heldBoolS_fn (x : DBoolS) (k : Int) (h0 : 0 ≤ k) (h1 : k + x.length ≤ 1073741824) : Fn Tryz.prog 61 [⟨.slice .bool, mkBoolS x k⟩, ⟨.int, k⟩] false [⟨.int, k + x.length⟩] := by
  have hl := mkBoolS_len x k
  refine fn_enter tabOK mixes Tryz.func61 rfl rfl _ Tryz.ntmps61 _ Tryz.results61 (by simp) fun hwf => ?_
  try simp (maxSteps := 9999999) only [go_sem, hl]
  refine LoopG.intro _ _ _ (fun i : Nat => ⟨[(0, .sl .bool (mkBoolS x k)), (1, .sc (.int .i64 (k + i))), (5, .sc (.int .i64 i))], []⟩) (fun i => i ≤ x.length) (fun i => x.length - i) 0 ?_ (Nat.zero_le _) ?_
  · rw [show k + ((0 : Nat) : Int) = k by omega]
    refine Wk.mk [] ?_
    try simp (maxSteps := 9999999) only [go_sem]
    try (and_intros <;> first | rfl | omega | exact ⟨_, rfl⟩)
  · rintro i hi
    try simp (maxSteps := 9999999) only [go_sem, hl]
    refine CondW_dec (fun hA => ?_) (fun hA => ?_)
    · have hlt : i < x.length := by omega
      have hg : nth (t := .bool) (mkBoolS x k) i = ((k + (i : Nat)) % 3 == 0) := by
        have h := mkBoolS_get x k i hlt
        rw [nth_lt (by rw [hl]; exact hlt)]
        rw [List.getElem?_eq_getElem (by rw [hl]; exact hlt)] at h
        exact Option.some.inj h
      try simp (maxSteps := 9999999) only [go_sem, hl]
      repeat refine And.intro (by first|omega|(constructor<;>omega)|kernel_rfl) ?_
      refine RemW.pos (by omega) (by omega) ?_
      try simp (maxSteps := 9999999) only [go_sem, hg]
      repeat refine And.intro (by first|omega|(constructor<;>omega)|kernel_rfl) ?_
      refine CondW_b (fun h => ?_) (fun h => ?_)
      · exfalso
        revert h
        by_cases e : (k + (i : Nat)) % 3 = 0 <;> simp [e]
      · try simp (maxSteps := 9999999) only [go_sem]
        repeat refine And.intro (by first|omega|(constructor<;>omega)|kernel_rfl) ?_
        refine LoopK.mk (i + 1) ?_ (by omega) (by omega)
        rw [show k + ((i + 1 : Nat) : Int) = k + (i : Int) + 1 by omega]
        refine Wk.mk [] ?_
        try simp (maxSteps := 9999999) only [go_sem]
        try (and_intros <;> first | rfl | omega | exact ⟨_, rfl⟩)
    · have hi2 : i = x.length := by omega
      subst hi2
      try simp (maxSteps := 9999999) only [go_sem]
      all_goals repeat refine And.intro (by first|omega|(constructor<;>omega)|kernel_rfl) ?_
      all_goals first | kernel_rfl | omega | rfl
theorem heldBoolSS_fn (x : DBoolSS) (k : Int) (h0 : 0 ≤ k) (h1 : k + cnBoolSS x ≤ 1073741824) : Fn Tryz.prog 25 [⟨.slice (.slice .bool), mkBoolSS x k⟩, ⟨.int, k⟩] false [⟨.int, k + cnBoolSS x⟩] := by
  have hl := mkBoolSS_len x k
  refine fn_enter tabOK mixes Tryz.func25 rfl rfl _ Tryz.ntmps25 _ Tryz.results25 (by simp) fun hwf => ?_
  try simp (maxSteps := 9999999) only [go_sem, hl]
  refine LoopG.intro _ _ _ (fun i : Nat => ⟨[(0, .sl (.slice .bool) (mkBoolSS x k)), (1, .sc (.int .i64 (k + cnBoolSS (x.take i)))), (5, .sc (.int .i64 i))], []⟩) (fun i => i ≤ x.length) (fun i => x.length - i) 0 ?_ (Nat.zero_le _) ?_
  · rw [show k + ((cnBoolSS (x.take 0) : Nat) : Int) = k by simp [cnBoolSS]]
    refine Wk.mk [] ?_
    try simp (maxSteps := 9999999) only [go_sem]
    try (and_intros <;> first | rfl | omega | exact ⟨_, rfl⟩)
  · rintro i hi
    have hwl : x.length ≤ 9223372036854775807 := by
      have := (hwf ⟨.slice (.slice .bool), mkBoolSS x k⟩ (by simp)).1
      rwa [hl] at this
    try simp (maxSteps := 9999999) only [go_sem, hl]
    refine CondW_dec (fun hA => ?_) (fun hA => ?_)
    · have hlt : i < x.length := by omega
      have hg : nth (t := .slice .bool) (mkBoolSS x k) i = mkBoolS x[i] (k + (cnBoolSS (x.take i) : Nat)) := by
        have h := mkBoolSS_get x k i x[i] (List.getElem?_eq_getElem hlt)
        rw [nth_lt (by rw [hl]; exact hlt)]
        rw [List.getElem?_eq_getElem (by rw [hl]; exact hlt)] at h
        exact Option.some.inj h
      have hec : cnBoolSS (x.take i) + x[i].length = cnBoolSS (x.take (i + 1)) := by rw [List.take_succ_eq_append_getElem hlt, cnBoolSS_snoc]
      have hect := cnBoolSS_take x (i + 1)
      have c1 := heldBoolS_fn x[i] (k + (cnBoolSS (x.take i) : Nat)) (by omega) (by omega)
      rw [← hg, show k + (cnBoolSS (x.take i) : Nat) + (x[i].length : Int) = k + (cnBoolSS (x.take (i + 1)) : Nat) by omega] at c1
      have d1 : decide (k + ((cnBoolSS (x.take (i + 1)) : Nat) : Int) < 0) = false := decide_eq_false (by omega)
      try simp (maxSteps := 9999999) only [go_sem, hl]
      repeat refine And.intro (by first|omega|(constructor<;>omega)|kernel_rfl) ?_
      refine CallW.mk (c1) ?_
      try simp (maxSteps := 9999999) only [go_sem]
      try simp (maxSteps := 9999999) only [go_sem, d1]
      repeat refine And.intro (by first|omega|(constructor<;>omega)|kernel_rfl) ?_
      refine LoopK.mk (i + 1) ?_ (by omega) (by omega)
      refine Wk.mk [] ?_
      try simp (maxSteps := 9999999) only [go_sem]
      try (and_intros <;> first | rfl | omega | exact ⟨_, rfl⟩)
    · have hi2 : i = x.length := by omega
      subst hi2
      rw [List.take_length]
      try simp (maxSteps := 9999999) only [go_sem]
      all_goals repeat refine And.intro (by first|omega|(constructor<;>omega)|kernel_rfl) ?_
      all_goals first | kernel_rfl | omega | rfl
theorem markBoolSS_fn (x : DBoolSS) (k : Int) (h0 : 0 ≤ k) (h1 : k + cnBoolSS x ≤ 1073741824) : FnM Tryz.prog 24 (.slice (.slice .bool)) x (mkBoolSS x k) k (k + cnBoolSS x) := by
  refine FnM.of (enters Tryz.func24 rfl rfl) (small_I64 (by omega) h1) fun w v cs fp hp hx hn hf => ?_
  obtain rfl := pk_one rfl hp
  exact markBoolSS_any _ x k fp w hx hn hf h0 h1
end DW
end Go.Proofs.YtghckbohaghgkaaGreat

/-
  The table of touches is small.
-/
namespace Go.Proofs.YtghckbohaghgkaaGreat.DW
open Go.RowKit
theorem cn_rows {m : Nat} : ∀ {l : List (List Bool)}, (∀ r ∈ l, r.length ≤ m) → cnBoolSS l ≤ l.length * m
  | [], _ => by simp [cnBoolSS]
  | r :: l, h => by
    have h1 := h r List.mem_cons_self
    have h2 := cn_rows (l := l) fun r' hr => h r' (List.mem_cons_of_mem _ hr)
    rw [cnBoolSS, List.length_cons, Nat.succ_mul]
    omega
theorem cn_tab (a b : DT) : cnBoolSS (tabD a b) ≤ 3145728 := by
  unfold tabD
  split
  · rename_i h
    rw [Bool.and_eq_true] at h
    have hla := (tour_parts h.1).2.2.2.1
    have hlb := (tour_parts h.2).2.2.2.1
    have h1 := cn_rows (m := 9) (l := tabTo a b a.2.2.length) fun r hr => by
      obtain ⟨i, _, rfl⟩ := List.mem_map.1 hr
      rw [tabRow_len]; omega
    rw [tabTo_len] at h1
    omega
  · exact Nat.zero_le _
end Go.Proofs.YtghckbohaghgkaaGreat.DW

/-
  The laws' helpers for lists of tours, as contracts on data.
-/
namespace Go.Proofs.YtghckbohaghgkaaGreat
open Go.RowKit
namespace DW
@[go_sem] theorem bts_Tour : bts Tryz.prog 47 = some 168 := by kernel_rfl
end DW
end Go.Proofs.YtghckbohaghgkaaGreat

namespace Go.Proofs.YtghckbohaghgkaaGreat
open Go.RowKit

def ecVec (x : DVec) : Nat := 1 + 1
def emVec (x : DVec) (k : Int) : DVec := (k, k + 1)
def cnVecS : DVecS → Nat
  | [] => 0
  | x :: l => ecVec x + cnVecS l
theorem cnVecS_snoc (l : DVecS) (x : DVec) : cnVecS (l ++ [x]) = cnVecS l + ecVec x := by
  induction l with
  | nil => simp [cnVecS]
  | cons y l ih => simp [cnVecS, ih]; omega
theorem cnVecS_take (l : DVecS) (k : Nat) : cnVecS (l.take k) ≤ cnVecS l := by
  induction l generalizing k with
  | nil => simp [cnVecS]
  | cons y l ih => cases k with
    | zero => simp [cnVecS]
    | succ k => have := ih k; simp [cnVecS]; omega
def mkVecS : DVecS → Int → DVecS
  | [], _ => []
  | x :: l, k => emVec x k :: mkVecS l (k + ecVec x)
theorem mkVecS_len (l : DVecS) (k : Int) : (mkVecS l k).length = l.length := by
  induction l generalizing k with
  | nil => rfl
  | cons y l ih => simp [mkVecS, ih]
theorem mkVecS_snoc (l : DVecS) (x : DVec) (k : Int) : mkVecS (l ++ [x]) k = mkVecS l k ++ [emVec x (k + cnVecS l)] := by
  induction l generalizing k with
  | nil => simp [mkVecS, cnVecS]
  | cons y l ih => simp only [List.cons_append, mkVecS, ih, cnVecS]; rw [show k + (ecVec y : Int) + (cnVecS l : Int) = k + ((ecVec y + cnVecS l : Nat) : Int) from by omega]
def cnTour (x : DTour) : Nat := cnVecS x.1 + cnPlacement x.2.1 + cnStepS x.2.2
def mkTour (x : DTour) (k : Int) : DTour := (mkVecS x.1 k, mkPlacement x.2.1 (k + cnVecS x.1), mkStepS x.2.2 (k + cnVecS x.1 + cnPlacement x.2.1))
set_option maxRecDepth 100000 in
set_option maxHeartbeats 1000000 in
theorem markVecS_any (v : Value) (x : DVecS) (k : Int) (fp : List Nat) (w : World) (hx : RVecS.rep w [v] x fp) (hn : fp.Nodup) (hf : ∀ b ∈ fp, Free w b) (h0 : 0 ≤ k) (h1 : k + cnVecS x ≤ 1073741824) :
    Calls Tryz.prog 57 #[v, .int .i64 k] w (Post (MarkPost RVecS [v] (mkVecS x k) fp (k + cnVecS x) w)) := by
  obtain ⟨ad, c, hv, hlc, hm, hh⟩ := hx
  injection hv with hv
  subst hv
  unfold maxLen at hm
  rcases hh with ⟨rfl, rfl⟩ | ⟨b, off, fps, hl, rfl, rfl, he⟩
  · go_enter Tryz.func57, Tryz.ntmps57
    go_wp2
    go_loopw [1, 5] (fun kk i wr => i = .int .i64 0 ∧ kk = .int .i64 k ∧ wr = w) (fun _ _ _ => 0)
    case atStart => exact ⟨rfl, rfl, rfl⟩
    case round =>
      obtain ⟨rfl, rfl, rfl⟩ := hrel
      go_wp2
      go_ret
      exact ⟨_, rfl, congrArg (Value.int .i64) (by simp [cnVecS]), ⟨ad, c, rfl, hlc, by unfold maxLen; omega, .inl ⟨rfl, rfl⟩⟩, Upto.refl _ _⟩
  have HN := Lib.hid hn; have HF := Lib.hid hf; have HE := Lib.hid he; have HL := Lib.hid hl; clear hn hf he hl
  go_enter Tryz.func57, Tryz.ntmps57
  go_wp2
  go_loopw [1, 5] (fun kk i wr => ∃ j : Nat, j ≤ x.length ∧ i = .int .i64 j ∧ kk = .int .i64 (k + (cnVecS (x.take j) : Nat)) ∧ Elems RVec wr b off (mkVecS (x.take j) k ++ x.drop j) fps ∧ Upto (b :: fps.flatten) w wr) (fun _ i _ => x.length - (intOf i).toNat)
  case atStart => exact ⟨0, Nat.zero_le _, rfl, congrArg (Value.int .i64) (by simp [cnVecS]), by simpa [mkVecS] using HE.out, Upto.refl _ _⟩
  case round =>
    obtain ⟨j, hj, rfl, rfl, hE, hU⟩ := hrel
    have HEr := Lib.hid hE; have HU := Lib.hid hU; clear hE hU
    by_cases hjl : j < x.length
    rotate_left
    · obtain rfl : j = x.length := by omega
      go_wp2
      go_ret
      have h := HEr.out
      rw [List.take_length, List.drop_length, List.append_nil] at h
      have hml := mkVecS_len x k
      exact ⟨_, rfl, congrArg (Value.int .i64) (by rw [List.take_length]), ⟨_, c, by rw [hml], by rw [hml]; exact hlc, by unfold maxLen; omega, .inr ⟨b, off, fps, fun e => HL.out (List.eq_nil_of_length_eq_zero (by rw [← hml, e]; rfl)), rfl, rfl, h⟩⟩, HU.out⟩
    have hml : (mkVecS (x.take j) k).length = j := by rw [mkVecS_len, List.length_take]; omega
    have hget : (mkVecS (x.take j) k ++ x.drop j)[j]? = some x[j] := by rw [List.getElem?_append_right (by omega), hml]; simp
    obtain ⟨f, cs, hfj, hr, hcs⟩ := HEr.out.2 j _ hget
    have hfr := HU.out.free b List.mem_cons_self (HF.out b List.mem_cons_self)
    have hbf : b ∉ f := fun h => (List.nodup_cons.1 HN.out).1 (flat_mem hfj b h)
    have hff : ∀ z ∈ f, Free wr z := fun z hz => HU.out.free z (List.mem_cons_of_mem _ (flat_mem hfj z hz)) (HF.out z (List.mem_cons_of_mem _ (flat_mem hfj z hz)))
    have hfn : f.Nodup := (List.pairwise_flatten.1 (List.nodup_cons.1 HN.out).2).1 f (List.mem_of_getElem? hfj)
    have hec : cnVecS (x.take j) + ecVec x[j] = cnVecS (x.take (j + 1)) := by rw [List.take_succ_eq_append_getElem hjl, cnVecS_snoc]
    have hect := cnVecS_take x (j + 1)
    obtain ⟨q, hq⟩ : ∃ q : Int, q = k + (cnVecS (x.take j) : Nat) := ⟨_, rfl⟩
    have hq0 : 0 ≤ q := by omega
    have hq1 : q + (ecVec x[j] : Nat) ≤ 1073741824 := by omega
    rw [← hq]
    have HQ := Lib.hid hq; have HEC := Lib.hid hec; have HML := Lib.hid hml; have HFJ := Lib.hid hfj
    clear hq hec hml hget hfj hect
    obtain ⟨c0, c1, rfl⟩ := list2 (RVec.len hr)
    obtain ⟨f0, f1, rfl, hp0, hp1⟩ := rep_split [c0] [c1] rfl hr
    obtain ⟨he0, rfl, hI0⟩ := hp0
    injection he0 with he0; subst he0
    obtain ⟨he1, rfl, hI1⟩ := hp1
    injection he1 with he1; subst he1
    have hnd := hfn
    simp only [List.nil_append, List.append_assoc] at hnd
    have HFF := Lib.hid hff; have HBF := Lib.hid hbf; clear hff hbf hfn
    have nd0 := hnd
    have hqe := hq1; simp only [ecVec] at hqe
    have hbl0 : b < wr.heap.size := hfr.lt
    have g0 : wr.cell? ⟨b, off + j * 2, none⟩ = some (Value.int .i64 x[j].1) := hcs 0 _ rfl
    have g1 : wr.cell? ⟨b, off + j * 2 + 1, none⟩ = some (Value.int .i64 x[j].2) := hcs 1 _ rfl
    have hfz := hfr.frozen
    have HT0 := Lib.hid (Upto.refl (b :: ([] ++ [])) wr)
    clear hcs hfr
    go_wp2
    go_roundw
    case rel =>
      have hBe : Upto [b] wr _ := (((Upto.refl [b] wr).setCell (p := ⟨b, off + j * 2, none⟩) List.mem_cons_self (Value.int .i64 (q))).setCell (p := ⟨b, off + j * 2 + 1, none⟩) List.mem_cons_self (Value.int .i64 (q + 1)))
      have e0 : ((wr.setCell ⟨b, off + j * 2, none⟩ (Value.int .i64 (q))).setCell ⟨b, off + j * 2 + 1, none⟩ (Value.int .i64 (q + 1))).cell? ⟨b, off + j * 2, none⟩ = some (Value.int .i64 (q)) := by simp [go_sem, g0]
      have e1 : ((wr.setCell ⟨b, off + j * 2, none⟩ (Value.int .i64 (q))).setCell ⟨b, off + j * 2 + 1, none⟩ (Value.int .i64 (q + 1))).cell? ⟨b, off + j * 2 + 1, none⟩ = some (Value.int .i64 (q + 1)) := by simp [go_sem, g1]
      have hup := HEr.out.update (w' := ((wr.setCell ⟨b, off + j * 2, none⟩ (Value.int .i64 (q))).setCell ⟨b, off + j * 2 + 1, none⟩ (Value.int .i64 (q + 1)))) (x' := emVec x[j] q) (cs' := [(Value.int .i64 (q)), (Value.int .i64 (q + 1))]) HN.out HFJ.out (rep_pair (rep_int [] (by first | rfl | (simp only [ecVec]; omega)) (by constructor <;> omega)) (rep_int [] (by first | rfl | (simp only [ecVec]; omega)) (by constructor <;> omega))) (cells_cons e0 (cells_cons e1 cells_nil))
        (fun z hz hzb hzf => (((HT0.out.setCell (p := ⟨b, off + j * 2, none⟩) List.mem_cons_self (Value.int .i64 (q))).setCell (p := ⟨b, off + j * 2 + 1, none⟩) List.mem_cons_self (Value.int .i64 (q + 1)))).block z hz (by rw [List.mem_cons]; exact fun h => h.elim hzb hzf))
        (fun o ho => have ho : o < off + j * 2 ∨ off + j * 2 + 2 ≤ o := by have h1 : (j + 1) * 2 = j * 2 + 2 := Nat.succ_mul _ _; have h2 : o < off + j * 2 ∨ off + (j + 1) * 2 ≤ o := ho; omega
          ((setCell_out (Value.int .i64 (q + 1)) (by omega)).trans ((setCell_out (Value.int .i64 (q)) (by omega)).trans rfl)))
      have e : (mkVecS (x.take j) k ++ x.drop j).set j (emVec x[j] q) = mkVecS (x.take (j + 1)) k ++ x.drop (j + 1) := by
        rw [List.set_append_right _ _ (by rw [HML.out]; exact Nat.le_refl _), HML.out, Nat.sub_self, List.drop_eq_getElem_cons hjl, List.set_cons_zero, List.take_succ_eq_append_getElem hjl, mkVecS_snoc, ← HQ.out]
        simp
      rw [e] at hup
      refine ⟨j + 1, by omega, by go_num, congrArg (Value.int .i64) ?_, hup, HU.out.trans ((((HT0.out.setCell (p := ⟨b, off + j * 2, none⟩) List.mem_cons_self (Value.int .i64 (q))).setCell (p := ⟨b, off + j * 2 + 1, none⟩) List.mem_cons_self (Value.int .i64 (q + 1)))).mono ?_)⟩
      · have h1 := HQ.out; have h2 := HEC.out; simp only [ecVec] at h2; omega
      · intro z hz; rcases List.mem_cons.1 hz with rfl | hz; exact List.mem_cons_self; exact List.mem_cons_of_mem _ (flat_mem HFJ.out z hz)
    case measure => simp [intOf]; omega
set_option maxRecDepth 100000 in
set_option maxHeartbeats 1000000 in
theorem markTour_any (c0 c1 c2 c3 c4 c5 c6 c7 c8 : Value) (x : DTour) (k : Int) (fp : List Nat) (w : World) (hx : RTour.rep w [c0, c1, c2, c3, c4, c5, c6, c7, c8] x fp) (hn : fp.Nodup) (hf : ∀ b ∈ fp, Free w b) (h0 : 0 ≤ k) (h1 : k + cnTour x ≤ 1073741824) :
    Calls Tryz.prog 23 #[.agg #[c0, c1, c2, c3, c4, c5, c6, c7, c8], .int .i64 k] w (Post (MarkPost RTour [c0, c1, c2, c3, c4, c5, c6, c7, c8] (mkTour x k) fp (k + cnTour x) w)) := by
  have hlt := RTour.lt hx
  obtain ⟨f0, frest, rfl, hr0, hrest⟩ := rep_split [c0] [c1, c2, c3, c4, c5, c6, c7, c8] rfl hx
  obtain ⟨f1, f2, rfl, hr1, hr2⟩ := rep_split [c1, c2, c3, c4, c5, c6, c7] [c8] rfl hrest
  obtain ⟨nd0, nd12, dj0, dj0'⟩ := nodup_app hn
  obtain ⟨nd1, nd2, dj1, dj1'⟩ := nodup_app nd12
  have m0 : ∀ b, b ∈ f0 → b ∈ f0 ++ (f1 ++ f2) := fun b hb => List.mem_append.2 (.inl hb)
  have m1 : ∀ b, b ∈ f1 → b ∈ f0 ++ (f1 ++ f2) := fun b hb => List.mem_append.2 (.inr (List.mem_append.2 (.inl hb)))
  have m2 : ∀ b, b ∈ f2 → b ∈ f0 ++ (f1 ++ f2) := fun b hb => List.mem_append.2 (.inr (List.mem_append.2 (.inr hb)))
  have n01 : ∀ b, b ∈ f0 → b ∉ f1 := fun b h g => dj0 b h (List.mem_append.2 (.inl g))
  have n02 : ∀ b, b ∈ f0 → b ∉ f2 := fun b h g => dj0 b h (List.mem_append.2 (.inr g))
  have n10 : ∀ b, b ∈ f1 → b ∉ f0 := fun b h g => n01 b g h
  have n20 : ∀ b, b ∈ f2 → b ∉ f0 := fun b h g => n02 b g h
  have HR0 := Lib.hid hr0; have HR1 := Lib.hid hr1; have HR2 := Lib.hid hr2
  have HF := Lib.hid hf; have HLT := Lib.hid hlt; clear hr0 hr1 hr2 hn hf hlt hx hrest
  have hub := h1; unfold cnTour at hub
  have hp0 : (0 : Int) ≤ (cnVecS x.1 : Nat) := Int.natCast_nonneg _
  have hp1 : (0 : Int) ≤ (cnPlacement x.2.1 : Nat) := Int.natCast_nonneg _
  have hp2 : (0 : Int) ≤ (cnStepS x.2.2 : Nat) := Int.natCast_nonneg _
  have hend : k + (cnVecS x.1 : Nat) + (cnPlacement x.2.1 : Nat) + (cnStepS x.2.2 : Nat) = k + (cnTour x : Nat) := by unfold cnTour; omega
  have HEND := Lib.hid hend; clear hend
  go_enter Tryz.func23, Tryz.ntmps23
  have hu0 : Below w.heap.size w (w.alloc (Obj.cells #[c0, c1, c2, c3, c4, c5, c6, c7, c8] 47)) := (Below.refl w.heap.size w).alloc (Nat.le_refl _) _
  go_wp2_with fail
  refine (markVecS_any _ _ _ f0 _ (RVecS.frame HR0.out fun b hb => hu0.block b (HLT.out b (m0 b hb))) nd0 (fun b hb => (HF.out b (m0 b hb)).frame (hu0.block b (HLT.out b (m0 b hb)))) (by omega) (by omega)).mono ?_
  rintro e w1 ⟨v, rfl, rfl, hm1, hu1⟩
  have HMM1 := Lib.hid hm1; clear hm1
  have hcb1 : ∀ o, w1.cell? ⟨w.heap.size, o, none⟩ = (w.alloc (Obj.cells #[c0, c1, c2, c3, c4, c5, c6, c7, c8] 47)).cell? ⟨w.heap.size, o, none⟩ := fun o => hu1.cell (by simp) (fun hb => absurd (HLT.out _ (m0 _ hb)) (by omega)) o
  go_wp2_with fail
  have hr11 : RPlacement.rep w1 [c1, c2, c3, c4, c5, c6, c7] x.2.1 f1 := Rp.upto (RPlacement.frame HR1.out fun b hb => hu0.block b (HLT.out b (m1 b hb))) hu1 n10
  have hfr1 : ∀ b ∈ f1, Free w1 b := fun b hb => ((HF.out b (m1 b hb)).frame (hu0.block b (HLT.out b (m1 b hb)))).frame (hu1.block b (Nat.lt_of_lt_of_le (HLT.out b (m1 b hb)) hu0.size) (n10 b hb))
  have hr21 : RStepS.rep w1 [c8] x.2.2 f2 := Rp.upto (RStepS.frame HR2.out fun b hb => hu0.block b (HLT.out b (m2 b hb))) hu1 n20
  have hfr2 : ∀ b ∈ f2, Free w1 b := fun b hb => ((HF.out b (m2 b hb)).frame (hu0.block b (HLT.out b (m2 b hb)))).frame (hu1.block b (Nat.lt_of_lt_of_le (HLT.out b (m2 b hb)) hu0.size) (n20 b hb))
  have hlt1 : ∀ b ∈ f1 ++ f2, b < w1.heap.size := fun b hb => Nat.lt_of_lt_of_le (HLT.out b (List.mem_append.2 (.inr hb))) (Nat.le_trans hu0.size hu1.size)
  refine (markPlacement_any _ _ _ _ _ _ _ _ _ f1 _ hr11 nd1 hfr1 (by omega) (by omega)).mono ?_
  rintro e w2 ⟨v, rfl, rfl, hm2, hu2⟩
  have HMM2 := Lib.hid hm2; clear hm2
  have hcb2 : ∀ o, w2.cell? ⟨w.heap.size, o, none⟩ = (w.alloc (Obj.cells #[c0, c1, c2, c3, c4, c5, c6, c7, c8] 47)).cell? ⟨w.heap.size, o, none⟩ := fun o => (hu2.cell (Nat.lt_of_lt_of_le (by simp) hu1.size) (fun hb => absurd (HLT.out _ (m1 _ hb)) (by omega)) o).trans (hcb1 o)
  go_wp2_with fail
  have hr22 : RStepS.rep w2 [c8] x.2.2 f2 := Rp.upto hr21 hu2 dj1'
  have hfr22 : ∀ b ∈ f2, Free w2 b := fun b hb => (hfr2 b hb).frame (hu2.block b (hlt1 b (List.mem_append.2 (.inr hb))) (dj1' b hb))
  refine (markStepS_any _ _ _ f2 _ hr22 nd2 hfr22 (by omega) (by omega)).mono ?_
  rintro e w3 ⟨v, rfl, rfl, hm3, hu3⟩
  have HMM3 := Lib.hid hm3; clear hm3
  go_wp2
  go_ret
  exact ⟨_, rfl, congrArg (Value.int .i64) HEND.out, rep_pair (Rp.upto (Rp.upto HMM1.out hu2 n01) hu3 n02) (rep_pair (Rp.upto HMM2.out hu3 dj1) HMM3.out),
    (((Upto.of_below hu0 (Nat.le_refl _)).trans (hu1.mono fun b hb => m0 b hb)).trans (hu2.mono fun b hb => m1 b hb)).trans (hu3.mono fun b hb => m2 b hb)⟩
namespace DW
theorem markTour_fn (x : DTour) (k : Int) (h0 : 0 ≤ k) (h1 : k + cnTour x ≤ 1073741824) : FnM Tryz.prog 23 DW.tTour x (mkTour x k) k (k + cnTour x) := by
  refine FnM.of (enters Tryz.func23 rfl rfl) (small_I64 (by omega) h1) fun w v cs fp hp hx hn hf => ?_
  obtain rfl := pk_agg rfl hp
  obtain ⟨c0, c1, c2, c3, c4, c5, c6, c7, c8, rfl⟩ := list9 (RTour.len hx)
  exact markTour_any _ _ _ _ _ _ _ _ _ x k fp w hx hn hf h0 h1
@[go_sem] theorem mkTour_sc0 (x : DTour) (k : Int) : (mkTour x k).2.1.1 = x.2.1.1 := (rfl)
@[go_sem] theorem mkTour_sc1 (x : DTour) (k : Int) : (mkTour x k).2.1.2.1.1.1 = x.2.1.2.1.1.1 := (rfl)
@[go_sem] theorem mkTour_sc2 (x : DTour) (k : Int) : (mkTour x k).2.1.2.2.1.1 = x.2.1.2.2.1.1 := (rfl)
theorem cnVecS_le (x : DVecS) : cnVecS x = 2 * x.length := by
  induction x with
  | nil => rfl
  | cons y l ih => rw [cnVecS, ih, List.length_cons]; unfold ecVec; omega
end DW
theorem cnTour_le (x : DTour) : cnTour x ≤ 3 * tTour x := by
  have h1 := DW.cnVecS_le x.1
  have h2 := cnPlacement_le x.2.1
  have h3 := cnStepS_le x.2.2
  unfold cnTour tTour
  omega
end Go.Proofs.YtghckbohaghgkaaGreat

/-
  The arguments' types of this program, opened: vectors and tours.
-/
namespace Go.Proofs.YtghckbohaghgkaaGreat
open Go.RowKit
section
variable {H : Type} {enc : TypeId × Value → H} {w : World} {P : Program}
theorem Opens.prod3 {α β γ : Type} {t : TypeId} {A : Rp α} {B : Rp β} {C : Rp γ} {f0 f1 f2 : Field} (ht : P.underlying t = some (.struct #[f0, f1, f2])) (o0 : f0.offset = 0) (o1 : f1.offset = A.size) (o2 : f2.offset = A.size + B.size)
    (s0 : P.cellsOf f0.type = A.size) (s1 : P.cellsOf f1.type = B.size) (s2 : P.cellsOf f2.type = C.size) (s : P.cellsOf t = A.size + (B.size + C.size)) (h0 : Opens enc P w f0.type A) (h1 : Opens enc P w f1.type B) (h2 : Opens enc P w f2.type C) : Opens enc P w t (Rp.prod A (Rp.prod B C)) := fun fuel cs x h => by
  obtain ⟨xs, n, _, _, hl, hxl, hf⟩ := DataW.trod_struct ht h
  have e0 := hf 0 f0 rfl
  have e1 := hf 1 f1 rfl
  have e2 := hf 2 f2 rfl
  have hxl' : xs.length = 3 := hxl
  rw [o0, s0, List.getElem?_eq_getElem (by omega)] at e0
  rw [o1, s1, List.getElem?_eq_getElem (by omega)] at e1
  rw [o2, s2, List.getElem?_eq_getElem (by omega)] at e2
  obtain ⟨a, fa, ra⟩ := h0 _ _ _ e0
  obtain ⟨b, fb, rb⟩ := h1 _ _ _ e1
  obtain ⟨c, fc, rc⟩ := h2 _ _ _ e2
  refine ⟨(a, b, c), fa ++ (fb ++ fc), _, cs.drop A.size, fa, fb ++ fc, ?_, rfl, ra, _, _, fb, fc, ?_, rfl, rb, rc⟩
  · rw [List.drop_zero, List.take_append_drop]
  · rw [← List.drop_drop, List.take_of_length_le (show ((cs.drop A.size).drop B.size).length ≤ C.size by simp; omega), List.take_append_drop]
theorem oVec : Opens enc Tryz.prog w 123 RVec := Opens.prod Tryz.underlying123 rfl rfl (by kernel_rfl) (by kernel_rfl) (by kernel_rfl) oInt oInt
theorem oVecS : Opens enc Tryz.prog w 22 RVecS := Opens.slice Tryz.underlying22 (by kernel_rfl) oVec
theorem oTour : Opens enc Tryz.prog w 34 RTour := Opens.prod3 Tryz.underlying34 rfl rfl rfl (by kernel_rfl) (by kernel_rfl) (by kernel_rfl) (by kernel_rfl) oVecS oPlacement oStepS
end
end Go.Proofs.YtghckbohaghgkaaGreat

/-
  The law FnExactTouchTable returns true: the walk through it on data, by the contracts.
-/
namespace Go.Proofs.YtghckbohaghgkaaGreat.DW
open Go.RowKit

set_option maxRecDepth 100000 in
set_option maxHeartbeats 8000000 in
theorem lawTouchTable_fn (x0 : DTour) (x1 : DTour) : Fn Tryz.prog 6 [⟨DW.tTour, x0⟩, ⟨DW.tTour, x1⟩] false [⟨.bool, true⟩] := by
  refine fn_enter tabOK mixes Tryz.func6 rfl rfl _ Tryz.ntmps6 _ Tryz.results6 (by simp) fun hwf => ?_
  try simp (maxSteps := 9999999) only [go_sem]
  repeat refine And.intro (by first|omega|(constructor<;>omega)|kernel_rfl) ?_
  refine CallW.mk (szTour_fn x0 1048576 (by omega) (by omega)) ?_
  try simp (maxSteps := 9999999) only [go_sem]
  repeat refine And.intro (by first|omega|(constructor<;>omega)|kernel_rfl) ?_
  have hr0 := szr_lo 1048576 (Go.Proofs.YtghckbohaghgkaaGreat.tTour x0) (by omega)
  refine CondW_dec (fun hlt => ?_) (fun hge0 => ?_)
  · try simp (maxSteps := 9999999) only [go_sem]
  have hge0' : 0 ≤ szr 1048576 (Go.Proofs.YtghckbohaghgkaaGreat.tTour x0) := by omega
  try simp (maxSteps := 9999999) only [go_sem]
  repeat refine And.intro (by first|omega|(constructor<;>omega)|kernel_rfl) ?_
  refine CallW.mk (szTour_fn x1 (szr 1048576 (Go.Proofs.YtghckbohaghgkaaGreat.tTour x0)) (by omega) (by omega)) ?_
  try simp (maxSteps := 9999999) only [go_sem]
  repeat refine And.intro (by first|omega|(constructor<;>omega)|kernel_rfl) ?_
  have hr1 := szr_lo (szr 1048576 (Go.Proofs.YtghckbohaghgkaaGreat.tTour x0)) (Go.Proofs.YtghckbohaghgkaaGreat.tTour x1) (by omega)
  refine CondW_dec (fun hlt => ?_) (fun hge1 => ?_)
  · try simp (maxSteps := 9999999) only [go_sem]
  have hge1' : 0 ≤ szr (szr 1048576 (Go.Proofs.YtghckbohaghgkaaGreat.tTour x0)) (Go.Proofs.YtghckbohaghgkaaGreat.tTour x1) := by omega
  have hs0 := (szr_ok hge0').1
  have hs1 := (szr_ok hge1').1
  have hle0 : Go.Proofs.YtghckbohaghgkaaGreat.tTour x0 ≤ 1048576 := by omega
  have hle1 : Go.Proofs.YtghckbohaghgkaaGreat.tTour x1 ≤ 1048576 := by omega
  clear hr0 hs0 hge0 hge0' hr1 hs1 hge1 hge1'
  try simp (maxSteps := 9999999) only [go_sem]
  repeat refine And.intro (by first|omega|(constructor<;>omega)|kernel_rfl) ?_
  refine CallW.mk (toTour_fn x0 hle0) ?_
  try simp (maxSteps := 9999999) only [go_sem]
  repeat refine And.intro (by first|omega|(constructor<;>omega)|kernel_rfl) ?_
  refine CallW.mk (toTour_fn x1 hle1) ?_
  try simp (maxSteps := 9999999) only [go_sem]
  repeat refine And.intro (by first|omega|(constructor<;>omega)|kernel_rfl) ?_
  refine CallW.mk (TouchTableS_fn x0 x1) ?_
  try simp (maxSteps := 9999999) only [go_sem]
  repeat refine And.intro (by first|omega|(constructor<;>omega)|kernel_rfl) ?_
  refine CallW.mx (toTour_fn x0 hle0) ?_
  try simp (maxSteps := 9999999) only [go_sem]
  repeat refine And.intro (by first|omega|(constructor<;>omega)|kernel_rfl) ?_
  refine CallW.mx (toTour_fn x1 hle1) ?_
  try simp (maxSteps := 9999999) only [go_sem]
  repeat refine And.intro (by first|omega|(constructor<;>omega)|kernel_rfl) ?_
  refine CallW.mx (TouchTableI_fn x0 x1) ?_
  try simp (maxSteps := 9999999) only [go_sem]
  repeat refine And.intro (by first|omega|(constructor<;>omega)|kernel_rfl) ?_
  refine CallW.mx (eqBoolSS_fn (tabD x0 x1) (tabD x0 x1)) ?_
  try simp (maxSteps := 9999999) only [go_sem]
  repeat refine And.intro (by first|omega|(constructor<;>omega)|kernel_rfl) ?_
  refine CallW.mk (toTour_fn x0 hle0) ?_
  try simp (maxSteps := 9999999) only [go_sem]
  repeat refine And.intro (by first|omega|(constructor<;>omega)|kernel_rfl) ?_
  refine CallW.mx (eqTour_fn x0 x0) ?_
  try simp (maxSteps := 9999999) only [go_sem]
  repeat refine And.intro (by first|omega|(constructor<;>omega)|kernel_rfl) ?_
  refine CallW.mk (toTour_fn x1 hle1) ?_
  try simp (maxSteps := 9999999) only [go_sem]
  repeat refine And.intro (by first|omega|(constructor<;>omega)|kernel_rfl) ?_
  refine CallW.mx (eqTour_fn x1 x1) ?_
  try simp (maxSteps := 9999999) only [go_sem]
  have hc0 : Go.Proofs.YtghckbohaghgkaaGreat.cnTour x0 ≤ 3145728 := by have := Go.Proofs.YtghckbohaghgkaaGreat.cnTour_le x0; omega
  repeat refine And.intro (by first|omega|(constructor<;>omega)|kernel_rfl) ?_
  refine CallW.m (markTour_fn x0 1 (by omega) (by omega)) ?_
  try simp (maxSteps := 9999999) only [go_sem]
  have hc1 : Go.Proofs.YtghckbohaghgkaaGreat.cnTour x1 ≤ 3145728 := by have := Go.Proofs.YtghckbohaghgkaaGreat.cnTour_le x1; omega
  repeat refine And.intro (by first|omega|(constructor<;>omega)|kernel_rfl) ?_
  refine CallW.m (markTour_fn x1 (1 + (Go.Proofs.YtghckbohaghgkaaGreat.cnTour x0 : Nat)) (by omega) (by omega)) ?_
  try simp (maxSteps := 9999999) only [go_sem]
  have hkf : decide ((1 : Int) + (Go.Proofs.YtghckbohaghgkaaGreat.cnTour x0 : Int) + (Go.Proofs.YtghckbohaghgkaaGreat.cnTour x1 : Int) < 0) = false := decide_eq_false (by omega)
  try simp (maxSteps := 9999999) only [go_sem, hkf]
  repeat refine And.intro (by first|omega|(constructor<;>omega)|kernel_rfl) ?_
  refine CallW.mx (eqBoolSS_fn (tabD x0 x1) (tabD x0 x1)) ?_
  try simp (maxSteps := 9999999) only [go_sem]
  have hcg := cn_tab x0 x1
  repeat refine And.intro (by first|omega|(constructor<;>omega)|kernel_rfl) ?_
  refine CallW.m (markBoolSS_fn (tabD x0 x1) 1 (by omega) (by omega)) ?_
  try simp (maxSteps := 9999999) only [go_sem]
  repeat refine And.intro (by first|omega|(constructor<;>omega)|kernel_rfl) ?_
  refine CallW.mx (heldBoolSS_fn (tabD x0 x1) 1 (by omega) (by omega)) ?_
  try simp (maxSteps := 9999999) only [go_sem]
  repeat refine And.intro (by first|omega|(constructor<;>omega)|kernel_rfl) ?_
  refine CondW_dec (fun hlt => absurd hlt (by omega)) (fun _ => ?_)
  try simp (maxSteps := 9999999) only [go_sem]
  repeat refine And.intro (by first|omega|(constructor<;>omega)|kernel_rfl) ?_
  refine CallW.mk (toTour_fn x0 hle0) ?_
  try simp (maxSteps := 9999999) only [go_sem]
  repeat refine And.intro (by first|omega|(constructor<;>omega)|kernel_rfl) ?_
  refine CallW.mk (toTour_fn x1 hle1) ?_
  try simp (maxSteps := 9999999) only [go_sem]
  repeat refine And.intro (by first|omega|(constructor<;>omega)|kernel_rfl) ?_
  refine CallW.mx (TouchTableI_fn x0 x1) ?_
  try simp (maxSteps := 9999999) only [go_sem]
  repeat refine And.intro (by first|omega|(constructor<;>omega)|kernel_rfl) ?_
  refine CallW.mx (eqBoolSS_fn (tabD x0 x1) (tabD x0 x1)) ?_
  try simp (maxSteps := 9999999) only [go_sem]
  repeat refine And.intro (by first|omega|(constructor<;>omega)|kernel_rfl) ?_
  refine CallW.mx (heldBoolSS_fn (tabD x0 x1) 1 (by omega) (by omega)) ?_
  try simp (maxSteps := 9999999) only [go_sem]
  repeat refine And.intro (by first|omega|(constructor<;>omega)|kernel_rfl) ?_
  refine CondW_dec (fun hlt => absurd hlt (by omega)) (fun _ => ?_)
  try simp (maxSteps := 9999999) only [go_sem]
end Go.Proofs.YtghckbohaghgkaaGreat.DW
namespace Go.Proofs.YtghckbohaghgkaaGreat
open Go.RowKit DW
theorem law_FnExactTouchTable (a0_0 a0_1 a0_2 a0_3 a0_4 a0_5 a0_6 a0_7 a0_8 : Value) (x0 : DTour) (a1_0 a1_1 a1_2 a1_3 a1_4 a1_5 a1_6 a1_7 a1_8 : Value) (x1 : DTour) (w : World) (hx0 : Has RTour w [a0_0, a0_1, a0_2, a0_3, a0_4, a0_5, a0_6, a0_7, a0_8] x0) (hx1 : Has RTour w [a1_0, a1_1, a1_2, a1_3, a1_4, a1_5, a1_6, a1_7, a1_8] x1) :
    Calls Tryz.prog 6 #[.agg #[a0_0, a0_1, a0_2, a0_3, a0_4, a0_5, a0_6, a0_7, a0_8], .agg #[a1_0, a1_1, a1_2, a1_3, a1_4, a1_5, a1_6, a1_7, a1_8]] w (Post fun r w' => r = .bool true ∧ Below w.heap.size w w') :=
  (DW.lawTouchTable_fn x0 x1).bool (vs := [.agg #[a0_0, a0_1, a0_2, a0_3, a0_4, a0_5, a0_6, a0_7, a0_8], .agg #[a1_0, a1_1, a1_2, a1_3, a1_4, a1_5, a1_6, a1_7, a1_8]]) ⟨Arg.agg (t := DW.tTour) (cs := [a0_0, a0_1, a0_2, a0_3, a0_4, a0_5, a0_6, a0_7, a0_8]) rfl hx0, Arg.agg (t := DW.tTour) (cs := [a1_0, a1_1, a1_2, a1_3, a1_4, a1_5, a1_6, a1_7, a1_8]) rfl hx1, trivial⟩
end Go.Proofs.YtghckbohaghgkaaGreat
