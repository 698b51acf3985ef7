/-
  Texts of a proof, one behind another: Dw7, Dw8, Z, Dw9, Dw10, Dw11, Dw12, Dw13, Dw16.
-/
import Derived.Test.YtgffgcpcjpjfgaaGreatKT3
set_option linter.all false
/-
  Quotients of natural numbers.
-/
namespace Go.Proofs.YtgffgcpcjpjfgaaGreat.DW
open Go.RowKit
theorem ni_set_self {l : List Int} {i : Nat} {d : Int} (h : i < l.length) : ni (l.set i d) i = d := by
  rw [ni_lt (by simpa using h)]; simp
theorem trim_shift (d r : Nat) (h : d < 1000000000) : trimL ((d : Int) :: natL r) = natL (r * 1000000000 + d) := by
  show trimL ([(d : Int)] ++ natL r) = _
  rw [trimL_val (lims_app (lims_one (by omega) (by omega)) (lims_natL r)), val_app, val_one, val_natL, Int.toNat_natCast]
  congr 1
  show d + pw 1 * r = _
  rw [pw_one]; omega
theorem trimmed_shift (d r : Nat) (h : d < 1000000000) : Fn Tryz.prog 163 [⟨tInts, (d : Int) :: natL r⟩] false [⟨tInts, natL (r * 1000000000 + d)⟩] := by
  have := trimmed_fn ((d : Int) :: natL r)
  rw [trim_shift d r h] at this
  exact this
theorem l02Trim_shift (d r : Nat) (h : d < 1000000000) : Fn Tryz.prog 190 [⟨tInts, (d : Int) :: natL r⟩] false [⟨tInts, natL (r * 1000000000 + d)⟩] := by
  have := l02Trim_fn ((d : Int) :: natL r)
  rw [trim_shift d r h] at this
  exact this
theorem nl_shift {r b d : Nat} (hr : r < b) (hd : d < 1000000000) : r * 1000000000 + d < b * 1000000000 ∧ nl (r * 1000000000 + d) ≤ nl b + 1 := by
  refine ⟨by omega, ?_⟩
  rw [nl_iff, pw_succ]
  have := lt_nl b
  omega
theorem dg_one {b : Nat} (h : nl b = 1) : dg b 0 = b := by
  rw [dg_zero]; exact Nat.mod_eq_of_lt (nl_iff.1 (by omega : nl b ≤ 1))
theorem natDiv_fn (a b : Nat) (hb0 : 0 < b) (ha : nl a ≤ 40000) (hb : nl b ≤ 40000) : Fn Tryz.prog 160 [⟨tInts, natL a⟩, ⟨tInts, natL b⟩] false [⟨tInts, natL (a / b)⟩, ⟨tInts, natL (a % b)⟩] := by
  have hbn : nl b ≠ 0 := fun h => by rw [nl_eq_zero.1 h] at hb0; omega
  refine fn_enter tabOK mixes Tryz.func160 rfl rfl _ Tryz.ntmps160 _ Tryz.results160 (by simp) fun hwf => ?_
  try simp (config := { maxSteps := 10000000 }) only [go_sem, reduceIte, reduceCtorEq, Nat.reduceEqDiff, Nat.reduceLT, Nat.reduceLeDiff, Nat.reduceAdd, Nat.reduceBEq, Nat.reduceMul, Int.reduceToNat, Int.reduceLE, Int.reduceLT, Int.reduceEq, Int.reduceNeg]
  repeat (refine And.intro (by first | omega | (constructor <;> omega) | kernel_rfl) ?_)
  refine CallW.mk (natCmp_fn (natL a) (natL b)) ?_
  try simp (config := { maxSteps := 10000000 }) only [go_sem, reduceIte, reduceCtorEq, Nat.reduceEqDiff, Nat.reduceLT, Nat.reduceLeDiff, Nat.reduceAdd, Nat.reduceBEq, Nat.reduceMul, Int.reduceToNat, Int.reduceLE, Int.reduceLT, Int.reduceEq, Int.reduceNeg]
  refine CondW_dec (fun hA => ?_) (fun hA => ?_)
  · rw [cmpN_lt] at hA
    try simp (config := { maxSteps := 10000000 }) only [go_sem, reduceIte, reduceCtorEq, Nat.reduceEqDiff, Nat.reduceLT, Nat.reduceLeDiff, Nat.reduceAdd, Nat.reduceBEq, Nat.reduceMul, Int.reduceToNat, Int.reduceLE, Int.reduceLT, Int.reduceEq, Int.reduceNeg]
    rw [Nat.div_eq_of_lt hA, Nat.mod_eq_of_lt hA, natL_zero]
    exact ⟨rfl, rfl⟩
  · rw [cmpN_lt] at hA
    try simp (config := { maxSteps := 10000000 }) only [go_sem, reduceIte, reduceCtorEq, Nat.reduceEqDiff, Nat.reduceLT, Nat.reduceLeDiff, Nat.reduceAdd, Nat.reduceBEq, Nat.reduceMul, Int.reduceToNat, Int.reduceLE, Int.reduceLT, Int.reduceEq, Int.reduceNeg]
    refine CondW_dec (fun hB => ?_) (fun hB => ?_)
    · have h1 : nl b = 1 := by omega
      have hb9 : b < 1000000000 := nl_iff.1 (by omega : nl b ≤ 1)
      try simp (config := { maxSteps := 10000000 }) only [go_sem, reduceIte, reduceCtorEq, Nat.reduceEqDiff, Nat.reduceLT, Nat.reduceLeDiff, Nat.reduceAdd, Nat.reduceBEq, Nat.reduceMul, Int.reduceToNat, Int.reduceLE, Int.reduceLT, Int.reduceEq, Int.reduceNeg, hB]
      rw [dg_one h1]
      repeat (refine And.intro (by first | omega | (constructor <;> omega) | kernel_rfl) ?_)
      repeat (refine And.intro (by first | omega | (constructor <;> omega) | kernel_rfl) ?_)
      refine CallW.mk (natDivSmall_fn a b hb0 hb9 (by omega)) ?_
      try simp (config := { maxSteps := 10000000 }) only [go_sem, reduceIte, reduceCtorEq, Nat.reduceEqDiff, Nat.reduceLT, Nat.reduceLeDiff, Nat.reduceAdd, Nat.reduceBEq, Nat.reduceMul, Int.reduceToNat, Int.reduceLE, Int.reduceLT, Int.reduceEq, Int.reduceNeg]
      repeat (refine And.intro (by first | omega | (constructor <;> omega) | kernel_rfl) ?_)
      refine CallW.mk (implNatOf_fn ((a % b : Nat) : Int)) ?_
      try simp (config := { maxSteps := 10000000 }) only [go_sem, reduceIte, reduceCtorEq, Nat.reduceEqDiff, Nat.reduceLT, Nat.reduceLeDiff, Nat.reduceAdd, Nat.reduceBEq, Nat.reduceMul, Int.reduceToNat, Int.reduceLE, Int.reduceLT, Int.reduceEq, Int.reduceNeg]
    · have hb2 : 2 ≤ nl b := by omega
      try simp (config := { maxSteps := 10000000 }) only [go_sem, reduceIte, reduceCtorEq, Nat.reduceEqDiff, Nat.reduceLT, Nat.reduceLeDiff, Nat.reduceAdd, Nat.reduceBEq, Nat.reduceMul, Int.reduceToNat, Int.reduceLE, Int.reduceLT, Int.reduceEq, Int.reduceNeg, hB]
      repeat (refine And.intro (by first | omega | (constructor <;> omega) | kernel_rfl) ?_)
      refine LoopG.intro _ _ _ (fun x : Nat × List Int => ⟨[(0, .sl .int (natL a)), (1, .sl .int (natL b)), (8, .row 0 0), (9, .sl .int (natL (a / pw x.1 % b))), (10, .sc (.int .i64 ((x.1 : Int) - 1)))], [(0, .row 3 .int 0 true x.2)]⟩) (fun x => x.1 ≤ nl a ∧ lims x.2 ∧ x.2.length = nl a ∧ val x.2 = pw x.1 * (a / pw x.1 / b)) (fun x => x.1) (nl a, List.replicate (nl a) 0) ?_ ⟨by simp, lims_rep _, by simp, by simp [val_rep, Nat.div_eq_of_lt (lt_nl a)]⟩ ?_
      · refine Wk.mk [] ?_
        try simp (config := { maxSteps := 10000000 }) only [go_sem, reduceIte, reduceCtorEq, Nat.reduceEqDiff, Nat.reduceLT, Nat.reduceLeDiff, Nat.reduceAdd, Nat.reduceBEq, Nat.reduceMul, Int.reduceToNat, Int.reduceLE, Int.reduceLT, Int.reduceEq, Int.reduceNeg]
        try (and_intros <;> first | rfl | omega | exact ⟨_, rfl⟩)
        all_goals (simp [Nat.div_eq_of_lt (lt_nl a), natL_zero])
      · rintro ⟨t, out⟩ ⟨h1, h2, h3, h4⟩
        simp only at h1 h2 h3 h4
        try simp (config := { maxSteps := 10000000 }) only [go_sem, reduceIte, reduceCtorEq, Nat.reduceEqDiff, Nat.reduceLT, Nat.reduceLeDiff, Nat.reduceAdd, Nat.reduceBEq, Nat.reduceMul, Int.reduceToNat, Int.reduceLE, Int.reduceLT, Int.reduceEq, Int.reduceNeg]
        refine CondW_dec (fun hC => ?_) (fun hC => ?_)
        · obtain ⟨i, rfl⟩ : ∃ i, t = i + 1 := ⟨t - 1, by omega⟩
          have hd1 := dg_lt a i
          have hml := Nat.mod_lt (a / pw (i + 1)) hb0
          obtain ⟨s1, s2, s3⟩ := small_step (a := a) (i := i) hb0
          obtain ⟨s4, s5⟩ := small_set h2 (show i < out.length by omega) s3 h4
          have ei : ((i + 1 : Nat) : Int) - 1 = i := by omega
          obtain ⟨hr9, hrl⟩ := nl_shift hml hd1
          have hml2 : nl (a / pw (i + 1) % b) ≤ nl b := nl_mono (Nat.le_of_lt hml)
          try simp (config := { maxSteps := 10000000 }) only [go_sem, reduceIte, reduceCtorEq, Nat.reduceEqDiff, Nat.reduceLT, Nat.reduceLeDiff, Nat.reduceAdd, Nat.reduceBEq, Nat.reduceMul, Int.reduceToNat, Int.reduceLE, Int.reduceLT, Int.reduceEq, Int.reduceNeg, ei]
          repeat (refine And.intro (by first | omega | (constructor <;> omega) | kernel_rfl) ?_)
          try simp (config := { maxSteps := 10000000 }) only [go_sem, reduceIte, reduceCtorEq, Nat.reduceEqDiff, Nat.reduceLT, Nat.reduceLeDiff, Nat.reduceAdd, Nat.reduceBEq, Nat.reduceMul, Int.reduceToNat, Int.reduceLE, Int.reduceLT, Int.reduceEq, Int.reduceNeg]
          repeat (refine And.intro (by first | omega | (constructor <;> omega) | kernel_rfl) ?_)
          repeat (refine And.intro (by first | omega | (constructor <;> omega) | kernel_rfl) ?_)
          refine CallW.mk (trimmed_shift (dg a i) (a / pw (i + 1) % b) hd1) ?_
          try simp (config := { maxSteps := 10000000 }) only [go_sem, reduceIte, reduceCtorEq, Nat.reduceEqDiff, Nat.reduceLT, Nat.reduceLeDiff, Nat.reduceAdd, Nat.reduceBEq, Nat.reduceMul, Int.reduceToNat, Int.reduceLE, Int.reduceLT, Int.reduceEq, Int.reduceNeg]
          generalize hR : a / pw (i + 1) % b * 1000000000 + dg a i = R at *
          repeat (refine And.intro (by first | omega | (constructor <;> omega) | kernel_rfl) ?_)
          refine CallW.mk (natCmp_fn (natL R) (natL b)) ?_
          try simp (config := { maxSteps := 10000000 }) only [go_sem, reduceIte, reduceCtorEq, Nat.reduceEqDiff, Nat.reduceLT, Nat.reduceLeDiff, Nat.reduceAdd, Nat.reduceBEq, Nat.reduceMul, Int.reduceToNat, Int.reduceLE, Int.reduceLT, Int.reduceEq, Int.reduceNeg]
          refine CondW_dec (fun hD => ?_) (fun hD => ?_)
          · rw [cmpN_ge] at hD
            try simp (config := { maxSteps := 10000000 }) only [go_sem, reduceIte, reduceCtorEq, Nat.reduceEqDiff, Nat.reduceLT, Nat.reduceLeDiff, Nat.reduceAdd, Nat.reduceBEq, Nat.reduceMul, Int.reduceToNat, Int.reduceLE, Int.reduceLT, Int.reduceEq, Int.reduceNeg]
            repeat (refine And.intro (by first | omega | (constructor <;> omega) | kernel_rfl) ?_)
            refine CallW.mk (digit_fn R b hb2 (by omega) (by omega) hr9) ?_
            try simp (config := { maxSteps := 10000000 }) only [go_sem, reduceIte, reduceCtorEq, Nat.reduceEqDiff, Nat.reduceLT, Nat.reduceLeDiff, Nat.reduceAdd, Nat.reduceBEq, Nat.reduceMul, Int.reduceToNat, Int.reduceLE, Int.reduceLT, Int.reduceEq, Int.reduceNeg]
            repeat (refine And.intro (by first | omega | (constructor <;> omega) | kernel_rfl) ?_)
            rw [ni_set_self (by omega)]
            repeat (refine And.intro (by first | omega | (constructor <;> omega) | kernel_rfl) ?_)
            refine CallW.mk (implNatOf_fn ((R / b : Nat) : Int)) ?_
            try simp (config := { maxSteps := 10000000 }) only [go_sem, reduceIte, reduceCtorEq, Nat.reduceEqDiff, Nat.reduceLT, Nat.reduceLeDiff, Nat.reduceAdd, Nat.reduceBEq, Nat.reduceMul, Int.reduceToNat, Int.reduceLE, Int.reduceLT, Int.reduceEq, Int.reduceNeg]
            repeat (refine And.intro (by first | omega | (constructor <;> omega) | kernel_rfl) ?_)
            refine CallW.mk (natMul_fn b (R / b) (by omega) (Nat.le_trans (nl_small s3) (by omega))) ?_
            try simp (config := { maxSteps := 10000000 }) only [go_sem, reduceIte, reduceCtorEq, Nat.reduceEqDiff, Nat.reduceLT, Nat.reduceLeDiff, Nat.reduceAdd, Nat.reduceBEq, Nat.reduceMul, Int.reduceToNat, Int.reduceLE, Int.reduceLT, Int.reduceEq, Int.reduceNeg]
            repeat (refine And.intro (by first | omega | (constructor <;> omega) | kernel_rfl) ?_)
            refine CallW.mk (natSub_fn R (b * (R / b)) (Nat.mul_div_le R b) (by omega)) ?_
            try simp (config := { maxSteps := 10000000 }) only [go_sem, reduceIte, reduceCtorEq, Nat.reduceEqDiff, Nat.reduceLT, Nat.reduceLeDiff, Nat.reduceAdd, Nat.reduceBEq, Nat.reduceMul, Int.reduceToNat, Int.reduceLE, Int.reduceLT, Int.reduceEq, Int.reduceNeg]
            repeat (refine And.intro (by first | omega | (constructor <;> omega) | kernel_rfl) ?_)
            refine LoopK.mk (i, out.set i ((R / b : Nat) : Int)) ?_ ⟨by simp only; omega, s4, by simp [h3], by simp only; rw [s5, s2]⟩ (by simp only; omega)
            refine Wk.mk [] ?_
            try simp (config := { maxSteps := 10000000 }) only [go_sem, reduceIte, reduceCtorEq, Nat.reduceEqDiff, Nat.reduceLT, Nat.reduceLeDiff, Nat.reduceAdd, Nat.reduceBEq, Nat.reduceMul, Int.reduceToNat, Int.reduceLE, Int.reduceLT, Int.reduceEq, Int.reduceNeg]
            try (and_intros <;> first | rfl | omega | exact ⟨_, rfl⟩)
            all_goals (have e : R - b * (R / b) = R % b := (by have := Nat.mod_add_div R b; omega); rw [e, s1])
          · rw [cmpN_ge] at hD
            try simp (config := { maxSteps := 10000000 }) only [go_sem, reduceIte, reduceCtorEq, Nat.reduceEqDiff, Nat.reduceLT, Nat.reduceLeDiff, Nat.reduceAdd, Nat.reduceBEq, Nat.reduceMul, Int.reduceToNat, Int.reduceLE, Int.reduceLT, Int.reduceEq, Int.reduceNeg]
            repeat (refine And.intro (by first | omega | (constructor <;> omega) | kernel_rfl) ?_)
            have hq0 : R / b = 0 := Nat.div_eq_of_lt (by omega)
            rw [hq0] at s2 s5
            refine LoopK.mk (i, out) ?_ ⟨by simp only; omega, h2, by simp [h3], by simp only; rw [h4, s2, pw_succ]; simp only [Nat.add_zero]; ac_rfl⟩ (by simp only; omega)
            refine Wk.mk [] ?_
            try simp (config := { maxSteps := 10000000 }) only [go_sem, reduceIte, reduceCtorEq, Nat.reduceEqDiff, Nat.reduceLT, Nat.reduceLeDiff, Nat.reduceAdd, Nat.reduceBEq, Nat.reduceMul, Int.reduceToNat, Int.reduceLE, Int.reduceLT, Int.reduceEq, Int.reduceNeg]
            try (and_intros <;> first | rfl | omega | exact ⟨_, rfl⟩)
            all_goals (rw [← s1, Nat.mod_eq_of_lt (by omega)])
        · have ht : t = 0 := by omega
          subst ht
          try simp (config := { maxSteps := 10000000 }) only [go_sem, reduceIte, reduceCtorEq, Nat.reduceEqDiff, Nat.reduceLT, Nat.reduceLeDiff, Nat.reduceAdd, Nat.reduceBEq, Nat.reduceMul, Int.reduceToNat, Int.reduceLE, Int.reduceLT, Int.reduceEq, Int.reduceNeg, hC]
          repeat (refine And.intro (by first | omega | (constructor <;> omega) | kernel_rfl) ?_)
          refine CallW.mk (trimmed_fn out) ?_
          try simp (config := { maxSteps := 10000000 }) only [go_sem, reduceIte, reduceCtorEq, Nat.reduceEqDiff, Nat.reduceLT, Nat.reduceLeDiff, Nat.reduceAdd, Nat.reduceBEq, Nat.reduceMul, Int.reduceToNat, Int.reduceLE, Int.reduceLT, Int.reduceEq, Int.reduceNeg]
          rw [trimL_val h2, h4, pw_zero, Nat.div_one, Nat.one_mul]
          exact ⟨rfl, rfl⟩
theorem l02Div_fn (a b : Nat) (hb0 : 0 < b) (ha : nl a ≤ 40000) (hb : nl b ≤ 40000) : Fn Tryz.prog 186 [⟨tInts, natL a⟩, ⟨tInts, natL b⟩] false [⟨tInts, natL (a / b)⟩, ⟨tInts, natL (a % b)⟩] := by
  have hbn : nl b ≠ 0 := fun h => by rw [nl_eq_zero.1 h] at hb0; omega
  refine fn_enter tabOK mixes Tryz.func186 rfl rfl _ Tryz.ntmps186 _ Tryz.results186 (by simp) fun hwf => ?_
  try simp (config := { maxSteps := 10000000 }) only [go_sem, reduceIte, reduceCtorEq, Nat.reduceEqDiff, Nat.reduceLT, Nat.reduceLeDiff, Nat.reduceAdd, Nat.reduceBEq, Nat.reduceMul, Int.reduceToNat, Int.reduceLE, Int.reduceLT, Int.reduceEq, Int.reduceNeg]
  refine CondW_dec (fun hB => ?_) (fun hB => ?_)
  · have h1 : nl b = 1 := by omega
    have hb9 : b < 1000000000 := nl_iff.1 (by omega : nl b ≤ 1)
    try simp (config := { maxSteps := 10000000 }) only [go_sem, reduceIte, reduceCtorEq, Nat.reduceEqDiff, Nat.reduceLT, Nat.reduceLeDiff, Nat.reduceAdd, Nat.reduceBEq, Nat.reduceMul, Int.reduceToNat, Int.reduceLE, Int.reduceLT, Int.reduceEq, Int.reduceNeg, hB]
    rw [dg_one h1]
    repeat (refine And.intro (by first | omega | (constructor <;> omega) | kernel_rfl) ?_)
    repeat (refine And.intro (by first | omega | (constructor <;> omega) | kernel_rfl) ?_)
    refine CallW.mk (l02Small_fn a b hb0 hb9 (by omega)) ?_
    try simp (config := { maxSteps := 10000000 }) only [go_sem, reduceIte, reduceCtorEq, Nat.reduceEqDiff, Nat.reduceLT, Nat.reduceLeDiff, Nat.reduceAdd, Nat.reduceBEq, Nat.reduceMul, Int.reduceToNat, Int.reduceLE, Int.reduceLT, Int.reduceEq, Int.reduceNeg]
    repeat (refine And.intro (by first | omega | (constructor <;> omega) | kernel_rfl) ?_)
    refine CallW.mk (specNatOf_fn ((a % b : Nat) : Int)) ?_
    try simp (config := { maxSteps := 10000000 }) only [go_sem, reduceIte, reduceCtorEq, Nat.reduceEqDiff, Nat.reduceLT, Nat.reduceLeDiff, Nat.reduceAdd, Nat.reduceBEq, Nat.reduceMul, Int.reduceToNat, Int.reduceLE, Int.reduceLT, Int.reduceEq, Int.reduceNeg]
  · have hb2 : 2 ≤ nl b := by omega
    try simp (config := { maxSteps := 10000000 }) only [go_sem, reduceIte, reduceCtorEq, Nat.reduceEqDiff, Nat.reduceLT, Nat.reduceLeDiff, Nat.reduceAdd, Nat.reduceBEq, Nat.reduceMul, Int.reduceToNat, Int.reduceLE, Int.reduceLT, Int.reduceEq, Int.reduceNeg, hB]
    repeat (refine And.intro (by first | omega | (constructor <;> omega) | kernel_rfl) ?_)
    refine LoopG.intro _ _ _ (fun x : Nat × List Int => ⟨[(0, .sl .int (natL a)), (1, .sl .int (natL b)), (8, .row 0 0), (9, .sl .int (natL (a / pw x.1 % b))), (10, .sc (.int .i64 ((x.1 : Int) - 1)))], [(0, .row 3 .int 0 true x.2)]⟩) (fun x => x.1 ≤ nl a ∧ lims x.2 ∧ x.2.length = nl a ∧ val x.2 = pw x.1 * (a / pw x.1 / b)) (fun x => x.1) (nl a, List.replicate (nl a) 0) ?_ ⟨by simp, lims_rep _, by simp, by simp [val_rep, Nat.div_eq_of_lt (lt_nl a)]⟩ ?_
    · refine Wk.mk [] ?_
      try simp (config := { maxSteps := 10000000 }) only [go_sem, reduceIte, reduceCtorEq, Nat.reduceEqDiff, Nat.reduceLT, Nat.reduceLeDiff, Nat.reduceAdd, Nat.reduceBEq, Nat.reduceMul, Int.reduceToNat, Int.reduceLE, Int.reduceLT, Int.reduceEq, Int.reduceNeg]
      try (and_intros <;> first | rfl | omega | exact ⟨_, rfl⟩)
      all_goals (simp [Nat.div_eq_of_lt (lt_nl a), natL_zero])
    · rintro ⟨t, out⟩ ⟨h1, h2, h3, h4⟩
      simp only at h1 h2 h3 h4
      try simp (config := { maxSteps := 10000000 }) only [go_sem, reduceIte, reduceCtorEq, Nat.reduceEqDiff, Nat.reduceLT, Nat.reduceLeDiff, Nat.reduceAdd, Nat.reduceBEq, Nat.reduceMul, Int.reduceToNat, Int.reduceLE, Int.reduceLT, Int.reduceEq, Int.reduceNeg]
      refine CondW_dec (fun hC => ?_) (fun hC => ?_)
      · obtain ⟨i, rfl⟩ : ∃ i, t = i + 1 := ⟨t - 1, by omega⟩
        have hd1 := dg_lt a i
        have hml := Nat.mod_lt (a / pw (i + 1)) hb0
        obtain ⟨s1, s2, s3⟩ := small_step (a := a) (i := i) hb0
        obtain ⟨s4, s5⟩ := small_set h2 (show i < out.length by omega) s3 h4
        have ei : ((i + 1 : Nat) : Int) - 1 = i := by omega
        obtain ⟨hr9, hrl⟩ := nl_shift hml hd1
        have hml2 : nl (a / pw (i + 1) % b) ≤ nl b := nl_mono (Nat.le_of_lt hml)
        try simp (config := { maxSteps := 10000000 }) only [go_sem, reduceIte, reduceCtorEq, Nat.reduceEqDiff, Nat.reduceLT, Nat.reduceLeDiff, Nat.reduceAdd, Nat.reduceBEq, Nat.reduceMul, Int.reduceToNat, Int.reduceLE, Int.reduceLT, Int.reduceEq, Int.reduceNeg, ei]
        repeat (refine And.intro (by first | omega | (constructor <;> omega) | kernel_rfl) ?_)
        try simp (config := { maxSteps := 10000000 }) only [go_sem, reduceIte, reduceCtorEq, Nat.reduceEqDiff, Nat.reduceLT, Nat.reduceLeDiff, Nat.reduceAdd, Nat.reduceBEq, Nat.reduceMul, Int.reduceToNat, Int.reduceLE, Int.reduceLT, Int.reduceEq, Int.reduceNeg]
        repeat (refine And.intro (by first | omega | (constructor <;> omega) | kernel_rfl) ?_)
        repeat (refine And.intro (by first | omega | (constructor <;> omega) | kernel_rfl) ?_)
        refine CallW.mk (l02Trim_shift (dg a i) (a / pw (i + 1) % b) hd1) ?_
        try simp (config := { maxSteps := 10000000 }) only [go_sem, reduceIte, reduceCtorEq, Nat.reduceEqDiff, Nat.reduceLT, Nat.reduceLeDiff, Nat.reduceAdd, Nat.reduceBEq, Nat.reduceMul, Int.reduceToNat, Int.reduceLE, Int.reduceLT, Int.reduceEq, Int.reduceNeg]
        generalize hR : a / pw (i + 1) % b * 1000000000 + dg a i = R at *
        repeat (refine And.intro (by first | omega | (constructor <;> omega) | kernel_rfl) ?_)
        refine CallW.mk (l02Cmp_fn (natL R) (natL b)) ?_
        try simp (config := { maxSteps := 10000000 }) only [go_sem, reduceIte, reduceCtorEq, Nat.reduceEqDiff, Nat.reduceLT, Nat.reduceLeDiff, Nat.reduceAdd, Nat.reduceBEq, Nat.reduceMul, Int.reduceToNat, Int.reduceLE, Int.reduceLT, Int.reduceEq, Int.reduceNeg]
        refine CondW_dec (fun hD => ?_) (fun hD => ?_)
        · rw [cmpN_lt] at hD
          try simp (config := { maxSteps := 10000000 }) only [go_sem, reduceIte, reduceCtorEq, Nat.reduceEqDiff, Nat.reduceLT, Nat.reduceLeDiff, Nat.reduceAdd, Nat.reduceBEq, Nat.reduceMul, Int.reduceToNat, Int.reduceLE, Int.reduceLT, Int.reduceEq, Int.reduceNeg]
          repeat (refine And.intro (by first | omega | (constructor <;> omega) | kernel_rfl) ?_)
          have hq0 : R / b = 0 := Nat.div_eq_of_lt (by omega)
          rw [hq0] at s2 s5
          refine LoopK.mk (i, out) ?_ ⟨by simp only; omega, h2, by simp [h3], by simp only; rw [h4, s2, pw_succ]; simp only [Nat.add_zero]; ac_rfl⟩ (by simp only; omega)
          refine Wk.mk [] ?_
          try simp (config := { maxSteps := 10000000 }) only [go_sem, reduceIte, reduceCtorEq, Nat.reduceEqDiff, Nat.reduceLT, Nat.reduceLeDiff, Nat.reduceAdd, Nat.reduceBEq, Nat.reduceMul, Int.reduceToNat, Int.reduceLE, Int.reduceLT, Int.reduceEq, Int.reduceNeg]
          try (and_intros <;> first | rfl | omega | exact ⟨_, rfl⟩)
          all_goals (rw [← s1, Nat.mod_eq_of_lt (by omega)])
        · rw [cmpN_lt] at hD
          try simp (config := { maxSteps := 10000000 }) only [go_sem, reduceIte, reduceCtorEq, Nat.reduceEqDiff, Nat.reduceLT, Nat.reduceLeDiff, Nat.reduceAdd, Nat.reduceBEq, Nat.reduceMul, Int.reduceToNat, Int.reduceLE, Int.reduceLT, Int.reduceEq, Int.reduceNeg]
          repeat (refine And.intro (by first | omega | (constructor <;> omega) | kernel_rfl) ?_)
          refine CallW.mk (l02Digit_fn R b hb0 (by omega) (by omega) hr9) ?_
          try simp (config := { maxSteps := 10000000 }) only [go_sem, reduceIte, reduceCtorEq, Nat.reduceEqDiff, Nat.reduceLT, Nat.reduceLeDiff, Nat.reduceAdd, Nat.reduceBEq, Nat.reduceMul, Int.reduceToNat, Int.reduceLE, Int.reduceLT, Int.reduceEq, Int.reduceNeg]
          repeat (refine And.intro (by first | omega | (constructor <;> omega) | kernel_rfl) ?_)
          repeat (refine And.intro (by first | omega | (constructor <;> omega) | kernel_rfl) ?_)
          refine CallW.mk (specNatOf_fn ((R / b : Nat) : Int)) ?_
          try simp (config := { maxSteps := 10000000 }) only [go_sem, reduceIte, reduceCtorEq, Nat.reduceEqDiff, Nat.reduceLT, Nat.reduceLeDiff, Nat.reduceAdd, Nat.reduceBEq, Nat.reduceMul, Int.reduceToNat, Int.reduceLE, Int.reduceLT, Int.reduceEq, Int.reduceNeg]
          repeat (refine And.intro (by first | omega | (constructor <;> omega) | kernel_rfl) ?_)
          refine CallW.mk (l02Mul_fn b (R / b) (by omega) (Nat.le_trans (nl_small s3) (by omega))) ?_
          try simp (config := { maxSteps := 10000000 }) only [go_sem, reduceIte, reduceCtorEq, Nat.reduceEqDiff, Nat.reduceLT, Nat.reduceLeDiff, Nat.reduceAdd, Nat.reduceBEq, Nat.reduceMul, Int.reduceToNat, Int.reduceLE, Int.reduceLT, Int.reduceEq, Int.reduceNeg]
          repeat (refine And.intro (by first | omega | (constructor <;> omega) | kernel_rfl) ?_)
          refine CallW.mk (l02Sub_fn R (b * (R / b)) (Nat.mul_div_le R b) (by omega)) ?_
          try simp (config := { maxSteps := 10000000 }) only [go_sem, reduceIte, reduceCtorEq, Nat.reduceEqDiff, Nat.reduceLT, Nat.reduceLeDiff, Nat.reduceAdd, Nat.reduceBEq, Nat.reduceMul, Int.reduceToNat, Int.reduceLE, Int.reduceLT, Int.reduceEq, Int.reduceNeg]
          repeat (refine And.intro (by first | omega | (constructor <;> omega) | kernel_rfl) ?_)
          refine LoopK.mk (i, out.set i ((R / b : Nat) : Int)) ?_ ⟨by simp only; omega, s4, by simp [h3], by simp only; rw [s5, s2]⟩ (by simp only; omega)
          refine Wk.mk [] ?_
          try simp (config := { maxSteps := 10000000 }) only [go_sem, reduceIte, reduceCtorEq, Nat.reduceEqDiff, Nat.reduceLT, Nat.reduceLeDiff, Nat.reduceAdd, Nat.reduceBEq, Nat.reduceMul, Int.reduceToNat, Int.reduceLE, Int.reduceLT, Int.reduceEq, Int.reduceNeg]
          try (and_intros <;> first | rfl | omega | exact ⟨_, rfl⟩)
          all_goals (have e : R - b * (R / b) = R % b := (by have := Nat.mod_add_div R b; omega); rw [e, s1])
      · have ht : t = 0 := by omega
        subst ht
        try simp (config := { maxSteps := 10000000 }) only [go_sem, reduceIte, reduceCtorEq, Nat.reduceEqDiff, Nat.reduceLT, Nat.reduceLeDiff, Nat.reduceAdd, Nat.reduceBEq, Nat.reduceMul, Int.reduceToNat, Int.reduceLE, Int.reduceLT, Int.reduceEq, Int.reduceNeg, hC]
        repeat (refine And.intro (by first | omega | (constructor <;> omega) | kernel_rfl) ?_)
        refine CallW.mk (l02Trim_fn out) ?_
        try simp (config := { maxSteps := 10000000 }) only [go_sem, reduceIte, reduceCtorEq, Nat.reduceEqDiff, Nat.reduceLT, Nat.reduceLeDiff, Nat.reduceAdd, Nat.reduceBEq, Nat.reduceMul, Int.reduceToNat, Int.reduceLE, Int.reduceLT, Int.reduceEq, Int.reduceNeg]
        rw [trimL_val h2, h4, pw_zero, Nat.div_one, Nat.one_mul]
        exact ⟨rfl, rfl⟩
end Go.Proofs.YtgffgcpcjpjfgaaGreat.DW

/-
  Greatest common divisors.
-/
namespace Go.Proofs.YtgffgcpcjpjfgaaGreat.DW
open Go.RowKit
theorem okN_natL {n : Nat} (h : nl n ≤ 60) : okN (natL n) = true := bdec_t (okNP_natL.2 h)
theorem natL_one {n : Nat} (h : 0 < n) (h2 : n < 1000000000) : natL n = [(n : Int)] := by
  rw [natL_pos h, Nat.mod_eq_of_lt h2, Nat.div_eq_of_lt h2, natL_zero]
theorem natL_maxInt : natL 9223372036854775807 = [854775807, 223372036, 9] := by
  rw [natL_pos (by decide), natL_pos (by decide), natL_pos (by decide), natL_zero]; rfl
theorem div_le_i64 {a : Nat} (h : a ≤ 9223372036854775807) (t : Nat) : a / pw t ≤ 9223372036854775807 := Nat.le_trans (Nat.div_le_self a _) h
theorem specNatToInt_fn (a : Nat) (ha : nl a ≤ 60) : Fn Tryz.prog 184 [⟨tInts, natL a⟩] false [⟨.int, if a ≤ 9223372036854775807 then (a : Int) else 0⟩, ⟨.bool, decide (a ≤ 9223372036854775807)⟩] := by
  refine fn_enter tabOK mixes Tryz.func184 rfl rfl _ Tryz.ntmps184 _ Tryz.results184 (by simp) fun hwf => ?_
  try simp (config := { maxSteps := 10000000 }) only [go_sem, reduceIte, reduceCtorEq, Nat.reduceEqDiff, Nat.reduceLT, Nat.reduceLeDiff, Nat.reduceAdd, Nat.reduceBEq, Nat.reduceMul, Int.reduceToNat, Int.reduceLE, Int.reduceLT, Int.reduceEq, Int.reduceNeg]
  repeat (refine And.intro (by first | omega | (constructor <;> omega) | kernel_rfl) ?_)
  refine CallW.mk (specNatOk_fn (natL a)) ?_
  try simp (config := { maxSteps := 10000000 }) only [go_sem, reduceIte, reduceCtorEq, Nat.reduceEqDiff, Nat.reduceLT, Nat.reduceLeDiff, Nat.reduceAdd, Nat.reduceBEq, Nat.reduceMul, Int.reduceToNat, Int.reduceLE, Int.reduceLT, Int.reduceEq, Int.reduceNeg]
  have hok := okN_natL ha
  try simp (config := { maxSteps := 10000000 }) only [go_sem, reduceIte, reduceCtorEq, Nat.reduceEqDiff, Nat.reduceLT, Nat.reduceLeDiff, Nat.reduceAdd, Nat.reduceBEq, Nat.reduceMul, Int.reduceToNat, Int.reduceLE, Int.reduceLT, Int.reduceEq, Int.reduceNeg, hok, Bool.not_true]
  have hcmp := l02Cmp_fn (natL a) [854775807, 223372036, 9]
  rw [← natL_maxInt, cmpL_nat, natL_maxInt] at hcmp
  repeat (refine And.intro (by first | omega | (constructor <;> omega) | kernel_rfl) ?_)
  refine CallW.mk (hcmp) ?_
  try simp (config := { maxSteps := 10000000 }) only [go_sem, reduceIte, reduceCtorEq, Nat.reduceEqDiff, Nat.reduceLT, Nat.reduceLeDiff, Nat.reduceAdd, Nat.reduceBEq, Nat.reduceMul, Int.reduceToNat, Int.reduceLE, Int.reduceLT, Int.reduceEq, Int.reduceNeg]
  by_cases hA : a ≤ 9223372036854775807
  · have hB : ¬ 0 < cmpN a 9223372036854775807 := by unfold cmpN; split <;> (try split) <;> omega
    try simp (config := { maxSteps := 10000000 }) only [go_sem, reduceIte, reduceCtorEq, Nat.reduceEqDiff, Nat.reduceLT, Nat.reduceLeDiff, Nat.reduceAdd, Nat.reduceBEq, Nat.reduceMul, Int.reduceToNat, Int.reduceLE, Int.reduceLT, Int.reduceEq, Int.reduceNeg, hB, hA]
    repeat (refine And.intro (by first | omega | (constructor <;> omega) | kernel_rfl) ?_)
    refine LoopG.intro _ _ _ (fun t : Nat => ⟨[(0, .sl .int (natL a)), (4, .sc (.int .i64 (a / pw t : Nat))), (5, .sc (.int .i64 ((t : Int) - 1)))], []⟩) (fun t => t ≤ nl a) (fun t => t) (nl a) ?_ (Nat.le_refl _) ?_
    · refine Wk.mk [] ?_
      try simp (config := { maxSteps := 10000000 }) only [go_sem, reduceIte, reduceCtorEq, Nat.reduceEqDiff, Nat.reduceLT, Nat.reduceLeDiff, Nat.reduceAdd, Nat.reduceBEq, Nat.reduceMul, Int.reduceToNat, Int.reduceLE, Int.reduceLT, Int.reduceEq, Int.reduceNeg]
      try (and_intros <;> first | rfl | omega | exact ⟨_, rfl⟩)
      all_goals (simp [Nat.div_eq_of_lt (lt_nl a)])
    · rintro t h1
      try simp (config := { maxSteps := 10000000 }) only [go_sem, reduceIte, reduceCtorEq, Nat.reduceEqDiff, Nat.reduceLT, Nat.reduceLeDiff, Nat.reduceAdd, Nat.reduceBEq, Nat.reduceMul, Int.reduceToNat, Int.reduceLE, Int.reduceLT, Int.reduceEq, Int.reduceNeg]
      refine CondW_dec (fun hC => ?_) (fun hC => ?_)
      · obtain ⟨i, rfl⟩ : ∃ i, t = i + 1 := ⟨t - 1, by omega⟩
        have hd1 := dg_lt a i
        have hi := div_pw_succ a i
        have hle := div_le_i64 hA i
        have ei : ((i + 1 : Nat) : Int) - 1 = i := by omega
        generalize a / pw (i + 1) = q at *
        try simp (config := { maxSteps := 10000000 }) only [go_sem, reduceIte, reduceCtorEq, Nat.reduceEqDiff, Nat.reduceLT, Nat.reduceLeDiff, Nat.reduceAdd, Nat.reduceBEq, Nat.reduceMul, Int.reduceToNat, Int.reduceLE, Int.reduceLT, Int.reduceEq, Int.reduceNeg, ei]
        repeat (refine And.intro (by first | omega | (constructor <;> omega) | kernel_rfl) ?_)
        refine LoopK.mk i ?_ (by omega) (by omega)
        refine Wk.mk [] ?_
        try simp (config := { maxSteps := 10000000 }) only [go_sem, reduceIte, reduceCtorEq, Nat.reduceEqDiff, Nat.reduceLT, Nat.reduceLeDiff, Nat.reduceAdd, Nat.reduceBEq, Nat.reduceMul, Int.reduceToNat, Int.reduceLE, Int.reduceLT, Int.reduceEq, Int.reduceNeg]
        try (and_intros <;> first | rfl | omega | exact ⟨_, rfl⟩)
      · have ht : t = 0 := by omega
        subst ht
        try simp (config := { maxSteps := 10000000 }) only [go_sem, reduceIte, reduceCtorEq, Nat.reduceEqDiff, Nat.reduceLT, Nat.reduceLeDiff, Nat.reduceAdd, Nat.reduceBEq, Nat.reduceMul, Int.reduceToNat, Int.reduceLE, Int.reduceLT, Int.reduceEq, Int.reduceNeg, hC, hA]
        rw [pw_zero, Nat.div_one]
  · have hB : 0 < cmpN a 9223372036854775807 := by unfold cmpN; split <;> (try split) <;> omega
    try simp (config := { maxSteps := 10000000 }) only [go_sem, reduceIte, reduceCtorEq, Nat.reduceEqDiff, Nat.reduceLT, Nat.reduceLeDiff, Nat.reduceAdd, Nat.reduceBEq, Nat.reduceMul, Int.reduceToNat, Int.reduceLE, Int.reduceLT, Int.reduceEq, Int.reduceNeg, hB, hA]
theorem gcd_step {x y a b : Nat} (h : Nat.gcd x y = Nat.gcd a b) : Nat.gcd y (x % y) = Nat.gcd a b := by
  rw [← h, Nat.gcd_comm x y, Nat.gcd_rec y x, Nat.gcd_comm]
theorem l02Plain_fn (a b : Nat) (ha : a ≤ 9223372036854775807) (hb : b ≤ 9223372036854775807) : Fn Tryz.prog 185 [⟨.int, (a : Int)⟩, ⟨.int, (b : Int)⟩] false [⟨tInts, natL (Nat.gcd a b)⟩] := by
  refine fn_enter tabOK mixes Tryz.func185 rfl rfl _ Tryz.ntmps185 _ Tryz.results185 (by simp) fun hwf => ?_
  try simp (config := { maxSteps := 10000000 }) only [go_sem, reduceIte, reduceCtorEq, Nat.reduceEqDiff, Nat.reduceLT, Nat.reduceLeDiff, Nat.reduceAdd, Nat.reduceBEq, Nat.reduceMul, Int.reduceToNat, Int.reduceLE, Int.reduceLT, Int.reduceEq, Int.reduceNeg]
  refine LoopG.intro _ _ _ (fun x : Nat × Nat => ⟨[(0, .sc (.int .i64 x.1)), (1, .sc (.int .i64 x.2))], []⟩) (fun x => Nat.gcd x.1 x.2 = Nat.gcd a b ∧ x.1 ≤ 9223372036854775807 ∧ x.2 ≤ 9223372036854775807) (fun x => x.2) (a, b) ?_ ⟨rfl, ha, hb⟩ ?_
  · refine Wk.mk [] ?_
    try simp (config := { maxSteps := 10000000 }) only [go_sem, reduceIte, reduceCtorEq, Nat.reduceEqDiff, Nat.reduceLT, Nat.reduceLeDiff, Nat.reduceAdd, Nat.reduceBEq, Nat.reduceMul, Int.reduceToNat, Int.reduceLE, Int.reduceLT, Int.reduceEq, Int.reduceNeg]
    try (and_intros <;> first | rfl | omega | exact ⟨_, rfl⟩)
  · rintro ⟨x, y⟩ ⟨h1, h2, h3⟩
    simp only at h1 h2 h3
    try simp (config := { maxSteps := 10000000 }) only [go_sem, reduceIte, reduceCtorEq, Nat.reduceEqDiff, Nat.reduceLT, Nat.reduceLeDiff, Nat.reduceAdd, Nat.reduceBEq, Nat.reduceMul, Int.reduceToNat, Int.reduceLE, Int.reduceLT, Int.reduceEq, Int.reduceNeg]
    refine CondW_dec (fun hA => ?_) (fun hA => ?_)
    · have hy : 0 < y := by omega
      have hml := Nat.mod_lt x hy
      try simp (config := { maxSteps := 10000000 }) only [go_sem, reduceIte, reduceCtorEq, Nat.reduceEqDiff, Nat.reduceLT, Nat.reduceLeDiff, Nat.reduceAdd, Nat.reduceBEq, Nat.reduceMul, Int.reduceToNat, Int.reduceLE, Int.reduceLT, Int.reduceEq, Int.reduceNeg]
      refine RemW.pos (by omega) (by omega) ?_
      try simp (config := { maxSteps := 10000000 }) only [go_sem, reduceIte, reduceCtorEq, Nat.reduceEqDiff, Nat.reduceLT, Nat.reduceLeDiff, Nat.reduceAdd, Nat.reduceBEq, Nat.reduceMul, Int.reduceToNat, Int.reduceLE, Int.reduceLT, Int.reduceEq, Int.reduceNeg]
      refine LoopK.mk (y, x % y) ?_ ⟨gcd_step h1, h3, by simp only; omega⟩ (by simp only; omega)
      refine Wk.mk [] ?_
      try simp (config := { maxSteps := 10000000 }) only [go_sem, reduceIte, reduceCtorEq, Nat.reduceEqDiff, Nat.reduceLT, Nat.reduceLeDiff, Nat.reduceAdd, Nat.reduceBEq, Nat.reduceMul, Int.reduceToNat, Int.reduceLE, Int.reduceLT, Int.reduceEq, Int.reduceNeg]
      try (and_intros <;> first | rfl | omega | exact ⟨_, rfl⟩)
    · have hy : y = 0 := by omega
      subst hy
      try simp (config := { maxSteps := 10000000 }) only [go_sem, reduceIte, reduceCtorEq, Nat.reduceEqDiff, Nat.reduceLT, Nat.reduceLeDiff, Nat.reduceAdd, Nat.reduceBEq, Nat.reduceMul, Int.reduceToNat, Int.reduceLE, Int.reduceLT, Int.reduceEq, Int.reduceNeg]
      repeat (refine And.intro (by first | omega | (constructor <;> omega) | kernel_rfl) ?_)
      refine CallW.mk (specNatOf_fn (x : Int)) ?_
      try simp (config := { maxSteps := 10000000 }) only [go_sem, reduceIte, reduceCtorEq, Nat.reduceEqDiff, Nat.reduceLT, Nat.reduceLeDiff, Nat.reduceAdd, Nat.reduceBEq, Nat.reduceMul, Int.reduceToNat, Int.reduceLE, Int.reduceLT, Int.reduceEq, Int.reduceNeg]
      rw [Nat.gcd_zero_right] at h1
      rw [h1]
theorem l02Gcd_fn (a b : Nat) (ha : nl a ≤ 60) (hb : nl b ≤ 60) : Fn Tryz.prog 143 [⟨tInts, natL a⟩, ⟨tInts, natL b⟩] false [⟨tInts, natL (Nat.gcd a b)⟩] := by
  refine fn_enter tabOK mixes Tryz.func143 rfl rfl _ Tryz.ntmps143 _ Tryz.results143 (by simp) fun hwf => ?_
  try simp (config := { maxSteps := 10000000 }) only [go_sem, reduceIte, reduceCtorEq, Nat.reduceEqDiff, Nat.reduceLT, Nat.reduceLeDiff, Nat.reduceAdd, Nat.reduceBEq, Nat.reduceMul, Int.reduceToNat, Int.reduceLE, Int.reduceLT, Int.reduceEq, Int.reduceNeg]
  repeat (refine And.intro (by first | omega | (constructor <;> omega) | kernel_rfl) ?_)
  try simp (config := { maxSteps := 10000000 }) only [go_sem, reduceIte, reduceCtorEq, Nat.reduceEqDiff, Nat.reduceLT, Nat.reduceLeDiff, Nat.reduceAdd, Nat.reduceBEq, Nat.reduceMul, Int.reduceToNat, Int.reduceLE, Int.reduceLT, Int.reduceEq, Int.reduceNeg]
  repeat (refine And.intro (by first | omega | (constructor <;> omega) | kernel_rfl) ?_)
  refine LoopG.intro _ _ _ (fun x : Nat × Nat => ⟨[(5, .sl .int (natL x.1)), (6, .sl .int (natL x.2))], []⟩) (fun x => Nat.gcd x.1 x.2 = Nat.gcd a b ∧ nl x.1 ≤ 60 ∧ nl x.2 ≤ 60) (fun x => x.2) (a, b) ?_ ⟨rfl, ha, hb⟩ ?_
  · refine Wk.mk [] ?_
    try simp (config := { maxSteps := 10000000 }) only [go_sem, reduceIte, reduceCtorEq, Nat.reduceEqDiff, Nat.reduceLT, Nat.reduceLeDiff, Nat.reduceAdd, Nat.reduceBEq, Nat.reduceMul, Int.reduceToNat, Int.reduceLE, Int.reduceLT, Int.reduceEq, Int.reduceNeg]
    try (and_intros <;> first | rfl | omega | exact ⟨_, rfl⟩)
  · rintro ⟨x, y⟩ ⟨h1, h2, h3⟩
    simp only at h1 h2 h3
    by_cases hy : y = 0
    · subst hy
      have hA : ¬ (0 : Int) < (nl 0 : Nat) := by rw [nl_zero]; omega
      rw [Nat.gcd_zero_right] at h1
      try simp (config := { maxSteps := 10000000 }) only [go_sem, reduceIte, reduceCtorEq, Nat.reduceEqDiff, Nat.reduceLT, Nat.reduceLeDiff, Nat.reduceAdd, Nat.reduceBEq, Nat.reduceMul, Int.reduceToNat, Int.reduceLE, Int.reduceLT, Int.reduceEq, Int.reduceNeg, hA]
      rw [h1]
    · have hA : (0 : Int) < (nl y : Nat) := by have := (nl_le y hy).1; omega
      by_cases hs : (nl x : Int) < 3 ∧ (nl y : Int) < 3
      · obtain ⟨hB, hC⟩ := hs
        have hx9 : x ≤ 9223372036854775807 := by have := (nl_iff (k := 2)).1 (show nl x ≤ 2 by omega); have e : pw 2 = 1000000000000000000 := rfl; omega
        have hy9 : y ≤ 9223372036854775807 := by have := (nl_iff (k := 2)).1 (show nl y ≤ 2 by omega); have e : pw 2 = 1000000000000000000 := rfl; omega
        try simp (config := { maxSteps := 10000000 }) only [go_sem, reduceIte, reduceCtorEq, Nat.reduceEqDiff, Nat.reduceLT, Nat.reduceLeDiff, Nat.reduceAdd, Nat.reduceBEq, Nat.reduceMul, Int.reduceToNat, Int.reduceLE, Int.reduceLT, Int.reduceEq, Int.reduceNeg, hA, hB, hC]
        repeat (refine And.intro (by first | omega | (constructor <;> omega) | kernel_rfl) ?_)
        refine CallW.mk (specNatToInt_fn x h2) ?_
        try simp (config := { maxSteps := 10000000 }) only [go_sem, reduceIte, reduceCtorEq, Nat.reduceEqDiff, Nat.reduceLT, Nat.reduceLeDiff, Nat.reduceAdd, Nat.reduceBEq, Nat.reduceMul, Int.reduceToNat, Int.reduceLE, Int.reduceLT, Int.reduceEq, Int.reduceNeg]
        repeat (refine And.intro (by first | omega | (constructor <;> omega) | kernel_rfl) ?_)
        refine CallW.mk (specNatToInt_fn y h3) ?_
        try simp (config := { maxSteps := 10000000 }) only [go_sem, reduceIte, reduceCtorEq, Nat.reduceEqDiff, Nat.reduceLT, Nat.reduceLeDiff, Nat.reduceAdd, Nat.reduceBEq, Nat.reduceMul, Int.reduceToNat, Int.reduceLE, Int.reduceLT, Int.reduceEq, Int.reduceNeg]
        try simp (config := { maxSteps := 10000000 }) only [go_sem, reduceIte, reduceCtorEq, Nat.reduceEqDiff, Nat.reduceLT, Nat.reduceLeDiff, Nat.reduceAdd, Nat.reduceBEq, Nat.reduceMul, Int.reduceToNat, Int.reduceLE, Int.reduceLT, Int.reduceEq, Int.reduceNeg, hx9, hy9]
        repeat (refine And.intro (by first | omega | (constructor <;> omega) | kernel_rfl) ?_)
        refine CallW.mk (l02Plain_fn x y hx9 hy9) ?_
        try simp (config := { maxSteps := 10000000 }) only [go_sem, reduceIte, reduceCtorEq, Nat.reduceEqDiff, Nat.reduceLT, Nat.reduceLeDiff, Nat.reduceAdd, Nat.reduceBEq, Nat.reduceMul, Int.reduceToNat, Int.reduceLE, Int.reduceLT, Int.reduceEq, Int.reduceNeg]
        rw [h1]
      · have hp : ¬ (nl x : Int) < 3 ∨ ((nl x : Int) < 3 ∧ ¬ (nl y : Int) < 3) := by omega
        have hml := Nat.mod_lt x (Nat.pos_of_ne_zero hy)
        have hm2 := nl_mono (Nat.le_of_lt hml)
        rcases hp with hB | ⟨hB, hC⟩
        · try simp (config := { maxSteps := 10000000 }) only [go_sem, reduceIte, reduceCtorEq, Nat.reduceEqDiff, Nat.reduceLT, Nat.reduceLeDiff, Nat.reduceAdd, Nat.reduceBEq, Nat.reduceMul, Int.reduceToNat, Int.reduceLE, Int.reduceLT, Int.reduceEq, Int.reduceNeg, hA, hB]
          repeat (refine And.intro (by first | omega | (constructor <;> omega) | kernel_rfl) ?_)
          refine CallW.mk (l02Div_fn x y (Nat.pos_of_ne_zero hy) (by omega) (by omega)) ?_
          try simp (config := { maxSteps := 10000000 }) only [go_sem, reduceIte, reduceCtorEq, Nat.reduceEqDiff, Nat.reduceLT, Nat.reduceLeDiff, Nat.reduceAdd, Nat.reduceBEq, Nat.reduceMul, Int.reduceToNat, Int.reduceLE, Int.reduceLT, Int.reduceEq, Int.reduceNeg]
          refine LoopK.mk (y, x % y) ?_ ⟨gcd_step h1, h3, by simp only; omega⟩ (by simp only; omega)
          refine Wk.mk [] ?_
          try simp (config := { maxSteps := 10000000 }) only [go_sem, reduceIte, reduceCtorEq, Nat.reduceEqDiff, Nat.reduceLT, Nat.reduceLeDiff, Nat.reduceAdd, Nat.reduceBEq, Nat.reduceMul, Int.reduceToNat, Int.reduceLE, Int.reduceLT, Int.reduceEq, Int.reduceNeg]
          try (and_intros <;> first | rfl | omega | exact ⟨_, rfl⟩)
        · try simp (config := { maxSteps := 10000000 }) only [go_sem, reduceIte, reduceCtorEq, Nat.reduceEqDiff, Nat.reduceLT, Nat.reduceLeDiff, Nat.reduceAdd, Nat.reduceBEq, Nat.reduceMul, Int.reduceToNat, Int.reduceLE, Int.reduceLT, Int.reduceEq, Int.reduceNeg, hA, hB, hC]
          repeat (refine And.intro (by first | omega | (constructor <;> omega) | kernel_rfl) ?_)
          refine CallW.mk (l02Div_fn x y (Nat.pos_of_ne_zero hy) (by omega) (by omega)) ?_
          try simp (config := { maxSteps := 10000000 }) only [go_sem, reduceIte, reduceCtorEq, Nat.reduceEqDiff, Nat.reduceLT, Nat.reduceLeDiff, Nat.reduceAdd, Nat.reduceBEq, Nat.reduceMul, Int.reduceToNat, Int.reduceLE, Int.reduceLT, Int.reduceEq, Int.reduceNeg]
          refine LoopK.mk (y, x % y) ?_ ⟨gcd_step h1, h3, by simp only; omega⟩ (by simp only; omega)
          refine Wk.mk [] ?_
          try simp (config := { maxSteps := 10000000 }) only [go_sem, reduceIte, reduceCtorEq, Nat.reduceEqDiff, Nat.reduceLT, Nat.reduceLeDiff, Nat.reduceAdd, Nat.reduceBEq, Nat.reduceMul, Int.reduceToNat, Int.reduceLE, Int.reduceLT, Int.reduceEq, Int.reduceNeg]
          try (and_intros <;> first | rfl | omega | exact ⟨_, rfl⟩)
theorem natGcd_fn (a b : Nat) (ha : nl a ≤ 30000) (hb : nl b ≤ 30000) : Fn Tryz.prog 159 [⟨tInts, natL a⟩, ⟨tInts, natL b⟩] false [⟨tInts, natL (Nat.gcd a b)⟩] := by
  refine fn_enter tabOK mixes Tryz.func159 rfl rfl _ Tryz.ntmps159 _ Tryz.results159 (by simp) fun hwf => ?_
  try simp (config := { maxSteps := 10000000 }) only [go_sem, reduceIte, reduceCtorEq, Nat.reduceEqDiff, Nat.reduceLT, Nat.reduceLeDiff, Nat.reduceAdd, Nat.reduceBEq, Nat.reduceMul, Int.reduceToNat, Int.reduceLE, Int.reduceLT, Int.reduceEq, Int.reduceNeg]
  refine LoopG.intro _ _ _ (fun x : Nat × Nat => ⟨[(0, .sl .int (natL x.1)), (1, .sl .int (natL x.2))], []⟩) (fun x => Nat.gcd x.1 x.2 = Nat.gcd a b ∧ nl x.1 ≤ 30000 ∧ nl x.2 ≤ 30000) (fun x => x.2) (a, b) ?_ ⟨rfl, ha, hb⟩ ?_
  · refine Wk.mk [] ?_
    try simp (config := { maxSteps := 10000000 }) only [go_sem, reduceIte, reduceCtorEq, Nat.reduceEqDiff, Nat.reduceLT, Nat.reduceLeDiff, Nat.reduceAdd, Nat.reduceBEq, Nat.reduceMul, Int.reduceToNat, Int.reduceLE, Int.reduceLT, Int.reduceEq, Int.reduceNeg]
    try (and_intros <;> first | rfl | omega | exact ⟨_, rfl⟩)
  · rintro ⟨x, y⟩ ⟨h1, h2, h3⟩
    simp only at h1 h2 h3
    by_cases hA : (1 : Int) < (nl y : Nat)
    · have hy : 0 < y := Nat.pos_of_ne_zero fun h => by rw [h, nl_zero] at hA; omega
      have hml := Nat.mod_lt x hy
      have hm2 := nl_mono (Nat.le_of_lt hml)
      try simp (config := { maxSteps := 10000000 }) only [go_sem, reduceIte, reduceCtorEq, Nat.reduceEqDiff, Nat.reduceLT, Nat.reduceLeDiff, Nat.reduceAdd, Nat.reduceBEq, Nat.reduceMul, Int.reduceToNat, Int.reduceLE, Int.reduceLT, Int.reduceEq, Int.reduceNeg, hA]
      repeat (refine And.intro (by first | omega | (constructor <;> omega) | kernel_rfl) ?_)
      refine CallW.mk (natDiv_fn x y hy (by omega) (by omega)) ?_
      try simp (config := { maxSteps := 10000000 }) only [go_sem, reduceIte, reduceCtorEq, Nat.reduceEqDiff, Nat.reduceLT, Nat.reduceLeDiff, Nat.reduceAdd, Nat.reduceBEq, Nat.reduceMul, Int.reduceToNat, Int.reduceLE, Int.reduceLT, Int.reduceEq, Int.reduceNeg]
      refine LoopK.mk (y, x % y) ?_ ⟨gcd_step h1, h3, by simp only; omega⟩ (by simp only; omega)
      refine Wk.mk [] ?_
      try simp (config := { maxSteps := 10000000 }) only [go_sem, reduceIte, reduceCtorEq, Nat.reduceEqDiff, Nat.reduceLT, Nat.reduceLeDiff, Nat.reduceAdd, Nat.reduceBEq, Nat.reduceMul, Int.reduceToNat, Int.reduceLE, Int.reduceLT, Int.reduceEq, Int.reduceNeg]
      try (and_intros <;> first | rfl | omega | exact ⟨_, rfl⟩)
    · by_cases hy : y = 0
      · subst hy
        have hB : (nl 0 : Int) = 0 := by rw [nl_zero]; rfl
        rw [Nat.gcd_zero_right] at h1
        try simp (config := { maxSteps := 10000000 }) only [go_sem, reduceIte, reduceCtorEq, Nat.reduceEqDiff, Nat.reduceLT, Nat.reduceLeDiff, Nat.reduceAdd, Nat.reduceBEq, Nat.reduceMul, Int.reduceToNat, Int.reduceLE, Int.reduceLT, Int.reduceEq, Int.reduceNeg, hA, hB]
        rw [h1]
      · have hB : ¬ (nl y : Int) = 0 := by have := (nl_le y hy).1; omega
        have h4 : nl y = 1 := by omega
        have hy9 : y < 1000000000 := nl_iff.1 (by omega : nl y ≤ 1)
        have hml := Nat.mod_lt x (Nat.pos_of_ne_zero hy)
        try simp (config := { maxSteps := 10000000 }) only [go_sem, reduceIte, reduceCtorEq, Nat.reduceEqDiff, Nat.reduceLT, Nat.reduceLeDiff, Nat.reduceAdd, Nat.reduceBEq, Nat.reduceMul, Int.reduceToNat, Int.reduceLE, Int.reduceLT, Int.reduceEq, Int.reduceNeg, hA, hB]
        repeat (refine And.intro (by first | omega | (constructor <;> omega) | kernel_rfl) ?_)
        have hsm := natDivSmall_fn x y (Nat.pos_of_ne_zero hy) hy9 (by omega)
        rw [← dg_one h4] at hsm
        repeat (refine And.intro (by first | omega | (constructor <;> omega) | kernel_rfl) ?_)
        refine CallW.mk (hsm) ?_
        try simp (config := { maxSteps := 10000000 }) only [go_sem, reduceIte, reduceCtorEq, Nat.reduceEqDiff, Nat.reduceLT, Nat.reduceLeDiff, Nat.reduceAdd, Nat.reduceBEq, Nat.reduceMul, Int.reduceToNat, Int.reduceLE, Int.reduceLT, Int.reduceEq, Int.reduceNeg]
        repeat (refine And.intro (by first | omega | (constructor <;> omega) | kernel_rfl) ?_)
        rw [dg_one h4]
        refine LoopG.intro _ _ _ (fun z : Nat × Nat => ⟨[(8, .sc (.int .i64 z.2)), (9, .sc (.int .i64 z.1))], []⟩) (fun z => Nat.gcd z.1 z.2 = Nat.gcd a b ∧ 0 < z.1 ∧ z.1 < 1000000000 ∧ z.2 < 1000000000) (fun z => z.2) (y, x % y) ?_ ⟨gcd_step h1, Nat.pos_of_ne_zero hy, hy9, by simp only; omega⟩ ?_
        · refine Wk.mk [] ?_
          try simp (config := { maxSteps := 10000000 }) only [go_sem, reduceIte, reduceCtorEq, Nat.reduceEqDiff, Nat.reduceLT, Nat.reduceLeDiff, Nat.reduceAdd, Nat.reduceBEq, Nat.reduceMul, Int.reduceToNat, Int.reduceLE, Int.reduceLT, Int.reduceEq, Int.reduceNeg]
          try (and_intros <;> first | rfl | omega | exact ⟨_, rfl⟩)
        · rintro ⟨u, v⟩ ⟨g1, g2, g3, g4⟩
          simp only at g1 g2 g3 g4
          try simp (config := { maxSteps := 10000000 }) only [go_sem, reduceIte, reduceCtorEq, Nat.reduceEqDiff, Nat.reduceLT, Nat.reduceLeDiff, Nat.reduceAdd, Nat.reduceBEq, Nat.reduceMul, Int.reduceToNat, Int.reduceLE, Int.reduceLT, Int.reduceEq, Int.reduceNeg]
          refine CondW_dec (fun hC => ?_) (fun hC => ?_)
          · have hv : 0 < v := by omega
            have hml2 := Nat.mod_lt u hv
            try simp (config := { maxSteps := 10000000 }) only [go_sem, reduceIte, reduceCtorEq, Nat.reduceEqDiff, Nat.reduceLT, Nat.reduceLeDiff, Nat.reduceAdd, Nat.reduceBEq, Nat.reduceMul, Int.reduceToNat, Int.reduceLE, Int.reduceLT, Int.reduceEq, Int.reduceNeg]
            refine RemW.pos (by omega) (by omega) ?_
            try simp (config := { maxSteps := 10000000 }) only [go_sem, reduceIte, reduceCtorEq, Nat.reduceEqDiff, Nat.reduceLT, Nat.reduceLeDiff, Nat.reduceAdd, Nat.reduceBEq, Nat.reduceMul, Int.reduceToNat, Int.reduceLE, Int.reduceLT, Int.reduceEq, Int.reduceNeg]
            repeat (refine And.intro (by first | omega | (constructor <;> omega) | kernel_rfl) ?_)
            refine LoopK.mk (v, u % v) ?_ ⟨gcd_step g1, hv, g4, by simp only; omega⟩ (by simp only; omega)
            refine Wk.mk [] ?_
            try simp (config := { maxSteps := 10000000 }) only [go_sem, reduceIte, reduceCtorEq, Nat.reduceEqDiff, Nat.reduceLT, Nat.reduceLeDiff, Nat.reduceAdd, Nat.reduceBEq, Nat.reduceMul, Int.reduceToNat, Int.reduceLE, Int.reduceLT, Int.reduceEq, Int.reduceNeg]
            try (and_intros <;> first | rfl | omega | exact ⟨_, rfl⟩)
          · have hv : v = 0 := by omega
            subst hv
            rw [Nat.gcd_zero_right] at g1
            try simp (config := { maxSteps := 10000000 }) only [go_sem, reduceIte, reduceCtorEq, Nat.reduceEqDiff, Nat.reduceLT, Nat.reduceLeDiff, Nat.reduceAdd, Nat.reduceBEq, Nat.reduceMul, Int.reduceToNat, Int.reduceLE, Int.reduceLT, Int.reduceEq, Int.reduceNeg]
            rw [← g1, natL_one g2 g3]
end Go.Proofs.YtgffgcpcjpjfgaaGreat.DW

/-
  Integers and fractions as data. No program here.
-/
namespace Go.Proofs.YtgffgcpcjpjfgaaGreat.DW
open Go.RowKit
abbrev DB : Type := Bool × List Int
abbrev DR : Type := DB × List Int
/-- An integer as data. -/
def bigD (z : Int) : DB := (decide (z < 0), natL z.natAbs)
def bZ : DB := (false, [])
theorem bigD_zero : bigD 0 = bZ := by simp [bigD, bZ, natL_zero]
theorem bigD_inj {x y : Int} (h : bigD x = bigD y) : x = y := by
  simp only [bigD, Prod.mk.injEq, decide_eq_decide] at h
  have := natL_inj h.2
  omega
theorem bigD_nat (n : Nat) : bigD n = (false, natL n) := by
  rw [bigD, Int.natAbs_natCast, decide_eq_false (by omega)]
/-- With a sign. -/
def sgn (s : Bool) (n : Nat) : Int := if s then -(n : Int) else n
theorem bigD_sgn (s : Bool) (n : Nat) : bigD (sgn s n) = (s && decide (0 < n), natL n) := by
  cases s with
  | false => simp only [sgn, Bool.false_eq_true, if_false, bigD_nat, Bool.false_and]
  | true =>
    simp only [sgn, if_true, bigD, Int.natAbs_neg, Int.natAbs_natCast, Bool.true_and]
    congr 1
    rw [decide_eq_decide]; omega
theorem sgn_bigD (z : Int) : sgn (decide (z < 0)) z.natAbs = z := by
  unfold sgn; split <;> simp_all <;> omega
/-- Valid data of an integer. -/
def okBP (x : DB) : Prop := okNP x.2 ∧ ¬ (x.1 = true ∧ x.2.length = 0)
noncomputable def okB (x : DB) : Bool := bdec (okBP x)
theorem okBP_bigD {z : Int} : okBP (bigD z) ↔ nl z.natAbs ≤ 60 := by
  unfold okBP bigD
  simp only [okNP_natL, natL_len_nl, nl_eq_zero, decide_eq_true_eq]
  constructor
  · exact fun h => h.1
  · exact fun h => ⟨h, by omega⟩
theorem okBP_iff {x : DB} : okBP x ↔ ∃ z : Int, x = bigD z ∧ nl z.natAbs ≤ 60 := by
  constructor
  · intro h
    obtain ⟨n, e, hn⟩ := okNP_iff.1 h.1
    refine ⟨sgn x.1 n, ?_, ?_⟩
    · rw [bigD_sgn]
      obtain ⟨s, l⟩ := x
      simp only at e h ⊢
      subst e
      have h2 := h.2
      simp only [natL_len_nl, nl_eq_zero] at h2
      cases s with
      | false => rfl
      | true =>
        have : 0 < n := by simp at h2; omega
        simp [this]
    · have : (sgn x.1 n).natAbs = n := by unfold sgn; split <;> omega
      rw [this]; exact hn
  · rintro ⟨z, rfl, h⟩; exact okBP_bigD.2 h
def cmpZ (a b : Int) : Int := if a < b then -1 else if b < a then 1 else 0
-- fractions
def small (q : Rat) : Prop := nl q.num.natAbs ≤ 24 ∧ nl q.den ≤ 24
/-- A fraction as data. -/
def ratD (q : Rat) : DR := (bigD q.num, natL q.den)
def rZ : DR := (bZ, [])
def oD : Option Rat → DR
  | none => rZ
  | some q => ratD q
theorem den_pos' (q : Rat) : 0 < q.den := Nat.pos_of_ne_zero q.den_nz
theorem ratD_ne (q : Rat) : ratD q ≠ rZ := fun h => by
  have h2 : natL q.den = [] := congrArg Prod.snd h
  exact q.den_nz (natL_nil.1 h2)
theorem ratD_inj {p q : Rat} (h : ratD p = ratD q) : p = q := by
  simp only [ratD, Prod.mk.injEq] at h
  exact Rat.ext (bigD_inj h.1) (natL_inj h.2)
noncomputable def capR (q : Rat) : Option Rat := @ite _ (small q) (Classical.propDecidable _) (some q) none
theorem capR_s {q : Rat} (h : small q) : capR q = some q := if_pos h
theorem capR_n {q : Rat} (h : ¬ small q) : capR q = none := if_neg h
/-- A value that was computed: none, or small. -/
def okO (x : Option Rat) : Prop := ∀ q, x = some q → small q
theorem okO_none : okO none := fun _ h => by cases h
theorem okO_cap (q : Rat) : okO (capR q) := fun p h => by
  by_cases hs : small q
  · rw [capR_s hs] at h; injection h with h; exact h ▸ hs
  · rw [capR_n hs] at h; cases h
/-- The fraction that data stand for. -/
noncomputable def rdO (r : DR) : Option Rat := @dite _ (∃ q, small q ∧ r = ratD q) (Classical.propDecidable _) (fun h => some (Classical.choose h)) (fun _ => none)
theorem rdO_ratD {q : Rat} (h : small q) : rdO (ratD q) = some q := by
  have he : ∃ p, small p ∧ ratD q = ratD p := ⟨q, h, rfl⟩
  unfold rdO
  rw [dif_pos he]
  exact congrArg some (ratD_inj (Classical.choose_spec he).2.symm)
theorem rdO_oD {x : Option Rat} (h : okO x) : rdO (oD x) = x := by
  cases x with
  | none =>
    unfold rdO
    rw [dif_neg]
    rintro ⟨q, _, hq⟩
    exact ratD_ne q hq.symm
  | some q => exact rdO_ratD (h q rfl)
theorem rdO_some {r : DR} {q : Rat} (h : rdO r = some q) : small q ∧ r = ratD q := by
  unfold rdO at h
  split at h
  · rename_i he
    injection h with h
    rw [← h]; exact Classical.choose_spec he
  · cases h
theorem okO_rdO (r : DR) : okO (rdO r) := fun q h => (rdO_some h).1
noncomputable def okR (r : DR) : Bool := (rdO r).isSome
theorem okR_ratD {q : Rat} (h : small q) : okR (ratD q) = true := by rw [okR, rdO_ratD h]; rfl
theorem okR_t {r : DR} (h : okR r = true) : ∃ q, small q ∧ r = ratD q ∧ rdO r = some q := by
  unfold okR at h
  cases hr : rdO r with
  | none => rw [hr] at h; cases h
  | some q => exact ⟨q, (rdO_some hr).1, (rdO_some hr).2, rfl⟩
theorem okR_f {r : DR} (h : okR r = false) : rdO r = none := by
  unfold okR at h
  cases hr : rdO r with
  | none => rfl
  | some q => rw [hr] at h; cases h
/-- What makes data a fraction. -/
theorem okR_iff {r : DR} : okR r = true ↔ okBP r.1 ∧ okNP r.2 ∧ r.2 ≠ [] ∧ r.1.2.length ≤ 24 ∧ r.2.length ≤ 24 ∧ Nat.gcd (val r.1.2) (val r.2) = 1 := by
  constructor
  · intro h
    obtain ⟨q, ⟨h1, h2⟩, rfl, _⟩ := okR_t h
    simp only [ratD, bigD, natL_len_nl, val_natL]
    refine ⟨okBP_bigD.2 (by omega), okNP_natL.2 (by omega), fun h => q.den_nz (natL_nil.1 h), h1, h2, q.reduced⟩
  · rintro ⟨h1, h2, h3, h4, h5, h6⟩
    obtain ⟨z, hz, hzl⟩ := okBP_iff.1 h1
    obtain ⟨n, hn, hnl⟩ := okNP_iff.1 h2
    obtain ⟨x, l⟩ := r
    simp only at hz hn h3 h4 h5 h6
    subst hz hn
    simp only [bigD, natL_len_nl, val_natL] at h4 h5 h6
    have hn0 : n ≠ 0 := fun h => h3 (natL_nil.2 h)
    exact okR_ratD (q := ⟨z, n, hn0, h6⟩) ⟨h4, h5⟩
noncomputable def addO : Option Rat → Option Rat → Option Rat
  | some p, some q => capR (p + q)
  | _, _ => none
noncomputable def mulO : Option Rat → Option Rat → Option Rat
  | some p, some q => capR (p * q)
  | _, _ => none
def negO : Option Rat → Option Rat
  | some p => some (-p)
  | none => none
noncomputable def subO (x y : Option Rat) : Option Rat := addO x (negO y)
noncomputable def cmpQ (p q : Rat) : Int := if p < q then -1 else if q < p then 1 else 0
noncomputable def cmpO : Option Rat → Option Rat → Int
  | some p, some q => cmpQ p q
  | _, _ => 0
noncomputable def sgnO : Option Rat → Int
  | some p => cmpQ p 0
  | none => 0
theorem okO_add (x y : Option Rat) : okO (addO x y) := by
  unfold addO; split
  · exact okO_cap _
  · exact okO_none
theorem okO_mul (x y : Option Rat) : okO (mulO x y) := by
  unfold mulO; split
  · exact okO_cap _
  · exact okO_none
theorem small_neg {q : Rat} (h : small q) : small (-q) := by
  unfold small at *
  rw [Rat.neg_num, Rat.neg_den, Int.natAbs_neg]; exact h
theorem okO_neg {x : Option Rat} (h : okO x) : okO (negO x) := by
  cases x with
  | none => exact okO_none
  | some q => intro p hp; injection hp with hp; subst hp; exact small_neg (h q rfl)
theorem okO_sub (x y : Option Rat) : okO (subO x y) := okO_add _ _
/-- A fraction out of its parts. -/
theorem mk_parts {z : Int} {n : Nat} (hn : n ≠ 0) : (_root_.mkRat z n).num = z / (Nat.gcd z.natAbs n : Nat) ∧ (_root_.mkRat z n).den = n / Nat.gcd z.natAbs n := by
  rw [Rat.num_mkRat, Rat.den_mkRat, if_neg hn, if_neg hn, Nat.gcd_comm]; exact ⟨rfl, rfl⟩
theorem add_mk (p q : Rat) : p + q = _root_.mkRat (p.num * q.den + q.num * p.den) (p.den * q.den) := by
  have h := Rat.mkRat_add_mkRat p.num q.num p.den_nz q.den_nz
  rw [Rat.mkRat_self, Rat.mkRat_self] at h; exact h
theorem mul_mk (p q : Rat) : p * q = _root_.mkRat (p.num * q.num) (p.den * q.den) := by
  have h := Rat.mkRat_mul_mkRat p.num q.num p.den q.den
  rw [Rat.mkRat_self, Rat.mkRat_self] at h; exact h
theorem cmpQ_eq (p q : Rat) : cmpQ p q = cmpZ (p.num * q.den) (q.num * p.den) := by
  unfold cmpQ cmpZ
  simp only [Rat.lt_iff]
theorem mk_abs {z : Int} {n : Nat} (hn : n ≠ 0) : (_root_.mkRat z n).num.natAbs = z.natAbs / Nat.gcd z.natAbs n ∧ (_root_.mkRat z n).den = n / Nat.gcd z.natAbs n ∧ decide ((_root_.mkRat z n).num < 0) = decide (z < 0) := by
  obtain ⟨h1, h2⟩ := mk_parts (z := z) hn
  have hg : 0 < Nat.gcd z.natAbs n := Nat.gcd_pos_of_pos_right _ (Nat.pos_of_ne_zero hn)
  have hd : Nat.gcd z.natAbs n ∣ z.natAbs := Nat.gcd_dvd_left ..
  rw [h1, h2]
  generalize Nat.gcd z.natAbs n = g at *
  obtain ⟨k, hk⟩ := hd
  have hk2 : z.natAbs / g = k := by rw [hk, Nat.mul_div_cancel_left _ hg]
  have hz : z = sgn (decide (z < 0)) z.natAbs := (sgn_bigD z).symm
  have hgz : z / (g : Int) = sgn (decide (z < 0)) k := by
    have hg' : (g : Int) ≠ 0 := by omega
    have e : z = (g : Int) * sgn (decide (z < 0)) k := by
      rw [hk] at hz
      by_cases h : z < 0
      · simp only [sgn, h, decide_true, if_true, Int.natCast_mul] at hz ⊢
        rw [Int.mul_neg]; exact hz
      · simp only [sgn, h, decide_false, Bool.false_eq_true, if_false, Int.natCast_mul] at hz ⊢
        exact hz
    conv => lhs; rw [e]
    exact Int.mul_ediv_cancel_left _ hg'
  rw [hgz, hk2]
  refine ⟨by unfold sgn; split <;> omega, rfl, ?_⟩
  rw [decide_eq_decide]
  unfold sgn
  by_cases h : z < 0
  · have hkp : 0 < k := by
      rcases Nat.eq_zero_or_pos k with h0 | h0
      · rw [h0, Nat.mul_zero] at hk; omega
      · exact h0
    simp [h]; omega
  · simp [h]
end Go.Proofs.YtgffgcpcjpjfgaaGreat.DW

/-
  Integers of any length.
-/
namespace Go.Proofs.YtgffgcpcjpjfgaaGreat.DW
open Go.RowKit
attribute [go_sem] bigD
theorem nlpos {n : Nat} : (0 : Int) < (nl n : Nat) ↔ 0 < n := by
  by_cases h : n = 0
  · subst h; rw [nl_zero]; simp
  · have := (nl_le n h).1; omega
theorem sgn_mul (x y : Int) : sgn (!(decide (x < 0) == decide (y < 0))) (x.natAbs * y.natAbs) = x * y := by
  unfold sgn
  rw [Int.natCast_mul]
  by_cases hx : x < 0 <;> by_cases hy : y < 0 <;> simp only [hx, hy, decide_true, decide_false, beq_self_eq_true, Bool.not_true, Bool.false_eq_true, if_false, Bool.not_false, if_true, beq_iff_eq, reduceCtorEq]
  · rw [show (x.natAbs : Int) = -x by omega, show (y.natAbs : Int) = -y by omega, Int.neg_mul_neg]
  · have e : (!(true == false)) = true := rfl
    rw [e, if_pos rfl, show (x.natAbs : Int) = -x by omega, show (y.natAbs : Int) = y by omega, Int.neg_mul, Int.neg_neg]
  · have e : (!(false == true)) = true := rfl
    rw [e, if_pos rfl, show (x.natAbs : Int) = x by omega, show (y.natAbs : Int) = -y by omega, Int.mul_neg, Int.neg_neg]
  · rw [show (x.natAbs : Int) = x by omega, show (y.natAbs : Int) = y by omega]
theorem cmpZ_nn {x y : Int} (hx : x < 0) (hy : y < 0) : cmpN y.natAbs x.natAbs = cmpZ x y := by
  unfold cmpN cmpZ
  by_cases h1 : x < y
  · rw [if_pos (by omega), if_pos h1]
  · by_cases h2 : y < x
    · rw [if_neg (by omega), if_pos (by omega), if_neg h1, if_pos h2]
    · rw [if_neg (by omega), if_neg (by omega), if_neg h1, if_neg h2]
theorem cmpZ_pp {x y : Int} (hx : ¬ x < 0) (hy : ¬ y < 0) : cmpN x.natAbs y.natAbs = cmpZ x y := by
  unfold cmpN cmpZ
  by_cases h1 : x < y
  · rw [if_pos (by omega), if_pos h1]
  · by_cases h2 : y < x
    · rw [if_neg (by omega), if_pos (by omega), if_neg h1, if_pos h2]
    · rw [if_neg (by omega), if_neg (by omega), if_neg h1, if_neg h2]
theorem cmpZ_np {x y : Int} (hx : x < 0) (hy : ¬ y < 0) : cmpZ x y = -1 := by unfold cmpZ; rw [if_pos (by omega)]
theorem cmpZ_pn {x y : Int} (hx : ¬ x < 0) (hy : y < 0) : cmpZ x y = 1 := by unfold cmpZ; rw [if_neg (by omega), if_pos (by omega)]
theorem clone_fn (l : List Int) (hl : l.length ≤ 16777216) : Fn Tryz.prog 109 [⟨tInts, l⟩] true [⟨tInts, l⟩] := by
  refine fn_enter tabOK mixes Tryz.func109 rfl rfl _ Tryz.ntmps109 _ Tryz.results109 (by simp) fun hwf => ?_
  try simp (config := { maxSteps := 10000000 }) only [go_sem, reduceIte, reduceCtorEq, Nat.reduceEqDiff, Nat.reduceLT, Nat.reduceLeDiff, Nat.reduceAdd, Nat.reduceBEq, Nat.reduceMul, Int.reduceToNat, Int.reduceLE, Int.reduceLT, Int.reduceEq, Int.reduceNeg]
  refine NilW.eq ?_
  try simp (config := { maxSteps := 10000000 }) only [go_sem, reduceIte, reduceCtorEq, Nat.reduceEqDiff, Nat.reduceLT, Nat.reduceLeDiff, Nat.reduceAdd, Nat.reduceBEq, Nat.reduceMul, Int.reduceToNat, Int.reduceLE, Int.reduceLT, Int.reduceEq, Int.reduceNeg]
  refine CondW_nb (fun h => ?_) (fun h => ?_)
  · try simp (config := { maxSteps := 10000000 }) only [go_sem, reduceIte, reduceCtorEq, Nat.reduceEqDiff, Nat.reduceLT, Nat.reduceLeDiff, Nat.reduceAdd, Nat.reduceBEq, Nat.reduceMul, Int.reduceToNat, Int.reduceLE, Int.reduceLT, Int.reduceEq, Int.reduceNeg, h]
  · try simp (config := { maxSteps := 10000000 }) only [go_sem, reduceIte, reduceCtorEq, Nat.reduceEqDiff, Nat.reduceLT, Nat.reduceLeDiff, Nat.reduceAdd, Nat.reduceBEq, Nat.reduceMul, Int.reduceToNat, Int.reduceLE, Int.reduceLT, Int.reduceEq, Int.reduceNeg]
    repeat (refine And.intro (by first | omega | (constructor <;> omega) | kernel_rfl) ?_)
    try simp (config := { maxSteps := 10000000 }) only [go_sem, reduceIte, reduceCtorEq, Nat.reduceEqDiff, Nat.reduceLT, Nat.reduceLeDiff, Nat.reduceAdd, Nat.reduceBEq, Nat.reduceMul, Int.reduceToNat, Int.reduceLE, Int.reduceLT, Int.reduceEq, Int.reduceNeg]
    omega
theorem bigMake_fn (s : Bool) (n : Nat) : Fn Tryz.prog 155 [⟨.bool, s⟩, ⟨tInts, natL n⟩] false [⟨tBig, bigD (sgn s n)⟩] := by
  rw [bigD_sgn]
  cases s
  · refine fn_enter tabOK mixes Tryz.func155 rfl rfl _ Tryz.ntmps155 _ Tryz.results155 (by simp) fun hwf => ?_
    try simp (config := { maxSteps := 10000000 }) only [go_sem, reduceIte, reduceCtorEq, Nat.reduceEqDiff, Nat.reduceLT, Nat.reduceLeDiff, Nat.reduceAdd, Nat.reduceBEq, Nat.reduceMul, Int.reduceToNat, Int.reduceLE, Int.reduceLT, Int.reduceEq, Int.reduceNeg]
  · refine fn_enter tabOK mixes Tryz.func155 rfl rfl _ Tryz.ntmps155 _ Tryz.results155 (by simp) fun hwf => ?_
    try simp (config := { maxSteps := 10000000 }) only [go_sem, reduceIte, reduceCtorEq, Nat.reduceEqDiff, Nat.reduceLT, Nat.reduceLeDiff, Nat.reduceAdd, Nat.reduceBEq, Nat.reduceMul, Int.reduceToNat, Int.reduceLE, Int.reduceLT, Int.reduceEq, Int.reduceNeg]
    simp only [nlpos]
theorem bigMake_to {s : Bool} {n : Nat} {z : Int} (h : sgn s n = z) : Fn Tryz.prog 155 [⟨.bool, s⟩, ⟨tInts, natL n⟩] false [⟨tBig, bigD z⟩] := h ▸ bigMake_fn s n
theorem bigNeg_fn (z : Int) : Fn Tryz.prog 196 [⟨tBig, bigD z⟩] false [⟨tBig, bigD (-z)⟩] := by
  refine fn_enter tabOK mixes Tryz.func196 rfl rfl _ Tryz.ntmps196 _ Tryz.results196 (by simp) fun hwf => ?_
  try simp (config := { maxSteps := 10000000 }) only [go_sem, reduceIte, reduceCtorEq, Nat.reduceEqDiff, Nat.reduceLT, Nat.reduceLeDiff, Nat.reduceAdd, Nat.reduceBEq, Nat.reduceMul, Int.reduceToNat, Int.reduceLE, Int.reduceLT, Int.reduceEq, Int.reduceNeg]
  repeat (refine And.intro (by first | omega | (constructor <;> omega) | kernel_rfl) ?_)
  refine CallW.mk (bigMake_to (s := !decide (z < 0)) (n := z.natAbs) (z := -z) (by unfold sgn; by_cases h : z < 0 <;> simp [h] <;> omega)) ?_
  try simp (config := { maxSteps := 10000000 }) only [go_sem, reduceIte, reduceCtorEq, Nat.reduceEqDiff, Nat.reduceLT, Nat.reduceLeDiff, Nat.reduceAdd, Nat.reduceBEq, Nat.reduceMul, Int.reduceToNat, Int.reduceLE, Int.reduceLT, Int.reduceEq, Int.reduceNeg]
theorem bigAdd_fn (x y : Int) (hx : nl x.natAbs ≤ 10000) (hy : nl y.natAbs ≤ 10000) : Fn Tryz.prog 101 [⟨tBig, bigD x⟩, ⟨tBig, bigD y⟩] false [⟨tBig, bigD (x + y)⟩] := by
  refine fn_enter tabOK mixes Tryz.func101 rfl rfl _ Tryz.ntmps101 _ Tryz.results101 (by simp) fun hwf => ?_
  try simp (config := { maxSteps := 10000000 }) only [go_sem, reduceIte, reduceCtorEq, Nat.reduceEqDiff, Nat.reduceLT, Nat.reduceLeDiff, Nat.reduceAdd, Nat.reduceBEq, Nat.reduceMul, Int.reduceToNat, Int.reduceLE, Int.reduceLT, Int.reduceEq, Int.reduceNeg]
  refine CondW_b (fun h => ?_) (fun h => ?_)
  · have hs : decide (x < 0) = decide (y < 0) := by simpa using h
    try simp (config := { maxSteps := 10000000 }) only [go_sem, reduceIte, reduceCtorEq, Nat.reduceEqDiff, Nat.reduceLT, Nat.reduceLeDiff, Nat.reduceAdd, Nat.reduceBEq, Nat.reduceMul, Int.reduceToNat, Int.reduceLE, Int.reduceLT, Int.reduceEq, Int.reduceNeg]
    repeat (refine And.intro (by first | omega | (constructor <;> omega) | kernel_rfl) ?_)
    refine CallW.mk (natAdd_fn x.natAbs y.natAbs (by omega) (by omega)) ?_
    try simp (config := { maxSteps := 10000000 }) only [go_sem, reduceIte, reduceCtorEq, Nat.reduceEqDiff, Nat.reduceLT, Nat.reduceLeDiff, Nat.reduceAdd, Nat.reduceBEq, Nat.reduceMul, Int.reduceToNat, Int.reduceLE, Int.reduceLT, Int.reduceEq, Int.reduceNeg]
    repeat (refine And.intro (by first | omega | (constructor <;> omega) | kernel_rfl) ?_)
    refine CallW.mk (bigMake_to (s := decide (x < 0)) (n := x.natAbs + y.natAbs) (z := x + y) (by unfold sgn; by_cases h : x < 0 <;> by_cases h2 : y < 0 <;> simp [h, h2] at hs ⊢ <;> omega)) ?_
    try simp (config := { maxSteps := 10000000 }) only [go_sem, reduceIte, reduceCtorEq, Nat.reduceEqDiff, Nat.reduceLT, Nat.reduceLeDiff, Nat.reduceAdd, Nat.reduceBEq, Nat.reduceMul, Int.reduceToNat, Int.reduceLE, Int.reduceLT, Int.reduceEq, Int.reduceNeg]
    kernel_rfl
  · have hs : decide (x < 0) ≠ decide (y < 0) := by simpa using h
    try simp (config := { maxSteps := 10000000 }) only [go_sem, reduceIte, reduceCtorEq, Nat.reduceEqDiff, Nat.reduceLT, Nat.reduceLeDiff, Nat.reduceAdd, Nat.reduceBEq, Nat.reduceMul, Int.reduceToNat, Int.reduceLE, Int.reduceLT, Int.reduceEq, Int.reduceNeg]
    repeat (refine And.intro (by first | omega | (constructor <;> omega) | kernel_rfl) ?_)
    refine CallW.mk (natCmp_fn (natL x.natAbs) (natL y.natAbs)) ?_
    try simp (config := { maxSteps := 10000000 }) only [go_sem, reduceIte, reduceCtorEq, Nat.reduceEqDiff, Nat.reduceLT, Nat.reduceLeDiff, Nat.reduceAdd, Nat.reduceBEq, Nat.reduceMul, Int.reduceToNat, Int.reduceLE, Int.reduceLT, Int.reduceEq, Int.reduceNeg]
    refine CondW_dec (fun hc => ?_) (fun hc => ?_)
    · rw [cmpN_ge] at hc
      try simp (config := { maxSteps := 10000000 }) only [go_sem, reduceIte, reduceCtorEq, Nat.reduceEqDiff, Nat.reduceLT, Nat.reduceLeDiff, Nat.reduceAdd, Nat.reduceBEq, Nat.reduceMul, Int.reduceToNat, Int.reduceLE, Int.reduceLT, Int.reduceEq, Int.reduceNeg]
      repeat (refine And.intro (by first | omega | (constructor <;> omega) | kernel_rfl) ?_)
      refine CallW.mk (natSub_fn x.natAbs y.natAbs hc (by omega)) ?_
      try simp (config := { maxSteps := 10000000 }) only [go_sem, reduceIte, reduceCtorEq, Nat.reduceEqDiff, Nat.reduceLT, Nat.reduceLeDiff, Nat.reduceAdd, Nat.reduceBEq, Nat.reduceMul, Int.reduceToNat, Int.reduceLE, Int.reduceLT, Int.reduceEq, Int.reduceNeg]
      repeat (refine And.intro (by first | omega | (constructor <;> omega) | kernel_rfl) ?_)
      refine CallW.mk (bigMake_to (s := decide (x < 0)) (n := x.natAbs - y.natAbs) (z := x + y) (by unfold sgn; by_cases h : x < 0 <;> by_cases h2 : y < 0 <;> simp [h, h2] at hs ⊢ <;> omega)) ?_
      try simp (config := { maxSteps := 10000000 }) only [go_sem, reduceIte, reduceCtorEq, Nat.reduceEqDiff, Nat.reduceLT, Nat.reduceLeDiff, Nat.reduceAdd, Nat.reduceBEq, Nat.reduceMul, Int.reduceToNat, Int.reduceLE, Int.reduceLT, Int.reduceEq, Int.reduceNeg]
      kernel_rfl
    · rw [cmpN_ge] at hc
      try simp (config := { maxSteps := 10000000 }) only [go_sem, reduceIte, reduceCtorEq, Nat.reduceEqDiff, Nat.reduceLT, Nat.reduceLeDiff, Nat.reduceAdd, Nat.reduceBEq, Nat.reduceMul, Int.reduceToNat, Int.reduceLE, Int.reduceLT, Int.reduceEq, Int.reduceNeg]
      repeat (refine And.intro (by first | omega | (constructor <;> omega) | kernel_rfl) ?_)
      refine CallW.mk (natSub_fn y.natAbs x.natAbs (by omega) (by omega)) ?_
      try simp (config := { maxSteps := 10000000 }) only [go_sem, reduceIte, reduceCtorEq, Nat.reduceEqDiff, Nat.reduceLT, Nat.reduceLeDiff, Nat.reduceAdd, Nat.reduceBEq, Nat.reduceMul, Int.reduceToNat, Int.reduceLE, Int.reduceLT, Int.reduceEq, Int.reduceNeg]
      repeat (refine And.intro (by first | omega | (constructor <;> omega) | kernel_rfl) ?_)
      refine CallW.mk (bigMake_to (s := decide (y < 0)) (n := y.natAbs - x.natAbs) (z := x + y) (by unfold sgn; by_cases h : x < 0 <;> by_cases h2 : y < 0 <;> simp [h, h2] at hs ⊢ <;> omega)) ?_
      try simp (config := { maxSteps := 10000000 }) only [go_sem, reduceIte, reduceCtorEq, Nat.reduceEqDiff, Nat.reduceLT, Nat.reduceLeDiff, Nat.reduceAdd, Nat.reduceBEq, Nat.reduceMul, Int.reduceToNat, Int.reduceLE, Int.reduceLT, Int.reduceEq, Int.reduceNeg]
      kernel_rfl
theorem bigMul_fn (x y : Int) (hx : nl x.natAbs ≤ 10000) (hy : nl y.natAbs ≤ 10000) : Fn Tryz.prog 102 [⟨tBig, bigD x⟩, ⟨tBig, bigD y⟩] false [⟨tBig, bigD (x * y)⟩] := by
  refine fn_enter tabOK mixes Tryz.func102 rfl rfl _ Tryz.ntmps102 _ Tryz.results102 (by simp) fun hwf => ?_
  try simp (config := { maxSteps := 10000000 }) only [go_sem, reduceIte, reduceCtorEq, Nat.reduceEqDiff, Nat.reduceLT, Nat.reduceLeDiff, Nat.reduceAdd, Nat.reduceBEq, Nat.reduceMul, Int.reduceToNat, Int.reduceLE, Int.reduceLT, Int.reduceEq, Int.reduceNeg]
  repeat (refine And.intro (by first | omega | (constructor <;> omega) | kernel_rfl) ?_)
  refine CallW.mk (natMul_fn x.natAbs y.natAbs (by omega) (by omega)) ?_
  try simp (config := { maxSteps := 10000000 }) only [go_sem, reduceIte, reduceCtorEq, Nat.reduceEqDiff, Nat.reduceLT, Nat.reduceLeDiff, Nat.reduceAdd, Nat.reduceBEq, Nat.reduceMul, Int.reduceToNat, Int.reduceLE, Int.reduceLT, Int.reduceEq, Int.reduceNeg]
  repeat (refine And.intro (by first | omega | (constructor <;> omega) | kernel_rfl) ?_)
  refine CallW.mk (bigMake_to (s := !(decide (x < 0) == decide (y < 0))) (n := x.natAbs * y.natAbs) (z := x * y) (sgn_mul x y)) ?_
  try simp (config := { maxSteps := 10000000 }) only [go_sem, reduceIte, reduceCtorEq, Nat.reduceEqDiff, Nat.reduceLT, Nat.reduceLeDiff, Nat.reduceAdd, Nat.reduceBEq, Nat.reduceMul, Int.reduceToNat, Int.reduceLE, Int.reduceLT, Int.reduceEq, Int.reduceNeg]
  kernel_rfl
theorem bigCmp_fn (x y : Int) : Fn Tryz.prog 195 [⟨tBig, bigD x⟩, ⟨tBig, bigD y⟩] false [⟨.int, cmpZ x y⟩] := by
  by_cases hx : x < 0 <;> by_cases hy : y < 0
  · refine fn_enter tabOK mixes Tryz.func195 rfl rfl _ Tryz.ntmps195 _ Tryz.results195 (by simp) fun hwf => ?_
    try simp (config := { maxSteps := 10000000 }) only [go_sem, reduceIte, reduceCtorEq, Nat.reduceEqDiff, Nat.reduceLT, Nat.reduceLeDiff, Nat.reduceAdd, Nat.reduceBEq, Nat.reduceMul, Int.reduceToNat, Int.reduceLE, Int.reduceLT, Int.reduceEq, Int.reduceNeg, hx, hy]
    repeat (refine And.intro (by first | omega | (constructor <;> omega) | kernel_rfl) ?_)
    refine CallW.mk (natCmp_fn (natL y.natAbs) (natL x.natAbs)) ?_
    try simp (config := { maxSteps := 10000000 }) only [go_sem, reduceIte, reduceCtorEq, Nat.reduceEqDiff, Nat.reduceLT, Nat.reduceLeDiff, Nat.reduceAdd, Nat.reduceBEq, Nat.reduceMul, Int.reduceToNat, Int.reduceLE, Int.reduceLT, Int.reduceEq, Int.reduceNeg]
    exact cmpZ_nn hx hy
  · refine fn_enter tabOK mixes Tryz.func195 rfl rfl _ Tryz.ntmps195 _ Tryz.results195 (by simp) fun hwf => ?_
    try simp (config := { maxSteps := 10000000 }) only [go_sem, reduceIte, reduceCtorEq, Nat.reduceEqDiff, Nat.reduceLT, Nat.reduceLeDiff, Nat.reduceAdd, Nat.reduceBEq, Nat.reduceMul, Int.reduceToNat, Int.reduceLE, Int.reduceLT, Int.reduceEq, Int.reduceNeg, hx, hy]
    exact (cmpZ_np hx hy).symm
  · refine fn_enter tabOK mixes Tryz.func195 rfl rfl _ Tryz.ntmps195 _ Tryz.results195 (by simp) fun hwf => ?_
    try simp (config := { maxSteps := 10000000 }) only [go_sem, reduceIte, reduceCtorEq, Nat.reduceEqDiff, Nat.reduceLT, Nat.reduceLeDiff, Nat.reduceAdd, Nat.reduceBEq, Nat.reduceMul, Int.reduceToNat, Int.reduceLE, Int.reduceLT, Int.reduceEq, Int.reduceNeg, hx, hy]
    exact (cmpZ_pn hx hy).symm
  · refine fn_enter tabOK mixes Tryz.func195 rfl rfl _ Tryz.ntmps195 _ Tryz.results195 (by simp) fun hwf => ?_
    try simp (config := { maxSteps := 10000000 }) only [go_sem, reduceIte, reduceCtorEq, Nat.reduceEqDiff, Nat.reduceLT, Nat.reduceLeDiff, Nat.reduceAdd, Nat.reduceBEq, Nat.reduceMul, Int.reduceToNat, Int.reduceLE, Int.reduceLT, Int.reduceEq, Int.reduceNeg, hx, hy]
    repeat (refine And.intro (by first | omega | (constructor <;> omega) | kernel_rfl) ?_)
    refine CallW.mk (natCmp_fn (natL x.natAbs) (natL y.natAbs)) ?_
    try simp (config := { maxSteps := 10000000 }) only [go_sem, reduceIte, reduceCtorEq, Nat.reduceEqDiff, Nat.reduceLT, Nat.reduceLeDiff, Nat.reduceAdd, Nat.reduceBEq, Nat.reduceMul, Int.reduceToNat, Int.reduceLE, Int.reduceLT, Int.reduceEq, Int.reduceNeg]
    exact cmpZ_pp hx hy
theorem ownBig_fn (z : Int) (hz : nl z.natAbs ≤ 60) : Fn Tryz.prog 161 [⟨tBig, bigD z⟩] true [⟨tBig, bigD z⟩] := by
  have hA : ¬ (60 : Int) < nl z.natAbs := by omega
  refine fn_enter tabOK mixes Tryz.func161 rfl rfl _ Tryz.ntmps161 _ Tryz.results161 (by simp) fun hwf => ?_
  try simp (config := { maxSteps := 10000000 }) only [go_sem, reduceIte, reduceCtorEq, Nat.reduceEqDiff, Nat.reduceLT, Nat.reduceLeDiff, Nat.reduceAdd, Nat.reduceBEq, Nat.reduceMul, Int.reduceToNat, Int.reduceLE, Int.reduceLT, Int.reduceEq, Int.reduceNeg, hA]
  repeat (refine And.intro (by first | omega | (constructor <;> omega) | kernel_rfl) ?_)
  refine CallW.mk (clone_fn (natL z.natAbs) (by show nl z.natAbs ≤ 16777216; omega)) ?_
  try simp (config := { maxSteps := 10000000 }) only [go_sem, reduceIte, reduceCtorEq, Nat.reduceEqDiff, Nat.reduceLT, Nat.reduceLeDiff, Nat.reduceAdd, Nat.reduceBEq, Nat.reduceMul, Int.reduceToNat, Int.reduceLE, Int.reduceLT, Int.reduceEq, Int.reduceNeg]
  kernel_rfl
theorem okB_eq (s : Bool) (l : List Int) : okB (s, l) = (okN l && !(s && decide ((l.length : Int) = 0))) := by
  by_cases h1 : okNP l
  · by_cases h2 : l.length = 0
    · cases s
      · rw [okB, bdec_t ⟨h1, fun h => by cases h.1⟩, okN, bdec_t h1]; rfl
      · rw [okB, bdec_f fun h => h.2 ⟨rfl, h2⟩, h2]; simp
    · rw [okB, bdec_t ⟨h1, fun h => h2 h.2⟩, okN, bdec_t h1, decide_eq_false (by omega)]; simp
  · rw [okB, bdec_f fun h => h1 h.1, okN, bdec_f h1]; rfl
theorem implBigIntOk_fn (x : DB) : Fn Tryz.prog 200 [⟨tBig, x⟩] false [⟨.bool, okB x⟩] := by
  obtain ⟨s, l⟩ := x
  rw [okB_eq]
  cases hN : okN l <;> cases s
  all_goals
    refine fn_enter tabOK mixes Tryz.func200 rfl rfl _ Tryz.ntmps200 _ Tryz.results200 (by simp) fun hwf => ?_
    try simp (config := { maxSteps := 10000000 }) only [go_sem, reduceIte, reduceCtorEq, Nat.reduceEqDiff, Nat.reduceLT, Nat.reduceLeDiff, Nat.reduceAdd, Nat.reduceBEq, Nat.reduceMul, Int.reduceToNat, Int.reduceLE, Int.reduceLT, Int.reduceEq, Int.reduceNeg]
    repeat (refine And.intro (by first | omega | (constructor <;> omega) | kernel_rfl) ?_)
    refine CallW.mk (implNatOk_fn l) ?_
    try simp (config := { maxSteps := 10000000 }) only [go_sem, reduceIte, reduceCtorEq, Nat.reduceEqDiff, Nat.reduceLT, Nat.reduceLeDiff, Nat.reduceAdd, Nat.reduceBEq, Nat.reduceMul, Int.reduceToNat, Int.reduceLE, Int.reduceLT, Int.reduceEq, Int.reduceNeg]
    try simp (config := { maxSteps := 10000000 }) only [go_sem, reduceIte, reduceCtorEq, Nat.reduceEqDiff, Nat.reduceLT, Nat.reduceLeDiff, Nat.reduceAdd, Nat.reduceBEq, Nat.reduceMul, Int.reduceToNat, Int.reduceLE, Int.reduceLT, Int.reduceEq, Int.reduceNeg, hN]
theorem specBigIntOk_fn (x : DB) : Fn Tryz.prog 140 [⟨tBig, x⟩] false [⟨.bool, okB x⟩] := by
  obtain ⟨s, l⟩ := x
  rw [okB_eq]
  by_cases hl : (l.length : Int) = 0
  · have hl2 : ¬ 0 < (l.length : Int) := by omega
    cases hN : okN l <;> cases s
    all_goals
      refine fn_enter tabOK mixes Tryz.func140 rfl rfl _ Tryz.ntmps140 _ Tryz.results140 (by simp) fun hwf => ?_
      try simp (config := { maxSteps := 10000000 }) only [go_sem, reduceIte, reduceCtorEq, Nat.reduceEqDiff, Nat.reduceLT, Nat.reduceLeDiff, Nat.reduceAdd, Nat.reduceBEq, Nat.reduceMul, Int.reduceToNat, Int.reduceLE, Int.reduceLT, Int.reduceEq, Int.reduceNeg]
      repeat (refine And.intro (by first | omega | (constructor <;> omega) | kernel_rfl) ?_)
      refine CallW.mk (specNatOk_fn l) ?_
      try simp (config := { maxSteps := 10000000 }) only [go_sem, reduceIte, reduceCtorEq, Nat.reduceEqDiff, Nat.reduceLT, Nat.reduceLeDiff, Nat.reduceAdd, Nat.reduceBEq, Nat.reduceMul, Int.reduceToNat, Int.reduceLE, Int.reduceLT, Int.reduceEq, Int.reduceNeg]
      try simp (config := { maxSteps := 10000000 }) only [go_sem, reduceIte, reduceCtorEq, Nat.reduceEqDiff, Nat.reduceLT, Nat.reduceLeDiff, Nat.reduceAdd, Nat.reduceBEq, Nat.reduceMul, Int.reduceToNat, Int.reduceLE, Int.reduceLT, Int.reduceEq, Int.reduceNeg, hN, hl, hl2]
  · have hl2 : 0 < (l.length : Int) := by omega
    cases hN : okN l <;> cases s
    all_goals
      refine fn_enter tabOK mixes Tryz.func140 rfl rfl _ Tryz.ntmps140 _ Tryz.results140 (by simp) fun hwf => ?_
      try simp (config := { maxSteps := 10000000 }) only [go_sem, reduceIte, reduceCtorEq, Nat.reduceEqDiff, Nat.reduceLT, Nat.reduceLeDiff, Nat.reduceAdd, Nat.reduceBEq, Nat.reduceMul, Int.reduceToNat, Int.reduceLE, Int.reduceLT, Int.reduceEq, Int.reduceNeg]
      repeat (refine And.intro (by first | omega | (constructor <;> omega) | kernel_rfl) ?_)
      refine CallW.mk (specNatOk_fn l) ?_
      try simp (config := { maxSteps := 10000000 }) only [go_sem, reduceIte, reduceCtorEq, Nat.reduceEqDiff, Nat.reduceLT, Nat.reduceLeDiff, Nat.reduceAdd, Nat.reduceBEq, Nat.reduceMul, Int.reduceToNat, Int.reduceLE, Int.reduceLT, Int.reduceEq, Int.reduceNeg]
      try simp (config := { maxSteps := 10000000 }) only [go_sem, reduceIte, reduceCtorEq, Nat.reduceEqDiff, Nat.reduceLT, Nat.reduceLeDiff, Nat.reduceAdd, Nat.reduceBEq, Nat.reduceMul, Int.reduceToNat, Int.reduceLE, Int.reduceLT, Int.reduceEq, Int.reduceNeg, hN, hl, hl2]
theorem l02Cap_fn (n : Nat) (hn : nl n ≤ 60) : Fn Tryz.prog 183 [⟨tInts, natL n⟩] false [⟨tInts, natL n⟩] := by
  have hA : ¬ (60 : Int) < nl n := by omega
  have ht := l02Trim_fn (natL n)
  rw [trimL_natL] at ht
  refine fn_enter tabOK mixes Tryz.func183 rfl rfl _ Tryz.ntmps183 _ Tryz.results183 (by simp) fun hwf => ?_
  try simp (config := { maxSteps := 10000000 }) only [go_sem, reduceIte, reduceCtorEq, Nat.reduceEqDiff, Nat.reduceLT, Nat.reduceLeDiff, Nat.reduceAdd, Nat.reduceBEq, Nat.reduceMul, Int.reduceToNat, Int.reduceLE, Int.reduceLT, Int.reduceEq, Int.reduceNeg]
  repeat (refine And.intro (by first | omega | (constructor <;> omega) | kernel_rfl) ?_)
  refine CallW.mk (ht) ?_
  try simp (config := { maxSteps := 10000000 }) only [go_sem, reduceIte, reduceCtorEq, Nat.reduceEqDiff, Nat.reduceLT, Nat.reduceLeDiff, Nat.reduceAdd, Nat.reduceBEq, Nat.reduceMul, Int.reduceToNat, Int.reduceLE, Int.reduceLT, Int.reduceEq, Int.reduceNeg]
  try simp (config := { maxSteps := 10000000 }) only [go_sem, reduceIte, reduceCtorEq, Nat.reduceEqDiff, Nat.reduceLT, Nat.reduceLeDiff, Nat.reduceAdd, Nat.reduceBEq, Nat.reduceMul, Int.reduceToNat, Int.reduceLE, Int.reduceLT, Int.reduceEq, Int.reduceNeg, hA]
theorem l03Make_fn (s : Bool) (n : Nat) (hn : nl n ≤ 60) : Fn Tryz.prog 138 [⟨.bool, s⟩, ⟨tInts, natL n⟩] true [⟨tBig, bigD (sgn s n)⟩] := by
  rw [bigD_sgn]
  cases s
  · refine fn_enter tabOK mixes Tryz.func138 rfl rfl _ Tryz.ntmps138 _ Tryz.results138 (by simp) fun hwf => ?_
    try simp (config := { maxSteps := 10000000 }) only [go_sem, reduceIte, reduceCtorEq, Nat.reduceEqDiff, Nat.reduceLT, Nat.reduceLeDiff, Nat.reduceAdd, Nat.reduceBEq, Nat.reduceMul, Int.reduceToNat, Int.reduceLE, Int.reduceLT, Int.reduceEq, Int.reduceNeg]
    repeat (refine And.intro (by first | omega | (constructor <;> omega) | kernel_rfl) ?_)
    refine CallW.mk (l02Cap_fn n hn) ?_
    try simp (config := { maxSteps := 10000000 }) only [go_sem, reduceIte, reduceCtorEq, Nat.reduceEqDiff, Nat.reduceLT, Nat.reduceLeDiff, Nat.reduceAdd, Nat.reduceBEq, Nat.reduceMul, Int.reduceToNat, Int.reduceLE, Int.reduceLT, Int.reduceEq, Int.reduceNeg]
    repeat (refine And.intro (by first | omega | (constructor <;> omega) | kernel_rfl) ?_)
    omega
  · refine fn_enter tabOK mixes Tryz.func138 rfl rfl _ Tryz.ntmps138 _ Tryz.results138 (by simp) fun hwf => ?_
    try simp (config := { maxSteps := 10000000 }) only [go_sem, reduceIte, reduceCtorEq, Nat.reduceEqDiff, Nat.reduceLT, Nat.reduceLeDiff, Nat.reduceAdd, Nat.reduceBEq, Nat.reduceMul, Int.reduceToNat, Int.reduceLE, Int.reduceLT, Int.reduceEq, Int.reduceNeg]
    repeat (refine And.intro (by first | omega | (constructor <;> omega) | kernel_rfl) ?_)
    refine CallW.mk (l02Cap_fn n hn) ?_
    try simp (config := { maxSteps := 10000000 }) only [go_sem, reduceIte, reduceCtorEq, Nat.reduceEqDiff, Nat.reduceLT, Nat.reduceLeDiff, Nat.reduceAdd, Nat.reduceBEq, Nat.reduceMul, Int.reduceToNat, Int.reduceLE, Int.reduceLT, Int.reduceEq, Int.reduceNeg]
    repeat (refine And.intro (by first | omega | (constructor <;> omega) | kernel_rfl) ?_)
    simp only [nlpos]
theorem l03Make_to {s : Bool} {n : Nat} {z : Int} (h : sgn s n = z) (hn : nl n ≤ 60) : Fn Tryz.prog 138 [⟨.bool, s⟩, ⟨tInts, natL n⟩] true [⟨tBig, bigD z⟩] := h ▸ l03Make_fn s n hn
theorem l03Add_fn (x y : Int) (hx : nl x.natAbs ≤ 59) (hy : nl y.natAbs ≤ 59) : Fn Tryz.prog 144 [⟨tBig, bigD x⟩, ⟨tBig, bigD y⟩] true [⟨tBig, bigD (x + y)⟩] := by
  have hl := nl_add x.natAbs y.natAbs
  have hl1 := nl_mono (Nat.sub_le x.natAbs y.natAbs)
  have hl2 := nl_mono (Nat.sub_le y.natAbs x.natAbs)
  refine fn_enter tabOK mixes Tryz.func144 rfl rfl _ Tryz.ntmps144 _ Tryz.results144 (by simp) fun hwf => ?_
  try simp (config := { maxSteps := 10000000 }) only [go_sem, reduceIte, reduceCtorEq, Nat.reduceEqDiff, Nat.reduceLT, Nat.reduceLeDiff, Nat.reduceAdd, Nat.reduceBEq, Nat.reduceMul, Int.reduceToNat, Int.reduceLE, Int.reduceLT, Int.reduceEq, Int.reduceNeg]
  refine CondW_b (fun h => ?_) (fun h => ?_)
  · have hs : decide (x < 0) = decide (y < 0) := by simpa using h
    try simp (config := { maxSteps := 10000000 }) only [go_sem, reduceIte, reduceCtorEq, Nat.reduceEqDiff, Nat.reduceLT, Nat.reduceLeDiff, Nat.reduceAdd, Nat.reduceBEq, Nat.reduceMul, Int.reduceToNat, Int.reduceLE, Int.reduceLT, Int.reduceEq, Int.reduceNeg]
    repeat (refine And.intro (by first | omega | (constructor <;> omega) | kernel_rfl) ?_)
    refine CallW.mk (l02Add_fn x.natAbs y.natAbs (by omega) (by omega)) ?_
    try simp (config := { maxSteps := 10000000 }) only [go_sem, reduceIte, reduceCtorEq, Nat.reduceEqDiff, Nat.reduceLT, Nat.reduceLeDiff, Nat.reduceAdd, Nat.reduceBEq, Nat.reduceMul, Int.reduceToNat, Int.reduceLE, Int.reduceLT, Int.reduceEq, Int.reduceNeg]
    repeat (refine And.intro (by first | omega | (constructor <;> omega) | kernel_rfl) ?_)
    refine CallW.mk (l03Make_to (s := decide (x < 0)) (n := x.natAbs + y.natAbs) (z := x + y) (by unfold sgn; by_cases h : x < 0 <;> by_cases h2 : y < 0 <;> simp [h, h2] at hs ⊢ <;> omega) (by omega)) ?_
    try simp (config := { maxSteps := 10000000 }) only [go_sem, reduceIte, reduceCtorEq, Nat.reduceEqDiff, Nat.reduceLT, Nat.reduceLeDiff, Nat.reduceAdd, Nat.reduceBEq, Nat.reduceMul, Int.reduceToNat, Int.reduceLE, Int.reduceLT, Int.reduceEq, Int.reduceNeg]
    kernel_rfl
  · have hs : decide (x < 0) ≠ decide (y < 0) := by simpa using h
    try simp (config := { maxSteps := 10000000 }) only [go_sem, reduceIte, reduceCtorEq, Nat.reduceEqDiff, Nat.reduceLT, Nat.reduceLeDiff, Nat.reduceAdd, Nat.reduceBEq, Nat.reduceMul, Int.reduceToNat, Int.reduceLE, Int.reduceLT, Int.reduceEq, Int.reduceNeg]
    repeat (refine And.intro (by first | omega | (constructor <;> omega) | kernel_rfl) ?_)
    refine CallW.mk (l02Cmp_fn (natL x.natAbs) (natL y.natAbs)) ?_
    try simp (config := { maxSteps := 10000000 }) only [go_sem, reduceIte, reduceCtorEq, Nat.reduceEqDiff, Nat.reduceLT, Nat.reduceLeDiff, Nat.reduceAdd, Nat.reduceBEq, Nat.reduceMul, Int.reduceToNat, Int.reduceLE, Int.reduceLT, Int.reduceEq, Int.reduceNeg]
    refine CondW_dec (fun hc => ?_) (fun hc => ?_)
    · rw [cmpN_ge] at hc
      try simp (config := { maxSteps := 10000000 }) only [go_sem, reduceIte, reduceCtorEq, Nat.reduceEqDiff, Nat.reduceLT, Nat.reduceLeDiff, Nat.reduceAdd, Nat.reduceBEq, Nat.reduceMul, Int.reduceToNat, Int.reduceLE, Int.reduceLT, Int.reduceEq, Int.reduceNeg]
      repeat (refine And.intro (by first | omega | (constructor <;> omega) | kernel_rfl) ?_)
      refine CallW.mk (l02Sub_fn x.natAbs y.natAbs hc (by omega)) ?_
      try simp (config := { maxSteps := 10000000 }) only [go_sem, reduceIte, reduceCtorEq, Nat.reduceEqDiff, Nat.reduceLT, Nat.reduceLeDiff, Nat.reduceAdd, Nat.reduceBEq, Nat.reduceMul, Int.reduceToNat, Int.reduceLE, Int.reduceLT, Int.reduceEq, Int.reduceNeg]
      repeat (refine And.intro (by first | omega | (constructor <;> omega) | kernel_rfl) ?_)
      refine CallW.mk (l03Make_to (s := decide (x < 0)) (n := x.natAbs - y.natAbs) (z := x + y) (by unfold sgn; by_cases h : x < 0 <;> by_cases h2 : y < 0 <;> simp [h, h2] at hs ⊢ <;> omega) (by omega)) ?_
      try simp (config := { maxSteps := 10000000 }) only [go_sem, reduceIte, reduceCtorEq, Nat.reduceEqDiff, Nat.reduceLT, Nat.reduceLeDiff, Nat.reduceAdd, Nat.reduceBEq, Nat.reduceMul, Int.reduceToNat, Int.reduceLE, Int.reduceLT, Int.reduceEq, Int.reduceNeg]
      kernel_rfl
    · rw [cmpN_ge] at hc
      try simp (config := { maxSteps := 10000000 }) only [go_sem, reduceIte, reduceCtorEq, Nat.reduceEqDiff, Nat.reduceLT, Nat.reduceLeDiff, Nat.reduceAdd, Nat.reduceBEq, Nat.reduceMul, Int.reduceToNat, Int.reduceLE, Int.reduceLT, Int.reduceEq, Int.reduceNeg]
      repeat (refine And.intro (by first | omega | (constructor <;> omega) | kernel_rfl) ?_)
      refine CallW.mk (l02Sub_fn y.natAbs x.natAbs (by omega) (by omega)) ?_
      try simp (config := { maxSteps := 10000000 }) only [go_sem, reduceIte, reduceCtorEq, Nat.reduceEqDiff, Nat.reduceLT, Nat.reduceLeDiff, Nat.reduceAdd, Nat.reduceBEq, Nat.reduceMul, Int.reduceToNat, Int.reduceLE, Int.reduceLT, Int.reduceEq, Int.reduceNeg]
      repeat (refine And.intro (by first | omega | (constructor <;> omega) | kernel_rfl) ?_)
      refine CallW.mk (l03Make_to (s := decide (y < 0)) (n := y.natAbs - x.natAbs) (z := x + y) (by unfold sgn; by_cases h : x < 0 <;> by_cases h2 : y < 0 <;> simp [h, h2] at hs ⊢ <;> omega) (by omega)) ?_
      try simp (config := { maxSteps := 10000000 }) only [go_sem, reduceIte, reduceCtorEq, Nat.reduceEqDiff, Nat.reduceLT, Nat.reduceLeDiff, Nat.reduceAdd, Nat.reduceBEq, Nat.reduceMul, Int.reduceToNat, Int.reduceLE, Int.reduceLT, Int.reduceEq, Int.reduceNeg]
      kernel_rfl
theorem l03Cmp_fn (x y : Int) : Fn Tryz.prog 191 [⟨tBig, bigD x⟩, ⟨tBig, bigD y⟩] false [⟨.int, cmpZ x y⟩] := by
  by_cases hx : x < 0 <;> by_cases hy : y < 0
  · refine fn_enter tabOK mixes Tryz.func191 rfl rfl _ Tryz.ntmps191 _ Tryz.results191 (by simp) fun hwf => ?_
    try simp (config := { maxSteps := 10000000 }) only [go_sem, reduceIte, reduceCtorEq, Nat.reduceEqDiff, Nat.reduceLT, Nat.reduceLeDiff, Nat.reduceAdd, Nat.reduceBEq, Nat.reduceMul, Int.reduceToNat, Int.reduceLE, Int.reduceLT, Int.reduceEq, Int.reduceNeg, hx, hy]
    repeat (refine And.intro (by first | omega | (constructor <;> omega) | kernel_rfl) ?_)
    refine CallW.mk (l02Cmp_fn (natL y.natAbs) (natL x.natAbs)) ?_
    try simp (config := { maxSteps := 10000000 }) only [go_sem, reduceIte, reduceCtorEq, Nat.reduceEqDiff, Nat.reduceLT, Nat.reduceLeDiff, Nat.reduceAdd, Nat.reduceBEq, Nat.reduceMul, Int.reduceToNat, Int.reduceLE, Int.reduceLT, Int.reduceEq, Int.reduceNeg]
    exact cmpZ_nn hx hy
  · refine fn_enter tabOK mixes Tryz.func191 rfl rfl _ Tryz.ntmps191 _ Tryz.results191 (by simp) fun hwf => ?_
    try simp (config := { maxSteps := 10000000 }) only [go_sem, reduceIte, reduceCtorEq, Nat.reduceEqDiff, Nat.reduceLT, Nat.reduceLeDiff, Nat.reduceAdd, Nat.reduceBEq, Nat.reduceMul, Int.reduceToNat, Int.reduceLE, Int.reduceLT, Int.reduceEq, Int.reduceNeg, hx, hy]
    exact (cmpZ_np hx hy).symm
  · refine fn_enter tabOK mixes Tryz.func191 rfl rfl _ Tryz.ntmps191 _ Tryz.results191 (by simp) fun hwf => ?_
    try simp (config := { maxSteps := 10000000 }) only [go_sem, reduceIte, reduceCtorEq, Nat.reduceEqDiff, Nat.reduceLT, Nat.reduceLeDiff, Nat.reduceAdd, Nat.reduceBEq, Nat.reduceMul, Int.reduceToNat, Int.reduceLE, Int.reduceLT, Int.reduceEq, Int.reduceNeg, hx, hy]
    exact (cmpZ_pn hx hy).symm
  · refine fn_enter tabOK mixes Tryz.func191 rfl rfl _ Tryz.ntmps191 _ Tryz.results191 (by simp) fun hwf => ?_
    try simp (config := { maxSteps := 10000000 }) only [go_sem, reduceIte, reduceCtorEq, Nat.reduceEqDiff, Nat.reduceLT, Nat.reduceLeDiff, Nat.reduceAdd, Nat.reduceBEq, Nat.reduceMul, Int.reduceToNat, Int.reduceLE, Int.reduceLT, Int.reduceEq, Int.reduceNeg, hx, hy]
    repeat (refine And.intro (by first | omega | (constructor <;> omega) | kernel_rfl) ?_)
    refine CallW.mk (l02Cmp_fn (natL x.natAbs) (natL y.natAbs)) ?_
    try simp (config := { maxSteps := 10000000 }) only [go_sem, reduceIte, reduceCtorEq, Nat.reduceEqDiff, Nat.reduceLT, Nat.reduceLeDiff, Nat.reduceAdd, Nat.reduceBEq, Nat.reduceMul, Int.reduceToNat, Int.reduceLE, Int.reduceLT, Int.reduceEq, Int.reduceNeg]
    exact cmpZ_pp hx hy
end Go.Proofs.YtgffgcpcjpjfgaaGreat.DW

/-
  Fractions: validity, making.
-/
namespace Go.Proofs.YtgffgcpcjpjfgaaGreat.DW
open Go.RowKit
@[go_sem] theorem oD_s (q : Rat) : oD (some q) = ratD q := (rfl)
@[go_sem] theorem oD_n : oD none = rZ := (rfl)
attribute [go_sem] ratD rZ bZ
theorem one_iff {n : Nat} : ((nl n : Int) = 1 ∧ (dg n 0 : Int) = 1) ↔ n = 1 := by
  constructor
  · rintro ⟨h1, h2⟩
    have := dg_one (b := n) (by omega)
    omega
  · rintro rfl
    have h : nl 1 = 1 := by rw [nl_pos (by decide), show 1 / 1000000000 = 0 from rfl, nl_zero]
    exact ⟨by omega, by have := dg_one h; omega⟩
theorem isOne_fn (n : Nat) : Fn Tryz.prog 158 [⟨tInts, natL n⟩] false [⟨.bool, decide (n = 1)⟩] := by
  by_cases h1 : (nl n : Int) = 1
  · have hiff := @one_iff n
    refine fn_enter tabOK mixes Tryz.func158 rfl rfl _ Tryz.ntmps158 _ Tryz.results158 (by simp) fun hwf => ?_
    try simp (config := { maxSteps := 10000000 }) only [go_sem, reduceIte, reduceCtorEq, Nat.reduceEqDiff, Nat.reduceLT, Nat.reduceLeDiff, Nat.reduceAdd, Nat.reduceBEq, Nat.reduceMul, Int.reduceToNat, Int.reduceLE, Int.reduceLT, Int.reduceEq, Int.reduceNeg, h1]
    repeat (refine And.intro (by first | omega | (constructor <;> omega) | kernel_rfl) ?_)
    rw [decide_eq_decide]; omega
  · have hn : n ≠ 1 := fun h => h1 (one_iff.2 h).1
    refine fn_enter tabOK mixes Tryz.func158 rfl rfl _ Tryz.ntmps158 _ Tryz.results158 (by simp) fun hwf => ?_
    try simp (config := { maxSteps := 10000000 }) only [go_sem, reduceIte, reduceCtorEq, Nat.reduceEqDiff, Nat.reduceLT, Nat.reduceLeDiff, Nat.reduceAdd, Nat.reduceBEq, Nat.reduceMul, Int.reduceToNat, Int.reduceLE, Int.reduceLT, Int.reduceEq, Int.reduceNeg, h1]
    simp [hn]
theorem l04One_fn (n : Nat) : Fn Tryz.prog 142 [⟨tInts, natL n⟩] false [⟨.bool, decide (n = 1)⟩] := by
  by_cases h1 : (nl n : Int) = 1
  · have hiff := @one_iff n
    refine fn_enter tabOK mixes Tryz.func142 rfl rfl _ Tryz.ntmps142 _ Tryz.results142 (by simp) fun hwf => ?_
    try simp (config := { maxSteps := 10000000 }) only [go_sem, reduceIte, reduceCtorEq, Nat.reduceEqDiff, Nat.reduceLT, Nat.reduceLeDiff, Nat.reduceAdd, Nat.reduceBEq, Nat.reduceMul, Int.reduceToNat, Int.reduceLE, Int.reduceLT, Int.reduceEq, Int.reduceNeg, h1]
    repeat (refine And.intro (by first | omega | (constructor <;> omega) | kernel_rfl) ?_)
    rw [decide_eq_decide]; omega
  · have hn : n ≠ 1 := fun h => h1 (one_iff.2 h).1
    refine fn_enter tabOK mixes Tryz.func142 rfl rfl _ Tryz.ntmps142 _ Tryz.results142 (by simp) fun hwf => ?_
    try simp (config := { maxSteps := 10000000 }) only [go_sem, reduceIte, reduceCtorEq, Nat.reduceEqDiff, Nat.reduceLT, Nat.reduceLeDiff, Nat.reduceAdd, Nat.reduceBEq, Nat.reduceMul, Int.reduceToNat, Int.reduceLE, Int.reduceLT, Int.reduceEq, Int.reduceNeg, h1]
    simp [hn]
theorem bool_ext' {a b : Bool} (h : a = true ↔ b = true) : a = b := by cases a <;> cases b <;> simp_all
theorem okB_iff {x : DB} : okB x = true ↔ okBP x := by
  constructor
  · intro h; exact Classical.byContradiction fun hn => by rw [okB, bdec_f hn] at h; cases h
  · exact fun h => bdec_t h
theorem okN_iff {l : List Int} : okN l = true ↔ okNP l := by
  constructor
  · intro h; exact Classical.byContradiction fun hn => by rw [okN, bdec_f hn] at h; cases h
  · exact fun h => bdec_t h
theorem okR_eq (x : DB) (d : List Int) : okR (x, d) = (okB x && okN d && !decide ((d.length : Int) = 0) && !decide (24 < (x.2.length : Int)) && !decide (24 < (d.length : Int)) && decide (Nat.gcd (val x.2) (val d) = 1)) := by
  apply bool_ext'
  rw [okR_iff]
  simp only [Bool.and_eq_true, okB_iff, okN_iff, Bool.not_eq_true', decide_eq_false_iff_not, decide_eq_true_eq, and_assoc]
  constructor
  · rintro ⟨h1, h2, h3, h4, h5, h6⟩
    refine ⟨h1, h2, fun h => h3 (List.eq_nil_of_length_eq_zero (by omega)), by omega, by omega, h6⟩
  · rintro ⟨h1, h2, h3, h4, h5, h6⟩
    refine ⟨h1, h2, fun h => h3 (by rw [h]; rfl), by omega, by omega, h6⟩
theorem implRatOk_fn (r : DR) : Fn Tryz.prog 175 [⟨tRat, r⟩] false [⟨.bool, okR r⟩] := by
  obtain ⟨x, d⟩ := r
  rw [okR_eq]
  cases h1 : okB x
  · refine fn_enter tabOK mixes Tryz.func175 rfl rfl _ Tryz.ntmps175 _ Tryz.results175 (by simp) fun hwf => ?_
    try simp (config := { maxSteps := 10000000 }) only [go_sem, reduceIte, reduceCtorEq, Nat.reduceEqDiff, Nat.reduceLT, Nat.reduceLeDiff, Nat.reduceAdd, Nat.reduceBEq, Nat.reduceMul, Int.reduceToNat, Int.reduceLE, Int.reduceLT, Int.reduceEq, Int.reduceNeg]
    repeat (refine And.intro (by first | omega | (constructor <;> omega) | kernel_rfl) ?_)
    refine CallW.mk (implBigIntOk_fn x) ?_
    try simp (config := { maxSteps := 10000000 }) only [go_sem, reduceIte, reduceCtorEq, Nat.reduceEqDiff, Nat.reduceLT, Nat.reduceLeDiff, Nat.reduceAdd, Nat.reduceBEq, Nat.reduceMul, Int.reduceToNat, Int.reduceLE, Int.reduceLT, Int.reduceEq, Int.reduceNeg]
    try simp (config := { maxSteps := 10000000 }) only [go_sem, reduceIte, reduceCtorEq, Nat.reduceEqDiff, Nat.reduceLT, Nat.reduceLeDiff, Nat.reduceAdd, Nat.reduceBEq, Nat.reduceMul, Int.reduceToNat, Int.reduceLE, Int.reduceLT, Int.reduceEq, Int.reduceNeg, h1]
  cases h2 : okN d
  · refine fn_enter tabOK mixes Tryz.func175 rfl rfl _ Tryz.ntmps175 _ Tryz.results175 (by simp) fun hwf => ?_
    try simp (config := { maxSteps := 10000000 }) only [go_sem, reduceIte, reduceCtorEq, Nat.reduceEqDiff, Nat.reduceLT, Nat.reduceLeDiff, Nat.reduceAdd, Nat.reduceBEq, Nat.reduceMul, Int.reduceToNat, Int.reduceLE, Int.reduceLT, Int.reduceEq, Int.reduceNeg]
    repeat (refine And.intro (by first | omega | (constructor <;> omega) | kernel_rfl) ?_)
    refine CallW.mk (implBigIntOk_fn x) ?_
    try simp (config := { maxSteps := 10000000 }) only [go_sem, reduceIte, reduceCtorEq, Nat.reduceEqDiff, Nat.reduceLT, Nat.reduceLeDiff, Nat.reduceAdd, Nat.reduceBEq, Nat.reduceMul, Int.reduceToNat, Int.reduceLE, Int.reduceLT, Int.reduceEq, Int.reduceNeg]
    try simp (config := { maxSteps := 10000000 }) only [go_sem, reduceIte, reduceCtorEq, Nat.reduceEqDiff, Nat.reduceLT, Nat.reduceLeDiff, Nat.reduceAdd, Nat.reduceBEq, Nat.reduceMul, Int.reduceToNat, Int.reduceLE, Int.reduceLT, Int.reduceEq, Int.reduceNeg, h1]
    repeat (refine And.intro (by first | omega | (constructor <;> omega) | kernel_rfl) ?_)
    refine CallW.mk (implNatOk_fn d) ?_
    try simp (config := { maxSteps := 10000000 }) only [go_sem, reduceIte, reduceCtorEq, Nat.reduceEqDiff, Nat.reduceLT, Nat.reduceLeDiff, Nat.reduceAdd, Nat.reduceBEq, Nat.reduceMul, Int.reduceToNat, Int.reduceLE, Int.reduceLT, Int.reduceEq, Int.reduceNeg]
    try simp (config := { maxSteps := 10000000 }) only [go_sem, reduceIte, reduceCtorEq, Nat.reduceEqDiff, Nat.reduceLT, Nat.reduceLeDiff, Nat.reduceAdd, Nat.reduceBEq, Nat.reduceMul, Int.reduceToNat, Int.reduceLE, Int.reduceLT, Int.reduceEq, Int.reduceNeg, h2]
  by_cases h3 : (d.length : Int) = 0
  · refine fn_enter tabOK mixes Tryz.func175 rfl rfl _ Tryz.ntmps175 _ Tryz.results175 (by simp) fun hwf => ?_
    try simp (config := { maxSteps := 10000000 }) only [go_sem, reduceIte, reduceCtorEq, Nat.reduceEqDiff, Nat.reduceLT, Nat.reduceLeDiff, Nat.reduceAdd, Nat.reduceBEq, Nat.reduceMul, Int.reduceToNat, Int.reduceLE, Int.reduceLT, Int.reduceEq, Int.reduceNeg]
    repeat (refine And.intro (by first | omega | (constructor <;> omega) | kernel_rfl) ?_)
    refine CallW.mk (implBigIntOk_fn x) ?_
    try simp (config := { maxSteps := 10000000 }) only [go_sem, reduceIte, reduceCtorEq, Nat.reduceEqDiff, Nat.reduceLT, Nat.reduceLeDiff, Nat.reduceAdd, Nat.reduceBEq, Nat.reduceMul, Int.reduceToNat, Int.reduceLE, Int.reduceLT, Int.reduceEq, Int.reduceNeg]
    try simp (config := { maxSteps := 10000000 }) only [go_sem, reduceIte, reduceCtorEq, Nat.reduceEqDiff, Nat.reduceLT, Nat.reduceLeDiff, Nat.reduceAdd, Nat.reduceBEq, Nat.reduceMul, Int.reduceToNat, Int.reduceLE, Int.reduceLT, Int.reduceEq, Int.reduceNeg, h1]
    repeat (refine And.intro (by first | omega | (constructor <;> omega) | kernel_rfl) ?_)
    refine CallW.mk (implNatOk_fn d) ?_
    try simp (config := { maxSteps := 10000000 }) only [go_sem, reduceIte, reduceCtorEq, Nat.reduceEqDiff, Nat.reduceLT, Nat.reduceLeDiff, Nat.reduceAdd, Nat.reduceBEq, Nat.reduceMul, Int.reduceToNat, Int.reduceLE, Int.reduceLT, Int.reduceEq, Int.reduceNeg]
    try simp (config := { maxSteps := 10000000 }) only [go_sem, reduceIte, reduceCtorEq, Nat.reduceEqDiff, Nat.reduceLT, Nat.reduceLeDiff, Nat.reduceAdd, Nat.reduceBEq, Nat.reduceMul, Int.reduceToNat, Int.reduceLE, Int.reduceLT, Int.reduceEq, Int.reduceNeg, h2, h3]
  by_cases h4 : 24 < (x.2.length : Int)
  · refine fn_enter tabOK mixes Tryz.func175 rfl rfl _ Tryz.ntmps175 _ Tryz.results175 (by simp) fun hwf => ?_
    try simp (config := { maxSteps := 10000000 }) only [go_sem, reduceIte, reduceCtorEq, Nat.reduceEqDiff, Nat.reduceLT, Nat.reduceLeDiff, Nat.reduceAdd, Nat.reduceBEq, Nat.reduceMul, Int.reduceToNat, Int.reduceLE, Int.reduceLT, Int.reduceEq, Int.reduceNeg]
    repeat (refine And.intro (by first | omega | (constructor <;> omega) | kernel_rfl) ?_)
    refine CallW.mk (implBigIntOk_fn x) ?_
    try simp (config := { maxSteps := 10000000 }) only [go_sem, reduceIte, reduceCtorEq, Nat.reduceEqDiff, Nat.reduceLT, Nat.reduceLeDiff, Nat.reduceAdd, Nat.reduceBEq, Nat.reduceMul, Int.reduceToNat, Int.reduceLE, Int.reduceLT, Int.reduceEq, Int.reduceNeg]
    try simp (config := { maxSteps := 10000000 }) only [go_sem, reduceIte, reduceCtorEq, Nat.reduceEqDiff, Nat.reduceLT, Nat.reduceLeDiff, Nat.reduceAdd, Nat.reduceBEq, Nat.reduceMul, Int.reduceToNat, Int.reduceLE, Int.reduceLT, Int.reduceEq, Int.reduceNeg, h1]
    repeat (refine And.intro (by first | omega | (constructor <;> omega) | kernel_rfl) ?_)
    refine CallW.mk (implNatOk_fn d) ?_
    try simp (config := { maxSteps := 10000000 }) only [go_sem, reduceIte, reduceCtorEq, Nat.reduceEqDiff, Nat.reduceLT, Nat.reduceLeDiff, Nat.reduceAdd, Nat.reduceBEq, Nat.reduceMul, Int.reduceToNat, Int.reduceLE, Int.reduceLT, Int.reduceEq, Int.reduceNeg]
    try simp (config := { maxSteps := 10000000 }) only [go_sem, reduceIte, reduceCtorEq, Nat.reduceEqDiff, Nat.reduceLT, Nat.reduceLeDiff, Nat.reduceAdd, Nat.reduceBEq, Nat.reduceMul, Int.reduceToNat, Int.reduceLE, Int.reduceLT, Int.reduceEq, Int.reduceNeg, h2, h3, h4]
  by_cases h5 : 24 < (d.length : Int)
  · refine fn_enter tabOK mixes Tryz.func175 rfl rfl _ Tryz.ntmps175 _ Tryz.results175 (by simp) fun hwf => ?_
    try simp (config := { maxSteps := 10000000 }) only [go_sem, reduceIte, reduceCtorEq, Nat.reduceEqDiff, Nat.reduceLT, Nat.reduceLeDiff, Nat.reduceAdd, Nat.reduceBEq, Nat.reduceMul, Int.reduceToNat, Int.reduceLE, Int.reduceLT, Int.reduceEq, Int.reduceNeg]
    repeat (refine And.intro (by first | omega | (constructor <;> omega) | kernel_rfl) ?_)
    refine CallW.mk (implBigIntOk_fn x) ?_
    try simp (config := { maxSteps := 10000000 }) only [go_sem, reduceIte, reduceCtorEq, Nat.reduceEqDiff, Nat.reduceLT, Nat.reduceLeDiff, Nat.reduceAdd, Nat.reduceBEq, Nat.reduceMul, Int.reduceToNat, Int.reduceLE, Int.reduceLT, Int.reduceEq, Int.reduceNeg]
    try simp (config := { maxSteps := 10000000 }) only [go_sem, reduceIte, reduceCtorEq, Nat.reduceEqDiff, Nat.reduceLT, Nat.reduceLeDiff, Nat.reduceAdd, Nat.reduceBEq, Nat.reduceMul, Int.reduceToNat, Int.reduceLE, Int.reduceLT, Int.reduceEq, Int.reduceNeg, h1]
    repeat (refine And.intro (by first | omega | (constructor <;> omega) | kernel_rfl) ?_)
    refine CallW.mk (implNatOk_fn d) ?_
    try simp (config := { maxSteps := 10000000 }) only [go_sem, reduceIte, reduceCtorEq, Nat.reduceEqDiff, Nat.reduceLT, Nat.reduceLeDiff, Nat.reduceAdd, Nat.reduceBEq, Nat.reduceMul, Int.reduceToNat, Int.reduceLE, Int.reduceLT, Int.reduceEq, Int.reduceNeg]
    try simp (config := { maxSteps := 10000000 }) only [go_sem, reduceIte, reduceCtorEq, Nat.reduceEqDiff, Nat.reduceLT, Nat.reduceLeDiff, Nat.reduceAdd, Nat.reduceBEq, Nat.reduceMul, Int.reduceToNat, Int.reduceLE, Int.reduceLT, Int.reduceEq, Int.reduceNeg, h2, h3, h4, h5]
  obtain ⟨z, rfl, _⟩ := okBP_iff.1 (okB_iff.1 h1)
  obtain ⟨n, rfl, _⟩ := okNP_iff.1 (okN_iff.1 h2)
  have h1' : okB (decide (z < 0), natL z.natAbs) = true := h1
  have h3' : ¬ (nl n : Int) = 0 := h3
  have h4' : ¬ 24 < (nl z.natAbs : Int) := h4
  have h5' : ¬ 24 < (nl n : Int) := h5
  have hv : val (bigD z).2 = z.natAbs := val_natL _
  rw [hv, val_natL]
  by_cases hn : n = 1
  · refine fn_enter tabOK mixes Tryz.func175 rfl rfl _ Tryz.ntmps175 _ Tryz.results175 (by simp) fun hwf => ?_
    try simp (config := { maxSteps := 10000000 }) only [go_sem, reduceIte, reduceCtorEq, Nat.reduceEqDiff, Nat.reduceLT, Nat.reduceLeDiff, Nat.reduceAdd, Nat.reduceBEq, Nat.reduceMul, Int.reduceToNat, Int.reduceLE, Int.reduceLT, Int.reduceEq, Int.reduceNeg]
    repeat (refine And.intro (by first | omega | (constructor <;> omega) | kernel_rfl) ?_)
    refine CallW.mk (implBigIntOk_fn (bigD z)) ?_
    try simp (config := { maxSteps := 10000000 }) only [go_sem, reduceIte, reduceCtorEq, Nat.reduceEqDiff, Nat.reduceLT, Nat.reduceLeDiff, Nat.reduceAdd, Nat.reduceBEq, Nat.reduceMul, Int.reduceToNat, Int.reduceLE, Int.reduceLT, Int.reduceEq, Int.reduceNeg]
    try simp (config := { maxSteps := 10000000 }) only [go_sem, reduceIte, reduceCtorEq, Nat.reduceEqDiff, Nat.reduceLT, Nat.reduceLeDiff, Nat.reduceAdd, Nat.reduceBEq, Nat.reduceMul, Int.reduceToNat, Int.reduceLE, Int.reduceLT, Int.reduceEq, Int.reduceNeg, h1']
    repeat (refine And.intro (by first | omega | (constructor <;> omega) | kernel_rfl) ?_)
    refine CallW.mk (implNatOk_fn (natL n)) ?_
    try simp (config := { maxSteps := 10000000 }) only [go_sem, reduceIte, reduceCtorEq, Nat.reduceEqDiff, Nat.reduceLT, Nat.reduceLeDiff, Nat.reduceAdd, Nat.reduceBEq, Nat.reduceMul, Int.reduceToNat, Int.reduceLE, Int.reduceLT, Int.reduceEq, Int.reduceNeg]
    try simp (config := { maxSteps := 10000000 }) only [go_sem, reduceIte, reduceCtorEq, Nat.reduceEqDiff, Nat.reduceLT, Nat.reduceLeDiff, Nat.reduceAdd, Nat.reduceBEq, Nat.reduceMul, Int.reduceToNat, Int.reduceLE, Int.reduceLT, Int.reduceEq, Int.reduceNeg, h2, h3', h4', h5']
    repeat (refine And.intro (by first | omega | (constructor <;> omega) | kernel_rfl) ?_)
    refine CallW.mk (isOne_fn n) ?_
    try simp (config := { maxSteps := 10000000 }) only [go_sem, reduceIte, reduceCtorEq, Nat.reduceEqDiff, Nat.reduceLT, Nat.reduceLeDiff, Nat.reduceAdd, Nat.reduceBEq, Nat.reduceMul, Int.reduceToNat, Int.reduceLE, Int.reduceLT, Int.reduceEq, Int.reduceNeg]
    try simp (config := { maxSteps := 10000000 }) only [go_sem, reduceIte, reduceCtorEq, Nat.reduceEqDiff, Nat.reduceLT, Nat.reduceLeDiff, Nat.reduceAdd, Nat.reduceBEq, Nat.reduceMul, Int.reduceToNat, Int.reduceLE, Int.reduceLT, Int.reduceEq, Int.reduceNeg, hn]
    simp
  · refine fn_enter tabOK mixes Tryz.func175 rfl rfl _ Tryz.ntmps175 _ Tryz.results175 (by simp) fun hwf => ?_
    try simp (config := { maxSteps := 10000000 }) only [go_sem, reduceIte, reduceCtorEq, Nat.reduceEqDiff, Nat.reduceLT, Nat.reduceLeDiff, Nat.reduceAdd, Nat.reduceBEq, Nat.reduceMul, Int.reduceToNat, Int.reduceLE, Int.reduceLT, Int.reduceEq, Int.reduceNeg]
    repeat (refine And.intro (by first | omega | (constructor <;> omega) | kernel_rfl) ?_)
    refine CallW.mk (implBigIntOk_fn (bigD z)) ?_
    try simp (config := { maxSteps := 10000000 }) only [go_sem, reduceIte, reduceCtorEq, Nat.reduceEqDiff, Nat.reduceLT, Nat.reduceLeDiff, Nat.reduceAdd, Nat.reduceBEq, Nat.reduceMul, Int.reduceToNat, Int.reduceLE, Int.reduceLT, Int.reduceEq, Int.reduceNeg]
    try simp (config := { maxSteps := 10000000 }) only [go_sem, reduceIte, reduceCtorEq, Nat.reduceEqDiff, Nat.reduceLT, Nat.reduceLeDiff, Nat.reduceAdd, Nat.reduceBEq, Nat.reduceMul, Int.reduceToNat, Int.reduceLE, Int.reduceLT, Int.reduceEq, Int.reduceNeg, h1']
    repeat (refine And.intro (by first | omega | (constructor <;> omega) | kernel_rfl) ?_)
    refine CallW.mk (implNatOk_fn (natL n)) ?_
    try simp (config := { maxSteps := 10000000 }) only [go_sem, reduceIte, reduceCtorEq, Nat.reduceEqDiff, Nat.reduceLT, Nat.reduceLeDiff, Nat.reduceAdd, Nat.reduceBEq, Nat.reduceMul, Int.reduceToNat, Int.reduceLE, Int.reduceLT, Int.reduceEq, Int.reduceNeg]
    try simp (config := { maxSteps := 10000000 }) only [go_sem, reduceIte, reduceCtorEq, Nat.reduceEqDiff, Nat.reduceLT, Nat.reduceLeDiff, Nat.reduceAdd, Nat.reduceBEq, Nat.reduceMul, Int.reduceToNat, Int.reduceLE, Int.reduceLT, Int.reduceEq, Int.reduceNeg, h2, h3', h4', h5']
    repeat (refine And.intro (by first | omega | (constructor <;> omega) | kernel_rfl) ?_)
    refine CallW.mk (isOne_fn n) ?_
    try simp (config := { maxSteps := 10000000 }) only [go_sem, reduceIte, reduceCtorEq, Nat.reduceEqDiff, Nat.reduceLT, Nat.reduceLeDiff, Nat.reduceAdd, Nat.reduceBEq, Nat.reduceMul, Int.reduceToNat, Int.reduceLE, Int.reduceLT, Int.reduceEq, Int.reduceNeg]
    try simp (config := { maxSteps := 10000000 }) only [go_sem, reduceIte, reduceCtorEq, Nat.reduceEqDiff, Nat.reduceLT, Nat.reduceLeDiff, Nat.reduceAdd, Nat.reduceBEq, Nat.reduceMul, Int.reduceToNat, Int.reduceLE, Int.reduceLT, Int.reduceEq, Int.reduceNeg, hn]
    repeat (refine And.intro (by first | omega | (constructor <;> omega) | kernel_rfl) ?_)
    refine CallW.mk (natGcd_fn z.natAbs n (by omega) (by omega)) ?_
    try simp (config := { maxSteps := 10000000 }) only [go_sem, reduceIte, reduceCtorEq, Nat.reduceEqDiff, Nat.reduceLT, Nat.reduceLeDiff, Nat.reduceAdd, Nat.reduceBEq, Nat.reduceMul, Int.reduceToNat, Int.reduceLE, Int.reduceLT, Int.reduceEq, Int.reduceNeg]
    repeat (refine And.intro (by first | omega | (constructor <;> omega) | kernel_rfl) ?_)
    refine CallW.mk (isOne_fn (Nat.gcd z.natAbs n)) ?_
    try simp (config := { maxSteps := 10000000 }) only [go_sem, reduceIte, reduceCtorEq, Nat.reduceEqDiff, Nat.reduceLT, Nat.reduceLeDiff, Nat.reduceAdd, Nat.reduceBEq, Nat.reduceMul, Int.reduceToNat, Int.reduceLE, Int.reduceLT, Int.reduceEq, Int.reduceNeg]
theorem specRatOk_fn (r : DR) : Fn Tryz.prog 92 [⟨tRat, r⟩] false [⟨.bool, okR r⟩] := by
  obtain ⟨x, d⟩ := r
  rw [okR_eq]
  cases h1 : okB x
  · refine fn_enter tabOK mixes Tryz.func92 rfl rfl _ Tryz.ntmps92 _ Tryz.results92 (by simp) fun hwf => ?_
    try simp (config := { maxSteps := 10000000 }) only [go_sem, reduceIte, reduceCtorEq, Nat.reduceEqDiff, Nat.reduceLT, Nat.reduceLeDiff, Nat.reduceAdd, Nat.reduceBEq, Nat.reduceMul, Int.reduceToNat, Int.reduceLE, Int.reduceLT, Int.reduceEq, Int.reduceNeg]
    repeat (refine And.intro (by first | omega | (constructor <;> omega) | kernel_rfl) ?_)
    refine CallW.mk (specBigIntOk_fn x) ?_
    try simp (config := { maxSteps := 10000000 }) only [go_sem, reduceIte, reduceCtorEq, Nat.reduceEqDiff, Nat.reduceLT, Nat.reduceLeDiff, Nat.reduceAdd, Nat.reduceBEq, Nat.reduceMul, Int.reduceToNat, Int.reduceLE, Int.reduceLT, Int.reduceEq, Int.reduceNeg]
    try simp (config := { maxSteps := 10000000 }) only [go_sem, reduceIte, reduceCtorEq, Nat.reduceEqDiff, Nat.reduceLT, Nat.reduceLeDiff, Nat.reduceAdd, Nat.reduceBEq, Nat.reduceMul, Int.reduceToNat, Int.reduceLE, Int.reduceLT, Int.reduceEq, Int.reduceNeg, h1]
  cases h2 : okN d
  · refine fn_enter tabOK mixes Tryz.func92 rfl rfl _ Tryz.ntmps92 _ Tryz.results92 (by simp) fun hwf => ?_
    try simp (config := { maxSteps := 10000000 }) only [go_sem, reduceIte, reduceCtorEq, Nat.reduceEqDiff, Nat.reduceLT, Nat.reduceLeDiff, Nat.reduceAdd, Nat.reduceBEq, Nat.reduceMul, Int.reduceToNat, Int.reduceLE, Int.reduceLT, Int.reduceEq, Int.reduceNeg]
    repeat (refine And.intro (by first | omega | (constructor <;> omega) | kernel_rfl) ?_)
    refine CallW.mk (specBigIntOk_fn x) ?_
    try simp (config := { maxSteps := 10000000 }) only [go_sem, reduceIte, reduceCtorEq, Nat.reduceEqDiff, Nat.reduceLT, Nat.reduceLeDiff, Nat.reduceAdd, Nat.reduceBEq, Nat.reduceMul, Int.reduceToNat, Int.reduceLE, Int.reduceLT, Int.reduceEq, Int.reduceNeg]
    try simp (config := { maxSteps := 10000000 }) only [go_sem, reduceIte, reduceCtorEq, Nat.reduceEqDiff, Nat.reduceLT, Nat.reduceLeDiff, Nat.reduceAdd, Nat.reduceBEq, Nat.reduceMul, Int.reduceToNat, Int.reduceLE, Int.reduceLT, Int.reduceEq, Int.reduceNeg, h1]
    repeat (refine And.intro (by first | omega | (constructor <;> omega) | kernel_rfl) ?_)
    refine CallW.mk (specNatOk_fn d) ?_
    try simp (config := { maxSteps := 10000000 }) only [go_sem, reduceIte, reduceCtorEq, Nat.reduceEqDiff, Nat.reduceLT, Nat.reduceLeDiff, Nat.reduceAdd, Nat.reduceBEq, Nat.reduceMul, Int.reduceToNat, Int.reduceLE, Int.reduceLT, Int.reduceEq, Int.reduceNeg]
    try simp (config := { maxSteps := 10000000 }) only [go_sem, reduceIte, reduceCtorEq, Nat.reduceEqDiff, Nat.reduceLT, Nat.reduceLeDiff, Nat.reduceAdd, Nat.reduceBEq, Nat.reduceMul, Int.reduceToNat, Int.reduceLE, Int.reduceLT, Int.reduceEq, Int.reduceNeg, h2]
  by_cases h3 : (d.length : Int) = 0
  · refine fn_enter tabOK mixes Tryz.func92 rfl rfl _ Tryz.ntmps92 _ Tryz.results92 (by simp) fun hwf => ?_
    try simp (config := { maxSteps := 10000000 }) only [go_sem, reduceIte, reduceCtorEq, Nat.reduceEqDiff, Nat.reduceLT, Nat.reduceLeDiff, Nat.reduceAdd, Nat.reduceBEq, Nat.reduceMul, Int.reduceToNat, Int.reduceLE, Int.reduceLT, Int.reduceEq, Int.reduceNeg]
    repeat (refine And.intro (by first | omega | (constructor <;> omega) | kernel_rfl) ?_)
    refine CallW.mk (specBigIntOk_fn x) ?_
    try simp (config := { maxSteps := 10000000 }) only [go_sem, reduceIte, reduceCtorEq, Nat.reduceEqDiff, Nat.reduceLT, Nat.reduceLeDiff, Nat.reduceAdd, Nat.reduceBEq, Nat.reduceMul, Int.reduceToNat, Int.reduceLE, Int.reduceLT, Int.reduceEq, Int.reduceNeg]
    try simp (config := { maxSteps := 10000000 }) only [go_sem, reduceIte, reduceCtorEq, Nat.reduceEqDiff, Nat.reduceLT, Nat.reduceLeDiff, Nat.reduceAdd, Nat.reduceBEq, Nat.reduceMul, Int.reduceToNat, Int.reduceLE, Int.reduceLT, Int.reduceEq, Int.reduceNeg, h1]
    repeat (refine And.intro (by first | omega | (constructor <;> omega) | kernel_rfl) ?_)
    refine CallW.mk (specNatOk_fn d) ?_
    try simp (config := { maxSteps := 10000000 }) only [go_sem, reduceIte, reduceCtorEq, Nat.reduceEqDiff, Nat.reduceLT, Nat.reduceLeDiff, Nat.reduceAdd, Nat.reduceBEq, Nat.reduceMul, Int.reduceToNat, Int.reduceLE, Int.reduceLT, Int.reduceEq, Int.reduceNeg]
    try simp (config := { maxSteps := 10000000 }) only [go_sem, reduceIte, reduceCtorEq, Nat.reduceEqDiff, Nat.reduceLT, Nat.reduceLeDiff, Nat.reduceAdd, Nat.reduceBEq, Nat.reduceMul, Int.reduceToNat, Int.reduceLE, Int.reduceLT, Int.reduceEq, Int.reduceNeg, h2, h3]
  by_cases h5 : 24 < (d.length : Int)
  · refine fn_enter tabOK mixes Tryz.func92 rfl rfl _ Tryz.ntmps92 _ Tryz.results92 (by simp) fun hwf => ?_
    try simp (config := { maxSteps := 10000000 }) only [go_sem, reduceIte, reduceCtorEq, Nat.reduceEqDiff, Nat.reduceLT, Nat.reduceLeDiff, Nat.reduceAdd, Nat.reduceBEq, Nat.reduceMul, Int.reduceToNat, Int.reduceLE, Int.reduceLT, Int.reduceEq, Int.reduceNeg]
    repeat (refine And.intro (by first | omega | (constructor <;> omega) | kernel_rfl) ?_)
    refine CallW.mk (specBigIntOk_fn x) ?_
    try simp (config := { maxSteps := 10000000 }) only [go_sem, reduceIte, reduceCtorEq, Nat.reduceEqDiff, Nat.reduceLT, Nat.reduceLeDiff, Nat.reduceAdd, Nat.reduceBEq, Nat.reduceMul, Int.reduceToNat, Int.reduceLE, Int.reduceLT, Int.reduceEq, Int.reduceNeg]
    try simp (config := { maxSteps := 10000000 }) only [go_sem, reduceIte, reduceCtorEq, Nat.reduceEqDiff, Nat.reduceLT, Nat.reduceLeDiff, Nat.reduceAdd, Nat.reduceBEq, Nat.reduceMul, Int.reduceToNat, Int.reduceLE, Int.reduceLT, Int.reduceEq, Int.reduceNeg, h1]
    repeat (refine And.intro (by first | omega | (constructor <;> omega) | kernel_rfl) ?_)
    refine CallW.mk (specNatOk_fn d) ?_
    try simp (config := { maxSteps := 10000000 }) only [go_sem, reduceIte, reduceCtorEq, Nat.reduceEqDiff, Nat.reduceLT, Nat.reduceLeDiff, Nat.reduceAdd, Nat.reduceBEq, Nat.reduceMul, Int.reduceToNat, Int.reduceLE, Int.reduceLT, Int.reduceEq, Int.reduceNeg]
    try simp (config := { maxSteps := 10000000 }) only [go_sem, reduceIte, reduceCtorEq, Nat.reduceEqDiff, Nat.reduceLT, Nat.reduceLeDiff, Nat.reduceAdd, Nat.reduceBEq, Nat.reduceMul, Int.reduceToNat, Int.reduceLE, Int.reduceLT, Int.reduceEq, Int.reduceNeg, h2, h3, h5]
  by_cases h4 : 24 < (x.2.length : Int)
  · refine fn_enter tabOK mixes Tryz.func92 rfl rfl _ Tryz.ntmps92 _ Tryz.results92 (by simp) fun hwf => ?_
    try simp (config := { maxSteps := 10000000 }) only [go_sem, reduceIte, reduceCtorEq, Nat.reduceEqDiff, Nat.reduceLT, Nat.reduceLeDiff, Nat.reduceAdd, Nat.reduceBEq, Nat.reduceMul, Int.reduceToNat, Int.reduceLE, Int.reduceLT, Int.reduceEq, Int.reduceNeg]
    repeat (refine And.intro (by first | omega | (constructor <;> omega) | kernel_rfl) ?_)
    refine CallW.mk (specBigIntOk_fn x) ?_
    try simp (config := { maxSteps := 10000000 }) only [go_sem, reduceIte, reduceCtorEq, Nat.reduceEqDiff, Nat.reduceLT, Nat.reduceLeDiff, Nat.reduceAdd, Nat.reduceBEq, Nat.reduceMul, Int.reduceToNat, Int.reduceLE, Int.reduceLT, Int.reduceEq, Int.reduceNeg]
    try simp (config := { maxSteps := 10000000 }) only [go_sem, reduceIte, reduceCtorEq, Nat.reduceEqDiff, Nat.reduceLT, Nat.reduceLeDiff, Nat.reduceAdd, Nat.reduceBEq, Nat.reduceMul, Int.reduceToNat, Int.reduceLE, Int.reduceLT, Int.reduceEq, Int.reduceNeg, h1]
    repeat (refine And.intro (by first | omega | (constructor <;> omega) | kernel_rfl) ?_)
    refine CallW.mk (specNatOk_fn d) ?_
    try simp (config := { maxSteps := 10000000 }) only [go_sem, reduceIte, reduceCtorEq, Nat.reduceEqDiff, Nat.reduceLT, Nat.reduceLeDiff, Nat.reduceAdd, Nat.reduceBEq, Nat.reduceMul, Int.reduceToNat, Int.reduceLE, Int.reduceLT, Int.reduceEq, Int.reduceNeg]
    try simp (config := { maxSteps := 10000000 }) only [go_sem, reduceIte, reduceCtorEq, Nat.reduceEqDiff, Nat.reduceLT, Nat.reduceLeDiff, Nat.reduceAdd, Nat.reduceBEq, Nat.reduceMul, Int.reduceToNat, Int.reduceLE, Int.reduceLT, Int.reduceEq, Int.reduceNeg, h2, h3, h5, h4]
  obtain ⟨z, rfl, _⟩ := okBP_iff.1 (okB_iff.1 h1)
  obtain ⟨n, rfl, _⟩ := okNP_iff.1 (okN_iff.1 h2)
  have h1' : okB (decide (z < 0), natL z.natAbs) = true := h1
  have h3' : ¬ (nl n : Int) = 0 := h3
  have h4' : ¬ 24 < (nl z.natAbs : Int) := h4
  have h5' : ¬ 24 < (nl n : Int) := h5
  have hv : val (bigD z).2 = z.natAbs := val_natL _
  rw [hv, val_natL]
  refine fn_enter tabOK mixes Tryz.func92 rfl rfl _ Tryz.ntmps92 _ Tryz.results92 (by simp) fun hwf => ?_
  try simp (config := { maxSteps := 10000000 }) only [go_sem, reduceIte, reduceCtorEq, Nat.reduceEqDiff, Nat.reduceLT, Nat.reduceLeDiff, Nat.reduceAdd, Nat.reduceBEq, Nat.reduceMul, Int.reduceToNat, Int.reduceLE, Int.reduceLT, Int.reduceEq, Int.reduceNeg]
  repeat (refine And.intro (by first | omega | (constructor <;> omega) | kernel_rfl) ?_)
  refine CallW.mk (specBigIntOk_fn (bigD z)) ?_
  try simp (config := { maxSteps := 10000000 }) only [go_sem, reduceIte, reduceCtorEq, Nat.reduceEqDiff, Nat.reduceLT, Nat.reduceLeDiff, Nat.reduceAdd, Nat.reduceBEq, Nat.reduceMul, Int.reduceToNat, Int.reduceLE, Int.reduceLT, Int.reduceEq, Int.reduceNeg]
  try simp (config := { maxSteps := 10000000 }) only [go_sem, reduceIte, reduceCtorEq, Nat.reduceEqDiff, Nat.reduceLT, Nat.reduceLeDiff, Nat.reduceAdd, Nat.reduceBEq, Nat.reduceMul, Int.reduceToNat, Int.reduceLE, Int.reduceLT, Int.reduceEq, Int.reduceNeg, h1']
  repeat (refine And.intro (by first | omega | (constructor <;> omega) | kernel_rfl) ?_)
  refine CallW.mk (specNatOk_fn (natL n)) ?_
  try simp (config := { maxSteps := 10000000 }) only [go_sem, reduceIte, reduceCtorEq, Nat.reduceEqDiff, Nat.reduceLT, Nat.reduceLeDiff, Nat.reduceAdd, Nat.reduceBEq, Nat.reduceMul, Int.reduceToNat, Int.reduceLE, Int.reduceLT, Int.reduceEq, Int.reduceNeg]
  try simp (config := { maxSteps := 10000000 }) only [go_sem, reduceIte, reduceCtorEq, Nat.reduceEqDiff, Nat.reduceLT, Nat.reduceLeDiff, Nat.reduceAdd, Nat.reduceBEq, Nat.reduceMul, Int.reduceToNat, Int.reduceLE, Int.reduceLT, Int.reduceEq, Int.reduceNeg, h2, h3', h4', h5']
  repeat (refine And.intro (by first | omega | (constructor <;> omega) | kernel_rfl) ?_)
  refine CallW.mk (l02Gcd_fn z.natAbs n (by omega) (by omega)) ?_
  try simp (config := { maxSteps := 10000000 }) only [go_sem, reduceIte, reduceCtorEq, Nat.reduceEqDiff, Nat.reduceLT, Nat.reduceLeDiff, Nat.reduceAdd, Nat.reduceBEq, Nat.reduceMul, Int.reduceToNat, Int.reduceLE, Int.reduceLT, Int.reduceEq, Int.reduceNeg]
  repeat (refine And.intro (by first | omega | (constructor <;> omega) | kernel_rfl) ?_)
  refine CallW.mk (l04One_fn (Nat.gcd z.natAbs n)) ?_
  try simp (config := { maxSteps := 10000000 }) only [go_sem, reduceIte, reduceCtorEq, Nat.reduceEqDiff, Nat.reduceLT, Nat.reduceLeDiff, Nat.reduceAdd, Nat.reduceBEq, Nat.reduceMul, Int.reduceToNat, Int.reduceLE, Int.reduceLT, Int.reduceEq, Int.reduceNeg]
theorem isGood_fn (x : Option Rat) : Fn Tryz.prog 100 [⟨tRat, oD x⟩] false [⟨.bool, x.isSome⟩] := by
  cases x with
  | none =>
    refine fn_enter tabOK mixes Tryz.func100 rfl rfl _ Tryz.ntmps100 _ Tryz.results100 (by simp) fun hwf => ?_
    try simp (config := { maxSteps := 10000000 }) only [go_sem, reduceIte, reduceCtorEq, Nat.reduceEqDiff, Nat.reduceLT, Nat.reduceLeDiff, Nat.reduceAdd, Nat.reduceBEq, Nat.reduceMul, Int.reduceToNat, Int.reduceLE, Int.reduceLT, Int.reduceEq, Int.reduceNeg]
    rfl
  | some q =>
    have h : (0 : Int) < nl q.den := nlpos.2 (den_pos' q)
    refine fn_enter tabOK mixes Tryz.func100 rfl rfl _ Tryz.ntmps100 _ Tryz.results100 (by simp) fun hwf => ?_
    try simp (config := { maxSteps := 10000000 }) only [go_sem, reduceIte, reduceCtorEq, Nat.reduceEqDiff, Nat.reduceLT, Nat.reduceLeDiff, Nat.reduceAdd, Nat.reduceBEq, Nat.reduceMul, Int.reduceToNat, Int.reduceLE, Int.reduceLT, Int.reduceEq, Int.reduceNeg, h]
end Go.Proofs.YtgffgcpcjpjfgaaGreat.DW

/-
  Fractions: making, sums, products, comparisons, of the program.
-/
namespace Go.Proofs.YtgffgcpcjpjfgaaGreat.DW
open Go.RowKit
theorem capR_data {q : Rat} (h : small q) : oD (capR q) = ((decide (q.num < 0), natL q.num.natAbs), natL q.den) := by rw [capR_s h]; rfl
theorem capR_none {q : Rat} (h : ¬ small q) : oD (capR q) = ((false, []), []) := by rw [capR_n h]; rfl
/-- A number as a positive integer. -/
theorem bigMulN_fn (x : Int) (n : Nat) (hx : nl x.natAbs ≤ 10000) (hy : nl n ≤ 10000) : Fn Tryz.prog 102 [⟨tBig, bigD x⟩, ⟨tBig, (false, natL n)⟩] false [⟨tBig, bigD (x * n)⟩] := by
  have := bigMul_fn x n hx (by simpa using hy)
  rw [bigD_nat] at this
  exact this
theorem ratMake_end (z : Int) (n : Nat) (hn : n ≠ 0) (hz : nl z.natAbs ≤ 10000) (hnl : nl n ≤ 10000) : Fn Tryz.prog 103 [⟨tBig, bigD z⟩, ⟨tInts, natL n⟩] true [⟨tRat, oD (capR (_root_.mkRat z n))⟩] := by
  obtain ⟨m1, m2, m3⟩ := mk_abs (z := z) hn
  generalize hq : _root_.mkRat z n = q at *
  have hg0 : 0 < Nat.gcd z.natAbs n := Nat.gcd_pos_of_pos_right _ (Nat.pos_of_ne_zero hn)
  have hl1 := nl_mono (Nat.div_le_self z.natAbs (Nat.gcd z.natAbs n))
  have hl2 := nl_mono (Nat.div_le_self n (Nat.gcd z.natAbs n))
  have hl3 := nl_mono (Nat.gcd_le_right z.natAbs (Nat.pos_of_ne_zero hn))
  rw [← m1] at hl1
  rw [← m2] at hl2
  have hpath : (decide (n = 1) = true ∧ z.natAbs = q.num.natAbs ∧ n = q.den) ∨ (decide (n = 1) = false ∧ decide (Nat.gcd z.natAbs n = 1) = true ∧ z.natAbs = q.num.natAbs ∧ n = q.den) ∨ (decide (n = 1) = false ∧ decide (Nat.gcd z.natAbs n = 1) = false) := by
    by_cases h1 : n = 1
    · refine .inl ⟨decide_eq_true h1, ?_, ?_⟩
      · rw [m1, h1, Nat.gcd_one_right, Nat.div_one]
      · rw [m2, h1, Nat.gcd_one_right, Nat.div_one]
    · by_cases h2 : Nat.gcd z.natAbs n = 1
      · exact .inr (.inl ⟨decide_eq_false h1, decide_eq_true h2, by rw [m1, h2, Nat.div_one], by rw [m2, h2, Nat.div_one]⟩)
      · exact .inr (.inr ⟨decide_eq_false h1, decide_eq_false h2⟩)
  have hcn := clone_fn (natL q.den) (by show nl q.den ≤ 16777216; omega)
  have hob : small q → Fn Tryz.prog 161 [⟨tBig, (decide (z < 0), natL q.num.natAbs)⟩] true [⟨tBig, (decide (z < 0), natL q.num.natAbs)⟩] := fun hs => by
    have := ownBig_fn q.num (by have := hs.1; omega)
    unfold bigD at this
    rw [m3] at this
    exact this
  have hend : small q ∨ (24 : Int) < nl q.num.natAbs ∨ (¬ (24 : Int) < nl q.num.natAbs ∧ (24 : Int) < nl q.den) := by unfold small; omega
  rcases hpath with ⟨hd, e1, e2⟩ | ⟨hd, hd2, e1, e2⟩ | ⟨hd, hd2⟩
  · rcases hend with hs | hA | ⟨hA, hB⟩
    · rw [capR_data hs, m3]
      have hA : ¬ (24 : Int) < nl q.num.natAbs := by have := hs.1; omega
      have hB : ¬ (24 : Int) < nl q.den := by have := hs.2; omega
      have hob := hob hs
      rw [← e1] at hA hob; rw [← e2] at hB hcn; rw [← e1, ← e2]
      refine fn_enter tabOK mixes Tryz.func103 rfl rfl _ Tryz.ntmps103 _ Tryz.results103 (by simp) fun hwf => ?_
      try simp (config := { maxSteps := 10000000 }) only [go_sem, reduceIte, reduceCtorEq, Nat.reduceEqDiff, Nat.reduceLT, Nat.reduceLeDiff, Nat.reduceAdd, Nat.reduceBEq, Nat.reduceMul, Int.reduceToNat, Int.reduceLE, Int.reduceLT, Int.reduceEq, Int.reduceNeg]
      repeat (refine And.intro (by first | omega | (constructor <;> omega) | kernel_rfl) ?_)
      refine CallW.mk (isOne_fn n) ?_
      try simp (config := { maxSteps := 10000000 }) only [go_sem, reduceIte, reduceCtorEq, Nat.reduceEqDiff, Nat.reduceLT, Nat.reduceLeDiff, Nat.reduceAdd, Nat.reduceBEq, Nat.reduceMul, Int.reduceToNat, Int.reduceLE, Int.reduceLT, Int.reduceEq, Int.reduceNeg]
      try simp (config := { maxSteps := 10000000 }) only [go_sem, reduceIte, reduceCtorEq, Nat.reduceEqDiff, Nat.reduceLT, Nat.reduceLeDiff, Nat.reduceAdd, Nat.reduceBEq, Nat.reduceMul, Int.reduceToNat, Int.reduceLE, Int.reduceLT, Int.reduceEq, Int.reduceNeg, hd, hA, hB]
      repeat (refine And.intro (by first | omega | (constructor <;> omega) | kernel_rfl) ?_)
      refine CallW.mk (hob) ?_
      try simp (config := { maxSteps := 10000000 }) only [go_sem, reduceIte, reduceCtorEq, Nat.reduceEqDiff, Nat.reduceLT, Nat.reduceLeDiff, Nat.reduceAdd, Nat.reduceBEq, Nat.reduceMul, Int.reduceToNat, Int.reduceLE, Int.reduceLT, Int.reduceEq, Int.reduceNeg]
      repeat (refine And.intro (by first | omega | (constructor <;> omega) | kernel_rfl) ?_)
      refine CallW.mk (hcn) ?_
      try simp (config := { maxSteps := 10000000 }) only [go_sem, reduceIte, reduceCtorEq, Nat.reduceEqDiff, Nat.reduceLT, Nat.reduceLeDiff, Nat.reduceAdd, Nat.reduceBEq, Nat.reduceMul, Int.reduceToNat, Int.reduceLE, Int.reduceLT, Int.reduceEq, Int.reduceNeg]
    · rw [capR_none (by unfold small; omega)]
      rw [← e1] at hA
      refine fn_enter tabOK mixes Tryz.func103 rfl rfl _ Tryz.ntmps103 _ Tryz.results103 (by simp) fun hwf => ?_
      try simp (config := { maxSteps := 10000000 }) only [go_sem, reduceIte, reduceCtorEq, Nat.reduceEqDiff, Nat.reduceLT, Nat.reduceLeDiff, Nat.reduceAdd, Nat.reduceBEq, Nat.reduceMul, Int.reduceToNat, Int.reduceLE, Int.reduceLT, Int.reduceEq, Int.reduceNeg]
      repeat (refine And.intro (by first | omega | (constructor <;> omega) | kernel_rfl) ?_)
      refine CallW.mk (isOne_fn n) ?_
      try simp (config := { maxSteps := 10000000 }) only [go_sem, reduceIte, reduceCtorEq, Nat.reduceEqDiff, Nat.reduceLT, Nat.reduceLeDiff, Nat.reduceAdd, Nat.reduceBEq, Nat.reduceMul, Int.reduceToNat, Int.reduceLE, Int.reduceLT, Int.reduceEq, Int.reduceNeg]
      try simp (config := { maxSteps := 10000000 }) only [go_sem, reduceIte, reduceCtorEq, Nat.reduceEqDiff, Nat.reduceLT, Nat.reduceLeDiff, Nat.reduceAdd, Nat.reduceBEq, Nat.reduceMul, Int.reduceToNat, Int.reduceLE, Int.reduceLT, Int.reduceEq, Int.reduceNeg, hd, hA]
    · rw [capR_none (by unfold small; omega)]
      rw [← e1] at hA; rw [← e2] at hB
      refine fn_enter tabOK mixes Tryz.func103 rfl rfl _ Tryz.ntmps103 _ Tryz.results103 (by simp) fun hwf => ?_
      try simp (config := { maxSteps := 10000000 }) only [go_sem, reduceIte, reduceCtorEq, Nat.reduceEqDiff, Nat.reduceLT, Nat.reduceLeDiff, Nat.reduceAdd, Nat.reduceBEq, Nat.reduceMul, Int.reduceToNat, Int.reduceLE, Int.reduceLT, Int.reduceEq, Int.reduceNeg]
      repeat (refine And.intro (by first | omega | (constructor <;> omega) | kernel_rfl) ?_)
      refine CallW.mk (isOne_fn n) ?_
      try simp (config := { maxSteps := 10000000 }) only [go_sem, reduceIte, reduceCtorEq, Nat.reduceEqDiff, Nat.reduceLT, Nat.reduceLeDiff, Nat.reduceAdd, Nat.reduceBEq, Nat.reduceMul, Int.reduceToNat, Int.reduceLE, Int.reduceLT, Int.reduceEq, Int.reduceNeg]
      try simp (config := { maxSteps := 10000000 }) only [go_sem, reduceIte, reduceCtorEq, Nat.reduceEqDiff, Nat.reduceLT, Nat.reduceLeDiff, Nat.reduceAdd, Nat.reduceBEq, Nat.reduceMul, Int.reduceToNat, Int.reduceLE, Int.reduceLT, Int.reduceEq, Int.reduceNeg, hd, hA, hB]
  · rcases hend with hs | hA | ⟨hA, hB⟩
    · rw [capR_data hs, m3]
      have hA : ¬ (24 : Int) < nl q.num.natAbs := by have := hs.1; omega
      have hB : ¬ (24 : Int) < nl q.den := by have := hs.2; omega
      have hob := hob hs
      rw [← e1] at hA hob; rw [← e2] at hB hcn; rw [← e1, ← e2]
      refine fn_enter tabOK mixes Tryz.func103 rfl rfl _ Tryz.ntmps103 _ Tryz.results103 (by simp) fun hwf => ?_
      try simp (config := { maxSteps := 10000000 }) only [go_sem, reduceIte, reduceCtorEq, Nat.reduceEqDiff, Nat.reduceLT, Nat.reduceLeDiff, Nat.reduceAdd, Nat.reduceBEq, Nat.reduceMul, Int.reduceToNat, Int.reduceLE, Int.reduceLT, Int.reduceEq, Int.reduceNeg]
      repeat (refine And.intro (by first | omega | (constructor <;> omega) | kernel_rfl) ?_)
      refine CallW.mk (isOne_fn n) ?_
      try simp (config := { maxSteps := 10000000 }) only [go_sem, reduceIte, reduceCtorEq, Nat.reduceEqDiff, Nat.reduceLT, Nat.reduceLeDiff, Nat.reduceAdd, Nat.reduceBEq, Nat.reduceMul, Int.reduceToNat, Int.reduceLE, Int.reduceLT, Int.reduceEq, Int.reduceNeg]
      try simp (config := { maxSteps := 10000000 }) only [go_sem, reduceIte, reduceCtorEq, Nat.reduceEqDiff, Nat.reduceLT, Nat.reduceLeDiff, Nat.reduceAdd, Nat.reduceBEq, Nat.reduceMul, Int.reduceToNat, Int.reduceLE, Int.reduceLT, Int.reduceEq, Int.reduceNeg, hd]
      repeat (refine And.intro (by first | omega | (constructor <;> omega) | kernel_rfl) ?_)
      refine CallW.mk (natGcd_fn z.natAbs n (by omega) (by omega)) ?_
      try simp (config := { maxSteps := 10000000 }) only [go_sem, reduceIte, reduceCtorEq, Nat.reduceEqDiff, Nat.reduceLT, Nat.reduceLeDiff, Nat.reduceAdd, Nat.reduceBEq, Nat.reduceMul, Int.reduceToNat, Int.reduceLE, Int.reduceLT, Int.reduceEq, Int.reduceNeg]
      repeat (refine And.intro (by first | omega | (constructor <;> omega) | kernel_rfl) ?_)
      refine CallW.mk (isOne_fn (Nat.gcd z.natAbs n)) ?_
      try simp (config := { maxSteps := 10000000 }) only [go_sem, reduceIte, reduceCtorEq, Nat.reduceEqDiff, Nat.reduceLT, Nat.reduceLeDiff, Nat.reduceAdd, Nat.reduceBEq, Nat.reduceMul, Int.reduceToNat, Int.reduceLE, Int.reduceLT, Int.reduceEq, Int.reduceNeg]
      try simp (config := { maxSteps := 10000000 }) only [go_sem, reduceIte, reduceCtorEq, Nat.reduceEqDiff, Nat.reduceLT, Nat.reduceLeDiff, Nat.reduceAdd, Nat.reduceBEq, Nat.reduceMul, Int.reduceToNat, Int.reduceLE, Int.reduceLT, Int.reduceEq, Int.reduceNeg, hd2, hA, hB]
      repeat (refine And.intro (by first | omega | (constructor <;> omega) | kernel_rfl) ?_)
      refine CallW.mk (hob) ?_
      try simp (config := { maxSteps := 10000000 }) only [go_sem, reduceIte, reduceCtorEq, Nat.reduceEqDiff, Nat.reduceLT, Nat.reduceLeDiff, Nat.reduceAdd, Nat.reduceBEq, Nat.reduceMul, Int.reduceToNat, Int.reduceLE, Int.reduceLT, Int.reduceEq, Int.reduceNeg]
      repeat (refine And.intro (by first | omega | (constructor <;> omega) | kernel_rfl) ?_)
      refine CallW.mk (hcn) ?_
      try simp (config := { maxSteps := 10000000 }) only [go_sem, reduceIte, reduceCtorEq, Nat.reduceEqDiff, Nat.reduceLT, Nat.reduceLeDiff, Nat.reduceAdd, Nat.reduceBEq, Nat.reduceMul, Int.reduceToNat, Int.reduceLE, Int.reduceLT, Int.reduceEq, Int.reduceNeg]
    · rw [capR_none (by unfold small; omega)]
      rw [← e1] at hA
      refine fn_enter tabOK mixes Tryz.func103 rfl rfl _ Tryz.ntmps103 _ Tryz.results103 (by simp) fun hwf => ?_
      try simp (config := { maxSteps := 10000000 }) only [go_sem, reduceIte, reduceCtorEq, Nat.reduceEqDiff, Nat.reduceLT, Nat.reduceLeDiff, Nat.reduceAdd, Nat.reduceBEq, Nat.reduceMul, Int.reduceToNat, Int.reduceLE, Int.reduceLT, Int.reduceEq, Int.reduceNeg]
      repeat (refine And.intro (by first | omega | (constructor <;> omega) | kernel_rfl) ?_)
      refine CallW.mk (isOne_fn n) ?_
      try simp (config := { maxSteps := 10000000 }) only [go_sem, reduceIte, reduceCtorEq, Nat.reduceEqDiff, Nat.reduceLT, Nat.reduceLeDiff, Nat.reduceAdd, Nat.reduceBEq, Nat.reduceMul, Int.reduceToNat, Int.reduceLE, Int.reduceLT, Int.reduceEq, Int.reduceNeg]
      try simp (config := { maxSteps := 10000000 }) only [go_sem, reduceIte, reduceCtorEq, Nat.reduceEqDiff, Nat.reduceLT, Nat.reduceLeDiff, Nat.reduceAdd, Nat.reduceBEq, Nat.reduceMul, Int.reduceToNat, Int.reduceLE, Int.reduceLT, Int.reduceEq, Int.reduceNeg, hd]
      repeat (refine And.intro (by first | omega | (constructor <;> omega) | kernel_rfl) ?_)
      refine CallW.mk (natGcd_fn z.natAbs n (by omega) (by omega)) ?_
      try simp (config := { maxSteps := 10000000 }) only [go_sem, reduceIte, reduceCtorEq, Nat.reduceEqDiff, Nat.reduceLT, Nat.reduceLeDiff, Nat.reduceAdd, Nat.reduceBEq, Nat.reduceMul, Int.reduceToNat, Int.reduceLE, Int.reduceLT, Int.reduceEq, Int.reduceNeg]
      repeat (refine And.intro (by first | omega | (constructor <;> omega) | kernel_rfl) ?_)
      refine CallW.mk (isOne_fn (Nat.gcd z.natAbs n)) ?_
      try simp (config := { maxSteps := 10000000 }) only [go_sem, reduceIte, reduceCtorEq, Nat.reduceEqDiff, Nat.reduceLT, Nat.reduceLeDiff, Nat.reduceAdd, Nat.reduceBEq, Nat.reduceMul, Int.reduceToNat, Int.reduceLE, Int.reduceLT, Int.reduceEq, Int.reduceNeg]
      try simp (config := { maxSteps := 10000000 }) only [go_sem, reduceIte, reduceCtorEq, Nat.reduceEqDiff, Nat.reduceLT, Nat.reduceLeDiff, Nat.reduceAdd, Nat.reduceBEq, Nat.reduceMul, Int.reduceToNat, Int.reduceLE, Int.reduceLT, Int.reduceEq, Int.reduceNeg, hd2, hA]
    · rw [capR_none (by unfold small; omega)]
      rw [← e1] at hA; rw [← e2] at hB
      refine fn_enter tabOK mixes Tryz.func103 rfl rfl _ Tryz.ntmps103 _ Tryz.results103 (by simp) fun hwf => ?_
      try simp (config := { maxSteps := 10000000 }) only [go_sem, reduceIte, reduceCtorEq, Nat.reduceEqDiff, Nat.reduceLT, Nat.reduceLeDiff, Nat.reduceAdd, Nat.reduceBEq, Nat.reduceMul, Int.reduceToNat, Int.reduceLE, Int.reduceLT, Int.reduceEq, Int.reduceNeg]
      repeat (refine And.intro (by first | omega | (constructor <;> omega) | kernel_rfl) ?_)
      refine CallW.mk (isOne_fn n) ?_
      try simp (config := { maxSteps := 10000000 }) only [go_sem, reduceIte, reduceCtorEq, Nat.reduceEqDiff, Nat.reduceLT, Nat.reduceLeDiff, Nat.reduceAdd, Nat.reduceBEq, Nat.reduceMul, Int.reduceToNat, Int.reduceLE, Int.reduceLT, Int.reduceEq, Int.reduceNeg]
      try simp (config := { maxSteps := 10000000 }) only [go_sem, reduceIte, reduceCtorEq, Nat.reduceEqDiff, Nat.reduceLT, Nat.reduceLeDiff, Nat.reduceAdd, Nat.reduceBEq, Nat.reduceMul, Int.reduceToNat, Int.reduceLE, Int.reduceLT, Int.reduceEq, Int.reduceNeg, hd]
      repeat (refine And.intro (by first | omega | (constructor <;> omega) | kernel_rfl) ?_)
      refine CallW.mk (natGcd_fn z.natAbs n (by omega) (by omega)) ?_
      try simp (config := { maxSteps := 10000000 }) only [go_sem, reduceIte, reduceCtorEq, Nat.reduceEqDiff, Nat.reduceLT, Nat.reduceLeDiff, Nat.reduceAdd, Nat.reduceBEq, Nat.reduceMul, Int.reduceToNat, Int.reduceLE, Int.reduceLT, Int.reduceEq, Int.reduceNeg]
      repeat (refine And.intro (by first | omega | (constructor <;> omega) | kernel_rfl) ?_)
      refine CallW.mk (isOne_fn (Nat.gcd z.natAbs n)) ?_
      try simp (config := { maxSteps := 10000000 }) only [go_sem, reduceIte, reduceCtorEq, Nat.reduceEqDiff, Nat.reduceLT, Nat.reduceLeDiff, Nat.reduceAdd, Nat.reduceBEq, Nat.reduceMul, Int.reduceToNat, Int.reduceLE, Int.reduceLT, Int.reduceEq, Int.reduceNeg]
      try simp (config := { maxSteps := 10000000 }) only [go_sem, reduceIte, reduceCtorEq, Nat.reduceEqDiff, Nat.reduceLT, Nat.reduceLeDiff, Nat.reduceAdd, Nat.reduceBEq, Nat.reduceMul, Int.reduceToNat, Int.reduceLE, Int.reduceLT, Int.reduceEq, Int.reduceNeg, hd2, hA, hB]
  · rcases hend with hs | hA | ⟨hA, hB⟩
    · rw [capR_data hs, m3]
      have hA : ¬ (24 : Int) < nl q.num.natAbs := by have := hs.1; omega
      have hB : ¬ (24 : Int) < nl q.den := by have := hs.2; omega
      have hob := hob hs
      refine fn_enter tabOK mixes Tryz.func103 rfl rfl _ Tryz.ntmps103 _ Tryz.results103 (by simp) fun hwf => ?_
      try simp (config := { maxSteps := 10000000 }) only [go_sem, reduceIte, reduceCtorEq, Nat.reduceEqDiff, Nat.reduceLT, Nat.reduceLeDiff, Nat.reduceAdd, Nat.reduceBEq, Nat.reduceMul, Int.reduceToNat, Int.reduceLE, Int.reduceLT, Int.reduceEq, Int.reduceNeg]
      repeat (refine And.intro (by first | omega | (constructor <;> omega) | kernel_rfl) ?_)
      refine CallW.mk (isOne_fn n) ?_
      try simp (config := { maxSteps := 10000000 }) only [go_sem, reduceIte, reduceCtorEq, Nat.reduceEqDiff, Nat.reduceLT, Nat.reduceLeDiff, Nat.reduceAdd, Nat.reduceBEq, Nat.reduceMul, Int.reduceToNat, Int.reduceLE, Int.reduceLT, Int.reduceEq, Int.reduceNeg]
      try simp (config := { maxSteps := 10000000 }) only [go_sem, reduceIte, reduceCtorEq, Nat.reduceEqDiff, Nat.reduceLT, Nat.reduceLeDiff, Nat.reduceAdd, Nat.reduceBEq, Nat.reduceMul, Int.reduceToNat, Int.reduceLE, Int.reduceLT, Int.reduceEq, Int.reduceNeg, hd]
      repeat (refine And.intro (by first | omega | (constructor <;> omega) | kernel_rfl) ?_)
      refine CallW.mk (natGcd_fn z.natAbs n (by omega) (by omega)) ?_
      try simp (config := { maxSteps := 10000000 }) only [go_sem, reduceIte, reduceCtorEq, Nat.reduceEqDiff, Nat.reduceLT, Nat.reduceLeDiff, Nat.reduceAdd, Nat.reduceBEq, Nat.reduceMul, Int.reduceToNat, Int.reduceLE, Int.reduceLT, Int.reduceEq, Int.reduceNeg]
      repeat (refine And.intro (by first | omega | (constructor <;> omega) | kernel_rfl) ?_)
      refine CallW.mk (isOne_fn (Nat.gcd z.natAbs n)) ?_
      try simp (config := { maxSteps := 10000000 }) only [go_sem, reduceIte, reduceCtorEq, Nat.reduceEqDiff, Nat.reduceLT, Nat.reduceLeDiff, Nat.reduceAdd, Nat.reduceBEq, Nat.reduceMul, Int.reduceToNat, Int.reduceLE, Int.reduceLT, Int.reduceEq, Int.reduceNeg]
      try simp (config := { maxSteps := 10000000 }) only [go_sem, reduceIte, reduceCtorEq, Nat.reduceEqDiff, Nat.reduceLT, Nat.reduceLeDiff, Nat.reduceAdd, Nat.reduceBEq, Nat.reduceMul, Int.reduceToNat, Int.reduceLE, Int.reduceLT, Int.reduceEq, Int.reduceNeg, hd2]
      have c1 := natDiv_fn z.natAbs (Nat.gcd z.natAbs n) hg0 (by omega) (by omega)
      rw [← m1] at c1
      repeat (refine And.intro (by first | omega | (constructor <;> omega) | kernel_rfl) ?_)
      refine CallW.mk (c1) ?_
      try simp (config := { maxSteps := 10000000 }) only [go_sem, reduceIte, reduceCtorEq, Nat.reduceEqDiff, Nat.reduceLT, Nat.reduceLeDiff, Nat.reduceAdd, Nat.reduceBEq, Nat.reduceMul, Int.reduceToNat, Int.reduceLE, Int.reduceLT, Int.reduceEq, Int.reduceNeg]
      have c2 := natDiv_fn n (Nat.gcd z.natAbs n) hg0 (by omega) (by omega)
      rw [← m2] at c2
      repeat (refine And.intro (by first | omega | (constructor <;> omega) | kernel_rfl) ?_)
      refine CallW.mk (c2) ?_
      try simp (config := { maxSteps := 10000000 }) only [go_sem, reduceIte, reduceCtorEq, Nat.reduceEqDiff, Nat.reduceLT, Nat.reduceLeDiff, Nat.reduceAdd, Nat.reduceBEq, Nat.reduceMul, Int.reduceToNat, Int.reduceLE, Int.reduceLT, Int.reduceEq, Int.reduceNeg]
      try simp (config := { maxSteps := 10000000 }) only [go_sem, reduceIte, reduceCtorEq, Nat.reduceEqDiff, Nat.reduceLT, Nat.reduceLeDiff, Nat.reduceAdd, Nat.reduceBEq, Nat.reduceMul, Int.reduceToNat, Int.reduceLE, Int.reduceLT, Int.reduceEq, Int.reduceNeg, hA, hB]
      repeat (refine And.intro (by first | omega | (constructor <;> omega) | kernel_rfl) ?_)
      refine CallW.mk (hob) ?_
      try simp (config := { maxSteps := 10000000 }) only [go_sem, reduceIte, reduceCtorEq, Nat.reduceEqDiff, Nat.reduceLT, Nat.reduceLeDiff, Nat.reduceAdd, Nat.reduceBEq, Nat.reduceMul, Int.reduceToNat, Int.reduceLE, Int.reduceLT, Int.reduceEq, Int.reduceNeg]
      repeat (refine And.intro (by first | omega | (constructor <;> omega) | kernel_rfl) ?_)
      refine CallW.mk (hcn) ?_
      try simp (config := { maxSteps := 10000000 }) only [go_sem, reduceIte, reduceCtorEq, Nat.reduceEqDiff, Nat.reduceLT, Nat.reduceLeDiff, Nat.reduceAdd, Nat.reduceBEq, Nat.reduceMul, Int.reduceToNat, Int.reduceLE, Int.reduceLT, Int.reduceEq, Int.reduceNeg]
    · rw [capR_none (by unfold small; omega)]
      refine fn_enter tabOK mixes Tryz.func103 rfl rfl _ Tryz.ntmps103 _ Tryz.results103 (by simp) fun hwf => ?_
      try simp (config := { maxSteps := 10000000 }) only [go_sem, reduceIte, reduceCtorEq, Nat.reduceEqDiff, Nat.reduceLT, Nat.reduceLeDiff, Nat.reduceAdd, Nat.reduceBEq, Nat.reduceMul, Int.reduceToNat, Int.reduceLE, Int.reduceLT, Int.reduceEq, Int.reduceNeg]
      repeat (refine And.intro (by first | omega | (constructor <;> omega) | kernel_rfl) ?_)
      refine CallW.mk (isOne_fn n) ?_
      try simp (config := { maxSteps := 10000000 }) only [go_sem, reduceIte, reduceCtorEq, Nat.reduceEqDiff, Nat.reduceLT, Nat.reduceLeDiff, Nat.reduceAdd, Nat.reduceBEq, Nat.reduceMul, Int.reduceToNat, Int.reduceLE, Int.reduceLT, Int.reduceEq, Int.reduceNeg]
      try simp (config := { maxSteps := 10000000 }) only [go_sem, reduceIte, reduceCtorEq, Nat.reduceEqDiff, Nat.reduceLT, Nat.reduceLeDiff, Nat.reduceAdd, Nat.reduceBEq, Nat.reduceMul, Int.reduceToNat, Int.reduceLE, Int.reduceLT, Int.reduceEq, Int.reduceNeg, hd]
      repeat (refine And.intro (by first | omega | (constructor <;> omega) | kernel_rfl) ?_)
      refine CallW.mk (natGcd_fn z.natAbs n (by omega) (by omega)) ?_
      try simp (config := { maxSteps := 10000000 }) only [go_sem, reduceIte, reduceCtorEq, Nat.reduceEqDiff, Nat.reduceLT, Nat.reduceLeDiff, Nat.reduceAdd, Nat.reduceBEq, Nat.reduceMul, Int.reduceToNat, Int.reduceLE, Int.reduceLT, Int.reduceEq, Int.reduceNeg]
      repeat (refine And.intro (by first | omega | (constructor <;> omega) | kernel_rfl) ?_)
      refine CallW.mk (isOne_fn (Nat.gcd z.natAbs n)) ?_
      try simp (config := { maxSteps := 10000000 }) only [go_sem, reduceIte, reduceCtorEq, Nat.reduceEqDiff, Nat.reduceLT, Nat.reduceLeDiff, Nat.reduceAdd, Nat.reduceBEq, Nat.reduceMul, Int.reduceToNat, Int.reduceLE, Int.reduceLT, Int.reduceEq, Int.reduceNeg]
      try simp (config := { maxSteps := 10000000 }) only [go_sem, reduceIte, reduceCtorEq, Nat.reduceEqDiff, Nat.reduceLT, Nat.reduceLeDiff, Nat.reduceAdd, Nat.reduceBEq, Nat.reduceMul, Int.reduceToNat, Int.reduceLE, Int.reduceLT, Int.reduceEq, Int.reduceNeg, hd2]
      have c1 := natDiv_fn z.natAbs (Nat.gcd z.natAbs n) hg0 (by omega) (by omega)
      rw [← m1] at c1
      repeat (refine And.intro (by first | omega | (constructor <;> omega) | kernel_rfl) ?_)
      refine CallW.mk (c1) ?_
      try simp (config := { maxSteps := 10000000 }) only [go_sem, reduceIte, reduceCtorEq, Nat.reduceEqDiff, Nat.reduceLT, Nat.reduceLeDiff, Nat.reduceAdd, Nat.reduceBEq, Nat.reduceMul, Int.reduceToNat, Int.reduceLE, Int.reduceLT, Int.reduceEq, Int.reduceNeg]
      have c2 := natDiv_fn n (Nat.gcd z.natAbs n) hg0 (by omega) (by omega)
      rw [← m2] at c2
      repeat (refine And.intro (by first | omega | (constructor <;> omega) | kernel_rfl) ?_)
      refine CallW.mk (c2) ?_
      try simp (config := { maxSteps := 10000000 }) only [go_sem, reduceIte, reduceCtorEq, Nat.reduceEqDiff, Nat.reduceLT, Nat.reduceLeDiff, Nat.reduceAdd, Nat.reduceBEq, Nat.reduceMul, Int.reduceToNat, Int.reduceLE, Int.reduceLT, Int.reduceEq, Int.reduceNeg]
      try simp (config := { maxSteps := 10000000 }) only [go_sem, reduceIte, reduceCtorEq, Nat.reduceEqDiff, Nat.reduceLT, Nat.reduceLeDiff, Nat.reduceAdd, Nat.reduceBEq, Nat.reduceMul, Int.reduceToNat, Int.reduceLE, Int.reduceLT, Int.reduceEq, Int.reduceNeg, hA]
    · rw [capR_none (by unfold small; omega)]
      refine fn_enter tabOK mixes Tryz.func103 rfl rfl _ Tryz.ntmps103 _ Tryz.results103 (by simp) fun hwf => ?_
      try simp (config := { maxSteps := 10000000 }) only [go_sem, reduceIte, reduceCtorEq, Nat.reduceEqDiff, Nat.reduceLT, Nat.reduceLeDiff, Nat.reduceAdd, Nat.reduceBEq, Nat.reduceMul, Int.reduceToNat, Int.reduceLE, Int.reduceLT, Int.reduceEq, Int.reduceNeg]
      repeat (refine And.intro (by first | omega | (constructor <;> omega) | kernel_rfl) ?_)
      refine CallW.mk (isOne_fn n) ?_
      try simp (config := { maxSteps := 10000000 }) only [go_sem, reduceIte, reduceCtorEq, Nat.reduceEqDiff, Nat.reduceLT, Nat.reduceLeDiff, Nat.reduceAdd, Nat.reduceBEq, Nat.reduceMul, Int.reduceToNat, Int.reduceLE, Int.reduceLT, Int.reduceEq, Int.reduceNeg]
      try simp (config := { maxSteps := 10000000 }) only [go_sem, reduceIte, reduceCtorEq, Nat.reduceEqDiff, Nat.reduceLT, Nat.reduceLeDiff, Nat.reduceAdd, Nat.reduceBEq, Nat.reduceMul, Int.reduceToNat, Int.reduceLE, Int.reduceLT, Int.reduceEq, Int.reduceNeg, hd]
      repeat (refine And.intro (by first | omega | (constructor <;> omega) | kernel_rfl) ?_)
      refine CallW.mk (natGcd_fn z.natAbs n (by omega) (by omega)) ?_
      try simp (config := { maxSteps := 10000000 }) only [go_sem, reduceIte, reduceCtorEq, Nat.reduceEqDiff, Nat.reduceLT, Nat.reduceLeDiff, Nat.reduceAdd, Nat.reduceBEq, Nat.reduceMul, Int.reduceToNat, Int.reduceLE, Int.reduceLT, Int.reduceEq, Int.reduceNeg]
      repeat (refine And.intro (by first | omega | (constructor <;> omega) | kernel_rfl) ?_)
      refine CallW.mk (isOne_fn (Nat.gcd z.natAbs n)) ?_
      try simp (config := { maxSteps := 10000000 }) only [go_sem, reduceIte, reduceCtorEq, Nat.reduceEqDiff, Nat.reduceLT, Nat.reduceLeDiff, Nat.reduceAdd, Nat.reduceBEq, Nat.reduceMul, Int.reduceToNat, Int.reduceLE, Int.reduceLT, Int.reduceEq, Int.reduceNeg]
      try simp (config := { maxSteps := 10000000 }) only [go_sem, reduceIte, reduceCtorEq, Nat.reduceEqDiff, Nat.reduceLT, Nat.reduceLeDiff, Nat.reduceAdd, Nat.reduceBEq, Nat.reduceMul, Int.reduceToNat, Int.reduceLE, Int.reduceLT, Int.reduceEq, Int.reduceNeg, hd2]
      have c1 := natDiv_fn z.natAbs (Nat.gcd z.natAbs n) hg0 (by omega) (by omega)
      rw [← m1] at c1
      repeat (refine And.intro (by first | omega | (constructor <;> omega) | kernel_rfl) ?_)
      refine CallW.mk (c1) ?_
      try simp (config := { maxSteps := 10000000 }) only [go_sem, reduceIte, reduceCtorEq, Nat.reduceEqDiff, Nat.reduceLT, Nat.reduceLeDiff, Nat.reduceAdd, Nat.reduceBEq, Nat.reduceMul, Int.reduceToNat, Int.reduceLE, Int.reduceLT, Int.reduceEq, Int.reduceNeg]
      have c2 := natDiv_fn n (Nat.gcd z.natAbs n) hg0 (by omega) (by omega)
      rw [← m2] at c2
      repeat (refine And.intro (by first | omega | (constructor <;> omega) | kernel_rfl) ?_)
      refine CallW.mk (c2) ?_
      try simp (config := { maxSteps := 10000000 }) only [go_sem, reduceIte, reduceCtorEq, Nat.reduceEqDiff, Nat.reduceLT, Nat.reduceLeDiff, Nat.reduceAdd, Nat.reduceBEq, Nat.reduceMul, Int.reduceToNat, Int.reduceLE, Int.reduceLT, Int.reduceEq, Int.reduceNeg]
      try simp (config := { maxSteps := 10000000 }) only [go_sem, reduceIte, reduceCtorEq, Nat.reduceEqDiff, Nat.reduceLT, Nat.reduceLeDiff, Nat.reduceAdd, Nat.reduceBEq, Nat.reduceMul, Int.reduceToNat, Int.reduceLE, Int.reduceLT, Int.reduceEq, Int.reduceNeg, hA, hB]
theorem sgn_abs (s : Bool) (a : Nat) : (sgn s a).natAbs = a := by unfold sgn; split <;> omega
theorem sgn_neg (s : Bool) (a : Nat) : decide (sgn s a < 0) = (s && decide (0 < a)) := by
  unfold sgn
  cases s
  · simp
  · simp <;> omega
theorem l04Low_fn (s : Bool) (a b : Nat) (hb : b ≠ 0) (ha : nl a ≤ 60) (hbl : nl b ≤ 60) : Fn Tryz.prog 145 [⟨.bool, s⟩, ⟨tInts, natL a⟩, ⟨tInts, natL b⟩] true [⟨tRat, oD (capR (_root_.mkRat (sgn s a) b))⟩] := by
  obtain ⟨m1, m2, m3⟩ := mk_abs (z := sgn s a) hb
  rw [sgn_abs] at m1 m2
  rw [sgn_neg] at m3
  generalize hq : _root_.mkRat (sgn s a) b = q at *
  have hg0 : 0 < Nat.gcd a b := Nat.gcd_pos_of_pos_right _ (Nat.pos_of_ne_zero hb)
  have hl1 := nl_mono (Nat.div_le_self a (Nat.gcd a b))
  have hl2 := nl_mono (Nat.div_le_self b (Nat.gcd a b))
  have hl3 := nl_mono (Nat.gcd_le_right a (Nat.pos_of_ne_zero hb))
  rw [← m1] at hl1
  rw [← m2] at hl2
  have hb0 : ¬ (nl b : Int) = 0 := fun h => hb (nl_eq_zero.1 (by omega))
  have ht1 := l02Trim_fn (natL a)
  rw [trimL_natL] at ht1
  have ht2 := l02Trim_fn (natL b)
  rw [trimL_natL] at ht2
  have hqs : sgn s q.num.natAbs = q.num := by
    have h1 : (0 < a) → 0 < q.num.natAbs := fun h => by
      rw [m1]; exact Nat.div_pos (Nat.le_of_dvd h (Nat.gcd_dvd_left ..)) hg0
    have h2 : a = 0 → q.num.natAbs = 0 := fun h => by rw [m1, h, Nat.zero_div]
    unfold sgn
    cases s
    · have : ¬ q.num < 0 := by simpa using m3
      simp only [Bool.false_eq_true, if_false]; omega
    · simp only [if_true]
      rcases Nat.eq_zero_or_pos a with h | h
      · have := h2 h; omega
      · have := h1 h
        have : q.num < 0 := by simpa [h] using m3
        omega
  have hpath : (decide (b = 1) = true ∧ a = q.num.natAbs ∧ b = q.den) ∨ (decide (b = 1) = false ∧ decide (Nat.gcd a b = 1) = true ∧ a = q.num.natAbs ∧ b = q.den) ∨ (decide (b = 1) = false ∧ decide (Nat.gcd a b = 1) = false) := by
    by_cases h1 : b = 1
    · refine .inl ⟨decide_eq_true h1, ?_, ?_⟩
      · rw [m1, h1, Nat.gcd_one_right, Nat.div_one]
      · rw [m2, h1, Nat.gcd_one_right, Nat.div_one]
    · by_cases h2 : Nat.gcd a b = 1
      · exact .inr (.inl ⟨decide_eq_false h1, decide_eq_true h2, by rw [m1, h2, Nat.div_one], by rw [m2, h2, Nat.div_one]⟩)
      · exact .inr (.inr ⟨decide_eq_false h1, decide_eq_false h2⟩)
  have hob : small q → Fn Tryz.prog 138 [⟨.bool, s⟩, ⟨tInts, natL q.num.natAbs⟩] true [⟨tBig, bigD q.num⟩] := fun hs => l03Make_to hqs (by have := hs.1; omega)
  have hend : small q ∨ (24 : Int) < nl q.num.natAbs ∨ (¬ (24 : Int) < nl q.num.natAbs ∧ (24 : Int) < nl q.den) := by unfold small; omega
  rcases hpath with ⟨hd, e1, e2⟩ | ⟨hd, hd2, e1, e2⟩ | ⟨hd, hd2⟩
  · rcases hend with hs | hA | ⟨hA, hB⟩
    · rw [capR_s hs]
      have hA : ¬ (24 : Int) < nl q.num.natAbs := by have := hs.1; omega
      have hB : ¬ (24 : Int) < nl q.den := by have := hs.2; omega
      have hob := hob hs
      rw [← e1] at hA hob; rw [← e2] at hB
      refine fn_enter tabOK mixes Tryz.func145 rfl rfl _ Tryz.ntmps145 _ Tryz.results145 (by simp) fun hwf => ?_
      try simp (config := { maxSteps := 10000000 }) only [go_sem, reduceIte, reduceCtorEq, Nat.reduceEqDiff, Nat.reduceLT, Nat.reduceLeDiff, Nat.reduceAdd, Nat.reduceBEq, Nat.reduceMul, Int.reduceToNat, Int.reduceLE, Int.reduceLT, Int.reduceEq, Int.reduceNeg]
      repeat (refine And.intro (by first | omega | (constructor <;> omega) | kernel_rfl) ?_)
      refine CallW.mk (ht1) ?_
      try simp (config := { maxSteps := 10000000 }) only [go_sem, reduceIte, reduceCtorEq, Nat.reduceEqDiff, Nat.reduceLT, Nat.reduceLeDiff, Nat.reduceAdd, Nat.reduceBEq, Nat.reduceMul, Int.reduceToNat, Int.reduceLE, Int.reduceLT, Int.reduceEq, Int.reduceNeg]
      repeat (refine And.intro (by first | omega | (constructor <;> omega) | kernel_rfl) ?_)
      refine CallW.mk (ht2) ?_
      try simp (config := { maxSteps := 10000000 }) only [go_sem, reduceIte, reduceCtorEq, Nat.reduceEqDiff, Nat.reduceLT, Nat.reduceLeDiff, Nat.reduceAdd, Nat.reduceBEq, Nat.reduceMul, Int.reduceToNat, Int.reduceLE, Int.reduceLT, Int.reduceEq, Int.reduceNeg]
      try simp (config := { maxSteps := 10000000 }) only [go_sem, reduceIte, reduceCtorEq, Nat.reduceEqDiff, Nat.reduceLT, Nat.reduceLeDiff, Nat.reduceAdd, Nat.reduceBEq, Nat.reduceMul, Int.reduceToNat, Int.reduceLE, Int.reduceLT, Int.reduceEq, Int.reduceNeg, hb0]
      repeat (refine And.intro (by first | omega | (constructor <;> omega) | kernel_rfl) ?_)
      refine CallW.mk (l04One_fn b) ?_
      try simp (config := { maxSteps := 10000000 }) only [go_sem, reduceIte, reduceCtorEq, Nat.reduceEqDiff, Nat.reduceLT, Nat.reduceLeDiff, Nat.reduceAdd, Nat.reduceBEq, Nat.reduceMul, Int.reduceToNat, Int.reduceLE, Int.reduceLT, Int.reduceEq, Int.reduceNeg]
      try simp (config := { maxSteps := 10000000 }) only [go_sem, reduceIte, reduceCtorEq, Nat.reduceEqDiff, Nat.reduceLT, Nat.reduceLeDiff, Nat.reduceAdd, Nat.reduceBEq, Nat.reduceMul, Int.reduceToNat, Int.reduceLE, Int.reduceLT, Int.reduceEq, Int.reduceNeg, hd, hA, hB]
      repeat (refine And.intro (by first | omega | (constructor <;> omega) | kernel_rfl) ?_)
      refine CallW.mk (hob) ?_
      try simp (config := { maxSteps := 10000000 }) only [go_sem, reduceIte, reduceCtorEq, Nat.reduceEqDiff, Nat.reduceLT, Nat.reduceLeDiff, Nat.reduceAdd, Nat.reduceBEq, Nat.reduceMul, Int.reduceToNat, Int.reduceLE, Int.reduceLT, Int.reduceEq, Int.reduceNeg]
      repeat (refine And.intro (by first | omega | (constructor <;> omega) | kernel_rfl) ?_)
      try simp (config := { maxSteps := 10000000 }) only [go_sem, reduceIte, reduceCtorEq, Nat.reduceEqDiff, Nat.reduceLT, Nat.reduceLeDiff, Nat.reduceAdd, Nat.reduceBEq, Nat.reduceMul, Int.reduceToNat, Int.reduceLE, Int.reduceLT, Int.reduceEq, Int.reduceNeg, e2]
      try omega
    · rw [capR_none (by unfold small; omega)]
      rw [← e1] at hA
      refine fn_enter tabOK mixes Tryz.func145 rfl rfl _ Tryz.ntmps145 _ Tryz.results145 (by simp) fun hwf => ?_
      try simp (config := { maxSteps := 10000000 }) only [go_sem, reduceIte, reduceCtorEq, Nat.reduceEqDiff, Nat.reduceLT, Nat.reduceLeDiff, Nat.reduceAdd, Nat.reduceBEq, Nat.reduceMul, Int.reduceToNat, Int.reduceLE, Int.reduceLT, Int.reduceEq, Int.reduceNeg]
      repeat (refine And.intro (by first | omega | (constructor <;> omega) | kernel_rfl) ?_)
      refine CallW.mk (ht1) ?_
      try simp (config := { maxSteps := 10000000 }) only [go_sem, reduceIte, reduceCtorEq, Nat.reduceEqDiff, Nat.reduceLT, Nat.reduceLeDiff, Nat.reduceAdd, Nat.reduceBEq, Nat.reduceMul, Int.reduceToNat, Int.reduceLE, Int.reduceLT, Int.reduceEq, Int.reduceNeg]
      repeat (refine And.intro (by first | omega | (constructor <;> omega) | kernel_rfl) ?_)
      refine CallW.mk (ht2) ?_
      try simp (config := { maxSteps := 10000000 }) only [go_sem, reduceIte, reduceCtorEq, Nat.reduceEqDiff, Nat.reduceLT, Nat.reduceLeDiff, Nat.reduceAdd, Nat.reduceBEq, Nat.reduceMul, Int.reduceToNat, Int.reduceLE, Int.reduceLT, Int.reduceEq, Int.reduceNeg]
      try simp (config := { maxSteps := 10000000 }) only [go_sem, reduceIte, reduceCtorEq, Nat.reduceEqDiff, Nat.reduceLT, Nat.reduceLeDiff, Nat.reduceAdd, Nat.reduceBEq, Nat.reduceMul, Int.reduceToNat, Int.reduceLE, Int.reduceLT, Int.reduceEq, Int.reduceNeg, hb0]
      repeat (refine And.intro (by first | omega | (constructor <;> omega) | kernel_rfl) ?_)
      refine CallW.mk (l04One_fn b) ?_
      try simp (config := { maxSteps := 10000000 }) only [go_sem, reduceIte, reduceCtorEq, Nat.reduceEqDiff, Nat.reduceLT, Nat.reduceLeDiff, Nat.reduceAdd, Nat.reduceBEq, Nat.reduceMul, Int.reduceToNat, Int.reduceLE, Int.reduceLT, Int.reduceEq, Int.reduceNeg]
      try simp (config := { maxSteps := 10000000 }) only [go_sem, reduceIte, reduceCtorEq, Nat.reduceEqDiff, Nat.reduceLT, Nat.reduceLeDiff, Nat.reduceAdd, Nat.reduceBEq, Nat.reduceMul, Int.reduceToNat, Int.reduceLE, Int.reduceLT, Int.reduceEq, Int.reduceNeg, hd, hA]
    · rw [capR_none (by unfold small; omega)]
      rw [← e1] at hA; rw [← e2] at hB
      refine fn_enter tabOK mixes Tryz.func145 rfl rfl _ Tryz.ntmps145 _ Tryz.results145 (by simp) fun hwf => ?_
      try simp (config := { maxSteps := 10000000 }) only [go_sem, reduceIte, reduceCtorEq, Nat.reduceEqDiff, Nat.reduceLT, Nat.reduceLeDiff, Nat.reduceAdd, Nat.reduceBEq, Nat.reduceMul, Int.reduceToNat, Int.reduceLE, Int.reduceLT, Int.reduceEq, Int.reduceNeg]
      repeat (refine And.intro (by first | omega | (constructor <;> omega) | kernel_rfl) ?_)
      refine CallW.mk (ht1) ?_
      try simp (config := { maxSteps := 10000000 }) only [go_sem, reduceIte, reduceCtorEq, Nat.reduceEqDiff, Nat.reduceLT, Nat.reduceLeDiff, Nat.reduceAdd, Nat.reduceBEq, Nat.reduceMul, Int.reduceToNat, Int.reduceLE, Int.reduceLT, Int.reduceEq, Int.reduceNeg]
      repeat (refine And.intro (by first | omega | (constructor <;> omega) | kernel_rfl) ?_)
      refine CallW.mk (ht2) ?_
      try simp (config := { maxSteps := 10000000 }) only [go_sem, reduceIte, reduceCtorEq, Nat.reduceEqDiff, Nat.reduceLT, Nat.reduceLeDiff, Nat.reduceAdd, Nat.reduceBEq, Nat.reduceMul, Int.reduceToNat, Int.reduceLE, Int.reduceLT, Int.reduceEq, Int.reduceNeg]
      try simp (config := { maxSteps := 10000000 }) only [go_sem, reduceIte, reduceCtorEq, Nat.reduceEqDiff, Nat.reduceLT, Nat.reduceLeDiff, Nat.reduceAdd, Nat.reduceBEq, Nat.reduceMul, Int.reduceToNat, Int.reduceLE, Int.reduceLT, Int.reduceEq, Int.reduceNeg, hb0]
      repeat (refine And.intro (by first | omega | (constructor <;> omega) | kernel_rfl) ?_)
      refine CallW.mk (l04One_fn b) ?_
      try simp (config := { maxSteps := 10000000 }) only [go_sem, reduceIte, reduceCtorEq, Nat.reduceEqDiff, Nat.reduceLT, Nat.reduceLeDiff, Nat.reduceAdd, Nat.reduceBEq, Nat.reduceMul, Int.reduceToNat, Int.reduceLE, Int.reduceLT, Int.reduceEq, Int.reduceNeg]
      try simp (config := { maxSteps := 10000000 }) only [go_sem, reduceIte, reduceCtorEq, Nat.reduceEqDiff, Nat.reduceLT, Nat.reduceLeDiff, Nat.reduceAdd, Nat.reduceBEq, Nat.reduceMul, Int.reduceToNat, Int.reduceLE, Int.reduceLT, Int.reduceEq, Int.reduceNeg, hd, hA, hB]
  · rcases hend with hs | hA | ⟨hA, hB⟩
    · rw [capR_s hs]
      have hA : ¬ (24 : Int) < nl q.num.natAbs := by have := hs.1; omega
      have hB : ¬ (24 : Int) < nl q.den := by have := hs.2; omega
      have hob := hob hs
      rw [← e1] at hA hob; rw [← e2] at hB
      refine fn_enter tabOK mixes Tryz.func145 rfl rfl _ Tryz.ntmps145 _ Tryz.results145 (by simp) fun hwf => ?_
      try simp (config := { maxSteps := 10000000 }) only [go_sem, reduceIte, reduceCtorEq, Nat.reduceEqDiff, Nat.reduceLT, Nat.reduceLeDiff, Nat.reduceAdd, Nat.reduceBEq, Nat.reduceMul, Int.reduceToNat, Int.reduceLE, Int.reduceLT, Int.reduceEq, Int.reduceNeg]
      repeat (refine And.intro (by first | omega | (constructor <;> omega) | kernel_rfl) ?_)
      refine CallW.mk (ht1) ?_
      try simp (config := { maxSteps := 10000000 }) only [go_sem, reduceIte, reduceCtorEq, Nat.reduceEqDiff, Nat.reduceLT, Nat.reduceLeDiff, Nat.reduceAdd, Nat.reduceBEq, Nat.reduceMul, Int.reduceToNat, Int.reduceLE, Int.reduceLT, Int.reduceEq, Int.reduceNeg]
      repeat (refine And.intro (by first | omega | (constructor <;> omega) | kernel_rfl) ?_)
      refine CallW.mk (ht2) ?_
      try simp (config := { maxSteps := 10000000 }) only [go_sem, reduceIte, reduceCtorEq, Nat.reduceEqDiff, Nat.reduceLT, Nat.reduceLeDiff, Nat.reduceAdd, Nat.reduceBEq, Nat.reduceMul, Int.reduceToNat, Int.reduceLE, Int.reduceLT, Int.reduceEq, Int.reduceNeg]
      try simp (config := { maxSteps := 10000000 }) only [go_sem, reduceIte, reduceCtorEq, Nat.reduceEqDiff, Nat.reduceLT, Nat.reduceLeDiff, Nat.reduceAdd, Nat.reduceBEq, Nat.reduceMul, Int.reduceToNat, Int.reduceLE, Int.reduceLT, Int.reduceEq, Int.reduceNeg, hb0]
      repeat (refine And.intro (by first | omega | (constructor <;> omega) | kernel_rfl) ?_)
      refine CallW.mk (l04One_fn b) ?_
      try simp (config := { maxSteps := 10000000 }) only [go_sem, reduceIte, reduceCtorEq, Nat.reduceEqDiff, Nat.reduceLT, Nat.reduceLeDiff, Nat.reduceAdd, Nat.reduceBEq, Nat.reduceMul, Int.reduceToNat, Int.reduceLE, Int.reduceLT, Int.reduceEq, Int.reduceNeg]
      try simp (config := { maxSteps := 10000000 }) only [go_sem, reduceIte, reduceCtorEq, Nat.reduceEqDiff, Nat.reduceLT, Nat.reduceLeDiff, Nat.reduceAdd, Nat.reduceBEq, Nat.reduceMul, Int.reduceToNat, Int.reduceLE, Int.reduceLT, Int.reduceEq, Int.reduceNeg, hd]
      repeat (refine And.intro (by first | omega | (constructor <;> omega) | kernel_rfl) ?_)
      refine CallW.mk (l02Gcd_fn a b (by omega) (by omega)) ?_
      try simp (config := { maxSteps := 10000000 }) only [go_sem, reduceIte, reduceCtorEq, Nat.reduceEqDiff, Nat.reduceLT, Nat.reduceLeDiff, Nat.reduceAdd, Nat.reduceBEq, Nat.reduceMul, Int.reduceToNat, Int.reduceLE, Int.reduceLT, Int.reduceEq, Int.reduceNeg]
      repeat (refine And.intro (by first | omega | (constructor <;> omega) | kernel_rfl) ?_)
      refine CallW.mk (l04One_fn (Nat.gcd a b)) ?_
      try simp (config := { maxSteps := 10000000 }) only [go_sem, reduceIte, reduceCtorEq, Nat.reduceEqDiff, Nat.reduceLT, Nat.reduceLeDiff, Nat.reduceAdd, Nat.reduceBEq, Nat.reduceMul, Int.reduceToNat, Int.reduceLE, Int.reduceLT, Int.reduceEq, Int.reduceNeg]
      try simp (config := { maxSteps := 10000000 }) only [go_sem, reduceIte, reduceCtorEq, Nat.reduceEqDiff, Nat.reduceLT, Nat.reduceLeDiff, Nat.reduceAdd, Nat.reduceBEq, Nat.reduceMul, Int.reduceToNat, Int.reduceLE, Int.reduceLT, Int.reduceEq, Int.reduceNeg, hd2, hA, hB]
      repeat (refine And.intro (by first | omega | (constructor <;> omega) | kernel_rfl) ?_)
      refine CallW.mk (hob) ?_
      try simp (config := { maxSteps := 10000000 }) only [go_sem, reduceIte, reduceCtorEq, Nat.reduceEqDiff, Nat.reduceLT, Nat.reduceLeDiff, Nat.reduceAdd, Nat.reduceBEq, Nat.reduceMul, Int.reduceToNat, Int.reduceLE, Int.reduceLT, Int.reduceEq, Int.reduceNeg]
      repeat (refine And.intro (by first | omega | (constructor <;> omega) | kernel_rfl) ?_)
      try simp (config := { maxSteps := 10000000 }) only [go_sem, reduceIte, reduceCtorEq, Nat.reduceEqDiff, Nat.reduceLT, Nat.reduceLeDiff, Nat.reduceAdd, Nat.reduceBEq, Nat.reduceMul, Int.reduceToNat, Int.reduceLE, Int.reduceLT, Int.reduceEq, Int.reduceNeg, e2]
      try omega
    · rw [capR_none (by unfold small; omega)]
      rw [← e1] at hA
      refine fn_enter tabOK mixes Tryz.func145 rfl rfl _ Tryz.ntmps145 _ Tryz.results145 (by simp) fun hwf => ?_
      try simp (config := { maxSteps := 10000000 }) only [go_sem, reduceIte, reduceCtorEq, Nat.reduceEqDiff, Nat.reduceLT, Nat.reduceLeDiff, Nat.reduceAdd, Nat.reduceBEq, Nat.reduceMul, Int.reduceToNat, Int.reduceLE, Int.reduceLT, Int.reduceEq, Int.reduceNeg]
      repeat (refine And.intro (by first | omega | (constructor <;> omega) | kernel_rfl) ?_)
      refine CallW.mk (ht1) ?_
      try simp (config := { maxSteps := 10000000 }) only [go_sem, reduceIte, reduceCtorEq, Nat.reduceEqDiff, Nat.reduceLT, Nat.reduceLeDiff, Nat.reduceAdd, Nat.reduceBEq, Nat.reduceMul, Int.reduceToNat, Int.reduceLE, Int.reduceLT, Int.reduceEq, Int.reduceNeg]
      repeat (refine And.intro (by first | omega | (constructor <;> omega) | kernel_rfl) ?_)
      refine CallW.mk (ht2) ?_
      try simp (config := { maxSteps := 10000000 }) only [go_sem, reduceIte, reduceCtorEq, Nat.reduceEqDiff, Nat.reduceLT, Nat.reduceLeDiff, Nat.reduceAdd, Nat.reduceBEq, Nat.reduceMul, Int.reduceToNat, Int.reduceLE, Int.reduceLT, Int.reduceEq, Int.reduceNeg]
      try simp (config := { maxSteps := 10000000 }) only [go_sem, reduceIte, reduceCtorEq, Nat.reduceEqDiff, Nat.reduceLT, Nat.reduceLeDiff, Nat.reduceAdd, Nat.reduceBEq, Nat.reduceMul, Int.reduceToNat, Int.reduceLE, Int.reduceLT, Int.reduceEq, Int.reduceNeg, hb0]
      repeat (refine And.intro (by first | omega | (constructor <;> omega) | kernel_rfl) ?_)
      refine CallW.mk (l04One_fn b) ?_
      try simp (config := { maxSteps := 10000000 }) only [go_sem, reduceIte, reduceCtorEq, Nat.reduceEqDiff, Nat.reduceLT, Nat.reduceLeDiff, Nat.reduceAdd, Nat.reduceBEq, Nat.reduceMul, Int.reduceToNat, Int.reduceLE, Int.reduceLT, Int.reduceEq, Int.reduceNeg]
      try simp (config := { maxSteps := 10000000 }) only [go_sem, reduceIte, reduceCtorEq, Nat.reduceEqDiff, Nat.reduceLT, Nat.reduceLeDiff, Nat.reduceAdd, Nat.reduceBEq, Nat.reduceMul, Int.reduceToNat, Int.reduceLE, Int.reduceLT, Int.reduceEq, Int.reduceNeg, hd]
      repeat (refine And.intro (by first | omega | (constructor <;> omega) | kernel_rfl) ?_)
      refine CallW.mk (l02Gcd_fn a b (by omega) (by omega)) ?_
      try simp (config := { maxSteps := 10000000 }) only [go_sem, reduceIte, reduceCtorEq, Nat.reduceEqDiff, Nat.reduceLT, Nat.reduceLeDiff, Nat.reduceAdd, Nat.reduceBEq, Nat.reduceMul, Int.reduceToNat, Int.reduceLE, Int.reduceLT, Int.reduceEq, Int.reduceNeg]
      repeat (refine And.intro (by first | omega | (constructor <;> omega) | kernel_rfl) ?_)
      refine CallW.mk (l04One_fn (Nat.gcd a b)) ?_
      try simp (config := { maxSteps := 10000000 }) only [go_sem, reduceIte, reduceCtorEq, Nat.reduceEqDiff, Nat.reduceLT, Nat.reduceLeDiff, Nat.reduceAdd, Nat.reduceBEq, Nat.reduceMul, Int.reduceToNat, Int.reduceLE, Int.reduceLT, Int.reduceEq, Int.reduceNeg]
      try simp (config := { maxSteps := 10000000 }) only [go_sem, reduceIte, reduceCtorEq, Nat.reduceEqDiff, Nat.reduceLT, Nat.reduceLeDiff, Nat.reduceAdd, Nat.reduceBEq, Nat.reduceMul, Int.reduceToNat, Int.reduceLE, Int.reduceLT, Int.reduceEq, Int.reduceNeg, hd2, hA]
    · rw [capR_none (by unfold small; omega)]
      rw [← e1] at hA; rw [← e2] at hB
      refine fn_enter tabOK mixes Tryz.func145 rfl rfl _ Tryz.ntmps145 _ Tryz.results145 (by simp) fun hwf => ?_
      try simp (config := { maxSteps := 10000000 }) only [go_sem, reduceIte, reduceCtorEq, Nat.reduceEqDiff, Nat.reduceLT, Nat.reduceLeDiff, Nat.reduceAdd, Nat.reduceBEq, Nat.reduceMul, Int.reduceToNat, Int.reduceLE, Int.reduceLT, Int.reduceEq, Int.reduceNeg]
      repeat (refine And.intro (by first | omega | (constructor <;> omega) | kernel_rfl) ?_)
      refine CallW.mk (ht1) ?_
      try simp (config := { maxSteps := 10000000 }) only [go_sem, reduceIte, reduceCtorEq, Nat.reduceEqDiff, Nat.reduceLT, Nat.reduceLeDiff, Nat.reduceAdd, Nat.reduceBEq, Nat.reduceMul, Int.reduceToNat, Int.reduceLE, Int.reduceLT, Int.reduceEq, Int.reduceNeg]
      repeat (refine And.intro (by first | omega | (constructor <;> omega) | kernel_rfl) ?_)
      refine CallW.mk (ht2) ?_
      try simp (config := { maxSteps := 10000000 }) only [go_sem, reduceIte, reduceCtorEq, Nat.reduceEqDiff, Nat.reduceLT, Nat.reduceLeDiff, Nat.reduceAdd, Nat.reduceBEq, Nat.reduceMul, Int.reduceToNat, Int.reduceLE, Int.reduceLT, Int.reduceEq, Int.reduceNeg]
      try simp (config := { maxSteps := 10000000 }) only [go_sem, reduceIte, reduceCtorEq, Nat.reduceEqDiff, Nat.reduceLT, Nat.reduceLeDiff, Nat.reduceAdd, Nat.reduceBEq, Nat.reduceMul, Int.reduceToNat, Int.reduceLE, Int.reduceLT, Int.reduceEq, Int.reduceNeg, hb0]
      repeat (refine And.intro (by first | omega | (constructor <;> omega) | kernel_rfl) ?_)
      refine CallW.mk (l04One_fn b) ?_
      try simp (config := { maxSteps := 10000000 }) only [go_sem, reduceIte, reduceCtorEq, Nat.reduceEqDiff, Nat.reduceLT, Nat.reduceLeDiff, Nat.reduceAdd, Nat.reduceBEq, Nat.reduceMul, Int.reduceToNat, Int.reduceLE, Int.reduceLT, Int.reduceEq, Int.reduceNeg]
      try simp (config := { maxSteps := 10000000 }) only [go_sem, reduceIte, reduceCtorEq, Nat.reduceEqDiff, Nat.reduceLT, Nat.reduceLeDiff, Nat.reduceAdd, Nat.reduceBEq, Nat.reduceMul, Int.reduceToNat, Int.reduceLE, Int.reduceLT, Int.reduceEq, Int.reduceNeg, hd]
      repeat (refine And.intro (by first | omega | (constructor <;> omega) | kernel_rfl) ?_)
      refine CallW.mk (l02Gcd_fn a b (by omega) (by omega)) ?_
      try simp (config := { maxSteps := 10000000 }) only [go_sem, reduceIte, reduceCtorEq, Nat.reduceEqDiff, Nat.reduceLT, Nat.reduceLeDiff, Nat.reduceAdd, Nat.reduceBEq, Nat.reduceMul, Int.reduceToNat, Int.reduceLE, Int.reduceLT, Int.reduceEq, Int.reduceNeg]
      repeat (refine And.intro (by first | omega | (constructor <;> omega) | kernel_rfl) ?_)
      refine CallW.mk (l04One_fn (Nat.gcd a b)) ?_
      try simp (config := { maxSteps := 10000000 }) only [go_sem, reduceIte, reduceCtorEq, Nat.reduceEqDiff, Nat.reduceLT, Nat.reduceLeDiff, Nat.reduceAdd, Nat.reduceBEq, Nat.reduceMul, Int.reduceToNat, Int.reduceLE, Int.reduceLT, Int.reduceEq, Int.reduceNeg]
      try simp (config := { maxSteps := 10000000 }) only [go_sem, reduceIte, reduceCtorEq, Nat.reduceEqDiff, Nat.reduceLT, Nat.reduceLeDiff, Nat.reduceAdd, Nat.reduceBEq, Nat.reduceMul, Int.reduceToNat, Int.reduceLE, Int.reduceLT, Int.reduceEq, Int.reduceNeg, hd2, hA, hB]
  · rcases hend with hs | hA | ⟨hA, hB⟩
    · rw [capR_s hs]
      have hA : ¬ (24 : Int) < nl q.num.natAbs := by have := hs.1; omega
      have hB : ¬ (24 : Int) < nl q.den := by have := hs.2; omega
      have hob := hob hs
      refine fn_enter tabOK mixes Tryz.func145 rfl rfl _ Tryz.ntmps145 _ Tryz.results145 (by simp) fun hwf => ?_
      try simp (config := { maxSteps := 10000000 }) only [go_sem, reduceIte, reduceCtorEq, Nat.reduceEqDiff, Nat.reduceLT, Nat.reduceLeDiff, Nat.reduceAdd, Nat.reduceBEq, Nat.reduceMul, Int.reduceToNat, Int.reduceLE, Int.reduceLT, Int.reduceEq, Int.reduceNeg]
      repeat (refine And.intro (by first | omega | (constructor <;> omega) | kernel_rfl) ?_)
      refine CallW.mk (ht1) ?_
      try simp (config := { maxSteps := 10000000 }) only [go_sem, reduceIte, reduceCtorEq, Nat.reduceEqDiff, Nat.reduceLT, Nat.reduceLeDiff, Nat.reduceAdd, Nat.reduceBEq, Nat.reduceMul, Int.reduceToNat, Int.reduceLE, Int.reduceLT, Int.reduceEq, Int.reduceNeg]
      repeat (refine And.intro (by first | omega | (constructor <;> omega) | kernel_rfl) ?_)
      refine CallW.mk (ht2) ?_
      try simp (config := { maxSteps := 10000000 }) only [go_sem, reduceIte, reduceCtorEq, Nat.reduceEqDiff, Nat.reduceLT, Nat.reduceLeDiff, Nat.reduceAdd, Nat.reduceBEq, Nat.reduceMul, Int.reduceToNat, Int.reduceLE, Int.reduceLT, Int.reduceEq, Int.reduceNeg]
      try simp (config := { maxSteps := 10000000 }) only [go_sem, reduceIte, reduceCtorEq, Nat.reduceEqDiff, Nat.reduceLT, Nat.reduceLeDiff, Nat.reduceAdd, Nat.reduceBEq, Nat.reduceMul, Int.reduceToNat, Int.reduceLE, Int.reduceLT, Int.reduceEq, Int.reduceNeg, hb0]
      repeat (refine And.intro (by first | omega | (constructor <;> omega) | kernel_rfl) ?_)
      refine CallW.mk (l04One_fn b) ?_
      try simp (config := { maxSteps := 10000000 }) only [go_sem, reduceIte, reduceCtorEq, Nat.reduceEqDiff, Nat.reduceLT, Nat.reduceLeDiff, Nat.reduceAdd, Nat.reduceBEq, Nat.reduceMul, Int.reduceToNat, Int.reduceLE, Int.reduceLT, Int.reduceEq, Int.reduceNeg]
      try simp (config := { maxSteps := 10000000 }) only [go_sem, reduceIte, reduceCtorEq, Nat.reduceEqDiff, Nat.reduceLT, Nat.reduceLeDiff, Nat.reduceAdd, Nat.reduceBEq, Nat.reduceMul, Int.reduceToNat, Int.reduceLE, Int.reduceLT, Int.reduceEq, Int.reduceNeg, hd]
      repeat (refine And.intro (by first | omega | (constructor <;> omega) | kernel_rfl) ?_)
      refine CallW.mk (l02Gcd_fn a b (by omega) (by omega)) ?_
      try simp (config := { maxSteps := 10000000 }) only [go_sem, reduceIte, reduceCtorEq, Nat.reduceEqDiff, Nat.reduceLT, Nat.reduceLeDiff, Nat.reduceAdd, Nat.reduceBEq, Nat.reduceMul, Int.reduceToNat, Int.reduceLE, Int.reduceLT, Int.reduceEq, Int.reduceNeg]
      repeat (refine And.intro (by first | omega | (constructor <;> omega) | kernel_rfl) ?_)
      refine CallW.mk (l04One_fn (Nat.gcd a b)) ?_
      try simp (config := { maxSteps := 10000000 }) only [go_sem, reduceIte, reduceCtorEq, Nat.reduceEqDiff, Nat.reduceLT, Nat.reduceLeDiff, Nat.reduceAdd, Nat.reduceBEq, Nat.reduceMul, Int.reduceToNat, Int.reduceLE, Int.reduceLT, Int.reduceEq, Int.reduceNeg]
      try simp (config := { maxSteps := 10000000 }) only [go_sem, reduceIte, reduceCtorEq, Nat.reduceEqDiff, Nat.reduceLT, Nat.reduceLeDiff, Nat.reduceAdd, Nat.reduceBEq, Nat.reduceMul, Int.reduceToNat, Int.reduceLE, Int.reduceLT, Int.reduceEq, Int.reduceNeg, hd2]
      have c1 := l02Div_fn a (Nat.gcd a b) hg0 (by omega) (by omega)
      rw [← m1] at c1
      repeat (refine And.intro (by first | omega | (constructor <;> omega) | kernel_rfl) ?_)
      refine CallW.mk (c1) ?_
      try simp (config := { maxSteps := 10000000 }) only [go_sem, reduceIte, reduceCtorEq, Nat.reduceEqDiff, Nat.reduceLT, Nat.reduceLeDiff, Nat.reduceAdd, Nat.reduceBEq, Nat.reduceMul, Int.reduceToNat, Int.reduceLE, Int.reduceLT, Int.reduceEq, Int.reduceNeg]
      have c2 := l02Div_fn b (Nat.gcd a b) hg0 (by omega) (by omega)
      rw [← m2] at c2
      repeat (refine And.intro (by first | omega | (constructor <;> omega) | kernel_rfl) ?_)
      refine CallW.mk (c2) ?_
      try simp (config := { maxSteps := 10000000 }) only [go_sem, reduceIte, reduceCtorEq, Nat.reduceEqDiff, Nat.reduceLT, Nat.reduceLeDiff, Nat.reduceAdd, Nat.reduceBEq, Nat.reduceMul, Int.reduceToNat, Int.reduceLE, Int.reduceLT, Int.reduceEq, Int.reduceNeg]
      try simp (config := { maxSteps := 10000000 }) only [go_sem, reduceIte, reduceCtorEq, Nat.reduceEqDiff, Nat.reduceLT, Nat.reduceLeDiff, Nat.reduceAdd, Nat.reduceBEq, Nat.reduceMul, Int.reduceToNat, Int.reduceLE, Int.reduceLT, Int.reduceEq, Int.reduceNeg, hA, hB]
      repeat (refine And.intro (by first | omega | (constructor <;> omega) | kernel_rfl) ?_)
      refine CallW.mk (hob) ?_
      try simp (config := { maxSteps := 10000000 }) only [go_sem, reduceIte, reduceCtorEq, Nat.reduceEqDiff, Nat.reduceLT, Nat.reduceLeDiff, Nat.reduceAdd, Nat.reduceBEq, Nat.reduceMul, Int.reduceToNat, Int.reduceLE, Int.reduceLT, Int.reduceEq, Int.reduceNeg]
      repeat (refine And.intro (by first | omega | (constructor <;> omega) | kernel_rfl) ?_)
      try simp (config := { maxSteps := 10000000 }) only [go_sem, reduceIte, reduceCtorEq, Nat.reduceEqDiff, Nat.reduceLT, Nat.reduceLeDiff, Nat.reduceAdd, Nat.reduceBEq, Nat.reduceMul, Int.reduceToNat, Int.reduceLE, Int.reduceLT, Int.reduceEq, Int.reduceNeg]
      try omega
    · rw [capR_none (by unfold small; omega)]
      refine fn_enter tabOK mixes Tryz.func145 rfl rfl _ Tryz.ntmps145 _ Tryz.results145 (by simp) fun hwf => ?_
      try simp (config := { maxSteps := 10000000 }) only [go_sem, reduceIte, reduceCtorEq, Nat.reduceEqDiff, Nat.reduceLT, Nat.reduceLeDiff, Nat.reduceAdd, Nat.reduceBEq, Nat.reduceMul, Int.reduceToNat, Int.reduceLE, Int.reduceLT, Int.reduceEq, Int.reduceNeg]
      repeat (refine And.intro (by first | omega | (constructor <;> omega) | kernel_rfl) ?_)
      refine CallW.mk (ht1) ?_
      try simp (config := { maxSteps := 10000000 }) only [go_sem, reduceIte, reduceCtorEq, Nat.reduceEqDiff, Nat.reduceLT, Nat.reduceLeDiff, Nat.reduceAdd, Nat.reduceBEq, Nat.reduceMul, Int.reduceToNat, Int.reduceLE, Int.reduceLT, Int.reduceEq, Int.reduceNeg]
      repeat (refine And.intro (by first | omega | (constructor <;> omega) | kernel_rfl) ?_)
      refine CallW.mk (ht2) ?_
      try simp (config := { maxSteps := 10000000 }) only [go_sem, reduceIte, reduceCtorEq, Nat.reduceEqDiff, Nat.reduceLT, Nat.reduceLeDiff, Nat.reduceAdd, Nat.reduceBEq, Nat.reduceMul, Int.reduceToNat, Int.reduceLE, Int.reduceLT, Int.reduceEq, Int.reduceNeg]
      try simp (config := { maxSteps := 10000000 }) only [go_sem, reduceIte, reduceCtorEq, Nat.reduceEqDiff, Nat.reduceLT, Nat.reduceLeDiff, Nat.reduceAdd, Nat.reduceBEq, Nat.reduceMul, Int.reduceToNat, Int.reduceLE, Int.reduceLT, Int.reduceEq, Int.reduceNeg, hb0]
      repeat (refine And.intro (by first | omega | (constructor <;> omega) | kernel_rfl) ?_)
      refine CallW.mk (l04One_fn b) ?_
      try simp (config := { maxSteps := 10000000 }) only [go_sem, reduceIte, reduceCtorEq, Nat.reduceEqDiff, Nat.reduceLT, Nat.reduceLeDiff, Nat.reduceAdd, Nat.reduceBEq, Nat.reduceMul, Int.reduceToNat, Int.reduceLE, Int.reduceLT, Int.reduceEq, Int.reduceNeg]
      try simp (config := { maxSteps := 10000000 }) only [go_sem, reduceIte, reduceCtorEq, Nat.reduceEqDiff, Nat.reduceLT, Nat.reduceLeDiff, Nat.reduceAdd, Nat.reduceBEq, Nat.reduceMul, Int.reduceToNat, Int.reduceLE, Int.reduceLT, Int.reduceEq, Int.reduceNeg, hd]
      repeat (refine And.intro (by first | omega | (constructor <;> omega) | kernel_rfl) ?_)
      refine CallW.mk (l02Gcd_fn a b (by omega) (by omega)) ?_
      try simp (config := { maxSteps := 10000000 }) only [go_sem, reduceIte, reduceCtorEq, Nat.reduceEqDiff, Nat.reduceLT, Nat.reduceLeDiff, Nat.reduceAdd, Nat.reduceBEq, Nat.reduceMul, Int.reduceToNat, Int.reduceLE, Int.reduceLT, Int.reduceEq, Int.reduceNeg]
      repeat (refine And.intro (by first | omega | (constructor <;> omega) | kernel_rfl) ?_)
      refine CallW.mk (l04One_fn (Nat.gcd a b)) ?_
      try simp (config := { maxSteps := 10000000 }) only [go_sem, reduceIte, reduceCtorEq, Nat.reduceEqDiff, Nat.reduceLT, Nat.reduceLeDiff, Nat.reduceAdd, Nat.reduceBEq, Nat.reduceMul, Int.reduceToNat, Int.reduceLE, Int.reduceLT, Int.reduceEq, Int.reduceNeg]
      try simp (config := { maxSteps := 10000000 }) only [go_sem, reduceIte, reduceCtorEq, Nat.reduceEqDiff, Nat.reduceLT, Nat.reduceLeDiff, Nat.reduceAdd, Nat.reduceBEq, Nat.reduceMul, Int.reduceToNat, Int.reduceLE, Int.reduceLT, Int.reduceEq, Int.reduceNeg, hd2]
      have c1 := l02Div_fn a (Nat.gcd a b) hg0 (by omega) (by omega)
      rw [← m1] at c1
      repeat (refine And.intro (by first | omega | (constructor <;> omega) | kernel_rfl) ?_)
      refine CallW.mk (c1) ?_
      try simp (config := { maxSteps := 10000000 }) only [go_sem, reduceIte, reduceCtorEq, Nat.reduceEqDiff, Nat.reduceLT, Nat.reduceLeDiff, Nat.reduceAdd, Nat.reduceBEq, Nat.reduceMul, Int.reduceToNat, Int.reduceLE, Int.reduceLT, Int.reduceEq, Int.reduceNeg]
      have c2 := l02Div_fn b (Nat.gcd a b) hg0 (by omega) (by omega)
      rw [← m2] at c2
      repeat (refine And.intro (by first | omega | (constructor <;> omega) | kernel_rfl) ?_)
      refine CallW.mk (c2) ?_
      try simp (config := { maxSteps := 10000000 }) only [go_sem, reduceIte, reduceCtorEq, Nat.reduceEqDiff, Nat.reduceLT, Nat.reduceLeDiff, Nat.reduceAdd, Nat.reduceBEq, Nat.reduceMul, Int.reduceToNat, Int.reduceLE, Int.reduceLT, Int.reduceEq, Int.reduceNeg]
      try simp (config := { maxSteps := 10000000 }) only [go_sem, reduceIte, reduceCtorEq, Nat.reduceEqDiff, Nat.reduceLT, Nat.reduceLeDiff, Nat.reduceAdd, Nat.reduceBEq, Nat.reduceMul, Int.reduceToNat, Int.reduceLE, Int.reduceLT, Int.reduceEq, Int.reduceNeg, hA]
    · rw [capR_none (by unfold small; omega)]
      refine fn_enter tabOK mixes Tryz.func145 rfl rfl _ Tryz.ntmps145 _ Tryz.results145 (by simp) fun hwf => ?_
      try simp (config := { maxSteps := 10000000 }) only [go_sem, reduceIte, reduceCtorEq, Nat.reduceEqDiff, Nat.reduceLT, Nat.reduceLeDiff, Nat.reduceAdd, Nat.reduceBEq, Nat.reduceMul, Int.reduceToNat, Int.reduceLE, Int.reduceLT, Int.reduceEq, Int.reduceNeg]
      repeat (refine And.intro (by first | omega | (constructor <;> omega) | kernel_rfl) ?_)
      refine CallW.mk (ht1) ?_
      try simp (config := { maxSteps := 10000000 }) only [go_sem, reduceIte, reduceCtorEq, Nat.reduceEqDiff, Nat.reduceLT, Nat.reduceLeDiff, Nat.reduceAdd, Nat.reduceBEq, Nat.reduceMul, Int.reduceToNat, Int.reduceLE, Int.reduceLT, Int.reduceEq, Int.reduceNeg]
      repeat (refine And.intro (by first | omega | (constructor <;> omega) | kernel_rfl) ?_)
      refine CallW.mk (ht2) ?_
      try simp (config := { maxSteps := 10000000 }) only [go_sem, reduceIte, reduceCtorEq, Nat.reduceEqDiff, Nat.reduceLT, Nat.reduceLeDiff, Nat.reduceAdd, Nat.reduceBEq, Nat.reduceMul, Int.reduceToNat, Int.reduceLE, Int.reduceLT, Int.reduceEq, Int.reduceNeg]
      try simp (config := { maxSteps := 10000000 }) only [go_sem, reduceIte, reduceCtorEq, Nat.reduceEqDiff, Nat.reduceLT, Nat.reduceLeDiff, Nat.reduceAdd, Nat.reduceBEq, Nat.reduceMul, Int.reduceToNat, Int.reduceLE, Int.reduceLT, Int.reduceEq, Int.reduceNeg, hb0]
      repeat (refine And.intro (by first | omega | (constructor <;> omega) | kernel_rfl) ?_)
      refine CallW.mk (l04One_fn b) ?_
      try simp (config := { maxSteps := 10000000 }) only [go_sem, reduceIte, reduceCtorEq, Nat.reduceEqDiff, Nat.reduceLT, Nat.reduceLeDiff, Nat.reduceAdd, Nat.reduceBEq, Nat.reduceMul, Int.reduceToNat, Int.reduceLE, Int.reduceLT, Int.reduceEq, Int.reduceNeg]
      try simp (config := { maxSteps := 10000000 }) only [go_sem, reduceIte, reduceCtorEq, Nat.reduceEqDiff, Nat.reduceLT, Nat.reduceLeDiff, Nat.reduceAdd, Nat.reduceBEq, Nat.reduceMul, Int.reduceToNat, Int.reduceLE, Int.reduceLT, Int.reduceEq, Int.reduceNeg, hd]
      repeat (refine And.intro (by first | omega | (constructor <;> omega) | kernel_rfl) ?_)
      refine CallW.mk (l02Gcd_fn a b (by omega) (by omega)) ?_
      try simp (config := { maxSteps := 10000000 }) only [go_sem, reduceIte, reduceCtorEq, Nat.reduceEqDiff, Nat.reduceLT, Nat.reduceLeDiff, Nat.reduceAdd, Nat.reduceBEq, Nat.reduceMul, Int.reduceToNat, Int.reduceLE, Int.reduceLT, Int.reduceEq, Int.reduceNeg]
      repeat (refine And.intro (by first | omega | (constructor <;> omega) | kernel_rfl) ?_)
      refine CallW.mk (l04One_fn (Nat.gcd a b)) ?_
      try simp (config := { maxSteps := 10000000 }) only [go_sem, reduceIte, reduceCtorEq, Nat.reduceEqDiff, Nat.reduceLT, Nat.reduceLeDiff, Nat.reduceAdd, Nat.reduceBEq, Nat.reduceMul, Int.reduceToNat, Int.reduceLE, Int.reduceLT, Int.reduceEq, Int.reduceNeg]
      try simp (config := { maxSteps := 10000000 }) only [go_sem, reduceIte, reduceCtorEq, Nat.reduceEqDiff, Nat.reduceLT, Nat.reduceLeDiff, Nat.reduceAdd, Nat.reduceBEq, Nat.reduceMul, Int.reduceToNat, Int.reduceLE, Int.reduceLT, Int.reduceEq, Int.reduceNeg, hd2]
      have c1 := l02Div_fn a (Nat.gcd a b) hg0 (by omega) (by omega)
      rw [← m1] at c1
      repeat (refine And.intro (by first | omega | (constructor <;> omega) | kernel_rfl) ?_)
      refine CallW.mk (c1) ?_
      try simp (config := { maxSteps := 10000000 }) only [go_sem, reduceIte, reduceCtorEq, Nat.reduceEqDiff, Nat.reduceLT, Nat.reduceLeDiff, Nat.reduceAdd, Nat.reduceBEq, Nat.reduceMul, Int.reduceToNat, Int.reduceLE, Int.reduceLT, Int.reduceEq, Int.reduceNeg]
      have c2 := l02Div_fn b (Nat.gcd a b) hg0 (by omega) (by omega)
      rw [← m2] at c2
      repeat (refine And.intro (by first | omega | (constructor <;> omega) | kernel_rfl) ?_)
      refine CallW.mk (c2) ?_
      try simp (config := { maxSteps := 10000000 }) only [go_sem, reduceIte, reduceCtorEq, Nat.reduceEqDiff, Nat.reduceLT, Nat.reduceLeDiff, Nat.reduceAdd, Nat.reduceBEq, Nat.reduceMul, Int.reduceToNat, Int.reduceLE, Int.reduceLT, Int.reduceEq, Int.reduceNeg]
      try simp (config := { maxSteps := 10000000 }) only [go_sem, reduceIte, reduceCtorEq, Nat.reduceEqDiff, Nat.reduceLT, Nat.reduceLeDiff, Nat.reduceAdd, Nat.reduceBEq, Nat.reduceMul, Int.reduceToNat, Int.reduceLE, Int.reduceLT, Int.reduceEq, Int.reduceNeg, hA, hB]
end Go.Proofs.YtgffgcpcjpjfgaaGreat.DW

/-
  Fractions: sums, products, comparisons.
-/
namespace Go.Proofs.YtgffgcpcjpjfgaaGreat.DW
open Go.RowKit
attribute [go_sem] Option.isSome_none bigD_nat
theorem isGood_n : Fn Tryz.prog 100 [⟨tRat, ((false, []), [])⟩] false [⟨.bool, false⟩] := isGood_fn none
theorem isGood_s (q : Rat) : Fn Tryz.prog 100 [⟨tRat, ratD q⟩] false [⟨.bool, true⟩] := isGood_fn (some q)
theorem ratCmp_fn (x y : Option Rat) (hx : okO x) (hy : okO y) : Fn Tryz.prog 164 [⟨tRat, oD x⟩, ⟨tRat, oD y⟩] false [⟨.int, cmpO x y⟩] := by
  cases x with
  | none =>
    refine fn_enter tabOK mixes Tryz.func164 rfl rfl _ Tryz.ntmps164 _ Tryz.results164 (by simp) fun hwf => ?_
    try simp (config := { maxSteps := 10000000 }) only [go_sem, reduceIte, reduceCtorEq, Nat.reduceEqDiff, Nat.reduceLT, Nat.reduceLeDiff, Nat.reduceAdd, Nat.reduceBEq, Nat.reduceMul, Int.reduceToNat, Int.reduceLE, Int.reduceLT, Int.reduceEq, Int.reduceNeg]
    repeat (refine And.intro (by first | omega | (constructor <;> omega) | kernel_rfl) ?_)
    refine CallW.mk (isGood_n) ?_
    try simp (config := { maxSteps := 10000000 }) only [go_sem, reduceIte, reduceCtorEq, Nat.reduceEqDiff, Nat.reduceLT, Nat.reduceLeDiff, Nat.reduceAdd, Nat.reduceBEq, Nat.reduceMul, Int.reduceToNat, Int.reduceLE, Int.reduceLT, Int.reduceEq, Int.reduceNeg]
    rfl
  | some p =>
    cases y with
    | none =>
      refine fn_enter tabOK mixes Tryz.func164 rfl rfl _ Tryz.ntmps164 _ Tryz.results164 (by simp) fun hwf => ?_
      try simp (config := { maxSteps := 10000000 }) only [go_sem, reduceIte, reduceCtorEq, Nat.reduceEqDiff, Nat.reduceLT, Nat.reduceLeDiff, Nat.reduceAdd, Nat.reduceBEq, Nat.reduceMul, Int.reduceToNat, Int.reduceLE, Int.reduceLT, Int.reduceEq, Int.reduceNeg]
      repeat (refine And.intro (by first | omega | (constructor <;> omega) | kernel_rfl) ?_)
      refine CallW.mk (isGood_s p) ?_
      try simp (config := { maxSteps := 10000000 }) only [go_sem, reduceIte, reduceCtorEq, Nat.reduceEqDiff, Nat.reduceLT, Nat.reduceLeDiff, Nat.reduceAdd, Nat.reduceBEq, Nat.reduceMul, Int.reduceToNat, Int.reduceLE, Int.reduceLT, Int.reduceEq, Int.reduceNeg]
      repeat (refine And.intro (by first | omega | (constructor <;> omega) | kernel_rfl) ?_)
      refine CallW.mk (isGood_n) ?_
      try simp (config := { maxSteps := 10000000 }) only [go_sem, reduceIte, reduceCtorEq, Nat.reduceEqDiff, Nat.reduceLT, Nat.reduceLeDiff, Nat.reduceAdd, Nat.reduceBEq, Nat.reduceMul, Int.reduceToNat, Int.reduceLE, Int.reduceLT, Int.reduceEq, Int.reduceNeg]
      rfl
    | some q =>
      obtain ⟨p1, p2⟩ := hx p rfl
      obtain ⟨q1, q2⟩ := hy q rfl
      refine fn_enter tabOK mixes Tryz.func164 rfl rfl _ Tryz.ntmps164 _ Tryz.results164 (by simp) fun hwf => ?_
      try simp (config := { maxSteps := 10000000 }) only [go_sem, reduceIte, reduceCtorEq, Nat.reduceEqDiff, Nat.reduceLT, Nat.reduceLeDiff, Nat.reduceAdd, Nat.reduceBEq, Nat.reduceMul, Int.reduceToNat, Int.reduceLE, Int.reduceLT, Int.reduceEq, Int.reduceNeg]
      repeat (refine And.intro (by first | omega | (constructor <;> omega) | kernel_rfl) ?_)
      refine CallW.mk (isGood_s p) ?_
      try simp (config := { maxSteps := 10000000 }) only [go_sem, reduceIte, reduceCtorEq, Nat.reduceEqDiff, Nat.reduceLT, Nat.reduceLeDiff, Nat.reduceAdd, Nat.reduceBEq, Nat.reduceMul, Int.reduceToNat, Int.reduceLE, Int.reduceLT, Int.reduceEq, Int.reduceNeg]
      repeat (refine And.intro (by first | omega | (constructor <;> omega) | kernel_rfl) ?_)
      refine CallW.mk (isGood_s q) ?_
      try simp (config := { maxSteps := 10000000 }) only [go_sem, reduceIte, reduceCtorEq, Nat.reduceEqDiff, Nat.reduceLT, Nat.reduceLeDiff, Nat.reduceAdd, Nat.reduceBEq, Nat.reduceMul, Int.reduceToNat, Int.reduceLE, Int.reduceLT, Int.reduceEq, Int.reduceNeg]
      repeat (refine And.intro (by first | omega | (constructor <;> omega) | kernel_rfl) ?_)
      refine CallW.mk (bigMulN_fn p.num q.den (by omega) (by omega)) ?_
      try simp (config := { maxSteps := 10000000 }) only [go_sem, reduceIte, reduceCtorEq, Nat.reduceEqDiff, Nat.reduceLT, Nat.reduceLeDiff, Nat.reduceAdd, Nat.reduceBEq, Nat.reduceMul, Int.reduceToNat, Int.reduceLE, Int.reduceLT, Int.reduceEq, Int.reduceNeg]
      repeat (refine And.intro (by first | omega | (constructor <;> omega) | kernel_rfl) ?_)
      refine CallW.mk (bigMulN_fn q.num p.den (by omega) (by omega)) ?_
      try simp (config := { maxSteps := 10000000 }) only [go_sem, reduceIte, reduceCtorEq, Nat.reduceEqDiff, Nat.reduceLT, Nat.reduceLeDiff, Nat.reduceAdd, Nat.reduceBEq, Nat.reduceMul, Int.reduceToNat, Int.reduceLE, Int.reduceLT, Int.reduceEq, Int.reduceNeg]
      repeat (refine And.intro (by first | omega | (constructor <;> omega) | kernel_rfl) ?_)
      refine CallW.mk (bigCmp_fn (p.num * q.den) (q.num * p.den)) ?_
      try simp (config := { maxSteps := 10000000 }) only [go_sem, reduceIte, reduceCtorEq, Nat.reduceEqDiff, Nat.reduceLT, Nat.reduceLeDiff, Nat.reduceAdd, Nat.reduceBEq, Nat.reduceMul, Int.reduceToNat, Int.reduceLE, Int.reduceLT, Int.reduceEq, Int.reduceNeg]
      repeat (refine And.intro (by first | omega | (constructor <;> omega) | kernel_rfl) ?_)
      exact (cmpQ_eq p q).symm
theorem nl_mulZ (a : Int) (n : Nat) : nl (a * (n : Int)).natAbs ≤ nl a.natAbs + nl n := by
  rw [Int.natAbs_mul, Int.natAbs_natCast]; exact nl_mul _ _
theorem nl_addZ (a b : Int) : nl (a + b).natAbs ≤ max (nl a.natAbs) (nl b.natAbs) + 1 := Nat.le_trans (nl_mono (Int.natAbs_add_le a b)) (nl_add _ _)
theorem nl_mulI (a b : Int) : nl (a * b).natAbs ≤ nl a.natAbs + nl b.natAbs := by
  rw [Int.natAbs_mul]; exact nl_mul _ _
theorem den_mul_ne (p q : Rat) : p.den * q.den ≠ 0 := Nat.mul_ne_zero p.den_nz q.den_nz
theorem ratAdd_fn (x y : Option Rat) (hx : okO x) (hy : okO y) : Fn Tryz.prog 53 [⟨tRat, oD x⟩, ⟨tRat, oD y⟩] true [⟨tRat, oD (addO x y)⟩] := by
  cases x with
  | none =>
    refine fn_enter tabOK mixes Tryz.func53 rfl rfl _ Tryz.ntmps53 _ Tryz.results53 (by simp) fun hwf => ?_
    try simp (config := { maxSteps := 10000000 }) only [go_sem, reduceIte, reduceCtorEq, Nat.reduceEqDiff, Nat.reduceLT, Nat.reduceLeDiff, Nat.reduceAdd, Nat.reduceBEq, Nat.reduceMul, Int.reduceToNat, Int.reduceLE, Int.reduceLT, Int.reduceEq, Int.reduceNeg]
    repeat (refine And.intro (by first | omega | (constructor <;> omega) | kernel_rfl) ?_)
    refine CallW.mk (isGood_n) ?_
    try simp (config := { maxSteps := 10000000 }) only [go_sem, reduceIte, reduceCtorEq, Nat.reduceEqDiff, Nat.reduceLT, Nat.reduceLeDiff, Nat.reduceAdd, Nat.reduceBEq, Nat.reduceMul, Int.reduceToNat, Int.reduceLE, Int.reduceLT, Int.reduceEq, Int.reduceNeg]
    try simp (config := { maxSteps := 10000000 }) only [go_sem, reduceIte, reduceCtorEq, Nat.reduceEqDiff, Nat.reduceLT, Nat.reduceLeDiff, Nat.reduceAdd, Nat.reduceBEq, Nat.reduceMul, Int.reduceToNat, Int.reduceLE, Int.reduceLT, Int.reduceEq, Int.reduceNeg, addO]
  | some p =>
    cases y with
    | none =>
      refine fn_enter tabOK mixes Tryz.func53 rfl rfl _ Tryz.ntmps53 _ Tryz.results53 (by simp) fun hwf => ?_
      try simp (config := { maxSteps := 10000000 }) only [go_sem, reduceIte, reduceCtorEq, Nat.reduceEqDiff, Nat.reduceLT, Nat.reduceLeDiff, Nat.reduceAdd, Nat.reduceBEq, Nat.reduceMul, Int.reduceToNat, Int.reduceLE, Int.reduceLT, Int.reduceEq, Int.reduceNeg]
      repeat (refine And.intro (by first | omega | (constructor <;> omega) | kernel_rfl) ?_)
      refine CallW.mk (isGood_s p) ?_
      try simp (config := { maxSteps := 10000000 }) only [go_sem, reduceIte, reduceCtorEq, Nat.reduceEqDiff, Nat.reduceLT, Nat.reduceLeDiff, Nat.reduceAdd, Nat.reduceBEq, Nat.reduceMul, Int.reduceToNat, Int.reduceLE, Int.reduceLT, Int.reduceEq, Int.reduceNeg]
      repeat (refine And.intro (by first | omega | (constructor <;> omega) | kernel_rfl) ?_)
      refine CallW.mk (isGood_n) ?_
      try simp (config := { maxSteps := 10000000 }) only [go_sem, reduceIte, reduceCtorEq, Nat.reduceEqDiff, Nat.reduceLT, Nat.reduceLeDiff, Nat.reduceAdd, Nat.reduceBEq, Nat.reduceMul, Int.reduceToNat, Int.reduceLE, Int.reduceLT, Int.reduceEq, Int.reduceNeg]
      try simp (config := { maxSteps := 10000000 }) only [go_sem, reduceIte, reduceCtorEq, Nat.reduceEqDiff, Nat.reduceLT, Nat.reduceLeDiff, Nat.reduceAdd, Nat.reduceBEq, Nat.reduceMul, Int.reduceToNat, Int.reduceLE, Int.reduceLT, Int.reduceEq, Int.reduceNeg, addO]
    | some q =>
      obtain ⟨p1, p2⟩ := hx p rfl
      obtain ⟨q1, q2⟩ := hy q rfl
      have b1 := nl_mulZ p.num q.den
      have b2 := nl_mulZ q.num p.den
      have b3 := nl_addZ (p.num * q.den) (q.num * p.den)
      have b4 := nl_mul p.den q.den
      have hm := ratMake_end (p.num * q.den + q.num * p.den) (p.den * q.den) (den_mul_ne p q) (by omega) (by omega)
      rw [← add_mk] at hm
      have e : addO (some p) (some q) = capR (p + q) := rfl
      rw [e]
      refine fn_enter tabOK mixes Tryz.func53 rfl rfl _ Tryz.ntmps53 _ Tryz.results53 (by simp) fun hwf => ?_
      try simp (config := { maxSteps := 10000000 }) only [go_sem, reduceIte, reduceCtorEq, Nat.reduceEqDiff, Nat.reduceLT, Nat.reduceLeDiff, Nat.reduceAdd, Nat.reduceBEq, Nat.reduceMul, Int.reduceToNat, Int.reduceLE, Int.reduceLT, Int.reduceEq, Int.reduceNeg]
      repeat (refine And.intro (by first | omega | (constructor <;> omega) | kernel_rfl) ?_)
      refine CallW.mk (isGood_s p) ?_
      try simp (config := { maxSteps := 10000000 }) only [go_sem, reduceIte, reduceCtorEq, Nat.reduceEqDiff, Nat.reduceLT, Nat.reduceLeDiff, Nat.reduceAdd, Nat.reduceBEq, Nat.reduceMul, Int.reduceToNat, Int.reduceLE, Int.reduceLT, Int.reduceEq, Int.reduceNeg]
      repeat (refine And.intro (by first | omega | (constructor <;> omega) | kernel_rfl) ?_)
      refine CallW.mk (isGood_s q) ?_
      try simp (config := { maxSteps := 10000000 }) only [go_sem, reduceIte, reduceCtorEq, Nat.reduceEqDiff, Nat.reduceLT, Nat.reduceLeDiff, Nat.reduceAdd, Nat.reduceBEq, Nat.reduceMul, Int.reduceToNat, Int.reduceLE, Int.reduceLT, Int.reduceEq, Int.reduceNeg]
      repeat (refine And.intro (by first | omega | (constructor <;> omega) | kernel_rfl) ?_)
      refine CallW.mk (bigMulN_fn p.num q.den (by omega) (by omega)) ?_
      try simp (config := { maxSteps := 10000000 }) only [go_sem, reduceIte, reduceCtorEq, Nat.reduceEqDiff, Nat.reduceLT, Nat.reduceLeDiff, Nat.reduceAdd, Nat.reduceBEq, Nat.reduceMul, Int.reduceToNat, Int.reduceLE, Int.reduceLT, Int.reduceEq, Int.reduceNeg]
      repeat (refine And.intro (by first | omega | (constructor <;> omega) | kernel_rfl) ?_)
      refine CallW.mk (bigMulN_fn q.num p.den (by omega) (by omega)) ?_
      try simp (config := { maxSteps := 10000000 }) only [go_sem, reduceIte, reduceCtorEq, Nat.reduceEqDiff, Nat.reduceLT, Nat.reduceLeDiff, Nat.reduceAdd, Nat.reduceBEq, Nat.reduceMul, Int.reduceToNat, Int.reduceLE, Int.reduceLT, Int.reduceEq, Int.reduceNeg]
      repeat (refine And.intro (by first | omega | (constructor <;> omega) | kernel_rfl) ?_)
      refine CallW.mk (bigAdd_fn (p.num * q.den) (q.num * p.den) (by omega) (by omega)) ?_
      try simp (config := { maxSteps := 10000000 }) only [go_sem, reduceIte, reduceCtorEq, Nat.reduceEqDiff, Nat.reduceLT, Nat.reduceLeDiff, Nat.reduceAdd, Nat.reduceBEq, Nat.reduceMul, Int.reduceToNat, Int.reduceLE, Int.reduceLT, Int.reduceEq, Int.reduceNeg]
      repeat (refine And.intro (by first | omega | (constructor <;> omega) | kernel_rfl) ?_)
      refine CallW.mk (natMul_fn p.den q.den (by omega) (by omega)) ?_
      try simp (config := { maxSteps := 10000000 }) only [go_sem, reduceIte, reduceCtorEq, Nat.reduceEqDiff, Nat.reduceLT, Nat.reduceLeDiff, Nat.reduceAdd, Nat.reduceBEq, Nat.reduceMul, Int.reduceToNat, Int.reduceLE, Int.reduceLT, Int.reduceEq, Int.reduceNeg]
      repeat (refine And.intro (by first | omega | (constructor <;> omega) | kernel_rfl) ?_)
      refine CallW.mk (hm) ?_
      try simp (config := { maxSteps := 10000000 }) only [go_sem, reduceIte, reduceCtorEq, Nat.reduceEqDiff, Nat.reduceLT, Nat.reduceLeDiff, Nat.reduceAdd, Nat.reduceBEq, Nat.reduceMul, Int.reduceToNat, Int.reduceLE, Int.reduceLT, Int.reduceEq, Int.reduceNeg]
      all_goals repeat (refine And.intro (by first | omega | (constructor <;> omega) | kernel_rfl) ?_)
      all_goals first | kernel_rfl | omega | rfl
theorem ratNeg_fn (x : Option Rat) : Fn Tryz.prog 166 [⟨tRat, oD x⟩] false [⟨tRat, oD (negO x)⟩] := by
  cases x with
  | none =>
    have hb := bigNeg_fn 0
    rw [Int.neg_zero, bigD_zero] at hb
    refine fn_enter tabOK mixes Tryz.func166 rfl rfl _ Tryz.ntmps166 _ Tryz.results166 (by simp) fun hwf => ?_
    try simp (config := { maxSteps := 10000000 }) only [go_sem, reduceIte, reduceCtorEq, Nat.reduceEqDiff, Nat.reduceLT, Nat.reduceLeDiff, Nat.reduceAdd, Nat.reduceBEq, Nat.reduceMul, Int.reduceToNat, Int.reduceLE, Int.reduceLT, Int.reduceEq, Int.reduceNeg]
    repeat (refine And.intro (by first | omega | (constructor <;> omega) | kernel_rfl) ?_)
    refine CallW.mk (hb) ?_
    try simp (config := { maxSteps := 10000000 }) only [go_sem, reduceIte, reduceCtorEq, Nat.reduceEqDiff, Nat.reduceLT, Nat.reduceLeDiff, Nat.reduceAdd, Nat.reduceBEq, Nat.reduceMul, Int.reduceToNat, Int.reduceLE, Int.reduceLT, Int.reduceEq, Int.reduceNeg]
    try simp (config := { maxSteps := 10000000 }) only [go_sem, reduceIte, reduceCtorEq, Nat.reduceEqDiff, Nat.reduceLT, Nat.reduceLeDiff, Nat.reduceAdd, Nat.reduceBEq, Nat.reduceMul, Int.reduceToNat, Int.reduceLE, Int.reduceLT, Int.reduceEq, Int.reduceNeg, negO]
    all_goals repeat (refine And.intro (by first | omega | (constructor <;> omega) | kernel_rfl) ?_)
    all_goals first | kernel_rfl | omega | rfl
  | some p =>
    refine fn_enter tabOK mixes Tryz.func166 rfl rfl _ Tryz.ntmps166 _ Tryz.results166 (by simp) fun hwf => ?_
    try simp (config := { maxSteps := 10000000 }) only [go_sem, reduceIte, reduceCtorEq, Nat.reduceEqDiff, Nat.reduceLT, Nat.reduceLeDiff, Nat.reduceAdd, Nat.reduceBEq, Nat.reduceMul, Int.reduceToNat, Int.reduceLE, Int.reduceLT, Int.reduceEq, Int.reduceNeg]
    repeat (refine And.intro (by first | omega | (constructor <;> omega) | kernel_rfl) ?_)
    refine CallW.mk (bigNeg_fn p.num) ?_
    try simp (config := { maxSteps := 10000000 }) only [go_sem, reduceIte, reduceCtorEq, Nat.reduceEqDiff, Nat.reduceLT, Nat.reduceLeDiff, Nat.reduceAdd, Nat.reduceBEq, Nat.reduceMul, Int.reduceToNat, Int.reduceLE, Int.reduceLT, Int.reduceEq, Int.reduceNeg]
    try simp (config := { maxSteps := 10000000 }) only [go_sem, reduceIte, reduceCtorEq, Nat.reduceEqDiff, Nat.reduceLT, Nat.reduceLeDiff, Nat.reduceAdd, Nat.reduceBEq, Nat.reduceMul, Int.reduceToNat, Int.reduceLE, Int.reduceLT, Int.reduceEq, Int.reduceNeg, negO, Rat.neg_num, Rat.neg_den]
    all_goals repeat (refine And.intro (by first | omega | (constructor <;> omega) | kernel_rfl) ?_)
    all_goals first | kernel_rfl | omega | rfl
theorem ratSub_fn (x y : Option Rat) (hx : okO x) (hy : okO y) : Fn Tryz.prog 107 [⟨tRat, oD x⟩, ⟨tRat, oD y⟩] true [⟨tRat, oD (subO x y)⟩] := by
  show Fn _ _ _ _ [⟨tRat, oD (addO x (negO y))⟩]
  have h1 := ratNeg_fn y
  have h2 := ratAdd_fn x (negO y) hx (okO_neg hy)
  refine fn_enter tabOK mixes Tryz.func107 rfl rfl _ Tryz.ntmps107 _ Tryz.results107 (by simp) fun hwf => ?_
  try simp (config := { maxSteps := 10000000 }) only [go_sem, reduceIte, reduceCtorEq, Nat.reduceEqDiff, Nat.reduceLT, Nat.reduceLeDiff, Nat.reduceAdd, Nat.reduceBEq, Nat.reduceMul, Int.reduceToNat, Int.reduceLE, Int.reduceLT, Int.reduceEq, Int.reduceNeg]
  repeat (refine And.intro (by first | omega | (constructor <;> omega) | kernel_rfl) ?_)
  refine CallW.mk (h1) ?_
  try simp (config := { maxSteps := 10000000 }) only [go_sem, reduceIte, reduceCtorEq, Nat.reduceEqDiff, Nat.reduceLT, Nat.reduceLeDiff, Nat.reduceAdd, Nat.reduceBEq, Nat.reduceMul, Int.reduceToNat, Int.reduceLE, Int.reduceLT, Int.reduceEq, Int.reduceNeg]
  repeat (refine And.intro (by first | omega | (constructor <;> omega) | kernel_rfl) ?_)
  refine CallW.mk (h2) ?_
  try simp (config := { maxSteps := 10000000 }) only [go_sem, reduceIte, reduceCtorEq, Nat.reduceEqDiff, Nat.reduceLT, Nat.reduceLeDiff, Nat.reduceAdd, Nat.reduceBEq, Nat.reduceMul, Int.reduceToNat, Int.reduceLE, Int.reduceLT, Int.reduceEq, Int.reduceNeg]
  all_goals repeat (refine And.intro (by first | omega | (constructor <;> omega) | kernel_rfl) ?_)
  all_goals first | kernel_rfl | omega | rfl
theorem cmpQ_zero (p : Rat) : cmpQ p 0 = cmpZ p.num 0 := by
  rw [cmpQ_eq]
  simp
theorem ratSign_fn (x : Option Rat) : Fn Tryz.prog 165 [⟨tRat, oD x⟩] false [⟨.int, sgnO x⟩] := by
  cases x with
  | none =>
    refine fn_enter tabOK mixes Tryz.func165 rfl rfl _ Tryz.ntmps165 _ Tryz.results165 (by simp) fun hwf => ?_
    try simp (config := { maxSteps := 10000000 }) only [go_sem, reduceIte, reduceCtorEq, Nat.reduceEqDiff, Nat.reduceLT, Nat.reduceLeDiff, Nat.reduceAdd, Nat.reduceBEq, Nat.reduceMul, Int.reduceToNat, Int.reduceLE, Int.reduceLT, Int.reduceEq, Int.reduceNeg]
    repeat (refine And.intro (by first | omega | (constructor <;> omega) | kernel_rfl) ?_)
    refine CallW.mk (isGood_n) ?_
    try simp (config := { maxSteps := 10000000 }) only [go_sem, reduceIte, reduceCtorEq, Nat.reduceEqDiff, Nat.reduceLT, Nat.reduceLeDiff, Nat.reduceAdd, Nat.reduceBEq, Nat.reduceMul, Int.reduceToNat, Int.reduceLE, Int.reduceLT, Int.reduceEq, Int.reduceNeg]
    try simp (config := { maxSteps := 10000000 }) only [go_sem, reduceIte, reduceCtorEq, Nat.reduceEqDiff, Nat.reduceLT, Nat.reduceLeDiff, Nat.reduceAdd, Nat.reduceBEq, Nat.reduceMul, Int.reduceToNat, Int.reduceLE, Int.reduceLT, Int.reduceEq, Int.reduceNeg, sgnO]
  | some p =>
    have e : sgnO (some p) = cmpZ p.num 0 := cmpQ_zero p
    rw [e]
    by_cases h0 : (nl p.num.natAbs : Int) = 0
    · have : p.num = 0 := by have := nl_eq_zero.1 (show nl p.num.natAbs = 0 by omega); omega
      refine fn_enter tabOK mixes Tryz.func165 rfl rfl _ Tryz.ntmps165 _ Tryz.results165 (by simp) fun hwf => ?_
      try simp (config := { maxSteps := 10000000 }) only [go_sem, reduceIte, reduceCtorEq, Nat.reduceEqDiff, Nat.reduceLT, Nat.reduceLeDiff, Nat.reduceAdd, Nat.reduceBEq, Nat.reduceMul, Int.reduceToNat, Int.reduceLE, Int.reduceLT, Int.reduceEq, Int.reduceNeg]
      repeat (refine And.intro (by first | omega | (constructor <;> omega) | kernel_rfl) ?_)
      refine CallW.mk (isGood_s p) ?_
      try simp (config := { maxSteps := 10000000 }) only [go_sem, reduceIte, reduceCtorEq, Nat.reduceEqDiff, Nat.reduceLT, Nat.reduceLeDiff, Nat.reduceAdd, Nat.reduceBEq, Nat.reduceMul, Int.reduceToNat, Int.reduceLE, Int.reduceLT, Int.reduceEq, Int.reduceNeg]
      try simp (config := { maxSteps := 10000000 }) only [go_sem, reduceIte, reduceCtorEq, Nat.reduceEqDiff, Nat.reduceLT, Nat.reduceLeDiff, Nat.reduceAdd, Nat.reduceBEq, Nat.reduceMul, Int.reduceToNat, Int.reduceLE, Int.reduceLT, Int.reduceEq, Int.reduceNeg, h0]
      simp [cmpZ, this]
    · have h1 : p.num ≠ 0 := fun h => h0 (by rw [h]; simp [nl_zero])
      by_cases h2 : p.num < 0
      · refine fn_enter tabOK mixes Tryz.func165 rfl rfl _ Tryz.ntmps165 _ Tryz.results165 (by simp) fun hwf => ?_
        try simp (config := { maxSteps := 10000000 }) only [go_sem, reduceIte, reduceCtorEq, Nat.reduceEqDiff, Nat.reduceLT, Nat.reduceLeDiff, Nat.reduceAdd, Nat.reduceBEq, Nat.reduceMul, Int.reduceToNat, Int.reduceLE, Int.reduceLT, Int.reduceEq, Int.reduceNeg]
        repeat (refine And.intro (by first | omega | (constructor <;> omega) | kernel_rfl) ?_)
        refine CallW.mk (isGood_s p) ?_
        try simp (config := { maxSteps := 10000000 }) only [go_sem, reduceIte, reduceCtorEq, Nat.reduceEqDiff, Nat.reduceLT, Nat.reduceLeDiff, Nat.reduceAdd, Nat.reduceBEq, Nat.reduceMul, Int.reduceToNat, Int.reduceLE, Int.reduceLT, Int.reduceEq, Int.reduceNeg]
        try simp (config := { maxSteps := 10000000 }) only [go_sem, reduceIte, reduceCtorEq, Nat.reduceEqDiff, Nat.reduceLT, Nat.reduceLeDiff, Nat.reduceAdd, Nat.reduceBEq, Nat.reduceMul, Int.reduceToNat, Int.reduceLE, Int.reduceLT, Int.reduceEq, Int.reduceNeg, h0, h2]
        simp [cmpZ, h2]
      · have h3 : 0 < p.num := by omega
        refine fn_enter tabOK mixes Tryz.func165 rfl rfl _ Tryz.ntmps165 _ Tryz.results165 (by simp) fun hwf => ?_
        try simp (config := { maxSteps := 10000000 }) only [go_sem, reduceIte, reduceCtorEq, Nat.reduceEqDiff, Nat.reduceLT, Nat.reduceLeDiff, Nat.reduceAdd, Nat.reduceBEq, Nat.reduceMul, Int.reduceToNat, Int.reduceLE, Int.reduceLT, Int.reduceEq, Int.reduceNeg]
        repeat (refine And.intro (by first | omega | (constructor <;> omega) | kernel_rfl) ?_)
        refine CallW.mk (isGood_s p) ?_
        try simp (config := { maxSteps := 10000000 }) only [go_sem, reduceIte, reduceCtorEq, Nat.reduceEqDiff, Nat.reduceLT, Nat.reduceLeDiff, Nat.reduceAdd, Nat.reduceBEq, Nat.reduceMul, Int.reduceToNat, Int.reduceLE, Int.reduceLT, Int.reduceEq, Int.reduceNeg]
        try simp (config := { maxSteps := 10000000 }) only [go_sem, reduceIte, reduceCtorEq, Nat.reduceEqDiff, Nat.reduceLT, Nat.reduceLeDiff, Nat.reduceAdd, Nat.reduceBEq, Nat.reduceMul, Int.reduceToNat, Int.reduceLE, Int.reduceLT, Int.reduceEq, Int.reduceNeg, h0, h2]
        simp [cmpZ, h2, h3]
noncomputable def maxO : Option Rat → Option Rat → Option Rat
  | some p, some q => if 0 ≤ cmpQ p q then some p else some q
  | _, _ => none
noncomputable def minO : Option Rat → Option Rat → Option Rat
  | some p, some q => if cmpQ p q ≤ 0 then some p else some q
  | _, _ => none
theorem okO_max {x y : Option Rat} (hx : okO x) (hy : okO y) : okO (maxO x y) := by
  unfold maxO
  split
  · split
    · exact hx
    · exact hy
  · exact okO_none
theorem okO_min {x y : Option Rat} (hx : okO x) (hy : okO y) : okO (minO x y) := by
  unfold minO
  split
  · split
    · exact hx
    · exact hy
  · exact okO_none
theorem ratMax_fn (x y : Option Rat) (hx : okO x) (hy : okO y) : Fn Tryz.prog 105 [⟨tRat, oD x⟩, ⟨tRat, oD y⟩] false [⟨tRat, oD (maxO x y)⟩] := by
  cases x with
  | none =>
    refine fn_enter tabOK mixes Tryz.func105 rfl rfl _ Tryz.ntmps105 _ Tryz.results105 (by simp) fun hwf => ?_
    try simp (config := { maxSteps := 10000000 }) only [go_sem, reduceIte, reduceCtorEq, Nat.reduceEqDiff, Nat.reduceLT, Nat.reduceLeDiff, Nat.reduceAdd, Nat.reduceBEq, Nat.reduceMul, Int.reduceToNat, Int.reduceLE, Int.reduceLT, Int.reduceEq, Int.reduceNeg]
    repeat (refine And.intro (by first | omega | (constructor <;> omega) | kernel_rfl) ?_)
    refine CallW.mk (isGood_n) ?_
    try simp (config := { maxSteps := 10000000 }) only [go_sem, reduceIte, reduceCtorEq, Nat.reduceEqDiff, Nat.reduceLT, Nat.reduceLeDiff, Nat.reduceAdd, Nat.reduceBEq, Nat.reduceMul, Int.reduceToNat, Int.reduceLE, Int.reduceLT, Int.reduceEq, Int.reduceNeg]
    try simp (config := { maxSteps := 10000000 }) only [go_sem, reduceIte, reduceCtorEq, Nat.reduceEqDiff, Nat.reduceLT, Nat.reduceLeDiff, Nat.reduceAdd, Nat.reduceBEq, Nat.reduceMul, Int.reduceToNat, Int.reduceLE, Int.reduceLT, Int.reduceEq, Int.reduceNeg, maxO]
  | some p =>
    cases y with
    | none =>
      refine fn_enter tabOK mixes Tryz.func105 rfl rfl _ Tryz.ntmps105 _ Tryz.results105 (by simp) fun hwf => ?_
      try simp (config := { maxSteps := 10000000 }) only [go_sem, reduceIte, reduceCtorEq, Nat.reduceEqDiff, Nat.reduceLT, Nat.reduceLeDiff, Nat.reduceAdd, Nat.reduceBEq, Nat.reduceMul, Int.reduceToNat, Int.reduceLE, Int.reduceLT, Int.reduceEq, Int.reduceNeg]
      repeat (refine And.intro (by first | omega | (constructor <;> omega) | kernel_rfl) ?_)
      refine CallW.mk (isGood_s p) ?_
      try simp (config := { maxSteps := 10000000 }) only [go_sem, reduceIte, reduceCtorEq, Nat.reduceEqDiff, Nat.reduceLT, Nat.reduceLeDiff, Nat.reduceAdd, Nat.reduceBEq, Nat.reduceMul, Int.reduceToNat, Int.reduceLE, Int.reduceLT, Int.reduceEq, Int.reduceNeg]
      repeat (refine And.intro (by first | omega | (constructor <;> omega) | kernel_rfl) ?_)
      refine CallW.mk (isGood_n) ?_
      try simp (config := { maxSteps := 10000000 }) only [go_sem, reduceIte, reduceCtorEq, Nat.reduceEqDiff, Nat.reduceLT, Nat.reduceLeDiff, Nat.reduceAdd, Nat.reduceBEq, Nat.reduceMul, Int.reduceToNat, Int.reduceLE, Int.reduceLT, Int.reduceEq, Int.reduceNeg]
      try simp (config := { maxSteps := 10000000 }) only [go_sem, reduceIte, reduceCtorEq, Nat.reduceEqDiff, Nat.reduceLT, Nat.reduceLeDiff, Nat.reduceAdd, Nat.reduceBEq, Nat.reduceMul, Int.reduceToNat, Int.reduceLE, Int.reduceLT, Int.reduceEq, Int.reduceNeg, maxO]
    | some q =>
      have hc := ratCmp_fn (some p) (some q) hx hy
      have e : cmpO (some p) (some q) = cmpQ p q := rfl
      rw [e] at hc
      by_cases h : 0 ≤ cmpQ p q
      · have e2 : maxO (some p) (some q) = some p := if_pos h
        rw [e2]
        refine fn_enter tabOK mixes Tryz.func105 rfl rfl _ Tryz.ntmps105 _ Tryz.results105 (by simp) fun hwf => ?_
        try simp (config := { maxSteps := 10000000 }) only [go_sem, reduceIte, reduceCtorEq, Nat.reduceEqDiff, Nat.reduceLT, Nat.reduceLeDiff, Nat.reduceAdd, Nat.reduceBEq, Nat.reduceMul, Int.reduceToNat, Int.reduceLE, Int.reduceLT, Int.reduceEq, Int.reduceNeg]
        repeat (refine And.intro (by first | omega | (constructor <;> omega) | kernel_rfl) ?_)
        refine CallW.mk (isGood_s p) ?_
        try simp (config := { maxSteps := 10000000 }) only [go_sem, reduceIte, reduceCtorEq, Nat.reduceEqDiff, Nat.reduceLT, Nat.reduceLeDiff, Nat.reduceAdd, Nat.reduceBEq, Nat.reduceMul, Int.reduceToNat, Int.reduceLE, Int.reduceLT, Int.reduceEq, Int.reduceNeg]
        repeat (refine And.intro (by first | omega | (constructor <;> omega) | kernel_rfl) ?_)
        refine CallW.mk (isGood_s q) ?_
        try simp (config := { maxSteps := 10000000 }) only [go_sem, reduceIte, reduceCtorEq, Nat.reduceEqDiff, Nat.reduceLT, Nat.reduceLeDiff, Nat.reduceAdd, Nat.reduceBEq, Nat.reduceMul, Int.reduceToNat, Int.reduceLE, Int.reduceLT, Int.reduceEq, Int.reduceNeg]
        repeat (refine And.intro (by first | omega | (constructor <;> omega) | kernel_rfl) ?_)
        refine CallW.mk (hc) ?_
        try simp (config := { maxSteps := 10000000 }) only [go_sem, reduceIte, reduceCtorEq, Nat.reduceEqDiff, Nat.reduceLT, Nat.reduceLeDiff, Nat.reduceAdd, Nat.reduceBEq, Nat.reduceMul, Int.reduceToNat, Int.reduceLE, Int.reduceLT, Int.reduceEq, Int.reduceNeg]
        try simp (config := { maxSteps := 10000000 }) only [go_sem, reduceIte, reduceCtorEq, Nat.reduceEqDiff, Nat.reduceLT, Nat.reduceLeDiff, Nat.reduceAdd, Nat.reduceBEq, Nat.reduceMul, Int.reduceToNat, Int.reduceLE, Int.reduceLT, Int.reduceEq, Int.reduceNeg, h]
      · have e2 : maxO (some p) (some q) = some q := if_neg h
        rw [e2]
        refine fn_enter tabOK mixes Tryz.func105 rfl rfl _ Tryz.ntmps105 _ Tryz.results105 (by simp) fun hwf => ?_
        try simp (config := { maxSteps := 10000000 }) only [go_sem, reduceIte, reduceCtorEq, Nat.reduceEqDiff, Nat.reduceLT, Nat.reduceLeDiff, Nat.reduceAdd, Nat.reduceBEq, Nat.reduceMul, Int.reduceToNat, Int.reduceLE, Int.reduceLT, Int.reduceEq, Int.reduceNeg]
        repeat (refine And.intro (by first | omega | (constructor <;> omega) | kernel_rfl) ?_)
        refine CallW.mk (isGood_s p) ?_
        try simp (config := { maxSteps := 10000000 }) only [go_sem, reduceIte, reduceCtorEq, Nat.reduceEqDiff, Nat.reduceLT, Nat.reduceLeDiff, Nat.reduceAdd, Nat.reduceBEq, Nat.reduceMul, Int.reduceToNat, Int.reduceLE, Int.reduceLT, Int.reduceEq, Int.reduceNeg]
        repeat (refine And.intro (by first | omega | (constructor <;> omega) | kernel_rfl) ?_)
        refine CallW.mk (isGood_s q) ?_
        try simp (config := { maxSteps := 10000000 }) only [go_sem, reduceIte, reduceCtorEq, Nat.reduceEqDiff, Nat.reduceLT, Nat.reduceLeDiff, Nat.reduceAdd, Nat.reduceBEq, Nat.reduceMul, Int.reduceToNat, Int.reduceLE, Int.reduceLT, Int.reduceEq, Int.reduceNeg]
        repeat (refine And.intro (by first | omega | (constructor <;> omega) | kernel_rfl) ?_)
        refine CallW.mk (hc) ?_
        try simp (config := { maxSteps := 10000000 }) only [go_sem, reduceIte, reduceCtorEq, Nat.reduceEqDiff, Nat.reduceLT, Nat.reduceLeDiff, Nat.reduceAdd, Nat.reduceBEq, Nat.reduceMul, Int.reduceToNat, Int.reduceLE, Int.reduceLT, Int.reduceEq, Int.reduceNeg]
        try simp (config := { maxSteps := 10000000 }) only [go_sem, reduceIte, reduceCtorEq, Nat.reduceEqDiff, Nat.reduceLT, Nat.reduceLeDiff, Nat.reduceAdd, Nat.reduceBEq, Nat.reduceMul, Int.reduceToNat, Int.reduceLE, Int.reduceLT, Int.reduceEq, Int.reduceNeg, h]
theorem ownRat_fn (r : DR) (h1 : r.1.2.length ≤ 16777216) (h2 : r.2.length ≤ 16777216) : Fn Tryz.prog 56 [⟨tRat, r⟩] true [⟨tRat, r⟩] := by
  obtain ⟨⟨s, a⟩, d⟩ := r
  refine fn_enter tabOK mixes Tryz.func56 rfl rfl _ Tryz.ntmps56 _ Tryz.results56 (by simp) fun hwf => ?_
  try simp (config := { maxSteps := 10000000 }) only [go_sem, reduceIte, reduceCtorEq, Nat.reduceEqDiff, Nat.reduceLT, Nat.reduceLeDiff, Nat.reduceAdd, Nat.reduceBEq, Nat.reduceMul, Int.reduceToNat, Int.reduceLE, Int.reduceLT, Int.reduceEq, Int.reduceNeg]
  repeat (refine And.intro (by first | omega | (constructor <;> omega) | kernel_rfl) ?_)
  refine CallW.mk (clone_fn a h1) ?_
  try simp (config := { maxSteps := 10000000 }) only [go_sem, reduceIte, reduceCtorEq, Nat.reduceEqDiff, Nat.reduceLT, Nat.reduceLeDiff, Nat.reduceAdd, Nat.reduceBEq, Nat.reduceMul, Int.reduceToNat, Int.reduceLE, Int.reduceLT, Int.reduceEq, Int.reduceNeg]
  repeat (refine And.intro (by first | omega | (constructor <;> omega) | kernel_rfl) ?_)
  refine CallW.mk (clone_fn d h2) ?_
  try simp (config := { maxSteps := 10000000 }) only [go_sem, reduceIte, reduceCtorEq, Nat.reduceEqDiff, Nat.reduceLT, Nat.reduceLeDiff, Nat.reduceAdd, Nat.reduceBEq, Nat.reduceMul, Int.reduceToNat, Int.reduceLE, Int.reduceLT, Int.reduceEq, Int.reduceNeg]
  all_goals repeat (refine And.intro (by first | omega | (constructor <;> omega) | kernel_rfl) ?_)
  all_goals first | kernel_rfl | omega | rfl
end Go.Proofs.YtgffgcpcjpjfgaaGreat.DW

/-
  Fractions: sums, products, comparisons, of the reference.
-/
namespace Go.Proofs.YtgffgcpcjpjfgaaGreat.DW
open Go.RowKit
theorem sgn_mulN (x : Int) (n : Nat) : sgn (decide (x < 0)) (x.natAbs * n) = x * n := by
  unfold sgn
  by_cases h : x < 0
  · simp only [h, decide_true, if_true, Int.natCast_mul]
    rw [show (x.natAbs : Int) = -x by omega, Int.neg_mul, Int.neg_neg]
  · simp only [h, decide_false, Bool.false_eq_true, if_false, Int.natCast_mul]
    rw [show (x.natAbs : Int) = x by omega]
theorem l04Cmp_fn (p q : Rat) (hp : small p) (hq : small q) : Fn Tryz.prog 147 [⟨tRat, ratD p⟩, ⟨tRat, ratD q⟩] false [⟨.int, cmpQ p q⟩] := by
  obtain ⟨p1, p2⟩ := hp
  obtain ⟨q1, q2⟩ := hq
  have b1 := nl_mul p.num.natAbs q.den
  have b2 := nl_mul q.num.natAbs p.den
  refine fn_enter tabOK mixes Tryz.func147 rfl rfl _ Tryz.ntmps147 _ Tryz.results147 (by simp) fun hwf => ?_
  try simp (config := { maxSteps := 10000000 }) only [go_sem, reduceIte, reduceCtorEq, Nat.reduceEqDiff, Nat.reduceLT, Nat.reduceLeDiff, Nat.reduceAdd, Nat.reduceBEq, Nat.reduceMul, Int.reduceToNat, Int.reduceLE, Int.reduceLT, Int.reduceEq, Int.reduceNeg]
  repeat (refine And.intro (by first | omega | (constructor <;> omega) | kernel_rfl) ?_)
  refine CallW.mk (l02Mul_fn p.num.natAbs q.den (by omega) (by omega)) ?_
  try simp (config := { maxSteps := 10000000 }) only [go_sem, reduceIte, reduceCtorEq, Nat.reduceEqDiff, Nat.reduceLT, Nat.reduceLeDiff, Nat.reduceAdd, Nat.reduceBEq, Nat.reduceMul, Int.reduceToNat, Int.reduceLE, Int.reduceLT, Int.reduceEq, Int.reduceNeg]
  repeat (refine And.intro (by first | omega | (constructor <;> omega) | kernel_rfl) ?_)
  refine CallW.mk (l03Make_to (sgn_mulN p.num q.den) (by omega)) ?_
  try simp (config := { maxSteps := 10000000 }) only [go_sem, reduceIte, reduceCtorEq, Nat.reduceEqDiff, Nat.reduceLT, Nat.reduceLeDiff, Nat.reduceAdd, Nat.reduceBEq, Nat.reduceMul, Int.reduceToNat, Int.reduceLE, Int.reduceLT, Int.reduceEq, Int.reduceNeg]
  repeat (refine And.intro (by first | omega | (constructor <;> omega) | kernel_rfl) ?_)
  refine CallW.mk (l02Mul_fn q.num.natAbs p.den (by omega) (by omega)) ?_
  try simp (config := { maxSteps := 10000000 }) only [go_sem, reduceIte, reduceCtorEq, Nat.reduceEqDiff, Nat.reduceLT, Nat.reduceLeDiff, Nat.reduceAdd, Nat.reduceBEq, Nat.reduceMul, Int.reduceToNat, Int.reduceLE, Int.reduceLT, Int.reduceEq, Int.reduceNeg]
  repeat (refine And.intro (by first | omega | (constructor <;> omega) | kernel_rfl) ?_)
  refine CallW.mk (l03Make_to (sgn_mulN q.num p.den) (by omega)) ?_
  try simp (config := { maxSteps := 10000000 }) only [go_sem, reduceIte, reduceCtorEq, Nat.reduceEqDiff, Nat.reduceLT, Nat.reduceLeDiff, Nat.reduceAdd, Nat.reduceBEq, Nat.reduceMul, Int.reduceToNat, Int.reduceLE, Int.reduceLT, Int.reduceEq, Int.reduceNeg]
  repeat (refine And.intro (by first | omega | (constructor <;> omega) | kernel_rfl) ?_)
  refine CallW.mk (l03Cmp_fn (p.num * q.den) (q.num * p.den)) ?_
  try simp (config := { maxSteps := 10000000 }) only [go_sem, reduceIte, reduceCtorEq, Nat.reduceEqDiff, Nat.reduceLT, Nat.reduceLeDiff, Nat.reduceAdd, Nat.reduceBEq, Nat.reduceMul, Int.reduceToNat, Int.reduceLE, Int.reduceLT, Int.reduceEq, Int.reduceNeg]
  repeat (refine And.intro (by first | omega | (constructor <;> omega) | kernel_rfl) ?_)
  exact (cmpQ_eq p q).symm
theorem l04Copy_fn (r : DR) (h1 : r.1.2.length ≤ 16777216) (h2 : r.2.length ≤ 16777216) : Fn Tryz.prog 148 [⟨tRat, r⟩] true [⟨tRat, r⟩] := by
  obtain ⟨⟨s, a⟩, d⟩ := r
  simp only at h1 h2
  refine fn_enter tabOK mixes Tryz.func148 rfl rfl _ Tryz.ntmps148 _ Tryz.results148 (by simp) fun hwf => ?_
  try simp (config := { maxSteps := 10000000 }) only [go_sem, reduceIte, reduceCtorEq, Nat.reduceEqDiff, Nat.reduceLT, Nat.reduceLeDiff, Nat.reduceAdd, Nat.reduceBEq, Nat.reduceMul, Int.reduceToNat, Int.reduceLE, Int.reduceLT, Int.reduceEq, Int.reduceNeg]
  all_goals repeat (refine And.intro (by first | omega | (constructor <;> omega) | kernel_rfl) ?_)
  all_goals first | kernel_rfl | omega | rfl
theorem copyD_fn (p : Rat) (hp : small p) : Fn Tryz.prog 148 [⟨tRat, ratD p⟩] true [⟨tRat, ratD p⟩] := l04Copy_fn _ (by have := hp.1; show nl p.num.natAbs ≤ _; omega) (by have := hp.2; show nl p.den ≤ _; omega)
theorem specRatMax_fn (r s : DR) : Fn Tryz.prog 94 [⟨tRat, r⟩, ⟨tRat, s⟩] true [⟨tRat, oD (maxO (rdO r) (rdO s))⟩] := by
  cases hr : okR r
  · rw [okR_f hr]
    have e : maxO none (rdO s) = none := rfl
    rw [e]
    refine fn_enter tabOK mixes Tryz.func94 rfl rfl _ Tryz.ntmps94 _ Tryz.results94 (by simp) fun hwf => ?_
    try simp (config := { maxSteps := 10000000 }) only [go_sem, reduceIte, reduceCtorEq, Nat.reduceEqDiff, Nat.reduceLT, Nat.reduceLeDiff, Nat.reduceAdd, Nat.reduceBEq, Nat.reduceMul, Int.reduceToNat, Int.reduceLE, Int.reduceLT, Int.reduceEq, Int.reduceNeg]
    repeat (refine And.intro (by first | omega | (constructor <;> omega) | kernel_rfl) ?_)
    refine CallW.mk (specRatOk_fn r) ?_
    try simp (config := { maxSteps := 10000000 }) only [go_sem, reduceIte, reduceCtorEq, Nat.reduceEqDiff, Nat.reduceLT, Nat.reduceLeDiff, Nat.reduceAdd, Nat.reduceBEq, Nat.reduceMul, Int.reduceToNat, Int.reduceLE, Int.reduceLT, Int.reduceEq, Int.reduceNeg]
    try simp (config := { maxSteps := 10000000 }) only [go_sem, reduceIte, reduceCtorEq, Nat.reduceEqDiff, Nat.reduceLT, Nat.reduceLeDiff, Nat.reduceAdd, Nat.reduceBEq, Nat.reduceMul, Int.reduceToNat, Int.reduceLE, Int.reduceLT, Int.reduceEq, Int.reduceNeg, hr]
  · cases hs : okR s
    · rw [okR_f hs]
      have e : maxO (rdO r) none = none := by unfold maxO; cases rdO r <;> rfl
      rw [e]
      refine fn_enter tabOK mixes Tryz.func94 rfl rfl _ Tryz.ntmps94 _ Tryz.results94 (by simp) fun hwf => ?_
      try simp (config := { maxSteps := 10000000 }) only [go_sem, reduceIte, reduceCtorEq, Nat.reduceEqDiff, Nat.reduceLT, Nat.reduceLeDiff, Nat.reduceAdd, Nat.reduceBEq, Nat.reduceMul, Int.reduceToNat, Int.reduceLE, Int.reduceLT, Int.reduceEq, Int.reduceNeg]
      repeat (refine And.intro (by first | omega | (constructor <;> omega) | kernel_rfl) ?_)
      refine CallW.mk (specRatOk_fn r) ?_
      try simp (config := { maxSteps := 10000000 }) only [go_sem, reduceIte, reduceCtorEq, Nat.reduceEqDiff, Nat.reduceLT, Nat.reduceLeDiff, Nat.reduceAdd, Nat.reduceBEq, Nat.reduceMul, Int.reduceToNat, Int.reduceLE, Int.reduceLT, Int.reduceEq, Int.reduceNeg]
      try simp (config := { maxSteps := 10000000 }) only [go_sem, reduceIte, reduceCtorEq, Nat.reduceEqDiff, Nat.reduceLT, Nat.reduceLeDiff, Nat.reduceAdd, Nat.reduceBEq, Nat.reduceMul, Int.reduceToNat, Int.reduceLE, Int.reduceLT, Int.reduceEq, Int.reduceNeg, hr]
      repeat (refine And.intro (by first | omega | (constructor <;> omega) | kernel_rfl) ?_)
      refine CallW.mk (specRatOk_fn s) ?_
      try simp (config := { maxSteps := 10000000 }) only [go_sem, reduceIte, reduceCtorEq, Nat.reduceEqDiff, Nat.reduceLT, Nat.reduceLeDiff, Nat.reduceAdd, Nat.reduceBEq, Nat.reduceMul, Int.reduceToNat, Int.reduceLE, Int.reduceLT, Int.reduceEq, Int.reduceNeg]
      try simp (config := { maxSteps := 10000000 }) only [go_sem, reduceIte, reduceCtorEq, Nat.reduceEqDiff, Nat.reduceLT, Nat.reduceLeDiff, Nat.reduceAdd, Nat.reduceBEq, Nat.reduceMul, Int.reduceToNat, Int.reduceLE, Int.reduceLT, Int.reduceEq, Int.reduceNeg, hs]
    · obtain ⟨p, hp, rfl, e1⟩ := okR_t hr
      obtain ⟨q, hq, rfl, e2⟩ := okR_t hs
      rw [e1, e2]
      have hr' : okR ((decide (p.num < 0), natL p.num.natAbs), natL p.den) = true := hr
      have hs' : okR ((decide (q.num < 0), natL q.num.natAbs), natL q.den) = true := hs
      by_cases h : 0 ≤ cmpQ p q
      · have e3 : maxO (some p) (some q) = some p := if_pos h
        rw [e3]
        refine fn_enter tabOK mixes Tryz.func94 rfl rfl _ Tryz.ntmps94 _ Tryz.results94 (by simp) fun hwf => ?_
        try simp (config := { maxSteps := 10000000 }) only [go_sem, reduceIte, reduceCtorEq, Nat.reduceEqDiff, Nat.reduceLT, Nat.reduceLeDiff, Nat.reduceAdd, Nat.reduceBEq, Nat.reduceMul, Int.reduceToNat, Int.reduceLE, Int.reduceLT, Int.reduceEq, Int.reduceNeg]
        repeat (refine And.intro (by first | omega | (constructor <;> omega) | kernel_rfl) ?_)
        refine CallW.mk (specRatOk_fn (ratD p)) ?_
        try simp (config := { maxSteps := 10000000 }) only [go_sem, reduceIte, reduceCtorEq, Nat.reduceEqDiff, Nat.reduceLT, Nat.reduceLeDiff, Nat.reduceAdd, Nat.reduceBEq, Nat.reduceMul, Int.reduceToNat, Int.reduceLE, Int.reduceLT, Int.reduceEq, Int.reduceNeg]
        try simp (config := { maxSteps := 10000000 }) only [go_sem, reduceIte, reduceCtorEq, Nat.reduceEqDiff, Nat.reduceLT, Nat.reduceLeDiff, Nat.reduceAdd, Nat.reduceBEq, Nat.reduceMul, Int.reduceToNat, Int.reduceLE, Int.reduceLT, Int.reduceEq, Int.reduceNeg, hr']
        repeat (refine And.intro (by first | omega | (constructor <;> omega) | kernel_rfl) ?_)
        refine CallW.mk (specRatOk_fn (ratD q)) ?_
        try simp (config := { maxSteps := 10000000 }) only [go_sem, reduceIte, reduceCtorEq, Nat.reduceEqDiff, Nat.reduceLT, Nat.reduceLeDiff, Nat.reduceAdd, Nat.reduceBEq, Nat.reduceMul, Int.reduceToNat, Int.reduceLE, Int.reduceLT, Int.reduceEq, Int.reduceNeg]
        try simp (config := { maxSteps := 10000000 }) only [go_sem, reduceIte, reduceCtorEq, Nat.reduceEqDiff, Nat.reduceLT, Nat.reduceLeDiff, Nat.reduceAdd, Nat.reduceBEq, Nat.reduceMul, Int.reduceToNat, Int.reduceLE, Int.reduceLT, Int.reduceEq, Int.reduceNeg, hs']
        repeat (refine And.intro (by first | omega | (constructor <;> omega) | kernel_rfl) ?_)
        refine CallW.mk (l04Cmp_fn p q hp hq) ?_
        try simp (config := { maxSteps := 10000000 }) only [go_sem, reduceIte, reduceCtorEq, Nat.reduceEqDiff, Nat.reduceLT, Nat.reduceLeDiff, Nat.reduceAdd, Nat.reduceBEq, Nat.reduceMul, Int.reduceToNat, Int.reduceLE, Int.reduceLT, Int.reduceEq, Int.reduceNeg]
        try simp (config := { maxSteps := 10000000 }) only [go_sem, reduceIte, reduceCtorEq, Nat.reduceEqDiff, Nat.reduceLT, Nat.reduceLeDiff, Nat.reduceAdd, Nat.reduceBEq, Nat.reduceMul, Int.reduceToNat, Int.reduceLE, Int.reduceLT, Int.reduceEq, Int.reduceNeg, h]
        repeat (refine And.intro (by first | omega | (constructor <;> omega) | kernel_rfl) ?_)
        refine CallW.mk (copyD_fn p hp) ?_
        try simp (config := { maxSteps := 10000000 }) only [go_sem, reduceIte, reduceCtorEq, Nat.reduceEqDiff, Nat.reduceLT, Nat.reduceLeDiff, Nat.reduceAdd, Nat.reduceBEq, Nat.reduceMul, Int.reduceToNat, Int.reduceLE, Int.reduceLT, Int.reduceEq, Int.reduceNeg]
      · have e3 : maxO (some p) (some q) = some q := if_neg h
        rw [e3]
        refine fn_enter tabOK mixes Tryz.func94 rfl rfl _ Tryz.ntmps94 _ Tryz.results94 (by simp) fun hwf => ?_
        try simp (config := { maxSteps := 10000000 }) only [go_sem, reduceIte, reduceCtorEq, Nat.reduceEqDiff, Nat.reduceLT, Nat.reduceLeDiff, Nat.reduceAdd, Nat.reduceBEq, Nat.reduceMul, Int.reduceToNat, Int.reduceLE, Int.reduceLT, Int.reduceEq, Int.reduceNeg]
        repeat (refine And.intro (by first | omega | (constructor <;> omega) | kernel_rfl) ?_)
        refine CallW.mk (specRatOk_fn (ratD p)) ?_
        try simp (config := { maxSteps := 10000000 }) only [go_sem, reduceIte, reduceCtorEq, Nat.reduceEqDiff, Nat.reduceLT, Nat.reduceLeDiff, Nat.reduceAdd, Nat.reduceBEq, Nat.reduceMul, Int.reduceToNat, Int.reduceLE, Int.reduceLT, Int.reduceEq, Int.reduceNeg]
        try simp (config := { maxSteps := 10000000 }) only [go_sem, reduceIte, reduceCtorEq, Nat.reduceEqDiff, Nat.reduceLT, Nat.reduceLeDiff, Nat.reduceAdd, Nat.reduceBEq, Nat.reduceMul, Int.reduceToNat, Int.reduceLE, Int.reduceLT, Int.reduceEq, Int.reduceNeg, hr']
        repeat (refine And.intro (by first | omega | (constructor <;> omega) | kernel_rfl) ?_)
        refine CallW.mk (specRatOk_fn (ratD q)) ?_
        try simp (config := { maxSteps := 10000000 }) only [go_sem, reduceIte, reduceCtorEq, Nat.reduceEqDiff, Nat.reduceLT, Nat.reduceLeDiff, Nat.reduceAdd, Nat.reduceBEq, Nat.reduceMul, Int.reduceToNat, Int.reduceLE, Int.reduceLT, Int.reduceEq, Int.reduceNeg]
        try simp (config := { maxSteps := 10000000 }) only [go_sem, reduceIte, reduceCtorEq, Nat.reduceEqDiff, Nat.reduceLT, Nat.reduceLeDiff, Nat.reduceAdd, Nat.reduceBEq, Nat.reduceMul, Int.reduceToNat, Int.reduceLE, Int.reduceLT, Int.reduceEq, Int.reduceNeg, hs']
        repeat (refine And.intro (by first | omega | (constructor <;> omega) | kernel_rfl) ?_)
        refine CallW.mk (l04Cmp_fn p q hp hq) ?_
        try simp (config := { maxSteps := 10000000 }) only [go_sem, reduceIte, reduceCtorEq, Nat.reduceEqDiff, Nat.reduceLT, Nat.reduceLeDiff, Nat.reduceAdd, Nat.reduceBEq, Nat.reduceMul, Int.reduceToNat, Int.reduceLE, Int.reduceLT, Int.reduceEq, Int.reduceNeg]
        try simp (config := { maxSteps := 10000000 }) only [go_sem, reduceIte, reduceCtorEq, Nat.reduceEqDiff, Nat.reduceLT, Nat.reduceLeDiff, Nat.reduceAdd, Nat.reduceBEq, Nat.reduceMul, Int.reduceToNat, Int.reduceLE, Int.reduceLT, Int.reduceEq, Int.reduceNeg, h]
        repeat (refine And.intro (by first | omega | (constructor <;> omega) | kernel_rfl) ?_)
        refine CallW.mk (copyD_fn q hq) ?_
        try simp (config := { maxSteps := 10000000 }) only [go_sem, reduceIte, reduceCtorEq, Nat.reduceEqDiff, Nat.reduceLT, Nat.reduceLeDiff, Nat.reduceAdd, Nat.reduceBEq, Nat.reduceMul, Int.reduceToNat, Int.reduceLE, Int.reduceLT, Int.reduceEq, Int.reduceNeg]
theorem specRatSign_fn (r : DR) : Fn Tryz.prog 149 [⟨tRat, r⟩] false [⟨.int, sgnO (rdO r)⟩] := by
  cases hr : okR r
  · rw [okR_f hr]
    refine fn_enter tabOK mixes Tryz.func149 rfl rfl _ Tryz.ntmps149 _ Tryz.results149 (by simp) fun hwf => ?_
    try simp (config := { maxSteps := 10000000 }) only [go_sem, reduceIte, reduceCtorEq, Nat.reduceEqDiff, Nat.reduceLT, Nat.reduceLeDiff, Nat.reduceAdd, Nat.reduceBEq, Nat.reduceMul, Int.reduceToNat, Int.reduceLE, Int.reduceLT, Int.reduceEq, Int.reduceNeg]
    repeat (refine And.intro (by first | omega | (constructor <;> omega) | kernel_rfl) ?_)
    refine CallW.mk (specRatOk_fn r) ?_
    try simp (config := { maxSteps := 10000000 }) only [go_sem, reduceIte, reduceCtorEq, Nat.reduceEqDiff, Nat.reduceLT, Nat.reduceLeDiff, Nat.reduceAdd, Nat.reduceBEq, Nat.reduceMul, Int.reduceToNat, Int.reduceLE, Int.reduceLT, Int.reduceEq, Int.reduceNeg]
    try simp (config := { maxSteps := 10000000 }) only [go_sem, reduceIte, reduceCtorEq, Nat.reduceEqDiff, Nat.reduceLT, Nat.reduceLeDiff, Nat.reduceAdd, Nat.reduceBEq, Nat.reduceMul, Int.reduceToNat, Int.reduceLE, Int.reduceLT, Int.reduceEq, Int.reduceNeg, hr]
    rfl
  · obtain ⟨p, hp, rfl, e1⟩ := okR_t hr
    rw [e1]
    have hr' : okR ((decide (p.num < 0), natL p.num.natAbs), natL p.den) = true := hr
    have e : sgnO (some p) = cmpZ p.num 0 := cmpQ_zero p
    rw [e]
    by_cases h0 : (nl p.num.natAbs : Int) = 0
    · have : p.num = 0 := by have := nl_eq_zero.1 (show nl p.num.natAbs = 0 by omega); omega
      refine fn_enter tabOK mixes Tryz.func149 rfl rfl _ Tryz.ntmps149 _ Tryz.results149 (by simp) fun hwf => ?_
      try simp (config := { maxSteps := 10000000 }) only [go_sem, reduceIte, reduceCtorEq, Nat.reduceEqDiff, Nat.reduceLT, Nat.reduceLeDiff, Nat.reduceAdd, Nat.reduceBEq, Nat.reduceMul, Int.reduceToNat, Int.reduceLE, Int.reduceLT, Int.reduceEq, Int.reduceNeg]
      repeat (refine And.intro (by first | omega | (constructor <;> omega) | kernel_rfl) ?_)
      refine CallW.mk (specRatOk_fn (ratD p)) ?_
      try simp (config := { maxSteps := 10000000 }) only [go_sem, reduceIte, reduceCtorEq, Nat.reduceEqDiff, Nat.reduceLT, Nat.reduceLeDiff, Nat.reduceAdd, Nat.reduceBEq, Nat.reduceMul, Int.reduceToNat, Int.reduceLE, Int.reduceLT, Int.reduceEq, Int.reduceNeg]
      try simp (config := { maxSteps := 10000000 }) only [go_sem, reduceIte, reduceCtorEq, Nat.reduceEqDiff, Nat.reduceLT, Nat.reduceLeDiff, Nat.reduceAdd, Nat.reduceBEq, Nat.reduceMul, Int.reduceToNat, Int.reduceLE, Int.reduceLT, Int.reduceEq, Int.reduceNeg, hr']
      try simp (config := { maxSteps := 10000000 }) only [go_sem, reduceIte, reduceCtorEq, Nat.reduceEqDiff, Nat.reduceLT, Nat.reduceLeDiff, Nat.reduceAdd, Nat.reduceBEq, Nat.reduceMul, Int.reduceToNat, Int.reduceLE, Int.reduceLT, Int.reduceEq, Int.reduceNeg, h0]
      simp [cmpZ, this]
    · have h1 : p.num ≠ 0 := fun h => h0 (by rw [h]; simp [nl_zero])
      by_cases h2 : p.num < 0
      · refine fn_enter tabOK mixes Tryz.func149 rfl rfl _ Tryz.ntmps149 _ Tryz.results149 (by simp) fun hwf => ?_
        try simp (config := { maxSteps := 10000000 }) only [go_sem, reduceIte, reduceCtorEq, Nat.reduceEqDiff, Nat.reduceLT, Nat.reduceLeDiff, Nat.reduceAdd, Nat.reduceBEq, Nat.reduceMul, Int.reduceToNat, Int.reduceLE, Int.reduceLT, Int.reduceEq, Int.reduceNeg]
        repeat (refine And.intro (by first | omega | (constructor <;> omega) | kernel_rfl) ?_)
        refine CallW.mk (specRatOk_fn (ratD p)) ?_
        try simp (config := { maxSteps := 10000000 }) only [go_sem, reduceIte, reduceCtorEq, Nat.reduceEqDiff, Nat.reduceLT, Nat.reduceLeDiff, Nat.reduceAdd, Nat.reduceBEq, Nat.reduceMul, Int.reduceToNat, Int.reduceLE, Int.reduceLT, Int.reduceEq, Int.reduceNeg]
        try simp (config := { maxSteps := 10000000 }) only [go_sem, reduceIte, reduceCtorEq, Nat.reduceEqDiff, Nat.reduceLT, Nat.reduceLeDiff, Nat.reduceAdd, Nat.reduceBEq, Nat.reduceMul, Int.reduceToNat, Int.reduceLE, Int.reduceLT, Int.reduceEq, Int.reduceNeg, hr']
        try simp (config := { maxSteps := 10000000 }) only [go_sem, reduceIte, reduceCtorEq, Nat.reduceEqDiff, Nat.reduceLT, Nat.reduceLeDiff, Nat.reduceAdd, Nat.reduceBEq, Nat.reduceMul, Int.reduceToNat, Int.reduceLE, Int.reduceLT, Int.reduceEq, Int.reduceNeg, h0, h2]
        simp [cmpZ, h2]
      · have h3 : 0 < p.num := by omega
        refine fn_enter tabOK mixes Tryz.func149 rfl rfl _ Tryz.ntmps149 _ Tryz.results149 (by simp) fun hwf => ?_
        try simp (config := { maxSteps := 10000000 }) only [go_sem, reduceIte, reduceCtorEq, Nat.reduceEqDiff, Nat.reduceLT, Nat.reduceLeDiff, Nat.reduceAdd, Nat.reduceBEq, Nat.reduceMul, Int.reduceToNat, Int.reduceLE, Int.reduceLT, Int.reduceEq, Int.reduceNeg]
        repeat (refine And.intro (by first | omega | (constructor <;> omega) | kernel_rfl) ?_)
        refine CallW.mk (specRatOk_fn (ratD p)) ?_
        try simp (config := { maxSteps := 10000000 }) only [go_sem, reduceIte, reduceCtorEq, Nat.reduceEqDiff, Nat.reduceLT, Nat.reduceLeDiff, Nat.reduceAdd, Nat.reduceBEq, Nat.reduceMul, Int.reduceToNat, Int.reduceLE, Int.reduceLT, Int.reduceEq, Int.reduceNeg]
        try simp (config := { maxSteps := 10000000 }) only [go_sem, reduceIte, reduceCtorEq, Nat.reduceEqDiff, Nat.reduceLT, Nat.reduceLeDiff, Nat.reduceAdd, Nat.reduceBEq, Nat.reduceMul, Int.reduceToNat, Int.reduceLE, Int.reduceLT, Int.reduceEq, Int.reduceNeg, hr']
        try simp (config := { maxSteps := 10000000 }) only [go_sem, reduceIte, reduceCtorEq, Nat.reduceEqDiff, Nat.reduceLT, Nat.reduceLeDiff, Nat.reduceAdd, Nat.reduceBEq, Nat.reduceMul, Int.reduceToNat, Int.reduceLE, Int.reduceLT, Int.reduceEq, Int.reduceNeg, h0, h2]
        simp [cmpZ, h2, h3]
theorem sgn_negZ (z : Int) : sgn (!decide (z < 0)) z.natAbs = -z := by
  unfold sgn
  by_cases h : z < 0
  · simp [h]; omega
  · simp [h]; omega
theorem l04Neg_fn (p : Rat) (hp : small p) : Fn Tryz.prog 151 [⟨tRat, ratD p⟩] true [⟨tRat, ratD (-p)⟩] := by
  obtain ⟨p1, p2⟩ := hp
  refine fn_enter tabOK mixes Tryz.func151 rfl rfl _ Tryz.ntmps151 _ Tryz.results151 (by simp) fun hwf => ?_
  try simp (config := { maxSteps := 10000000 }) only [go_sem, reduceIte, reduceCtorEq, Nat.reduceEqDiff, Nat.reduceLT, Nat.reduceLeDiff, Nat.reduceAdd, Nat.reduceBEq, Nat.reduceMul, Int.reduceToNat, Int.reduceLE, Int.reduceLT, Int.reduceEq, Int.reduceNeg]
  repeat (refine And.intro (by first | omega | (constructor <;> omega) | kernel_rfl) ?_)
  refine CallW.mk (l03Make_to (sgn_negZ p.num) (by omega)) ?_
  try simp (config := { maxSteps := 10000000 }) only [go_sem, reduceIte, reduceCtorEq, Nat.reduceEqDiff, Nat.reduceLT, Nat.reduceLeDiff, Nat.reduceAdd, Nat.reduceBEq, Nat.reduceMul, Int.reduceToNat, Int.reduceLE, Int.reduceLT, Int.reduceEq, Int.reduceNeg]
  try simp (config := { maxSteps := 10000000 }) only [go_sem, reduceIte, reduceCtorEq, Nat.reduceEqDiff, Nat.reduceLT, Nat.reduceLeDiff, Nat.reduceAdd, Nat.reduceBEq, Nat.reduceMul, Int.reduceToNat, Int.reduceLE, Int.reduceLT, Int.reduceEq, Int.reduceNeg, Rat.neg_num, Rat.neg_den]
  all_goals repeat (refine And.intro (by first | omega | (constructor <;> omega) | kernel_rfl) ?_)
  all_goals first | kernel_rfl | omega | rfl
theorem natL_1 : natL 1 = [1] := natL_one (by decide) (by decide)
theorem l04Add_fn (p q : Rat) (hp : small p) (hq : small q) : Fn Tryz.prog 93 [⟨tRat, ratD p⟩, ⟨tRat, ratD q⟩] true [⟨tRat, oD (capR (p + q))⟩] := by
  obtain ⟨p1, p2⟩ := hp
  obtain ⟨q1, q2⟩ := hq
  have b1 := nl_mulZ p.num q.den
  have b2 := nl_mulZ q.num p.den
  have b3 := nl_addZ (p.num * q.den) (q.num * p.den)
  have b4 := nl_mul p.den q.den
  have b5 := nl_mul p.num.natAbs q.den
  have b6 := nl_mul q.num.natAbs p.den
  have b7 := nl_addZ p.num q.num
  have hl := l04Low_fn (decide (p.num * q.den + q.num * p.den < 0)) (p.num * q.den + q.num * p.den).natAbs (p.den * q.den) (den_mul_ne p q) (by omega) (by omega)
  rw [sgn_bigD, ← add_mk] at hl
  by_cases h1 : p.den = 1
  · by_cases h2 : q.den = 1
    · have hl1 := l04Low_fn (decide (p.num + q.num < 0)) (p.num + q.num).natAbs 1 (by decide) (by omega) (by have := nl_small (n := 1) (by decide); omega)
      have e : _root_.mkRat (p.num + q.num) 1 = p + q := by rw [add_mk, h1, h2]; simp
      rw [sgn_bigD, natL_1, e] at hl1
      have d1 : decide (p.den = 1) = true := decide_eq_true h1
      have d2 : decide (q.den = 1) = true := decide_eq_true h2
      refine fn_enter tabOK mixes Tryz.func93 rfl rfl _ Tryz.ntmps93 _ Tryz.results93 (by simp) fun hwf => ?_
      try simp (config := { maxSteps := 10000000 }) only [go_sem, reduceIte, reduceCtorEq, Nat.reduceEqDiff, Nat.reduceLT, Nat.reduceLeDiff, Nat.reduceAdd, Nat.reduceBEq, Nat.reduceMul, Int.reduceToNat, Int.reduceLE, Int.reduceLT, Int.reduceEq, Int.reduceNeg]
      repeat (refine And.intro (by first | omega | (constructor <;> omega) | kernel_rfl) ?_)
      refine CallW.mk (l04One_fn p.den) ?_
      try simp (config := { maxSteps := 10000000 }) only [go_sem, reduceIte, reduceCtorEq, Nat.reduceEqDiff, Nat.reduceLT, Nat.reduceLeDiff, Nat.reduceAdd, Nat.reduceBEq, Nat.reduceMul, Int.reduceToNat, Int.reduceLE, Int.reduceLT, Int.reduceEq, Int.reduceNeg]
      try simp (config := { maxSteps := 10000000 }) only [go_sem, reduceIte, reduceCtorEq, Nat.reduceEqDiff, Nat.reduceLT, Nat.reduceLeDiff, Nat.reduceAdd, Nat.reduceBEq, Nat.reduceMul, Int.reduceToNat, Int.reduceLE, Int.reduceLT, Int.reduceEq, Int.reduceNeg, d1]
      repeat (refine And.intro (by first | omega | (constructor <;> omega) | kernel_rfl) ?_)
      refine CallW.mk (l04One_fn q.den) ?_
      try simp (config := { maxSteps := 10000000 }) only [go_sem, reduceIte, reduceCtorEq, Nat.reduceEqDiff, Nat.reduceLT, Nat.reduceLeDiff, Nat.reduceAdd, Nat.reduceBEq, Nat.reduceMul, Int.reduceToNat, Int.reduceLE, Int.reduceLT, Int.reduceEq, Int.reduceNeg]
      try simp (config := { maxSteps := 10000000 }) only [go_sem, reduceIte, reduceCtorEq, Nat.reduceEqDiff, Nat.reduceLT, Nat.reduceLeDiff, Nat.reduceAdd, Nat.reduceBEq, Nat.reduceMul, Int.reduceToNat, Int.reduceLE, Int.reduceLT, Int.reduceEq, Int.reduceNeg, d2]
      repeat (refine And.intro (by first | omega | (constructor <;> omega) | kernel_rfl) ?_)
      refine CallW.mk (l03Add_fn p.num q.num (by omega) (by omega)) ?_
      try simp (config := { maxSteps := 10000000 }) only [go_sem, reduceIte, reduceCtorEq, Nat.reduceEqDiff, Nat.reduceLT, Nat.reduceLeDiff, Nat.reduceAdd, Nat.reduceBEq, Nat.reduceMul, Int.reduceToNat, Int.reduceLE, Int.reduceLT, Int.reduceEq, Int.reduceNeg]
      repeat (refine And.intro (by first | omega | (constructor <;> omega) | kernel_rfl) ?_)
      refine CallW.mk (hl1) ?_
      try simp (config := { maxSteps := 10000000 }) only [go_sem, reduceIte, reduceCtorEq, Nat.reduceEqDiff, Nat.reduceLT, Nat.reduceLeDiff, Nat.reduceAdd, Nat.reduceBEq, Nat.reduceMul, Int.reduceToNat, Int.reduceLE, Int.reduceLT, Int.reduceEq, Int.reduceNeg]
      all_goals repeat (refine And.intro (by first | omega | (constructor <;> omega) | kernel_rfl) ?_)
      all_goals first | kernel_rfl | omega | rfl
    · have d1 : decide (p.den = 1) = true := decide_eq_true h1
      have d2 : decide (q.den = 1) = false := decide_eq_false h2
      refine fn_enter tabOK mixes Tryz.func93 rfl rfl _ Tryz.ntmps93 _ Tryz.results93 (by simp) fun hwf => ?_
      try simp (config := { maxSteps := 10000000 }) only [go_sem, reduceIte, reduceCtorEq, Nat.reduceEqDiff, Nat.reduceLT, Nat.reduceLeDiff, Nat.reduceAdd, Nat.reduceBEq, Nat.reduceMul, Int.reduceToNat, Int.reduceLE, Int.reduceLT, Int.reduceEq, Int.reduceNeg]
      repeat (refine And.intro (by first | omega | (constructor <;> omega) | kernel_rfl) ?_)
      refine CallW.mk (l04One_fn p.den) ?_
      try simp (config := { maxSteps := 10000000 }) only [go_sem, reduceIte, reduceCtorEq, Nat.reduceEqDiff, Nat.reduceLT, Nat.reduceLeDiff, Nat.reduceAdd, Nat.reduceBEq, Nat.reduceMul, Int.reduceToNat, Int.reduceLE, Int.reduceLT, Int.reduceEq, Int.reduceNeg]
      try simp (config := { maxSteps := 10000000 }) only [go_sem, reduceIte, reduceCtorEq, Nat.reduceEqDiff, Nat.reduceLT, Nat.reduceLeDiff, Nat.reduceAdd, Nat.reduceBEq, Nat.reduceMul, Int.reduceToNat, Int.reduceLE, Int.reduceLT, Int.reduceEq, Int.reduceNeg, d1]
      repeat (refine And.intro (by first | omega | (constructor <;> omega) | kernel_rfl) ?_)
      refine CallW.mk (l04One_fn q.den) ?_
      try simp (config := { maxSteps := 10000000 }) only [go_sem, reduceIte, reduceCtorEq, Nat.reduceEqDiff, Nat.reduceLT, Nat.reduceLeDiff, Nat.reduceAdd, Nat.reduceBEq, Nat.reduceMul, Int.reduceToNat, Int.reduceLE, Int.reduceLT, Int.reduceEq, Int.reduceNeg]
      try simp (config := { maxSteps := 10000000 }) only [go_sem, reduceIte, reduceCtorEq, Nat.reduceEqDiff, Nat.reduceLT, Nat.reduceLeDiff, Nat.reduceAdd, Nat.reduceBEq, Nat.reduceMul, Int.reduceToNat, Int.reduceLE, Int.reduceLT, Int.reduceEq, Int.reduceNeg, d2]
      repeat (refine And.intro (by first | omega | (constructor <;> omega) | kernel_rfl) ?_)
      refine CallW.mk (l02Mul_fn p.num.natAbs q.den (by omega) (by omega)) ?_
      try simp (config := { maxSteps := 10000000 }) only [go_sem, reduceIte, reduceCtorEq, Nat.reduceEqDiff, Nat.reduceLT, Nat.reduceLeDiff, Nat.reduceAdd, Nat.reduceBEq, Nat.reduceMul, Int.reduceToNat, Int.reduceLE, Int.reduceLT, Int.reduceEq, Int.reduceNeg]
      repeat (refine And.intro (by first | omega | (constructor <;> omega) | kernel_rfl) ?_)
      refine CallW.mk (l03Make_to (sgn_mulN p.num q.den) (by omega)) ?_
      try simp (config := { maxSteps := 10000000 }) only [go_sem, reduceIte, reduceCtorEq, Nat.reduceEqDiff, Nat.reduceLT, Nat.reduceLeDiff, Nat.reduceAdd, Nat.reduceBEq, Nat.reduceMul, Int.reduceToNat, Int.reduceLE, Int.reduceLT, Int.reduceEq, Int.reduceNeg]
      repeat (refine And.intro (by first | omega | (constructor <;> omega) | kernel_rfl) ?_)
      refine CallW.mk (l02Mul_fn q.num.natAbs p.den (by omega) (by omega)) ?_
      try simp (config := { maxSteps := 10000000 }) only [go_sem, reduceIte, reduceCtorEq, Nat.reduceEqDiff, Nat.reduceLT, Nat.reduceLeDiff, Nat.reduceAdd, Nat.reduceBEq, Nat.reduceMul, Int.reduceToNat, Int.reduceLE, Int.reduceLT, Int.reduceEq, Int.reduceNeg]
      repeat (refine And.intro (by first | omega | (constructor <;> omega) | kernel_rfl) ?_)
      refine CallW.mk (l03Make_to (sgn_mulN q.num p.den) (by omega)) ?_
      try simp (config := { maxSteps := 10000000 }) only [go_sem, reduceIte, reduceCtorEq, Nat.reduceEqDiff, Nat.reduceLT, Nat.reduceLeDiff, Nat.reduceAdd, Nat.reduceBEq, Nat.reduceMul, Int.reduceToNat, Int.reduceLE, Int.reduceLT, Int.reduceEq, Int.reduceNeg]
      repeat (refine And.intro (by first | omega | (constructor <;> omega) | kernel_rfl) ?_)
      refine CallW.mk (l03Add_fn (p.num * q.den) (q.num * p.den) (by omega) (by omega)) ?_
      try simp (config := { maxSteps := 10000000 }) only [go_sem, reduceIte, reduceCtorEq, Nat.reduceEqDiff, Nat.reduceLT, Nat.reduceLeDiff, Nat.reduceAdd, Nat.reduceBEq, Nat.reduceMul, Int.reduceToNat, Int.reduceLE, Int.reduceLT, Int.reduceEq, Int.reduceNeg]
      repeat (refine And.intro (by first | omega | (constructor <;> omega) | kernel_rfl) ?_)
      refine CallW.mk (l02Mul_fn p.den q.den (by omega) (by omega)) ?_
      try simp (config := { maxSteps := 10000000 }) only [go_sem, reduceIte, reduceCtorEq, Nat.reduceEqDiff, Nat.reduceLT, Nat.reduceLeDiff, Nat.reduceAdd, Nat.reduceBEq, Nat.reduceMul, Int.reduceToNat, Int.reduceLE, Int.reduceLT, Int.reduceEq, Int.reduceNeg]
      repeat (refine And.intro (by first | omega | (constructor <;> omega) | kernel_rfl) ?_)
      refine CallW.mk (hl) ?_
      try simp (config := { maxSteps := 10000000 }) only [go_sem, reduceIte, reduceCtorEq, Nat.reduceEqDiff, Nat.reduceLT, Nat.reduceLeDiff, Nat.reduceAdd, Nat.reduceBEq, Nat.reduceMul, Int.reduceToNat, Int.reduceLE, Int.reduceLT, Int.reduceEq, Int.reduceNeg]
      all_goals repeat (refine And.intro (by first | omega | (constructor <;> omega) | kernel_rfl) ?_)
      all_goals first | kernel_rfl | omega | rfl
  · have d1 : decide (p.den = 1) = false := decide_eq_false h1
    refine fn_enter tabOK mixes Tryz.func93 rfl rfl _ Tryz.ntmps93 _ Tryz.results93 (by simp) fun hwf => ?_
    try simp (config := { maxSteps := 10000000 }) only [go_sem, reduceIte, reduceCtorEq, Nat.reduceEqDiff, Nat.reduceLT, Nat.reduceLeDiff, Nat.reduceAdd, Nat.reduceBEq, Nat.reduceMul, Int.reduceToNat, Int.reduceLE, Int.reduceLT, Int.reduceEq, Int.reduceNeg]
    repeat (refine And.intro (by first | omega | (constructor <;> omega) | kernel_rfl) ?_)
    refine CallW.mk (l04One_fn p.den) ?_
    try simp (config := { maxSteps := 10000000 }) only [go_sem, reduceIte, reduceCtorEq, Nat.reduceEqDiff, Nat.reduceLT, Nat.reduceLeDiff, Nat.reduceAdd, Nat.reduceBEq, Nat.reduceMul, Int.reduceToNat, Int.reduceLE, Int.reduceLT, Int.reduceEq, Int.reduceNeg]
    try simp (config := { maxSteps := 10000000 }) only [go_sem, reduceIte, reduceCtorEq, Nat.reduceEqDiff, Nat.reduceLT, Nat.reduceLeDiff, Nat.reduceAdd, Nat.reduceBEq, Nat.reduceMul, Int.reduceToNat, Int.reduceLE, Int.reduceLT, Int.reduceEq, Int.reduceNeg, d1]
    repeat (refine And.intro (by first | omega | (constructor <;> omega) | kernel_rfl) ?_)
    refine CallW.mk (l02Mul_fn p.num.natAbs q.den (by omega) (by omega)) ?_
    try simp (config := { maxSteps := 10000000 }) only [go_sem, reduceIte, reduceCtorEq, Nat.reduceEqDiff, Nat.reduceLT, Nat.reduceLeDiff, Nat.reduceAdd, Nat.reduceBEq, Nat.reduceMul, Int.reduceToNat, Int.reduceLE, Int.reduceLT, Int.reduceEq, Int.reduceNeg]
    repeat (refine And.intro (by first | omega | (constructor <;> omega) | kernel_rfl) ?_)
    refine CallW.mk (l03Make_to (sgn_mulN p.num q.den) (by omega)) ?_
    try simp (config := { maxSteps := 10000000 }) only [go_sem, reduceIte, reduceCtorEq, Nat.reduceEqDiff, Nat.reduceLT, Nat.reduceLeDiff, Nat.reduceAdd, Nat.reduceBEq, Nat.reduceMul, Int.reduceToNat, Int.reduceLE, Int.reduceLT, Int.reduceEq, Int.reduceNeg]
    repeat (refine And.intro (by first | omega | (constructor <;> omega) | kernel_rfl) ?_)
    refine CallW.mk (l02Mul_fn q.num.natAbs p.den (by omega) (by omega)) ?_
    try simp (config := { maxSteps := 10000000 }) only [go_sem, reduceIte, reduceCtorEq, Nat.reduceEqDiff, Nat.reduceLT, Nat.reduceLeDiff, Nat.reduceAdd, Nat.reduceBEq, Nat.reduceMul, Int.reduceToNat, Int.reduceLE, Int.reduceLT, Int.reduceEq, Int.reduceNeg]
    repeat (refine And.intro (by first | omega | (constructor <;> omega) | kernel_rfl) ?_)
    refine CallW.mk (l03Make_to (sgn_mulN q.num p.den) (by omega)) ?_
    try simp (config := { maxSteps := 10000000 }) only [go_sem, reduceIte, reduceCtorEq, Nat.reduceEqDiff, Nat.reduceLT, Nat.reduceLeDiff, Nat.reduceAdd, Nat.reduceBEq, Nat.reduceMul, Int.reduceToNat, Int.reduceLE, Int.reduceLT, Int.reduceEq, Int.reduceNeg]
    repeat (refine And.intro (by first | omega | (constructor <;> omega) | kernel_rfl) ?_)
    refine CallW.mk (l03Add_fn (p.num * q.den) (q.num * p.den) (by omega) (by omega)) ?_
    try simp (config := { maxSteps := 10000000 }) only [go_sem, reduceIte, reduceCtorEq, Nat.reduceEqDiff, Nat.reduceLT, Nat.reduceLeDiff, Nat.reduceAdd, Nat.reduceBEq, Nat.reduceMul, Int.reduceToNat, Int.reduceLE, Int.reduceLT, Int.reduceEq, Int.reduceNeg]
    repeat (refine And.intro (by first | omega | (constructor <;> omega) | kernel_rfl) ?_)
    refine CallW.mk (l02Mul_fn p.den q.den (by omega) (by omega)) ?_
    try simp (config := { maxSteps := 10000000 }) only [go_sem, reduceIte, reduceCtorEq, Nat.reduceEqDiff, Nat.reduceLT, Nat.reduceLeDiff, Nat.reduceAdd, Nat.reduceBEq, Nat.reduceMul, Int.reduceToNat, Int.reduceLE, Int.reduceLT, Int.reduceEq, Int.reduceNeg]
    repeat (refine And.intro (by first | omega | (constructor <;> omega) | kernel_rfl) ?_)
    refine CallW.mk (hl) ?_
    try simp (config := { maxSteps := 10000000 }) only [go_sem, reduceIte, reduceCtorEq, Nat.reduceEqDiff, Nat.reduceLT, Nat.reduceLeDiff, Nat.reduceAdd, Nat.reduceBEq, Nat.reduceMul, Int.reduceToNat, Int.reduceLE, Int.reduceLT, Int.reduceEq, Int.reduceNeg]
    all_goals repeat (refine And.intro (by first | omega | (constructor <;> omega) | kernel_rfl) ?_)
    all_goals first | kernel_rfl | omega | rfl
end Go.Proofs.YtgffgcpcjpjfgaaGreat.DW

/-
  Lists of fractions: validity, comparison, the greatest one.
-/
namespace Go.Proofs.YtgffgcpcjpjfgaaGreat.DW
open Go.RowKit
theorem indexFunc_rat_fn (F : FuncId) (p : DR → Bool) (hF : ∀ x : DR, Fn Tryz.prog F [⟨tRat, x⟩] false [⟨.bool, p x⟩]) (l : List DR) : Fn Tryz.prog 179 [⟨.slice tRat, l⟩, ⟨.cst (.fn F), ()⟩] false [⟨.int, ixf (t := tRat) p l⟩] := by
  refine fn_enter tabOK mixes Tryz.func179 rfl rfl _ Tryz.ntmps179 _ Tryz.results179 (by simp) fun hwf => ?_
  have hl : l.length ≤ 9223372036854775807 := (hwf ⟨.slice tRat, l⟩ (by simp)).1
  try simp (config := { maxSteps := 10000000 }) only [go_sem, reduceIte, reduceCtorEq, Nat.reduceEqDiff, Nat.reduceLT, Nat.reduceLeDiff, Nat.reduceAdd, Nat.reduceBEq, Nat.reduceMul, Int.reduceToNat, Int.reduceLE, Int.reduceLT, Int.reduceEq, Int.reduceNeg]
  refine LoopG.intro _ _ _ (fun i : Nat => ⟨[(0, .sl tRat l), (1, .sc (.func (.func F) #[] #[])), (7, .sc (.int .i64 l.length)), (8, .sc (.int .i64 i))], []⟩) (fun i => ∀ j < i, j < l.length → p (nth (t := tRat) l j) = false) (fun i => l.length - i) 0 ?_ (fun j h => by simp at h) ?_
  · refine Wk.mk [] ?_
    try simp (config := { maxSteps := 10000000 }) only [go_sem, reduceIte, reduceCtorEq, Nat.reduceEqDiff, Nat.reduceLT, Nat.reduceLeDiff, Nat.reduceAdd, Nat.reduceBEq, Nat.reduceMul, Int.reduceToNat, Int.reduceLE, Int.reduceLT, Int.reduceEq, Int.reduceNeg]
    try (and_intros <;> first | rfl | omega | exact ⟨_, rfl⟩)
  · rintro i h2
    try simp (config := { maxSteps := 10000000 }) only [go_sem, reduceIte, reduceCtorEq, Nat.reduceEqDiff, Nat.reduceLT, Nat.reduceLeDiff, Nat.reduceAdd, Nat.reduceBEq, Nat.reduceMul, Int.reduceToNat, Int.reduceLE, Int.reduceLT, Int.reduceEq, Int.reduceNeg]
    refine CondW_dec (fun h3 => ?_) (fun h3 => ?_)
    · try simp (config := { maxSteps := 10000000 }) only [go_sem, reduceIte, reduceCtorEq, Nat.reduceEqDiff, Nat.reduceLT, Nat.reduceLeDiff, Nat.reduceAdd, Nat.reduceBEq, Nat.reduceMul, Int.reduceToNat, Int.reduceLE, Int.reduceLT, Int.reduceEq, Int.reduceNeg]
      repeat (refine And.intro (by first | omega | (constructor <;> omega) | kernel_rfl) ?_)
      repeat (refine And.intro (by first | omega | (constructor <;> omega) | kernel_rfl) ?_)
      refine CallW.mk (hF (nth (t := tRat) l i)) ?_
      try simp (config := { maxSteps := 10000000 }) only [go_sem, reduceIte, reduceCtorEq, Nat.reduceEqDiff, Nat.reduceLT, Nat.reduceLeDiff, Nat.reduceAdd, Nat.reduceBEq, Nat.reduceMul, Int.reduceToNat, Int.reduceLE, Int.reduceLT, Int.reduceEq, Int.reduceNeg]
      refine CondW_b (fun h4 => ?_) (fun h4 => ?_)
      · try simp (config := { maxSteps := 10000000 }) only [go_sem, reduceIte, reduceCtorEq, Nat.reduceEqDiff, Nat.reduceLT, Nat.reduceLeDiff, Nat.reduceAdd, Nat.reduceBEq, Nat.reduceMul, Int.reduceToNat, Int.reduceLE, Int.reduceLT, Int.reduceEq, Int.reduceNeg]
        exact (ixf_at (by omega) h4 (fun j hj => h2 j hj (by omega))).symm
      · try simp (config := { maxSteps := 10000000 }) only [go_sem, reduceIte, reduceCtorEq, Nat.reduceEqDiff, Nat.reduceLT, Nat.reduceLeDiff, Nat.reduceAdd, Nat.reduceBEq, Nat.reduceMul, Int.reduceToNat, Int.reduceLE, Int.reduceLT, Int.reduceEq, Int.reduceNeg]
        repeat (refine And.intro (by first | omega | (constructor <;> omega) | kernel_rfl) ?_)
        refine LoopK.mk (i + 1) ?_ (fun j hj hl => ?_) (by omega)
        · refine Wk.mk [] ?_
          try simp (config := { maxSteps := 10000000 }) only [go_sem, reduceIte, reduceCtorEq, Nat.reduceEqDiff, Nat.reduceLT, Nat.reduceLeDiff, Nat.reduceAdd, Nat.reduceBEq, Nat.reduceMul, Int.reduceToNat, Int.reduceLE, Int.reduceLT, Int.reduceEq, Int.reduceNeg]
          try (and_intros <;> first | rfl | omega | exact ⟨_, rfl⟩)
        · by_cases hj2 : j < i
          · exact h2 j hj2 hl
          · rw [show j = i by omega]; exact h4
    · try simp (config := { maxSteps := 10000000 }) only [go_sem, reduceIte, reduceCtorEq, Nat.reduceEqDiff, Nat.reduceLT, Nat.reduceLeDiff, Nat.reduceAdd, Nat.reduceBEq, Nat.reduceMul, Int.reduceToNat, Int.reduceLE, Int.reduceLT, Int.reduceEq, Int.reduceNeg]
      exact (ixf_none fun j hj => h2 j (by omega) hj).symm
theorem containsFunc_rat_fn (F : FuncId) (p : DR → Bool) (hF : ∀ x : DR, Fn Tryz.prog F [⟨tRat, x⟩] false [⟨.bool, p x⟩]) (l : List DR) : Fn Tryz.prog 130 [⟨.slice tRat, l⟩, ⟨.cst (.fn F), ()⟩] false [⟨.bool, l.any p⟩] := by
  refine fn_enter tabOK mixes Tryz.func130 rfl rfl _ Tryz.ntmps130 _ Tryz.results130 (by simp) fun hwf => ?_
  try simp (config := { maxSteps := 10000000 }) only [go_sem, reduceIte, reduceCtorEq, Nat.reduceEqDiff, Nat.reduceLT, Nat.reduceLeDiff, Nat.reduceAdd, Nat.reduceBEq, Nat.reduceMul, Int.reduceToNat, Int.reduceLE, Int.reduceLT, Int.reduceEq, Int.reduceNeg]
  repeat (refine And.intro (by first | omega | (constructor <;> omega) | kernel_rfl) ?_)
  refine CallW.mk (indexFunc_rat_fn F p hF l) ?_
  try simp (config := { maxSteps := 10000000 }) only [go_sem, reduceIte, reduceCtorEq, Nat.reduceEqDiff, Nat.reduceLT, Nat.reduceLeDiff, Nat.reduceAdd, Nat.reduceBEq, Nat.reduceMul, Int.reduceToNat, Int.reduceLE, Int.reduceLT, Int.reduceEq, Int.reduceNeg]
  exact ixf_any
theorem okR_oD {r : DR} (h : okR r = true) : oD (rdO r) = r := by
  obtain ⟨q, _, e1, e2⟩ := okR_t h
  rw [e2, e1]; rfl
end Go.Proofs.YtgffgcpcjpjfgaaGreat.DW
