/-
  Texts of a proof, one behind another: Dw32, Dw33, Dw34, OpensP, LawSpeedProfile.
-/
import Derived.Test.YtgffgcpcjpjfgaaGreatKA5
set_option linter.all false
/-
  Profiles of speed: both walks, on a row that is used up.
-/
namespace Go.Proofs.YtgffgcpcjpjfgaaGreat.DW
open Go.RowKit
theorem isGoodA_fn (r : DR) : Fn Tryz.prog 100 [⟨tRat, r⟩] false [⟨.bool, decide ((0 : Int) < r.2.length)⟩] := by
  refine fn_enter tabOK mixes Tryz.func100 rfl rfl _ Tryz.ntmps100 _ Tryz.results100 (by simp) fun hwf => ?_
  try simp (config := { maxSteps := 10000000 }) only [go_sem, reduceIte, reduceCtorEq, Nat.reduceEqDiff, Nat.reduceLT, Nat.reduceLeDiff, Nat.reduceAdd, Nat.reduceBEq, Nat.reduceMul, Int.reduceToNat, Int.reduceLE, Int.reduceLT, Int.reduceEq, Int.reduceNeg]
theorem profC_fn (r : DR) : Fn Tryz.prog 131 [⟨tRat, r⟩] false [⟨.bool, !decide ((0 : Int) < r.2.length)⟩] := by
  refine fn_enter tabOK mixes Tryz.func131 rfl rfl _ Tryz.ntmps131 _ Tryz.results131 (by simp) fun hwf => ?_
  try simp (config := { maxSteps := 10000000 }) only [go_sem, reduceIte, reduceCtorEq, Nat.reduceEqDiff, Nat.reduceLT, Nat.reduceLeDiff, Nat.reduceAdd, Nat.reduceBEq, Nat.reduceMul, Int.reduceToNat, Int.reduceLE, Int.reduceLT, Int.reduceEq, Int.reduceNeg]
  repeat (refine And.intro (by first | omega | (constructor <;> omega) | kernel_rfl) ?_)
  refine CallW.mk (isGoodA_fn r) ?_
  try simp (config := { maxSteps := 10000000 }) only [go_sem, reduceIte, reduceCtorEq, Nat.reduceEqDiff, Nat.reduceLT, Nat.reduceLeDiff, Nat.reduceAdd, Nat.reduceBEq, Nat.reduceMul, Int.reduceToNat, Int.reduceLE, Int.reduceLT, Int.reduceEq, Int.reduceNeg]
theorem good_len {x : Option Rat} (h : okO x) : decide ((0 : Int) < (oD x).2.length) = okR (oD x) := by
  unfold okR
  rw [rdO_oD h]
  cases x with
  | none => rfl
  | some q =>
    have : 0 < nl q.den := Nat.pos_of_ne_zero fun e => q.den_nz (nl_eq_zero.1 e)
    exact decide_eq_true (by show (0 : Int) < nl q.den; omega)
theorem any_good {w : List DR} (h : CN w) : (w.any fun r => !decide ((0 : Int) < r.2.length)) = !allGood w := by
  unfold allGood
  rw [Bool.not_not]
  have : ∀ r ∈ w, (!decide ((0 : Int) < r.2.length)) = !okR r := fun r hr => by
    obtain ⟨i, hi, rfl⟩ := List.getElem_of_mem hr
    have e := h i hi
    rw [nth_lt hi] at e
    rw [← e, good_len (okO_vl w i)]
  clear h
  induction w with
  | nil => rfl
  | cons x l ih => rw [List.any_cons, List.any_cons, this x List.mem_cons_self, ih fun r hr => this r (List.mem_cons_of_mem _ hr)]
theorem good_mem {w : List DR} (h : allGood w = true) : ∀ r ∈ w, okR r = true := fun r hr => by
  unfold allGood at h
  rw [Bool.not_eq_true', List.any_eq_false] at h
  simpa using h r hr
theorem upd_at {W : List DR} {i j k : Nat} {g : Option Rat} {x : DR} (hx : x = oD (minO (vl W i) (addO (vl W j) g))) (hk : k = i) : upd W i j g = W.set k x := by rw [hx, hk]; rfl
set_option maxRecDepth 100000 in
set_option maxHeartbeats 8000000 in
theorem implProfile_fb (l : List DP) (a : Int) (w : List DR) (hw : w.length = l.length) (h0 : 0 < l.length) (hl : l.length ≤ 16777216) (hc : CN w) :
    FnB Tryz.prog 85 [.sl tPoint l, .row 0 0, .sc (.int .i64 a)] [(0, .row 36 tRat 0 true w)] true [⟨.slice tRat, prof l a w⟩] := by
  have d0 : decide ((w.length : Int) = 0) = false := decide_eq_false (by omega)
  have c1 := isSpeed_fn a
  by_cases ha : 1 ≤ a ∧ a ≤ 1000
  rotate_left
  · have e : prof l a w = [] := by unfold prof; rw [decide_eq_false ha]; rfl
    rw [decide_eq_false ha] at c1
    rw [e]
    refine fnB_enter tabOK mixes Tryz.func85 rfl rfl _ Tryz.ntmps85 _ Tryz.results85 (by simp) ?_
    try simp (config := { maxSteps := 10000000 }) only [go_sem, reduceIte, reduceCtorEq, Nat.reduceEqDiff, Nat.reduceLT, Nat.reduceLeDiff, Nat.reduceAdd, Nat.reduceBEq, Nat.reduceMul, Int.reduceToNat, Int.reduceLE, Int.reduceLT, Int.reduceEq, Int.reduceNeg, d0]
    repeat (refine And.intro (by first | omega | (constructor <;> omega) | kernel_rfl) ?_)
    refine CallW.mk (c1) ?_
    try simp (config := { maxSteps := 10000000 }) only [go_sem, reduceIte, reduceCtorEq, Nat.reduceEqDiff, Nat.reduceLT, Nat.reduceLeDiff, Nat.reduceAdd, Nat.reduceBEq, Nat.reduceMul, Int.reduceToNat, Int.reduceLE, Int.reduceLT, Int.reduceEq, Int.reduceNeg]
  rw [decide_eq_true ha] at c1
  by_cases hg : ∀ i, i + 1 < l.length → (gn a (pn l i) (pn l (i + 1))).isSome = true
  rotate_left
  · have c2 := gains_bad l a ha h0 hl hg
    have e : prof l a w = [] := by
      have : allGood (profW l a w) = false := by
        obtain ⟨i, hi⟩ := Classical.not_forall.1 hg
        obtain ⟨h1, h2⟩ := Classical.not_imp.1 hi
        refine prof_bad (i := i) ?_ (by omega)
        cases hx : gn a (pn l i) (pn l (i + 1)) with
        | none => rfl
        | some q => rw [hx] at h2; exact absurd rfl h2
      unfold prof; rw [this, Bool.and_false]; rfl
    rw [e]
    refine fnB_enter tabOK mixes Tryz.func85 rfl rfl _ Tryz.ntmps85 _ Tryz.results85 (by simp) ?_
    try simp (config := { maxSteps := 10000000 }) only [go_sem, reduceIte, reduceCtorEq, Nat.reduceEqDiff, Nat.reduceLT, Nat.reduceLeDiff, Nat.reduceAdd, Nat.reduceBEq, Nat.reduceMul, Int.reduceToNat, Int.reduceLE, Int.reduceLT, Int.reduceEq, Int.reduceNeg, d0]
    repeat (refine And.intro (by first | omega | (constructor <;> omega) | kernel_rfl) ?_)
    refine CallW.mk (c1) ?_
    try simp (config := { maxSteps := 10000000 }) only [go_sem, reduceIte, reduceCtorEq, Nat.reduceEqDiff, Nat.reduceLT, Nat.reduceLeDiff, Nat.reduceAdd, Nat.reduceBEq, Nat.reduceMul, Int.reduceToNat, Int.reduceLE, Int.reduceLT, Int.reduceEq, Int.reduceNeg]
    repeat (refine And.intro (by first | omega | (constructor <;> omega) | kernel_rfl) ?_)
    refine CallW.mk (c2) ?_
    try simp (config := { maxSteps := 10000000 }) only [go_sem, reduceIte, reduceCtorEq, Nat.reduceEqDiff, Nat.reduceLT, Nat.reduceLeDiff, Nat.reduceAdd, Nat.reduceBEq, Nat.reduceMul, Int.reduceToNat, Int.reduceLE, Int.reduceLT, Int.reduceEq, Int.reduceNeg]
  have c2 := gains_ok l a ha h0 hl hg
  have hcp := CN_prof (l := l) (a := a) hc (by omega)
  have hlp : (profW l a w).length = l.length := by unfold profW; rw [bwR_len, fwR_len, hw]
  have c7 := containsFunc_rat_fn _ _ profC_fn (profW l a w)
  rw [any_good hcp] at c7
  have hpr : prof l a w = if allGood (profW l a w) = true then profW l a w else [] := by unfold prof; rw [decide_eq_true ha, Bool.true_and]
  rw [hpr]
  refine fnB_enter tabOK mixes Tryz.func85 rfl rfl _ Tryz.ntmps85 _ Tryz.results85 (by simp) ?_
  try simp (config := { maxSteps := 10000000 }) only [go_sem, reduceIte, reduceCtorEq, Nat.reduceEqDiff, Nat.reduceLT, Nat.reduceLeDiff, Nat.reduceAdd, Nat.reduceBEq, Nat.reduceMul, Int.reduceToNat, Int.reduceLE, Int.reduceLT, Int.reduceEq, Int.reduceNeg, d0]
  repeat (refine And.intro (by first | omega | (constructor <;> omega) | kernel_rfl) ?_)
  refine CallW.mk (c1) ?_
  try simp (config := { maxSteps := 10000000 }) only [go_sem, reduceIte, reduceCtorEq, Nat.reduceEqDiff, Nat.reduceLT, Nat.reduceLeDiff, Nat.reduceAdd, Nat.reduceBEq, Nat.reduceMul, Int.reduceToNat, Int.reduceLE, Int.reduceLT, Int.reduceEq, Int.reduceNeg]
  repeat (refine And.intro (by first | omega | (constructor <;> omega) | kernel_rfl) ?_)
  refine CallW.mk (c2) ?_
  try simp (config := { maxSteps := 10000000 }) only [go_sem, reduceIte, reduceCtorEq, Nat.reduceEqDiff, Nat.reduceLT, Nat.reduceLeDiff, Nat.reduceAdd, Nat.reduceBEq, Nat.reduceMul, Int.reduceToNat, Int.reduceLE, Int.reduceLT, Int.reduceEq, Int.reduceNeg]
  refine LoopG.intro _ _ _ (fun i : Nat => ⟨[(1, .row 0 0), (7, .sl tRat (gnL l a (l.length - 1))), (9, .sc (.int .i64 ((i : Int) + 1)))], [(0, .row 36 tRat 0 false (fwR l a i w))]⟩) (fun i => i + 1 ≤ l.length) (fun i => l.length - i) 0 ?_ (by omega) ?_
  · refine Wk.mk [] ?_
    try simp (config := { maxSteps := 10000000 }) only [go_sem, reduceIte, reduceCtorEq, Nat.reduceEqDiff, Nat.reduceLT, Nat.reduceLeDiff, Nat.reduceAdd, Nat.reduceBEq, Nat.reduceMul, Int.reduceToNat, Int.reduceLE, Int.reduceLT, Int.reduceEq, Int.reduceNeg]
    try (and_intros <;> first | rfl | omega | exact ⟨_, rfl⟩)
  · rintro i hi
    have hWl := fwR_len l a i w
    have hWc := CN_fw (l := l) (a := a) hc i (by omega)
    have e1 : ((i : Int) + 1 - 1).toNat = i := by omega
    have e2 : ((i : Int) + 1).toNat = i + 1 := by omega
    generalize hW : fwR l a i w = W at hWl hWc ⊢
    try simp (config := { maxSteps := 10000000 }) only [go_sem, reduceIte, reduceCtorEq, Nat.reduceEqDiff, Nat.reduceLT, Nat.reduceLeDiff, Nat.reduceAdd, Nat.reduceBEq, Nat.reduceMul, Int.reduceToNat, Int.reduceLE, Int.reduceLT, Int.reduceEq, Int.reduceNeg, hWl]
    refine CondW_dec (fun hA => ?_) (fun hA => ?_)
    · have hst : fwR l a (i + 1) w = W.set ((i : Int) + 1).toNat (oD (minO (vl W (i + 1)) (addO (vl W i) (gn a (pn l i) (pn l (i + 1)))))) := by
        rw [e2, ← hW]; rfl
      have c5 : Fn Tryz.prog 53 [⟨tRat, nth (t := tRat) W ((i : Int) + 1 - 1).toNat⟩, ⟨tRat, nth (t := tRat) (gnL l a (l.length - 1)) ((i : Int) + 1 - 1).toNat⟩] true [⟨tRat, oD (addO (vl W i) (gn a (pn l i) (pn l (i + 1))))⟩] := by
        rw [e1, ← hWc i (by omega), gnL_nth l a (by omega)]
        exact ratAdd_fn _ _ (okO_vl _ _) (okO_gn _ _ _)
      have c6 : Fn Tryz.prog 129 [⟨tRat, nth (t := tRat) W ((i : Int) + 1).toNat⟩, ⟨tRat, oD (addO (vl W i) (gn a (pn l i) (pn l (i + 1))))⟩] false [⟨tRat, oD (minO (vl W (i + 1)) (addO (vl W i) (gn a (pn l i) (pn l (i + 1)))))⟩] := by
        rw [e2, ← hWc (i + 1) (by omega)]
        exact ratMin_fn _ _ (okO_vl _ _) (okO_add _ _)
      have hgl := gnL_len l a (l.length - 1)
      try simp (config := { maxSteps := 10000000 }) only [go_sem, reduceIte, reduceCtorEq, Nat.reduceEqDiff, Nat.reduceLT, Nat.reduceLeDiff, Nat.reduceAdd, Nat.reduceBEq, Nat.reduceMul, Int.reduceToNat, Int.reduceLE, Int.reduceLT, Int.reduceEq, Int.reduceNeg]
      repeat (refine And.intro (by first | omega | (constructor <;> omega) | kernel_rfl) ?_)
      repeat (refine And.intro (by first | omega | (constructor <;> omega) | kernel_rfl) ?_)
      refine CallW.mk (c5) ?_
      try simp (config := { maxSteps := 10000000 }) only [go_sem, reduceIte, reduceCtorEq, Nat.reduceEqDiff, Nat.reduceLT, Nat.reduceLeDiff, Nat.reduceAdd, Nat.reduceBEq, Nat.reduceMul, Int.reduceToNat, Int.reduceLE, Int.reduceLT, Int.reduceEq, Int.reduceNeg]
      repeat (refine And.intro (by first | omega | (constructor <;> omega) | kernel_rfl) ?_)
      refine CallW.mk (c6) ?_
      try simp (config := { maxSteps := 10000000 }) only [go_sem, reduceIte, reduceCtorEq, Nat.reduceEqDiff, Nat.reduceLT, Nat.reduceLeDiff, Nat.reduceAdd, Nat.reduceBEq, Nat.reduceMul, Int.reduceToNat, Int.reduceLE, Int.reduceLT, Int.reduceEq, Int.reduceNeg]
      repeat (refine And.intro (by first | omega | (constructor <;> omega) | kernel_rfl) ?_)
      refine LoopK.mk (i + 1) ?_ (by omega) (by omega)
      rw [hst]
      refine Wk.mk [] ?_
      try simp (config := { maxSteps := 10000000 }) only [go_sem, reduceIte, reduceCtorEq, Nat.reduceEqDiff, Nat.reduceLT, Nat.reduceLeDiff, Nat.reduceAdd, Nat.reduceBEq, Nat.reduceMul, Int.reduceToNat, Int.reduceLE, Int.reduceLT, Int.reduceEq, Int.reduceNeg]
      try (and_intros <;> first | rfl | omega | exact ⟨_, rfl⟩)
    · have hin : i = l.length - 1 := by omega
      have hWe : W = fwR l a (w.length - 1) w := by rw [← hW, hin, hw]
      try simp (config := { maxSteps := 10000000 }) only [go_sem, reduceIte, reduceCtorEq, Nat.reduceEqDiff, Nat.reduceLT, Nat.reduceLeDiff, Nat.reduceAdd, Nat.reduceBEq, Nat.reduceMul, Int.reduceToNat, Int.reduceLE, Int.reduceLT, Int.reduceEq, Int.reduceNeg]
      repeat (refine And.intro (by first | omega | (constructor <;> omega) | kernel_rfl) ?_)
      try simp (config := { maxSteps := 10000000 }) only [go_sem, reduceIte, reduceCtorEq, Nat.reduceEqDiff, Nat.reduceLT, Nat.reduceLeDiff, Nat.reduceAdd, Nat.reduceBEq, Nat.reduceMul, Int.reduceToNat, Int.reduceLE, Int.reduceLT, Int.reduceEq, Int.reduceNeg, hWl]
      repeat (refine And.intro (by first | omega | (constructor <;> omega) | kernel_rfl) ?_)
      refine LoopG.intro _ _ _ (fun j : Nat => ⟨[(1, .row 0 0), (7, .sl tRat (gnL l a (l.length - 1))), (10, .sc (.int .i64 ((w.length : Int) - 2 - j)))], [(0, .row 36 tRat 0 false (bwR l a w.length j W))]⟩) (fun j => j + 1 ≤ w.length) (fun j => w.length - j) 0 ?_ (by omega) ?_
      · refine Wk.mk [] ?_
        try simp (config := { maxSteps := 10000000 }) only [go_sem, reduceIte, reduceCtorEq, Nat.reduceEqDiff, Nat.reduceLT, Nat.reduceLeDiff, Nat.reduceAdd, Nat.reduceBEq, Nat.reduceMul, Int.reduceToNat, Int.reduceLE, Int.reduceLT, Int.reduceEq, Int.reduceNeg]
        try (and_intros <;> first | rfl | omega | exact ⟨_, rfl⟩)
      · rintro j hj
        have hVl := bwR_len l a w.length j W
        have hVc := CN_bw (l := l) (a := a) (n := w.length) hWc hWl j (by omega)
        have hgl := gnL_len l a (l.length - 1)
        generalize hV : bwR l a w.length j W = V at hVl hVc ⊢
        try simp (config := { maxSteps := 10000000 }) only [go_sem, reduceIte, reduceCtorEq, Nat.reduceEqDiff, Nat.reduceLT, Nat.reduceLeDiff, Nat.reduceAdd, Nat.reduceBEq, Nat.reduceMul, Int.reduceToNat, Int.reduceLE, Int.reduceLT, Int.reduceEq, Int.reduceNeg]
        refine CondW_dec (fun hB => ?_) (fun hB => ?_)
        · have e1 : ((w.length : Int) - 2 - j).toNat = w.length - 2 - j := by omega
          have e2 : ((w.length : Int) - 2 - j + 1).toNat = w.length - 2 - j + 1 := by omega
          have hst : bwR l a w.length (j + 1) W = V.set ((w.length : Int) - 2 - j).toNat (oD (minO (vl V (w.length - 2 - j)) (addO (vl V (w.length - 2 - j + 1)) (gn a (pn l (w.length - 2 - j)) (pn l (w.length - 2 - j + 1)))))) := by
            rw [e1, ← hV]; rfl
          have c5 : Fn Tryz.prog 53 [⟨tRat, nth (t := tRat) V ((w.length : Int) - 2 - j + 1).toNat⟩, ⟨tRat, nth (t := tRat) (gnL l a (l.length - 1)) ((w.length : Int) - 2 - j).toNat⟩] true [⟨tRat, oD (addO (vl V (w.length - 2 - j + 1)) (gn a (pn l (w.length - 2 - j)) (pn l (w.length - 2 - j + 1))))⟩] := by
            rw [e1, e2, ← hVc (w.length - 2 - j + 1) (by omega), gnL_nth l a (by omega)]
            exact ratAdd_fn _ _ (okO_vl _ _) (okO_gn _ _ _)
          have c6 : Fn Tryz.prog 129 [⟨tRat, nth (t := tRat) V ((w.length : Int) - 2 - j).toNat⟩, ⟨tRat, oD (addO (vl V (w.length - 2 - j + 1)) (gn a (pn l (w.length - 2 - j)) (pn l (w.length - 2 - j + 1))))⟩] false [⟨tRat, oD (minO (vl V (w.length - 2 - j)) (addO (vl V (w.length - 2 - j + 1)) (gn a (pn l (w.length - 2 - j)) (pn l (w.length - 2 - j + 1)))))⟩] := by
            rw [e1, ← hVc (w.length - 2 - j) (by omega)]
            exact ratMin_fn _ _ (okO_vl _ _) (okO_add _ _)
          try simp (config := { maxSteps := 10000000 }) only [go_sem, reduceIte, reduceCtorEq, Nat.reduceEqDiff, Nat.reduceLT, Nat.reduceLeDiff, Nat.reduceAdd, Nat.reduceBEq, Nat.reduceMul, Int.reduceToNat, Int.reduceLE, Int.reduceLT, Int.reduceEq, Int.reduceNeg]
          repeat (refine And.intro (by first | omega | (constructor <;> omega) | kernel_rfl) ?_)
          repeat (refine And.intro (by first | omega | (constructor <;> omega) | kernel_rfl) ?_)
          refine CallW.mk (c5) ?_
          try simp (config := { maxSteps := 10000000 }) only [go_sem, reduceIte, reduceCtorEq, Nat.reduceEqDiff, Nat.reduceLT, Nat.reduceLeDiff, Nat.reduceAdd, Nat.reduceBEq, Nat.reduceMul, Int.reduceToNat, Int.reduceLE, Int.reduceLT, Int.reduceEq, Int.reduceNeg]
          repeat (refine And.intro (by first | omega | (constructor <;> omega) | kernel_rfl) ?_)
          refine CallW.mk (c6) ?_
          try simp (config := { maxSteps := 10000000 }) only [go_sem, reduceIte, reduceCtorEq, Nat.reduceEqDiff, Nat.reduceLT, Nat.reduceLeDiff, Nat.reduceAdd, Nat.reduceBEq, Nat.reduceMul, Int.reduceToNat, Int.reduceLE, Int.reduceLT, Int.reduceEq, Int.reduceNeg]
          repeat (refine And.intro (by first | omega | (constructor <;> omega) | kernel_rfl) ?_)
          refine LoopK.mk (j + 1) ?_ (by omega) (by omega)
          rw [hst]
          refine Wk.mk [] ?_
          try simp (config := { maxSteps := 10000000 }) only [go_sem, reduceIte, reduceCtorEq, Nat.reduceEqDiff, Nat.reduceLT, Nat.reduceLeDiff, Nat.reduceAdd, Nat.reduceBEq, Nat.reduceMul, Int.reduceToNat, Int.reduceLE, Int.reduceLT, Int.reduceEq, Int.reduceNeg]
          try (and_intros <;> first | rfl | omega | exact ⟨_, rfl⟩)
        · have hVe : V = profW l a w := by unfold profW; rw [← hV, ← hWe, show j = w.length - 1 by omega]
          rw [hVe]
          cases hgd : allGood (profW l a w) <;> rw [hgd] at c7
          · rw [if_neg (by decide)]
            try simp (config := { maxSteps := 10000000 }) only [go_sem, reduceIte, reduceCtorEq, Nat.reduceEqDiff, Nat.reduceLT, Nat.reduceLeDiff, Nat.reduceAdd, Nat.reduceBEq, Nat.reduceMul, Int.reduceToNat, Int.reduceLE, Int.reduceLT, Int.reduceEq, Int.reduceNeg]
            repeat (refine And.intro (by first | omega | (constructor <;> omega) | kernel_rfl) ?_)
            refine CallW.mk (c7) ?_
            try simp (config := { maxSteps := 10000000 }) only [go_sem, reduceIte, reduceCtorEq, Nat.reduceEqDiff, Nat.reduceLT, Nat.reduceLeDiff, Nat.reduceAdd, Nat.reduceBEq, Nat.reduceMul, Int.reduceToNat, Int.reduceLE, Int.reduceLT, Int.reduceEq, Int.reduceNeg]
          · rw [if_pos rfl]
            have hm := good_mem hgd
            have c8 := ownRats_fn (profW l a w) (by omega) (fun r hr => by have := okR_len (hm r hr); omega)
            try simp (config := { maxSteps := 10000000 }) only [go_sem, reduceIte, reduceCtorEq, Nat.reduceEqDiff, Nat.reduceLT, Nat.reduceLeDiff, Nat.reduceAdd, Nat.reduceBEq, Nat.reduceMul, Int.reduceToNat, Int.reduceLE, Int.reduceLT, Int.reduceEq, Int.reduceNeg]
            repeat (refine And.intro (by first | omega | (constructor <;> omega) | kernel_rfl) ?_)
            refine CallW.mk (c7) ?_
            try simp (config := { maxSteps := 10000000 }) only [go_sem, reduceIte, reduceCtorEq, Nat.reduceEqDiff, Nat.reduceLT, Nat.reduceLeDiff, Nat.reduceAdd, Nat.reduceBEq, Nat.reduceMul, Int.reduceToNat, Int.reduceLE, Int.reduceLT, Int.reduceEq, Int.reduceNeg]
            repeat (refine And.intro (by first | omega | (constructor <;> omega) | kernel_rfl) ?_)
            refine CallW.mk (c8) ?_
            try simp (config := { maxSteps := 10000000 }) only [go_sem, reduceIte, reduceCtorEq, Nat.reduceEqDiff, Nat.reduceLT, Nat.reduceLeDiff, Nat.reduceAdd, Nat.reduceBEq, Nat.reduceMul, Int.reduceToNat, Int.reduceLE, Int.reduceLT, Int.reduceEq, Int.reduceNeg]
            all_goals repeat (refine And.intro (by first | omega | (constructor <;> omega) | kernel_rfl) ?_)
            all_goals first | kernel_rfl | omega | rfl
end Go.Proofs.YtgffgcpcjpjfgaaGreat.DW

/-
  Profiles of speed: the reference's walk, on a row that is used up.
-/
namespace Go.Proofs.YtgffgcpcjpjfgaaGreat.DW
open Go.RowKit
theorem good_of {w : List DR} (h : ∀ i, i < w.length → okR (nth (t := tRat) w i) = true) : allGood w = true := by
  unfold allGood
  rw [Bool.not_eq_true', List.any_eq_false]
  intro r hr
  obtain ⟨i, hi, rfl⟩ := List.getElem_of_mem hr
  have := h i hi
  rw [nth_lt hi] at this
  rw [this]; decide
theorem good_no {w : List DR} {i : Nat} (hi : i < w.length) (h : okR (nth (t := tRat) w i) = false) : allGood w = false := allGood_f hi (okR_f h)
set_option maxRecDepth 100000 in
set_option maxHeartbeats 8000000 in
theorem specProfile_fb (l : List DP) (a : Int) (w : List DR) (hw : w.length = l.length) (h0 : 0 < l.length) (hl : l.length ≤ 16777216) (hc : CN w) :
    FnB Tryz.prog 83 [.sl tPoint l, .row 0 0, .sc (.int .i64 a)] [(0, .row 36 tRat 0 true w)] false [⟨.slice tRat, prof l a w⟩] := by
  have d0 : decide ((w.length : Int) = 0) = false := decide_eq_false (by omega)
  have c1 := l01In_fn a 1 1000
  by_cases ha : 1 ≤ a ∧ a ≤ 1000
  rotate_left
  · have e : prof l a w = [] := by unfold prof; rw [decide_eq_false ha]; rfl
    rw [decide_eq_false ha] at c1
    rw [e]
    refine fnB_enter tabOK mixes Tryz.func83 rfl rfl _ Tryz.ntmps83 _ Tryz.results83 (by simp) ?_
    try simp (config := { maxSteps := 10000000 }) only [go_sem, reduceIte, reduceCtorEq, Nat.reduceEqDiff, Nat.reduceLT, Nat.reduceLeDiff, Nat.reduceAdd, Nat.reduceBEq, Nat.reduceMul, Int.reduceToNat, Int.reduceLE, Int.reduceLT, Int.reduceEq, Int.reduceNeg, d0]
    repeat (refine And.intro (by first | omega | (constructor <;> omega) | kernel_rfl) ?_)
    refine CallW.mk (c1) ?_
    try simp (config := { maxSteps := 10000000 }) only [go_sem, reduceIte, reduceCtorEq, Nat.reduceEqDiff, Nat.reduceLT, Nat.reduceLeDiff, Nat.reduceAdd, Nat.reduceBEq, Nat.reduceMul, Int.reduceToNat, Int.reduceLE, Int.reduceLT, Int.reduceEq, Int.reduceNeg]
  rw [decide_eq_true ha] at c1
  have hcp := CN_prof (l := l) (a := a) hc (by omega)
  have hlp : (profW l a w).length = l.length := by unfold profW; rw [bwR_len, fwR_len, hw]
  have hpr : prof l a w = if allGood (profW l a w) = true then profW l a w else [] := by unfold prof; rw [decide_eq_true ha, Bool.true_and]
  rw [hpr]
  refine fnB_enter tabOK mixes Tryz.func83 rfl rfl _ Tryz.ntmps83 _ Tryz.results83 (by simp) ?_
  try simp (config := { maxSteps := 10000000 }) only [go_sem, reduceIte, reduceCtorEq, Nat.reduceEqDiff, Nat.reduceLT, Nat.reduceLeDiff, Nat.reduceAdd, Nat.reduceBEq, Nat.reduceMul, Int.reduceToNat, Int.reduceLE, Int.reduceLT, Int.reduceEq, Int.reduceNeg, d0]
  repeat (refine And.intro (by first | omega | (constructor <;> omega) | kernel_rfl) ?_)
  refine CallW.mk (c1) ?_
  try simp (config := { maxSteps := 10000000 }) only [go_sem, reduceIte, reduceCtorEq, Nat.reduceEqDiff, Nat.reduceLT, Nat.reduceLeDiff, Nat.reduceAdd, Nat.reduceBEq, Nat.reduceMul, Int.reduceToNat, Int.reduceLE, Int.reduceLT, Int.reduceEq, Int.reduceNeg]
  refine LoopG.intro _ _ _ (fun i : Nat => ⟨[(0, .sl tPoint l), (1, .row 0 0), (2, .sc (.int .i64 a)), (7, .sc (.int .i64 ((i : Int) + 1)))], [(0, .row 36 tRat 0 false (fwR l a i w))]⟩) (fun i => i + 1 ≤ l.length) (fun i => l.length - i) 0 ?_ (by omega) ?_
  · refine Wk.mk [] ?_
    try simp (config := { maxSteps := 10000000 }) only [go_sem, reduceIte, reduceCtorEq, Nat.reduceEqDiff, Nat.reduceLT, Nat.reduceLeDiff, Nat.reduceAdd, Nat.reduceBEq, Nat.reduceMul, Int.reduceToNat, Int.reduceLE, Int.reduceLT, Int.reduceEq, Int.reduceNeg]
    try (and_intros <;> first | rfl | omega | exact ⟨_, rfl⟩)
  · rintro i hi
    have hWl := fwR_len l a i w
    have hWc := CN_fw (l := l) (a := a) hc i (by omega)
    have e1 : ((i : Int) + 1 - 1).toNat = i := by omega
    have e2 : ((i : Int) + 1).toNat = i + 1 := by omega
    generalize hW : fwR l a i w = W at hWl hWc ⊢
    try simp (config := { maxSteps := 10000000 }) only [go_sem, reduceIte, reduceCtorEq, Nat.reduceEqDiff, Nat.reduceLT, Nat.reduceLeDiff, Nat.reduceAdd, Nat.reduceBEq, Nat.reduceMul, Int.reduceToNat, Int.reduceLE, Int.reduceLT, Int.reduceEq, Int.reduceNeg, hWl]
    refine CondW_dec (fun hA => ?_) (fun hA => ?_)
    · have hst : fwR l a (i + 1) w = W.set ((i : Int) + 1).toNat (oD (minO (vl W (i + 1)) (addO (vl W i) (gn a (pn l i) (pn l (i + 1)))))) := by
        rw [e2, ← hW]; rfl
      have c4 : Fn Tryz.prog 125 [⟨tPoint, nth (t := tPoint) l ((i : Int) + 1 - 1).toNat⟩, ⟨tPoint, nth (t := tPoint) l ((i : Int) + 1).toNat⟩, ⟨.int, a⟩] true [⟨tRat, oD (gn a (pn l i) (pn l (i + 1)))⟩] := by
        rw [e1, e2]; exact l26Gain_fn _ _ a ha
      have c5 : Fn Tryz.prog 47 [⟨tRat, nth (t := tRat) W ((i : Int) + 1 - 1).toNat⟩, ⟨tRat, oD (gn a (pn l i) (pn l (i + 1)))⟩] true [⟨tRat, oD (addO (vl W i) (gn a (pn l i) (pn l (i + 1))))⟩] := by
        have := specRatAdd_fn (nth (t := tRat) W i) (oD (gn a (pn l i) (pn l (i + 1))))
        rw [rdO_oD (okO_gn _ _ _)] at this
        rw [e1]; exact this
      have c6 : Fn Tryz.prog 124 [⟨tRat, nth (t := tRat) W ((i : Int) + 1).toNat⟩, ⟨tRat, oD (addO (vl W i) (gn a (pn l i) (pn l (i + 1))))⟩] true [⟨tRat, oD (minO (vl W (i + 1)) (addO (vl W i) (gn a (pn l i) (pn l (i + 1)))))⟩] := by
        have := specRatMin_fn (nth (t := tRat) W (i + 1)) (oD (addO (vl W i) (gn a (pn l i) (pn l (i + 1)))))
        rw [rdO_oD (okO_add _ _)] at this
        rw [e2]; exact this
      try simp (config := { maxSteps := 10000000 }) only [go_sem, reduceIte, reduceCtorEq, Nat.reduceEqDiff, Nat.reduceLT, Nat.reduceLeDiff, Nat.reduceAdd, Nat.reduceBEq, Nat.reduceMul, Int.reduceToNat, Int.reduceLE, Int.reduceLT, Int.reduceEq, Int.reduceNeg]
      repeat (refine And.intro (by first | omega | (constructor <;> omega) | kernel_rfl) ?_)
      repeat (refine And.intro (by first | omega | (constructor <;> omega) | kernel_rfl) ?_)
      refine CallW.mk (c4) ?_
      try simp (config := { maxSteps := 10000000 }) only [go_sem, reduceIte, reduceCtorEq, Nat.reduceEqDiff, Nat.reduceLT, Nat.reduceLeDiff, Nat.reduceAdd, Nat.reduceBEq, Nat.reduceMul, Int.reduceToNat, Int.reduceLE, Int.reduceLT, Int.reduceEq, Int.reduceNeg]
      repeat (refine And.intro (by first | omega | (constructor <;> omega) | kernel_rfl) ?_)
      refine CallW.mk (c5) ?_
      try simp (config := { maxSteps := 10000000 }) only [go_sem, reduceIte, reduceCtorEq, Nat.reduceEqDiff, Nat.reduceLT, Nat.reduceLeDiff, Nat.reduceAdd, Nat.reduceBEq, Nat.reduceMul, Int.reduceToNat, Int.reduceLE, Int.reduceLT, Int.reduceEq, Int.reduceNeg]
      repeat (refine And.intro (by first | omega | (constructor <;> omega) | kernel_rfl) ?_)
      refine CallW.mk (c6) ?_
      try simp (config := { maxSteps := 10000000 }) only [go_sem, reduceIte, reduceCtorEq, Nat.reduceEqDiff, Nat.reduceLT, Nat.reduceLeDiff, Nat.reduceAdd, Nat.reduceBEq, Nat.reduceMul, Int.reduceToNat, Int.reduceLE, Int.reduceLT, Int.reduceEq, Int.reduceNeg]
      repeat (refine And.intro (by first | omega | (constructor <;> omega) | kernel_rfl) ?_)
      refine LoopK.mk (i + 1) ?_ (by omega) (by omega)
      rw [hst]
      refine Wk.mk [] ?_
      try simp (config := { maxSteps := 10000000 }) only [go_sem, reduceIte, reduceCtorEq, Nat.reduceEqDiff, Nat.reduceLT, Nat.reduceLeDiff, Nat.reduceAdd, Nat.reduceBEq, Nat.reduceMul, Int.reduceToNat, Int.reduceLE, Int.reduceLT, Int.reduceEq, Int.reduceNeg]
      try (and_intros <;> first | rfl | omega | exact ⟨_, rfl⟩)
    · have hin : i = l.length - 1 := by omega
      have hWe : W = fwR l a (w.length - 1) w := by rw [← hW, hin, hw]
      try simp (config := { maxSteps := 10000000 }) only [go_sem, reduceIte, reduceCtorEq, Nat.reduceEqDiff, Nat.reduceLT, Nat.reduceLeDiff, Nat.reduceAdd, Nat.reduceBEq, Nat.reduceMul, Int.reduceToNat, Int.reduceLE, Int.reduceLT, Int.reduceEq, Int.reduceNeg]
      repeat (refine And.intro (by first | omega | (constructor <;> omega) | kernel_rfl) ?_)
      try simp (config := { maxSteps := 10000000 }) only [go_sem, reduceIte, reduceCtorEq, Nat.reduceEqDiff, Nat.reduceLT, Nat.reduceLeDiff, Nat.reduceAdd, Nat.reduceBEq, Nat.reduceMul, Int.reduceToNat, Int.reduceLE, Int.reduceLT, Int.reduceEq, Int.reduceNeg, hWl]
      repeat (refine And.intro (by first | omega | (constructor <;> omega) | kernel_rfl) ?_)
      refine LoopG.intro _ _ _ (fun j : Nat => ⟨[(0, .sl tPoint l), (1, .row 0 0), (2, .sc (.int .i64 a)), (8, .sc (.int .i64 ((w.length : Int) - 2 - j)))], [(0, .row 36 tRat 0 false (bwR l a w.length j W))]⟩) (fun j => j + 1 ≤ w.length) (fun j => w.length - j) 0 ?_ (by omega) ?_
      · refine Wk.mk [] ?_
        try simp (config := { maxSteps := 10000000 }) only [go_sem, reduceIte, reduceCtorEq, Nat.reduceEqDiff, Nat.reduceLT, Nat.reduceLeDiff, Nat.reduceAdd, Nat.reduceBEq, Nat.reduceMul, Int.reduceToNat, Int.reduceLE, Int.reduceLT, Int.reduceEq, Int.reduceNeg]
        try (and_intros <;> first | rfl | omega | exact ⟨_, rfl⟩)
      · rintro j hj
        have hVl := bwR_len l a w.length j W
        have hVc := CN_bw (l := l) (a := a) (n := w.length) hWc hWl j (by omega)
        generalize hV : bwR l a w.length j W = V at hVl hVc ⊢
        try simp (config := { maxSteps := 10000000 }) only [go_sem, reduceIte, reduceCtorEq, Nat.reduceEqDiff, Nat.reduceLT, Nat.reduceLeDiff, Nat.reduceAdd, Nat.reduceBEq, Nat.reduceMul, Int.reduceToNat, Int.reduceLE, Int.reduceLT, Int.reduceEq, Int.reduceNeg]
        refine CondW_dec (fun hB => ?_) (fun hB => ?_)
        · have e1 : ((w.length : Int) - 2 - j).toNat = w.length - 2 - j := by omega
          have e2 : ((w.length : Int) - 2 - j + 1).toNat = w.length - 2 - j + 1 := by omega
          have hst : bwR l a w.length (j + 1) W = V.set ((w.length : Int) - 2 - j).toNat (oD (minO (vl V (w.length - 2 - j)) (addO (vl V (w.length - 2 - j + 1)) (gn a (pn l (w.length - 2 - j)) (pn l (w.length - 2 - j + 1)))))) := by
            rw [e1, ← hV]; rfl
          have c4 : Fn Tryz.prog 125 [⟨tPoint, nth (t := tPoint) l ((w.length : Int) - 2 - j).toNat⟩, ⟨tPoint, nth (t := tPoint) l ((w.length : Int) - 2 - j + 1).toNat⟩, ⟨.int, a⟩] true [⟨tRat, oD (gn a (pn l (w.length - 2 - j)) (pn l (w.length - 2 - j + 1)))⟩] := by
            rw [e1, e2]; exact l26Gain_fn _ _ a ha
          have c5 : Fn Tryz.prog 47 [⟨tRat, nth (t := tRat) V ((w.length : Int) - 2 - j + 1).toNat⟩, ⟨tRat, oD (gn a (pn l (w.length - 2 - j)) (pn l (w.length - 2 - j + 1)))⟩] true [⟨tRat, oD (addO (vl V (w.length - 2 - j + 1)) (gn a (pn l (w.length - 2 - j)) (pn l (w.length - 2 - j + 1))))⟩] := by
            have := specRatAdd_fn (nth (t := tRat) V (w.length - 2 - j + 1)) (oD (gn a (pn l (w.length - 2 - j)) (pn l (w.length - 2 - j + 1))))
            rw [rdO_oD (okO_gn _ _ _)] at this
            rw [e2]; exact this
          have c6 : Fn Tryz.prog 124 [⟨tRat, nth (t := tRat) V ((w.length : Int) - 2 - j).toNat⟩, ⟨tRat, oD (addO (vl V (w.length - 2 - j + 1)) (gn a (pn l (w.length - 2 - j)) (pn l (w.length - 2 - j + 1))))⟩] true [⟨tRat, oD (minO (vl V (w.length - 2 - j)) (addO (vl V (w.length - 2 - j + 1)) (gn a (pn l (w.length - 2 - j)) (pn l (w.length - 2 - j + 1)))))⟩] := by
            have := specRatMin_fn (nth (t := tRat) V (w.length - 2 - j)) (oD (addO (vl V (w.length - 2 - j + 1)) (gn a (pn l (w.length - 2 - j)) (pn l (w.length - 2 - j + 1)))))
            rw [rdO_oD (okO_add _ _)] at this
            rw [e1]; exact this
          try simp (config := { maxSteps := 10000000 }) only [go_sem, reduceIte, reduceCtorEq, Nat.reduceEqDiff, Nat.reduceLT, Nat.reduceLeDiff, Nat.reduceAdd, Nat.reduceBEq, Nat.reduceMul, Int.reduceToNat, Int.reduceLE, Int.reduceLT, Int.reduceEq, Int.reduceNeg]
          repeat (refine And.intro (by first | omega | (constructor <;> omega) | kernel_rfl) ?_)
          repeat (refine And.intro (by first | omega | (constructor <;> omega) | kernel_rfl) ?_)
          refine CallW.mk (c4) ?_
          try simp (config := { maxSteps := 10000000 }) only [go_sem, reduceIte, reduceCtorEq, Nat.reduceEqDiff, Nat.reduceLT, Nat.reduceLeDiff, Nat.reduceAdd, Nat.reduceBEq, Nat.reduceMul, Int.reduceToNat, Int.reduceLE, Int.reduceLT, Int.reduceEq, Int.reduceNeg]
          repeat (refine And.intro (by first | omega | (constructor <;> omega) | kernel_rfl) ?_)
          refine CallW.mk (c5) ?_
          try simp (config := { maxSteps := 10000000 }) only [go_sem, reduceIte, reduceCtorEq, Nat.reduceEqDiff, Nat.reduceLT, Nat.reduceLeDiff, Nat.reduceAdd, Nat.reduceBEq, Nat.reduceMul, Int.reduceToNat, Int.reduceLE, Int.reduceLT, Int.reduceEq, Int.reduceNeg]
          repeat (refine And.intro (by first | omega | (constructor <;> omega) | kernel_rfl) ?_)
          refine CallW.mk (c6) ?_
          try simp (config := { maxSteps := 10000000 }) only [go_sem, reduceIte, reduceCtorEq, Nat.reduceEqDiff, Nat.reduceLT, Nat.reduceLeDiff, Nat.reduceAdd, Nat.reduceBEq, Nat.reduceMul, Int.reduceToNat, Int.reduceLE, Int.reduceLT, Int.reduceEq, Int.reduceNeg]
          repeat (refine And.intro (by first | omega | (constructor <;> omega) | kernel_rfl) ?_)
          refine LoopK.mk (j + 1) ?_ (by omega) (by omega)
          rw [hst]
          refine Wk.mk [] ?_
          try simp (config := { maxSteps := 10000000 }) only [go_sem, reduceIte, reduceCtorEq, Nat.reduceEqDiff, Nat.reduceLT, Nat.reduceLeDiff, Nat.reduceAdd, Nat.reduceBEq, Nat.reduceMul, Int.reduceToNat, Int.reduceLE, Int.reduceLT, Int.reduceEq, Int.reduceNeg]
          try (and_intros <;> first | rfl | omega | exact ⟨_, rfl⟩)
        · have hVe : V = profW l a w := by unfold profW; rw [← hV, ← hWe, show j = w.length - 1 by omega]
          rw [← hVe]
          clear hV
          try simp (config := { maxSteps := 10000000 }) only [go_sem, reduceIte, reduceCtorEq, Nat.reduceEqDiff, Nat.reduceLT, Nat.reduceLeDiff, Nat.reduceAdd, Nat.reduceBEq, Nat.reduceMul, Int.reduceToNat, Int.reduceLE, Int.reduceLT, Int.reduceEq, Int.reduceNeg]
          refine LoopG.intro _ _ _ (fun k : Nat => ⟨[(1, .row 0 0), (82, .row 0 0), (83, .sc (.int .i64 V.length)), (84, .sc (.int .i64 k))], [(0, .row 36 tRat 0 false V)]⟩) (fun k => ∀ q, q < k → q < V.length → okR (nth (t := tRat) V q) = true) (fun k => V.length - k) 0 ?_ (fun q h => absurd h (Nat.not_lt_zero _)) ?_
          · refine Wk.mk [] ?_
            try simp (config := { maxSteps := 10000000 }) only [go_sem, reduceIte, reduceCtorEq, Nat.reduceEqDiff, Nat.reduceLT, Nat.reduceLeDiff, Nat.reduceAdd, Nat.reduceBEq, Nat.reduceMul, Int.reduceToNat, Int.reduceLE, Int.reduceLT, Int.reduceEq, Int.reduceNeg]
            try (and_intros <;> first | rfl | omega | exact ⟨_, rfl⟩)
          · rintro k hk
            try simp (config := { maxSteps := 10000000 }) only [go_sem, reduceIte, reduceCtorEq, Nat.reduceEqDiff, Nat.reduceLT, Nat.reduceLeDiff, Nat.reduceAdd, Nat.reduceBEq, Nat.reduceMul, Int.reduceToNat, Int.reduceLE, Int.reduceLT, Int.reduceEq, Int.reduceNeg]
            refine CondW_dec (fun hD => ?_) (fun hD => ?_)
            · have c7 := specRatOk_fn (nth (t := tRat) V k)
              cases ho : okR (nth (t := tRat) V k) <;> rw [ho] at c7
              · rw [if_neg (by rw [good_no (by omega) ho]; decide)]
                try simp (config := { maxSteps := 10000000 }) only [go_sem, reduceIte, reduceCtorEq, Nat.reduceEqDiff, Nat.reduceLT, Nat.reduceLeDiff, Nat.reduceAdd, Nat.reduceBEq, Nat.reduceMul, Int.reduceToNat, Int.reduceLE, Int.reduceLT, Int.reduceEq, Int.reduceNeg]
                repeat (refine And.intro (by first | omega | (constructor <;> omega) | kernel_rfl) ?_)
                repeat (refine And.intro (by first | omega | (constructor <;> omega) | kernel_rfl) ?_)
                refine CallW.mk (c7) ?_
                try simp (config := { maxSteps := 10000000 }) only [go_sem, reduceIte, reduceCtorEq, Nat.reduceEqDiff, Nat.reduceLT, Nat.reduceLeDiff, Nat.reduceAdd, Nat.reduceBEq, Nat.reduceMul, Int.reduceToNat, Int.reduceLE, Int.reduceLT, Int.reduceEq, Int.reduceNeg]
              · try simp (config := { maxSteps := 10000000 }) only [go_sem, reduceIte, reduceCtorEq, Nat.reduceEqDiff, Nat.reduceLT, Nat.reduceLeDiff, Nat.reduceAdd, Nat.reduceBEq, Nat.reduceMul, Int.reduceToNat, Int.reduceLE, Int.reduceLT, Int.reduceEq, Int.reduceNeg]
                repeat (refine And.intro (by first | omega | (constructor <;> omega) | kernel_rfl) ?_)
                repeat (refine And.intro (by first | omega | (constructor <;> omega) | kernel_rfl) ?_)
                refine CallW.mk (c7) ?_
                try simp (config := { maxSteps := 10000000 }) only [go_sem, reduceIte, reduceCtorEq, Nat.reduceEqDiff, Nat.reduceLT, Nat.reduceLeDiff, Nat.reduceAdd, Nat.reduceBEq, Nat.reduceMul, Int.reduceToNat, Int.reduceLE, Int.reduceLT, Int.reduceEq, Int.reduceNeg]
                repeat (refine And.intro (by first | omega | (constructor <;> omega) | kernel_rfl) ?_)
                refine LoopK.mk (k + 1) ?_ (fun q h1 h2 => ?_) (by omega)
                · refine Wk.mk [] ?_
                  try simp (config := { maxSteps := 10000000 }) only [go_sem, reduceIte, reduceCtorEq, Nat.reduceEqDiff, Nat.reduceLT, Nat.reduceLeDiff, Nat.reduceAdd, Nat.reduceBEq, Nat.reduceMul, Int.reduceToNat, Int.reduceLE, Int.reduceLT, Int.reduceEq, Int.reduceNeg]
                  try (and_intros <;> first | rfl | omega | exact ⟨_, rfl⟩)
                · by_cases h3 : q < k
                  · exact hk q h3 h2
                  · rw [show q = k by omega]; exact ho
            · rw [if_pos (good_of fun q hq => hk q (by omega) hq)]
              try simp (config := { maxSteps := 10000000 }) only [go_sem, reduceIte, reduceCtorEq, Nat.reduceEqDiff, Nat.reduceLT, Nat.reduceLeDiff, Nat.reduceAdd, Nat.reduceBEq, Nat.reduceMul, Int.reduceToNat, Int.reduceLE, Int.reduceLT, Int.reduceEq, Int.reduceNeg]
              all_goals repeat (refine And.intro (by first | omega | (constructor <;> omega) | kernel_rfl) ?_)
              all_goals first | kernel_rfl | omega | rfl
end Go.Proofs.YtgffgcpcjpjfgaaGreat.DW

/-
  Profiles of speed: from the limits to the profile.
-/
namespace Go.Proofs.YtgffgcpcjpjfgaaGreat.DW
open Go.RowKit
theorem implProfile_nil (l : List DP) (a : Int) : Fn Tryz.prog 85 [⟨.slice tPoint, l⟩, ⟨.slice tRat, []⟩, ⟨.int, a⟩] true [⟨.slice tRat, []⟩] := by
  have d0 : decide (((0 : Nat) : Int) = 0) = true := by decide
  refine fn_enter tabOK mixes Tryz.func85 rfl rfl _ Tryz.ntmps85 _ Tryz.results85 (by simp) fun hwf => ?_
  try simp (config := { maxSteps := 10000000 }) only [go_sem, reduceIte, reduceCtorEq, Nat.reduceEqDiff, Nat.reduceLT, Nat.reduceLeDiff, Nat.reduceAdd, Nat.reduceBEq, Nat.reduceMul, Int.reduceToNat, Int.reduceLE, Int.reduceLT, Int.reduceEq, Int.reduceNeg, d0]
theorem specProfile_nil (l : List DP) (a : Int) : Fn Tryz.prog 83 [⟨.slice tPoint, l⟩, ⟨.slice tRat, []⟩, ⟨.int, a⟩] true [⟨.slice tRat, []⟩] := by
  have d0 : decide (((0 : Nat) : Int) = 0) = true := by decide
  refine fn_enter tabOK mixes Tryz.func83 rfl rfl _ Tryz.ntmps83 _ Tryz.results83 (by simp) fun hwf => ?_
  try simp (config := { maxSteps := 10000000 }) only [go_sem, reduceIte, reduceCtorEq, Nat.reduceEqDiff, Nat.reduceLT, Nat.reduceLeDiff, Nat.reduceAdd, Nat.reduceBEq, Nat.reduceMul, Int.reduceToNat, Int.reduceLE, Int.reduceLT, Int.reduceEq, Int.reduceNeg, d0]
/-- The profile of a path. -/
noncomputable def spf (l : List DP) (lims : List Int) (a : Int) : List DR := @ite _ (spdOk l.length lims) (Classical.propDecidable _) (prof l a (spdL l.length lims l.length)) []
theorem spf_t {l : List DP} {lims : List Int} {a : Int} (h : spdOk l.length lims) : spf l lims a = prof l a (spdL l.length lims l.length) := if_pos h
theorem spf_f {l : List DP} {lims : List Int} {a : Int} (h : ¬ spdOk l.length lims) : spf l lims a = [] := if_neg h
theorem implSpeedProfile_fn (l : List DP) (lims : List Int) (a : Int) (hl : l.length ≤ 1048576) (hll : lims.length ≤ 1048576) : Fn Tryz.prog 34 [⟨.slice tPoint, l⟩, ⟨tInts, lims⟩, ⟨.int, a⟩] true [⟨.slice tRat, spf l lims a⟩] := by
  by_cases hok : spdOk l.length lims
  · have h0 : 0 < l.length := by have := hok.1; omega
    have cG := implSpeedLimitsG l.length lims (by omega) hok
    have hn : ((l.length : Int)).toNat = l.length := by omega
    rw [hn] at cG
    have cB := implProfile_fb l a (spdL l.length lims l.length) (spdL_len ..) h0 (by omega) (CN_spd hok _)
    rw [spf_t hok]
    refine fn_tail tabOK Tryz.func34 rfl rfl _ Tryz.ntmps34 _ Tryz.results34 (by simp) fun hwf => ?_
    refine TW.seq tabOK mixes ?_
    try simp (config := { maxSteps := 10000000 }) only [go_sem, reduceIte, reduceCtorEq, Nat.reduceEqDiff, Nat.reduceLT, Nat.reduceLeDiff, Nat.reduceAdd, Nat.reduceBEq, Nat.reduceMul, Int.reduceToNat, Int.reduceLE, Int.reduceLT, Int.reduceEq, Int.reduceNeg]
    refine TW.then tabOK mixes ?_
    refine TW.tail (own := true) (r := ⟨.slice tRat, prof l a (spdL l.length lims l.length)⟩) tabOK 6 rfl ?_
    try simp (config := { maxSteps := 10000000 }) only [go_sem, reduceIte, reduceCtorEq, Nat.reduceEqDiff, Nat.reduceLT, Nat.reduceLeDiff, Nat.reduceAdd, Nat.reduceBEq, Nat.reduceMul, Int.reduceToNat, Int.reduceLE, Int.reduceLT, Int.reduceEq, Int.reduceNeg]
    repeat (refine And.intro (by first | omega | (constructor <;> omega) | kernel_rfl) ?_)
    refine CallW.g (cG) ?_
    try simp (config := { maxSteps := 10000000 }) only [go_sem, reduceIte, reduceCtorEq, Nat.reduceEqDiff, Nat.reduceLT, Nat.reduceLeDiff, Nat.reduceAdd, Nat.reduceBEq, Nat.reduceMul, Int.reduceToNat, Int.reduceLE, Int.reduceLT, Int.reduceEq, Int.reduceNeg]
    refine ⟨⟨[(7, .sl tPoint l), (11, .row 0 0), (12, .sc (.int .i64 a))], [(0, .row 36 tRat 0 true (spdL l.length lims l.length))]⟩, [.sl tPoint l, .row 0 0, .sc (.int .i64 a)], ?_, rfl, rfl, cB, by omega, ?_⟩
    · refine Wk.mk [] ?_
      try simp (config := { maxSteps := 10000000 }) only [go_sem, reduceIte, reduceCtorEq, Nat.reduceEqDiff, Nat.reduceLT, Nat.reduceLeDiff, Nat.reduceAdd, Nat.reduceBEq, Nat.reduceMul, Int.reduceToNat, Int.reduceLE, Int.reduceLT, Int.reduceEq, Int.reduceNeg]
      try (and_intros <;> first | rfl | omega | exact ⟨_, rfl⟩)
    · try simp (config := { maxSteps := 10000000 }) only [go_sem, reduceIte, reduceCtorEq, Nat.reduceEqDiff, Nat.reduceLT, Nat.reduceLeDiff, Nat.reduceAdd, Nat.reduceBEq, Nat.reduceMul, Int.reduceToNat, Int.reduceLE, Int.reduceLT, Int.reduceEq, Int.reduceNeg, resV, resM']
      all_goals repeat (refine And.intro (by first | omega | (constructor <;> omega) | kernel_rfl) ?_)
      all_goals first | kernel_rfl | omega | rfl
  · have c1 := implSpeedLimits_fn l.length lims (by omega)
    rw [spd_f hok] at c1
    rw [spf_f hok]
    have c2 := implProfile_nil l a
    refine fn_enter tabOK mixes Tryz.func34 rfl rfl _ Tryz.ntmps34 _ Tryz.results34 (by simp) fun hwf => ?_
    try simp (config := { maxSteps := 10000000 }) only [go_sem, reduceIte, reduceCtorEq, Nat.reduceEqDiff, Nat.reduceLT, Nat.reduceLeDiff, Nat.reduceAdd, Nat.reduceBEq, Nat.reduceMul, Int.reduceToNat, Int.reduceLE, Int.reduceLT, Int.reduceEq, Int.reduceNeg]
    repeat (refine And.intro (by first | omega | (constructor <;> omega) | kernel_rfl) ?_)
    refine CallW.mk (c1) ?_
    try simp (config := { maxSteps := 10000000 }) only [go_sem, reduceIte, reduceCtorEq, Nat.reduceEqDiff, Nat.reduceLT, Nat.reduceLeDiff, Nat.reduceAdd, Nat.reduceBEq, Nat.reduceMul, Int.reduceToNat, Int.reduceLE, Int.reduceLT, Int.reduceEq, Int.reduceNeg]
    repeat (refine And.intro (by first | omega | (constructor <;> omega) | kernel_rfl) ?_)
    refine CallW.mk (c2) ?_
    try simp (config := { maxSteps := 10000000 }) only [go_sem, reduceIte, reduceCtorEq, Nat.reduceEqDiff, Nat.reduceLT, Nat.reduceLeDiff, Nat.reduceAdd, Nat.reduceBEq, Nat.reduceMul, Int.reduceToNat, Int.reduceLE, Int.reduceLT, Int.reduceEq, Int.reduceNeg]
    all_goals repeat (refine And.intro (by first | omega | (constructor <;> omega) | kernel_rfl) ?_)
    all_goals first | kernel_rfl | omega | rfl
theorem specSpeedProfile_fn (l : List DP) (lims : List Int) (a : Int) (hl : l.length ≤ 1048576) (hll : lims.length ≤ 1048576) : Fn Tryz.prog 31 [⟨.slice tPoint, l⟩, ⟨tInts, lims⟩, ⟨.int, a⟩] false [⟨.slice tRat, spf l lims a⟩] := by
  by_cases hok : spdOk l.length lims
  · have h0 : 0 < l.length := by have := hok.1; omega
    have cG := specSpeedLimitsG l.length lims (by omega) hok
    have hn : ((l.length : Int)).toNat = l.length := by omega
    rw [hn] at cG
    have cB := specProfile_fb l a (spdL l.length lims l.length) (spdL_len ..) h0 (by omega) (CN_spd hok _)
    rw [spf_t hok]
    refine fn_tail tabOK Tryz.func31 rfl rfl _ Tryz.ntmps31 _ Tryz.results31 (by simp) fun hwf => ?_
    refine TW.seq tabOK mixes ?_
    try simp (config := { maxSteps := 10000000 }) only [go_sem, reduceIte, reduceCtorEq, Nat.reduceEqDiff, Nat.reduceLT, Nat.reduceLeDiff, Nat.reduceAdd, Nat.reduceBEq, Nat.reduceMul, Int.reduceToNat, Int.reduceLE, Int.reduceLT, Int.reduceEq, Int.reduceNeg]
    refine TW.then tabOK mixes ?_
    refine TW.tail (own := false) (r := ⟨.slice tRat, prof l a (spdL l.length lims l.length)⟩) tabOK 6 rfl ?_
    try simp (config := { maxSteps := 10000000 }) only [go_sem, reduceIte, reduceCtorEq, Nat.reduceEqDiff, Nat.reduceLT, Nat.reduceLeDiff, Nat.reduceAdd, Nat.reduceBEq, Nat.reduceMul, Int.reduceToNat, Int.reduceLE, Int.reduceLT, Int.reduceEq, Int.reduceNeg]
    repeat (refine And.intro (by first | omega | (constructor <;> omega) | kernel_rfl) ?_)
    refine CallW.g (cG) ?_
    try simp (config := { maxSteps := 10000000 }) only [go_sem, reduceIte, reduceCtorEq, Nat.reduceEqDiff, Nat.reduceLT, Nat.reduceLeDiff, Nat.reduceAdd, Nat.reduceBEq, Nat.reduceMul, Int.reduceToNat, Int.reduceLE, Int.reduceLT, Int.reduceEq, Int.reduceNeg]
    refine ⟨⟨[(7, .sl tPoint l), (11, .row 0 0), (12, .sc (.int .i64 a))], [(0, .row 36 tRat 0 true (spdL l.length lims l.length))]⟩, [.sl tPoint l, .row 0 0, .sc (.int .i64 a)], ?_, rfl, rfl, cB, by omega, ?_⟩
    · refine Wk.mk [] ?_
      try simp (config := { maxSteps := 10000000 }) only [go_sem, reduceIte, reduceCtorEq, Nat.reduceEqDiff, Nat.reduceLT, Nat.reduceLeDiff, Nat.reduceAdd, Nat.reduceBEq, Nat.reduceMul, Int.reduceToNat, Int.reduceLE, Int.reduceLT, Int.reduceEq, Int.reduceNeg]
      try (and_intros <;> first | rfl | omega | exact ⟨_, rfl⟩)
    · try simp (config := { maxSteps := 10000000 }) only [go_sem, reduceIte, reduceCtorEq, Nat.reduceEqDiff, Nat.reduceLT, Nat.reduceLeDiff, Nat.reduceAdd, Nat.reduceBEq, Nat.reduceMul, Int.reduceToNat, Int.reduceLE, Int.reduceLT, Int.reduceEq, Int.reduceNeg, resV, resM']
      all_goals repeat (refine And.intro (by first | omega | (constructor <;> omega) | kernel_rfl) ?_)
      all_goals first | kernel_rfl | omega | rfl
  · have c1 := specSpeedLimits_fn l.length lims (by omega)
    rw [spd_f hok] at c1
    rw [spf_f hok]
    have c2 := specProfile_nil l a
    refine fn_enter tabOK mixes Tryz.func31 rfl rfl _ Tryz.ntmps31 _ Tryz.results31 (by simp) fun hwf => ?_
    try simp (config := { maxSteps := 10000000 }) only [go_sem, reduceIte, reduceCtorEq, Nat.reduceEqDiff, Nat.reduceLT, Nat.reduceLeDiff, Nat.reduceAdd, Nat.reduceBEq, Nat.reduceMul, Int.reduceToNat, Int.reduceLE, Int.reduceLT, Int.reduceEq, Int.reduceNeg]
    repeat (refine And.intro (by first | omega | (constructor <;> omega) | kernel_rfl) ?_)
    refine CallW.mk (c1) ?_
    try simp (config := { maxSteps := 10000000 }) only [go_sem, reduceIte, reduceCtorEq, Nat.reduceEqDiff, Nat.reduceLT, Nat.reduceLeDiff, Nat.reduceAdd, Nat.reduceBEq, Nat.reduceMul, Int.reduceToNat, Int.reduceLE, Int.reduceLT, Int.reduceEq, Int.reduceNeg]
    repeat (refine And.intro (by first | omega | (constructor <;> omega) | kernel_rfl) ?_)
    refine CallW.mk (c2) ?_
    try simp (config := { maxSteps := 10000000 }) only [go_sem, reduceIte, reduceCtorEq, Nat.reduceEqDiff, Nat.reduceLT, Nat.reduceLeDiff, Nat.reduceAdd, Nat.reduceBEq, Nat.reduceMul, Int.reduceToNat, Int.reduceLE, Int.reduceLT, Int.reduceEq, Int.reduceNeg]
    all_goals repeat (refine And.intro (by first | omega | (constructor <;> omega) | kernel_rfl) ?_)
    all_goals first | kernel_rfl | omega | rfl
theorem cn_rats {w : List DR} (h : ∀ r ∈ w, okR r = true) : cnRatS w ≤ 49 * w.length := by
  induction w with
  | nil => exact Nat.le_refl _
  | cons r l ih =>
    have h1 := okR_len (h r List.mem_cons_self)
    have h2 := ih fun x hx => h x (List.mem_cons_of_mem _ hx)
    have e : cnRatS (r :: l) = ecRat r + cnRatS l := rfl
    have e2 : ecRat r ≤ 49 := by
      show 1 + r.1.2.length + r.2.length ≤ 49
      omega
    rw [e, List.length_cons]; omega
theorem cn_prof {l : List DP} {a : Int} {w : List DR} (hl : w.length ≤ 1048577) : cnRatS (prof l a w) ≤ 60000000 := by
  unfold prof
  split
  · rename_i h
    rw [Bool.and_eq_true] at h
    have h1 := cn_rats (good_mem h.2)
    have h2 : (profW l a w).length = w.length := by unfold profW; rw [bwR_len, fwR_len]
    omega
  · exact Nat.zero_le _
theorem cn_spf (l : List DP) (lims : List Int) (a : Int) (hl : l.length ≤ 1048576) : cnRatS (spf l lims a) ≤ 60000000 := by
  by_cases h : spdOk l.length lims
  · rw [spf_t h]; exact cn_prof (by rw [spdL_len]; omega)
  · rw [spf_f h]; exact Nat.zero_le _
end Go.Proofs.YtgffgcpcjpjfgaaGreat.DW

/-
  The arguments' types of this program, opened: points.
-/
namespace Go.Proofs.YtgffgcpcjpjfgaaGreat
open Go.RowKit
section
variable {H : Type} {enc : TypeId × Value → H} {w : World}
theorem oPointS : Opens enc Tryz.prog w 67 RPointS := Opens.slice Tryz.underlying67 (by kernel_rfl) oPoint
end
end Go.Proofs.YtgffgcpcjpjfgaaGreat

/-
  The law FnExactSpeedProfile returns true: the walk through it on data, by the contracts.
-/
namespace Go.Proofs.YtgffgcpcjpjfgaaGreat.DW
open Go.RowKit

set_option maxRecDepth 100000 in
set_option maxHeartbeats 8000000 in
theorem lawSpeedProfile_fn (x0 : DPointS) (x1 : DIntS) (n2 : Int) : Fn Tryz.prog 6 [⟨.slice DW.tPoint, x0⟩, ⟨DW.tInts, x1⟩, ⟨.int, n2⟩] false [⟨.bool, true⟩] := by
  refine fn_enter tabOK mixes Tryz.func6 rfl rfl _ Tryz.ntmps6 _ Tryz.results6 (by simp) fun hwf => ?_
  have hI2 : I64 n2 := hwf ⟨.int, n2⟩ (by simp)
  try simp (config := { maxSteps := 10000000 }) only [go_sem, reduceIte, reduceCtorEq, Nat.reduceEqDiff, Nat.reduceLT, Nat.reduceLeDiff, Nat.reduceAdd, Nat.reduceBEq, Nat.reduceMul, Int.reduceToNat, Int.reduceLE, Int.reduceLT, Int.reduceEq, Int.reduceNeg]
  repeat (refine And.intro (by first | omega | (constructor <;> omega) | kernel_rfl) ?_)
  refine CondW_dec (fun hlt => ?_) (fun hge => ?_)
  · try simp (config := { maxSteps := 10000000 }) only [go_sem, reduceIte, reduceCtorEq, Nat.reduceEqDiff, Nat.reduceLT, Nat.reduceLeDiff, Nat.reduceAdd, Nat.reduceBEq, Nat.reduceMul, Int.reduceToNat, Int.reduceLE, Int.reduceLT, Int.reduceEq, Int.reduceNeg]
  have hle1 : x1.length ≤ 1048576 := by omega
  clear hge
  try simp (config := { maxSteps := 10000000 }) only [go_sem, reduceIte, reduceCtorEq, Nat.reduceEqDiff, Nat.reduceLT, Nat.reduceLeDiff, Nat.reduceAdd, Nat.reduceBEq, Nat.reduceMul, Int.reduceToNat, Int.reduceLE, Int.reduceLT, Int.reduceEq, Int.reduceNeg]
  repeat (refine And.intro (by first | omega | (constructor <;> omega) | kernel_rfl) ?_)
  refine CallW.mk (szPointS_fn x0 1048576 (by omega) (by omega)) ?_
  try simp (config := { maxSteps := 10000000 }) only [go_sem, reduceIte, reduceCtorEq, Nat.reduceEqDiff, Nat.reduceLT, Nat.reduceLeDiff, Nat.reduceAdd, Nat.reduceBEq, Nat.reduceMul, Int.reduceToNat, Int.reduceLE, Int.reduceLT, Int.reduceEq, Int.reduceNeg]
  repeat (refine And.intro (by first | omega | (constructor <;> omega) | kernel_rfl) ?_)
  have hr0 := szr_lo 1048576 ((x0.length + Go.Proofs.YtgffgcpcjpjfgaaGreat.tPointS x0)) (by omega)
  refine CondW_dec (fun hlt => ?_) (fun hge0 => ?_)
  · try simp (config := { maxSteps := 10000000 }) only [go_sem, reduceIte, reduceCtorEq, Nat.reduceEqDiff, Nat.reduceLT, Nat.reduceLeDiff, Nat.reduceAdd, Nat.reduceBEq, Nat.reduceMul, Int.reduceToNat, Int.reduceLE, Int.reduceLT, Int.reduceEq, Int.reduceNeg]
  have hge0' : 0 ≤ szr 1048576 ((x0.length + Go.Proofs.YtgffgcpcjpjfgaaGreat.tPointS x0)) := by omega
  have hs0 := (szr_ok hge0').1
  have hle0 : (x0.length + Go.Proofs.YtgffgcpcjpjfgaaGreat.tPointS x0) ≤ 1048576 := by omega
  clear hr0 hs0 hge0 hge0'
  try simp (config := { maxSteps := 10000000 }) only [go_sem, reduceIte, reduceCtorEq, Nat.reduceEqDiff, Nat.reduceLT, Nat.reduceLeDiff, Nat.reduceAdd, Nat.reduceBEq, Nat.reduceMul, Int.reduceToNat, Int.reduceLE, Int.reduceLT, Int.reduceEq, Int.reduceNeg]
  repeat (refine And.intro (by first | omega | (constructor <;> omega) | kernel_rfl) ?_)
  refine CallW.mk (toPointS_fn x0 hle0) ?_
  try simp (config := { maxSteps := 10000000 }) only [go_sem, reduceIte, reduceCtorEq, Nat.reduceEqDiff, Nat.reduceLT, Nat.reduceLeDiff, Nat.reduceAdd, Nat.reduceBEq, Nat.reduceMul, Int.reduceToNat, Int.reduceLE, Int.reduceLT, Int.reduceEq, Int.reduceNeg]
  repeat (refine And.intro (by first | omega | (constructor <;> omega) | kernel_rfl) ?_)
  refine CallW.mk (toIntS_fn x1 hle1) ?_
  try simp (config := { maxSteps := 10000000 }) only [go_sem, reduceIte, reduceCtorEq, Nat.reduceEqDiff, Nat.reduceLT, Nat.reduceLeDiff, Nat.reduceAdd, Nat.reduceBEq, Nat.reduceMul, Int.reduceToNat, Int.reduceLE, Int.reduceLT, Int.reduceEq, Int.reduceNeg]
  repeat (refine And.intro (by first | omega | (constructor <;> omega) | kernel_rfl) ?_)
  refine CallW.mk (specSpeedProfile_fn x0 x1 n2 (by omega) (by omega)) ?_
  try simp (config := { maxSteps := 10000000 }) only [go_sem, reduceIte, reduceCtorEq, Nat.reduceEqDiff, Nat.reduceLT, Nat.reduceLeDiff, Nat.reduceAdd, Nat.reduceBEq, Nat.reduceMul, Int.reduceToNat, Int.reduceLE, Int.reduceLT, Int.reduceEq, Int.reduceNeg]
  repeat (refine And.intro (by first | omega | (constructor <;> omega) | kernel_rfl) ?_)
  refine CallW.mx (toPointS_fn x0 hle0) ?_
  try simp (config := { maxSteps := 10000000 }) only [go_sem, reduceIte, reduceCtorEq, Nat.reduceEqDiff, Nat.reduceLT, Nat.reduceLeDiff, Nat.reduceAdd, Nat.reduceBEq, Nat.reduceMul, Int.reduceToNat, Int.reduceLE, Int.reduceLT, Int.reduceEq, Int.reduceNeg]
  repeat (refine And.intro (by first | omega | (constructor <;> omega) | kernel_rfl) ?_)
  refine CallW.mx (toIntS_fn x1 hle1) ?_
  try simp (config := { maxSteps := 10000000 }) only [go_sem, reduceIte, reduceCtorEq, Nat.reduceEqDiff, Nat.reduceLT, Nat.reduceLeDiff, Nat.reduceAdd, Nat.reduceBEq, Nat.reduceMul, Int.reduceToNat, Int.reduceLE, Int.reduceLT, Int.reduceEq, Int.reduceNeg]
  repeat (refine And.intro (by first | omega | (constructor <;> omega) | kernel_rfl) ?_)
  refine CallW.mx (implSpeedProfile_fn x0 x1 n2 (by omega) (by omega)) ?_
  try simp (config := { maxSteps := 10000000 }) only [go_sem, reduceIte, reduceCtorEq, Nat.reduceEqDiff, Nat.reduceLT, Nat.reduceLeDiff, Nat.reduceAdd, Nat.reduceBEq, Nat.reduceMul, Int.reduceToNat, Int.reduceLE, Int.reduceLT, Int.reduceEq, Int.reduceNeg]
  repeat (refine And.intro (by first | omega | (constructor <;> omega) | kernel_rfl) ?_)
  refine CallW.mx (eqRatS_fn (spf x0 x1 n2) (spf x0 x1 n2)) ?_
  try simp (config := { maxSteps := 10000000 }) only [go_sem, reduceIte, reduceCtorEq, Nat.reduceEqDiff, Nat.reduceLT, Nat.reduceLeDiff, Nat.reduceAdd, Nat.reduceBEq, Nat.reduceMul, Int.reduceToNat, Int.reduceLE, Int.reduceLT, Int.reduceEq, Int.reduceNeg]
  repeat (refine And.intro (by first | omega | (constructor <;> omega) | kernel_rfl) ?_)
  refine CallW.mk (toPointS_fn x0 hle0) ?_
  try simp (config := { maxSteps := 10000000 }) only [go_sem, reduceIte, reduceCtorEq, Nat.reduceEqDiff, Nat.reduceLT, Nat.reduceLeDiff, Nat.reduceAdd, Nat.reduceBEq, Nat.reduceMul, Int.reduceToNat, Int.reduceLE, Int.reduceLT, Int.reduceEq, Int.reduceNeg]
  repeat (refine And.intro (by first | omega | (constructor <;> omega) | kernel_rfl) ?_)
  refine CallW.mx (eqPointS_fn x0 x0) ?_
  try simp (config := { maxSteps := 10000000 }) only [go_sem, reduceIte, reduceCtorEq, Nat.reduceEqDiff, Nat.reduceLT, Nat.reduceLeDiff, Nat.reduceAdd, Nat.reduceBEq, Nat.reduceMul, Int.reduceToNat, Int.reduceLE, Int.reduceLT, Int.reduceEq, Int.reduceNeg]
  repeat (refine And.intro (by first | omega | (constructor <;> omega) | kernel_rfl) ?_)
  refine CallW.mk (toIntS_fn x1 hle1) ?_
  try simp (config := { maxSteps := 10000000 }) only [go_sem, reduceIte, reduceCtorEq, Nat.reduceEqDiff, Nat.reduceLT, Nat.reduceLeDiff, Nat.reduceAdd, Nat.reduceBEq, Nat.reduceMul, Int.reduceToNat, Int.reduceLE, Int.reduceLT, Int.reduceEq, Int.reduceNeg]
  repeat (refine And.intro (by first | omega | (constructor <;> omega) | kernel_rfl) ?_)
  refine CallW.mx (eqIntS_fn x1 x1) ?_
  try simp (config := { maxSteps := 10000000 }) only [go_sem, reduceIte, reduceCtorEq, Nat.reduceEqDiff, Nat.reduceLT, Nat.reduceLeDiff, Nat.reduceAdd, Nat.reduceBEq, Nat.reduceMul, Int.reduceToNat, Int.reduceLE, Int.reduceLT, Int.reduceEq, Int.reduceNeg]
  have hc0 : Go.Proofs.YtgffgcpcjpjfgaaGreat.cnPointS x0 ≤ 3145728 := by have := Go.Proofs.YtgffgcpcjpjfgaaGreat.cnPointS_le x0; omega
  repeat (refine And.intro (by first | omega | (constructor <;> omega) | kernel_rfl) ?_)
  refine CallW.m (markPointS_fn x0 1 (by omega) (by omega)) ?_
  try simp (config := { maxSteps := 10000000 }) only [go_sem, reduceIte, reduceCtorEq, Nat.reduceEqDiff, Nat.reduceLT, Nat.reduceLeDiff, Nat.reduceAdd, Nat.reduceBEq, Nat.reduceMul, Int.reduceToNat, Int.reduceLE, Int.reduceLT, Int.reduceEq, Int.reduceNeg]
  have hc1 : x1.length ≤ 3145728 := by omega
  repeat (refine And.intro (by first | omega | (constructor <;> omega) | kernel_rfl) ?_)
  refine CallW.m (markIntS_fn x1 (1 + (Go.Proofs.YtgffgcpcjpjfgaaGreat.cnPointS x0 : Nat)) (by omega) (by omega)) ?_
  try simp (config := { maxSteps := 10000000 }) only [go_sem, reduceIte, reduceCtorEq, Nat.reduceEqDiff, Nat.reduceLT, Nat.reduceLeDiff, Nat.reduceAdd, Nat.reduceBEq, Nat.reduceMul, Int.reduceToNat, Int.reduceLE, Int.reduceLT, Int.reduceEq, Int.reduceNeg]
  have hkf : decide ((1 : Int) + (Go.Proofs.YtgffgcpcjpjfgaaGreat.cnPointS x0 : Int) + (x1.length : Int) < 0) = false := decide_eq_false (by omega)
  try simp (config := { maxSteps := 10000000 }) only [go_sem, reduceIte, reduceCtorEq, Nat.reduceEqDiff, Nat.reduceLT, Nat.reduceLeDiff, Nat.reduceAdd, Nat.reduceBEq, Nat.reduceMul, Int.reduceToNat, Int.reduceLE, Int.reduceLT, Int.reduceEq, Int.reduceNeg, hkf]
  repeat (refine And.intro (by first | omega | (constructor <;> omega) | kernel_rfl) ?_)
  refine CallW.mx (eqRatS_fn (spf x0 x1 n2) (spf x0 x1 n2)) ?_
  try simp (config := { maxSteps := 10000000 }) only [go_sem, reduceIte, reduceCtorEq, Nat.reduceEqDiff, Nat.reduceLT, Nat.reduceLeDiff, Nat.reduceAdd, Nat.reduceBEq, Nat.reduceMul, Int.reduceToNat, Int.reduceLE, Int.reduceLT, Int.reduceEq, Int.reduceNeg]
  have hcg := cn_spf x0 x1 n2 (by omega)
  repeat (refine And.intro (by first | omega | (constructor <;> omega) | kernel_rfl) ?_)
  refine CallW.m (markRatS_fn (spf x0 x1 n2) 1 (by omega) (by omega)) ?_
  try simp (config := { maxSteps := 10000000 }) only [go_sem, reduceIte, reduceCtorEq, Nat.reduceEqDiff, Nat.reduceLT, Nat.reduceLeDiff, Nat.reduceAdd, Nat.reduceBEq, Nat.reduceMul, Int.reduceToNat, Int.reduceLE, Int.reduceLT, Int.reduceEq, Int.reduceNeg]
  repeat (refine And.intro (by first | omega | (constructor <;> omega) | kernel_rfl) ?_)
  refine CallW.mx (heldRatS_fn (spf x0 x1 n2) 1 (by omega) (by omega)) ?_
  try simp (config := { maxSteps := 10000000 }) only [go_sem, reduceIte, reduceCtorEq, Nat.reduceEqDiff, Nat.reduceLT, Nat.reduceLeDiff, Nat.reduceAdd, Nat.reduceBEq, Nat.reduceMul, Int.reduceToNat, Int.reduceLE, Int.reduceLT, Int.reduceEq, Int.reduceNeg]
  repeat (refine And.intro (by first | omega | (constructor <;> omega) | kernel_rfl) ?_)
  refine CondW_dec (fun hlt => absurd hlt (by omega)) (fun _ => ?_)
  try simp (config := { maxSteps := 10000000 }) only [go_sem, reduceIte, reduceCtorEq, Nat.reduceEqDiff, Nat.reduceLT, Nat.reduceLeDiff, Nat.reduceAdd, Nat.reduceBEq, Nat.reduceMul, Int.reduceToNat, Int.reduceLE, Int.reduceLT, Int.reduceEq, Int.reduceNeg]
  repeat (refine And.intro (by first | omega | (constructor <;> omega) | kernel_rfl) ?_)
  refine CallW.mk (toPointS_fn x0 hle0) ?_
  try simp (config := { maxSteps := 10000000 }) only [go_sem, reduceIte, reduceCtorEq, Nat.reduceEqDiff, Nat.reduceLT, Nat.reduceLeDiff, Nat.reduceAdd, Nat.reduceBEq, Nat.reduceMul, Int.reduceToNat, Int.reduceLE, Int.reduceLT, Int.reduceEq, Int.reduceNeg]
  repeat (refine And.intro (by first | omega | (constructor <;> omega) | kernel_rfl) ?_)
  refine CallW.mk (toIntS_fn x1 hle1) ?_
  try simp (config := { maxSteps := 10000000 }) only [go_sem, reduceIte, reduceCtorEq, Nat.reduceEqDiff, Nat.reduceLT, Nat.reduceLeDiff, Nat.reduceAdd, Nat.reduceBEq, Nat.reduceMul, Int.reduceToNat, Int.reduceLE, Int.reduceLT, Int.reduceEq, Int.reduceNeg]
  repeat (refine And.intro (by first | omega | (constructor <;> omega) | kernel_rfl) ?_)
  refine CallW.mx (implSpeedProfile_fn x0 x1 n2 (by omega) (by omega)) ?_
  try simp (config := { maxSteps := 10000000 }) only [go_sem, reduceIte, reduceCtorEq, Nat.reduceEqDiff, Nat.reduceLT, Nat.reduceLeDiff, Nat.reduceAdd, Nat.reduceBEq, Nat.reduceMul, Int.reduceToNat, Int.reduceLE, Int.reduceLT, Int.reduceEq, Int.reduceNeg]
  repeat (refine And.intro (by first | omega | (constructor <;> omega) | kernel_rfl) ?_)
  refine CallW.mx (eqRatS_fn (spf x0 x1 n2) (spf x0 x1 n2)) ?_
  try simp (config := { maxSteps := 10000000 }) only [go_sem, reduceIte, reduceCtorEq, Nat.reduceEqDiff, Nat.reduceLT, Nat.reduceLeDiff, Nat.reduceAdd, Nat.reduceBEq, Nat.reduceMul, Int.reduceToNat, Int.reduceLE, Int.reduceLT, Int.reduceEq, Int.reduceNeg]
  repeat (refine And.intro (by first | omega | (constructor <;> omega) | kernel_rfl) ?_)
  refine CallW.mx (heldRatS_fn (spf x0 x1 n2) 1 (by omega) (by omega)) ?_
  try simp (config := { maxSteps := 10000000 }) only [go_sem, reduceIte, reduceCtorEq, Nat.reduceEqDiff, Nat.reduceLT, Nat.reduceLeDiff, Nat.reduceAdd, Nat.reduceBEq, Nat.reduceMul, Int.reduceToNat, Int.reduceLE, Int.reduceLT, Int.reduceEq, Int.reduceNeg]
  repeat (refine And.intro (by first | omega | (constructor <;> omega) | kernel_rfl) ?_)
  refine CondW_dec (fun hlt => absurd hlt (by omega)) (fun _ => ?_)
  try simp (config := { maxSteps := 10000000 }) only [go_sem, reduceIte, reduceCtorEq, Nat.reduceEqDiff, Nat.reduceLT, Nat.reduceLeDiff, Nat.reduceAdd, Nat.reduceBEq, Nat.reduceMul, Int.reduceToNat, Int.reduceLE, Int.reduceLT, Int.reduceEq, Int.reduceNeg]
end Go.Proofs.YtgffgcpcjpjfgaaGreat.DW
namespace Go.Proofs.YtgffgcpcjpjfgaaGreat
open Go.RowKit DW
theorem law_FnExactSpeedProfile (a0 : Value) (x0 : DPointS) (a1 : Value) (x1 : DIntS) (n2 : Int) (w : World) (hx0 : Has RPointS w [a0] x0) (hx1 : Has RIntS w [a1] x1) (hI2 : I64 n2) :
    Calls Tryz.prog 6 #[a0, a1, .int .i64 n2] w (Post fun r w' => r = .bool true ∧ Below w.heap.size w w') :=
  (DW.lawSpeedProfile_fn x0 x1 n2).bool (vs := [a0, a1, .int .i64 n2]) ⟨Arg.sl hx0, Arg.sl hx1, Arg.int hI2, trivial⟩
end Go.Proofs.YtgffgcpcjpjfgaaGreat
