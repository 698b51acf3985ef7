/-
  Texts of a proof, one behind another: Dw12, Dw13, Dw16, Dw18, Dw21, Dw23, Dw24, Hl1, Dw40, DwV, Dw42, Dw43, Rw1, So0, So1, Cp1, Cp2, Dw44, Dw14, Dw15, CnO, Dw22, Dw17, Dw28, Ints, Own, Copy, PtOr, Dw19, Dw41, Hv1, Hv2.
-/
import Derived.Shelf.GgSortFunc.InsertionK
import Derived.Shelf.SlSortCmp.NoneTotal
import Derived.Lib.SlicesCompact
import Derived.Shelf.RegionOpenPlain
import Derived.WalkKit
import Derived.Deep.LoopGhost
import Derived.Deep.Draws
import Derived.Lib.Walk
import Derived.Sort.WalkB12
import Derived.Lib.SliceRun
import Derived.Deep.AppendLies
import Derived.Test.YtghckbohaghgkaaGreatProg
import Derived.Deep.RegionHeld3
import Derived.Deep.RegionLaw
import Derived.Test.YtghckbohaghgkaaGreatKC3
set_option linter.all false
/-
  Fractions: sums, products, comparisons.
-/
namespace Go.Proofs.YtghckbohaghgkaaGreat.DW
open Go.RowKit
attribute [go_sem] Option.isSome_none bigD_nat
theorem isGood_n : Fn Tryz.prog 150 [⟨tRat, ((false, []), [])⟩] false [⟨.bool, false⟩] := isGood_fn none
theorem isGood_s (q : Rat) : Fn Tryz.prog 150 [⟨tRat, ratD q⟩] false [⟨.bool, true⟩] := isGood_fn (some q)
theorem ratCmp_fn (x y : Option Rat) (hx : okO x) (hy : okO y) : Fn Tryz.prog 151 [⟨tRat, oD x⟩, ⟨tRat, oD y⟩] false [⟨.int, cmpO x y⟩] := by
  cases x with
  | none =>
    refine fn_enter tabOK mixes Tryz.func151 rfl rfl _ Tryz.ntmps151 _ Tryz.results151 (by simp) fun hwf => ?_
    try simp (maxSteps := 9999999) only [go_sem]
    refine CallW.mk (isGood_n) ?_
    try simp (maxSteps := 9999999) only [go_sem]
    rfl
  | some p =>
    cases y with
    | none =>
      refine fn_enter tabOK mixes Tryz.func151 rfl rfl _ Tryz.ntmps151 _ Tryz.results151 (by simp) fun hwf => ?_
      try simp (maxSteps := 9999999) only [go_sem]
      refine CallW.mk (isGood_s p) ?_
      try simp (maxSteps := 9999999) only [go_sem]
      refine CallW.mk (isGood_n) ?_
      try simp (maxSteps := 9999999) only [go_sem]
      rfl
    | some q =>
      obtain ⟨p1, p2⟩ := hx p rfl
      obtain ⟨q1, q2⟩ := hy q rfl
      refine fn_enter tabOK mixes Tryz.func151 rfl rfl _ Tryz.ntmps151 _ Tryz.results151 (by simp) fun hwf => ?_
      try simp (maxSteps := 9999999) only [go_sem]
      refine CallW.mk (isGood_s p) ?_
      try simp (maxSteps := 9999999) only [go_sem]
      refine CallW.mk (isGood_s q) ?_
      try simp (maxSteps := 9999999) only [go_sem]
      refine CallW.mk (bigMulN_fn p.num q.den (by omega) (by omega)) ?_
      try simp (maxSteps := 9999999) only [go_sem]
      refine CallW.mk (bigMulN_fn q.num p.den (by omega) (by omega)) ?_
      try simp (maxSteps := 9999999) only [go_sem]
      refine CallW.mk (bigCmp_fn (p.num * q.den) (q.num * p.den)) ?_
      try simp (maxSteps := 9999999) only [go_sem]
      repeat refine And.intro (by first|omega|(constructor<;>omega)|kernel_rfl) ?_
      exact (cmpQ_eq p q).symm
theorem nl_mulZ (a : Int) (n : Nat) : nl (a * (n : Int)).natAbs ≤ nl a.natAbs + nl n := by
  rw [Int.natAbs_mul, Int.natAbs_natCast]; exact nl_mul _ _
theorem nl_addZ (a b : Int) : nl (a + b).natAbs ≤ max (nl a.natAbs) (nl b.natAbs) + 1 := Nat.le_trans (nl_mono (Int.natAbs_add_le a b)) (nl_add _ _)
theorem nl_mulI (a b : Int) : nl (a * b).natAbs ≤ nl a.natAbs + nl b.natAbs := by
  rw [Int.natAbs_mul]; exact nl_mul _ _
theorem den_mul_ne (p q : Rat) : p.den * q.den ≠ 0 := Nat.mul_ne_zero p.den_nz q.den_nz
theorem ratAdd_fn (x y : Option Rat) (hx : okO x) (hy : okO y) : Fn Tryz.prog 175 [⟨tRat, oD x⟩, ⟨tRat, oD y⟩] true [⟨tRat, oD (addO x y)⟩] := by
  cases x with
  | none =>
    refine fn_enter tabOK mixes Tryz.func175 rfl rfl _ Tryz.ntmps175 _ Tryz.results175 (by simp) fun hwf => ?_
    try simp (maxSteps := 9999999) only [go_sem]
    refine CallW.mk (isGood_n) ?_
    try simp (maxSteps := 9999999) only [go_sem]
    try simp (maxSteps := 9999999) only [go_sem, addO]
  | some p =>
    cases y with
    | none =>
      refine fn_enter tabOK mixes Tryz.func175 rfl rfl _ Tryz.ntmps175 _ Tryz.results175 (by simp) fun hwf => ?_
      try simp (maxSteps := 9999999) only [go_sem]
      refine CallW.mk (isGood_s p) ?_
      try simp (maxSteps := 9999999) only [go_sem]
      refine CallW.mk (isGood_n) ?_
      try simp (maxSteps := 9999999) only [go_sem]
      try simp (maxSteps := 9999999) only [go_sem, addO]
    | some q =>
      obtain ⟨p1, p2⟩ := hx p rfl
      obtain ⟨q1, q2⟩ := hy q rfl
      have b1 := nl_mulZ p.num q.den
      have b2 := nl_mulZ q.num p.den
      have b3 := nl_addZ (p.num * q.den) (q.num * p.den)
      have b4 := nl_mul p.den q.den
      have hm := ratMake_end (p.num * q.den + q.num * p.den) (p.den * q.den) (den_mul_ne p q) (by omega) (by omega)
      rw [← add_mk] at hm
      have e : addO (some p) (some q) = capR (p + q) := rfl
      rw [e]
      refine fn_enter tabOK mixes Tryz.func175 rfl rfl _ Tryz.ntmps175 _ Tryz.results175 (by simp) fun hwf => ?_
      try simp (maxSteps := 9999999) only [go_sem]
      refine CallW.mk (isGood_s p) ?_
      try simp (maxSteps := 9999999) only [go_sem]
      refine CallW.mk (isGood_s q) ?_
      try simp (maxSteps := 9999999) only [go_sem]
      refine CallW.mk (bigMulN_fn p.num q.den (by omega) (by omega)) ?_
      try simp (maxSteps := 9999999) only [go_sem]
      refine CallW.mk (bigMulN_fn q.num p.den (by omega) (by omega)) ?_
      try simp (maxSteps := 9999999) only [go_sem]
      refine CallW.mk (bigAdd_fn (p.num * q.den) (q.num * p.den) (by omega) (by omega)) ?_
      try simp (maxSteps := 9999999) only [go_sem]
      repeat refine And.intro (by first|omega|(constructor<;>omega)|kernel_rfl) ?_
      refine CallW.mk (natMul_fn p.den q.den (by omega) (by omega)) ?_
      try simp (maxSteps := 9999999) only [go_sem]
      refine CallW.mk (hm) ?_
      try simp (maxSteps := 9999999) only [go_sem]
      all_goals first | kernel_rfl | omega | rfl
theorem ratNeg_fn (x : Option Rat) : Fn Tryz.prog 176 [⟨tRat, oD x⟩] false [⟨tRat, oD (negO x)⟩] := by
  cases x with
  | none =>
    have hb := bigNeg_fn 0
    rw [Int.neg_zero, bigD_zero] at hb
    refine fn_enter tabOK mixes Tryz.func176 rfl rfl _ Tryz.ntmps176 _ Tryz.results176 (by simp) fun hwf => ?_
    try simp (maxSteps := 9999999) only [go_sem]
    refine CallW.mk (hb) ?_
    try simp (maxSteps := 9999999) only [go_sem]
    try simp (maxSteps := 9999999) only [go_sem, negO]
    all_goals first | kernel_rfl | omega | rfl
  | some p =>
    refine fn_enter tabOK mixes Tryz.func176 rfl rfl _ Tryz.ntmps176 _ Tryz.results176 (by simp) fun hwf => ?_
    try simp (maxSteps := 9999999) only [go_sem]
    refine CallW.mk (bigNeg_fn p.num) ?_
    try simp (maxSteps := 9999999) only [go_sem]
    try simp (maxSteps := 9999999) only [go_sem, negO, Rat.neg_num, Rat.neg_den]
    all_goals first | kernel_rfl | omega | rfl
theorem ratSub_fn (x y : Option Rat) (hx : okO x) (hy : okO y) : Fn Tryz.prog 129 [⟨tRat, oD x⟩, ⟨tRat, oD y⟩] true [⟨tRat, oD (subO x y)⟩] := by
  show Fn _ _ _ _ [⟨tRat, oD (addO x (negO y))⟩]
  have h1 := ratNeg_fn y
  have h2 := ratAdd_fn x (negO y) hx (okO_neg hy)
  refine fn_enter tabOK mixes Tryz.func129 rfl rfl _ Tryz.ntmps129 _ Tryz.results129 (by simp) fun hwf => ?_
  try simp (maxSteps := 9999999) only [go_sem]
  refine CallW.mk (h1) ?_
  try simp (maxSteps := 9999999) only [go_sem]
  refine CallW.mk (h2) ?_
  try simp (maxSteps := 9999999) only [go_sem]
  all_goals first | kernel_rfl | omega | rfl
theorem cmpQ_zero (p : Rat) : cmpQ p 0 = cmpZ p.num 0 := by
  rw [cmpQ_eq]
  simp
theorem ratSign_fn (x : Option Rat) : Fn Tryz.prog 214 [⟨tRat, oD x⟩] false [⟨.int, sgnO x⟩] := by
  cases x with
  | none =>
    refine fn_enter tabOK mixes Tryz.func214 rfl rfl _ Tryz.ntmps214 _ Tryz.results214 (by simp) fun hwf => ?_
    try simp (maxSteps := 9999999) only [go_sem]
    refine CallW.mk (isGood_n) ?_
    try simp (maxSteps := 9999999) only [go_sem]
    try simp (maxSteps := 9999999) only [go_sem, sgnO]
  | some p =>
    have e : sgnO (some p) = cmpZ p.num 0 := cmpQ_zero p
    rw [e]
    by_cases h0 : (nl p.num.natAbs : Int) = 0
    · have : p.num = 0 := by have := nl_eq_zero.1 (show nl p.num.natAbs = 0 by omega); omega
      refine fn_enter tabOK mixes Tryz.func214 rfl rfl _ Tryz.ntmps214 _ Tryz.results214 (by simp) fun hwf => ?_
      try simp (maxSteps := 9999999) only [go_sem]
      refine CallW.mk (isGood_s p) ?_
      try simp (maxSteps := 9999999) only [go_sem]
      try simp (maxSteps := 9999999) only [go_sem, h0]
      simp [cmpZ, this]
    · have h1 : p.num ≠ 0 := fun h => h0 (by rw [h]; simp [nl_zero])
      by_cases h2 : p.num < 0
      · refine fn_enter tabOK mixes Tryz.func214 rfl rfl _ Tryz.ntmps214 _ Tryz.results214 (by simp) fun hwf => ?_
        try simp (maxSteps := 9999999) only [go_sem]
        refine CallW.mk (isGood_s p) ?_
        try simp (maxSteps := 9999999) only [go_sem]
        try simp (maxSteps := 9999999) only [go_sem, h0, h2]
        simp [cmpZ, h2]
      · have h3 : 0 < p.num := by omega
        refine fn_enter tabOK mixes Tryz.func214 rfl rfl _ Tryz.ntmps214 _ Tryz.results214 (by simp) fun hwf => ?_
        try simp (maxSteps := 9999999) only [go_sem]
        refine CallW.mk (isGood_s p) ?_
        try simp (maxSteps := 9999999) only [go_sem]
        try simp (maxSteps := 9999999) only [go_sem, h0, h2]
        simp [cmpZ, h2, h3]
noncomputable def maxO : Option Rat → Option Rat → Option Rat
  | some p, some q => if 0 ≤ cmpQ p q then some p else some q
  | _, _ => none
noncomputable def minO : Option Rat → Option Rat → Option Rat
  | some p, some q => if cmpQ p q ≤ 0 then some p else some q
  | _, _ => none
theorem okO_max {x y : Option Rat} (hx : okO x) (hy : okO y) : okO (maxO x y) := by
  unfold maxO
  split
  · split
    · exact hx
    · exact hy
  · exact okO_none
theorem okO_min {x y : Option Rat} (hx : okO x) (hy : okO y) : okO (minO x y) := by
  unfold minO
  split
  · split
    · exact hx
    · exact hy
  · exact okO_none
theorem ratMax_fn (x y : Option Rat) (hx : okO x) (hy : okO y) : Fn Tryz.prog 228 [⟨tRat, oD x⟩, ⟨tRat, oD y⟩] false [⟨tRat, oD (maxO x y)⟩] := by
  cases x with
  | none =>
    refine fn_enter tabOK mixes Tryz.func228 rfl rfl _ Tryz.ntmps228 _ Tryz.results228 (by simp) fun hwf => ?_
    try simp (maxSteps := 9999999) only [go_sem]
    refine CallW.mk (isGood_n) ?_
    try simp (maxSteps := 9999999) only [go_sem]
    try simp (maxSteps := 9999999) only [go_sem, maxO]
  | some p =>
    cases y with
    | none =>
      refine fn_enter tabOK mixes Tryz.func228 rfl rfl _ Tryz.ntmps228 _ Tryz.results228 (by simp) fun hwf => ?_
      try simp (maxSteps := 9999999) only [go_sem]
      refine CallW.mk (isGood_s p) ?_
      try simp (maxSteps := 9999999) only [go_sem]
      refine CallW.mk (isGood_n) ?_
      try simp (maxSteps := 9999999) only [go_sem]
      try simp (maxSteps := 9999999) only [go_sem, maxO]
    | some q =>
      have hc := ratCmp_fn (some p) (some q) hx hy
      have e : cmpO (some p) (some q) = cmpQ p q := rfl
      rw [e] at hc
      by_cases h : 0 ≤ cmpQ p q
      · have e2 : maxO (some p) (some q) = some p := if_pos h
        rw [e2]
        refine fn_enter tabOK mixes Tryz.func228 rfl rfl _ Tryz.ntmps228 _ Tryz.results228 (by simp) fun hwf => ?_
        try simp (maxSteps := 9999999) only [go_sem]
        refine CallW.mk (isGood_s p) ?_
        try simp (maxSteps := 9999999) only [go_sem]
        refine CallW.mk (isGood_s q) ?_
        try simp (maxSteps := 9999999) only [go_sem]
        refine CallW.mk (hc) ?_
        try simp (maxSteps := 9999999) only [go_sem]
        try simp (maxSteps := 9999999) only [go_sem, h]
      · have e2 : maxO (some p) (some q) = some q := if_neg h
        rw [e2]
        refine fn_enter tabOK mixes Tryz.func228 rfl rfl _ Tryz.ntmps228 _ Tryz.results228 (by simp) fun hwf => ?_
        try simp (maxSteps := 9999999) only [go_sem]
        refine CallW.mk (isGood_s p) ?_
        try simp (maxSteps := 9999999) only [go_sem]
        refine CallW.mk (isGood_s q) ?_
        try simp (maxSteps := 9999999) only [go_sem]
        refine CallW.mk (hc) ?_
        try simp (maxSteps := 9999999) only [go_sem]
        try simp (maxSteps := 9999999) only [go_sem, h]
end Go.Proofs.YtghckbohaghgkaaGreat.DW

/-
  Fractions: sums, products, comparisons, of the reference.
-/
namespace Go.Proofs.YtghckbohaghgkaaGreat.DW
open Go.RowKit
theorem sgn_mulN (x : Int) (n : Nat) : sgn (decide (x < 0)) (x.natAbs * n) = x * n := by
  unfold sgn
  by_cases h : x < 0
  · simp only [h, decide_true, if_true, Int.natCast_mul]
    rw [show (x.natAbs : Int) = -x by omega, Int.neg_mul, Int.neg_neg]
  · simp only [h, decide_false, Bool.false_eq_true, if_false, Int.natCast_mul]
    rw [show (x.natAbs : Int) = x by omega]
theorem l04Cmp_fn (p q : Rat) (hp : small p) (hq : small q) : Fn Tryz.prog 146 [⟨tRat, ratD p⟩, ⟨tRat, ratD q⟩] false [⟨.int, cmpQ p q⟩] := by
  obtain ⟨p1, p2⟩ := hp
  obtain ⟨q1, q2⟩ := hq
  have b1 := nl_mul p.num.natAbs q.den
  have b2 := nl_mul q.num.natAbs p.den
  refine fn_enter tabOK mixes Tryz.func146 rfl rfl _ Tryz.ntmps146 _ Tryz.results146 (by simp) fun hwf => ?_
  try simp (maxSteps := 9999999) only [go_sem]
  refine CallW.mk (l02Mul_fn p.num.natAbs q.den (by omega) (by omega)) ?_
  try simp (maxSteps := 9999999) only [go_sem]
  refine CallW.mk (l03Make_to (sgn_mulN p.num q.den) (by omega)) ?_
  try simp (maxSteps := 9999999) only [go_sem]
  refine CallW.mk (l02Mul_fn q.num.natAbs p.den (by omega) (by omega)) ?_
  try simp (maxSteps := 9999999) only [go_sem]
  refine CallW.mk (l03Make_to (sgn_mulN q.num p.den) (by omega)) ?_
  try simp (maxSteps := 9999999) only [go_sem]
  refine CallW.mk (l03Cmp_fn (p.num * q.den) (q.num * p.den)) ?_
  try simp (maxSteps := 9999999) only [go_sem]
  repeat refine And.intro (by first|omega|(constructor<;>omega)|kernel_rfl) ?_
  exact (cmpQ_eq p q).symm
theorem specRatCmp_fn (r s : DR) : Fn Tryz.prog 103 [⟨tRat, r⟩, ⟨tRat, s⟩] false [⟨.int, cmpO (rdO r) (rdO s)⟩] := by
  cases hr : okR r
  · rw [okR_f hr]
    refine fn_enter tabOK mixes Tryz.func103 rfl rfl _ Tryz.ntmps103 _ Tryz.results103 (by simp) fun hwf => ?_
    try simp (maxSteps := 9999999) only [go_sem]
    refine CallW.mk (specRatOk_fn r) ?_
    try simp (maxSteps := 9999999) only [go_sem]
    try simp (maxSteps := 9999999) only [go_sem, hr]
    rfl
  · cases hs : okR s
    · rw [okR_f hs]
      have e : cmpO (rdO r) none = 0 := by unfold cmpO; cases rdO r <;> rfl
      rw [e]
      refine fn_enter tabOK mixes Tryz.func103 rfl rfl _ Tryz.ntmps103 _ Tryz.results103 (by simp) fun hwf => ?_
      try simp (maxSteps := 9999999) only [go_sem]
      refine CallW.mk (specRatOk_fn r) ?_
      try simp (maxSteps := 9999999) only [go_sem]
      try simp (maxSteps := 9999999) only [go_sem, hr]
      refine CallW.mk (specRatOk_fn s) ?_
      try simp (maxSteps := 9999999) only [go_sem]
      try simp (maxSteps := 9999999) only [go_sem, hs]
    · obtain ⟨p, hp, rfl, e1⟩ := okR_t hr
      obtain ⟨q, hq, rfl, e2⟩ := okR_t hs
      rw [e1, e2]
      have hr' : okR ((decide (p.num < 0), natL p.num.natAbs), natL p.den) = true := hr
      have hs' : okR ((decide (q.num < 0), natL q.num.natAbs), natL q.den) = true := hs
      refine fn_enter tabOK mixes Tryz.func103 rfl rfl _ Tryz.ntmps103 _ Tryz.results103 (by simp) fun hwf => ?_
      try simp (maxSteps := 9999999) only [go_sem]
      refine CallW.mk (specRatOk_fn (ratD p)) ?_
      try simp (maxSteps := 9999999) only [go_sem]
      try simp (maxSteps := 9999999) only [go_sem, hr']
      refine CallW.mk (specRatOk_fn (ratD q)) ?_
      try simp (maxSteps := 9999999) only [go_sem]
      try simp (maxSteps := 9999999) only [go_sem, hs']
      refine CallW.mk (l04Cmp_fn p q hp hq) ?_
      try simp (maxSteps := 9999999) only [go_sem]
      rfl
theorem l04Copy_fn (r : DR) (h1 : r.1.2.length ≤ 16777216) (h2 : r.2.length ≤ 16777216) : Fn Tryz.prog 157 [⟨tRat, r⟩] true [⟨tRat, r⟩] := by
  obtain ⟨⟨s, a⟩, d⟩ := r
  simp only at h1 h2
  refine fn_enter tabOK mixes Tryz.func157 rfl rfl _ Tryz.ntmps157 _ Tryz.results157 (by simp) fun hwf => ?_
  try simp (maxSteps := 9999999) only [go_sem]
  all_goals repeat refine And.intro (by first|omega|(constructor<;>omega)|kernel_rfl) ?_
  all_goals first | kernel_rfl | omega | rfl
theorem copyD_fn (p : Rat) (hp : small p) : Fn Tryz.prog 157 [⟨tRat, ratD p⟩] true [⟨tRat, ratD p⟩] := l04Copy_fn _ (by have := hp.1; show nl p.num.natAbs ≤ _; omega) (by have := hp.2; show nl p.den ≤ _; omega)
theorem specRatMax_fn (r s : DR) : Fn Tryz.prog 187 [⟨tRat, r⟩, ⟨tRat, s⟩] true [⟨tRat, oD (maxO (rdO r) (rdO s))⟩] := by
  cases hr : okR r
  · rw [okR_f hr]
    have e : maxO none (rdO s) = none := rfl
    rw [e]
    refine fn_enter tabOK mixes Tryz.func187 rfl rfl _ Tryz.ntmps187 _ Tryz.results187 (by simp) fun hwf => ?_
    try simp (maxSteps := 9999999) only [go_sem]
    refine CallW.mk (specRatOk_fn r) ?_
    try simp (maxSteps := 9999999) only [go_sem]
    try simp (maxSteps := 9999999) only [go_sem, hr]
  · cases hs : okR s
    · rw [okR_f hs]
      have e : maxO (rdO r) none = none := by unfold maxO; cases rdO r <;> rfl
      rw [e]
      refine fn_enter tabOK mixes Tryz.func187 rfl rfl _ Tryz.ntmps187 _ Tryz.results187 (by simp) fun hwf => ?_
      try simp (maxSteps := 9999999) only [go_sem]
      refine CallW.mk (specRatOk_fn r) ?_
      try simp (maxSteps := 9999999) only [go_sem]
      try simp (maxSteps := 9999999) only [go_sem, hr]
      refine CallW.mk (specRatOk_fn s) ?_
      try simp (maxSteps := 9999999) only [go_sem]
      try simp (maxSteps := 9999999) only [go_sem, hs]
    · obtain ⟨p, hp, rfl, e1⟩ := okR_t hr
      obtain ⟨q, hq, rfl, e2⟩ := okR_t hs
      rw [e1, e2]
      have hr' : okR ((decide (p.num < 0), natL p.num.natAbs), natL p.den) = true := hr
      have hs' : okR ((decide (q.num < 0), natL q.num.natAbs), natL q.den) = true := hs
      by_cases h : 0 ≤ cmpQ p q
      · have e3 : maxO (some p) (some q) = some p := if_pos h
        rw [e3]
        refine fn_enter tabOK mixes Tryz.func187 rfl rfl _ Tryz.ntmps187 _ Tryz.results187 (by simp) fun hwf => ?_
        try simp (maxSteps := 9999999) only [go_sem]
        refine CallW.mk (specRatOk_fn (ratD p)) ?_
        try simp (maxSteps := 9999999) only [go_sem]
        try simp (maxSteps := 9999999) only [go_sem, hr']
        refine CallW.mk (specRatOk_fn (ratD q)) ?_
        try simp (maxSteps := 9999999) only [go_sem]
        try simp (maxSteps := 9999999) only [go_sem, hs']
        refine CallW.mk (l04Cmp_fn p q hp hq) ?_
        try simp (maxSteps := 9999999) only [go_sem]
        try simp (maxSteps := 9999999) only [go_sem, h]
        refine CallW.mk (copyD_fn p hp) ?_
        try simp (maxSteps := 9999999) only [go_sem]
      · have e3 : maxO (some p) (some q) = some q := if_neg h
        rw [e3]
        refine fn_enter tabOK mixes Tryz.func187 rfl rfl _ Tryz.ntmps187 _ Tryz.results187 (by simp) fun hwf => ?_
        try simp (maxSteps := 9999999) only [go_sem]
        refine CallW.mk (specRatOk_fn (ratD p)) ?_
        try simp (maxSteps := 9999999) only [go_sem]
        try simp (maxSteps := 9999999) only [go_sem, hr']
        refine CallW.mk (specRatOk_fn (ratD q)) ?_
        try simp (maxSteps := 9999999) only [go_sem]
        try simp (maxSteps := 9999999) only [go_sem, hs']
        refine CallW.mk (l04Cmp_fn p q hp hq) ?_
        try simp (maxSteps := 9999999) only [go_sem]
        try simp (maxSteps := 9999999) only [go_sem, h]
        refine CallW.mk (copyD_fn q hq) ?_
        try simp (maxSteps := 9999999) only [go_sem]
theorem specRatSign_fn (r : DR) : Fn Tryz.prog 117 [⟨tRat, r⟩] false [⟨.int, sgnO (rdO r)⟩] := by
  cases hr : okR r
  · rw [okR_f hr]
    refine fn_enter tabOK mixes Tryz.func117 rfl rfl _ Tryz.ntmps117 _ Tryz.results117 (by simp) fun hwf => ?_
    try simp (maxSteps := 9999999) only [go_sem]
    refine CallW.mk (specRatOk_fn r) ?_
    try simp (maxSteps := 9999999) only [go_sem]
    try simp (maxSteps := 9999999) only [go_sem, hr]
    rfl
  · obtain ⟨p, hp, rfl, e1⟩ := okR_t hr
    rw [e1]
    have hr' : okR ((decide (p.num < 0), natL p.num.natAbs), natL p.den) = true := hr
    have e : sgnO (some p) = cmpZ p.num 0 := cmpQ_zero p
    rw [e]
    by_cases h0 : (nl p.num.natAbs : Int) = 0
    · have : p.num = 0 := by have := nl_eq_zero.1 (show nl p.num.natAbs = 0 by omega); omega
      refine fn_enter tabOK mixes Tryz.func117 rfl rfl _ Tryz.ntmps117 _ Tryz.results117 (by simp) fun hwf => ?_
      try simp (maxSteps := 9999999) only [go_sem]
      refine CallW.mk (specRatOk_fn (ratD p)) ?_
      try simp (maxSteps := 9999999) only [go_sem]
      try simp (maxSteps := 9999999) only [go_sem, hr']
      try simp (maxSteps := 9999999) only [go_sem, h0]
      simp [cmpZ, this]
    · have h1 : p.num ≠ 0 := fun h => h0 (by rw [h]; simp [nl_zero])
      by_cases h2 : p.num < 0
      · refine fn_enter tabOK mixes Tryz.func117 rfl rfl _ Tryz.ntmps117 _ Tryz.results117 (by simp) fun hwf => ?_
        try simp (maxSteps := 9999999) only [go_sem]
        refine CallW.mk (specRatOk_fn (ratD p)) ?_
        try simp (maxSteps := 9999999) only [go_sem]
        try simp (maxSteps := 9999999) only [go_sem, hr']
        try simp (maxSteps := 9999999) only [go_sem, h0, h2]
        simp [cmpZ, h2]
      · have h3 : 0 < p.num := by omega
        refine fn_enter tabOK mixes Tryz.func117 rfl rfl _ Tryz.ntmps117 _ Tryz.results117 (by simp) fun hwf => ?_
        try simp (maxSteps := 9999999) only [go_sem]
        refine CallW.mk (specRatOk_fn (ratD p)) ?_
        try simp (maxSteps := 9999999) only [go_sem]
        try simp (maxSteps := 9999999) only [go_sem, hr']
        try simp (maxSteps := 9999999) only [go_sem, h0, h2]
        simp [cmpZ, h2, h3]
theorem sgn_negZ (z : Int) : sgn (!decide (z < 0)) z.natAbs = -z := by
  unfold sgn
  by_cases h : z < 0
  · simp [h]; omega
  · simp [h]; omega
theorem l04Neg_fn (p : Rat) (hp : small p) : Fn Tryz.prog 119 [⟨tRat, ratD p⟩] true [⟨tRat, ratD (-p)⟩] := by
  obtain ⟨p1, p2⟩ := hp
  refine fn_enter tabOK mixes Tryz.func119 rfl rfl _ Tryz.ntmps119 _ Tryz.results119 (by simp) fun hwf => ?_
  try simp (maxSteps := 9999999) only [go_sem]
  refine CallW.mk (l03Make_to (sgn_negZ p.num) (by omega)) ?_
  try simp (maxSteps := 9999999) only [go_sem]
  try simp (maxSteps := 9999999) only [go_sem, Rat.neg_num, Rat.neg_den]
  all_goals repeat refine And.intro (by first|omega|(constructor<;>omega)|kernel_rfl) ?_
  all_goals first | kernel_rfl | omega | rfl
theorem natL_1 : natL 1 = [1] := natL_one (by decide) (by decide)
theorem l04Add_fn (p q : Rat) (hp : small p) (hq : small q) : Fn Tryz.prog 118 [⟨tRat, ratD p⟩, ⟨tRat, ratD q⟩] true [⟨tRat, oD (capR (p + q))⟩] := by
  obtain ⟨p1, p2⟩ := hp
  obtain ⟨q1, q2⟩ := hq
  have b1 := nl_mulZ p.num q.den
  have b2 := nl_mulZ q.num p.den
  have b3 := nl_addZ (p.num * q.den) (q.num * p.den)
  have b4 := nl_mul p.den q.den
  have b5 := nl_mul p.num.natAbs q.den
  have b6 := nl_mul q.num.natAbs p.den
  have b7 := nl_addZ p.num q.num
  have hl := l04Low_fn (decide (p.num * q.den + q.num * p.den < 0)) (p.num * q.den + q.num * p.den).natAbs (p.den * q.den) (den_mul_ne p q) (by omega) (by omega)
  rw [sgn_bigD, ← add_mk] at hl
  by_cases h1 : p.den = 1
  · by_cases h2 : q.den = 1
    · have hl1 := l04Low_fn (decide (p.num + q.num < 0)) (p.num + q.num).natAbs 1 (by decide) (by omega) (by have := nl_small (n := 1) (by decide); omega)
      have e : _root_.mkRat (p.num + q.num) 1 = p + q := by rw [add_mk, h1, h2]; simp
      rw [sgn_bigD, natL_1, e] at hl1
      have d1 : decide (p.den = 1) = true := decide_eq_true h1
      have d2 : decide (q.den = 1) = true := decide_eq_true h2
      refine fn_enter tabOK mixes Tryz.func118 rfl rfl _ Tryz.ntmps118 _ Tryz.results118 (by simp) fun hwf => ?_
      try simp (maxSteps := 9999999) only [go_sem]
      refine CallW.mk (l04One_fn p.den) ?_
      try simp (maxSteps := 9999999) only [go_sem]
      try simp (maxSteps := 9999999) only [go_sem, d1]
      refine CallW.mk (l04One_fn q.den) ?_
      try simp (maxSteps := 9999999) only [go_sem]
      try simp (maxSteps := 9999999) only [go_sem, d2]
      refine CallW.mk (l03Add_fn p.num q.num (by omega) (by omega)) ?_
      try simp (maxSteps := 9999999) only [go_sem]
      refine CallW.mk (hl1) ?_
      try simp (maxSteps := 9999999) only [go_sem]
      all_goals first | kernel_rfl | omega | rfl
    · have d1 : decide (p.den = 1) = true := decide_eq_true h1
      have d2 : decide (q.den = 1) = false := decide_eq_false h2
      refine fn_enter tabOK mixes Tryz.func118 rfl rfl _ Tryz.ntmps118 _ Tryz.results118 (by simp) fun hwf => ?_
      try simp (maxSteps := 9999999) only [go_sem]
      refine CallW.mk (l04One_fn p.den) ?_
      try simp (maxSteps := 9999999) only [go_sem]
      try simp (maxSteps := 9999999) only [go_sem, d1]
      refine CallW.mk (l04One_fn q.den) ?_
      try simp (maxSteps := 9999999) only [go_sem]
      try simp (maxSteps := 9999999) only [go_sem, d2]
      refine CallW.mk (l02Mul_fn p.num.natAbs q.den (by omega) (by omega)) ?_
      try simp (maxSteps := 9999999) only [go_sem]
      refine CallW.mk (l03Make_to (sgn_mulN p.num q.den) (by omega)) ?_
      try simp (maxSteps := 9999999) only [go_sem]
      repeat refine And.intro (by first|omega|(constructor<;>omega)|kernel_rfl) ?_
      refine CallW.mk (l02Mul_fn q.num.natAbs p.den (by omega) (by omega)) ?_
      try simp (maxSteps := 9999999) only [go_sem]
      refine CallW.mk (l03Make_to (sgn_mulN q.num p.den) (by omega)) ?_
      try simp (maxSteps := 9999999) only [go_sem]
      repeat refine And.intro (by first|omega|(constructor<;>omega)|kernel_rfl) ?_
      refine CallW.mk (l03Add_fn (p.num * q.den) (q.num * p.den) (by omega) (by omega)) ?_
      try simp (maxSteps := 9999999) only [go_sem]
      refine CallW.mk (l02Mul_fn p.den q.den (by omega) (by omega)) ?_
      try simp (maxSteps := 9999999) only [go_sem]
      refine CallW.mk (hl) ?_
      try simp (maxSteps := 9999999) only [go_sem]
      all_goals first | kernel_rfl | omega | rfl
  · have d1 : decide (p.den = 1) = false := decide_eq_false h1
    refine fn_enter tabOK mixes Tryz.func118 rfl rfl _ Tryz.ntmps118 _ Tryz.results118 (by simp) fun hwf => ?_
    try simp (maxSteps := 9999999) only [go_sem]
    refine CallW.mk (l04One_fn p.den) ?_
    try simp (maxSteps := 9999999) only [go_sem]
    try simp (maxSteps := 9999999) only [go_sem, d1]
    refine CallW.mk (l02Mul_fn p.num.natAbs q.den (by omega) (by omega)) ?_
    try simp (maxSteps := 9999999) only [go_sem]
    refine CallW.mk (l03Make_to (sgn_mulN p.num q.den) (by omega)) ?_
    try simp (maxSteps := 9999999) only [go_sem]
    repeat refine And.intro (by first|omega|(constructor<;>omega)|kernel_rfl) ?_
    refine CallW.mk (l02Mul_fn q.num.natAbs p.den (by omega) (by omega)) ?_
    try simp (maxSteps := 9999999) only [go_sem]
    refine CallW.mk (l03Make_to (sgn_mulN q.num p.den) (by omega)) ?_
    try simp (maxSteps := 9999999) only [go_sem]
    repeat refine And.intro (by first|omega|(constructor<;>omega)|kernel_rfl) ?_
    refine CallW.mk (l03Add_fn (p.num * q.den) (q.num * p.den) (by omega) (by omega)) ?_
    try simp (maxSteps := 9999999) only [go_sem]
    refine CallW.mk (l02Mul_fn p.den q.den (by omega) (by omega)) ?_
    try simp (maxSteps := 9999999) only [go_sem]
    refine CallW.mk (hl) ?_
    try simp (maxSteps := 9999999) only [go_sem]
    all_goals first | kernel_rfl | omega | rfl
end Go.Proofs.YtghckbohaghgkaaGreat.DW

/-
  Lists of fractions: validity, comparison, the greatest one.
-/
namespace Go.Proofs.YtghckbohaghgkaaGreat.DW
open Go.RowKit
theorem okR_oD {r : DR} (h : okR r = true) : oD (rdO r) = r := by
  obtain ⟨q, _, e1, e2⟩ := okR_t h
  rw [e2, e1]; rfl
end Go.Proofs.YtghckbohaghgkaaGreat.DW

/-
  Points: validity; the length of a move.
-/
namespace Go.Proofs.YtghckbohaghgkaaGreat.DW
open Go.RowKit
attribute [go_sem] Prod.eta
abbrev DP : Type := DR × DR
noncomputable def okPt (p : DP) : Bool := okR p.1 && okR p.2
theorem implIsValidPoint_fn (p : DP) : Fn Tryz.prog 137 [⟨tPoint, p⟩] false [⟨.bool, okPt p⟩] := by
  cases h : okR p.1
  · refine fn_enter tabOK mixes Tryz.func137 rfl rfl _ Tryz.ntmps137 _ Tryz.results137 (by simp) fun hwf => ?_
    try simp (maxSteps := 9999999) only [go_sem]
    refine CallW.mk (implRatOk_fn p.1) ?_
    try simp (maxSteps := 9999999) only [go_sem]
    try simp (maxSteps := 9999999) only [go_sem, h]
    simp [okPt, h]
  · refine fn_enter tabOK mixes Tryz.func137 rfl rfl _ Tryz.ntmps137 _ Tryz.results137 (by simp) fun hwf => ?_
    try simp (maxSteps := 9999999) only [go_sem]
    refine CallW.mk (implRatOk_fn p.1) ?_
    try simp (maxSteps := 9999999) only [go_sem]
    try simp (maxSteps := 9999999) only [go_sem, h]
    refine CallW.mk (implRatOk_fn p.2) ?_
    try simp (maxSteps := 9999999) only [go_sem]
    simp [okPt, h]
theorem specIsValidPoint_fn (p : DP) : Fn Tryz.prog 75 [⟨tPoint, p⟩] false [⟨.bool, okPt p⟩] := by
  cases h : okR p.1
  · refine fn_enter tabOK mixes Tryz.func75 rfl rfl _ Tryz.ntmps75 _ Tryz.results75 (by simp) fun hwf => ?_
    try simp (maxSteps := 9999999) only [go_sem]
    refine CallW.mk (specRatOk_fn p.1) ?_
    try simp (maxSteps := 9999999) only [go_sem]
    try simp (maxSteps := 9999999) only [go_sem, h]
    simp [okPt, h]
  · refine fn_enter tabOK mixes Tryz.func75 rfl rfl _ Tryz.ntmps75 _ Tryz.results75 (by simp) fun hwf => ?_
    try simp (maxSteps := 9999999) only [go_sem]
    refine CallW.mk (specRatOk_fn p.1) ?_
    try simp (maxSteps := 9999999) only [go_sem]
    try simp (maxSteps := 9999999) only [go_sem, h]
    refine CallW.mk (specRatOk_fn p.2) ?_
    try simp (maxSteps := 9999999) only [go_sem]
    simp [okPt, h]
theorem indexFunc_pt_fn (F : FuncId) (p : DP → Bool) (hF : ∀ x : DP, Fn Tryz.prog F [⟨tPoint, x⟩] false [⟨.bool, p x⟩]) (l : List DP) : Fn Tryz.prog 180 [⟨.slice tPoint, l⟩, ⟨.cst (.fn F), ()⟩] false [⟨.int, ixf (t := tPoint) p l⟩] := by
  refine fn_enter tabOK mixes Tryz.func180 rfl rfl _ Tryz.ntmps180 _ Tryz.results180 (by simp) fun hwf => ?_
  have hl : l.length ≤ 9223372036854775807 := (hwf ⟨.slice tPoint, l⟩ (by simp)).1
  try simp (maxSteps := 9999999) only [go_sem]
  refine LoopG.intro _ _ _ (fun i : Nat => ⟨[(0, .sl tPoint l), (1, .sc (.func (.func F) #[] #[])), (7, .sc (.int .i64 l.length)), (8, .sc (.int .i64 i))], []⟩) (fun i => ∀ j < i, j < l.length → p (nth (t := tPoint) l j) = false) (fun i => l.length - i) 0 ?_ (fun j h => by simp at h) ?_
  · refine Wk.mk [] ?_
    try simp (maxSteps := 9999999) only [go_sem]
    try (and_intros <;> first | rfl | omega | exact ⟨_, rfl⟩)
  · rintro i h2
    try simp (maxSteps := 9999999) only [go_sem]
    refine CondW_dec (fun h3 => ?_) (fun h3 => ?_)
    · try simp (maxSteps := 9999999) only [go_sem]
      repeat refine And.intro (by first|omega|(constructor<;>omega)|kernel_rfl) ?_
      refine CallW.mk (hF (nth (t := tPoint) l i)) ?_
      try simp (maxSteps := 9999999) only [go_sem]
      refine CondW_b (fun h4 => ?_) (fun h4 => ?_)
      · try simp (maxSteps := 9999999) only [go_sem]
        exact (ixf_at (by omega) h4 (fun j hj => h2 j hj (by omega))).symm
      · try simp (maxSteps := 9999999) only [go_sem]
        repeat refine And.intro (by first|omega|(constructor<;>omega)|kernel_rfl) ?_
        refine LoopK.mk (i + 1) ?_ (fun j hj hl => ?_) (by omega)
        · refine Wk.mk [] ?_
          try simp (maxSteps := 9999999) only [go_sem]
          try (and_intros <;> first | rfl | omega | exact ⟨_, rfl⟩)
        · by_cases hj2 : j < i
          · exact h2 j hj2 hl
          · rw [show j = i by omega]; exact h4
    · try simp (maxSteps := 9999999) only [go_sem]
      exact (ixf_none fun j hj => h2 j (by omega) hj).symm
theorem containsFunc_pt_fn (F : FuncId) (p : DP → Bool) (hF : ∀ x : DP, Fn Tryz.prog F [⟨tPoint, x⟩] false [⟨.bool, p x⟩]) (l : List DP) : Fn Tryz.prog 135 [⟨.slice tPoint, l⟩, ⟨.cst (.fn F), ()⟩] false [⟨.bool, l.any p⟩] := by
  refine fn_enter tabOK mixes Tryz.func135 rfl rfl _ Tryz.ntmps135 _ Tryz.results135 (by simp) fun hwf => ?_
  try simp (maxSteps := 9999999) only [go_sem]
  refine CallW.mk (indexFunc_pt_fn F p hF l) ?_
  try simp (maxSteps := 9999999) only [go_sem]
  exact ixf_any
theorem arePointsC_fn (p : DP) : Fn Tryz.prog 136 [⟨tPoint, p⟩] false [⟨.bool, !okPt p⟩] := by
  refine fn_enter tabOK mixes Tryz.func136 rfl rfl _ Tryz.ntmps136 _ Tryz.results136 (by simp) fun hwf => ?_
  try simp (maxSteps := 9999999) only [go_sem]
  refine CallW.mk (implIsValidPoint_fn p) ?_
  try simp (maxSteps := 9999999) only [go_sem]
theorem arePoints_fn (l : List DP) : Fn Tryz.prog 97 [⟨.slice tPoint, l⟩] false [⟨.bool, !(l.any fun p => !okPt p)⟩] := by
  refine fn_enter tabOK mixes Tryz.func97 rfl rfl _ Tryz.ntmps97 _ Tryz.results97 (by simp) fun hwf => ?_
  try simp (maxSteps := 9999999) only [go_sem]
  refine CallW.mk (containsFunc_pt_fn _ _ arePointsC_fn l) ?_
  try simp (maxSteps := 9999999) only [go_sem]
theorem arePoints2_fn (p q : DP) : Fn Tryz.prog 97 [⟨.slice tPoint, [p, q]⟩] false [⟨.bool, okPt p && okPt q⟩] := by
  have h := arePoints_fn [p, q]
  have e : (!([p, q].any fun p => !okPt p)) = (okPt p && okPt q) := by simp
  rw [e] at h; exact h
theorem arePoints1_fn (p : DP) : Fn Tryz.prog 97 [⟨.slice tPoint, [p]⟩] false [⟨.bool, okPt p⟩] := by
  have h := arePoints_fn [p]
  have e : (!([p].any fun p => !okPt p)) = okPt p := by simp
  rw [e] at h; exact h
theorem subO_none_l (y : Option Rat) : subO none y = none := rfl
theorem subO_none_r (x : Option Rat) : subO x none = none := by cases x <;> rfl
theorem specRatSub_fn (r s : DR) : Fn Tryz.prog 79 [⟨tRat, r⟩, ⟨tRat, s⟩] true [⟨tRat, oD (subO (rdO r) (rdO s))⟩] := by
  cases hr : okR r
  · rw [okR_f hr, subO_none_l]
    refine fn_enter tabOK mixes Tryz.func79 rfl rfl _ Tryz.ntmps79 _ Tryz.results79 (by simp) fun hwf => ?_
    try simp (maxSteps := 9999999) only [go_sem]
    refine CallW.mk (specRatOk_fn r) ?_
    try simp (maxSteps := 9999999) only [go_sem]
    try simp (maxSteps := 9999999) only [go_sem, hr]
  · cases hs : okR s
    · rw [okR_f hs, subO_none_r]
      refine fn_enter tabOK mixes Tryz.func79 rfl rfl _ Tryz.ntmps79 _ Tryz.results79 (by simp) fun hwf => ?_
      try simp (maxSteps := 9999999) only [go_sem]
      refine CallW.mk (specRatOk_fn r) ?_
      try simp (maxSteps := 9999999) only [go_sem]
      try simp (maxSteps := 9999999) only [go_sem, hr]
      refine CallW.mk (specRatOk_fn s) ?_
      try simp (maxSteps := 9999999) only [go_sem]
      try simp (maxSteps := 9999999) only [go_sem, hs]
    · obtain ⟨p, hp, rfl, e1⟩ := okR_t hr
      obtain ⟨q, hq, rfl, e2⟩ := okR_t hs
      rw [e1, e2]
      have hr' : okR ((decide (p.num < 0), natL p.num.natAbs), natL p.den) = true := hr
      have hs' : okR ((decide (q.num < 0), natL q.num.natAbs), natL q.den) = true := hs
      have e : subO (some p) (some q) = capR (p + -q) := rfl
      rw [e]
      refine fn_enter tabOK mixes Tryz.func79 rfl rfl _ Tryz.ntmps79 _ Tryz.results79 (by simp) fun hwf => ?_
      try simp (maxSteps := 9999999) only [go_sem]
      refine CallW.mk (specRatOk_fn (ratD p)) ?_
      try simp (maxSteps := 9999999) only [go_sem]
      try simp (maxSteps := 9999999) only [go_sem, hr']
      refine CallW.mk (specRatOk_fn (ratD q)) ?_
      try simp (maxSteps := 9999999) only [go_sem]
      try simp (maxSteps := 9999999) only [go_sem, hs']
      refine CallW.mk (l04Neg_fn q hq) ?_
      try simp (maxSteps := 9999999) only [go_sem]
      refine CallW.mk (l04Add_fn p (-q) hp (small_neg hq)) ?_
      try simp (maxSteps := 9999999) only [go_sem]
      all_goals first | kernel_rfl | omega | rfl
end Go.Proofs.YtghckbohaghgkaaGreat.DW

/-
  Headings, steps, the length of a motion.
-/
namespace Go.Proofs.YtghckbohaghgkaaGreat.DW
open Go.RowKit
abbrev DS : Type := Int × DP
theorem isHeading_fn (n : Int) : Fn Tryz.prog 96 [⟨.int, n⟩] false [⟨.bool, decide (0 ≤ n ∧ n ≤ 3)⟩] := by
  refine fn_enter tabOK mixes Tryz.func96 rfl rfl _ Tryz.ntmps96 _ Tryz.results96 (by simp) fun hwf => ?_
  try simp (maxSteps := 9999999) only [go_sem]
  refine CallW.mk (within_fn n 0 3) ?_
  try simp (maxSteps := 9999999) only [go_sem]
/-- The heading behind a turn. -/
def nxH (h t : Int) : Int := if (0 ≤ h ∧ h ≤ 3) ∧ (t = 1 ∨ t = -1) then (h + t + 4) % 4 else -1
theorem nxH_bad {h : Int} (t : Int) (hh : ¬ (0 ≤ h ∧ h ≤ 3)) : nxH h t = -1 := if_neg fun h => hh h.1
theorem nxH_off (h : Int) {t : Int} (h1 : ¬ t = 1) (h2 : ¬ t = -1) : nxH h t = -1 := if_neg fun h => h.2.elim h1 h2
theorem nxH_in {h t : Int} (hh : 0 ≤ h ∧ h ≤ 3) (ht : t = 1 ∨ t = -1) : nxH h t = (h + t + 4) % 4 := if_pos ⟨hh, ht⟩
theorem implNextHeading_fn (h t : Int) : Fn Tryz.prog 139 [⟨.int, h⟩, ⟨.int, t⟩] false [⟨.int, nxH h t⟩] := by
  have c1 := isHeading_fn h
  by_cases hh : 0 ≤ h ∧ h ≤ 3
  · rw [decide_eq_true hh] at c1
    by_cases h1 : t = 1
    · subst h1
      rw [nxH_in hh (.inl rfl)]
      refine fn_enter tabOK mixes Tryz.func139 rfl rfl _ Tryz.ntmps139 _ Tryz.results139 (by simp) fun hwf => ?_
      try simp (maxSteps := 9999999) only [go_sem]
      refine CallW.mk (c1) ?_
      try simp (maxSteps := 9999999) only [go_sem]
      repeat refine And.intro (by first|omega|(constructor<;>omega)|kernel_rfl) ?_
      refine RemW.pos (by omega) (by omega) ?_
      try simp (maxSteps := 9999999) only [go_sem]
    · by_cases h2 : t = -1
      · subst h2
        rw [nxH_in hh (.inr rfl)]
        refine fn_enter tabOK mixes Tryz.func139 rfl rfl _ Tryz.ntmps139 _ Tryz.results139 (by simp) fun hwf => ?_
        try simp (maxSteps := 9999999) only [go_sem]
        refine CallW.mk (c1) ?_
        try simp (maxSteps := 9999999) only [go_sem]
        repeat refine And.intro (by first|omega|(constructor<;>omega)|kernel_rfl) ?_
        refine RemW.pos (by omega) (by omega) ?_
        try simp (maxSteps := 9999999) only [go_sem]
      · rw [nxH_off h h1 h2]
        refine fn_enter tabOK mixes Tryz.func139 rfl rfl _ Tryz.ntmps139 _ Tryz.results139 (by simp) fun hwf => ?_
        try simp (maxSteps := 9999999) only [go_sem]
        refine CallW.mk (c1) ?_
        try simp (maxSteps := 9999999) only [go_sem]
        try simp (maxSteps := 9999999) only [go_sem, h1, h2]
  · rw [decide_eq_false hh] at c1
    rw [nxH_bad t hh]
    refine fn_enter tabOK mixes Tryz.func139 rfl rfl _ Tryz.ntmps139 _ Tryz.results139 (by simp) fun hwf => ?_
    try simp (maxSteps := 9999999) only [go_sem]
    refine CallW.mk (c1) ?_
    try simp (maxSteps := 9999999) only [go_sem]
theorem specNextHeading_fn (h t : Int) : Fn Tryz.prog 133 [⟨.int, h⟩, ⟨.int, t⟩] false [⟨.int, nxH h t⟩] := by
  have c1 := l01In_fn h 0 3
  by_cases hh : 0 ≤ h ∧ h ≤ 3
  · rw [decide_eq_true hh] at c1
    by_cases h1 : t = 1
    · subst h1
      rw [nxH_in hh (.inl rfl), show h + 1 + 4 = h + 4 + 1 by omega]
      refine fn_enter tabOK mixes Tryz.func133 rfl rfl _ Tryz.ntmps133 _ Tryz.results133 (by simp) fun hwf => ?_
      try simp (maxSteps := 9999999) only [go_sem]
      refine CallW.mk (c1) ?_
      try simp (maxSteps := 9999999) only [go_sem]
      repeat refine And.intro (by first|omega|(constructor<;>omega)|kernel_rfl) ?_
      refine RemW.pos (by omega) (by omega) ?_
      try simp (maxSteps := 9999999) only [go_sem]
    · by_cases h2 : t = -1
      · subst h2
        rw [nxH_in hh (.inr rfl), show h + -1 + 4 = h + 4 + -1 by omega]
        refine fn_enter tabOK mixes Tryz.func133 rfl rfl _ Tryz.ntmps133 _ Tryz.results133 (by simp) fun hwf => ?_
        try simp (maxSteps := 9999999) only [go_sem]
        refine CallW.mk (c1) ?_
        try simp (maxSteps := 9999999) only [go_sem]
        repeat refine And.intro (by first|omega|(constructor<;>omega)|kernel_rfl) ?_
        refine RemW.pos (by omega) (by omega) ?_
        try simp (maxSteps := 9999999) only [go_sem]
      · rw [nxH_off h h1 h2]
        refine fn_enter tabOK mixes Tryz.func133 rfl rfl _ Tryz.ntmps133 _ Tryz.results133 (by simp) fun hwf => ?_
        try simp (maxSteps := 9999999) only [go_sem]
        refine CallW.mk (c1) ?_
        try simp (maxSteps := 9999999) only [go_sem]
        try simp (maxSteps := 9999999) only [go_sem, h1, h2]
  · rw [decide_eq_false hh] at c1
    rw [nxH_bad t hh]
    refine fn_enter tabOK mixes Tryz.func133 rfl rfl _ Tryz.ntmps133 _ Tryz.results133 (by simp) fun hwf => ?_
    try simp (maxSteps := 9999999) only [go_sem]
    refine CallW.mk (c1) ?_
    try simp (maxSteps := 9999999) only [go_sem]
/-- The placement behind a step. -/
def stp (p x : DS) : DS := if x.1 = 0 then (p.1, x.2) else if x.1 = 1 ∨ x.1 = -1 then (nxH p.1 x.1, p.2) else p
theorem stp_0 {p x : DS} (h : x.1 = 0) : stp p x = (p.1, x.2) := if_pos h
theorem stp_t {p x : DS} (h : x.1 = 1 ∨ x.1 = -1) : stp p x = (nxH p.1 x.1, p.2) := by
  have : ¬ x.1 = 0 := by omega
  unfold stp; rw [if_neg this, if_pos h]
theorem stp_n {p x : DS} (h0 : ¬ x.1 = 0) (h1 : ¬ x.1 = 1) (h2 : ¬ x.1 = -1) : stp p x = p := by
  unfold stp; rw [if_neg h0, if_neg (by omega)]
theorem stepped_fn (p x : DS) : Fn Tryz.prog 99 [⟨tStep, p⟩, ⟨tStep, x⟩] false [⟨tStep, stp p x⟩] := by
  obtain ⟨h, p⟩ := p
  obtain ⟨t, q⟩ := x
  have c1 := implNextHeading_fn h t
  by_cases h0 : t = 0
  · subst h0
    rw [stp_0 rfl]
    refine fn_enter tabOK mixes Tryz.func99 rfl rfl _ Tryz.ntmps99 _ Tryz.results99 (by simp) fun hwf => ?_
    try simp (maxSteps := 9999999) only [go_sem]
  · by_cases h1 : t = 1
    · subst h1
      rw [stp_t (.inl rfl)]
      refine fn_enter tabOK mixes Tryz.func99 rfl rfl _ Tryz.ntmps99 _ Tryz.results99 (by simp) fun hwf => ?_
      try simp (maxSteps := 9999999) only [go_sem]
      refine CallW.mk (c1) ?_
      try simp (maxSteps := 9999999) only [go_sem]
    · by_cases h2 : t = -1
      · subst h2
        rw [stp_t (.inr rfl)]
        refine fn_enter tabOK mixes Tryz.func99 rfl rfl _ Tryz.ntmps99 _ Tryz.results99 (by simp) fun hwf => ?_
        try simp (maxSteps := 9999999) only [go_sem]
        refine CallW.mk (c1) ?_
        try simp (maxSteps := 9999999) only [go_sem]
      · rw [stp_n h0 h1 h2]
        refine fn_enter tabOK mixes Tryz.func99 rfl rfl _ Tryz.ntmps99 _ Tryz.results99 (by simp) fun hwf => ?_
        try simp (maxSteps := 9999999) only [go_sem, h0, h1, h2]
theorem l22After_fn (p x : DS) : Fn Tryz.prog 94 [⟨tStep, p⟩, ⟨tStep, x⟩] false [⟨tStep, stp p x⟩] := by
  obtain ⟨h, p⟩ := p
  obtain ⟨t, q⟩ := x
  have c1 := specNextHeading_fn h t
  by_cases h0 : t = 0
  · subst h0
    rw [stp_0 rfl]
    refine fn_enter tabOK mixes Tryz.func94 rfl rfl _ Tryz.ntmps94 _ Tryz.results94 (by simp) fun hwf => ?_
    try simp (maxSteps := 9999999) only [go_sem]
  · by_cases h1 : t = 1
    · subst h1
      rw [stp_t (.inl rfl)]
      refine fn_enter tabOK mixes Tryz.func94 rfl rfl _ Tryz.ntmps94 _ Tryz.results94 (by simp) fun hwf => ?_
      try simp (maxSteps := 9999999) only [go_sem]
      refine CallW.mk (c1) ?_
      try simp (maxSteps := 9999999) only [go_sem]
    · by_cases h2 : t = -1
      · subst h2
        rw [stp_t (.inr rfl)]
        refine fn_enter tabOK mixes Tryz.func94 rfl rfl _ Tryz.ntmps94 _ Tryz.results94 (by simp) fun hwf => ?_
        try simp (maxSteps := 9999999) only [go_sem]
        refine CallW.mk (c1) ?_
        try simp (maxSteps := 9999999) only [go_sem]
      · rw [stp_n h0 h1 h2]
        refine fn_enter tabOK mixes Tryz.func94 rfl rfl _ Tryz.ntmps94 _ Tryz.results94 (by simp) fun hwf => ?_
        try simp (maxSteps := 9999999) only [go_sem, h0, h1, h2]
end Go.Proofs.YtghckbohaghgkaaGreat.DW

/-
  Vectors, polygons.
-/
namespace Go.Proofs.YtghckbohaghgkaaGreat.DW
open Go.RowKit
abbrev DV : Type := Int × Int
/-- The coordinates are at most k. -/
def inB (k : Int) (v : DV) : Bool := decide (-k ≤ v.1 ∧ v.1 ≤ k) && decide (-k ≤ v.2 ∧ v.2 ≤ k)
def okV (v : DV) : Bool := inB 1000 v
theorem okV_b {v : DV} (h : okV v = true) : -1000 ≤ v.1 ∧ v.1 ≤ 1000 ∧ -1000 ≤ v.2 ∧ v.2 ≤ 1000 := by
  unfold okV inB at h
  rw [Bool.and_eq_true, decide_eq_true_iff, decide_eq_true_iff] at h
  omega
theorem isVec_fn (v : DV) : Fn Tryz.prog 170 [⟨tVec, v⟩] false [⟨.bool, okV v⟩] := by
  have c1 := within_fn v.1 (-1000) 1000
  have c2 := within_fn v.2 (-1000) 1000
  unfold okV inB
  cases h : decide (-1000 ≤ v.1 ∧ v.1 ≤ 1000) <;> rw [h] at c1
  · refine fn_enter tabOK mixes Tryz.func170 rfl rfl _ Tryz.ntmps170 _ Tryz.results170 (by simp) fun hwf => ?_
    try simp (maxSteps := 9999999) only [go_sem]
    refine CallW.mk (c1) ?_
    try simp (maxSteps := 9999999) only [go_sem]
  · refine fn_enter tabOK mixes Tryz.func170 rfl rfl _ Tryz.ntmps170 _ Tryz.results170 (by simp) fun hwf => ?_
    try simp (maxSteps := 9999999) only [go_sem]
    refine CallW.mk (c1) ?_
    try simp (maxSteps := 9999999) only [go_sem]
    refine CallW.mk (c2) ?_
    try simp (maxSteps := 9999999) only [go_sem]
theorem IsValidVec_fn (v : DV) : Fn Tryz.prog 72 [⟨tVec, v⟩] false [⟨.bool, okV v⟩] := by
  have c1 := l01In_fn v.1 (-1000) 1000
  have c2 := l01In_fn v.2 (-1000) 1000
  unfold okV inB
  cases h : decide (-1000 ≤ v.1 ∧ v.1 ≤ 1000) <;> rw [h] at c1
  · refine fn_enter tabOK mixes Tryz.func72 rfl rfl _ Tryz.ntmps72 _ Tryz.results72 (by simp) fun hwf => ?_
    try simp (maxSteps := 9999999) only [go_sem]
    refine CallW.mk (c1) ?_
    try simp (maxSteps := 9999999) only [go_sem]
  · refine fn_enter tabOK mixes Tryz.func72 rfl rfl _ Tryz.ntmps72 _ Tryz.results72 (by simp) fun hwf => ?_
    try simp (maxSteps := 9999999) only [go_sem]
    refine CallW.mk (c1) ?_
    try simp (maxSteps := 9999999) only [go_sem]
    refine CallW.mk (c2) ?_
    try simp (maxSteps := 9999999) only [go_sem]
theorem mul_bd {x y : Int} (h1 : -2000 ≤ x) (h2 : x ≤ 2000) (h3 : -2000 ≤ y) (h4 : y ≤ 2000) : -4000000 ≤ x * y ∧ x * y ≤ 4000000 := by
  have e1 : 0 ≤ (2000 - x) * (2000 - y) := Int.mul_nonneg (by omega) (by omega)
  have e2 : 0 ≤ (2000 + x) * (2000 + y) := Int.mul_nonneg (by omega) (by omega)
  have e3 : 0 ≤ (2000 - x) * (2000 + y) := Int.mul_nonneg (by omega) (by omega)
  have e4 : 0 ≤ (2000 + x) * (2000 - y) := Int.mul_nonneg (by omega) (by omega)
  simp only [Int.sub_mul, Int.add_mul, Int.mul_sub, Int.mul_add] at e1 e2 e3 e4
  omega
def trn (a b c : DV) : Int := (b.1 - a.1) * (c.2 - a.2) - (b.2 - a.2) * (c.1 - a.1)
theorem turn_fn (a b c : DV) (ha : okV a = true) (hb : okV b = true) (hc : okV c = true) : Fn Tryz.prog 171 [⟨tVec, a⟩, ⟨tVec, b⟩, ⟨tVec, c⟩] false [⟨.int, trn a b c⟩] := by
  have ha := okV_b ha; have hb := okV_b hb; have hc := okV_b hc
  have m1 := mul_bd (x := b.1 - a.1) (y := c.2 - a.2) (by omega) (by omega) (by omega) (by omega)
  have m2 := mul_bd (x := b.2 - a.2) (y := c.1 - a.1) (by omega) (by omega) (by omega) (by omega)
  unfold trn
  refine fn_enter tabOK mixes Tryz.func171 rfl rfl _ Tryz.ntmps171 _ Tryz.results171 (by simp) fun hwf => ?_
  try simp (maxSteps := 9999999) only [go_sem]
  all_goals repeat refine And.intro (by first|omega|(constructor<;>omega)|kernel_rfl) ?_
  all_goals first | kernel_rfl | omega | rfl
/-- The reference's: 0 where a vector is not valid. -/
def trq (a b c : DV) : Int := if okV a && okV b && okV c then trn a b c else 0
theorem Turn_fn (a b c : DV) : Fn Tryz.prog 115 [⟨tVec, a⟩, ⟨tVec, b⟩, ⟨tVec, c⟩] false [⟨.int, trq a b c⟩] := by
  have c1 := IsValidVec_fn a
  have c2 := IsValidVec_fn b
  have c3 := IsValidVec_fn c
  unfold trq
  cases ha : okV a <;> rw [ha] at c1
  · refine fn_enter tabOK mixes Tryz.func115 rfl rfl _ Tryz.ntmps115 _ Tryz.results115 (by simp) fun hwf => ?_
    try simp (maxSteps := 9999999) only [go_sem]
    refine CallW.mk (c1) ?_
    try simp (maxSteps := 9999999) only [go_sem]
  · cases hb : okV b <;> rw [hb] at c2
    · refine fn_enter tabOK mixes Tryz.func115 rfl rfl _ Tryz.ntmps115 _ Tryz.results115 (by simp) fun hwf => ?_
      try simp (maxSteps := 9999999) only [go_sem]
      refine CallW.mk (c1) ?_
      try simp (maxSteps := 9999999) only [go_sem]
      refine CallW.mk (c2) ?_
      try simp (maxSteps := 9999999) only [go_sem]
    · cases hc : okV c <;> rw [hc] at c3
      · refine fn_enter tabOK mixes Tryz.func115 rfl rfl _ Tryz.ntmps115 _ Tryz.results115 (by simp) fun hwf => ?_
        try simp (maxSteps := 9999999) only [go_sem]
        refine CallW.mk (c1) ?_
        try simp (maxSteps := 9999999) only [go_sem]
        refine CallW.mk (c2) ?_
        try simp (maxSteps := 9999999) only [go_sem]
        refine CallW.mk (c3) ?_
        try simp (maxSteps := 9999999) only [go_sem]
      · have ha := okV_b ha; have hb := okV_b hb; have hc := okV_b hc
        have m1 := mul_bd (x := b.1 - a.1) (y := c.2 - a.2) (by omega) (by omega) (by omega) (by omega)
        have m2 := mul_bd (x := b.2 - a.2) (y := c.1 - a.1) (by omega) (by omega) (by omega) (by omega)
        unfold trn
        refine fn_enter tabOK mixes Tryz.func115 rfl rfl _ Tryz.ntmps115 _ Tryz.results115 (by simp) fun hwf => ?_
        try simp (maxSteps := 9999999) only [go_sem]
        refine CallW.mk (c1) ?_
        try simp (maxSteps := 9999999) only [go_sem]
        refine CallW.mk (c2) ?_
        try simp (maxSteps := 9999999) only [go_sem]
        refine CallW.mk (c3) ?_
        try simp (maxSteps := 9999999) only [go_sem]
        all_goals repeat refine And.intro (by first|omega|(constructor<;>omega)|kernel_rfl) ?_
        all_goals first | kernel_rfl | omega | rfl
end Go.Proofs.YtghckbohaghgkaaGreat.DW

/-
  Polygons.
-/
namespace Go.Proofs.YtghckbohaghgkaaGreat.DW
open Go.RowKit
theorem indexFunc_vec_fn (F : FuncId) (p : DV → Bool) (hF : ∀ x : DV, Fn Tryz.prog F [⟨tVec, x⟩] false [⟨.bool, p x⟩]) (l : List DV) : Fn Tryz.prog 211 [⟨.slice tVec, l⟩, ⟨.cst (.fn F), ()⟩] false [⟨.int, ixf (t := tVec) p l⟩] := by
  refine fn_enter tabOK mixes Tryz.func211 rfl rfl _ Tryz.ntmps211 _ Tryz.results211 (by simp) fun hwf => ?_
  have hl : l.length ≤ 9223372036854775807 := (hwf ⟨.slice tVec, l⟩ (by simp)).1
  try simp (maxSteps := 9999999) only [go_sem]
  refine LoopG.intro _ _ _ (fun i : Nat => ⟨[(0, .sl tVec l), (1, .sc (.func (.func F) #[] #[])), (7, .sc (.int .i64 l.length)), (8, .sc (.int .i64 i))], []⟩) (fun i => ∀ j < i, j < l.length → p (nth (t := tVec) l j) = false) (fun i => l.length - i) 0 ?_ (fun j h => by simp at h) ?_
  · refine Wk.mk [] ?_
    try simp (maxSteps := 9999999) only [go_sem]
    try (and_intros <;> first | rfl | omega | exact ⟨_, rfl⟩)
  · rintro i h2
    try simp (maxSteps := 9999999) only [go_sem]
    refine CondW_dec (fun h3 => ?_) (fun h3 => ?_)
    · try simp (maxSteps := 9999999) only [go_sem]
      repeat refine And.intro (by first|omega|(constructor<;>omega)|kernel_rfl) ?_
      refine CallW.mk (hF (nth (t := tVec) l i)) ?_
      try simp (maxSteps := 9999999) only [go_sem]
      refine CondW_b (fun h4 => ?_) (fun h4 => ?_)
      · try simp (maxSteps := 9999999) only [go_sem]
        exact (ixf_at (by omega) h4 (fun j hj => h2 j hj (by omega))).symm
      · try simp (maxSteps := 9999999) only [go_sem]
        repeat refine And.intro (by first|omega|(constructor<;>omega)|kernel_rfl) ?_
        refine LoopK.mk (i + 1) ?_ (fun j hj hl => ?_) (by omega)
        · refine Wk.mk [] ?_
          try simp (maxSteps := 9999999) only [go_sem]
          try (and_intros <;> first | rfl | omega | exact ⟨_, rfl⟩)
        · by_cases hj2 : j < i
          · exact h2 j hj2 hl
          · rw [show j = i by omega]; exact h4
    · try simp (maxSteps := 9999999) only [go_sem]
      exact (ixf_none fun j hj => h2 j (by omega) hj).symm
theorem containsFunc_vec_fn (F : FuncId) (p : DV → Bool) (hF : ∀ x : DV, Fn Tryz.prog F [⟨tVec, x⟩] false [⟨.bool, p x⟩]) (l : List DV) : Fn Tryz.prog 168 [⟨.slice tVec, l⟩, ⟨.cst (.fn F), ()⟩] false [⟨.bool, l.any p⟩] := by
  refine fn_enter tabOK mixes Tryz.func168 rfl rfl _ Tryz.ntmps168 _ Tryz.results168 (by simp) fun hwf => ?_
  try simp (maxSteps := 9999999) only [go_sem]
  refine CallW.mk (indexFunc_vec_fn F p hF l) ?_
  try simp (maxSteps := 9999999) only [go_sem]
  exact ixf_any
theorem areVecsC_fn (v : DV) : Fn Tryz.prog 169 [⟨tVec, v⟩] false [⟨.bool, !okV v⟩] := by
  refine fn_enter tabOK mixes Tryz.func169 rfl rfl _ Tryz.ntmps169 _ Tryz.results169 (by simp) fun hwf => ?_
  try simp (maxSteps := 9999999) only [go_sem]
  refine CallW.mk (isVec_fn v) ?_
  try simp (maxSteps := 9999999) only [go_sem]
theorem areVecs_fn (l : List DV) : Fn Tryz.prog 124 [⟨.slice tVec, l⟩] false [⟨.bool, !(l.any fun v => !okV v)⟩] := by
  refine fn_enter tabOK mixes Tryz.func124 rfl rfl _ Tryz.ntmps124 _ Tryz.results124 (by simp) fun hwf => ?_
  try simp (maxSteps := 9999999) only [go_sem]
  refine CallW.mk (containsFunc_vec_fn _ _ areVecsC_fn l) ?_
  try simp (maxSteps := 9999999) only [go_sem]
/-- The index behind i, going round. -/
def nxt (n i : Nat) : Int := ((i : Int) + 1) % (n : Int)
def cornOK (l : List DV) (i k : Nat) : Prop := ¬ (k : Int) = i → ¬ (k : Int) = nxt l.length i → 0 < trn (nth (t := tVec) l i) (nth (t := tVec) l (nxt l.length i).toNat) (nth (t := tVec) l k)
def polyP (l : List DV) : Prop := (3 ≤ (l.length : Int) ∧ (l.length : Int) ≤ 16) ∧ (∀ v ∈ l, okV v = true) ∧ ∀ i k, i < l.length → k < l.length → cornOK l i k
noncomputable def polyB (l : List DV) : Bool := @decide (polyP l) (Classical.propDecidable _)
theorem polyB_t {l : List DV} (h : polyP l) : polyB l = true := @decide_eq_true _ (Classical.propDecidable _) h
theorem polyB_f {l : List DV} (h : ¬ polyP l) : polyB l = false := @decide_eq_false _ (Classical.propDecidable _) h
theorem any_okV {l : List DV} (h : (l.any fun v => !okV v) = false) : ∀ v ∈ l, okV v = true := by
  intro v hv
  rw [List.any_eq_false] at h
  simpa using h v hv
theorem nxt_rng {n i : Nat} (h : 0 < n) : 0 ≤ nxt n i ∧ nxt n i < n := ⟨Int.emod_nonneg _ (by omega), Int.emod_lt_of_pos _ (by omega)⟩
theorem nth_mem {l : List DV} {i : Nat} (h : i < l.length) : nth (t := tVec) l i ∈ l := by rw [nth_lt h]; exact List.getElem_mem h
theorem implIsPolygon_fn (l : List DV) : Fn Tryz.prog 126 [⟨.slice tVec, l⟩] false [⟨.bool, polyB l⟩] := by
  have c1 := within_fn l.length 3 16
  have c2 := areVecs_fn l
  by_cases h1 : 3 ≤ (l.length : Int) ∧ (l.length : Int) ≤ 16
  · rw [decide_eq_true h1] at c1
    cases h2 : l.any fun v => !okV v <;> rw [h2] at c2
    · have hok := any_okV h2
      have hN : 0 < l.length := by omega
      refine fn_enter tabOK mixes Tryz.func126 rfl rfl _ Tryz.ntmps126 _ Tryz.results126 (by simp) fun hwf => ?_
      try simp (maxSteps := 9999999) only [go_sem]
      refine CallW.mk (c1) ?_
      try simp (maxSteps := 9999999) only [go_sem]
      refine CallW.mk (c2) ?_
      try simp (maxSteps := 9999999) only [go_sem]
      refine LoopG.intro _ _ _ (fun i : Nat => ⟨[(0, .sl tVec l), (3, .sc (.int .i64 l.length)), (19, .sl tVec l), (20, .sc (.int .i64 l.length)), (21, .sc (.int .i64 i))], []⟩) (fun i => ∀ i' k, i' < i → i' < l.length → k < l.length → cornOK l i' k) (fun i => l.length - i) 0 ?_ (fun i' k h => absurd h (Nat.not_lt_zero _)) ?_
      · refine Wk.mk [] ?_
        try simp (maxSteps := 9999999) only [go_sem]
        try (and_intros <;> first | rfl | omega | exact ⟨_, rfl⟩)
      · rintro i hi
        have hr := nxt_rng (i := i) hN
        unfold nxt at hr
        try simp (maxSteps := 9999999) only [go_sem]
        refine CondW_dec (fun hA => ?_) (fun hA => ?_)
        · try simp (maxSteps := 9999999) only [go_sem]
          repeat refine And.intro (by first|omega|(constructor<;>omega)|kernel_rfl) ?_
          refine RemW.pos (by omega) (by omega) ?_
          try simp (maxSteps := 9999999) only [go_sem]
          repeat refine And.intro (by first|omega|(constructor<;>omega)|kernel_rfl) ?_
          refine LoopG.intro _ _ _ (fun k : Nat => ⟨[(0, .sl tVec l), (3, .sc (.int .i64 l.length)), (19, .sl tVec l), (20, .sc (.int .i64 l.length)), (21, .sc (.int .i64 i)), (4, .sc (.int .i64 i)), (5, .ptr 0 0), (6, .ptr 1 0), (33, .sl tVec l), (34, .sc (.int .i64 l.length)), (35, .sc (.int .i64 k))], [(1, .box [.sc (.int .i64 (nth (t := tVec) l (nxt l.length i).toNat).1), .sc (.int .i64 (nth (t := tVec) l (nxt l.length i).toNat).2)]), (0, .box [.sc (.int .i64 (nth (t := tVec) l i).1), .sc (.int .i64 (nth (t := tVec) l i).2)])]⟩) (fun k => ∀ k', k' < k → k' < l.length → cornOK l i k') (fun k => l.length - k) 0 ?_ (fun k h => absurd h (Nat.not_lt_zero _)) ?_
          · refine Wk.mk [] ?_
            try simp (maxSteps := 9999999) only [go_sem]
            try (and_intros <;> first | rfl | omega | exact ⟨_, rfl⟩)
          · rintro k hk
            have hv := turn_fn (nth (t := tVec) l i) (nth (t := tVec) l (nxt l.length i).toNat) (nth (t := tVec) l k)
            have hi3 : i < l.length := by omega
            have oi := hok _ (nth_mem hi3)
            have on := hok _ (nth_mem (l := l) (i := (nxt l.length i).toNat) (by unfold nxt; omega))
            try simp (maxSteps := 9999999) only [go_sem]
            refine CondW_dec (fun hB => ?_) (fun hB => ?_)
            · have hv := hv oi on (hok _ (nth_mem (by omega)))
              have hgo : cornOK l i k → ∀ k', k' < k + 1 → k' < l.length → cornOK l i k' := fun h k' h1 h2 => by
                by_cases h3 : k' < k
                · exact hk k' h3 h2
                · rw [show k' = k by omega]; exact h
              by_cases e1 : (k : Int) = i
              · have d1 := decide_eq_true e1
                try simp (maxSteps := 9999999) only [go_sem, d1]
                repeat refine And.intro (by first|omega|(constructor<;>omega)|kernel_rfl) ?_
                refine LoopK.mk (k + 1) ?_ (hgo fun h => absurd e1 h) (by omega)
                refine Wk.mk [] ?_
                try simp (maxSteps := 9999999) only [go_sem]
                try (and_intros <;> first | rfl | omega | exact ⟨_, rfl⟩)
              · have d1 := decide_eq_false e1
                by_cases e2 : (k : Int) = ((i : Int) + 1) % (l.length : Int)
                · have d2 := decide_eq_true e2
                  try simp (maxSteps := 9999999) only [go_sem, d1]
                  repeat refine And.intro (by first|omega|(constructor<;>omega)|kernel_rfl) ?_
                  refine RemW.pos (by omega) (by omega) ?_
                  try simp (maxSteps := 9999999) only [go_sem, d2]
                  repeat refine And.intro (by first|omega|(constructor<;>omega)|kernel_rfl) ?_
                  refine LoopK.mk (k + 1) ?_ (hgo fun _ h => absurd e2 h) (by omega)
                  refine Wk.mk [] ?_
                  try simp (maxSteps := 9999999) only [go_sem]
                  try (and_intros <;> first | rfl | omega | exact ⟨_, rfl⟩)
                · have d2 := decide_eq_false e2
                  try simp (maxSteps := 9999999) only [go_sem, d1]
                  repeat refine And.intro (by first|omega|(constructor<;>omega)|kernel_rfl) ?_
                  refine RemW.pos (by omega) (by omega) ?_
                  try simp (maxSteps := 9999999) only [go_sem, d2]
                  refine CallW.mk (hv) ?_
                  try simp (maxSteps := 9999999) only [go_sem]
                  refine CondW_dec (fun e3 => ?_) (fun e3 => ?_)
                  · have : ¬ polyP l := fun h => by
                      have := h.2.2 i k (by omega) (by omega) e1 e2
                      omega
                    rw [polyB_f this]
                    try simp (maxSteps := 9999999) only [go_sem]
                  · try simp (maxSteps := 9999999) only [go_sem]
                    repeat refine And.intro (by first|omega|(constructor<;>omega)|kernel_rfl) ?_
                    refine LoopK.mk (k + 1) ?_ (hgo fun _ _ => by omega) (by omega)
                    refine Wk.mk [] ?_
                    try simp (maxSteps := 9999999) only [go_sem]
                    try (and_intros <;> first | rfl | omega | exact ⟨_, rfl⟩)
            · try simp (maxSteps := 9999999) only [go_sem]
              repeat refine And.intro (by first|omega|(constructor<;>omega)|kernel_rfl) ?_
              refine LoopK.mk (i + 1) ?_ (fun i' k' h1 h2 h3 => ?_) (by omega)
              · refine Wk.mk [] ?_
                try simp (maxSteps := 9999999) only [go_sem]
                try (and_intros <;> first | rfl | omega | exact ⟨_, rfl⟩)
              · by_cases h4 : i' < i
                · exact hi i' k' h4 h2 h3
                · rw [show i' = i by omega]; exact hk k' (by omega) h3
        · have : polyP l := ⟨h1, hok, fun i' k h3 h4 => hi i' k (by omega) h3 h4⟩
          rw [polyB_t this]
          try simp (maxSteps := 9999999) only [go_sem]
    · have : ¬ polyP l := fun h => by
        have := h.2.1
        rw [List.any_eq_true] at h2
        obtain ⟨v, hv, h3⟩ := h2
        rw [this v hv] at h3
        cases h3
      rw [polyB_f this]
      refine fn_enter tabOK mixes Tryz.func126 rfl rfl _ Tryz.ntmps126 _ Tryz.results126 (by simp) fun hwf => ?_
      try simp (maxSteps := 9999999) only [go_sem]
      refine CallW.mk (c1) ?_
      try simp (maxSteps := 9999999) only [go_sem]
      refine CallW.mk (c2) ?_
      try simp (maxSteps := 9999999) only [go_sem]
  · rw [decide_eq_false h1] at c1
    have : ¬ polyP l := fun h => h1 h.1
    rw [polyB_f this]
    refine fn_enter tabOK mixes Tryz.func126 rfl rfl _ Tryz.ntmps126 _ Tryz.results126 (by simp) fun hwf => ?_
    try simp (maxSteps := 9999999) only [go_sem]
    refine CallW.mk (c1) ?_
    try simp (maxSteps := 9999999) only [go_sem]
def specOK (l : List DV) (i k : Nat) : Prop := okV (nth (t := tVec) l k) = true ∧ (¬ (k : Int) = i → ¬ (k : Int) = nxt l.length i → 0 < trq (nth (t := tVec) l i) (nth (t := tVec) l (nxt l.length i).toNat) (nth (t := tVec) l k))
theorem specOK_of {l : List DV} (h : polyP l) {i k : Nat} (hi : i < l.length) (hk : k < l.length) : specOK l i k := by
  have hr := nxt_rng (n := l.length) (i := i) (by omega)
  refine ⟨h.2.1 _ (nth_mem hk), fun h1 h2 => ?_⟩
  have h3 := h.2.2 i k hi hk h1 h2
  unfold trq
  rw [h.2.1 _ (nth_mem hi), h.2.1 _ (nth_mem hk), h.2.1 _ (nth_mem (i := (nxt l.length i).toNat) (by omega))]
  exact h3
theorem polyP_of {l : List DV} (h0 : 3 ≤ (l.length : Int) ∧ (l.length : Int) ≤ 16) (h : ∀ i k, i < l.length → k < l.length → specOK l i k) : polyP l := by
  have hv : ∀ k, k < l.length → okV (nth (t := tVec) l k) = true := fun k hk => (h 0 k (by omega) hk).1
  refine ⟨h0, fun v hm => ?_, fun i k hi hk h1 h2 => ?_⟩
  · obtain ⟨k, hk, rfl⟩ := List.getElem_of_mem hm
    have := hv k hk
    rw [nth_lt hk] at this
    exact this
  · have hr := nxt_rng (n := l.length) (i := i) (by omega)
    have h3 := (h i k hi hk).2 h1 h2
    unfold trq at h3
    rw [hv i hi, hv k hk, hv (nxt l.length i).toNat (by omega)] at h3
    exact h3
theorem specIsPolygon_fn (l : List DV) : Fn Tryz.prog 74 [⟨.slice tVec, l⟩] false [⟨.bool, polyB l⟩] := by
  have c1 := l01In_fn l.length 3 16
  by_cases h1 : 3 ≤ (l.length : Int) ∧ (l.length : Int) ≤ 16
  · rw [decide_eq_true h1] at c1
    have hN : 0 < l.length := by omega
    refine fn_enter tabOK mixes Tryz.func74 rfl rfl _ Tryz.ntmps74 _ Tryz.results74 (by simp) fun hwf => ?_
    try simp (maxSteps := 9999999) only [go_sem]
    refine CallW.mk (c1) ?_
    try simp (maxSteps := 9999999) only [go_sem]
    refine LoopG.intro _ _ _ (fun i : Nat => ⟨[(0, .sl tVec l), (3, .sc (.int .i64 l.length)), (14, .sl tVec l), (15, .sc (.int .i64 l.length)), (16, .sc (.int .i64 i))], []⟩) (fun i => ∀ i' k, i' < i → i' < l.length → k < l.length → specOK l i' k) (fun i => l.length - i) 0 ?_ (fun i' k h => absurd h (Nat.not_lt_zero _)) ?_
    · refine Wk.mk [] ?_
      try simp (maxSteps := 9999999) only [go_sem]
      try (and_intros <;> first | rfl | omega | exact ⟨_, rfl⟩)
    · rintro i hi
      have hr := nxt_rng (i := i) hN
      unfold nxt at hr
      try simp (maxSteps := 9999999) only [go_sem]
      refine CondW_dec (fun hA => ?_) (fun hA => ?_)
      · try simp (maxSteps := 9999999) only [go_sem]
        repeat refine And.intro (by first|omega|(constructor<;>omega)|kernel_rfl) ?_
        refine RemW.pos (by omega) (by omega) ?_
        try simp (maxSteps := 9999999) only [go_sem]
        repeat refine And.intro (by first|omega|(constructor<;>omega)|kernel_rfl) ?_
        refine LoopG.intro _ _ _ (fun k : Nat => ⟨[(0, .sl tVec l), (3, .sc (.int .i64 l.length)), (14, .sl tVec l), (15, .sc (.int .i64 l.length)), (16, .sc (.int .i64 i)), (4, .sc (.int .i64 i)), (5, .ptr 0 0), (6, .ptr 1 0), (28, .sl tVec l), (29, .sc (.int .i64 l.length)), (30, .sc (.int .i64 k))], [(1, .box [.sc (.int .i64 (nth (t := tVec) l (nxt l.length i).toNat).1), .sc (.int .i64 (nth (t := tVec) l (nxt l.length i).toNat).2)]), (0, .box [.sc (.int .i64 (nth (t := tVec) l i).1), .sc (.int .i64 (nth (t := tVec) l i).2)])]⟩) (fun k => ∀ k', k' < k → k' < l.length → specOK l i k') (fun k => l.length - k) 0 ?_ (fun k h => absurd h (Nat.not_lt_zero _)) ?_
        · refine Wk.mk [] ?_
          try simp (maxSteps := 9999999) only [go_sem]
          try (and_intros <;> first | rfl | omega | exact ⟨_, rfl⟩)
        · rintro k hk
          have hv := Turn_fn (nth (t := tVec) l i) (nth (t := tVec) l (nxt l.length i).toNat) (nth (t := tVec) l k)
          have hw := IsValidVec_fn (nth (t := tVec) l k)
          try simp (maxSteps := 9999999) only [go_sem]
          refine CondW_dec (fun hB => ?_) (fun hB => ?_)
          · have hgo : specOK l i k → ∀ k', k' < k + 1 → k' < l.length → specOK l i k' := fun h k' h1 h2 => by
              by_cases h3 : k' < k
              · exact hk k' h3 h2
              · rw [show k' = k by omega]; exact h
            cases e0 : okV (nth (t := tVec) l k) <;> rw [e0] at hw
            · have : ¬ polyP l := fun h => by
                have := h.2.1 _ (nth_mem (l := l) (i := k) (by omega))
                rw [e0] at this; cases this
              rw [polyB_f this]
              try simp (maxSteps := 9999999) only [go_sem]
              repeat refine And.intro (by first|omega|(constructor<;>omega)|kernel_rfl) ?_
              refine CallW.mk (hw) ?_
              try simp (maxSteps := 9999999) only [go_sem]
            · by_cases e1 : (k : Int) = i
              · have d1 := decide_eq_true e1
                try simp (maxSteps := 9999999) only [go_sem]
                repeat refine And.intro (by first|omega|(constructor<;>omega)|kernel_rfl) ?_
                refine CallW.mk (hw) ?_
                try simp (maxSteps := 9999999) only [go_sem]
                try simp (maxSteps := 9999999) only [go_sem, d1]
                repeat refine And.intro (by first|omega|(constructor<;>omega)|kernel_rfl) ?_
                refine LoopK.mk (k + 1) ?_ (hgo ⟨e0, fun h => absurd e1 h⟩) (by omega)
                refine Wk.mk [] ?_
                try simp (maxSteps := 9999999) only [go_sem]
                try (and_intros <;> first | rfl | omega | exact ⟨_, rfl⟩)
              · have d1 := decide_eq_false e1
                by_cases e2 : (k : Int) = ((i : Int) + 1) % (l.length : Int)
                · have d2 := decide_eq_true e2
                  try simp (maxSteps := 9999999) only [go_sem]
                  repeat refine And.intro (by first|omega|(constructor<;>omega)|kernel_rfl) ?_
                  refine CallW.mk (hw) ?_
                  try simp (maxSteps := 9999999) only [go_sem]
                  try simp (maxSteps := 9999999) only [go_sem, d1]
                  repeat refine And.intro (by first|omega|(constructor<;>omega)|kernel_rfl) ?_
                  refine RemW.pos (by omega) (by omega) ?_
                  try simp (maxSteps := 9999999) only [go_sem, d2]
                  repeat refine And.intro (by first|omega|(constructor<;>omega)|kernel_rfl) ?_
                  refine LoopK.mk (k + 1) ?_ (hgo ⟨e0, fun _ h => absurd e2 h⟩) (by omega)
                  refine Wk.mk [] ?_
                  try simp (maxSteps := 9999999) only [go_sem]
                  try (and_intros <;> first | rfl | omega | exact ⟨_, rfl⟩)
                · have d2 := decide_eq_false e2
                  try simp (maxSteps := 9999999) only [go_sem]
                  repeat refine And.intro (by first|omega|(constructor<;>omega)|kernel_rfl) ?_
                  refine CallW.mk (hw) ?_
                  try simp (maxSteps := 9999999) only [go_sem]
                  try simp (maxSteps := 9999999) only [go_sem, d1]
                  repeat refine And.intro (by first|omega|(constructor<;>omega)|kernel_rfl) ?_
                  refine RemW.pos (by omega) (by omega) ?_
                  try simp (maxSteps := 9999999) only [go_sem, d2]
                  refine CallW.mk (hv) ?_
                  try simp (maxSteps := 9999999) only [go_sem]
                  refine CondW_dec (fun e3 => ?_) (fun e3 => ?_)
                  · have : ¬ polyP l := fun h => by
                      have := (specOK_of h (i := i) (k := k) (by omega) (by omega)).2 e1 e2
                      omega
                    rw [polyB_f this]
                    try simp (maxSteps := 9999999) only [go_sem]
                  · try simp (maxSteps := 9999999) only [go_sem]
                    repeat refine And.intro (by first|omega|(constructor<;>omega)|kernel_rfl) ?_
                    refine LoopK.mk (k + 1) ?_ (hgo ⟨e0, fun _ _ => by omega⟩) (by omega)
                    refine Wk.mk [] ?_
                    try simp (maxSteps := 9999999) only [go_sem]
                    try (and_intros <;> first | rfl | omega | exact ⟨_, rfl⟩)
          · try simp (maxSteps := 9999999) only [go_sem]
            repeat refine And.intro (by first|omega|(constructor<;>omega)|kernel_rfl) ?_
            refine LoopK.mk (i + 1) ?_ (fun i' k' h1 h2 h3 => ?_) (by omega)
            · refine Wk.mk [] ?_
              try simp (maxSteps := 9999999) only [go_sem]
              try (and_intros <;> first | rfl | omega | exact ⟨_, rfl⟩)
            · by_cases h4 : i' < i
              · exact hi i' k' h4 h2 h3
              · rw [show i' = i by omega]; exact hk k' (by omega) h3
      · have : polyP l := polyP_of h1 fun i' k h3 h4 => hi i' k (by omega) h3 h4
        rw [polyB_t this]
        try simp (maxSteps := 9999999) only [go_sem]
  · rw [decide_eq_false h1] at c1
    have : ¬ polyP l := fun h => h1 h.1
    rw [polyB_f this]
    refine fn_enter tabOK mixes Tryz.func74 rfl rfl _ Tryz.ntmps74 _ Tryz.results74 (by simp) fun hwf => ?_
    try simp (maxSteps := 9999999) only [go_sem]
    refine CallW.mk (c1) ?_
    try simp (maxSteps := 9999999) only [go_sem]
end Go.Proofs.YtghckbohaghgkaaGreat.DW

/-
  Sorted lists of vectors: two ways to make one, and the chain along it. No program here.
-/
namespace Go.Proofs.YtghckbohaghgkaaGreat.DW
open Go.RowKit
def ltV (a b : DV) : Prop := a.1 < b.1 ∨ a.1 = b.1 ∧ a.2 < b.2
instance (a b : DV) : Decidable (ltV a b) := by unfold ltV; infer_instance
theorem ltV_irrefl (a : DV) : ¬ ltV a a := by unfold ltV; omega
theorem ltV_trans {a b c : DV} (h1 : ltV a b) (h2 : ltV b c) : ltV a c := by unfold ltV at *; omega
theorem ltV_tri (a b : DV) : ltV a b ∨ a = b ∨ ltV b a := by
  obtain ⟨a1, a2⟩ := a
  obtain ⟨b1, b2⟩ := b
  unfold ltV
  simp only [Prod.mk.injEq]
  omega
theorem ltV_asymm {a b : DV} (h : ltV a b) : ¬ ltV b a := fun h2 => ltV_irrefl _ (ltV_trans h h2)
/-- Strictly sorted lists with the same members are one. -/
theorem srt_unique : ∀ {l m : List DV}, l.Pairwise ltV → m.Pairwise ltV → (∀ x, x ∈ l ↔ x ∈ m) → l = m
  | [], [], _, _, _ => rfl
  | [], b :: m, _, _, h => absurd ((h b).2 List.mem_cons_self) (by simp)
  | a :: l, [], _, _, h => absurd ((h a).1 List.mem_cons_self) (by simp)
  | a :: l, b :: m, h1, h2, h => by
    rw [List.pairwise_cons] at h1 h2
    have hab : a = b := by
      rcases List.mem_cons.1 ((h a).1 List.mem_cons_self) with e | e
      · exact e
      · rcases List.mem_cons.1 ((h b).2 List.mem_cons_self) with e2 | e2
        · exact e2.symm
        · exact absurd (ltV_trans (h1.1 b e2) (h2.1 a e)) (ltV_irrefl _)
    subst hab
    refine congrArg (a :: ·) (srt_unique h1.2 h2.2 fun x => ⟨fun hx => ?_, fun hx => ?_⟩)
    · rcases List.mem_cons.1 ((h x).1 (List.mem_cons_of_mem _ hx)) with e | e
      · subst e; exact absurd (h1.1 _ hx) (ltV_irrefl _)
      · exact e
    · rcases List.mem_cons.1 ((h x).2 (List.mem_cons_of_mem _ hx)) with e | e
      · subst e; exact absurd (h2.1 _ hx) (ltV_irrefl _)
      · exact e
/-- A list without what is equal to its left neighbour. -/
def cmpD : List DV → List DV
  | [] => []
  | [a] => [a]
  | a :: b :: l => if a = b then cmpD (b :: l) else a :: cmpD (b :: l)
theorem cmpD_mem : ∀ {l : List DV} {x : DV}, x ∈ cmpD l ↔ x ∈ l
  | [], x => by simp [cmpD]
  | [a], x => by simp [cmpD]
  | a :: b :: l, x => by
    have ih := cmpD_mem (l := b :: l) (x := x)
    unfold cmpD
    split
    · rename_i h; subst h; rw [ih]; simp
    · rw [List.mem_cons, ih, List.mem_cons, List.mem_cons, List.mem_cons]
theorem cmpD_len : ∀ {l : List DV}, (cmpD l).length ≤ l.length
  | [] => by simp [cmpD]
  | [a] => by simp [cmpD]
  | a :: b :: l => by
    have ih := cmpD_len (l := b :: l)
    unfold cmpD
    split <;> simp only [List.length_cons] at ih ⊢ <;> omega
theorem cmpD_srt : ∀ {l : List DV}, l.Pairwise (fun a b => ¬ ltV b a) → (cmpD l).Pairwise ltV
  | [], _ => by simp [cmpD]
  | [a], _ => by simp [cmpD]
  | a :: b :: l, h => by
    rw [List.pairwise_cons] at h
    have ih := cmpD_srt h.2
    unfold cmpD
    split
    · exact ih
    · rename_i hne
      refine List.pairwise_cons.2 ⟨fun x hx => ?_, ih⟩
      rw [cmpD_mem] at hx
      have hb : ¬ ltV b a := h.1 b List.mem_cons_self
      have hab : ltV a b := by
        rcases ltV_tri a b with h | h | h
        · exact h
        · exact absurd h hne
        · exact absurd h hb
      rcases List.mem_cons.1 hx with rfl | hx
      · exact hab
      · rcases ltV_tri b x with h3 | h3 | h3
        · exact ltV_trans hab h3
        · exact h3 ▸ hab
        · exact absurd h3 ((List.pairwise_cons.1 h.2).1 x hx)
/-- How the program compares vectors. -/
def cfV (a b : DV) : Int := if a.1 = b.1 then a.2 - b.2 else a.1 - b.1
theorem cfV_lt (a b : DV) : cfV a b < 0 ↔ ltV a b := by
  unfold cfV ltV
  split <;> omega
def leB (a b : DV) : Bool := !decide (cfV b a < 0)
theorem leB_iff (a b : DV) : leB a b = true ↔ ¬ ltV b a := by
  unfold leB
  rw [Bool.not_eq_true', decide_eq_false_iff_not, cfV_lt]
/-- Sorted, each vector once. -/
def srtD (l : List DV) : List DV := cmpD (l.mergeSort leB)
theorem srtD_mem {l : List DV} {x : DV} : x ∈ srtD l ↔ x ∈ l := by
  unfold srtD
  rw [cmpD_mem, List.mem_mergeSort]
theorem srtD_srt (l : List DV) : (srtD l).Pairwise ltV := by
  refine cmpD_srt ?_
  have h := List.pairwise_mergeSort (le := leB) (fun a b c h1 h2 => by
    rw [leB_iff] at *
    intro h
    rcases ltV_tri b a with h3 | h3 | h3
    · exact h1 h3
    · subst h3; exact h2 h
    · exact h2 (ltV_trans h h3)) (fun a b => by
    rcases ltV_tri a b with h | h | h
    · rw [Bool.or_eq_true]; exact .inl ((leB_iff a b).2 (ltV_asymm h))
    · subst h; rw [Bool.or_eq_true]; exact .inl ((leB_iff a a).2 (ltV_irrefl _))
    · rw [Bool.or_eq_true]; exact .inr ((leB_iff b a).2 (ltV_asymm h))) l
  exact h.imp fun {a b} h => (leB_iff a b).1 h
theorem srtD_len (l : List DV) : (srtD l).length ≤ l.length := by
  unfold srtD
  have := cmpD_len (l := l.mergeSort leB)
  rw [List.length_mergeSort] at this
  exact this
theorem srtD_eq {l m : List DV} (h1 : m.Pairwise ltV) (h2 : ∀ x, x ∈ m ↔ x ∈ l) : m = srtD l := srt_unique h1 (srtD_srt l) fun x => by rw [h2, srtD_mem]
/-- One more vector in a sorted list. -/
def insD (p : DV) : List DV → List DV
  | [] => [p]
  | a :: l => if ltV a p then a :: insD p l else if a = p then a :: l else p :: a :: l
theorem insD_mem {p x : DV} : ∀ {l : List DV}, x ∈ insD p l ↔ x = p ∨ x ∈ l
  | [] => by simp [insD]
  | a :: l => by
    have ih := insD_mem (p := p) (x := x) (l := l)
    unfold insD
    split
    · rw [List.mem_cons, ih, List.mem_cons]; constructor
      · rintro (h | h | h)
        · exact .inr (.inl h)
        · exact .inl h
        · exact .inr (.inr h)
      · rintro (h | h | h)
        · exact .inr (.inl h)
        · exact .inl h
        · exact .inr (.inr h)
    · split
      · rename_i h; subst h; simp
      · simp
theorem insD_srt {p : DV} : ∀ {l : List DV}, l.Pairwise ltV → (insD p l).Pairwise ltV
  | [], _ => by simp [insD]
  | a :: l, h => by
    have h' := h
    rw [List.pairwise_cons] at h
    unfold insD
    split
    · rename_i hlt
      refine List.pairwise_cons.2 ⟨fun x hx => ?_, insD_srt h.2⟩
      rcases insD_mem.1 hx with rfl | hx
      · exact hlt
      · exact h.1 x hx
    · split
      · exact h'
      · rename_i h1 h2
        have hp : ltV p a := by
          rcases ltV_tri a p with h3 | h3 | h3
          · exact absurd h3 h1
          · exact absurd h3 h2
          · exact h3
        refine List.pairwise_cons.2 ⟨fun x hx => ?_, h'⟩
        rcases List.mem_cons.1 hx with rfl | hx
        · exact hp
        · exact ltV_trans hp (h.1 x hx)
/-- Where a vector belongs: all before it are less. -/
theorem insD_at {p : DV} : ∀ {l : List DV} {i : Nat}, i ≤ l.length → (∀ j, j < i → ltV (nth (t := tVec) l j) p) → (i < l.length → ¬ ltV (nth (t := tVec) l i) p) →
    insD p l = if i < l.length ∧ nth (t := tVec) l i = p then l else l.take i ++ p :: l.drop i
  | [], 0, _, _, _ => by simp [insD]
  | [], i + 1, h, _, _ => by simp at h
  | a :: l, 0, _, _, h2 => by
    have h2 : ¬ ltV a p := h2 (by simp)
    have e : nth (t := tVec) (a :: l) 0 = a := rfl
    unfold insD
    rw [if_neg h2, e]
    by_cases h3 : a = p
    · rw [if_pos h3, if_pos ⟨by simp, h3⟩]
    · rw [if_neg h3, if_neg fun h => h3 h.2]; rfl
  | a :: l, i + 1, hi, h1, h2 => by
    have e : ∀ j, nth (t := tVec) (a :: l) (j + 1) = nth (t := tVec) l j := fun j => by simp [nth]
    have h0 : ltV a p := h1 0 (by omega)
    have ih := insD_at (p := p) (l := l) (i := i) (by simp only [List.length_cons] at hi; omega) (fun j hj => by rw [← e]; exact h1 (j + 1) (by omega)) (fun hj => by rw [← e]; exact h2 (by simp only [List.length_cons]; omega))
    unfold insD
    rw [if_pos h0, ih, e]
    by_cases h3 : i < l.length ∧ nth (t := tVec) l i = p
    · rw [if_pos h3, if_pos ⟨by simp only [List.length_cons]; omega, h3.2⟩]
    · rw [if_neg h3, if_neg fun h => h3 ⟨by have := h.1; simp only [List.length_cons] at this; omega, h.2⟩]; rfl
def srtI (l : List DV) (i : Nat) : List DV := (l.take i).foldl (fun s p => insD p s) []
theorem srtI_step {l : List DV} {i : Nat} (h : i < l.length) : srtI l (i + 1) = insD (nth (t := tVec) l i) (srtI l i) := by
  unfold srtI
  rw [nth_lt h, List.take_succ_eq_append_getElem h, List.foldl_append]; rfl
theorem ins_fold : ∀ {l s : List DV}, s.Pairwise ltV → (l.foldl (fun s p => insD p s) s).Pairwise ltV ∧ ∀ x, x ∈ l.foldl (fun s p => insD p s) s ↔ x ∈ l ∨ x ∈ s
  | [], s, h => ⟨h, fun x => by simp⟩
  | p :: l, s, h => by
    obtain ⟨h1, h2⟩ := ins_fold (l := l) (insD_srt (p := p) h)
    refine ⟨h1, fun x => ?_⟩
    rw [List.foldl_cons, h2, insD_mem, List.mem_cons]
    constructor
    · rintro (h | h | h)
      · exact .inl (.inr h)
      · exact .inl (.inl h)
      · exact .inr h
    · rintro ((h | h) | h)
      · exact .inr (.inl h)
      · exact .inl h
      · exact .inr (.inr h)
theorem srtI_all (l : List DV) : srtI l l.length = srtD l := by
  unfold srtI
  rw [List.take_length]
  obtain ⟨h1, h2⟩ := ins_fold (l := l) (s := []) List.Pairwise.nil
  exact srtD_eq h1 fun x => by rw [h2]; simp
theorem insD_len {p : DV} : ∀ {l : List DV}, (insD p l).length ≤ l.length + 1
  | [] => by simp [insD]
  | a :: l => by
    have ih := insD_len (p := p) (l := l)
    unfold insD
    split
    · simp only [List.length_cons]; omega
    · split <;> simp only [List.length_cons] <;> omega
theorem srtI_len (l : List DV) : ∀ i, (srtI l i).length ≤ i
  | 0 => by simp [srtI]
  | i + 1 => by
    by_cases h : i < l.length
    · rw [srtI_step h]
      have := insD_len (p := nth (t := tVec) l i) (l := srtI l i)
      have := srtI_len l i
      omega
    · have : srtI l (i + 1) = srtI l i := by
        unfold srtI; rw [List.take_of_length_le (by omega), List.take_of_length_le (by omega)]
      rw [this]
      have := srtI_len l i
      omega
/-- What is left of a chain, its last point first, before a point is put to it. -/
def popD (v : DV) : List DV → List DV
  | b :: a :: l => if trn a b v ≤ 0 then popD v (a :: l) else b :: a :: l
  | l => l
theorem popD_len {v : DV} : ∀ {l : List DV}, (popD v l).length ≤ l.length
  | [] => Nat.le_refl _
  | [a] => Nat.le_refl _
  | b :: a :: l => by
    unfold popD
    split
    · exact Nat.le_trans popD_len (by simp)
    · exact Nat.le_refl _
theorem popD_sub {v x : DV} : ∀ {l : List DV}, x ∈ popD v l → x ∈ l
  | [], h => h
  | [a], h => h
  | b :: a :: l, h => by
    unfold popD at h
    split at h
    · exact List.mem_cons_of_mem _ (popD_sub h)
    · exact h
/-- The chain, its last point first. -/
def chR (l : List DV) : List DV := l.foldl (fun c v => v :: popD v c) []
def chRi (l : List DV) (i : Nat) : List DV := chR (l.take i)
theorem chRi_step {l : List DV} {i : Nat} (h : i < l.length) : chRi l (i + 1) = nth (t := tVec) l i :: popD (nth (t := tVec) l i) (chRi l i) := by
  unfold chRi chR
  rw [nth_lt h, List.take_succ_eq_append_getElem h, List.foldl_append]; rfl
theorem chRi_len (l : List DV) : ∀ i, (chRi l i).length ≤ i
  | 0 => by simp [chRi, chR]
  | i + 1 => by
    by_cases h : i < l.length
    · rw [chRi_step h, List.length_cons]
      have := popD_len (v := nth (t := tVec) l i) (l := chRi l i)
      have := chRi_len l i
      omega
    · have : chRi l (i + 1) = chRi l i := by
        unfold chRi; rw [List.take_of_length_le (by omega), List.take_of_length_le (by omega)]
      rw [this]
      have := chRi_len l i
      omega
theorem chRi_mem {l : List DV} {x : DV} : ∀ {i : Nat}, x ∈ chRi l i → x ∈ l
  | 0, h => by simp [chRi, chR] at h
  | i + 1, h => by
    by_cases hi : i < l.length
    · rw [chRi_step hi] at h
      rcases List.mem_cons.1 h with rfl | h
      · exact nth_mem hi
      · exact chRi_mem (popD_sub h)
    · have e : chRi l (i + 1) = chRi l i := by
        unfold chRi; rw [List.take_of_length_le (by omega), List.take_of_length_le (by omega)]
      rw [e] at h
      exact chRi_mem h
/-- The chain, its last point left out. -/
def chD (l : List DV) : List DV := (chR l).reverse.dropLast
/-- The hull. -/
def hullD (l : List DV) : List DV := if (srtD l).length < 2 then srtD l else chD (srtD l) ++ chD (srtD l).reverse
end Go.Proofs.YtghckbohaghgkaaGreat.DW

/-
  Vectors and polygons: turned, negated, moved.
-/
namespace Go.Proofs.YtghckbohaghgkaaGreat.DW
open Go.RowKit
def rot1 (v : DV) : DV := (-v.2, v.1)
def rotN : Nat → DV → DV
  | 0, v => v
  | n + 1, v => rot1 (rotN n v)
theorem okV_of {v : DV} (h1 : -1000 ≤ v.1) (h2 : v.1 ≤ 1000) (h3 : -1000 ≤ v.2) (h4 : v.2 ≤ 1000) : okV v = true := by
  unfold okV inB
  rw [Bool.and_eq_true, decide_eq_true_iff, decide_eq_true_iff]
  exact ⟨⟨h1, h2⟩, h3, h4⟩
theorem okV_rot {v : DV} (h : okV v = true) : ∀ n, okV (rotN n v) = true
  | 0 => h
  | n + 1 => by
    have := okV_b (okV_rot h n)
    show okV (rot1 (rotN n v)) = true
    unfold rot1
    exact okV_of (by simp only; omega) (by simp only; omega) (by simp only; omega) (by simp only; omega)
theorem turnVec_fn (v : DV) (k : Int) (hv : okV v = true) (hk : 0 ≤ k ∧ k ≤ 3) : Fn Tryz.prog 125 [⟨tVec, v⟩, ⟨.int, k⟩] false [⟨tVec, rotN k.toNat v⟩] := by
  have e : (k % 4 + 4) % 4 = k := by omega
  refine fn_enter tabOK mixes Tryz.func125 rfl rfl _ Tryz.ntmps125 _ Tryz.results125 (by simp) fun hwf => ?_
  try simp (maxSteps := 9999999) only [go_sem]
  refine RemW.pos (by omega) (by decide) ?_
  try simp (maxSteps := 9999999) only [go_sem]
  repeat refine And.intro (by first|omega|(constructor<;>omega)|kernel_rfl) ?_
  refine RemW.pos (by omega) (by decide) ?_
  rw [e]
  try simp (maxSteps := 9999999) only [go_sem]
  refine LoopG.intro _ _ _ (fun i : Nat => ⟨[(2, .ptr 0 0), (4, .ptr 1 0), (8, .sc (.int .i64 k)), (9, .sc (.int .i64 i))], [(1, .box [.sc (.int .i64 0), .sc (.int .i64 0)]), (0, .box [.sc (.int .i64 (rotN i v).1), .sc (.int .i64 (rotN i v).2)])]⟩) (fun i => i ≤ k.toNat) (fun i => k.toNat - i) 0 ?_ (Nat.zero_le _) ?_
  · refine Wk.mk [] ?_
    try simp (maxSteps := 9999999) only [go_sem]
    try (and_intros <;> first | rfl | omega | exact ⟨_, rfl⟩)
  · rintro i hi
    have hb := okV_b (okV_rot hv i)
    have hst : rotN (i + 1) v = (-(rotN i v).2, (rotN i v).1) := rfl
    generalize rotN i v = u at hb hst ⊢
    obtain ⟨b1, b2, b3, b4⟩ := hb
    try simp (maxSteps := 9999999) only [go_sem]
    refine CondW_dec (fun hA => ?_) (fun hA => ?_)
    · try simp (maxSteps := 9999999) only [go_sem]
      repeat refine And.intro (by first|omega|(constructor<;>omega)|kernel_rfl) ?_
      refine LoopK.mk (i + 1) ?_ (by omega) (by omega)
      rw [hst]
      refine Wk.mk [] ?_
      try simp (maxSteps := 9999999) only [go_sem]
      try (and_intros <;> first | rfl | omega | exact ⟨_, rfl⟩)
    · rw [show k.toNat = i by omega]
      try simp (maxSteps := 9999999) only [go_sem]
      all_goals repeat refine And.intro (by first|omega|(constructor<;>omega)|kernel_rfl) ?_
      all_goals first | kernel_rfl | omega | rfl
theorem TurnVec_fn (v : DV) (k : Int) (hv : okV v = true) (hk : 0 ≤ k ∧ k ≤ 3) : Fn Tryz.prog 73 [⟨tVec, v⟩, ⟨.int, k⟩] false [⟨tVec, rotN k.toNat v⟩] := by
  have c1 := IsValidVec_fn v
  rw [hv] at c1
  have e : k % 4 = k := by omega
  have d1 := decide_eq_false (p := k < 0) (by omega)
  refine fn_enter tabOK mixes Tryz.func73 rfl rfl _ Tryz.ntmps73 _ Tryz.results73 (by simp) fun hwf => ?_
  try simp (maxSteps := 9999999) only [go_sem]
  refine CallW.mk (c1) ?_
  try simp (maxSteps := 9999999) only [go_sem]
  refine RemW.pos (by omega) (by decide) ?_
  rw [e]
  try simp (maxSteps := 9999999) only [go_sem, d1]
  refine LoopG.intro _ _ _ (fun i : Nat => ⟨[(1, .sc (.int .i64 (k - i))), (2, .ptr 0 0), (4, .ptr 1 0)], [(1, .box [.sc (.int .i64 0), .sc (.int .i64 0)]), (0, .box [.sc (.int .i64 (rotN i v).1), .sc (.int .i64 (rotN i v).2)])]⟩) (fun i => i ≤ k.toNat) (fun i => k.toNat - i) 0 ?_ (Nat.zero_le _) ?_
  · refine Wk.mk [] ?_
    try simp (maxSteps := 9999999) only [go_sem]
    try (and_intros <;> first | rfl | omega | exact ⟨_, rfl⟩)
  · rintro i hi
    have hb := okV_b (okV_rot hv i)
    have hst : rotN (i + 1) v = (-(rotN i v).2, (rotN i v).1) := rfl
    have hki : k - (i : Int) - 1 = k - ((i + 1 : Nat) : Int) := by omega
    by_cases hA : (k : Int) - i > 0
    · generalize rotN i v = u at hb hst ⊢
      obtain ⟨b1, b2, b3, b4⟩ := hb
      try simp (maxSteps := 9999999) only [go_sem]
      refine CondW_dec (fun hB => ?_) (fun hB => ?_)
      · try simp (maxSteps := 9999999) only [go_sem]
        repeat refine And.intro (by first|omega|(constructor<;>omega)|kernel_rfl) ?_
        refine LoopK.mk (i + 1) ?_ (by omega) (by omega)
        rw [hst]
        refine Wk.mk [] ?_
        try simp (maxSteps := 9999999) only [go_sem]
        try (and_intros <;> first | rfl | omega | exact ⟨_, rfl⟩)
      · omega
    · rw [show k.toNat = i by omega]
      try simp (maxSteps := 9999999) only [go_sem]
      refine CondW_dec (fun hB => ?_) (fun hB => ?_)
      · omega
      · try simp (maxSteps := 9999999) only [go_sem]
        all_goals first | kernel_rfl | omega | rfl
/-- The first i vectors, each turned. -/
def mapi (f : DV → DV) (l : List DV) (i : Nat) : List DV := (l.take i).map f
theorem mapi_step {f : DV → DV} {l : List DV} {i : Nat} (h : i < l.length) : mapi f l (i + 1) = mapi f l i ++ [f (nth (t := tVec) l i)] := by
  unfold mapi
  rw [List.take_succ_eq_append_getElem h, nth_lt h, List.map_append]
  rfl
theorem mapi_len {f : DV → DV} {l : List DV} {i : Nat} (h : i ≤ l.length) : (mapi f l i).length = i := by
  unfold mapi
  rw [List.length_map, List.length_take]; omega
theorem mapi_all {f : DV → DV} {l : List DV} {i : Nat} (h : l.length ≤ i) : mapi f l i = l.map f := by
  unfold mapi
  rw [List.take_of_length_le h]
theorem any_okV_f {l : List DV} (h : ∀ v ∈ l, okV v = true) : (l.any fun v => !okV v) = false := by
  rw [List.any_eq_false]
  intro v hv
  rw [h v hv]; decide
theorem TurnPolygonI_fn (l : List DV) (k : Int) (hl : ∀ v ∈ l, okV v = true) (hn : l.length ≤ 1048576) (hk : 0 ≤ k ∧ k ≤ 3) : Fn Tryz.prog 85 [⟨.slice tVec, l⟩, ⟨.int, k⟩] true [⟨.slice tVec, l.map (rotN k.toNat)⟩] := by
  have c1 := areVecs_fn l
  rw [any_okV_f hl] at c1
  refine fn_enter tabOK mixes Tryz.func85 rfl rfl _ Tryz.ntmps85 _ Tryz.results85 (by simp) fun hwf => ?_
  try simp (maxSteps := 9999999) only [go_sem]
  refine CallW.mk (c1) ?_
  try simp (maxSteps := 9999999) only [go_sem]
  refine LoopG.intro _ _ _ (fun i : Nat => ⟨[(1, .sc (.int .i64 k)), (5, .row 0 0), (12, .sl tVec l), (13, .sc (.int .i64 l.length)), (14, .sc (.int .i64 i))], [(0, .row 113 tVec 0 true (mapi (rotN k.toNat) l i))]⟩) (fun i => i ≤ l.length) (fun i => l.length - i) 0 ?_ (Nat.zero_le _) ?_
  · refine Wk.mk [] ?_
    try simp (maxSteps := 9999999) only [go_sem]
    try (and_intros <;> first | rfl | omega | exact ⟨_, rfl⟩)
  · rintro i hi
    try simp (maxSteps := 9999999) only [go_sem]
    refine CondW_dec (fun hA => ?_) (fun hA => ?_)
    · have hlt : i < l.length := by omega
      have hml := mapi_len (f := rotN k.toNat) (l := l) (i := i) (by omega)
      have e := mapi_step (f := rotN k.toNat) hlt
      have c2 := turnVec_fn (nth (t := tVec) l i) k (hl _ (nth_mem hlt)) hk
      try simp (maxSteps := 9999999) only [go_sem]
      repeat refine And.intro (by first|omega|(constructor<;>omega)|kernel_rfl) ?_
      refine CallW.mk (c2) ?_
      try simp (maxSteps := 9999999) only [go_sem]
      try simp (maxSteps := 9999999) only [go_sem, hml]
      repeat refine And.intro (by first|omega|(constructor<;>omega)|kernel_rfl) ?_
      refine LoopK.mk (i + 1) ?_ (by omega) (by omega)
      rw [e]
      refine Wk.mk [] ?_
      try simp (maxSteps := 9999999) only [go_sem]
      try (and_intros <;> first | rfl | omega | exact ⟨_, rfl⟩)
      all_goals (first | exact ⟨by omega, rfl⟩ | exact ⟨rfl, rfl⟩)
    · rw [mapi_all (by omega)]
      try simp (maxSteps := 9999999) only [go_sem]
theorem TurnPolygonS_fn (l : List DV) (k : Int) (hl : ∀ v ∈ l, okV v = true) (hn : l.length ≤ 1048576) (hk : 0 ≤ k ∧ k ≤ 3) : Fn Tryz.prog 35 [⟨.slice tVec, l⟩, ⟨.int, k⟩] true [⟨.slice tVec, l.map (rotN k.toNat)⟩] := by
  refine fn_enter tabOK mixes Tryz.func35 rfl rfl _ Tryz.ntmps35 _ Tryz.results35 (by simp) fun hwf => ?_
  try simp (maxSteps := 9999999) only [go_sem]
  refine LoopG.intro _ _ _ (fun i : Nat => ⟨[(1, .sc (.int .i64 k)), (5, .row 0 0), (9, .sl tVec l), (10, .sc (.int .i64 l.length)), (11, .sc (.int .i64 i))], [(0, .row 113 tVec 0 true (mapi (rotN k.toNat) l i))]⟩) (fun i => i ≤ l.length) (fun i => l.length - i) 0 ?_ (Nat.zero_le _) ?_
  · refine Wk.mk [] ?_
    try simp (maxSteps := 9999999) only [go_sem]
    try (and_intros <;> first | rfl | omega | exact ⟨_, rfl⟩)
  · rintro i hi
    try simp (maxSteps := 9999999) only [go_sem]
    refine CondW_dec (fun hA => ?_) (fun hA => ?_)
    · have hlt : i < l.length := by omega
      have hml := mapi_len (f := rotN k.toNat) (l := l) (i := i) (by omega)
      have e := mapi_step (f := rotN k.toNat) hlt
      have ho := hl _ (nth_mem hlt)
      have c1 := IsValidVec_fn (nth (t := tVec) l i)
      rw [ho] at c1
      have c2 := TurnVec_fn (nth (t := tVec) l i) k ho hk
      try simp (maxSteps := 9999999) only [go_sem]
      repeat refine And.intro (by first|omega|(constructor<;>omega)|kernel_rfl) ?_
      refine CallW.mk (c1) ?_
      try simp (maxSteps := 9999999) only [go_sem]
      refine CallW.mk (c2) ?_
      try simp (maxSteps := 9999999) only [go_sem]
      try simp (maxSteps := 9999999) only [go_sem, hml]
      repeat refine And.intro (by first|omega|(constructor<;>omega)|kernel_rfl) ?_
      refine LoopK.mk (i + 1) ?_ (by omega) (by omega)
      rw [e]
      refine Wk.mk [] ?_
      try simp (maxSteps := 9999999) only [go_sem]
      try (and_intros <;> first | rfl | omega | exact ⟨_, rfl⟩)
      all_goals (first | exact ⟨by omega, rfl⟩ | exact ⟨rfl, rfl⟩)
    · rw [mapi_all (by omega)]
      try simp (maxSteps := 9999999) only [go_sem]
def negV (v : DV) : DV := (-v.1, -v.2)
theorem NegatePolygonI_fn (l : List DV) (hl : ∀ v ∈ l, okV v = true) (hn : l.length ≤ 1048576) : Fn Tryz.prog 123 [⟨.slice tVec, l⟩] true [⟨.slice tVec, l.map negV⟩] := by
  have c1 := areVecs_fn l
  rw [any_okV_f hl] at c1
  refine fn_enter tabOK mixes Tryz.func123 rfl rfl _ Tryz.ntmps123 _ Tryz.results123 (by simp) fun hwf => ?_
  try simp (maxSteps := 9999999) only [go_sem]
  refine CallW.mk (c1) ?_
  try simp (maxSteps := 9999999) only [go_sem]
  refine LoopG.intro _ _ _ (fun i : Nat => ⟨[(3, .row 0 0), (10, .sl tVec l), (11, .sc (.int .i64 l.length)), (12, .sc (.int .i64 i))], [(0, .row 113 tVec 0 true (mapi negV l i))]⟩) (fun i => i ≤ l.length) (fun i => l.length - i) 0 ?_ (Nat.zero_le _) ?_
  · refine Wk.mk [] ?_
    try simp (maxSteps := 9999999) only [go_sem]
    try (and_intros <;> first | rfl | omega | exact ⟨_, rfl⟩)
  · rintro i hi
    try simp (maxSteps := 9999999) only [go_sem]
    refine CondW_dec (fun hA => ?_) (fun hA => ?_)
    · have hlt : i < l.length := by omega
      have hml := mapi_len (f := negV) (l := l) (i := i) (by omega)
      have e := mapi_step (f := negV) hlt
      have hb := okV_b (hl _ (nth_mem hlt))
      obtain ⟨b1, b2, b3, b4⟩ := hb
      try simp (maxSteps := 9999999) only [go_sem]
      repeat refine And.intro (by first|omega|(constructor<;>omega)|kernel_rfl) ?_
      refine LoopK.mk (i + 1) ?_ (by omega) (by omega)
      rw [e]
      unfold negV
      refine Wk.mk [] ?_
      try simp (maxSteps := 9999999) only [go_sem]
      try (and_intros <;> first | rfl | omega | exact ⟨_, rfl⟩)
      all_goals (first | exact ⟨by omega, rfl⟩ | exact ⟨rfl, rfl⟩)
    · rw [mapi_all (by omega)]
      try simp (maxSteps := 9999999) only [go_sem]
theorem NegatePolygonS_fn (l : List DV) (hl : ∀ v ∈ l, okV v = true) (hn : l.length ≤ 1048576) : Fn Tryz.prog 71 [⟨.slice tVec, l⟩] true [⟨.slice tVec, l.map negV⟩] := by
  refine fn_enter tabOK mixes Tryz.func71 rfl rfl _ Tryz.ntmps71 _ Tryz.results71 (by simp) fun hwf => ?_
  try simp (maxSteps := 9999999) only [go_sem]
  refine LoopG.intro _ _ _ (fun i : Nat => ⟨[(3, .row 0 0), (7, .sl tVec l), (8, .sc (.int .i64 l.length)), (9, .sc (.int .i64 i))], [(0, .row 113 tVec 0 true (mapi negV l i))]⟩) (fun i => i ≤ l.length) (fun i => l.length - i) 0 ?_ (Nat.zero_le _) ?_
  · refine Wk.mk [] ?_
    try simp (maxSteps := 9999999) only [go_sem]
    try (and_intros <;> first | rfl | omega | exact ⟨_, rfl⟩)
  · rintro i hi
    try simp (maxSteps := 9999999) only [go_sem]
    refine CondW_dec (fun hA => ?_) (fun hA => ?_)
    · have hlt : i < l.length := by omega
      have hml := mapi_len (f := negV) (l := l) (i := i) (by omega)
      have e := mapi_step (f := negV) hlt
      have ho := hl _ (nth_mem hlt)
      have c1 := IsValidVec_fn (nth (t := tVec) l i)
      rw [ho] at c1
      have hb := okV_b ho
      obtain ⟨b1, b2, b3, b4⟩ := hb
      try simp (maxSteps := 9999999) only [go_sem]
      repeat refine And.intro (by first|omega|(constructor<;>omega)|kernel_rfl) ?_
      refine CallW.mk (c1) ?_
      try simp (maxSteps := 9999999) only [go_sem]
      try simp (maxSteps := 9999999) only [go_sem, hml]
      repeat refine And.intro (by first|omega|(constructor<;>omega)|kernel_rfl) ?_
      refine LoopK.mk (i + 1) ?_ (by omega) (by omega)
      rw [e]
      unfold negV
      refine Wk.mk [] ?_
      try simp (maxSteps := 9999999) only [go_sem]
      try (and_intros <;> first | rfl | omega | exact ⟨_, rfl⟩)
      all_goals (first | exact ⟨by omega, rfl⟩ | exact ⟨rfl, rfl⟩)
    · rw [mapi_all (by omega)]
      try simp (maxSteps := 9999999) only [go_sem]
def addV (v c : DV) : DV := (c.1 + v.1, c.2 + v.2)
theorem moved_fn (l : List DV) (v : DV) (hv : okV v = true) (hl : ∀ v ∈ l, okV v = true) (hn : l.length ≤ 1048576) : Fn Tryz.prog 166 [⟨.slice tVec, l⟩, ⟨tVec, v⟩] true [⟨.slice tVec, l.map (addV v)⟩] := by
  obtain ⟨q1, q2, q3, q4⟩ := okV_b hv
  refine fn_enter tabOK mixes Tryz.func166 rfl rfl _ Tryz.ntmps166 _ Tryz.results166 (by simp) fun hwf => ?_
  try simp (maxSteps := 9999999) only [go_sem]
  refine LoopG.intro _ _ _ (fun i : Nat => ⟨[(3, .ptr 0 0), (5, .row 1 0), (9, .sl tVec l), (10, .sc (.int .i64 l.length)), (11, .sc (.int .i64 i))], [(1, .row 113 tVec 0 true (mapi (addV v) l i)), (0, .box [.sc (.int .i64 v.1), .sc (.int .i64 v.2)])]⟩) (fun i => i ≤ l.length) (fun i => l.length - i) 0 ?_ (Nat.zero_le _) ?_
  · refine Wk.mk [] ?_
    try simp (maxSteps := 9999999) only [go_sem]
    try (and_intros <;> first | rfl | omega | exact ⟨_, rfl⟩)
  · rintro i hi
    try simp (maxSteps := 9999999) only [go_sem]
    refine CondW_dec (fun hA => ?_) (fun hA => ?_)
    · have hlt : i < l.length := by omega
      have hml := mapi_len (f := addV v) (l := l) (i := i) (by omega)
      have e := mapi_step (f := addV v) hlt
      obtain ⟨b1, b2, b3, b4⟩ := okV_b (hl _ (nth_mem hlt))
      try simp (maxSteps := 9999999) only [go_sem]
      repeat refine And.intro (by first|omega|(constructor<;>omega)|kernel_rfl) ?_
      refine LoopK.mk (i + 1) ?_ (by omega) (by omega)
      rw [e]
      unfold addV
      refine Wk.mk [] ?_
      try simp (maxSteps := 9999999) only [go_sem]
      try (and_intros <;> first | rfl | omega | exact ⟨_, rfl⟩)
      all_goals (first | exact ⟨by omega, rfl⟩ | exact ⟨rfl, rfl⟩)
    · rw [mapi_all (by omega)]
      try simp (maxSteps := 9999999) only [go_sem]
end Go.Proofs.YtghckbohaghgkaaGreat.DW

/-
  Results that may grow; functions that use up what they are handed, called last. No program here.
-/
namespace Go.Proofs.YtghckbohaghgkaaGreat.DW
open Go.RowKit

section
variable {P : Program} {T : TypeId → Option Ty}
/-- The result is a row of the call's own. -/
def RetG (T : TypeId → Option Ty) (rs : List ResultVar) (e : TypeId) (t : Ty) (l : List t.den) (σ : St) : Prop :=
  match rs with
  | [r] => ∃ k ver, aRes T σ r = some (.row k ver) ∧ look σ.mem k = some (.row e t ver true l)
  | _ => False
theorem retG_ok (hT : TabOK P T) {fn : Func} {c : Cx} {σ : St} {Γ : Asg} {a : Act} {w : World} {e : TypeId} {t : Ty} {l : List t.den} (hs : Sim c σ Γ a w) (h : RetG T fn.results.toList e t l σ) :
    ∃ v, (results fn a.tmps).run P w = .ok v w ∧ ∃ fps : List (List Nat), v.oneCell' = true ∧ GrowF t.rp c.base w e v l fps ∧ OwnFp c.base w fps.flatten ∧ ∀ b ∈ fps.flatten, v.ownBlock ≠ some b := by
  unfold RetG at h
  split at h
  · rename_i r hr
    obtain ⟨k, ver, h1, h2⟩ := h
    obtain ⟨u, g1, g2⟩ := aRes_run (P := P) hT hs h1 rfl
    obtain ⟨q1, B, hB, q2⟩ := g2
    rw [h2] at hB; injection hB with hB; subst hB
    obtain ⟨fps, hg, hf, hgd, hon⟩ := hs.mm k _ h2
    have hu : u = Γ.hd k := q2.2 rfl
    have hfr : fn.results = #[r] := toList1 hr
    refine ⟨u, ?_, fps, q1, hu ▸ hg, hf ▸ hon rfl, fun b hb he => ?_⟩
    · rw [results_eq, hfr, List.mapM_toArray, map_eq_pure_bind, Sem.run_bind, Sem.run_bind]
      simp only [List.mapM_cons, List.mapM_nil, Sem.run_bind, g1, Result.andThen_ok, Sem.run_pure]
      simp
    · exact (hgd b (hf ▸ hb)).2 ⟨k, _, h2, by show (Γ.hd k).ownBlock = some b; rw [← hu]; exact he⟩
  · exact h.elim
def KRG (T : TypeId → Option Ty) (rs : List ResultVar) (e : TypeId) (t : Ty) (l : List t.den) (ex : Exit) (σ : St) : Prop :=
  match ex with
  | .normal | .ret => RetG T rs e t l σ
  | _ => False
@[go_sem] theorem KRG_n {rs : List ResultVar} {e : TypeId} {t : Ty} {l : List t.den} {σ : St} : KRG T rs e t l .normal σ = RetG T rs e t l σ := (rfl)
@[go_sem] theorem KRG_r {rs : List ResultVar} {e : TypeId} {t : Ty} {l : List t.den} {σ : St} : KRG T rs e t l .ret σ = RetG T rs e t l σ := (rfl)
attribute [go_sem] RetG
theorem fnG_enter (hT : TabOK P T) (hmix : P.follows .mixedOrders = true) {f : FuncId} {fn : Func} {code : Code} {args : List Dat} {e : TypeId} {t : Ty} {l : List t.den} (hf : P.funcs[f]? = some fn) (hname : (fn.name == "runtime.NumGoroutine") = false) (hb : fn.body = some code) (n : Nat) (hn : fn.ntmps = n) (rs : List ResultVar) (hr : fn.results = rs.toArray) (hna : args.length ≤ n)
    (h : (∀ d ∈ args, Wf d.1 d.2) → AC P T n code (KRG T rs e t l) ⟨argTm 0 args, []⟩) : FnG P f args e t l := by
  subst hn
  have h' : (∀ d ∈ args, Wf d.1 d.2) → AC P T fn.ntmps code (fun e' σ => match e' with
      | .normal | .ret => RetG T fn.results.toList e t l σ
      | _ => False) ⟨argTm 0 args, []⟩ := fun hwf => by
    have := h hwf
    have e : (KRG T rs e t l) = fun e' σ => match e' with
        | .normal | .ret => RetG T fn.results.toList e t l σ
        | _ => False := by
      have hrl : fn.results.toList = rs := by rw [hr]
      rw [hrl]; funext e' σ; cases e' <;> rfl
    rw [e] at this
    exact this
  have := fn_gen (VQ := fun b S w v => ∃ fps : List (List Nat), v.oneCell' = true ∧ GrowF t.rp b w e v l fps ∧ OwnFp b w fps.flatten ∧ ∀ b ∈ fps.flatten, v.ownBlock ≠ some b) hT hmix hf hname hb hna (fun c σ Γ a w hs hq => retG_ok (P := P) hT hs hq) h'
  refine ⟨this.1, fun w vs S ha => (this.2 w vs S ha).mono ?_⟩
  rintro e w' ⟨hb, v, he, fps, q1, q2, q3, q4⟩
  exact ⟨hb, v, fps, he, q1, q2, q3, q4⟩

-- functions that return a pointer to a box of their own
/-- The result points at a box with these data. -/
def RetP (T : TypeId → Option Ty) (rs : List ResultVar) (t : Ty) (x : t.den) (σ : St) : Prop :=
  match rs with
  | [r] => match aRes T σ r with
    | some (.ptr k 0) => match look σ.mem k with
      | some (.box cs) => Is (look σ.mem) t x cs
      | _ => False
    | _ => False
  | _ => False
theorem retP_ok (hT : TabOK P T) {fn : Func} {c : Cx} {σ : St} {Γ : Asg} {a : Act} {w : World} {t : Ty} {x : t.den} (hs : Sim c σ Γ a w) (h : RetP T fn.results.toList t x σ) :
    ∃ v, (results fn a.tmps).run P w = .ok v w ∧ DRes false c.base c.S w v ⟨.ext .ref t, some x⟩ := by
  unfold RetP at h
  split at h
  · rename_i r hr
    split at h
    · rename_i k h1
      split at h
      · rename_i cs hk
        obtain ⟨u, g1, g2⟩ := aRes_run (P := P) hT hs h1 rfl
        obtain ⟨rfl, _⟩ := g2
        have hfr : fn.results = #[r] := toList1 hr
        obtain ⟨hbase, _⟩ := hs.mm k _ hk
        obtain ⟨us, e, hg, hc⟩ := box_cell hs hk
        obtain ⟨fp, hrp, hfp, _⟩ := hs.isRep hc h
        refine ⟨_, ?_, Γ.β k :: fp, ⟨_, .inr ⟨rfl, rfl⟩, Γ.β k, 0, us.toList, fp, rfl, rfl, hrp, fun j v hv => ?_⟩, (fun h => by cases h), fun b hb => (List.mem_cons.1 hb).elim (fun e => e ▸ .inr hbase) (hfp b)⟩
        · rw [results_eq, hfr, List.mapM_toArray, map_eq_pure_bind, Sem.run_bind, Sem.run_bind]
          simp only [List.mapM_cons, List.mapM_nil, Sem.run_bind, g1, Result.andThen_ok, Sem.run_pure]
          simp
        · rw [Nat.zero_add, cell_of_row w _ _ us e (0, 0) hg, ← Array.getElem?_toList]; exact hv
      · exact h.elim
    · exact h.elim
  · exact h.elim
def KRP (T : TypeId → Option Ty) (rs : List ResultVar) (t : Ty) (x : t.den) (ex : Exit) (σ : St) : Prop :=
  match ex with
  | .normal | .ret => RetP T rs t x σ
  | _ => False
@[go_sem] theorem KRP_n {rs : List ResultVar} {t : Ty} {x : t.den} {σ : St} : KRP T rs t x .normal σ = RetP T rs t x σ := (rfl)
@[go_sem] theorem KRP_r {rs : List ResultVar} {t : Ty} {x : t.den} {σ : St} : KRP T rs t x .ret σ = RetP T rs t x σ := (rfl)
attribute [go_sem] RetP
theorem fnP_enter (hT : TabOK P T) (hmix : P.follows .mixedOrders = true) {f : FuncId} {fn : Func} {code : Code} {args : List Dat} {t : Ty} {x : t.den} (hf : P.funcs[f]? = some fn) (hname : (fn.name == "runtime.NumGoroutine") = false) (hb : fn.body = some code) (n : Nat) (hn : fn.ntmps = n) (rs : List ResultVar) (hr : fn.results = rs.toArray) (hna : args.length ≤ n)
    (h : (∀ d ∈ args, Wf d.1 d.2) → AC P T n code (KRP T rs t x) ⟨argTm 0 args, []⟩) : Fn P f args false [⟨.ext .ref t, some x⟩] := by
  subst hn
  have h' : (∀ d ∈ args, Wf d.1 d.2) → AC P T fn.ntmps code (fun e' σ => match e' with
      | .normal | .ret => RetP T fn.results.toList t x σ
      | _ => False) ⟨argTm 0 args, []⟩ := fun hwf => by
    have := h hwf
    have e : (KRP T rs t x) = fun e' σ => match e' with
        | .normal | .ret => RetP T fn.results.toList t x σ
        | _ => False := by
      have hrl : fn.results.toList = rs := by rw [hr]
      rw [hrl]; funext e' σ; cases e' <;> rfl
    rw [e] at this
    exact this
  have := fn_gen (VQ := fun b S w v => DRes false b S w v ⟨.ext .ref t, some x⟩) hT hmix hf hname hb hna (fun c σ Γ a w hs hq => retP_ok (P := P) hT hs hq) h'
  exact ⟨this.1, fun w vs S ha => (this.2 w vs S ha).mono fun e w' ⟨hb, v, he, hd⟩ => ⟨hb, v, he, hd⟩⟩

-- functions that use up what they are handed
/-- The contract of a function on values of a walk, at the memory of that walk: it may write what that memory's rows hold. -/
def FnB (P : Program) (f : FuncId) (vs : List AV) (M : Mm) (own : Bool) (res : List Dat) : Prop :=
  (∀ vs w, (callFunc f vs).run P w = .ok (.enter f vs) w) ∧
  ∀ (c : Cx) (Γ : Asg) (a : Act) (w : World) (tm : Tm) (us : List Value), Sim c ⟨tm, M⟩ Γ a w → All2 (fun v u => ARep c M Γ w v u) vs us →
    Calls P f us.toArray w fun en w' => Below c.base c.w0 w' ∧ c.base ≤ w'.heap.size ∧ ∃ v, en = .returned v ∧ ResOK own c.base c.S w' v res
-- a call that comes last
/-- Code, as far as walks of every surroundings say. -/
def TW (P : Program) (n : Nat) (x : Code) (Q : Exit → St → Prop) (σ : St) : Prop :=
  ∀ (c : Cx) (Γ : Asg) (a : Act) (w : World) (Q' : Exit → Act → World → Prop), c.n = n → Sim c σ Γ a w → (∀ e σ' Γ' a' w', Q e σ' → Sim c σ' Γ' a' w' → Q' e a' w') → x.wp P Q' a w
theorem TW.of (hT : TabOK P T) (hmix : P.follows .mixedOrders = true) {n : Nat} {x : Code} {Q : Exit → St → Prop} {σ : St} (h : AC P T n x Q σ) : TW P n x Q σ :=
  fun c Γ a w Q' hn hs hQ => AC_wp hT hmix (by rw [hn]; exact h) hs hQ
theorem TW.seq (hT : TabOK P T) (hmix : P.follows .mixedOrders = true) {n : Nat} {x y : Code} {Q : Exit → St → Prop} {σ : St} (h : AC P T n x (thenA (fun σ' => TW P n y Q σ') Q) σ) : TW P n (.seq x y) Q σ :=
  fun c Γ a w Q' hn hs hQ => by
    refine wp_seq (AC_wp hT hmix (show AC P T c.n x _ σ by rw [hn]; exact h) hs fun e σ' Γ' a' w' hq hs' => ?_)
    cases e with
    | normal => exact hq c Γ' a' w' Q' hn hs' hQ
    | _ => exact hQ _ _ _ _ _ hq hs'
theorem TW.then (hT : TabOK P T) (hmix : P.follows .mixedOrders = true) {n : Nat} {x y : Code} {Q : Exit → St → Prop} {σ : St} (h : TW P n x (thenA (fun σ' => AC P T n y Q σ') Q) σ) : TW P n (.seq x y) Q σ :=
  fun c Γ a w Q' hn hs hQ => by
    refine wp_seq (h c Γ a w _ hn hs fun e σ' Γ' a' w' hq hs' => ?_)
    cases e with
    | normal => exact AC_wp hT hmix (show AC P T c.n y Q σ' by rw [hn]; exact hq) hs' hQ
    | _ => exact hQ _ _ _ _ _ hq hs'
theorem went_app {c : Cx} {ops : List Oper} {Q : Exit → Act → World → Prop} {post : List Oper} : ∀ {os : List Oper} {es : List Eff} {σ : St} {Γ : Asg} {a : Act} {w : World}, Went' P c ops σ os es → Sim c σ Γ a w → (∀ Γ' a' w', Sim c (runEs σ (os.zip es)) Γ' a' w' → wpList P ops.toArray Q post a' w') → wpList P ops.toArray Q (os ++ post) a w
  | [], _, σ, Γ, a, w, .nil _, hs, hQ => hQ Γ a w hs
  | o :: os, e :: es, σ, Γ, a, w, .cons h1 h2, hs, hQ => by
    refine wpList_step fun K hK => ?_
    exact h1.step hs (fun _ _ => rfl) (fun _ _ _ _ _ => rfl) (fun _ _ => rfl) fun Γ' a' w' hs' => hK _ _ (went_app h2 hs' hQ)
/-- The value of a result, and what it lays. -/
def resV (own : Bool) (d : Dat) : AV := if own then oav 0 d else av d.1 d.2
def resM' (own : Bool) (d : Dat) : Mm := if own then (ocel 0 d.1 d.2).2 else []
/-- The last call: what is handed over is used up. -/
def TailW (P : Program) (T : TypeId → Option Ty) (n : Nat) (ops : List Oper) (f : FuncId) (xs : List Operand) (d : Nat) (post : List Oper) (own : Bool) (r : Dat) (Q : Exit → St → Prop) (σ : St) : Prop :=
  ∃ τ vs, Wk σ τ ∧ evs (look τ.tmps) xs = some vs ∧ vs.all AV.ok = true ∧ FnB P f vs τ.mem own [r] ∧ d < n ∧ AO P T n ops post ⟨[(d, resV own r)], resM' own r⟩ [] (fun σ' _ => Q .normal σ')
theorem TW.tail (hT : TabOK P T) {n id : Nat} {l : List Oper} (i : Nat) {d : Nat} {f : FuncId} {xs : Array Operand} {tys : Array TypeId} {ty : TypeId} {ps : String} {af : Array Edge} {post : List Oper} {own : Bool} {r : Dat} {Q : Exit → St → Prop} {σ : St}
    (hl : l.drop i = ⟨some d, .call { callee := .value (.func f), args := xs, argTypes := tys }, ty, ps, af, none⟩ :: post)
    (h : AO P T n l (l.take i) σ [] (fun σ1 _ => TailW P T n l f xs.toList d post own r Q σ1)) : TW P n (.region id l.toArray false) Q σ := fun c Γ a w Q' hn hs hQ => by
  subst hn
  obtain ⟨es, σ', h1, h3, h4⟩ := AO_went hT h Same.rfl'
  refine wp_region_lit ?_
  have hsp : l = l.take i ++ l.drop i := (List.take_append_drop i l).symm
  rw [show wpList P l.toArray Q' l a w = wpList P l.toArray Q' (l.take i ++ l.drop i) a w by rw [← hsp]]
  refine went_app h1 hs fun Γ1 a1 w1 hs1 => ?_
  have hs1 := hs1.same h4
  obtain ⟨τ, vs, hwk, hev, hok, hfn, hd, hpost⟩ := h3
  obtain ⟨Γ2, hs2⟩ := wk_sim hs1 hwk
  rw [hl]
  refine wpList_step fun K hK => ?_
  rw [if_pos (by simp [Region.wanted])]
  have hvs := evs_rep hs2 (xs := xs.toList) (fun x _ t e => rfl) hev hok
  have hvs' : All2 (fun v u => ARep c τ.mem Γ2 w1 v u) vs (xs.toList.map a1.eval) := by
    have : ∀ {vs : List AV} {ys : List Operand}, All2 (fun v x => ARep c τ.mem Γ2 w1 v (a1.eval x)) vs ys → All2 (fun v u => ARep c τ.mem Γ2 w1 v u) vs (ys.map a1.eval) := by
      intro vs ys
      induction vs generalizing ys with
      | nil => intro h; cases ys with | nil => trivial | cons => exact h.elim
      | cons v vs ih => intro h; cases ys with
        | nil => exact h.elim
        | cons y ys => exact ⟨h.1, ih h.2⟩
    exact this hvs
  have hrun : (execOp a1.eval ⟨some d, .call { callee := .value (.func f), args := xs, argTypes := tys }, ty, ps, af, none⟩).run P w1 = .ok (.enter f (xs.map a1.eval)) w1 := by
    have h0 := hfn.1 (xs.map a1.eval) w1
    have e1 : a1.eval (.func f) = .func (.func f) #[] #[] := rfl
    simp [execOp, resolve, e1, Deferred.ofValue, invoke, h0]
  unfold Oper.wp
  rw [hrun, Oper.upon_enter]
  have hma : xs.map a1.eval = (xs.toList.map a1.eval).toArray := Array.toList_inj.1 (by rw [Array.toList_map])
  rw [hma]
  refine (hfn.2 c Γ2 a1 w1 τ.tmps _ hs2 hvs').mono ?_
  rintro e w' ⟨hb, hbs, u, rfl, fp, hdr, hown, hfp⟩
  have h0 : Sim c ⟨[], []⟩ ⟨fun _ => 0, fun _ => undef, fun _ => []⟩ a1 w' :=
    ⟨fun d v hd => (by cases hd), fun k B hk => (by cases hk), fun k k' B B' b hk => (by cases hk), fun k k' B B' b hk => (by cases hk), hb, hbs, hs1.defs, hs1.sz⟩
  have hfin : ∃ Γ3, Sim c ⟨[(d, resV own r)], resM' own r⟩ Γ3 (a1.put (some d) u) w' := by
    cases own with
    | true =>
      have ho := hown rfl
      obtain ⟨cs, hpk, hrp⟩ := hdr
      obtain ⟨Γ', s1, r1, _, _, _⟩ := h0.ocel (k := 0) hrp ho (fun b hbb => ⟨.inr (ho.2 b hbb).1, fun ⟨k, B, hB, _⟩ => by cases hB⟩) (fun b hbb j B hj => by cases hj) (fun p hp => rfl)
      refine ⟨Γ', ?_⟩
      have hv : VRep c ((ocel 0 r.1 r.2).2 ++ []) Γ' w' (oav 0 r) u := by
        unfold oav
        rcases hpk with ⟨hag, rfl⟩ | ⟨hag, rfl⟩
        · rw [hag]; exact ⟨cs, rfl, r1⟩
        · rw [hag]
          obtain ⟨v, hv1⟩ := ocel_one (k := 0) (x := r.2) hag
          rw [hv1] at r1 ⊢
          exact crep_vrep r1.1
      have := s1.put (d := some d) hv (fun x hx => by injection hx with hx; subst hx; exact hd)
      simpa [resV, resM', St.put] using this
    | false =>
      refine ⟨⟨fun _ => 0, fun _ => undef, fun _ => []⟩, ?_⟩
      have hv : VRep c [] ⟨fun _ => 0, fun _ => undef, fun _ => []⟩ w' (av r.1 r.2) u := arep_vrep (av_rep hdr fun b hbb => ⟨hfp b hbb, fun ⟨k, B, hB, _⟩ => by cases hB⟩)
      have := h0.put (d := some d) hv (fun x hx => by injection hx with hx; subst hx; exact hd)
      simpa [resV, resM', St.put] using this
  obtain ⟨Γ3, hs3⟩ := hfin
  obtain ⟨es', σ'', g1, g3, g4⟩ := AO_went hT hpost Same.rfl'
  exact hK _ _ (went_list g1 hs3 fun Γ' a' w' hs' => hQ _ _ _ _ _ g3 (hs'.same g4))
end
end Go.Proofs.YtghckbohaghgkaaGreat.DW

/-
  The two sides of a hull.
-/
namespace Go.Proofs.YtghckbohaghgkaaGreat.DW
open Go.RowKit
theorem rv_len (b a : DV) (r : List DV) : (b :: a :: r).reverse.length = r.length + 2 := by rw [List.length_reverse]; rfl
theorem nth_app {l m : List DV} {x : DV} (k : Nat) (h : k = l.length) : nth (t := tVec) (l ++ x :: m) k = x := by
  subst h
  rw [nth_lt (by simp)]
  simp
theorem rv_a (b a : DV) (r : List DV) : nth (t := tVec) (b :: a :: r).reverse r.length = a := by
  rw [List.reverse_cons, List.reverse_cons, List.append_assoc]
  exact nth_app _ (by simp)
theorem rv_b (b a : DV) (r : List DV) : nth (t := tVec) (b :: a :: r).reverse (r.length + 1) = b := by
  rw [List.reverse_cons, List.reverse_cons]
  exact nth_app _ (by simp)
theorem rv_take (b a : DV) (r : List DV) : (b :: a :: r).reverse.take (r.length + 1) = (a :: r).reverse := by
  rw [List.reverse_cons, List.take_append_of_le_length (by simp), List.take_of_length_le (by simp)]
theorem popD_go {v b a : DV} {r : List DV} (h : trn a b v ≤ 0) : popD v (b :: a :: r) = popD v (a :: r) := by
  rw [popD, if_pos h]
theorem popD_end {v b a : DV} {r : List DV} (h : ¬ trn a b v ≤ 0) : popD v (b :: a :: r) = b :: a :: r := by
  rw [popD, if_neg h]
theorem popD_1 {v : DV} {s : List DV} (h : s.length ≤ 1) : popD v s = s := by
  match s, h with
  | [], _ => rfl
  | [a], _ => rfl
/-- What a loop that takes points away has left. -/
def popOK (v : DV) (s0 s : List DV) : Prop := popD v s = popD v s0 ∧ (∀ x ∈ s, okV x = true) ∧ s.length ≤ s0.length
theorem trq_ok {a b c : DV} (ha : okV a = true) (hb : okV b = true) (hc : okV c = true) : trq a b c = trn a b c := by
  unfold trq
  rw [ha, hb, hc]; rfl
theorem chain_fn (l : List DV) (hl : ∀ v ∈ l, okV v = true) (h0 : 0 < l.length) (hn : l.length ≤ 1048576) : FnG Tryz.prog 209 [⟨.slice tVec, l⟩] 113 tVec (chD l) := by
  refine fnG_enter tabOK mixes Tryz.func209 rfl rfl _ Tryz.ntmps209 _ Tryz.results209 (by simp) fun hwf => ?_
  try simp (maxSteps := 9999999) only [go_sem]
  refine LoopG.intro _ _ _ (fun i : Nat => ⟨[(3, .row 0 0), (7, .sl tVec l), (8, .sc (.int .i64 l.length)), (9, .sc (.int .i64 i))], [(0, .row 113 tVec 0 true (chRi l i).reverse)]⟩) (fun i => i ≤ l.length) (fun i => l.length - i) 0 ?_ (Nat.zero_le _) ?_
  · refine Wk.mk [] ?_
    try simp (maxSteps := 9999999) only [go_sem]
    try (and_intros <;> first | rfl | omega | exact ⟨_, rfl⟩)
  · rintro i hi
    try simp (maxSteps := 9999999) only [go_sem]
    refine CondW_dec (fun hA => ?_) (fun hA => ?_)
    · have hlt : i < l.length := by omega
      have hv := hl _ (nth_mem hlt)
      have hst := chRi_step hlt
      have hcl := chRi_len l i
      try simp (maxSteps := 9999999) only [go_sem]
      repeat refine And.intro (by first|omega|(constructor<;>omega)|kernel_rfl) ?_
      generalize hvv : nth (t := tVec) l i = v at hv hst ⊢
      refine LoopG.intro _ _ _ (fun s : List DV => ⟨[(3, .row 0 0), (5, .ptr 1 0), (7, .sl tVec l), (8, .sc (.int .i64 l.length)), (9, .sc (.int .i64 i))], [(1, .box [.sc (.int .i64 v.1), .sc (.int .i64 v.2)]), (0, .row 113 tVec 0 true s.reverse)]⟩) (popOK v (chRi l i)) (fun s => s.length) (chRi l i) ?_ ⟨rfl, fun x hx => hl _ (chRi_mem hx), Nat.le_refl _⟩ ?_
      · refine Wk.mk [] ?_
        try simp (maxSteps := 9999999) only [go_sem]
      · rintro s ⟨k1, k2, k3⟩
        by_cases h1 : s.length ≤ 1
        · have hrl : s.reverse.length = s.length := List.length_reverse
          have d1 := decide_eq_false (p := (s.reverse.length : Int) > 1) (by omega)
          try simp (maxSteps := 9999999) only [go_sem, d1]
          repeat refine And.intro (by first|omega|(constructor<;>omega)|kernel_rfl) ?_
          refine LoopK.mk (i + 1) ?_ (by omega) (by omega)
          rw [hst, ← k1, popD_1 h1, List.reverse_cons]
          refine Wk.mk [] ?_
          try simp (maxSteps := 9999999) only [go_sem]
          try (and_intros <;> first | rfl | omega | exact ⟨_, rfl⟩)
          all_goals (first | exact ⟨by omega, rfl⟩ | exact ⟨rfl, rfl⟩)
        · obtain ⟨b, a, r, rfl⟩ : ∃ b a r, s = b :: a :: r := by
            match s, h1 with
            | b :: a :: r, _ => exact ⟨b, a, r, rfl⟩
            | [a], h => exact absurd (Nat.le_refl _) h
            | [], h => exact absurd (Nat.zero_le _) h
          have ea := rv_a b a r
          have eb := rv_b b a r
          have et := rv_take b a r
          have hrl := rv_len b a r
          have oa := k2 a (by simp)
          have ob := k2 b (by simp)
          have hrc : (b :: a :: r).reverse ++ [v] = (v :: b :: a :: r).reverse := (List.reverse_cons ..).symm
          have hls : (b :: a :: r).length = r.length + 2 := rfl
          generalize hw : (b :: a :: r).reverse = w at ea eb et hrl hrc ⊢
          have d1 := decide_eq_true (p := (w.length : Int) > 1) (by omega)
          have e2 : ((w.length : Int) - 2).toNat = r.length := by omega
          have e1 : ((w.length : Int) - 1).toNat = r.length + 1 := by omega
          have c1 := turn_fn (nth (t := tVec) w ((w.length : Int) - 2).toNat) (nth (t := tVec) w ((w.length : Int) - 1).toNat) v (by rw [e2, ea]; exact oa) (by rw [e1, eb]; exact ob) hv
          try simp (maxSteps := 9999999) only [go_sem, d1]
          repeat refine And.intro (by first|omega|(constructor<;>omega)|kernel_rfl) ?_
          refine CallW.mk (c1) ?_
          try simp (maxSteps := 9999999) only [go_sem]
          repeat refine And.intro (by first|omega|(constructor<;>omega)|kernel_rfl) ?_
          refine CondW_dec (fun hB => ?_) (fun hB => ?_)
          · rw [e2, e1, ea, eb] at hB
            try simp (maxSteps := 9999999) only [go_sem]
            repeat refine And.intro (by first|omega|(constructor<;>omega)|kernel_rfl) ?_
            refine SlcW.cut (e := 113) (o := true) ⟨rfl, rfl, ?_⟩
            try simp (maxSteps := 9999999) only [go_sem]
            refine LoopK.mk (a :: r) ?_ ⟨(popD_go hB).symm.trans k1, fun x hx => k2 x (List.mem_cons_of_mem _ hx), by simp at k3 ⊢; omega⟩ (by simp)
            rw [e1, et]
            refine Wk.mk [] ?_
            try simp (maxSteps := 9999999) only [go_sem]
            all_goals (first | exact ⟨by omega, rfl⟩ | exact ⟨rfl, rfl⟩ | trace_state)
          · rw [e2, e1, ea, eb] at hB
            try simp (maxSteps := 9999999) only [go_sem]
            repeat refine And.intro (by first|omega|(constructor<;>omega)|kernel_rfl) ?_
            refine LoopK.mk (i + 1) ?_ (by omega) (by omega)
            rw [hst, ← k1, popD_end hB, hrc]
            refine Wk.mk [] ?_
            try simp (maxSteps := 9999999) only [go_sem]
            try (and_intros <;> first | rfl | omega | exact ⟨_, rfl⟩)
            all_goals (first | exact ⟨by omega, rfl⟩ | exact ⟨rfl, rfl⟩)
    · have hii : i = l.length := by omega
      subst hii
      have hne : 0 < (chRi l l.length).reverse.length := by
        rw [List.length_reverse]
        have := chRi_step (l := l) (i := l.length - 1) (by omega)
        rw [show l.length - 1 + 1 = l.length by omega] at this
        rw [this]; simp
      have hcl := chRi_len l l.length
      have hrl : (chRi l l.length).reverse.length = (chRi l l.length).length := List.length_reverse
      have hcd : chD l = (chRi l l.length).reverse.take (((chRi l l.length).reverse.length : Int) - 1).toNat := by
        unfold chD chRi
        rw [List.take_length, List.dropLast_eq_take]
        congr 1
        omega
      rw [hcd]
      generalize (chRi l l.length).reverse = w at hne hrl ⊢
      try simp (maxSteps := 9999999) only [go_sem]
      repeat refine And.intro (by first|omega|(constructor<;>omega)|kernel_rfl) ?_
      refine SlcW.cut (e := 113) (o := true) ⟨rfl, rfl, ?_⟩
      try simp (maxSteps := 9999999) only [go_sem]
      exact ⟨0, 1, rfl, rfl⟩
theorem l06Chain_fn (l : List DV) (hl : ∀ v ∈ l, okV v = true) (h0 : 0 < l.length) (hn : l.length ≤ 1048576) : Fn Tryz.prog 159 [⟨.slice tVec, l⟩] true [⟨.slice tVec, (chR l).reverse⟩] := by
  refine fn_enter tabOK mixes Tryz.func159 rfl rfl _ Tryz.ntmps159 _ Tryz.results159 (by simp) fun hwf => ?_
  try simp (maxSteps := 9999999) only [go_sem]
  refine LoopG.intro _ _ _ (fun i : Nat => ⟨[(3, .row 0 0), (7, .sl tVec l), (8, .sc (.int .i64 l.length)), (9, .sc (.int .i64 i))], [(0, .row 113 tVec 0 true (chRi l i).reverse)]⟩) (fun i => i ≤ l.length) (fun i => l.length - i) 0 ?_ (Nat.zero_le _) ?_
  · refine Wk.mk [] ?_
    try simp (maxSteps := 9999999) only [go_sem]
    try (and_intros <;> first | rfl | omega | exact ⟨_, rfl⟩)
  · rintro i hi
    try simp (maxSteps := 9999999) only [go_sem]
    refine CondW_dec (fun hA => ?_) (fun hA => ?_)
    · have hlt : i < l.length := by omega
      have hv := hl _ (nth_mem hlt)
      have hst := chRi_step hlt
      have hcl := chRi_len l i
      try simp (maxSteps := 9999999) only [go_sem]
      repeat refine And.intro (by first|omega|(constructor<;>omega)|kernel_rfl) ?_
      generalize hvv : nth (t := tVec) l i = v at hv hst ⊢
      refine LoopG.intro _ _ _ (fun s : List DV => ⟨[(3, .row 0 0), (5, .ptr 1 0), (7, .sl tVec l), (8, .sc (.int .i64 l.length)), (9, .sc (.int .i64 i))], [(1, .box [.sc (.int .i64 v.1), .sc (.int .i64 v.2)]), (0, .row 113 tVec 0 true s.reverse)]⟩) (popOK v (chRi l i)) (fun s => s.length) (chRi l i) ?_ ⟨rfl, fun x hx => hl _ (chRi_mem hx), Nat.le_refl _⟩ ?_
      · refine Wk.mk [] ?_
        try simp (maxSteps := 9999999) only [go_sem]
      · rintro s ⟨k1, k2, k3⟩
        by_cases h1 : s.length ≤ 1
        · have hrl : s.reverse.length = s.length := List.length_reverse
          have d1 := decide_eq_false (p := (s.reverse.length : Int) > 1) (by omega)
          try simp (maxSteps := 9999999) only [go_sem, d1]
          repeat refine And.intro (by first|omega|(constructor<;>omega)|kernel_rfl) ?_
          refine LoopK.mk (i + 1) ?_ (by omega) (by omega)
          rw [hst, ← k1, popD_1 h1, List.reverse_cons]
          refine Wk.mk [] ?_
          try simp (maxSteps := 9999999) only [go_sem]
          try (and_intros <;> first | rfl | omega | exact ⟨_, rfl⟩)
          all_goals (first | exact ⟨by omega, rfl⟩ | exact ⟨rfl, rfl⟩)
        · obtain ⟨b, a, r, rfl⟩ : ∃ b a r, s = b :: a :: r := by
            match s, h1 with
            | b :: a :: r, _ => exact ⟨b, a, r, rfl⟩
            | [a], h => exact absurd (Nat.le_refl _) h
            | [], h => exact absurd (Nat.zero_le _) h
          have ea := rv_a b a r
          have eb := rv_b b a r
          have et := rv_take b a r
          have hrl := rv_len b a r
          have oa := k2 a (by simp)
          have ob := k2 b (by simp)
          have hrc : (b :: a :: r).reverse ++ [v] = (v :: b :: a :: r).reverse := (List.reverse_cons ..).symm
          have hls : (b :: a :: r).length = r.length + 2 := rfl
          generalize hw : (b :: a :: r).reverse = w at ea eb et hrl hrc ⊢
          have d1 := decide_eq_true (p := (w.length : Int) > 1) (by omega)
          have e2 : ((w.length : Int) - 2).toNat = r.length := by omega
          have e1 : ((w.length : Int) - 1).toNat = r.length + 1 := by omega
          have c1 := Turn_fn (nth (t := tVec) w ((w.length : Int) - 2).toNat) (nth (t := tVec) w ((w.length : Int) - 1).toNat) v
          rw [trq_ok (by rw [e2, ea]; exact oa) (by rw [e1, eb]; exact ob) hv] at c1
          try simp (maxSteps := 9999999) only [go_sem, d1]
          repeat refine And.intro (by first|omega|(constructor<;>omega)|kernel_rfl) ?_
          refine CallW.mk (c1) ?_
          try simp (maxSteps := 9999999) only [go_sem]
          repeat refine And.intro (by first|omega|(constructor<;>omega)|kernel_rfl) ?_
          refine CondW_dec (fun hB => ?_) (fun hB => ?_)
          · rw [e2, e1, ea, eb] at hB
            try simp (maxSteps := 9999999) only [go_sem]
            repeat refine And.intro (by first|omega|(constructor<;>omega)|kernel_rfl) ?_
            refine SlcW.cut (e := 113) (o := true) ⟨rfl, rfl, ?_⟩
            try simp (maxSteps := 9999999) only [go_sem]
            refine LoopK.mk (a :: r) ?_ ⟨(popD_go hB).symm.trans k1, fun x hx => k2 x (List.mem_cons_of_mem _ hx), by simp at k3 ⊢; omega⟩ (by simp)
            rw [e1, et]
            refine Wk.mk [] ?_
            try simp (maxSteps := 9999999) only [go_sem]
            all_goals (first | exact ⟨by omega, rfl⟩ | exact ⟨rfl, rfl⟩ | trace_state)
          · rw [e2, e1, ea, eb] at hB
            try simp (maxSteps := 9999999) only [go_sem]
            repeat refine And.intro (by first|omega|(constructor<;>omega)|kernel_rfl) ?_
            refine LoopK.mk (i + 1) ?_ (by omega) (by omega)
            rw [hst, ← k1, popD_end hB, hrc]
            refine Wk.mk [] ?_
            try simp (maxSteps := 9999999) only [go_sem]
            try (and_intros <;> first | rfl | omega | exact ⟨_, rfl⟩)
            all_goals (first | exact ⟨by omega, rfl⟩ | exact ⟨rfl, rfl⟩)
    · have hcr : (chR l).reverse = (chRi l i).reverse := by
        unfold chRi
        rw [List.take_of_length_le (by omega)]
      rw [hcr]
      try simp (maxSteps := 9999999) only [go_sem]
end Go.Proofs.YtghckbohaghgkaaGreat.DW

/-
  The hull, the reference's.
-/
namespace Go.Proofs.YtghckbohaghgkaaGreat.DW
open Go.RowKit
theorem l06Less_fn (a b : DV) : Fn Tryz.prog 158 [⟨tVec, a⟩, ⟨tVec, b⟩] false [⟨.bool, decide (ltV a b)⟩] := by
  by_cases h1 : a.1 < b.1
  · have d1 := decide_eq_true h1
    rw [decide_eq_true (p := ltV a b) (.inl h1)]
    refine fn_enter tabOK mixes Tryz.func158 rfl rfl _ Tryz.ntmps158 _ Tryz.results158 (by simp) fun hwf => ?_
    try simp (maxSteps := 9999999) only [go_sem, d1]
  · have d1 := decide_eq_false h1
    by_cases h2 : a.1 = b.1
    · have d2 := decide_eq_true h2
      have e : decide (ltV a b) = decide (a.2 < b.2) := by
        by_cases h3 : a.2 < b.2
        · rw [decide_eq_true h3, decide_eq_true (p := ltV a b) (.inr ⟨h2, h3⟩)]
        · rw [decide_eq_false h3, decide_eq_false (p := ltV a b) (fun h => by unfold ltV at h; omega)]
      rw [e]
      refine fn_enter tabOK mixes Tryz.func158 rfl rfl _ Tryz.ntmps158 _ Tryz.results158 (by simp) fun hwf => ?_
      try simp (maxSteps := 9999999) only [go_sem, d1, d2]
    · have d2 := decide_eq_false h2
      rw [decide_eq_false (p := ltV a b) (fun h => by unfold ltV at h; omega)]
      refine fn_enter tabOK mixes Tryz.func158 rfl rfl _ Tryz.ntmps158 _ Tryz.results158 (by simp) fun hwf => ?_
      try simp (maxSteps := 9999999) only [go_sem, d1, d2]
/-- The first n of a list, from its end. -/
def bkD (l : List DV) (n : Nat) : List DV := l.reverse.take n
theorem bkD_step {l : List DV} {n : Nat} (h : n < l.length) : bkD l (n + 1) = bkD l n ++ [nth (t := tVec) l (l.length - 1 - n)] := by
  unfold bkD
  rw [List.take_add_one, List.getElem?_eq_getElem (by rw [List.length_reverse]; exact h), List.getElem_reverse, nth_lt (by omega)]
  rfl
theorem bkD_len {l : List DV} {n : Nat} (h : n ≤ l.length) : (bkD l n).length = n := by
  unfold bkD; rw [List.length_take, List.length_reverse]; omega
theorem bkD_all {l : List DV} {n : Nat} (h : l.length ≤ n) : bkD l n = l.reverse := by
  unfold bkD; rw [List.take_of_length_le (by rw [List.length_reverse]; exact h)]
theorem hullD_lt3 {l : List DV} (h : (srtD l).length < 3) : hullD l = srtD l := by
  unfold hullD
  split
  · rfl
  · match hs : srtD l, h with
    | [], _ => rfl
    | [a], _ => exact absurd (show (srtD l).length < 2 by rw [hs]; exact Nat.lt_succ_self _) (by assumption)
    | [a, b], _ => rfl
theorem chD_take (l : List DV) : chD l = (chR l).reverse.take ((chR l).reverse.length - 1) := List.dropLast_eq_take
theorem chR_len (l : List DV) : (chR l).length ≤ l.length := by
  have := chRi_len l l.length
  unfold chRi at this
  rwa [List.take_length] at this
theorem chR_pos (l : List DV) (h : 0 < l.length) : 0 < (chR l).length := by
  have := chRi_step (l := l) (i := l.length - 1) (by omega)
  rw [show l.length - 1 + 1 = l.length by omega] at this
  unfold chRi at this
  rw [List.take_length] at this
  rw [this]; simp
set_option maxRecDepth 100000 in
set_option maxHeartbeats 1000000 in
theorem specHull_fn (l : List DV) (hl : ∀ v ∈ l, okV v = true) (hn : l.length ≤ 64) : Fn Tryz.prog 114 [⟨.slice tVec, l⟩] true [⟨.slice tVec, hullD l⟩] := by
  have d0 := decide_eq_false (p := (l.length : Int) > 64) (by omega)
  refine fn_enter tabOK mixes Tryz.func114 rfl rfl _ Tryz.ntmps114 _ Tryz.results114 (by simp) fun hwf => ?_
  try simp (maxSteps := 9999999) only [go_sem, d0]
  refine LoopG.intro _ _ _ (fun i : Nat => ⟨[(3, .row 0 0), (17, .sl tVec l), (18, .sc (.int .i64 l.length)), (19, .sc (.int .i64 i))], [(0, .row 113 tVec 0 true (srtI l i))]⟩) (fun i => i ≤ l.length) (fun i => l.length - i) 0 ?_ (Nat.zero_le _) ?_
  · refine Wk.mk [] ?_
    try simp (maxSteps := 9999999) only [go_sem]
    try (and_intros <;> first | rfl | omega | exact ⟨_, rfl⟩)
  · rintro i hi
    try simp (maxSteps := 9999999) only [go_sem]
    refine CondW_dec (fun hA => ?_) (fun hA => ?_)
    · have hlt : i < l.length := by omega
      have hv := hl _ (nth_mem hlt)
      have hst := srtI_step hlt
      have hcl := srtI_len l i
      have c1 := IsValidVec_fn (nth (t := tVec) l i)
      rw [hv] at c1
      generalize hvv : nth (t := tVec) l i = v at hv hst c1 ⊢
      generalize hss : srtI l i = s at hst hcl ⊢
      try simp (maxSteps := 9999999) only [go_sem, hvv]
      repeat refine And.intro (by first|omega|(constructor<;>omega)|kernel_rfl) ?_
      refine CallW.mk (c1) ?_
      try simp (maxSteps := 9999999) only [go_sem]
      refine LoopG.intro _ _ _ (fun j : Nat => ⟨[(3, .row 0 0), (5, .ptr 1 0), (6, .sc (.int .i64 j)), (17, .sl tVec l), (18, .sc (.int .i64 l.length)), (19, .sc (.int .i64 i))], [(1, .box [.sc (.int .i64 v.1), .sc (.int .i64 v.2)]), (0, .row 113 tVec 0 true s)]⟩) (fun j => j ≤ s.length ∧ ∀ j', j' < j → ltV (nth (t := tVec) s j') v) (fun j => s.length - j) 0 ?_ ⟨Nat.zero_le _, fun j h => absurd h (Nat.not_lt_zero _)⟩ ?_
      · refine Wk.mk [] ?_
        try simp (maxSteps := 9999999) only [go_sem]
        try (and_intros <;> first | rfl | omega | exact ⟨_, rfl⟩)
      · rintro j ⟨k1, k2⟩
        have hins := insD_at (p := v) (l := s) (i := j) k1 k2
        have e5 : s.take j ++ v :: s.drop j = s.take j ++ [v] ++ s.drop j := by rw [List.append_assoc]; rfl
        have hlm : (s.take j).length = j := by rw [List.length_take]; omega
        have hlm2 : (s.take j ++ [v]).length = j + 1 := by rw [List.length_append, hlm]; rfl
        have hlm3 : (s.drop j).length = s.length - j := List.length_drop
        by_cases hj : j < s.length
        · have d1 := decide_eq_true (p := (j : Int) < (s.length : Int)) (by omega)
          have c2 := l06Less_fn (nth (t := tVec) s j) v
          by_cases hlt2 : ltV (nth (t := tVec) s j) v
          · rw [decide_eq_true hlt2] at c2
            try simp (maxSteps := 9999999) only [go_sem, d1]
            repeat refine And.intro (by first|omega|(constructor<;>omega)|kernel_rfl) ?_
            refine CallW.mk (c2) ?_
            try simp (maxSteps := 9999999) only [go_sem]
            repeat refine And.intro (by first|omega|(constructor<;>omega)|kernel_rfl) ?_
            refine LoopK.mk (j + 1) ?_ ⟨by omega, fun j' hj' => ?_⟩ (by omega)
            · refine Wk.mk [] ?_
              try simp (maxSteps := 9999999) only [go_sem]
              try (and_intros <;> first | rfl | omega | exact ⟨_, rfl⟩)
            · by_cases h : j' < j
              · exact k2 j' h
              · rw [show j' = j by omega]; exact hlt2
          · rw [decide_eq_false hlt2] at c2
            have hins := hins fun _ => hlt2
            by_cases he : nth (t := tVec) s j = v
            · have e3 : (decide ((nth (t := tVec) s j).1 = v.1) && decide ((nth (t := tVec) s j).2 = v.2)) = true := by rw [he]; simp
              rw [if_pos ⟨hj, he⟩] at hins
              try simp (maxSteps := 9999999) only [go_sem, d1]
              repeat refine And.intro (by first|omega|(constructor<;>omega)|kernel_rfl) ?_
              refine CallW.mk (c2) ?_
              try simp (maxSteps := 9999999) only [go_sem]
              repeat refine And.intro (by first|omega|(constructor<;>omega)|kernel_rfl) ?_
              try simp (maxSteps := 9999999) only [go_sem, d1, e3]
              repeat refine And.intro (by first|omega|(constructor<;>omega)|kernel_rfl) ?_
              refine LoopK.mk (i + 1) ?_ (by omega) (by omega)
              rw [hst, hins]
              refine Wk.mk [] ?_
              try simp (maxSteps := 9999999) only [go_sem]
              try (and_intros <;> first | rfl | omega | exact ⟨_, rfl⟩)
            · have e3 : (decide ((nth (t := tVec) s j).1 = v.1) && decide ((nth (t := tVec) s j).2 = v.2)) = false := by
                by_cases q1 : (nth (t := tVec) s j).1 = v.1
                · by_cases q2 : (nth (t := tVec) s j).2 = v.2
                  · exact absurd (Prod.ext q1 q2) he
                  · rw [decide_eq_false q2, Bool.and_false]
                · rw [decide_eq_false q1, Bool.false_and]
              rw [if_neg (fun h => he h.2)] at hins
              try simp (maxSteps := 9999999) only [go_sem, d1]
              repeat refine And.intro (by first|omega|(constructor<;>omega)|kernel_rfl) ?_
              refine CallW.mk (c2) ?_
              try simp (maxSteps := 9999999) only [go_sem]
              repeat refine And.intro (by first|omega|(constructor<;>omega)|kernel_rfl) ?_
              try simp (maxSteps := 9999999) only [go_sem, d1, e3]
              repeat refine And.intro (by first|omega|(constructor<;>omega)|kernel_rfl) ?_
              refine SlcW.keep ?_
              try simp (maxSteps := 9999999) only [go_sem]
              repeat refine And.intro (by first|omega|(constructor<;>omega)|kernel_rfl) ?_
              refine SlcW.keep ?_
              try simp (maxSteps := 9999999) only [go_sem, List.take_length]
              repeat refine And.intro (by first|omega|(constructor<;>omega)|kernel_rfl) ?_
              refine LoopK.mk (i + 1) ?_ (by omega) (by omega)
              rw [hst, hins, e5]
              refine Wk.mk [(0, 2)] ?_
              try simp (maxSteps := 9999999) only [go_sem]
              try (and_intros <;> first | rfl | omega | exact ⟨_, rfl⟩)
              all_goals (first | exact ⟨by omega, rfl⟩ | exact ⟨rfl, rfl⟩)
        · have d1 := decide_eq_false (p := (j : Int) < (s.length : Int)) (by omega)
          have hins := hins fun h => absurd h hj
          rw [if_neg (fun h => hj h.1)] at hins
          try simp (maxSteps := 9999999) only [go_sem, d1]
          repeat refine And.intro (by first|omega|(constructor<;>omega)|kernel_rfl) ?_
          refine SlcW.keep ?_
          try simp (maxSteps := 9999999) only [go_sem]
          repeat refine And.intro (by first|omega|(constructor<;>omega)|kernel_rfl) ?_
          refine SlcW.keep ?_
          try simp (maxSteps := 9999999) only [go_sem, List.take_length]
          repeat refine And.intro (by first|omega|(constructor<;>omega)|kernel_rfl) ?_
          refine LoopK.mk (i + 1) ?_ (by omega) (by omega)
          rw [hst, hins, e5]
          refine Wk.mk [(0, 2)] ?_
          try simp (maxSteps := 9999999) only [go_sem]
          try (and_intros <;> first | rfl | omega | exact ⟨_, rfl⟩)
          all_goals (first | exact ⟨by omega, rfl⟩ | exact ⟨rfl, rfl⟩)
    · have hii : i = l.length := by omega
      subst hii
      rw [srtI_all]
      have hsm : ∀ v ∈ srtD l, okV v = true := fun v hv => hl v (srtD_mem.1 hv)
      have hsl := srtD_len l
      by_cases h3 : (srtD l).length < 3
      · rw [hullD_lt3 h3]
        generalize srtD l = s at h3 hsl ⊢
        have d3 := decide_eq_true (p := (s.length : Int) < 3) (by omega)
        try simp (maxSteps := 9999999) only [go_sem, d3]
      · have hh : hullD l = chD (srtD l) ++ chD (srtD l).reverse := by unfold hullD; rw [if_neg (by omega)]
        rw [hh, chD_take, chD_take]
        generalize srtD l = s at h3 hsl hsm ⊢
        have d3 := decide_eq_false (p := (s.length : Int) < 3) (by omega)
        have hrl : s.reverse.length = s.length := List.length_reverse
        have c3 := l06Chain_fn s hsm (by omega) (by omega)
        have c4 := l06Chain_fn s.reverse (fun v hv => hsm v (List.mem_reverse.1 hv)) (by omega) (by omega)
        try simp (maxSteps := 9999999) only [go_sem, d3]
        repeat refine And.intro (by first|omega|(constructor<;>omega)|kernel_rfl) ?_
        refine LoopG.intro _ _ _ (fun n : Nat => ⟨[(3, .row 0 0), (8, .row 1 0), (9, .sc (.int .i64 ((s.length : Int) - 1 - n)))], [(1, .row 113 tVec 0 true (bkD s n)), (0, .row 113 tVec 0 true s)]⟩) (fun n => n ≤ s.length) (fun n => s.length - n) 0 ?_ (Nat.zero_le _) ?_
        · refine Wk.mk [] ?_
          try simp (maxSteps := 9999999) only [go_sem]
          try (and_intros <;> first | rfl | omega | exact ⟨_, rfl⟩)
        · rintro n hn2
          try simp (maxSteps := 9999999) only [go_sem]
          refine CondW_dec (fun hB => ?_) (fun hB => ?_)
          · have hbl := bkD_len (l := s) (n := n) (by omega)
            have hbs := bkD_step (l := s) (n := n) (by omega)
            have ei : ((s.length : Int) - 1 - n).toNat = s.length - 1 - n := by omega
            try simp (maxSteps := 9999999) only [go_sem]
            repeat refine And.intro (by first|omega|(constructor<;>omega)|kernel_rfl) ?_
            rw [ei]
            refine LoopK.mk (n + 1) ?_ (by omega) (by omega)
            rw [hbs]
            refine Wk.mk [] ?_
            try simp (maxSteps := 9999999) only [go_sem]
            try (and_intros <;> first | rfl | omega | exact ⟨_, rfl⟩)
          · rw [bkD_all (by omega)]
            have q1 := chR_len s
            have q2 := chR_pos s (by omega)
            have q3 := chR_len s.reverse
            have q4 := chR_pos s.reverse (by omega)
            have q5 : (chR s).reverse.length = (chR s).length := List.length_reverse
            have q6 : (chR s.reverse).reverse.length = (chR s.reverse).length := List.length_reverse
            generalize (chR s).reverse = lo at c3 q5 ⊢
            generalize (chR s.reverse).reverse = hi at c4 q6 ⊢
            have e7 : ((lo.length : Int) - 1).toNat = lo.length - 1 := by omega
            have e8 : ((hi.length : Int) - 1).toNat = hi.length - 1 := by omega
            have q7 : (lo.take (lo.length - 1)).length = lo.length - 1 := by rw [List.length_take]; omega
            have q8 : (hi.take (hi.length - 1)).length = hi.length - 1 := by rw [List.length_take]; omega
            try simp (maxSteps := 9999999) only [go_sem]
            refine CallW.mk (c3) ?_
            try simp (maxSteps := 9999999) only [go_sem]
            refine CallW.mk (c4) ?_
            try simp (maxSteps := 9999999) only [go_sem]
            repeat refine And.intro (by first|omega|(constructor<;>omega)|kernel_rfl) ?_
            refine SlcW.keep ?_
            try simp (maxSteps := 9999999) only [go_sem]
            rw [e7]
            try simp (maxSteps := 9999999) only [go_sem, q7]
            repeat refine And.intro (by first|omega|(constructor<;>omega)|kernel_rfl) ?_
            refine SlcW.keep ?_
            try simp (maxSteps := 9999999) only [go_sem]
            rw [e8]
            try simp (maxSteps := 9999999) only [go_sem, q7, q8]
            repeat refine And.intro (by first|omega|(constructor<;>omega)|kernel_rfl) ?_
            omega
end Go.Proofs.YtghckbohaghgkaaGreat.DW

/-
  Rows of vectors in the words of the kit's sorts: what a row of the walk holds, and what it is when its cells are laid anew. No program here.
-/
namespace Go.Proofs.YtghckbohaghgkaaGreat.DW
open Go.RowKit Go.Sort
def encV (x : Int × Int) : List Value := [.int .i64 x.1, .int .i64 x.2]
theorem rep_vec {w : World} {cs : List Value} {x : DV} {f : List Nat} (h : tVec.rp.rep w cs x f) : cs = encV x ∧ f = [] ∧ I64 x.1 ∧ I64 x.2 := by
  obtain ⟨c1, c2, f1, f2, rfl, rfl, ⟨rfl, rfl, h1⟩, ⟨rfl, rfl, h2⟩⟩ := h
  exact ⟨rfl, rfl, h1, h2⟩
theorem vec_rep {w : World} {x : DV} (h1 : I64 x.1) (h2 : I64 x.2) : tVec.rp.rep w (encV x) x [] :=
  ⟨_, _, [], [], rfl, rfl, ⟨rfl, rfl, h1⟩, ⟨rfl, rfl, h2⟩⟩
theorem vec_size : tVec.rp.size = 2 := rfl
theorem encV_at (x : DV) (j : Nat) (h : j < 2) : (encV x)[j]? = some ((encV x)[j]!) := by
  match j, h with
  | 0, _ => rfl
  | 1, _ => rfl
theorem flat_at (l : List DV) {t : Nat} (h : t < l.length * 2) : (flatK encV 2 l.toArray)[t]! = (encV (l[t / 2]'(by omega)))[t % 2]! := by
  rw [get_flatK encV 2 l.toArray t (by simpa using h)]
  rw [getElem!_pos l.toArray (t / 2) (by simp; omega)]
  rfl
theorem row_in {base : Nat} {w : World} {e : TypeId} {v : Value} {l : List DV} {fps : List (List Nat)} (h : GrowF tVec.rp base w e v l fps) (h0 : 0 < l.length) :
    ∃ g cap cur, v = .slice (some ⟨g, 0, none⟩) l.length cap ∧ base ≤ g ∧ w.heap[g]? = some (.cells cur e (0, 0)) ∧ l.length ≤ cap ∧ cap ≤ maxLen ∧ cur.size = cap * 2 ∧ HoldsK encV 2 w g 0 l.toArray ∧ ∀ x ∈ l, I64 x.1 ∧ I64 x.2 := by
  obtain ⟨xs, ⟨hxl, hor⟩, hfl, he⟩ := h
  rcases hor with ⟨_, hn⟩ | ⟨g, cap, cur, hv, hb, hg, hnc, hcm, hcs, htk⟩
  · omega
  rw [vec_size] at hxl hcs htk
  refine ⟨g, cap, cur, hv, hb, hg, hnc, hcm, hcs, fun j hj => ?_, fun x hx => ?_⟩
  · have hj2 : j < l.length * 2 := by simpa using hj
    refine ⟨?_, frozen_of_row w g _ cur e hg⟩
    rw [Nat.zero_add, cell_of_row w g j cur e (0, 0) hg, ← Array.getElem?_toList]
    show _ = some ((flatK encV 2 l.toArray)[j]!)
    rw [flat_at l hj2]
    obtain ⟨f, cs, _, h2, h3⟩ := he (j / 2) (l[j / 2]'(by omega)) (List.getElem?_eq_getElem _)
    obtain ⟨rfl, _⟩ := rep_vec h2
    have := h3 (j % 2) _ (encV_at _ (j % 2) (by omega))
    rw [vec_size, show j / 2 * 2 + j % 2 = j by omega, ← htk, List.getElem?_take, if_pos hj2] at this
    exact this
  · obtain ⟨i, hi, rfl⟩ := List.getElem_of_mem hx
    obtain ⟨f, cs, _, h2, _⟩ := he i l[i] (List.getElem?_eq_getElem hi)
    exact (rep_vec h2).2.2
theorem row_out {base : Nat} {w w' : World} {e : TypeId} {g cap n : Nat} {cur : Array Value} {os : Array Obj} {d : List DV} (hb : base ≤ g) (hg : w.heap[g]? = some (.cells cur e (0, 0))) (hcs : cur.size = cap * 2) (hcm : cap ≤ maxLen) (hd : d.length ≤ cap) (hI : ∀ x ∈ d, I64 x.1 ∧ I64 x.2) (m : Nat) (hm : m ≤ d.length)
    (hw : w' = sortWorldK encV 2 w g 0 n d.toArray os) :
    GrowF tVec.rp base w' e (.slice (some ⟨g, 0, none⟩) m cap) (d.take m) (List.replicate m []) ∧ w.grownBy w' (some g) := by
  have hgs : g < w.heap.size := (Array.getElem?_eq_some_iff.1 hg).1
  have hg' : w'.heap[g]? = some (.cells (Go.Sort.putCells id 0 (flatK encV 2 d.toArray) cur) e (0, 0)) := by
    subst hw
    unfold sortWorldK putRowK putRow mapBlock grow
    have hsz : g < (Sort.ahead w n).heap.size := hgs
    simp only [heap_ahead]
    rw [Array.getElem?_append_left (by rw [Array.size_modify]; exact hgs), Array.getElem?_modify, if_pos rfl, hg]
    rfl
  have hlt : (d.take m).length = m := by rw [List.length_take]; omega
  have hcell : ∀ t, t < d.length * 2 → (Go.Sort.putCells id 0 (flatK encV 2 d.toArray) cur).toList[t]? = some ((flatK encV 2 d.toArray)[t]!) := by
    intro t ht
    rw [Array.getElem?_toList]
    unfold Go.Sort.putCells
    rw [Array.getElem?_mapIdx, Array.getElem?_eq_getElem (by omega : t < cur.size), Option.map_some, if_pos ⟨Nat.zero_le _, by rw [size_flatK]; simpa using ht⟩]
    rfl
  have hps : (Go.Sort.putCells id 0 (flatK encV 2 d.toArray) cur).size = cap * 2 := by unfold Go.Sort.putCells; rw [Array.size_mapIdx, hcs]
  refine ⟨⟨(Go.Sort.putCells id 0 (flatK encV 2 d.toArray) cur).toList.take (m * 2), ⟨?_, .inr ⟨g, cap, _, ?_, hb, hg', ?_, hcm, hps, ?_⟩⟩, ?_, fun i x hx => ?_⟩, ?_⟩
  · rw [hlt, vec_size, List.length_take, Array.length_toList, hps]; omega
  · rw [hlt]
  · rw [hlt]; omega
  · rw [hlt, vec_size]
  · rw [hlt, List.length_replicate]
  · have hi : i < m := by have := (List.getElem?_eq_some_iff.1 hx).1; omega
    rw [List.getElem?_take, if_pos hi] at hx
    obtain ⟨hid, hx⟩ := List.getElem?_eq_some_iff.1 hx
    subst hx
    obtain ⟨i1, i2⟩ := hI _ (List.getElem_mem hid)
    refine ⟨[], encV d[i], by simp [hi], vec_rep i1 i2, fun j v hj => ?_⟩
    have hj2 : j < 2 := (List.getElem?_eq_some_iff.1 hj).1
    rw [vec_size, List.getElem?_take, if_pos (by omega), hcell _ (by omega), flat_at d (by omega)]
    have e1 : (i * 2 + j) / 2 = i := by omega
    have e2 : (i * 2 + j) % 2 = j := by omega
    simp only [e1, e2]
    rw [← encV_at _ j hj2, hj]
  · subst hw
    refine ⟨rfl, rfl, rfl, ?_, fun k hk hne => ?_⟩
    · rw [sortWorldK, size_grow]
      have : (putRowK encV 2 (Sort.ahead w n) g 0 d.toArray).heap.size = w.heap.size := by unfold putRowK; rw [size_putRow]; rfl
      omega
    · have hkg : g ≠ k := fun h => hne (by rw [h])
      unfold sortWorldK putRowK putRow mapBlock grow
      simp only [heap_ahead]
      rw [Array.getElem?_append_left (by rw [Array.size_modify]; exact hk), Array.getElem?_modify, if_neg hkg]
/-- A function that lays a row's cells anew, and hands back what is left of it. -/
theorem FnR.of {P : Program} {f : FuncId} {xs : List Cst} {e : TypeId} {l l' : List DV} (he : ∀ vs w, (callFunc f vs).run P w = .ok (.enter f vs) w) (h0 : 0 < l.length) (ret : Bool) (d : (∀ x ∈ l, I64 x.1 ∧ I64 x.2) → ∀ (w : World) (g cap : Nat), g < w.heap.size → l.length ≤ cap → cap ≤ maxLen → HoldsK encV 2 w g 0 l.toArray →
      Calls P f (.slice (some ⟨g, 0, none⟩) l.length cap :: xs.map Cst.val).toArray w fun en w' => ∃ (dd : List DV) (n : Nat) (os : Array Obj), en = .returned (if ret then .slice (some ⟨g, 0, none⟩) l'.length cap else .tuple #[]) ∧ (ret = false → l'.length = l.length) ∧ dd.length = l.length ∧ (∀ x ∈ dd, x ∈ l ∨ x = (0, 0)) ∧ l' = dd.take l'.length ∧ l'.length ≤ dd.length ∧ w' = sortWorldK encV 2 w g 0 n dd.toArray os) : FnR P f xs e tVec l l' ret := by
  refine ⟨he, rfl, fun w base v fps hone hgr => ?_⟩
  obtain ⟨g, cap, cur, rfl, hb, hg, hnc, hcm, hcs, hH, hI⟩ := row_in hgr h0
  refine (d hI w g cap (Array.getElem?_eq_some_iff.1 hg).1 hnc hcm hH).mono ?_
  rintro en w' ⟨dd, n, os, h1, h2, h3, h4, h5, h6, h7⟩
  have hI2 : ∀ x ∈ dd, I64 x.1 ∧ I64 x.2 := fun x hx => by
    rcases h4 x hx with h | rfl
    · exact hI x h
    · exact ⟨(by show I64 0; unfold I64; omega), (by show I64 0; unfold I64; omega)⟩
  obtain ⟨k1, k2⟩ := row_out (base := base) hb hg hcs hcm (by omega) hI2 l'.length h6 h7
  rw [← h5] at k1
  exact ⟨.slice (some ⟨g, 0, none⟩) l'.length cap, _, h1, fun hr => by rw [h2 hr], rfl, rfl, k1, k2⟩
end Go.Proofs.YtghckbohaghgkaaGreat.DW

/-
  Library functions at vectors: their bodies are those that the kit has proved things about.
-/
namespace Go.Proofs.YtghckbohaghgkaaGreat.DW
open Go.RowKit Go.Shelf
def sortL_ren : Go.Shelf.Ren := ⟨fun | 6 => 206 | 14 => 234 | 15 => 235 | 20 => 247 | 21 => 248 | 22 => 249 | 23 => 250 | 24 => 251 | 25 => 252 | 26 => 253 | 27 => 254 | 28 => 255 | 29 => 256 | 46 => 260 | 47 => 261 | 48 => 262 | 49 => 263 | 50 => 264 | 57 => 265 | n => n, fun | 0 => 0 | 3 => 3 | 4 => 4 | 5 => 5 | 9 => 9 | 22 => 37 | 23 => 185 | 24 => 113 | 25 => 186 | 39 => 195 | 45 => 199 | 46 => 200 | 47 => 201 | 50 => 176 | 53 => 206 | 55 => 208 | 66 => 210 | 70 => 214 | 76 => 217 | 77 => 218 | n => n, fun n => n⟩
theorem sortL : SlLaysF0.n6 Tryz.prog sortL_ren where
  mixed := by kernel_rfl
  f6 := ⟨"slices.SortFunc[[]loop.example/g00811/impl.Vec,loop.example/g00811/impl.Vec]", by decide, Tryz.func206.trans (congrArg some (by kernel_rfl))⟩
  f14 := ⟨"slices.pdqsortCmpFunc[loop.example/g00811/impl.Vec]", by decide, Tryz.func234.trans (congrArg some (by kernel_rfl))⟩
  f15 := Tryz.func235.trans (congrArg some (by kernel_rfl))
  f20 := ⟨"slices.insertionSortCmpFunc[loop.example/g00811/impl.Vec]", by decide, Tryz.func247.trans (congrArg some (by kernel_rfl))⟩
  f21 := ⟨"slices.heapSortCmpFunc[loop.example/g00811/impl.Vec]", by decide, Tryz.func248.trans (congrArg some (by kernel_rfl))⟩
  f22 := ⟨"slices.breakPatternsCmpFunc[loop.example/g00811/impl.Vec]", by decide, Tryz.func249.trans (congrArg some (by kernel_rfl))⟩
  f23 := ⟨"slices.choosePivotCmpFunc[loop.example/g00811/impl.Vec]", by decide, Tryz.func250.trans (congrArg some (by kernel_rfl))⟩
  f24 := ⟨"slices.reverseRangeCmpFunc[loop.example/g00811/impl.Vec]", by decide, Tryz.func251.trans (congrArg some (by kernel_rfl))⟩
  f25 := ⟨"slices.partialInsertionSortCmpFunc[loop.example/g00811/impl.Vec]", by decide, Tryz.func252.trans (congrArg some (by kernel_rfl))⟩
  f26 := ⟨"slices.partitionEqualCmpFunc[loop.example/g00811/impl.Vec]", by decide, Tryz.func253.trans (congrArg some (by kernel_rfl))⟩
  f27 := ⟨"slices.partitionCmpFunc[loop.example/g00811/impl.Vec]", by decide, Tryz.func254.trans (congrArg some (by kernel_rfl))⟩
  f28 := Tryz.func255.trans (congrArg some (by kernel_rfl))
  f29 := Tryz.func256.trans (congrArg some (by kernel_rfl))
  f46 := ⟨"slices.siftDownCmpFunc[loop.example/g00811/impl.Vec]", by decide, Tryz.func260.trans (congrArg some (by kernel_rfl))⟩
  f47 := Tryz.func261.trans (congrArg some (by kernel_rfl))
  f48 := Tryz.func262.trans (congrArg some (by kernel_rfl))
  f49 := ⟨"slices.medianAdjacentCmpFunc[loop.example/g00811/impl.Vec]", by decide, Tryz.func263.trans (congrArg some (by kernel_rfl))⟩
  f50 := ⟨"slices.medianCmpFunc[loop.example/g00811/impl.Vec]", by decide, Tryz.func264.trans (congrArg some (by kernel_rfl))⟩
  f57 := ⟨"slices.order2CmpFunc[loop.example/g00811/impl.Vec]", by decide, Tryz.func265.trans (congrArg some (by kernel_rfl))⟩
  t0 := Tryz.underlying0
  a0 := Tryz.isAgg0
  z0 := Tryz.sizeOf0
  v0 := Tryz.zeroValue0
  t3 := Tryz.underlying3
  a3 := Tryz.isAgg3
  z3 := Tryz.sizeOf3
  v3 := Tryz.zeroValue3
  t4 := Tryz.underlying4
  a4 := Tryz.isAgg4
  z4 := Tryz.sizeOf4
  v4 := Tryz.zeroValue4
  t5 := Tryz.underlying5
  a5 := Tryz.isAgg5
  z5 := Tryz.sizeOf5
  v5 := Tryz.zeroValue5
  t9 := Tryz.underlying9
  a9 := Tryz.isAgg9
  z9 := Tryz.sizeOf9
  v9 := Tryz.zeroValue9
  t22 := Tryz.underlying37
  a22 := Tryz.isAgg37
  z22 := Tryz.sizeOf37
  v22 := Tryz.zeroValue37
  t25 := Tryz.underlying186
  a25 := Tryz.isAgg186
  z25 := Tryz.sizeOf186
  v25 := Tryz.zeroValue186
  t39 := Tryz.underlying195
  a39 := Tryz.isAgg195
  z39 := Tryz.sizeOf195
  v39 := Tryz.zeroValue195
  t45 := Tryz.underlying199
  a45 := Tryz.isAgg199
  z45 := Tryz.sizeOf199
  v45 := Tryz.zeroValue199
  t46 := Tryz.underlying200
  a46 := Tryz.isAgg200
  z46 := Tryz.sizeOf200
  v46 := Tryz.zeroValue200
  t50 := Tryz.underlying176
  a50 := Tryz.isAgg176
  z50 := Tryz.sizeOf176
  v50 := Tryz.zeroValue176
  t53 := Tryz.underlying206
  a53 := Tryz.isAgg206
  z53 := Tryz.sizeOf206
  v53 := Tryz.zeroValue206
  t55 := Tryz.underlying208
  a55 := Tryz.isAgg208
  z55 := Tryz.sizeOf208
  v55 := Tryz.zeroValue208
  t66 := Tryz.underlying210
  a66 := Tryz.isAgg210
  z66 := Tryz.sizeOf210
  v66 := Tryz.zeroValue210
  t70 := Tryz.underlying214
  a70 := Tryz.isAgg214
  z70 := Tryz.sizeOf214
  v70 := Tryz.zeroValue214
  t76 := Tryz.underlying217
  a76 := Tryz.isAgg217
  z76 := Tryz.sizeOf217
  v76 := Tryz.zeroValue217
  t77 := Tryz.underlying218
  a77 := Tryz.isAgg218
  z77 := Tryz.sizeOf218
  v77 := Tryz.zeroValue218
def revL_ren : Go.Shelf.Ren := ⟨fun | 35 => 210 | n => n, fun | 0 => 0 | 3 => 3 | 4 => 4 | 22 => 37 | 23 => 113 | n => n, fun n => n⟩
theorem revL : SlLaysE0.n35 Tryz.prog revL_ren where
  mixed := by kernel_rfl
  f35 := ⟨"slices.Reverse[[]loop.example/g00811/impl.Vec,loop.example/g00811/impl.Vec]", by decide, Tryz.func210.trans (congrArg some (by kernel_rfl))⟩
  t0 := Tryz.underlying0
  a0 := Tryz.isAgg0
  z0 := Tryz.sizeOf0
  v0 := Tryz.zeroValue0
  t3 := Tryz.underlying3
  a3 := Tryz.isAgg3
  z3 := Tryz.sizeOf3
  v3 := Tryz.zeroValue3
  t4 := Tryz.underlying4
  a4 := Tryz.isAgg4
  z4 := Tryz.sizeOf4
  v4 := Tryz.zeroValue4
  t22 := Tryz.underlying37
  a22 := Tryz.isAgg37
  z22 := Tryz.sizeOf37
  v22 := Tryz.zeroValue37
end Go.Proofs.YtghckbohaghgkaaGreat.DW

/-
  slices.SortFunc and slices.Reverse at vectors, as functions that turn a row.
-/
namespace Go.Proofs.YtghckbohaghgkaaGreat.DW
open Go.RowKit Go.Sort Go.Shelf
/-- A valid vector. -/
abbrev OV := { v : DV // okV v = true }
instance : Inhabited OV := ⟨⟨(0, 0), by decide⟩⟩
def encO (x : OV) : List Value := encV x.1
def cfO (x y : OV) : Int := cfV x.1 y.1
set_option maxRecDepth 100000 in
set_option maxHeartbeats 1000000 in
theorem compareVecs_any (a b : DV) (ha : okV a = true) (hb : okV b = true) (W : World) : Calls Tryz.prog 207 #[.agg #[.int .i64 a.1, .int .i64 a.2], .agg #[.int .i64 b.1, .int .i64 b.2]] W fun e w' => e = .returned (.int .i64 (cfV a b)) ∧ ∃ q os', w' = grow (W.drewN q) os' := by
  obtain ⟨a1, a2⟩ := a
  obtain ⟨b1, b2⟩ := b
  obtain ⟨p1, p2, p3, p4⟩ := okV_b ha
  obtain ⟨q1, q2, q3, q4⟩ := okV_b hb
  simp only at p1 p2 p3 p4 q1 q2 q3 q4
  clear ha hb
  unfold cfV
  by_cases h : a1 = b1
  · subst h
    simp only [if_true]
    go_enter Tryz.func207, Tryz.ntmps207
    go_wp2
    go_ret
    exact ⟨rfl, 0, _, by rw [alloc_eq_grow, alloc_eq_grow, grow_grow]; rfl⟩
  · simp only [h, if_false]
    go_enter Tryz.func207, Tryz.ntmps207
    go_wp2
    go_ret
    exact ⟨rfl, 0, _, by rw [alloc_eq_grow, alloc_eq_grow, grow_grow]; rfl⟩
theorem cmpLays (blk off size : Nat) (w : World) : CmpLays Tryz.prog 207 #[] encO 2 cfO blk off size w :=
  fun _ _ _ _ x y => compareVecs_any x.1 y.1 x.2 y.2 _
theorem flat_val (d : List OV) : flatK encO 2 d.toArray = flatK encV 2 (d.map Subtype.val).toArray := by
  refine ext_get! (by simp) fun t ht => ?_
  have ht' : t < d.length * 2 := by simpa using ht
  rw [get_flatK _ _ _ t (by simpa using ht'), get_flatK _ _ _ t (by simpa using ht'), getElem!_pos d.toArray (t / 2) (by simp; omega), getElem!_pos (d.map Subtype.val).toArray (t / 2) (by simp; omega), List.getElem_toArray, List.getElem_toArray, List.getElem_map]
  rfl
theorem swoO : SWO (ltOf cfO) where
  irrefl x := by
    have := cfV_lt x.1 x.1
    show decide (cfV x.1 x.1 < 0) = false
    rw [decide_eq_false_iff_not, this]
    exact ltV_irrefl _
  trans x y z h1 h2 := by
    have h1 := (cfV_lt x.1 y.1).1 (of_decide_eq_true h1)
    have h2 := (cfV_lt y.1 z.1).1 (of_decide_eq_true h2)
    exact decide_eq_true ((cfV_lt x.1 z.1).2 (ltV_trans h1 h2))
  ntrans x y z h1 h2 := by
    have h1 := fun h => of_decide_eq_false h1 ((cfV_lt x.1 y.1).2 h)
    have h2 := fun h => of_decide_eq_false h2 ((cfV_lt y.1 z.1).2 h)
    refine decide_eq_false fun h => ?_
    have h := (cfV_lt x.1 z.1).1 h
    rcases ltV_tri x.1 y.1 with k | k | k
    · exact h1 k
    · exact h2 (k ▸ h)
    · exact h2 (ltV_trans k h)
theorem totO (x y : OV) (h1 : (ltOf cfO) x y = false) (h2 : (ltOf cfO) y x = false) : x = y := by
  have h1 := fun h => of_decide_eq_false h1 ((cfV_lt x.1 y.1).2 h)
  have h2 := fun h => of_decide_eq_false h2 ((cfV_lt y.1 x.1).2 h)
  rcases ltV_tri x.1 y.1 with k | k | k
  · exact (h1 k).elim
  · exact Subtype.ext k
  · exact (h2 k).elim
theorem exO : ∀ l : List DV, (∀ v ∈ l, okV v = true) → ∃ d : List OV, d.map Subtype.val = l
  | [], _ => ⟨[], rfl⟩
  | v :: l, h => by
    obtain ⟨d, hd⟩ := exO l fun x hx => h x (List.mem_cons_of_mem _ hx)
    exact ⟨⟨v, h v List.mem_cons_self⟩ :: d, by rw [List.map_cons, hd]⟩
theorem sort_fn (l : List DV) (hl : ∀ v ∈ l, okV v = true) (h0 : 0 < l.length) (hn : l.length ≤ 1048576) : FnR Tryz.prog 206 [.fn 207] 113 tVec l (l.mergeSort leB) false := by
  obtain ⟨d, rfl⟩ := exO l hl
  refine FnR.of (enters_of Tryz.func206 (by kernel_rfl) rfl) h0 false fun hI w g cap hg hc hcm hH => ?_
  have hH' : HoldsK encO 2 w g 0 d.toArray := by unfold HoldsK; rw [flat_val]; exact hH
  have hdl : d.toArray.size = (d.map Subtype.val).length := by simp
  have eg : ∀ args w, (callFunc 207 args).run Tryz.prog w = .ok (.enter 207 args) w := enters_of Tryz.func207 (by kernel_rfl) rfl
  have hcon := AnyQ.slices_SortFunc_total sortL 2 Tryz.isAgg113 Tryz.sizeOf113 encO (fun _ => rfl) (fun x v hv => by simp [encO, encV] at hv; rcases hv with rfl | rfl <;> rfl) cfO swoO 207 #[] g 0 cap d.toArray w eg (cmpLays g 0 _ w) hH' hg (by rw [hdl]; omega) totO
  rw [hdl] at hcon
  have hms : ((d.mergeSort fun x y => !(ltOf cfO) y x).map Subtype.val) = (d.map Subtype.val).mergeSort leB := List.map_mergeSort fun a _ b _ => rfl
  refine Calls.mono hcon ?_
  rintro e w' ⟨rfl, n, os, rfl⟩
  refine ⟨(d.map Subtype.val).mergeSort leB, n, os, rfl, fun _ => List.length_mergeSort _, List.length_mergeSort _, fun x hx => .inl ((List.mergeSort_perm _ _).mem_iff.1 hx), (List.take_length ..).symm, Nat.le_refl _, ?_⟩
  unfold sortWorldK putRowK
  rw [← hms, ← flat_val]
theorem reverse_fn (l : List DV) (h0 : 0 < l.length) (hn : l.length ≤ 1048576) : FnR Tryz.prog 210 [] 113 tVec l l.reverse false := by
  refine FnR.of (enters_of Tryz.func210 (by kernel_rfl) rfl) h0 false fun hI w g cap hg hc hcm hH => ?_
  have hcon := AnyQ.slices_Reverse revL 2 Tryz.isAgg113 Tryz.sizeOf113 encV (fun _ => rfl) (fun x v hv => by simp [encV] at hv; rcases hv with rfl | rfl <;> rfl) g 0 cap l.toArray w hH (by simp; omega)
  have hdl : l.toArray.size = l.length := by simp
  rw [hdl] at hcon
  refine Calls.mono hcon ?_
  rintro e w' ⟨rfl, n, rfl⟩
  refine ⟨l.reverse, n, #[], rfl, fun _ => List.length_reverse, List.length_reverse, fun x hx => .inl (List.mem_reverse.1 hx), (List.take_length ..).symm, Nat.le_refl _, ?_⟩
  unfold sortWorldK
  rw [grow_empty, List.reverse_toArray]
end Go.Proofs.YtghckbohaghgkaaGreat.DW

/-
  A list of vectors without repetitions next to each other: the kit's word and mine. No program here.
-/
namespace Go.Proofs.YtghckbohaghgkaaGreat.DW
open Go.RowKit Go.Sort Go.Lib
theorem cmpD_snoc (y x : DV) : ∀ l : List DV, cmpD (l ++ [y, x]) = cmpD (l ++ [y]) ++ (if y = x then [] else [x])
  | [] => by
    show (if y = x then cmpD [x] else y :: cmpD [x]) = [y] ++ _
    by_cases h : y = x
    · rw [if_pos h, if_pos h, h]; rfl
    · rw [if_neg h, if_neg h]; rfl
  | [a] => by
    show (if a = y then cmpD [y, x] else a :: cmpD [y, x]) = (if a = y then cmpD [y] else a :: cmpD [y]) ++ _
    have ih := cmpD_snoc y x []
    simp only [List.nil_append] at ih
    by_cases h : a = y
    · rw [if_pos h, if_pos h, ih]
    · rw [if_neg h, if_neg h, ih]; rfl
  | a :: b :: l => by
    show (if a = b then cmpD (b :: (l ++ [y, x])) else a :: cmpD (b :: (l ++ [y, x]))) = (if a = b then cmpD (b :: (l ++ [y])) else a :: cmpD (b :: (l ++ [y]))) ++ _
    have ih := cmpD_snoc y x (b :: l)
    simp only [List.cons_append] at ih
    by_cases h : a = b
    · rw [if_pos h, if_pos h, ih]
    · rw [if_neg h, if_neg h, ih]; rfl
theorem cpt_take (l : List DV) : ∀ m, m ≤ l.length → compactUpTo l.toArray m = cmpD (l.take m)
  | 0, _ => rfl
  | 1, h => by
    rw [compactUpTo_succ, keeps_lt_one _ 0 (by decide), if_pos rfl]
    have e : l.take 1 = [l[0]'(by omega)] := by rw [List.take_add_one, List.getElem?_eq_getElem (by omega)]; rfl
    rw [e, getElem!_pos l.toArray 0 (by simp; omega)]
    rfl
  | m + 2, h => by
    have ih := cpt_take l (m + 1) (by omega)
    have e1 : l.take (m + 1) = l.take m ++ [l[m]'(by omega)] := by rw [List.take_add_one, List.getElem?_eq_getElem (by omega)]; rfl
    have e2 : l.take (m + 2) = l.take m ++ [l[m]'(by omega), l[m + 1]'(by omega)] := by
      rw [List.take_add_one, List.getElem?_eq_getElem (by omega), e1, List.append_assoc]; rfl
    rw [compactUpTo_succ, ih, e2, cmpD_snoc, e1]
    have g1 : l.toArray[m + 1]! = l[m + 1]'(by omega) := by rw [getElem!_pos l.toArray (m + 1) (by simp; omega)]; rfl
    have g0 : l.toArray[m + 1 - 1]! = l[m]'(by omega) := by rw [Nat.add_sub_cancel, getElem!_pos l.toArray m (by simp; omega)]; rfl
    by_cases h2 : l[m]'(by omega) = l[m + 1]'(by omega)
    · rw [keeps_neg (by omega) (by rw [g1, g0, h2]), if_pos h2]; rfl
    · rw [keeps_pos (by rw [g1, g0]; exact fun h => h2 h.symm), if_neg h2, if_pos rfl, g1]
theorem cpt_all (l : List DV) : compactUpTo l.toArray l.length = cmpD l := by
  rw [cpt_take l _ (Nat.le_refl _), List.take_length]
/-- A store of an element. -/
theorem setMany_one (d : Array DV) {i : Nat} (hi : i < d.size) (x : DV) : setMany (flatK encV 2 d) (i * 2) (encV x) = flatK encV 2 (d.setIfInBounds i x) := by
  refine ext_get! (by simp) fun t ht => ?_
  have ht' : t < d.size * 2 := by simpa using ht
  rw [get_setMany _ _ _ t (by simpa using ht'), get_flatK _ _ _ t ht', get_flatK _ _ _ t (by simpa using ht')]
  show (if i * 2 ≤ t ∧ t < i * 2 + 2 then _ else _) = _
  by_cases h : t / 2 = i
  · rw [if_pos ⟨by omega, by omega⟩]
    subst h
    rw [getElem!_set_same d _ x hi, show t - t / 2 * 2 = t % 2 by omega]
  · rw [if_neg (by omega), getElem!_set_other d i _ x h]
/-- The rest of a row, cleared. -/
theorem setMany_zero (d : Array DV) {k : Nat} (hk : k ≤ d.size) (r : List DV) (hr : r.length = k) (hlow : ∀ j, j < k → r[j]? = some d[j]!) :
    setMany (flatK encV 2 d) (k * 2) (List.replicate ((d.size - k) * 2) (.int .i64 0)) = flatK encV 2 (r ++ List.replicate (d.size - k) (0, 0)).toArray := by
  have hsz : (r ++ List.replicate (d.size - k) ((0 : Int), (0 : Int))).toArray.size = d.size := by simp [hr]; omega
  refine ext_get! (by rw [size_setMany, size_flatK, size_flatK, hsz]) fun t ht => ?_
  have ht' : t < d.size * 2 := by simpa using ht
  rw [get_setMany _ _ _ t (by simpa using ht'), get_flatK _ _ _ t ht', get_flatK _ _ _ t (by rw [hsz]; exact ht'), List.length_replicate]
  by_cases h : t / 2 < k
  · rw [if_neg (by omega)]
    have h1 := hlow _ h
    have h2 : (r ++ List.replicate (d.size - k) ((0 : Int), (0 : Int))).toArray[t / 2]! = d[t / 2]! := by
      rw [getElem!_pos _ _ (by rw [hsz]; omega)]
      rw [List.getElem_toArray, List.getElem_append_left (by omega)]
      rw [List.getElem?_eq_getElem (by omega)] at h1
      injection h1
    rw [h2]
  · rw [if_pos ⟨by omega, by omega⟩]
    have h2 : (r ++ List.replicate (d.size - k) ((0 : Int), (0 : Int))).toArray[t / 2]! = (0, 0) := by
      rw [getElem!_pos _ _ (by rw [hsz]; omega)]
      rw [List.getElem_toArray, List.getElem_append_right (by omega), List.getElem_replicate]
    rw [h2, getElem!_pos _ _ (by simp; omega), List.getElem_replicate]
    have h3 : t % 2 = 0 ∨ t % 2 = 1 := by omega
    rcases h3 with h3 | h3 <;> rw [h3] <;> rfl
end Go.Proofs.YtghckbohaghgkaaGreat.DW

/-
  slices.Compact at vectors, walked (after the kit's proof at elements of one cell).
-/
namespace Go.Proofs.YtghckbohaghgkaaGreat.DW
open Go.RowKit Go.Sort Go.Lib
theorem vecT : vecTy Tryz.prog 113 = true := by kernel_rfl
/-- 'clear(s)', s a slice of n > 0 vectors. -/
theorem run_clear_vec (w : World) (ty : TypeId) (b o n c : Nat) (hn : 0 < n)
    (hc : ∀ j, j < n * 2 → (w.cell? ⟨b, o + j, none⟩).isSome = true) (hf : ∀ j, j < n * 2 → w.frozen? ⟨b, o + j, none⟩ = false) :
    (Builtin.clear_ #[37] ty #[.slice (some ⟨b, o, none⟩) n c]).run Tryz.prog w = .ok (.tuple #[]) (w.setCells b o (List.replicate (n * 2) (.int .i64 0))) := by
  have hzc : (Builtin.zeroCells (Value.agg #[.int .i64 0, .int .i64 0]).cells n).toList = List.replicate (n * 2) (.int .i64 0) := by
    apply List.ext_getElem
    · simp [Builtin.zeroCells, Value.cells]
    · intro i h1 h2
      simp only [Builtin.zeroCells, Value.cells, Array.toList_map, Array.toList_range, List.getElem_map, List.getElem_range, List.getElem_replicate]
      have : i % 2 = 0 ∨ i % 2 = 1 := by omega
      show (#[Value.int .i64 0, Value.int .i64 0])[i % 2]! = _
      rcases this with h | h <;> rw [h] <;> rfl
  have hst := run_storeCells_cells (P := Tryz.prog) b o (List.replicate (n * 2) (.int .i64 0)) 0 w (by simpa using hc) (by simpa using hf) (by intro v hv'; rw [List.eq_of_mem_replicate hv']; rfl)
  simp only [Nat.add_zero] at hst
  obtain ⟨m, rfl⟩ : ∃ m, n = m + 1 := ⟨n - 1, by omega⟩
  have hz := Tryz.zeroValue113
  have hu := Tryz.underlying37
  simp [Builtin.clear_, run_underlying hu, hz, hzc, hst]
theorem store_world_v {w wr : World} {n blk off : Nat} {dk : Array DV} {i : Nat} (hi : i < dk.size) (hwr : wr = putRowK encV 2 (Sort.ahead w n) blk off dk) (a b : Int) :
    ((wr.setCell ⟨blk, off + i * 2, none⟩ (.int .i64 a)).setCell ⟨blk, off + i * 2 + 1, none⟩ (.int .i64 b)).drew = putRowK encV 2 (Sort.ahead w (n + 1)) blk off (dk.setIfInBounds i (a, b)) := by
  subst hwr
  have h := setCells_putRow (Sort.ahead w n) blk off (encV (a, b)) (i * 2) (flatK encV 2 dk) (by rw [size_flatK]; show i * 2 + 2 ≤ _; omega)
  rw [setMany_one dk hi (a, b)] at h
  have h2 : ((putRowK encV 2 (Sort.ahead w n) blk off dk).setCell ⟨blk, off + i * 2, none⟩ (.int .i64 a)).setCell ⟨blk, off + i * 2 + 1, none⟩ (.int .i64 b) = putRow id (Sort.ahead w n) blk off (flatK encV 2 (dk.setIfInBounds i (a, b))) := h
  rw [h2, putRow_drew, ahead_drew]
  rfl
set_option maxRecDepth 100000 in
set_option maxHeartbeats 4000000 in
theorem compact_any (blk off cap : Nat) (d : Array DV) (w : World) (hH : HoldsK encV 2 w blk off d) (hsz : d.size ≤ 9223372036854775807) (hcap : d.size ≤ cap) :
    Calls Tryz.prog 208 #[.slice (some ⟨blk, off, none⟩) d.size cap] w fun e w' => e = .returned (.slice (some ⟨blk, off, none⟩) (compactUpTo d d.size).length cap) ∧ ∃ q, w' = putRowK encV 2 (Sort.ahead w q) blk off (compactUpTo d d.size ++ List.replicate (d.size - (compactUpTo d d.size).length) (0, 0)).toArray := by
  have heq' : ∀ (a b c d : Int) (w : World), Sem.run Tryz.prog (binOp .eql 113 (.agg #[.int .i64 a, .int .i64 b]) (.agg #[.int .i64 c, .int .i64 d])) w = .ok (.bool (decide (a = c) && decide (b = d))) w := fun a b c d w => by rw [run_eql_struct, vec_eq vecT]; rfl
  have hne' : ∀ (a b c d : Int) (w : World), Sem.run Tryz.prog (binOp .neq 113 (.agg #[.int .i64 a, .int .i64 b]) (.agg #[.int .i64 c, .int .i64 d])) w = .ok (.bool (!(decide (a = c) && decide (b = d)))) w := fun a b c d w => by rw [run_neq_struct, vec_eq vecT]; rfl
  have hgd' : ∀ (op : BinOp) (x y : Operand) (a b c d : Int) (w : World), Sem.run Tryz.prog (eqGuard op 113 x y (.agg #[.int .i64 a, .int .i64 b]) (.agg #[.int .i64 c, .int .i64 d])) w = .ok () w := fun op x y a b c d w => run_eqGuard_agg w op _ x y _ _ (vecTy_g vecT)
  have same : ∀ q, (∀ j, j < d.size → keeps d j = true) → (compactUpTo d d.size).length = d.size ∧ w.drewN q = putRowK encV 2 (Sort.ahead w q) blk off (compactUpTo d d.size ++ List.replicate (d.size - (compactUpTo d d.size).length) (0, 0)).toArray := by
    intro q hall
    have e : compactUpTo d d.size = d.toList := by rw [compactUpTo_all d _ hall, range_map_get]
    rw [e]
    refine ⟨by simp, ?_⟩
    simp only [Array.length_toList, Nat.sub_self, List.replicate_zero, List.append_nil, Array.toArray_toList]
    exact (putRowK_self encV 2 (Sort.ahead w q) blk off d (holdsK_ahead encV 2 w q blk off d hH)).symm
  have HS : Aside (∀ q, (∀ j, j < d.size → keeps d j = true) → (compactUpTo d d.size).length = d.size ∧ w.drewN q = putRowK encV 2 (Sort.ahead w q) blk off (compactUpTo d d.size ++ List.replicate (d.size - (compactUpTo d d.size).length) (0, 0)).toArray) := same
  clear same
  have mixed : Tryz.prog.follows .mixedOrders = true := mixes
  have encat : ∀ x : DV, (encV x)[0]! = .int .i64 x.1 ∧ (encV x)[1]! = .int .i64 x.2 := fun x => ⟨rfl, rfl⟩
  by_cases h2 : d.size < 2
  · have HH : Aside (HoldsK encV 2 w blk off d) := hH
    clear hH
    go_enter Tryz.func208, Tryz.ntmps208
    go_wp2
    go_ret
    obtain ⟨e1, e2⟩ := HS.out 0 (fun j hj => keeps_lt_one d j (by omega))
    exact ⟨by rw [e1]; rfl, 0, e2⟩
  · go_enter Tryz.func208, Tryz.ntmps208
    go_wp2
    go_loopg [3] d.size (fun g s3 wr => ∃ k q : Nat, 1 ≤ k ∧ k ≤ d.size ∧ d.size - k ≤ g ∧ s3 = .int .i64 k ∧ wr = w.drewN q ∧ ∀ j, j < k → keeps d j = true)
    case atStart => exact ⟨1, 0, Nat.le_refl _, by omega, by omega, rfl, rfl, keeps_lt_one d⟩
    case round =>
      obtain ⟨k, q, hk1, hk, hg, rfl, rfl, hall⟩ := hrel
      by_cases hlt : k < d.size
      · obtain ⟨c1, f1⟩ := hH.cell hlt (c := 0) (by decide)
        obtain ⟨c1', f1'⟩ := hH.cell hlt (c := 1) (by decide)
        obtain ⟨c0, f0⟩ := hH.cell (i := k - 1) (by omega) (c := 0) (by decide)
        obtain ⟨c0', f0'⟩ := hH.cell (i := k - 1) (by omega) (c := 1) (by decide)
        rw [(encat _).1] at c1 c0
        rw [(encat _).2] at c1' c0'
        rw [Nat.add_zero] at c1 c0 f1 f0
        have A : Aside (∀ j, j < k → keeps d j = true) := hall
        have HH : Aside (HoldsK encV 2 w blk off d) := hH
        clear hall hH
        generalize hx : d[k]! = x at c1 c1'
        generalize hy : d[k - 1]! = y at c0 c0'
        have B : Aside (d[k]! = x ∧ d[k - 1]! = y) := ⟨hx, hy⟩
        clear hx hy
        obtain ⟨x1, x2⟩ := x
        obtain ⟨y1, y2⟩ := y
        simp only at c1 c1' c0 c0'
        have hbe : (decide (x1 = y1) && decide (x2 = y2)) = decide ((x1, x2) = (y1, y2)) := by
          by_cases e1 : x1 = y1 <;> by_cases e2 : x2 = y2 <;> simp [e1, e2]
        by_cases hdup : ((x1, x2) : DV) = (y1, y2)
        · injection hdup with h1 h2'
          subst h1 h2'
          go_wp2_with fail
          go_region_o
          go_wp2
          clear c0 c1 c0' c1' f0 f1 f0' f1'
          go_loopg [3, 5] d.size (fun g s3 s5 wr => ∃ (kk k2 q2 : Nat) (dk : Array DV), s3 = .int .i64 kk ∧ s5 = .int .i64 k2 ∧ 1 ≤ k2 ∧ k + k2 ≤ d.size ∧ d.size - (k + k2) ≤ g ∧ wr = putRowK encV 2 (Sort.ahead w q2) blk off dk ∧ CompInv d (k + k2) kk dk)
          case atStart => exact ⟨k, 1, q + 1, d, rfl, rfl, Nat.le_refl _, by omega, by omega, (putRowK_self encV 2 (Sort.ahead w (q + 1)) blk off d (holdsK_ahead encV 2 w (q + 1) blk off d HH.out)).symm, CompInv.start A.out (keeps_neg (by omega) (by rw [B.out.1, B.out.2]))⟩
          case round =>
            obtain ⟨kk, k2, q2, dk, rfl, rfl, h1, hle, hg2, hwr, hI⟩ := hrel
            have hkk := hI.lt
            have hds := hI.size
            have hHk : HoldsK encV 2 wr blk off dk := by rw [hwr]; exact holdsK_putRowK encV 2 _ blk off d dk (holdsK_ahead encV 2 w q2 blk off d HH.out) hds
            have W2 : Aside (wr = putRowK encV 2 (Sort.ahead w q2) blk off dk) := hwr
            have I2 : Aside (CompInv d (k + k2) kk dk) := hI
            clear hwr
            by_cases hlt2 : k + k2 < d.size
            · obtain ⟨cm, _⟩ := hHk.cell (i := k + k2) (by omega) (c := 0) (by decide)
              obtain ⟨cm', _⟩ := hHk.cell (i := k + k2) (by omega) (c := 1) (by decide)
              obtain ⟨cp, _⟩ := hHk.cell (i := k + k2 - 1) (by omega) (c := 0) (by decide)
              obtain ⟨cp', _⟩ := hHk.cell (i := k + k2 - 1) (by omega) (c := 1) (by decide)
              obtain ⟨ck, fk⟩ := hHk.cell (i := kk) (by omega) (c := 0) (by decide)
              obtain ⟨ck', fk'⟩ := hHk.cell (i := kk) (by omega) (c := 1) (by decide)
              rw [hI.high (k + k2) (by omega), (encat _).1, show off + (k + k2) * 2 + 0 = off + k * 2 + k2 * 2 by omega] at cm
              rw [hI.high (k + k2) (by omega), (encat _).2, show off + (k + k2) * 2 + 1 = off + k * 2 + k2 * 2 + 1 by omega] at cm'
              rw [hI.high (k + k2 - 1) (by omega), (encat _).1, show off + (k + k2 - 1) * 2 + 0 = off + k * 2 + (k2 - 1) * 2 by omega] at cp
              rw [hI.high (k + k2 - 1) (by omega), (encat _).2, show off + (k + k2 - 1) * 2 + 1 = off + k * 2 + (k2 - 1) * 2 + 1 by omega] at cp'
              rw [(encat _).1, Nat.add_zero] at ck
              rw [(encat _).2] at ck'
              rw [Nat.add_zero] at fk
              clear hHk hI
              generalize hu : d[k + k2]! = u at cm cm'
              generalize hv : d[k + k2 - 1]! = v at cp cp'
              generalize dk[kk]! = old at ck ck'
              have C : Aside (d[k + k2]! = u ∧ d[k + k2 - 1]! = v) := ⟨hu, hv⟩
              clear hu hv
              obtain ⟨u1, u2⟩ := u
              obtain ⟨v1, v2⟩ := v
              obtain ⟨o1, o2⟩ := old
              simp only at cm cm' cp cp' ck ck'
              by_cases huv : ((u1, u2) : DV) = (v1, v2)
              · injection huv with e1 e2
                subst e1 e2
                go_wp2_with fail
                go_region_o
                go_wp2
                go_roundg (d.size - (k + (k2 + 1)))
                case measure => omega
                case rel => exact ⟨kk, k2 + 1, q2 + 1, dk, rfl, by go_num, by omega, by omega, Nat.le_refl _, by rw [W2.out]; rfl, I2.out.skip (keeps_neg (by omega) (by rw [C.out.1, C.out.2]))⟩
              · have huv2 : ¬ (u1 = v1 ∧ u2 = v2) := fun h => huv (by rw [h.1, h.2])
                have hbe2 : (decide (u1 = v1) && decide (u2 = v2)) = false := by
                  by_cases e1 : u1 = v1 <;> by_cases e2 : u2 = v2 <;> simp [e1, e2] <;> exact huv2 ⟨e1, e2⟩
                have HU : Aside (¬ ((u1, u2) : DV) = (v1, v2)) := huv
                clear huv huv2
                go_wp2_with fail
                go_region_o
                go_wp2
                go_roundg (d.size - (k + (k2 + 1)))
                case measure => omega
                case rel => exact ⟨kk + 1, k2 + 1, q2 + 1, dk.setIfInBounds kk (u1, u2), by go_num, by go_num, by omega, by omega, Nat.le_refl _, store_world_v (by omega) W2.out u1 u2, by have := I2.out.keep hlt2 (keeps_pos (by rw [C.out.1, C.out.2]; exact HU.out)); rwa [C.out.1] at this⟩
            · have hend : k + k2 = d.size := by omega
              have hcl : ∀ ty, (Builtin.clear_ #[37] ty #[.slice (some ⟨blk, off + kk * 2, none⟩) (d.size - kk) (cap - kk)]).run Tryz.prog wr = .ok (.tuple #[]) (wr.setCells blk (off + kk * 2) (List.replicate ((d.size - kk) * 2) (.int .i64 0))) :=
                fun ty => run_clear_vec wr ty blk (off + kk * 2) _ _ (by omega) (fun j hj => by
                  have h := (hHk (kk * 2 + j) (by simp [hds]; omega)).1
                  rw [show off + kk * 2 + j = off + (kk * 2 + j) by omega, h]; rfl) (fun j hj => by
                  have h := (hHk (kk * 2 + j) (by simp [hds]; omega)).2
                  rw [show off + kk * 2 + j = off + (kk * 2 + j) by omega]; exact h)
              clear hHk hI
              go_wp2
              go_ret
              have hI := I2.out
              rw [hend] at hI
              refine ⟨by rw [hI.len]; rfl, q2, ?_⟩
              have hz := setMany_zero dk (k := kk) (by omega) (compactUpTo d d.size) hI.len hI.low
              rw [hI.len, W2.out]
              unfold putRowK
              rw [setCells_putRow _ _ _ _ _ _ (by rw [size_flatK, List.length_replicate]; omega), show d.size - kk = dk.size - kk by rw [hds], hz]
        · have hbe2 : (decide (x1 = y1) && decide (x2 = y2)) = false := by rw [hbe]; exact decide_eq_false hdup
          have HD : Aside (¬ ((x1, x2) : DV) = (y1, y2)) := hdup
          clear hdup hbe
          go_wp2_with fail
          go_region_o
          go_wp2
          go_roundg (d.size - (k + 1))
          case measure => omega
          case rel =>
            refine ⟨k + 1, q + 1, by omega, by omega, Nat.le_refl _, by go_num, rfl, fun j hj => ?_⟩
            by_cases e : j = k
            · subst e
              exact keeps_pos (by rw [B.out.1, B.out.2]; exact HD.out)
            · exact A.out j (by omega)
      · have : k = d.size := by omega
        subst this
        have HH : Aside (HoldsK encV 2 w blk off d) := hH
        clear hH
        go_wp2
        go_ret
        obtain ⟨e1, e2⟩ := HS.out q hall
        exact ⟨by rw [e1]; rfl, q, e2⟩
theorem compact_fn (l : List DV) (h0 : 0 < l.length) (hn : l.length ≤ 1048576) : FnR Tryz.prog 208 [] 113 tVec l (cmpD l) true := by
  refine FnR.of (enters_of Tryz.func208 (by kernel_rfl) rfl) h0 true fun hI w g cap hg hc hcm hH => ?_
  have hcon := compact_any g 0 cap l.toArray w hH (by simp; omega) (by simpa using hc)
  have hdl : l.toArray.size = l.length := by simp
  rw [hdl, cpt_all] at hcon
  refine Calls.mono hcon ?_
  rintro e w' ⟨rfl, n, rfl⟩
  have hcl := cmpD_len (l := l)
  refine ⟨cmpD l ++ List.replicate (l.length - (cmpD l).length) (0, 0), n, #[], rfl, (fun h => by cases h), ?_, fun x hx => ?_, ?_, ?_, ?_⟩
  · rw [List.length_append, List.length_replicate]; omega
  · rcases List.mem_append.1 hx with h | h
    · exact .inl (cmpD_mem.1 h)
    · exact .inr (List.eq_of_mem_replicate h)
  · rw [List.take_left']; rfl
  · rw [List.length_append]; omega
  · unfold sortWorldK
    rw [grow_empty]
end Go.Proofs.YtghckbohaghgkaaGreat.DW

/-
  The hull, the program's.
-/
namespace Go.Proofs.YtghckbohaghgkaaGreat.DW
open Go.RowKit
theorem cloneV_fn (l : List DV) (h0 : 0 < l.length) (hn : l.length ≤ 1048576) : FnG Tryz.prog 205 [⟨.slice tVec, l⟩] 113 tVec l := by
  refine fnG_enter tabOK mixes Tryz.func205 rfl rfl _ Tryz.ntmps205 _ Tryz.results205 (by simp) fun hwf => ?_
  try simp (maxSteps := 9999999) only [go_sem]
  refine NilW.non (by intro e; rw [e] at h0; simp at h0) ?_
  try simp (maxSteps := 9999999) only [go_sem]
  repeat refine And.intro (by first|omega|(constructor<;>omega)|kernel_rfl) ?_
  exact ⟨0, 1, rfl, rfl⟩
theorem HullOf_fn (l : List DV) (hl : ∀ v ∈ l, okV v = true) (h0 : 0 < l.length) (hn : l.length ≤ 64) : Fn Tryz.prog 167 [⟨.slice tVec, l⟩] true [⟨.slice tVec, hullD l⟩] := by
  have c1 := areVecs_fn l
  rw [any_okV_f hl] at c1
  have d0 := decide_eq_false (p := (l.length : Int) > 64) (by omega)
  have c2 := cloneV_fn l h0 (by omega)
  have c3 := sort_fn l hl h0 (by omega)
  have hml : (l.mergeSort leB).length = l.length := List.length_mergeSort _
  have c4 := compact_fn (l.mergeSort leB) (by omega) (by omega)
  have hsl := srtD_len l
  have hsm : ∀ v ∈ srtD l, okV v = true := fun v hv => hl v (srtD_mem.1 hv)
  have hcs : cmpD (l.mergeSort leB) = srtD l := rfl
  rw [hcs] at c4
  refine fn_enter tabOK mixes Tryz.func167 rfl rfl _ Tryz.ntmps167 _ Tryz.results167 (by simp) fun hwf => ?_
  try simp (maxSteps := 9999999) only [go_sem, d0]
  refine CallW.mk (c1) ?_
  try simp (maxSteps := 9999999) only [go_sem]
  refine CallW.g (c2) ?_
  try simp (maxSteps := 9999999) only [go_sem]
  refine CallW.r (k := 0) (ver := 0) (o := true) (c3) ?_
  try simp (maxSteps := 9999999) only [go_sem]
  refine CallW.r (k := 0) (ver := 0) (o := true) (c4) ?_
  try simp (maxSteps := 9999999) only [go_sem]
  refine CondW_dec (fun hA => ?_) (fun hA => ?_)
  · have hh : hullD l = srtD l := by unfold hullD; rw [if_pos (by omega)]
    rw [hh]
    try simp (maxSteps := 9999999) only [go_sem]
  · have hh : hullD l = chD (srtD l) ++ chD (srtD l).reverse := by unfold hullD; rw [if_neg (by omega)]
    rw [hh]
    generalize srtD l = s at hsl hsm hA ⊢
    have c5 := chain_fn s hsm (by omega) (by omega)
    have c6 := reverse_fn s (by omega) (by omega)
    have hrl : s.reverse.length = s.length := List.length_reverse
    have c7 := chain_fn s.reverse (fun v hv => hsm v (List.mem_reverse.1 hv)) (by omega) (by omega)
    have q1 := chR_len s
    have q2 := chR_len s.reverse
    have q3 : (chD s).length ≤ s.length := by unfold chD; rw [List.length_dropLast, List.length_reverse]; omega
    have q4 : (chD s.reverse).length ≤ s.length := by unfold chD; rw [List.length_dropLast, List.length_reverse]; omega
    try simp (maxSteps := 9999999) only [go_sem]
    refine CallW.g (c5) ?_
    try simp (maxSteps := 9999999) only [go_sem]
    refine CallW.r (k := 0) (ver := 1) (o := true) (c6) ?_
    try simp (maxSteps := 9999999) only [go_sem]
    refine CallW.g (c7) ?_
    try simp (maxSteps := 9999999) only [go_sem]
    repeat refine And.intro (by first|omega|(constructor<;>omega)|kernel_rfl) ?_
    omega
end Go.Proofs.YtghckbohaghgkaaGreat.DW

/-
  Limits of speed.
-/
namespace Go.Proofs.YtghckbohaghgkaaGreat.DW
open Go.RowKit
theorem natL_minInt : natL 9223372036854775808 = [854775808, 223372036, 9] := by
  rw [natL_pos (by decide), natL_pos (by decide), natL_pos (by decide), natL_zero]; rfl
theorem bigOf_fn (n : Int) : Fn Tryz.prog 197 [⟨.int, n⟩] true [⟨tBig, bigD n⟩] := by
  by_cases h0 : 0 ≤ n
  · have hn : ¬ n < 0 := by omega
    have e : n.natAbs = n.toNat := by omega
    refine fn_enter tabOK mixes Tryz.func197 rfl rfl _ Tryz.ntmps197 _ Tryz.results197 (by simp) fun hwf => ?_
    try simp (maxSteps := 9999999) only [go_sem, h0, hn]
    refine CallW.mk (implNatOf_fn n) ?_
    try simp (maxSteps := 9999999) only [go_sem]
    rw [e]
    all_goals first | kernel_rfl | omega | rfl
  · by_cases h1 : n = -9223372036854775808
    · subst h1
      have e : natL 9223372036854775807 = natL (9223372036854775807 : Int).toNat := rfl
      have ha := natAdd_fn (9223372036854775807 : Int).toNat (1 : Int).toNat (Nat.le_trans (natL_len3 (n := 9223372036854775807) (by decide)) (by decide)) (Nat.le_trans (nl_small (by decide)) (by decide))
      refine fn_enter tabOK mixes Tryz.func197 rfl rfl _ Tryz.ntmps197 _ Tryz.results197 (by simp) fun hwf => ?_
      try simp (maxSteps := 9999999) only [go_sem]
      refine CallW.mk (implNatOf_fn 9223372036854775807) ?_
      try simp (maxSteps := 9999999) only [go_sem]
      refine CallW.mk (implNatOf_fn 1) ?_
      try simp (maxSteps := 9999999) only [go_sem]
      refine CallW.mk (ha) ?_
      try simp (maxSteps := 9999999) only [go_sem]
      all_goals first | kernel_rfl | omega | rfl
    · have hn : n < 0 := by omega
      have e : n.natAbs = (-n).toNat := by omega
      refine fn_enter tabOK mixes Tryz.func197 rfl rfl _ Tryz.ntmps197 _ Tryz.results197 (by simp) fun hwf => ?_
      have hI : I64 n := hwf ⟨.int, n⟩ (by simp)
      have hI1 := hI.1
      have hI2 := hI.2
      try simp (maxSteps := 9999999) only [go_sem, h0, h1]
      repeat refine And.intro (by first|omega|(constructor<;>omega)|kernel_rfl) ?_
      refine CallW.mk (implNatOf_fn (-n)) ?_
      try simp (maxSteps := 9999999) only [go_sem]
      rw [e]
      simp [hn]
theorem BigIntOf_fn (n : Int) : Fn Tryz.prog 147 [⟨.int, n⟩] true [⟨tBig, bigD n⟩] := by
  by_cases h1 : n = -9223372036854775808
  · subst h1
    have hm := l03Make_to (s := true) (n := 9223372036854775808) (z := -9223372036854775808) rfl (Nat.le_trans (natL_len3 (n := 9223372036854775808) (by decide)) (by decide))
    rw [natL_minInt] at hm
    refine fn_enter tabOK mixes Tryz.func147 rfl rfl _ Tryz.ntmps147 _ Tryz.results147 (by simp) fun hwf => ?_
    try simp (maxSteps := 9999999) only [go_sem]
    refine CallW.mk (hm) ?_
    try simp (maxSteps := 9999999) only [go_sem]
    all_goals first | kernel_rfl | omega | rfl
  · refine fn_enter tabOK mixes Tryz.func147 rfl rfl _ Tryz.ntmps147 _ Tryz.results147 (by simp) fun hwf => ?_
    have hI : I64 n := hwf ⟨.int, n⟩ (by simp)
    have hI1 := hI.1
    have hI2 := hI.2
    try simp (maxSteps := 9999999) only [go_sem]
    refine CondW_dec (fun h => absurd h h1) (fun _ => ?_)
    try simp (maxSteps := 9999999) only [go_sem]
    refine CondW_dec (fun hn => ?_) (fun hn => ?_)
    · have hm := l03Make_to (s := true) (n := (-n).toNat) (z := n) (by unfold sgn; simp; omega) (Nat.le_trans (natL_len3 (n := -n) (by omega)) (by decide))
      try simp (maxSteps := 9999999) only [go_sem]
      repeat refine And.intro (by first|omega|(constructor<;>omega)|kernel_rfl) ?_
      refine CallW.mk (specNatOf_fn (-n)) ?_
      try simp (maxSteps := 9999999) only [go_sem]
      refine CallW.mk (hm) ?_
      try simp (maxSteps := 9999999) only [go_sem]
      all_goals first | kernel_rfl | omega | rfl
    · have hm := l03Make_to (s := false) (n := n.toNat) (z := n) (by unfold sgn; simp; omega) (Nat.le_trans (natL_len3 (n := n) (by omega)) (by decide))
      try simp (maxSteps := 9999999) only [go_sem]
      refine CallW.mk (specNatOf_fn n) ?_
      try simp (maxSteps := 9999999) only [go_sem]
      refine CallW.mk (hm) ?_
      try simp (maxSteps := 9999999) only [go_sem]
      all_goals first | kernel_rfl | omega | rfl
def ratI (n : Int) : DR := (bigD n, [1])
theorem ratI_eq (n : Int) : ratI n = ratD (n : Rat) := by
  rw [ratI, ratD, Rat.num_intCast, Rat.den_intCast, natL_1]
attribute [go_sem] ratI
theorem ratInt_fn (n : Int) : Fn Tryz.prog 152 [⟨.int, n⟩] true [⟨tRat, ratI n⟩] := by
  refine fn_enter tabOK mixes Tryz.func152 rfl rfl _ Tryz.ntmps152 _ Tryz.results152 (by simp) fun hwf => ?_
  try simp (maxSteps := 9999999) only [go_sem]
  refine CallW.mk (bigOf_fn n) ?_
  try simp (maxSteps := 9999999) only [go_sem]
  all_goals first | kernel_rfl | omega | rfl
theorem RatFromInt_fn (n : Int) : Fn Tryz.prog 104 [⟨.int, n⟩] true [⟨tRat, ratI n⟩] := by
  refine fn_enter tabOK mixes Tryz.func104 rfl rfl _ Tryz.ntmps104 _ Tryz.results104 (by simp) fun hwf => ?_
  try simp (maxSteps := 9999999) only [go_sem]
  refine CallW.mk (BigIntOf_fn n) ?_
  try simp (maxSteps := 9999999) only [go_sem]
  all_goals first | kernel_rfl | omega | rfl
end Go.Proofs.YtghckbohaghgkaaGreat.DW

/-
  Limits of speed: both functions.
-/
namespace Go.Proofs.YtghckbohaghgkaaGreat.DW
open Go.RowKit
end Go.Proofs.YtghckbohaghgkaaGreat.DW

/-
  Bounds of what numbers take.
-/
namespace Go.Proofs.YtghckbohaghgkaaGreat.DW
open Go.RowKit
theorem okR_len {r : DR} (h : okR r = true) : r.1.2.length ≤ 24 ∧ r.2.length ≤ 24 := by
  obtain ⟨p, hp, rfl, _⟩ := okR_t h
  exact hp
end Go.Proofs.YtghckbohaghgkaaGreat.DW

/-
  The length of a motion.
-/
namespace Go.Proofs.YtghckbohaghgkaaGreat.DW
open Go.RowKit
theorem addO_none_l (y : Option Rat) : addO none y = none := rfl
theorem addO_none_r (x : Option Rat) : addO x none = none := by cases x <;> rfl
theorem specRatAdd_fn (r s : DR) : Fn Tryz.prog 184 [⟨tRat, r⟩, ⟨tRat, s⟩] true [⟨tRat, oD (addO (rdO r) (rdO s))⟩] := by
  cases hr : okR r
  · rw [okR_f hr, addO_none_l]
    refine fn_enter tabOK mixes Tryz.func184 rfl rfl _ Tryz.ntmps184 _ Tryz.results184 (by simp) fun hwf => ?_
    try simp (maxSteps := 9999999) only [go_sem]
    refine CallW.mk (specRatOk_fn r) ?_
    try simp (maxSteps := 9999999) only [go_sem]
    try simp (maxSteps := 9999999) only [go_sem, hr]
  · cases hs : okR s
    · rw [okR_f hs, addO_none_r]
      refine fn_enter tabOK mixes Tryz.func184 rfl rfl _ Tryz.ntmps184 _ Tryz.results184 (by simp) fun hwf => ?_
      try simp (maxSteps := 9999999) only [go_sem]
      refine CallW.mk (specRatOk_fn r) ?_
      try simp (maxSteps := 9999999) only [go_sem]
      try simp (maxSteps := 9999999) only [go_sem, hr]
      refine CallW.mk (specRatOk_fn s) ?_
      try simp (maxSteps := 9999999) only [go_sem]
      try simp (maxSteps := 9999999) only [go_sem, hs]
    · obtain ⟨p, hp, rfl, e1⟩ := okR_t hr
      obtain ⟨q, hq, rfl, e2⟩ := okR_t hs
      rw [e1, e2]
      have hr' : okR ((decide (p.num < 0), natL p.num.natAbs), natL p.den) = true := hr
      have hs' : okR ((decide (q.num < 0), natL q.num.natAbs), natL q.den) = true := hs
      have e : addO (some p) (some q) = capR (p + q) := rfl
      rw [e]
      refine fn_enter tabOK mixes Tryz.func184 rfl rfl _ Tryz.ntmps184 _ Tryz.results184 (by simp) fun hwf => ?_
      try simp (maxSteps := 9999999) only [go_sem]
      refine CallW.mk (specRatOk_fn (ratD p)) ?_
      try simp (maxSteps := 9999999) only [go_sem]
      try simp (maxSteps := 9999999) only [go_sem, hr']
      refine CallW.mk (specRatOk_fn (ratD q)) ?_
      try simp (maxSteps := 9999999) only [go_sem]
      try simp (maxSteps := 9999999) only [go_sem, hs']
      refine CallW.mk (l04Add_fn p q hp hq) ?_
      try simp (maxSteps := 9999999) only [go_sem]
      all_goals first | kernel_rfl | omega | rfl
end Go.Proofs.YtghckbohaghgkaaGreat.DW

/-
  The greatest one of fractions.
-/
namespace Go.Proofs.YtghckbohaghgkaaGreat.DW
open Go.RowKit
theorem cmpQ_self (p : Rat) : cmpQ p p = 0 := by
  rw [cmpQ_eq]; unfold cmpZ; rw [if_neg (Int.lt_irrefl _), if_neg (Int.lt_irrefl _)]
end Go.Proofs.YtghckbohaghgkaaGreat.DW

/-
  Fractions: products, the smaller one, lists in new memory.
-/
namespace Go.Proofs.YtghckbohaghgkaaGreat.DW
open Go.RowKit
theorem mulO_none_l (y : Option Rat) : mulO none y = none := rfl
theorem mulO_none_r (x : Option Rat) : mulO x none = none := by cases x <;> rfl
theorem ratMul_fn (x y : Option Rat) (hx : okO x) (hy : okO y) : Fn Tryz.prog 213 [⟨tRat, oD x⟩, ⟨tRat, oD y⟩] true [⟨tRat, oD (mulO x y)⟩] := by
  cases x with
  | none =>
    refine fn_enter tabOK mixes Tryz.func213 rfl rfl _ Tryz.ntmps213 _ Tryz.results213 (by simp) fun hwf => ?_
    try simp (maxSteps := 9999999) only [go_sem]
    refine CallW.mk (isGood_n) ?_
    try simp (maxSteps := 9999999) only [go_sem]
    try simp (maxSteps := 9999999) only [go_sem, mulO]
  | some p =>
    cases y with
    | none =>
      refine fn_enter tabOK mixes Tryz.func213 rfl rfl _ Tryz.ntmps213 _ Tryz.results213 (by simp) fun hwf => ?_
      try simp (maxSteps := 9999999) only [go_sem]
      refine CallW.mk (isGood_s p) ?_
      try simp (maxSteps := 9999999) only [go_sem]
      refine CallW.mk (isGood_n) ?_
      try simp (maxSteps := 9999999) only [go_sem]
      try simp (maxSteps := 9999999) only [go_sem, mulO]
    | some q =>
      obtain ⟨p1, p2⟩ := hx p rfl
      obtain ⟨q1, q2⟩ := hy q rfl
      have b1 := nl_mulI p.num q.num
      have b4 := nl_mul p.den q.den
      have hm := ratMake_end (p.num * q.num) (p.den * q.den) (den_mul_ne p q) (by omega) (by omega)
      rw [← mul_mk] at hm
      have e : mulO (some p) (some q) = capR (p * q) := rfl
      rw [e]
      refine fn_enter tabOK mixes Tryz.func213 rfl rfl _ Tryz.ntmps213 _ Tryz.results213 (by simp) fun hwf => ?_
      try simp (maxSteps := 9999999) only [go_sem]
      refine CallW.mk (isGood_s p) ?_
      try simp (maxSteps := 9999999) only [go_sem]
      refine CallW.mk (isGood_s q) ?_
      try simp (maxSteps := 9999999) only [go_sem]
      refine CallW.mk (bigMul_fn p.num q.num (by omega) (by omega)) ?_
      try simp (maxSteps := 9999999) only [go_sem]
      refine CallW.mk (natMul_fn p.den q.den (by omega) (by omega)) ?_
      try simp (maxSteps := 9999999) only [go_sem]
      refine CallW.mk (hm) ?_
      try simp (maxSteps := 9999999) only [go_sem]
      all_goals first | kernel_rfl | omega | rfl
theorem sgn_mulZ (x y : Int) : sgn (!decide (decide (x < 0) = decide (y < 0))) (x.natAbs * y.natAbs) = x * y := by
  unfold sgn
  rw [Int.natCast_mul]
  by_cases h1 : x < 0
  · by_cases h2 : y < 0
    · simp only [h1, h2, decide_true, Bool.not_true, Bool.false_eq_true, if_false]
      rw [show (x.natAbs : Int) = -x by omega, show (y.natAbs : Int) = -y by omega, Int.neg_mul_neg]
    · simp only [h1, h2, decide_true, decide_false, Bool.true_eq_false, Bool.not_false, if_true]
      rw [show (x.natAbs : Int) = -x by omega, show (y.natAbs : Int) = y by omega, Int.neg_mul, Int.neg_neg]
  · by_cases h2 : y < 0
    · simp only [h1, h2, decide_true, decide_false, Bool.false_eq_true, Bool.not_false, if_true]
      rw [show (x.natAbs : Int) = x by omega, show (y.natAbs : Int) = -y by omega, Int.mul_neg, Int.neg_neg]
    · simp only [h1, h2, decide_false, decide_true, Bool.not_true, Bool.false_eq_true, if_false]
      rw [show (x.natAbs : Int) = x by omega, show (y.natAbs : Int) = y by omega]
theorem l04Mul_fn (p q : Rat) (hp : small p) (hq : small q) : Fn Tryz.prog 160 [⟨tRat, ratD p⟩, ⟨tRat, ratD q⟩] true [⟨tRat, oD (capR (p * q))⟩] := by
  obtain ⟨p1, p2⟩ := hp
  obtain ⟨q1, q2⟩ := hq
  have b1 := nl_mul p.num.natAbs q.num.natAbs
  have b4 := nl_mul p.den q.den
  have hl := l04Low_fn (!decide (decide (p.num < 0) = decide (q.num < 0))) (p.num.natAbs * q.num.natAbs) (p.den * q.den) (den_mul_ne p q) (by omega) (by omega)
  rw [sgn_mulZ, ← mul_mk] at hl
  refine fn_enter tabOK mixes Tryz.func160 rfl rfl _ Tryz.ntmps160 _ Tryz.results160 (by simp) fun hwf => ?_
  try simp (maxSteps := 9999999) only [go_sem]
  refine CallW.mk (l02Mul_fn p.num.natAbs q.num.natAbs (by omega) (by omega)) ?_
  try simp (maxSteps := 9999999) only [go_sem]
  refine CallW.mk (l02Mul_fn p.den q.den (by omega) (by omega)) ?_
  try simp (maxSteps := 9999999) only [go_sem]
  refine CallW.mk (hl) ?_
  try simp (maxSteps := 9999999) only [go_sem]
  all_goals repeat refine And.intro (by first|omega|(constructor<;>omega)|kernel_rfl) ?_
  all_goals first | kernel_rfl | omega | rfl
theorem specRatMul_fn (r s : DR) : Fn Tryz.prog 116 [⟨tRat, r⟩, ⟨tRat, s⟩] true [⟨tRat, oD (mulO (rdO r) (rdO s))⟩] := by
  cases hr : okR r
  · rw [okR_f hr, mulO_none_l]
    refine fn_enter tabOK mixes Tryz.func116 rfl rfl _ Tryz.ntmps116 _ Tryz.results116 (by simp) fun hwf => ?_
    try simp (maxSteps := 9999999) only [go_sem]
    refine CallW.mk (specRatOk_fn r) ?_
    try simp (maxSteps := 9999999) only [go_sem]
    try simp (maxSteps := 9999999) only [go_sem, hr]
  · cases hs : okR s
    · rw [okR_f hs, mulO_none_r]
      refine fn_enter tabOK mixes Tryz.func116 rfl rfl _ Tryz.ntmps116 _ Tryz.results116 (by simp) fun hwf => ?_
      try simp (maxSteps := 9999999) only [go_sem]
      refine CallW.mk (specRatOk_fn r) ?_
      try simp (maxSteps := 9999999) only [go_sem]
      try simp (maxSteps := 9999999) only [go_sem, hr]
      refine CallW.mk (specRatOk_fn s) ?_
      try simp (maxSteps := 9999999) only [go_sem]
      try simp (maxSteps := 9999999) only [go_sem, hs]
    · obtain ⟨p, hp, rfl, e1⟩ := okR_t hr
      obtain ⟨q, hq, rfl, e2⟩ := okR_t hs
      rw [e1, e2]
      have hr' : okR ((decide (p.num < 0), natL p.num.natAbs), natL p.den) = true := hr
      have hs' : okR ((decide (q.num < 0), natL q.num.natAbs), natL q.den) = true := hs
      have e : mulO (some p) (some q) = capR (p * q) := rfl
      rw [e]
      refine fn_enter tabOK mixes Tryz.func116 rfl rfl _ Tryz.ntmps116 _ Tryz.results116 (by simp) fun hwf => ?_
      try simp (maxSteps := 9999999) only [go_sem]
      refine CallW.mk (specRatOk_fn (ratD p)) ?_
      try simp (maxSteps := 9999999) only [go_sem]
      try simp (maxSteps := 9999999) only [go_sem, hr']
      refine CallW.mk (specRatOk_fn (ratD q)) ?_
      try simp (maxSteps := 9999999) only [go_sem]
      try simp (maxSteps := 9999999) only [go_sem, hs']
      refine CallW.mk (l04Mul_fn p q hp hq) ?_
      try simp (maxSteps := 9999999) only [go_sem]
      all_goals first | kernel_rfl | omega | rfl
theorem ratMin_fn (x y : Option Rat) (hx : okO x) (hy : okO y) : Fn Tryz.prog 194 [⟨tRat, oD x⟩, ⟨tRat, oD y⟩] false [⟨tRat, oD (minO x y)⟩] := by
  cases x with
  | none =>
    refine fn_enter tabOK mixes Tryz.func194 rfl rfl _ Tryz.ntmps194 _ Tryz.results194 (by simp) fun hwf => ?_
    try simp (maxSteps := 9999999) only [go_sem]
    refine CallW.mk (isGood_n) ?_
    try simp (maxSteps := 9999999) only [go_sem]
    try simp (maxSteps := 9999999) only [go_sem, minO]
  | some p =>
    cases y with
    | none =>
      refine fn_enter tabOK mixes Tryz.func194 rfl rfl _ Tryz.ntmps194 _ Tryz.results194 (by simp) fun hwf => ?_
      try simp (maxSteps := 9999999) only [go_sem]
      refine CallW.mk (isGood_s p) ?_
      try simp (maxSteps := 9999999) only [go_sem]
      refine CallW.mk (isGood_n) ?_
      try simp (maxSteps := 9999999) only [go_sem]
      try simp (maxSteps := 9999999) only [go_sem, minO]
    | some q =>
      have hc := ratCmp_fn (some p) (some q) hx hy
      have e : cmpO (some p) (some q) = cmpQ p q := rfl
      rw [e] at hc
      by_cases h : cmpQ p q ≤ 0
      · have e2 : minO (some p) (some q) = some p := if_pos h
        rw [e2]
        refine fn_enter tabOK mixes Tryz.func194 rfl rfl _ Tryz.ntmps194 _ Tryz.results194 (by simp) fun hwf => ?_
        try simp (maxSteps := 9999999) only [go_sem]
        refine CallW.mk (isGood_s p) ?_
        try simp (maxSteps := 9999999) only [go_sem]
        refine CallW.mk (isGood_s q) ?_
        try simp (maxSteps := 9999999) only [go_sem]
        refine CallW.mk (hc) ?_
        try simp (maxSteps := 9999999) only [go_sem]
        try simp (maxSteps := 9999999) only [go_sem, h]
      · have e2 : minO (some p) (some q) = some q := if_neg h
        rw [e2]
        refine fn_enter tabOK mixes Tryz.func194 rfl rfl _ Tryz.ntmps194 _ Tryz.results194 (by simp) fun hwf => ?_
        try simp (maxSteps := 9999999) only [go_sem]
        refine CallW.mk (isGood_s p) ?_
        try simp (maxSteps := 9999999) only [go_sem]
        refine CallW.mk (isGood_s q) ?_
        try simp (maxSteps := 9999999) only [go_sem]
        refine CallW.mk (hc) ?_
        try simp (maxSteps := 9999999) only [go_sem]
        try simp (maxSteps := 9999999) only [go_sem, h]
theorem specRatMin_fn (r s : DR) : Fn Tryz.prog 141 [⟨tRat, r⟩, ⟨tRat, s⟩] true [⟨tRat, oD (minO (rdO r) (rdO s))⟩] := by
  cases hr : okR r
  · rw [okR_f hr]
    have e : minO none (rdO s) = none := rfl
    rw [e]
    refine fn_enter tabOK mixes Tryz.func141 rfl rfl _ Tryz.ntmps141 _ Tryz.results141 (by simp) fun hwf => ?_
    try simp (maxSteps := 9999999) only [go_sem]
    refine CallW.mk (specRatOk_fn r) ?_
    try simp (maxSteps := 9999999) only [go_sem]
    try simp (maxSteps := 9999999) only [go_sem, hr]
  · cases hs : okR s
    · rw [okR_f hs]
      have e : minO (rdO r) none = none := by unfold minO; cases rdO r <;> rfl
      rw [e]
      refine fn_enter tabOK mixes Tryz.func141 rfl rfl _ Tryz.ntmps141 _ Tryz.results141 (by simp) fun hwf => ?_
      try simp (maxSteps := 9999999) only [go_sem]
      refine CallW.mk (specRatOk_fn r) ?_
      try simp (maxSteps := 9999999) only [go_sem]
      try simp (maxSteps := 9999999) only [go_sem, hr]
      refine CallW.mk (specRatOk_fn s) ?_
      try simp (maxSteps := 9999999) only [go_sem]
      try simp (maxSteps := 9999999) only [go_sem, hs]
    · obtain ⟨p, hp, rfl, e1⟩ := okR_t hr
      obtain ⟨q, hq, rfl, e2⟩ := okR_t hs
      rw [e1, e2]
      have hr' : okR ((decide (p.num < 0), natL p.num.natAbs), natL p.den) = true := hr
      have hs' : okR ((decide (q.num < 0), natL q.num.natAbs), natL q.den) = true := hs
      by_cases h : cmpQ p q ≤ 0
      · have e3 : minO (some p) (some q) = some p := if_pos h
        rw [e3]
        refine fn_enter tabOK mixes Tryz.func141 rfl rfl _ Tryz.ntmps141 _ Tryz.results141 (by simp) fun hwf => ?_
        try simp (maxSteps := 9999999) only [go_sem]
        refine CallW.mk (specRatOk_fn (ratD p)) ?_
        try simp (maxSteps := 9999999) only [go_sem]
        try simp (maxSteps := 9999999) only [go_sem, hr']
        refine CallW.mk (specRatOk_fn (ratD q)) ?_
        try simp (maxSteps := 9999999) only [go_sem]
        try simp (maxSteps := 9999999) only [go_sem, hs']
        refine CallW.mk (l04Cmp_fn p q hp hq) ?_
        try simp (maxSteps := 9999999) only [go_sem]
        try simp (maxSteps := 9999999) only [go_sem, h]
        refine CallW.mk (copyD_fn p hp) ?_
        try simp (maxSteps := 9999999) only [go_sem]
      · have e3 : minO (some p) (some q) = some q := if_neg h
        rw [e3]
        refine fn_enter tabOK mixes Tryz.func141 rfl rfl _ Tryz.ntmps141 _ Tryz.results141 (by simp) fun hwf => ?_
        try simp (maxSteps := 9999999) only [go_sem]
        refine CallW.mk (specRatOk_fn (ratD p)) ?_
        try simp (maxSteps := 9999999) only [go_sem]
        try simp (maxSteps := 9999999) only [go_sem, hr']
        refine CallW.mk (specRatOk_fn (ratD q)) ?_
        try simp (maxSteps := 9999999) only [go_sem]
        try simp (maxSteps := 9999999) only [go_sem, hs']
        refine CallW.mk (l04Cmp_fn p q hp hq) ?_
        try simp (maxSteps := 9999999) only [go_sem]
        try simp (maxSteps := 9999999) only [go_sem, h]
        refine CallW.mk (copyD_fn q hq) ?_
        try simp (maxSteps := 9999999) only [go_sem]
end Go.Proofs.YtghckbohaghgkaaGreat.DW

/-
  Slices of integers that are built by append: one by one, or a whole slice at once. No program here.
-/
namespace Go.Proofs.YtghckbohaghgkaaGreat
open Go.RowKit

section
variable {o : Bool} {base : Nat} {w w' : World} {e : TypeId} {v : Value} {l : List Int}
theorem GrowInt.row (h : Grow Rp.int o base w e v l) : w.ownsRow base e 1 v l.length (l.map (Value.int .i64)) ∧ ∀ x ∈ l, I64 x := by
  obtain ⟨xs, fps, ho, hl, he, _, _⟩ := h
  have hxl : xs.length = l.length := by have := ho.1; simpa [Rp.int] using this
  have hall : ∀ (i : Nat) (x : Int), l[i]? = some x → xs[i]? = some (Value.int .i64 x) ∧ I64 x := by
    intro i x hx
    obtain ⟨f, cs, _, hr, hc⟩ := he i x hx
    obtain ⟨rfl, _, hI⟩ := hr
    exact ⟨by simpa [Rp.int] using hc 0 _ rfl, hI⟩
  have hxs : xs = l.map (Value.int .i64) := by
    apply List.ext_getElem?
    intro i
    rw [List.getElem?_map]
    rcases Nat.lt_or_ge i l.length with hi | hi
    · have := (hall i l[i] (List.getElem?_eq_getElem hi)).1
      rw [this, List.getElem?_eq_getElem hi]; rfl
    · rw [List.getElem?_eq_none (by omega), List.getElem?_eq_none hi]; rfl
  refine ⟨hxs ▸ ho, fun x hx => ?_⟩
  obtain ⟨i, hi, rfl⟩ := List.getElem_of_mem hx
  exact (hall i _ (List.getElem?_eq_getElem hi)).2
theorem flatten_nils (n : Nat) : (List.replicate n ([] : List Nat)).flatten = [] := by
  induction n with
  | zero => rfl
  | succ n ih => simp
theorem GrowInt.of (h : w.ownsRow base e 1 v l.length (l.map (Value.int .i64))) (hI : ∀ x ∈ l, I64 x) : Grow Rp.int o base w e v l := by
  refine ⟨l.map (Value.int .i64), List.replicate l.length [], h, by simp, fun i x hx => ?_, fun b hb => ?_, fun _ => ⟨?_, fun b hb => ?_⟩⟩
  · have hi := (List.getElem?_eq_some_iff.1 hx).1
    refine ⟨[], [.int .i64 x], by simp [hi], ⟨rfl, rfl, hI x (List.mem_of_getElem? hx)⟩, fun j c hc => ?_⟩
    cases j with
    | zero => simp at hc; subst hc; simp [Rp.int, hx]
    | succ j => simp at hc
  · rw [flatten_nils] at hb; cases hb
  · rw [flatten_nils]; exact List.nodup_nil
  · rw [flatten_nils] at hb; cases hb
end

section
variable {P : Program} (w : World)
end

theorem GrowInt.keep {o : Bool} {base : Nat} {w w' : World} {e : TypeId} {v : Value} {l : List Int} (h : Grow Rp.int o base w e v l) {row : Option Nat} (hgr : w.grownBy w' row) (hne : ∀ k, v.ownBlock = some k → some k ≠ row) : Grow Rp.int o base w' e v l := by
  obtain ⟨h1, h2⟩ := GrowInt.row h
  refine GrowInt.of (h1.kept hgr ?_) h2
  cases hv : v.ownBlock with
  | none => exact .inl rfl
  | some k => exact .inr (hne k hv)

end Go.Proofs.YtghckbohaghgkaaGreat

/-
  Copies in memory of the call's own: numbers' limbs, fractions, points, motions.
-/
namespace Go.Proofs.YtghckbohaghgkaaGreat
open Go.RowKit
end Go.Proofs.YtghckbohaghgkaaGreat

/-
  The reference's copies of fractions and points.
-/
namespace Go.Proofs.YtghckbohaghgkaaGreat
open Go.RowKit

/-- The value's memory lies from block 'base' on. -/
def New {α : Type} (A : Rp α) (base : Nat) (w : World) (cs : List Value) (a : α) : Prop := ∃ fp, A.rep w cs a fp ∧ ∀ b ∈ fp, base ≤ b
theorem Own.new {α : Type} {A : Rp α} {base : Nat} {w : World} {cs : List Value} {a : α} (h : Own A base w cs a) : New A base w cs a := let ⟨fp, hr, _, ho⟩ := h; ⟨fp, hr, fun b hb => (ho b hb).1⟩
theorem New.has {α : Type} {A : Rp α} {base : Nat} {w : World} {cs : List Value} {a : α} (h : New A base w cs a) : Has A w cs a := let ⟨fp, hr, _⟩ := h; ⟨fp, hr⟩
theorem New.below {α : Type} {A : Rp α} {base : Nat} {w w' : World} {cs : List Value} {a : α} (h : New A base w cs a) (hb : Below w.heap.size w w') : New A base w' cs a :=
  let ⟨fp, hr, ho⟩ := h; ⟨fp, A.frame hr fun b hb' => hb.block b (A.lt hr b hb'), ho⟩
theorem New.mono {α : Type} {A : Rp α} {base base' : Nat} {w : World} {cs : List Value} {a : α} (h : New A base w cs a) (hb : base' ≤ base) : New A base' w cs a := let ⟨fp, hr, ho⟩ := h; ⟨fp, hr, fun b hb' => Nat.le_trans hb (ho b hb')⟩
theorem New.frame {α : Type} {A : Rp α} {base : Nat} {w w' : World} {cs : List Value} {a : α} (h : New A base w cs a) (hf : ∀ b, base ≤ b → b < w.heap.size → w'.heap[b]? = w.heap[b]?) : New A base w' cs a :=
  let ⟨fp, hr, ho⟩ := h; ⟨fp, A.frame hr fun b hb' => hf b (ho b hb') (A.lt hr b hb'), ho⟩
theorem New.setCell {α : Type} {A : Rp α} {base : Nat} {w : World} {cs : List Value} {a : α} (h : New A base w cs a) {p : Addr} (hp : p.block < base) (v : Value) : New A base (w.setCell p v) cs a :=
  h.frame fun b h1 _ => Below.heap_setCell _ _ _ _ (by omega)
theorem New.pair {α β : Type} {A : Rp α} {B : Rp β} {base : Nat} {w : World} {a : α} {b : β} {cs1 cs2 : List Value} (h1 : New A base w cs1 a) (h2 : New B base w cs2 b) : New (Rp.prod A B) base w (cs1 ++ cs2) (a, b) :=
  let ⟨f1, r1, o1⟩ := h1; let ⟨f2, r2, o2⟩ := h2; ⟨f1 ++ f2, rep_pair r1 r2, fun b hb => (List.mem_append.1 hb).elim (o1 b) (o2 b)⟩
theorem New.bool (base : Nat) (w : World) (b : Bool) : New Rp.bool base w [.bool b] b := ⟨[], ⟨rfl, rfl⟩, fun _ h => by cases h⟩
theorem New.int (base : Nat) (w : World) {n : Int} (h : I64 n) : New Rp.int base w [.int .i64 n] n := ⟨[], ⟨rfl, rfl, h⟩, fun _ h => by cases h⟩
theorem Has.pair {α β : Type} {A : Rp α} {B : Rp β} {w : World} {a : α} {b : β} {cs1 cs2 : List Value} (h1 : Has A w cs1 a) (h2 : Has B w cs2 b) : Has (Rp.prod A B) w (cs1 ++ cs2) (a, b) := let ⟨f1, r1⟩ := h1; let ⟨f2, r2⟩ := h2; ⟨f1 ++ f2, rep_pair r1 r2⟩
theorem Has.ofInt (w : World) {n : Int} (h : I64 n) : Has Rp.int w [.int .i64 n] n := ⟨[], rfl, rfl, h⟩
end Go.Proofs.YtghckbohaghgkaaGreat

/-
  A point that was computed, or none. Printed by a program.
-/
namespace Go.Proofs.YtghckbohaghgkaaGreat
open Go.RowKit DW
set_option maxRecDepth 100000 in
set_option maxHeartbeats 2000000 in
theorem pointOr_any (c0 c1 c2 c3 c4 c5 : Value) (x : DPoint) (w : World) (hx : Has RPoint w [c0, c1, c2, c3, c4, c5] x) (hg : DW.Fn Tryz.prog 174 [⟨DW.tPoint, x⟩] false [⟨.bool, true⟩]) :
    Calls Tryz.prog 128 #[.agg #[c0, c1, c2, c3, c4, c5]] w (Post fun v w' => v = .agg #[c0, c1, c2, c3, c4, c5] ∧ Below w.heap.size w w') := by
  have HX := Lib.hid hx
  have ho0 := hx.one 0 c0 rfl
  have ho1 := hx.one 1 c1 rfl
  have ho2 := hx.one 2 c2 rfl
  have ho3 := hx.one 3 c3 rfl
  have ho4 := hx.one 4 c4 rfl
  have ho5 := hx.one 5 c5 rfl
  have HG := Lib.hid hg
  clear hx hg
  go_enter Tryz.func128, Tryz.ntmps128
  go_wp2_with fail
  have hp1 := ((Below.refl w.heap.size w).alloc (Nat.le_refl _) (Obj.cells #[c0, c1, c2, c3, c4, c5] 42)).alloc (by simp <;> omega) (Obj.cells #[.bool false, .slice none 0 0, .slice none 0 0, .bool false, .slice none 0 0, .slice none 0 0] 42)
  refine (HG.out.bool (vs := [.agg #[c0, c1, c2, c3, c4, c5]]) ⟨Arg.agg (t := DW.tPoint) (cs := [c0, c1, c2, c3, c4, c5]) rfl (HX.out.below hp1), trivial⟩).mono ?_
  rintro e w1 ⟨v, rfl, rfl, hc1⟩
  have hb1 := Below.up hp1 hc1 (by simp <;> omega)
  have hlt1 : w.heap.size + 1 < w1.heap.size := Nat.lt_of_lt_of_le (by simp <;> omega) hc1.size
  obtain ⟨hcr1, hfr1⟩ := bcell hc1
  go_wp2
  refine bodyPost_ret (v := .agg #[c0, c1, c2, c3, c4, c5]) (by simp [results, go_sem, hlt1, hcr1]) rfl ⟨_, rfl, rfl, ?_⟩
  exact ((((((hb1).setCell (p := ⟨w.heap.size + 1, 0, none⟩) (by simp) c0).setCell (p := ⟨w.heap.size + 1, 1, none⟩) (by simp) c1).setCell (p := ⟨w.heap.size + 1, 2, none⟩) (by simp) c2).setCell (p := ⟨w.heap.size + 1, 3, none⟩) (by simp) c3).setCell (p := ⟨w.heap.size + 1, 4, none⟩) (by simp) c4).setCell (p := ⟨w.heap.size + 1, 5, none⟩) (by simp) c5
set_option maxRecDepth 100000 in
set_option maxHeartbeats 2000000 in
theorem l05Valid_any (c0 c1 c2 c3 c4 c5 : Value) (x : DPoint) (w : World) (hx : Has RPoint w [c0, c1, c2, c3, c4, c5] x) (hg : DW.Fn Tryz.prog 75 [⟨DW.tPoint, x⟩] false [⟨.bool, true⟩]) :
    Calls Tryz.prog 78 #[.agg #[c0, c1, c2, c3, c4, c5]] w (Post fun v w' => v = .agg #[c0, c1, c2, c3, c4, c5] ∧ Below w.heap.size w w') := by
  have HX := Lib.hid hx
  have ho0 := hx.one 0 c0 rfl
  have ho1 := hx.one 1 c1 rfl
  have ho2 := hx.one 2 c2 rfl
  have ho3 := hx.one 3 c3 rfl
  have ho4 := hx.one 4 c4 rfl
  have ho5 := hx.one 5 c5 rfl
  have HG := Lib.hid hg
  clear hx hg
  go_enter Tryz.func78, Tryz.ntmps78
  go_wp2_with fail
  have hp1 := ((Below.refl w.heap.size w).alloc (Nat.le_refl _) (Obj.cells #[c0, c1, c2, c3, c4, c5] 42)).alloc (by simp <;> omega) (Obj.cells #[.bool false, .slice none 0 0, .slice none 0 0, .bool false, .slice none 0 0, .slice none 0 0] 42)
  refine (HG.out.bool (vs := [.agg #[c0, c1, c2, c3, c4, c5]]) ⟨Arg.agg (t := DW.tPoint) (cs := [c0, c1, c2, c3, c4, c5]) rfl (HX.out.below hp1), trivial⟩).mono ?_
  rintro e w1 ⟨v, rfl, rfl, hc1⟩
  have hb1 := Below.up hp1 hc1 (by simp <;> omega)
  have hlt1 : w.heap.size + 1 < w1.heap.size := Nat.lt_of_lt_of_le (by simp <;> omega) hc1.size
  obtain ⟨hcr1, hfr1⟩ := bcell hc1
  go_wp2
  refine bodyPost_ret (v := .agg #[c0, c1, c2, c3, c4, c5]) (by simp [results, go_sem, hlt1, hcr1]) rfl ⟨_, rfl, rfl, ?_⟩
  exact ((((((hb1).setCell (p := ⟨w.heap.size + 1, 0, none⟩) (by simp) c0).setCell (p := ⟨w.heap.size + 1, 1, none⟩) (by simp) c1).setCell (p := ⟨w.heap.size + 1, 2, none⟩) (by simp) c2).setCell (p := ⟨w.heap.size + 1, 3, none⟩) (by simp) c3).setCell (p := ⟨w.heap.size + 1, 4, none⟩) (by simp) c4).setCell (p := ⟨w.heap.size + 1, 5, none⟩) (by simp) c5
end Go.Proofs.YtghckbohaghgkaaGreat

/-
  Differences of points.
-/
namespace Go.Proofs.YtghckbohaghgkaaGreat.DW
open Go.RowKit
abbrev ptZ : DP := (rZ, rZ)
/-- A point of two numbers, if both are there. -/
def ptO (x y : Option Rat) : DP := if x.isSome && y.isSome then (oD x, oD y) else ptZ
theorem isGoodPoint_fn (x y : Option Rat) : Fn Tryz.prog 174 [⟨tPoint, (oD x, oD y)⟩] false [⟨.bool, x.isSome && y.isSome⟩] := by
  cases hx : x.isSome
  · refine fn_enter tabOK mixes Tryz.func174 rfl rfl _ Tryz.ntmps174 _ Tryz.results174 (by simp) fun hwf => ?_
    try simp (maxSteps := 9999999) only [go_sem]
    refine CallW.mk (isGood_fn x) ?_
    try simp (maxSteps := 9999999) only [go_sem]
    try simp (maxSteps := 9999999) only [go_sem, hx]
  · refine fn_enter tabOK mixes Tryz.func174 rfl rfl _ Tryz.ntmps174 _ Tryz.results174 (by simp) fun hwf => ?_
    try simp (maxSteps := 9999999) only [go_sem]
    refine CallW.mk (isGood_fn x) ?_
    try simp (maxSteps := 9999999) only [go_sem]
    try simp (maxSteps := 9999999) only [go_sem, hx]
    refine CallW.mk (isGood_fn y) ?_
    try simp (maxSteps := 9999999) only [go_sem]
theorem pointOr_no (x y : Option Rat) (h : (x.isSome && y.isSome) = false) : Fn Tryz.prog 128 [⟨tPoint, (oD x, oD y)⟩] true [⟨tPoint, ptZ⟩] := by
  have h1 := isGoodPoint_fn x y
  rw [h] at h1
  refine fn_enter tabOK mixes Tryz.func128 rfl rfl _ Tryz.ntmps128 _ Tryz.results128 (by simp) fun hwf => ?_
  try simp (maxSteps := 9999999) only [go_sem]
  refine CallW.mk (h1) ?_
  try simp (maxSteps := 9999999) only [go_sem]
  all_goals first | kernel_rfl | omega | rfl
theorem pointOr_yes (x y : Option Rat) (h : (x.isSome && y.isSome) = true) : FnS Tryz.prog 128 [⟨tPoint, (oD x, oD y)⟩] 0 := by
  have h1 := isGoodPoint_fn x y
  rw [h] at h1
  refine FnS.of1 (enters Tryz.func128 rfl rfl) rfl fun w cs hc => ?_
  obtain ⟨c0, c1, c2, c3, c4, c5, rfl⟩ := list6 hc.len
  exact pointOr_any c0 c1 c2 c3 c4 c5 _ w hc h1
theorem l05Valid_no (p : DP) (h : okPt p = false) : Fn Tryz.prog 78 [⟨tPoint, p⟩] true [⟨tPoint, ptZ⟩] := by
  have h1 := specIsValidPoint_fn p
  rw [h] at h1
  refine fn_enter tabOK mixes Tryz.func78 rfl rfl _ Tryz.ntmps78 _ Tryz.results78 (by simp) fun hwf => ?_
  try simp (maxSteps := 9999999) only [go_sem]
  refine CallW.mk (h1) ?_
  try simp (maxSteps := 9999999) only [go_sem]
  all_goals first | kernel_rfl | omega | rfl
theorem l05Valid_yes (p : DP) (h : okPt p = true) : FnS Tryz.prog 78 [⟨tPoint, p⟩] 0 := by
  have h1 := specIsValidPoint_fn p
  rw [h] at h1
  refine FnS.of1 (enters Tryz.func78 rfl rfl) rfl fun w cs hc => ?_
  obtain ⟨c0, c1, c2, c3, c4, c5, rfl⟩ := list6 hc.len
  exact l05Valid_any c0 c1 c2 c3 c4 c5 _ w hc h1
theorem okPt_oD {x y : Option Rat} (hx : okO x) (hy : okO y) : okPt (oD x, oD y) = (x.isSome && y.isSome) := by
  unfold okPt okR
  rw [rdO_oD hx, rdO_oD hy]
theorem difference_fn (a b x y : Option Rat) (ha : okO a) (hb : okO b) (hx : okO x) (hy : okO y) : Fn Tryz.prog 87 [⟨tPoint, (oD a, oD b)⟩, ⟨tPoint, (oD x, oD y)⟩] true [⟨tPoint, ptO (subO a x) (subO b y)⟩] := by
  have c1 := ratSub_fn a x ha hx
  have c2 := ratSub_fn b y hb hy
  cases h : ((subO a x).isSome && (subO b y).isSome)
  · have c3 := pointOr_no _ _ h
    have e : ptO (subO a x) (subO b y) = ptZ := by unfold ptO; rw [h]; rfl
    rw [e]
    refine fn_enter tabOK mixes Tryz.func87 rfl rfl _ Tryz.ntmps87 _ Tryz.results87 (by simp) fun hwf => ?_
    try simp (maxSteps := 9999999) only [go_sem]
    refine CallW.mk (c1) ?_
    try simp (maxSteps := 9999999) only [go_sem]
    refine CallW.mk (c2) ?_
    try simp (maxSteps := 9999999) only [go_sem]
    refine CallW.mk (c3) ?_
    try simp (maxSteps := 9999999) only [go_sem]
    all_goals first | kernel_rfl | omega | rfl
  · have c3 := pointOr_yes _ _ h
    have e : ptO (subO a x) (subO b y) = (oD (subO a x), oD (subO b y)) := by unfold ptO; rw [h]; rfl
    rw [e]
    refine fn_enter tabOK mixes Tryz.func87 rfl rfl _ Tryz.ntmps87 _ Tryz.results87 (by simp) fun hwf => ?_
    try simp (maxSteps := 9999999) only [go_sem]
    refine CallW.mk (c1) ?_
    try simp (maxSteps := 9999999) only [go_sem]
    refine CallW.mk (c2) ?_
    try simp (maxSteps := 9999999) only [go_sem]
    refine CallW.s (c3) ?_
    try simp (maxSteps := 9999999) only [go_sem]
    all_goals first | kernel_rfl | omega | rfl
/-- The difference of two points. -/
noncomputable def subP (p q : DP) : DP := ptO (subO (rdO p.1) (rdO q.1)) (subO (rdO p.2) (rdO q.2))
theorem specSubtractPoints_fn (p q : DP) : Fn Tryz.prog 37 [⟨tPoint, p⟩, ⟨tPoint, q⟩] true [⟨tPoint, subP p q⟩] := by
  have c1 := specRatSub_fn p.1 q.1
  have c2 := specRatSub_fn p.2 q.2
  have hok := okPt_oD (okO_sub (rdO p.1) (rdO q.1)) (okO_sub (rdO p.2) (rdO q.2))
  cases h : ((subO (rdO p.1) (rdO q.1)).isSome && (subO (rdO p.2) (rdO q.2)).isSome)
  · have c3 := l05Valid_no _ (hok.trans h)
    have e : subP p q = ptZ := by unfold subP ptO; rw [h]; rfl
    rw [e]
    refine fn_enter tabOK mixes Tryz.func37 rfl rfl _ Tryz.ntmps37 _ Tryz.results37 (by simp) fun hwf => ?_
    try simp (maxSteps := 9999999) only [go_sem]
    refine CallW.mk (c1) ?_
    try simp (maxSteps := 9999999) only [go_sem]
    refine CallW.mk (c2) ?_
    try simp (maxSteps := 9999999) only [go_sem]
    refine CallW.mk (c3) ?_
    try simp (maxSteps := 9999999) only [go_sem]
    all_goals first | kernel_rfl | omega | rfl
  · have c3 := l05Valid_yes _ (hok.trans h)
    have e : subP p q = (oD (subO (rdO p.1) (rdO q.1)), oD (subO (rdO p.2) (rdO q.2))) := by unfold subP ptO; rw [h]; rfl
    rw [e]
    refine fn_enter tabOK mixes Tryz.func37 rfl rfl _ Tryz.ntmps37 _ Tryz.results37 (by simp) fun hwf => ?_
    try simp (maxSteps := 9999999) only [go_sem]
    refine CallW.mk (c1) ?_
    try simp (maxSteps := 9999999) only [go_sem]
    refine CallW.mk (c2) ?_
    try simp (maxSteps := 9999999) only [go_sem]
    refine CallW.s (c3) ?_
    try simp (maxSteps := 9999999) only [go_sem]
    all_goals first | kernel_rfl | omega | rfl
end Go.Proofs.YtghckbohaghgkaaGreat.DW

/-
  Sides of lines; where a point is of a polygon.
-/
namespace Go.Proofs.YtghckbohaghgkaaGreat.DW
open Go.RowKit
/-- The side of three points. -/
noncomputable def sdP (p q r : DP) : Int := sgnO (subO (mulO (subO (rdO q.1) (rdO p.1)) (subO (rdO r.2) (rdO p.2))) (mulO (subO (rdO q.2) (rdO p.2)) (subO (rdO r.1) (rdO p.1))))
theorem side_fn (p q r : DP) (hp : okPt p = true) (hq : okPt q = true) (hr : okPt r = true) : Fn Tryz.prog 173 [⟨tPoint, p⟩, ⟨tPoint, q⟩, ⟨tPoint, r⟩] false [⟨.int, sdP p q r⟩] := by
  obtain ⟨p1, p2⟩ := Bool.and_eq_true_iff.1 (show (okR p.1 && okR p.2) = true from hp)
  obtain ⟨q1, q2⟩ := Bool.and_eq_true_iff.1 (show (okR q.1 && okR q.2) = true from hq)
  obtain ⟨r1, r2⟩ := Bool.and_eq_true_iff.1 (show (okR r.1 && okR r.2) = true from hr)
  have c1 := ratSub_fn (rdO q.1) (rdO p.1) (okO_rdO _) (okO_rdO _)
  have c2 := ratSub_fn (rdO r.2) (rdO p.2) (okO_rdO _) (okO_rdO _)
  have c3 := ratMul_fn _ _ (okO_sub (rdO q.1) (rdO p.1)) (okO_sub (rdO r.2) (rdO p.2))
  have c4 := ratSub_fn (rdO q.2) (rdO p.2) (okO_rdO _) (okO_rdO _)
  have c5 := ratSub_fn (rdO r.1) (rdO p.1) (okO_rdO _) (okO_rdO _)
  have c6 := ratMul_fn _ _ (okO_sub (rdO q.2) (rdO p.2)) (okO_sub (rdO r.1) (rdO p.1))
  have c7 := ratSub_fn (mulO (subO (rdO q.1) (rdO p.1)) (subO (rdO r.2) (rdO p.2))) (mulO (subO (rdO q.2) (rdO p.2)) (subO (rdO r.1) (rdO p.1))) (okO_mul _ _) (okO_mul _ _)
  have c8 := ratSign_fn (subO (mulO (subO (rdO q.1) (rdO p.1)) (subO (rdO r.2) (rdO p.2))) (mulO (subO (rdO q.2) (rdO p.2)) (subO (rdO r.1) (rdO p.1))))
  rw [okR_oD p1, okR_oD q1] at c1
  rw [okR_oD p2, okR_oD r2] at c2
  rw [okR_oD p2, okR_oD q2] at c4
  rw [okR_oD p1, okR_oD r1] at c5
  unfold sdP
  refine fn_enter tabOK mixes Tryz.func173 rfl rfl _ Tryz.ntmps173 _ Tryz.results173 (by simp) fun hwf => ?_
  try simp (maxSteps := 9999999) only [go_sem]
  refine CallW.mk (c1) ?_
  try simp (maxSteps := 9999999) only [go_sem]
  refine CallW.mk (c2) ?_
  try simp (maxSteps := 9999999) only [go_sem]
  refine CallW.mk (c3) ?_
  try simp (maxSteps := 9999999) only [go_sem]
  repeat refine And.intro (by first|omega|(constructor<;>omega)|kernel_rfl) ?_
  refine CallW.mk (c4) ?_
  try simp (maxSteps := 9999999) only [go_sem]
  refine CallW.mk (c5) ?_
  try simp (maxSteps := 9999999) only [go_sem]
  refine CallW.mk (c6) ?_
  try simp (maxSteps := 9999999) only [go_sem]
  repeat refine And.intro (by first|omega|(constructor<;>omega)|kernel_rfl) ?_
  refine CallW.mk (c7) ?_
  try simp (maxSteps := 9999999) only [go_sem]
  refine CallW.mk (c8) ?_
  try simp (maxSteps := 9999999) only [go_sem]
  all_goals first | kernel_rfl | omega | rfl
theorem specSide_fn (p q r : DP) : Fn Tryz.prog 76 [⟨tPoint, p⟩, ⟨tPoint, q⟩, ⟨tPoint, r⟩] false [⟨.int, sdP p q r⟩] := by
  have c1 := specRatSub_fn q.1 p.1
  have c2 := specRatSub_fn r.2 p.2
  have c3 := specRatMul_fn (oD (subO (rdO q.1) (rdO p.1))) (oD (subO (rdO r.2) (rdO p.2)))
  have c4 := specRatSub_fn q.2 p.2
  have c5 := specRatSub_fn r.1 p.1
  have c6 := specRatMul_fn (oD (subO (rdO q.2) (rdO p.2))) (oD (subO (rdO r.1) (rdO p.1)))
  have c7 := specRatSub_fn (oD (mulO (subO (rdO q.1) (rdO p.1)) (subO (rdO r.2) (rdO p.2)))) (oD (mulO (subO (rdO q.2) (rdO p.2)) (subO (rdO r.1) (rdO p.1))))
  have c8 := specRatSign_fn (oD (subO (mulO (subO (rdO q.1) (rdO p.1)) (subO (rdO r.2) (rdO p.2))) (mulO (subO (rdO q.2) (rdO p.2)) (subO (rdO r.1) (rdO p.1)))))
  rw [rdO_oD (okO_sub _ _), rdO_oD (okO_sub _ _)] at c3 c6
  rw [rdO_oD (okO_mul _ _), rdO_oD (okO_mul _ _)] at c7
  rw [rdO_oD (okO_sub _ _)] at c8
  unfold sdP
  refine fn_enter tabOK mixes Tryz.func76 rfl rfl _ Tryz.ntmps76 _ Tryz.results76 (by simp) fun hwf => ?_
  try simp (maxSteps := 9999999) only [go_sem]
  refine CallW.mk (c1) ?_
  try simp (maxSteps := 9999999) only [go_sem]
  refine CallW.mk (c2) ?_
  try simp (maxSteps := 9999999) only [go_sem]
  refine CallW.mk (c3) ?_
  try simp (maxSteps := 9999999) only [go_sem]
  repeat refine And.intro (by first|omega|(constructor<;>omega)|kernel_rfl) ?_
  refine CallW.mk (c4) ?_
  try simp (maxSteps := 9999999) only [go_sem]
  refine CallW.mk (c5) ?_
  try simp (maxSteps := 9999999) only [go_sem]
  refine CallW.mk (c6) ?_
  try simp (maxSteps := 9999999) only [go_sem]
  repeat refine And.intro (by first|omega|(constructor<;>omega)|kernel_rfl) ?_
  refine CallW.mk (c7) ?_
  try simp (maxSteps := 9999999) only [go_sem]
  refine CallW.mk (c8) ?_
  try simp (maxSteps := 9999999) only [go_sem]
  all_goals first | kernel_rfl | omega | rfl
/-- A vector as a point. -/
def ptV (v : DV) : DP := (ratI v.1, ratI v.2)
theorem PointOfI_fn (v : DV) : Fn Tryz.prog 212 [⟨tVec, v⟩] true [⟨tPoint, ptV v⟩] := by
  have c1 := ratInt_fn v.1
  have c2 := ratInt_fn v.2
  unfold ptV
  refine fn_enter tabOK mixes Tryz.func212 rfl rfl _ Tryz.ntmps212 _ Tryz.results212 (by simp) fun hwf => ?_
  try simp (maxSteps := 9999999) only [go_sem]
  refine CallW.mk (c1) ?_
  try simp (maxSteps := 9999999) only [go_sem]
  refine CallW.mk (c2) ?_
  try simp (maxSteps := 9999999) only [go_sem]
  all_goals first | kernel_rfl | omega | rfl
theorem PointOfS_fn (v : DV) : Fn Tryz.prog 77 [⟨tVec, v⟩] true [⟨tPoint, ptV v⟩] := by
  have c1 := RatFromInt_fn v.1
  have c2 := RatFromInt_fn v.2
  unfold ptV
  refine fn_enter tabOK mixes Tryz.func77 rfl rfl _ Tryz.ntmps77 _ Tryz.results77 (by simp) fun hwf => ?_
  try simp (maxSteps := 9999999) only [go_sem]
  refine CallW.mk (c1) ?_
  try simp (maxSteps := 9999999) only [go_sem]
  refine CallW.mk (c2) ?_
  try simp (maxSteps := 9999999) only [go_sem]
  all_goals first | kernel_rfl | omega | rfl
theorem okR_ratI {n : Int} (h1 : -1000 ≤ n) (h2 : n ≤ 1000) : okR (ratI n) = true := by
  have ho : okO (some ((n : Int) : Rat)) := by
    intro q hq; injection hq with hq; subst hq
    exact ⟨Nat.le_trans (nl_small (n := n.natAbs) (by omega)) (by decide), Nat.le_trans (nl_small (n := 1) (by decide)) (by decide)⟩
  rw [show ratI n = oD (some ((n : Int) : Rat)) from ratI_eq n]
  unfold okR
  rw [rdO_oD ho]; rfl
theorem okPt_ptV {v : DV} (h : okV v = true) : okPt (ptV v) = true := by
  obtain ⟨b1, b2, b3, b4⟩ := okV_b h
  show (okR (ratI v.1) && okR (ratI v.2)) = true
  rw [okR_ratI b1 b2, okR_ratI b3 b4]; rfl
def mapp (l : List DV) (i : Nat) : List DP := (l.take i).map ptV
theorem mapp_step {l : List DV} {i : Nat} (h : i < l.length) : mapp l (i + 1) = mapp l i ++ [ptV (nth (t := tVec) l i)] := by
  unfold mapp
  rw [List.take_succ_eq_append_getElem h, nth_lt h, List.map_append]
  rfl
theorem mapp_len {l : List DV} {i : Nat} (h : i ≤ l.length) : (mapp l i).length = i := by
  unfold mapp
  rw [List.length_map, List.length_take]; omega
theorem mapp_all {l : List DV} {i : Nat} (h : l.length ≤ i) : mapp l i = l.map ptV := by
  unfold mapp
  rw [List.take_of_length_le h]
theorem pointsOf_fn (l : List DV) (hn : l.length ≤ 1048576) : Fn Tryz.prog 172 [⟨.slice tVec, l⟩] true [⟨.slice tPoint, l.map ptV⟩] := by
  refine fn_enter tabOK mixes Tryz.func172 rfl rfl _ Tryz.ntmps172 _ Tryz.results172 (by simp) fun hwf => ?_
  try simp (maxSteps := 9999999) only [go_sem]
  refine LoopG.intro _ _ _ (fun i : Nat => ⟨[(3, .row 0 0), (7, .sl tVec l), (8, .sc (.int .i64 l.length)), (9, .sc (.int .i64 i))], [(0, .row 42 tPoint 0 true (mapp l i))]⟩) (fun i => i ≤ l.length) (fun i => l.length - i) 0 ?_ (Nat.zero_le _) ?_
  · refine Wk.mk [] ?_
    try simp (maxSteps := 9999999) only [go_sem]
    try (and_intros <;> first | rfl | omega | exact ⟨_, rfl⟩)
    all_goals (first | exact ⟨rfl, rfl⟩ | rfl)
  · rintro i hi
    try simp (maxSteps := 9999999) only [go_sem]
    refine CondW_dec (fun hA => ?_) (fun hA => ?_)
    · have hlt : i < l.length := by omega
      have hml := mapp_len (l := l) (i := i) (by omega)
      have e := mapp_step hlt
      have c2 := PointOfI_fn (nth (t := tVec) l i)
      try simp (maxSteps := 9999999) only [go_sem]
      repeat refine And.intro (by first|omega|(constructor<;>omega)|kernel_rfl) ?_
      refine CallW.mk (c2) ?_
      try simp (maxSteps := 9999999) only [go_sem]
      try simp (maxSteps := 9999999) only [go_sem, hml]
      repeat refine And.intro (by first|omega|(constructor<;>omega)|kernel_rfl) ?_
      refine LoopK.mk (i + 1) ?_ (by omega) (by omega)
      rw [e]
      refine Wk.mk [] ?_
      try simp (maxSteps := 9999999) only [go_sem]
      try (and_intros <;> first | rfl | omega | exact ⟨_, rfl⟩)
      all_goals (first | exact ⟨by omega, rfl⟩ | exact ⟨rfl, rfl⟩)
    · rw [mapp_all (by omega)]
      try simp (maxSteps := 9999999) only [go_sem]
/-- The least side of a point, of the first i edges. -/
noncomputable def cntI (l : List DV) (p : DP) : Nat → Int
  | 0 => 1
  | i + 1 => min (cntI l p i) (sdP (ptV (nth (t := tVec) l i)) (ptV (nth (t := tVec) l (nxt l.length i).toNat)) p)
theorem nth_ptV {l : List DV} {i : Nat} (h : i < l.length) : nth (t := tPoint) (l.map ptV) i = ptV (nth (t := tVec) l i) := by
  rw [nth_lt (t := tVec) h, nth_lt (t := tPoint) (l := l.map ptV) (by rw [List.length_map]; exact h), List.getElem_map]
theorem contains_fn (l : List DV) (p : DP) (hl : ∀ v ∈ l, okV v = true) (hn : l.length ≤ 1048576) (hp : okPt p = true) : Fn Tryz.prog 127 [⟨.slice tVec, l⟩, ⟨tPoint, p⟩] false [⟨.int, cntI l p l.length⟩] := by
  have c1 := pointsOf_fn l hn
  have hml : (l.map ptV).length = l.length := List.length_map ..
  refine fn_enter tabOK mixes Tryz.func127 rfl rfl _ Tryz.ntmps127 _ Tryz.results127 (by simp) fun hwf => ?_
  try simp (maxSteps := 9999999) only [go_sem]
  refine CallW.mk (c1) ?_
  try simp (maxSteps := 9999999) only [go_sem]
  try simp (maxSteps := 9999999) only [go_sem, hml]
  refine LoopG.intro _ _ _ (fun i : Nat => ⟨[(3, .ptr 0 0), (5, .sl tPoint (l.map ptV)), (6, .sc (.int .i64 (cntI l p i))), (11, .sl tPoint (l.map ptV)), (12, .sc (.int .i64 l.length)), (13, .sc (.int .i64 i))], [(0, .box (cel tPoint p))]⟩) (fun i => i ≤ l.length) (fun i => l.length - i) 0 ?_ (Nat.zero_le _) ?_
  · refine Wk.mk [] ?_
    try simp (maxSteps := 9999999) only [go_sem]
    try (and_intros <;> first | rfl | omega | exact ⟨_, rfl⟩)
    trace_state
  · rintro i hi
    try simp (maxSteps := 9999999) only [go_sem]
    refine CondW_dec (fun hA => ?_) (fun hA => ?_)
    · have hlt : i < l.length := by omega
      have hr := nxt_rng (n := l.length) (i := i) (by omega)
      have hr2 : (nxt l.length i).toNat < l.length := by omega
      have c2 := side_fn (ptV (nth (t := tVec) l i)) (ptV (nth (t := tVec) l (nxt l.length i).toNat)) p (okPt_ptV (hl _ (nth_mem hlt))) (okPt_ptV (hl _ (nth_mem hr2))) hp
      rw [← nth_ptV hlt, ← nth_ptV hr2] at c2
      unfold nxt at hr hr2 c2
      try simp (maxSteps := 9999999) only [go_sem, hml]
      repeat refine And.intro (by first|omega|(constructor<;>omega)|kernel_rfl) ?_
      refine RemW.pos (by omega) (by omega) ?_
      try simp (maxSteps := 9999999) only [go_sem, hml]
      repeat refine And.intro (by first|omega|(constructor<;>omega)|kernel_rfl) ?_
      refine CallW.mk (c2) ?_
      try simp (maxSteps := 9999999) only [go_sem]
      repeat refine And.intro (by first|omega|(constructor<;>omega)|kernel_rfl) ?_
      have hst : cntI l p (i + 1) = min (cntI l p i) (sdP (nth (t := tPoint) (l.map ptV) i) (nth (t := tPoint) (l.map ptV) (((i : Int) + 1) % (l.length : Int)).toNat) p) := by
        rw [nth_ptV hlt, nth_ptV hr2]; rfl
      refine LoopK.mk (i + 1) ?_ (by omega) (by omega)
      rw [hst]
      refine Wk.mk [] ?_
      try simp (maxSteps := 9999999) only [go_sem]
      try (and_intros <;> first | rfl | omega | exact ⟨_, rfl⟩)
    · rw [show l.length = i by omega]
      try simp (maxSteps := 9999999) only [go_sem]
      all_goals first | kernel_rfl | omega | rfl
end Go.Proofs.YtghckbohaghgkaaGreat.DW

/-
  Cross products; the chain along a sorted list bends to the left, and all its points lie left of each of its edges. No program here.
-/
namespace Go.Proofs.YtghckbohaghgkaaGreat.DW
open Go.RowKit
def crs (u v : DV) : Int := u.1 * v.2 - u.2 * v.1
def dt (u v : DV) : Int := u.1 * v.1 + u.2 * v.2
def sbV (a b : DV) : DV := (a.1 - b.1, a.2 - b.2)
/-- To the right, or straight up. -/
def Rt (d : DV) : Prop := 0 < d.1 ∨ d.1 = 0 ∧ 0 < d.2
theorem Rt_of {a b : DV} (h : ltV a b) : Rt (sbV b a) := by unfold ltV at h; unfold Rt sbV; simp only; omega
theorem crs_nn {u v w : DV} (hu : Rt u) (hv : Rt v) (hw : Rt w) (h1 : 0 ≤ crs u v) (h2 : 0 ≤ crs v w) : 0 ≤ crs u w := by
  have key : v.1 * crs u w = u.1 * crs v w + w.1 * crs u v := by unfold crs; grind
  have u1 : 0 ≤ u.1 := by unfold Rt at hu; omega
  have w1 : 0 ≤ w.1 := by unfold Rt at hw; omega
  rcases hv with hv | ⟨hv, hv2⟩
  · by_cases hc : 0 ≤ crs u w
    · exact hc
    · have h3 := Int.mul_neg_of_pos_of_neg hv (show crs u w < 0 by omega)
      have h4 := Int.mul_nonneg u1 h2
      have h5 := Int.mul_nonneg w1 h1
      omega
  · have e : crs v w = -(v.2 * w.1) := by unfold crs; rw [hv]; grind
    have hw0 : w.1 = 0 := by
      by_cases hp : 0 < w.1
      · have := Int.mul_pos hv2 hp
        omega
      · omega
    have hw2 : 0 < w.2 := by unfold Rt at hw; omega
    have e2 : crs u w = u.1 * w.2 := by unfold crs; rw [hw0]; grind
    rw [e2]
    exact Int.mul_nonneg u1 (Int.le_of_lt hw2)
theorem crs_sw (u v : DV) : crs u v = - crs v u := by unfold crs; grind
theorem crs_pn {u v w : DV} (hu : Rt u) (hv : Rt v) (hw : Rt w) (h1 : 0 < crs u v) (h2 : 0 ≤ crs v w) : 0 < crs u w := by
  have h3 := crs_nn hu hv hw (Int.le_of_lt h1) h2
  by_cases hc : crs u w = 0
  · have h4 := crs_nn hv hw hu h2 (by rw [crs_sw]; omega)
    rw [crs_sw] at h4
    omega
  · omega
theorem crs_np {u v w : DV} (hu : Rt u) (hv : Rt v) (hw : Rt w) (h1 : 0 ≤ crs u v) (h2 : 0 < crs v w) : 0 < crs u w := by
  have h3 := crs_nn hu hv hw h1 (Int.le_of_lt h2)
  by_cases hc : crs u w = 0
  · have h4 := crs_nn hw hu hv (by rw [crs_sw]; omega) h1
    rw [crs_sw] at h4
    omega
  · omega
theorem trn_crs (a b c : DV) : trn a b c = crs (sbV b a) (sbV c a) := rfl
theorem trn_crs2 (a b c : DV) : trn a b c = crs (sbV b a) (sbV c b) := by unfold trn crs sbV; grind
theorem trn_add (a b x y : DV) : trn a b y = crs (sbV b a) (sbV y x) + trn a b x := by unfold trn crs sbV; grind
theorem trn_aa (a b : DV) : trn a b a = 0 := by unfold trn; grind
theorem trn_bb (a b : DV) : trn a b b = 0 := by unfold trn; grind
/-- The edges of a chain, its last point first. -/
def edg : List DV → List (DV × DV)
  | b :: a :: l => (a, b) :: edg (a :: l)
  | _ => []
def dir (e : DV × DV) : DV := sbV e.2 e.1
theorem edg_cons {v b : DV} {l : List DV} : edg (v :: b :: l) = (b, v) :: edg (b :: l) := rfl
theorem edg_mem : ∀ {r : List DV} {e : DV × DV}, e ∈ edg r → e.1 ∈ r ∧ e.2 ∈ r
  | [], e, h => by simp [edg] at h
  | [a], e, h => by simp [edg] at h
  | b :: a :: l, e, h => by
    rw [edg_cons] at h
    rcases List.mem_cons.1 h with rfl | h
    · exact ⟨by simp, by simp⟩
    · obtain ⟨h1, h2⟩ := edg_mem h
      exact ⟨List.mem_cons_of_mem _ h1, List.mem_cons_of_mem _ h2⟩
/-- A chain of points, its last point first: it goes up, bends to the left; the points of P lie left of its edges, or on them. -/
structure ChOK (P : DV → Prop) (r : List DV) : Prop where
  desc : r.Pairwise (fun x y => ltV y x)
  cvx : (edg r).Pairwise (fun e f => 0 < crs (dir f) (dir e))
  low : ∀ e ∈ edg r, ∀ p, P p → 0 ≤ trn e.1 e.2 p
  str : ∀ e ∈ edg r, ∀ x ∈ r, x = e.1 ∨ x = e.2 ∨ 0 < trn e.1 e.2 x
  sub : ∀ x ∈ r, P x
theorem edg_lt : ∀ {r : List DV} {e : DV × DV}, r.Pairwise (fun x y => ltV y x) → e ∈ edg r → ltV e.1 e.2
  | [], e, _, h => by simp [edg] at h
  | [a], e, _, h => by simp [edg] at h
  | b :: a :: l, e, hd, h => by
    rw [edg_cons] at h
    rw [List.pairwise_cons] at hd
    rcases List.mem_cons.1 h with rfl | h
    · exact hd.1 a (by simp)
    · exact edg_lt hd.2 h
theorem ChOK.tail {P : DV → Prop} {b : DV} {l : List DV} (h : ChOK P (b :: l)) : ChOK P l := by
  have hd := (List.pairwise_cons.1 h.desc).2
  cases l with
  | nil => exact ⟨List.Pairwise.nil, List.Pairwise.nil, (fun e he => by simp [edg] at he), (fun e he => by simp [edg] at he), (fun x hx => by simp at hx)⟩
  | cons a l =>
    have hc := h.cvx
    rw [edg_cons] at hc
    exact ⟨hd, (List.pairwise_cons.1 hc).2, fun e he => h.low e (by rw [edg_cons]; exact List.mem_cons_of_mem _ he), fun e he x hx => h.str e (by rw [edg_cons]; exact List.mem_cons_of_mem _ he) x (List.mem_cons_of_mem _ hx), fun x hx => h.sub x (List.mem_cons_of_mem _ hx)⟩
/-- What taking points away leaves. -/
structure Popped (P : DV → Prop) (v : DV) (r : List DV) (b : DV) (l : List DV) : Prop where
  ok : ChOK P (b :: l)
  last : ∀ x, r.getLast? = some x → (b :: l).getLast? = some x
  stop : ∀ a l', l = a :: l' → 0 < trn a b v
  gone : (∃ l', r = b :: l') ∨ ∃ c, ltV b c ∧ P c ∧ trn b c v ≤ 0 ∧ ∀ p, P p → 0 ≤ trn b c p
theorem popD_ok {P : DV → Prop} {v : DV} : ∀ {r : List DV} {b0 : DV} {l0 : List DV}, r = b0 :: l0 → ChOK P r → ∃ b l, popD v r = b :: l ∧ Popped P v r b l
  | [], _, _, h, _ => by cases h
  | [a], _, _, _, hc => ⟨a, [], rfl, hc, fun x hx => hx, (fun a l' h => by cases h), .inl ⟨[], rfl⟩⟩
  | b :: a :: l, _, _, _, hc => by
    by_cases ht : trn a b v ≤ 0
    · obtain ⟨b', l', e, hp⟩ := popD_ok (v := v) (r := a :: l) rfl hc.tail
      refine ⟨b', l', by rw [popD, if_pos ht]; exact e, hp.ok, fun x hx => hp.last x (by rw [List.getLast?_cons_cons] at hx; exact hx), hp.stop, .inr ?_⟩
      rcases hp.gone with ⟨l2, h2⟩ | h2
      · injection h2 with h2 _
        subst h2
        exact ⟨b, (List.pairwise_cons.1 hc.desc).1 a (by simp), hc.sub b (by simp), ht, fun p hp => hc.low (a, b) (by rw [edg_cons]; simp) p hp⟩
      · exact h2
    · exact ⟨b, a :: l, by rw [popD, if_neg ht], hc, fun x hx => hx, (fun a' l' h => by injection h with h _; subst h; omega), .inl ⟨a :: l, rfl⟩⟩
/-- One more point, right of all. -/
theorem push_ok {P : DV → Prop} {v b m : DV} {r l : List DV} (hp : Popped P v r b l) (hv : ∀ p, P p → ltV p v) (hm : r.getLast? = some m) (hmin : ∀ p, P p → p = m ∨ ltV m p) (htop : ∀ t l', r = t :: l' → ∀ p, P p → p = t ∨ ltV p t) :
    ChOK (fun p => p = v ∨ P p) (v :: b :: l) := by
  have hb : P b := hp.ok.sub b (by simp)
  have hbv := hv b hb
  have rv := Rt_of hbv
  have hml := hp.last m hm
  -- points left of b
  have left : ∀ p, P p → ltV p b → 0 < trn b v p := by
    intro p hP hlt
    cases l with
    | nil =>
      simp at hml
      subst hml
      rcases hmin p hP with rfl | h
      · exact absurd hlt (ltV_irrefl _)
      · exact absurd hlt (ltV_asymm h)
    | cons a l' =>
      have h1 := hp.stop a l' rfl
      have h2 := hp.ok.low (a, b) (by rw [edg_cons]; simp) p hP
      have hab := (List.pairwise_cons.1 hp.ok.desc).1 a (by simp)
      rw [trn_crs2] at h1 h2
      have h3 : 0 ≤ crs (sbV b p) (sbV b a) := by
        have : crs (sbV b p) (sbV b a) = crs (sbV b a) (sbV p b) := by unfold crs sbV; grind
        rw [this]; exact h2
      have h4 := crs_np (Rt_of hlt) (Rt_of hab) rv h3 h1
      have : trn b v p = crs (sbV b p) (sbV v b) := by unfold trn crs sbV; grind
      rw [this]; exact h4
  have all : ∀ p, P p → 0 ≤ trn b v p := by
    intro p hP
    rcases ltV_tri p b with h | h | h
    · exact Int.le_of_lt (left p hP h)
    · subst h; rw [trn_aa]; exact Int.le_refl _
    · rcases hp.gone with ⟨l', hr⟩ | ⟨c, h1, h2, h3, h4⟩
      · rcases htop b l' hr p hP with rfl | h5
        · exact absurd h (ltV_irrefl _)
        · exact absurd h (ltV_asymm h5)
      · have h5 := h4 p hP
        rw [trn_crs] at h3 h5
        rw [trn_crs]
        exact crs_nn rv (Rt_of h1) (Rt_of h) (by rw [crs_sw]; omega) h5
  -- the old edges and the new one
  have bend : ∀ f ∈ edg (b :: l), 0 < crs (dir f) (sbV v b) := by
    intro f hf
    cases l with
    | nil => simp [edg] at hf
    | cons a l' =>
      have h1 := hp.stop a l' rfl
      rw [trn_crs2] at h1
      have hab := (List.pairwise_cons.1 hp.ok.desc).1 a (by simp)
      have hc := hp.ok.cvx
      rw [edg_cons] at hc hf
      rcases List.mem_cons.1 hf with rfl | hf
      · exact h1
      · have h2 := (List.pairwise_cons.1 hc).1 f hf
        have h3 := edg_lt (List.pairwise_cons.1 hp.ok.desc).2 hf
        exact crs_pn (Rt_of h3) (Rt_of hab) rv h2 (Int.le_of_lt h1)
  have oldv : ∀ f ∈ edg (b :: l), 0 < trn f.1 f.2 v := by
    intro f hf
    have h1 := bend f hf
    have h2 := hp.ok.low f hf b hb
    rw [trn_add f.1 f.2 b v]
    unfold dir at h1
    omega
  refine ⟨List.pairwise_cons.2 ⟨fun x hx => hv x (hp.ok.sub x hx), hp.ok.desc⟩, ?_, ?_, ?_, ?_⟩
  · rw [edg_cons]
    exact List.pairwise_cons.2 ⟨fun f hf => bend f hf, hp.ok.cvx⟩
  · intro e he p hP
    rw [edg_cons] at he
    rcases List.mem_cons.1 he with rfl | he2
    · rcases hP with rfl | hP
      · show 0 ≤ trn b p p; rw [trn_bb]; exact Int.le_refl _
      · exact all p hP
    · rcases hP with rfl | hP
      · exact Int.le_of_lt (oldv e he2)
      · exact hp.ok.low e he2 p hP
  · intro e he x hx
    rw [edg_cons] at he
    rcases List.mem_cons.1 he with rfl | he2
    · rcases List.mem_cons.1 hx with rfl | hx
      · exact .inr (.inl rfl)
      · rcases List.mem_cons.1 hx with rfl | hx
        · exact .inl rfl
        · exact .inr (.inr (left x (hp.ok.sub x (List.mem_cons_of_mem _ hx)) ((List.pairwise_cons.1 hp.ok.desc).1 x hx)))
    · rcases List.mem_cons.1 hx with rfl | hx
      · exact .inr (.inr (oldv e he2))
      · exact hp.ok.str e he2 x hx
  · intro x hx
    rcases List.mem_cons.1 hx with rfl | hx
    · exact .inl rfl
    · exact .inr (hp.ok.sub x hx)
/-- The chain along a sorted list. -/
theorem chR_ok : ∀ (n : Nat) {l : List DV}, l.length = n + 1 → l.Pairwise ltV →
    ∃ t r, chR l = t :: r ∧ (chR l).getLast? = l.head? ∧ l.getLast? = some t ∧ ChOK (fun p => p ∈ l) (chR l)
  | 0, l, hl, hs => by
    match l, hl with
    | [a], _ => exact ⟨a, [], rfl, rfl, rfl, ⟨List.pairwise_singleton _ _, List.Pairwise.nil, (fun e he => by simp [chR, popD, edg] at he), (fun e he => by simp [chR, popD, edg] at he), fun x hx => hx⟩⟩
  | n + 1, l, hl, hs => by
    obtain ⟨l', v, rfl⟩ : ∃ l' v, l = l' ++ [v] := ⟨l.dropLast, l.getLast (by intro h; rw [h] at hl; simp at hl), (List.dropLast_concat_getLast _).symm⟩
    have hl' : l'.length = n + 1 := by simp at hl; omega
    rw [List.pairwise_append] at hs
    obtain ⟨hs1, _, hs3⟩ := hs
    obtain ⟨t, r, e1, e2, e3, hc⟩ := chR_ok n hl' hs1
    have hst : chR (l' ++ [v]) = v :: popD v (chR l') := by unfold chR; rw [List.foldl_append]; rfl
    obtain ⟨b, q, e4, hp⟩ := popD_ok (v := v) e1 hc
    obtain ⟨m, l2, rfl⟩ : ∃ m l2, l' = m :: l2 := by
      cases l' with
      | nil => simp at hl'
      | cons m l2 => exact ⟨m, l2, rfl⟩
    have hlast : (chR (m :: l2)).getLast? = some m := e2
    have hpush := push_ok hp (fun p hpm => hs3 p hpm v (by simp)) hlast (fun p hpm => by
      rcases List.mem_cons.1 hpm with h | h
      · exact .inl h
      · exact .inr ((List.pairwise_cons.1 hs1).1 p h)) (fun t' l3 ht p hpm => by
      rw [e1] at ht
      injection ht with ht _
      subst ht
      have hgl : (m :: l2).getLast? = some t := e3
      obtain ⟨ys, hys⟩ := List.getLast?_eq_some_iff.1 hgl
      rw [hys] at hpm hs1
      rw [List.pairwise_append] at hs1
      rcases List.mem_append.1 hpm with h | h
      · exact .inr (hs1.2.2 p h t (by simp))
      · exact .inl (by simpa using h))
    refine ⟨v, popD v (chR (m :: l2)), hst, ?_, List.getLast?_concat, ?_⟩
    · rw [hst, e4, List.getLast?_cons_cons, hp.last m hlast]; rfl
    · rw [hst, e4]
      refine ⟨hpush.desc, hpush.cvx, fun e he p hpm => hpush.low e he p ?_, hpush.str, fun x hx => ?_⟩
      · rcases List.mem_append.1 hpm with h | h
        · exact .inr h
        · exact .inl (by simpa using h)
      · rcases hpush.sub x hx with rfl | h
        · simp
        · exact List.mem_append.2 (.inl h)
end Go.Proofs.YtghckbohaghgkaaGreat.DW

/-
  The hull of a sorted list: two chains make a polygon that bends to the left everywhere. No program here.
-/
namespace Go.Proofs.YtghckbohaghgkaaGreat.DW
open Go.RowKit
def ngV (v : DV) : DV := (-v.1, -v.2)
theorem ngV_ngV (v : DV) : ngV (ngV v) = v := by unfold ngV; simp
theorem trn_ng (a b c : DV) : trn (ngV a) (ngV b) (ngV c) = trn a b c := by unfold trn ngV; grind
theorem ltV_ng {a b : DV} : ltV (ngV a) (ngV b) ↔ ltV b a := by unfold ltV ngV; simp only; omega
theorem popD_ng (v : DV) : ∀ r : List DV, popD (ngV v) (r.map ngV) = (popD v r).map ngV
  | [] => rfl
  | [a] => rfl
  | b :: a :: l => by
    have ih := popD_ng v (a :: l)
    simp only [List.map_cons] at ih ⊢
    rw [popD, popD, trn_ng]
    split
    · exact ih
    · rfl
theorem chR_ng (l : List DV) : chR (l.map ngV) = (chR l).map ngV := by
  unfold chR
  have : ∀ (l s : List DV), (l.map ngV).foldl (fun c v => v :: popD v c) (s.map ngV) = (l.foldl (fun c v => v :: popD v c) s).map ngV := by
    intro l
    induction l with
    | nil => intro s; rfl
    | cons a l ih =>
      intro s
      rw [List.map_cons, List.foldl_cons, List.foldl_cons, popD_ng]
      exact ih (a :: popD a s)
  exact this l []
def ngE (e : DV × DV) : DV × DV := (ngV e.1, ngV e.2)
theorem edg_ng : ∀ r : List DV, edg (r.map ngV) = (edg r).map ngE
  | [] => rfl
  | [a] => rfl
  | b :: a :: l => by
    have ih := edg_ng (a :: l)
    simp only [List.map_cons] at ih ⊢
    rw [edg_cons, edg_cons, ih]; rfl
theorem edg_ng_mem {r : List DV} {e : DV × DV} (h : e ∈ edg r) : ngE e ∈ edg (r.map ngV) := by rw [edg_ng]; exact List.mem_map_of_mem h
theorem map_ng_ng (r : List DV) : (r.map ngV).map ngV = r := by
  rw [List.map_map, show (ngV ∘ ngV) = id from funext ngV_ngV, List.map_id]
/-- A point of a chain is its first one, its last one, or between two edges. -/
theorem inner_of {P : DV → Prop} {x : DV} : ∀ {r : List DV}, ChOK P r → x ∈ r → r.head? = some x ∨ r.getLast? = some x ∨ ∃ p q, (p, x) ∈ edg r ∧ (x, q) ∈ edg r ∧ 0 < crs (sbV x p) (sbV q x)
  | [], _, h => by simp at h
  | [a], _, h => by simp at h; subst h; exact .inl rfl
  | q :: y :: l, hc, h => by
    rcases List.mem_cons.1 h with rfl | h
    · exact .inl rfl
    · rcases inner_of hc.tail h with h1 | h1 | ⟨p, q', h1, h2, h3⟩
      · simp at h1
        subst h1
        cases l with
        | nil => exact .inr (.inl rfl)
        | cons p l =>
          have hcv := hc.cvx
          rw [edg_cons, edg_cons] at hcv
          refine .inr (.inr ⟨p, q, by rw [edg_cons, edg_cons]; simp, by rw [edg_cons]; simp, ?_⟩)
          exact (List.pairwise_cons.1 hcv).1 (p, y) (by simp)
      · exact .inr (.inl (by rw [List.getLast?_cons_cons]; exact h1))
      · exact .inr (.inr ⟨p, q', by rw [edg_cons]; exact List.mem_cons_of_mem _ h1, by rw [edg_cons]; exact List.mem_cons_of_mem _ h2, h3⟩)
/-- The inner points of one chain lie strictly left of the edges of the other. -/
theorem cross_str {P : DV → Prop} {R R' : List DV} (h : ChOK P R) (h' : ChOK (fun p => P (ngV p)) (R'.map ngV)) {x : DV} (hx : x ∈ R') :
    R'.head? = some x ∨ R'.getLast? = some x ∨ ∀ e ∈ edg R, 0 < trn e.1 e.2 x := by
  have hx' : ngV x ∈ R'.map ngV := List.mem_map_of_mem hx
  have inj : ∀ {a b : DV}, ngV a = ngV b → a = b := fun {a b} e => by rw [← ngV_ngV a, e, ngV_ngV]
  rcases inner_of h' hx' with h1 | h1 | ⟨p, q, h1, h2, h3⟩
  · rw [List.head?_map] at h1
    obtain ⟨a, ha, e⟩ := Option.map_eq_some_iff.1 h1
    exact .inl (by rw [ha, inj e])
  · rw [List.getLast?_map] at h1
    obtain ⟨a, ha, e⟩ := Option.map_eq_some_iff.1 h1
    exact .inr (.inl (by rw [ha, inj e]))
  · refine .inr (.inr fun e he => ?_)
    have hPp : P (ngV p) := h'.sub p (edg_mem h1).1
    have hPq : P (ngV q) := h'.sub q (edg_mem h2).2
    have hPx : P x := by have := h'.sub _ hx'; rw [ngV_ngV] at this; exact this
    have l1 := h.low e he _ hPp
    have l2 := h.low e he _ hPq
    have l3 := h.low e he _ hPx
    by_cases hz : trn e.1 e.2 x = 0
    · exfalso
      have hd := Rt_of (edg_lt h.desc he)
      have ha := Rt_of (edg_lt h'.desc h1)
      have hb := Rt_of (edg_lt h'.desc h2)
      rw [trn_add e.1 e.2 x, hz] at l1 l2
      have e1 : crs (sbV e.2 e.1) (sbV (ngV p) x) = crs (sbV e.2 e.1) (sbV (ngV x) p) := by unfold crs sbV ngV; grind
      have e2 : crs (sbV e.2 e.1) (sbV (ngV q) x) = crs (sbV q (ngV x)) (sbV e.2 e.1) := by unfold crs sbV ngV; grind
      rw [e1] at l1
      rw [e2] at l2
      have := crs_pn ha hb hd h3 (by show 0 ≤ crs (sbV q (ngV x)) (sbV e.2 e.1); omega)
      rw [crs_sw] at this
      simp only at this
      omega
    · omega
theorem edg_idx : ∀ {r : List DV} {i : Nat}, i + 1 < r.length → (nth (t := tVec) r (i + 1), nth (t := tVec) r i) ∈ edg r
  | [], i, h => by simp at h
  | [a], i, h => by simp at h
  | b :: a :: l, 0, h => by rw [edg_cons]; exact List.mem_cons_self
  | b :: a :: l, i + 1, h => by
    rw [edg_cons]
    refine List.mem_cons_of_mem _ ?_
    have := edg_idx (r := a :: l) (i := i) (by simp at h ⊢; omega)
    simpa [nth] using this
theorem nth_rev {r : List DV} {i : Nat} (h : i < r.length) : nth (t := tVec) r.reverse i = nth (t := tVec) r (r.length - 1 - i) := by
  rw [nth_lt (by rw [List.length_reverse]; exact h), nth_lt (by omega), List.getElem_reverse]
theorem nth_dl {r : List DV} {i : Nat} (h : i < r.length - 1) : nth (t := tVec) r.dropLast i = nth (t := tVec) r i := by
  rw [nth_lt (by rw [List.length_dropLast]; exact h), nth_lt (by omega), List.getElem_dropLast]
theorem nth_al {l m : List DV} {i : Nat} (h : i < l.length) : nth (t := tVec) (l ++ m) i = nth (t := tVec) l i := by
  rw [nth_lt (by rw [List.length_append]; omega), nth_lt h, List.getElem_append_left h]
theorem nth_ar {l m : List DV} {i : Nat} (h : l.length ≤ i) (h2 : i < l.length + m.length) : nth (t := tVec) (l ++ m) i = nth (t := tVec) m (i - l.length) := by
  rw [nth_lt (by rw [List.length_append]; omega), nth_lt (by omega), List.getElem_append_right h]
/-- A polygon that bends to the left, all the points of P on its left. -/
structure Cvx (P : DV → Prop) (H : List DV) : Prop where
  three : 3 ≤ H.length
  nodup : H.Nodup
  str : ∀ i, i < H.length → ∀ x ∈ H, x = nth (t := tVec) H i ∨ x = nth (t := tVec) H (nxt H.length i).toNat ∨ 0 < trn (nth (t := tVec) H i) (nth (t := tVec) H (nxt H.length i).toNat) x
  low : ∀ i, i < H.length → ∀ p, P p → 0 ≤ trn (nth (t := tVec) H i) (nth (t := tVec) H (nxt H.length i).toNat) p
  sub : ∀ x ∈ H, P x
theorem nxt_lt {n i : Nat} (h : i + 1 < n) : (nxt n i).toNat = i + 1 := by
  unfold nxt
  rw [Int.emod_eq_of_lt (by omega) (by omega)]; omega
theorem nxt_end {n i : Nat} (h : i + 1 = n) : (nxt n i).toNat = 0 := by
  unfold nxt
  rw [show ((i : Int) + 1) = (n : Int) by omega, Int.emod_self]; rfl
theorem col0 {d u v : DV} (hd : d ≠ (0, 0)) (h1 : crs d u = 0) (h2 : crs d v = 0) : crs u v = 0 := by
  have k1 : d.1 * crs u v = u.1 * crs d v - v.1 * crs d u := by unfold crs; grind
  have k2 : d.2 * crs u v = u.2 * crs d v - v.2 * crs d u := by unfold crs; grind
  rw [h1, h2, Int.mul_zero, Int.mul_zero, Int.sub_zero] at k1 k2
  rcases Int.mul_eq_zero.1 k1 with h | h
  · rcases Int.mul_eq_zero.1 k2 with h' | h'
    · exact absurd (Prod.ext h h') hd
    · exact h'
  · exact h
theorem nth_ap2 {l m : List DV} {x : DV} (k : Nat) (h : k = l.length) : nth (t := tVec) (l ++ x :: m) k = x := by
  subst h
  rw [nth_lt (by simp), List.getElem_append_right (Nat.le_refl _)]
  simp
theorem nth_last {r : List DV} {x : DV} (h : r.getLast? = some x) : nth (t := tVec) r (r.length - 1) = x := by
  obtain ⟨ys, rfl⟩ := List.getLast?_eq_some_iff.1 h
  rw [show (ys ++ [x]).length - 1 = ys.length by simp]
  exact nth_ap2 _ rfl
theorem nth_head {r : List DV} {x : DV} (h : r.head? = some x) : nth (t := tVec) r 0 = x := by
  cases r with
  | nil => simp at h
  | cons a r => simp at h; exact h
/-- Two chains between the first and the last of all points: the polygon. -/
theorem two_cvx {S R R' : List DV} {m M : DV} (hm : m ∈ S) (hM : M ∈ S) (hmM : ltV m M) (hR : ChOK (fun p => p ∈ S) R) (hR' : ChOK (fun p => ngV p ∈ S) (R'.map ngV)) (hh : R.head? = some M) (hl : R.getLast? = some m) (hh' : R'.head? = some m) (hl' : R'.getLast? = some M)
    (hn : ∃ a ∈ S, ∃ b ∈ S, ∃ c ∈ S, trn a b c ≠ 0) : Cvx (fun p => p ∈ S) (R.reverse.dropLast ++ R'.reverse.dropLast) := by
  have inj : ∀ {a b : DV}, ngV a = ngV b → a = b := fun {a b} e => by rw [← ngV_ngV a, e, ngV_ngV]
  have hne : m ≠ M := fun h => by subst h; exact ltV_irrefl _ hmM
  have k1 : 2 ≤ R.length := by
    match R, hh, hl with
    | [a], h1, h2 => simp at h1 h2; exact absurd (h2.symm.trans h1) hne
    | _ :: _ :: _, _, _ => simp
  have k2 : 2 ≤ R'.length := by
    match R', hh', hl' with
    | [a], h1, h2 => simp at h1 h2; exact absurd (h1.symm.trans h2) hne
    | _ :: _ :: _, _, _ => simp
  have mR : m ∈ R := List.mem_of_getLast? hl
  have MR : M ∈ R := List.mem_of_head? hh
  have mR' : m ∈ R' := List.mem_of_head? hh'
  have MR' : M ∈ R' := List.mem_of_getLast? hl'
  have hR2 : ChOK (fun p => ngV (ngV p) ∈ S) ((R.map ngV).map ngV) := by rw [map_ng_ng]; simpa [ngV_ngV] using hR
  -- what an edge has on its left
  have bnd : ∀ e, (e ∈ edg R ∨ e ∈ edg R') → (∀ p ∈ S, 0 ≤ trn e.1 e.2 p) ∧ ∀ x, (x ∈ R ∨ x ∈ R') → x = e.1 ∨ x = e.2 ∨ 0 < trn e.1 e.2 x := by
    rintro e (he | he)
    · refine ⟨hR.low e he, fun x hx => ?_⟩
      rcases hx with hx | hx
      · exact hR.str e he x hx
      · rcases cross_str hR hR' hx with h | h | h
        · rw [hh'] at h; injection h with h; subst h; exact hR.str e he m mR
        · rw [hl'] at h; injection h with h; subst h; exact hR.str e he M MR
        · exact .inr (.inr (h e he))
    · have he' := edg_ng_mem he
      have key : ∀ x, ngV x ∈ R'.map ngV → x = e.1 ∨ x = e.2 ∨ 0 < trn e.1 e.2 x := by
        intro x hx
        rcases hR'.str _ he' _ hx with h | h | h
        · exact .inl (inj h)
        · exact .inr (.inl (inj h))
        · exact .inr (.inr (by rw [← trn_ng]; exact h))
      refine ⟨fun p hp => ?_, fun x hx => ?_⟩
      · have := hR'.low _ he' (ngV p) (by rw [ngV_ngV]; exact hp)
        rw [← trn_ng]; exact this
      · rcases hx with hx | hx
        · rcases cross_str hR' hR2 (List.mem_map_of_mem hx) with h | h | h
          · rw [List.head?_map, hh] at h; injection h with h; rw [← inj h]; exact key M (List.mem_map_of_mem MR')
          · rw [List.getLast?_map, hl] at h; injection h with h; rw [← inj h]; exact key m (List.mem_map_of_mem mR')
          · exact .inr (.inr (by rw [← trn_ng]; exact h _ he'))
        · exact key x (List.mem_map_of_mem hx)
  have lL : R.reverse.length = R.length := List.length_reverse
  have lU : R'.reverse.length = R'.length := List.length_reverse
  have lLd : R.reverse.dropLast.length = R.length - 1 := by rw [List.length_dropLast, lL]
  have lUd : R'.reverse.dropLast.length = R'.length - 1 := by rw [List.length_dropLast, lU]
  have hH : (R.reverse.dropLast ++ R'.reverse.dropLast).length = (R.length - 1) + (R'.length - 1) := by rw [List.length_append, lLd, lUd]
  have iL : ∀ i, i < R.length - 1 → nth (t := tVec) (R.reverse.dropLast ++ R'.reverse.dropLast) i = nth (t := tVec) R (R.length - 1 - i) := fun i hi => by
    rw [nth_al (by omega), nth_dl (by omega), nth_rev (by omega)]
  have iU : ∀ j, j < R'.length - 1 → nth (t := tVec) (R.reverse.dropLast ++ R'.reverse.dropLast) (R.length - 1 + j) = nth (t := tVec) R' (R'.length - 1 - j) := fun j hj => by
    rw [nth_ar (by omega) (by omega), lLd, show R.length - 1 + j - (R.length - 1) = j by omega, nth_dl (by omega), nth_rev (by omega)]
  have r0 := nth_head hh
  have r1 := nth_last hl
  have s0 := nth_head hh'
  have s1 := nth_last hl'
  have iedg : ∀ i, i < (R.length - 1) + (R'.length - 1) → (nth (t := tVec) (R.reverse.dropLast ++ R'.reverse.dropLast) i, nth (t := tVec) (R.reverse.dropLast ++ R'.reverse.dropLast) (nxt ((R.length - 1) + (R'.length - 1)) i).toNat) ∈ edg R ∨ (nth (t := tVec) (R.reverse.dropLast ++ R'.reverse.dropLast) i, nth (t := tVec) (R.reverse.dropLast ++ R'.reverse.dropLast) (nxt ((R.length - 1) + (R'.length - 1)) i).toNat) ∈ edg R' := by
    intro i hi
    by_cases h : i < R.length - 1
    · left
      have e := edg_idx (r := R) (i := R.length - 2 - i) (by omega)
      rw [nxt_lt (by omega), iL i h]
      have h2 : nth (t := tVec) (R.reverse.dropLast ++ R'.reverse.dropLast) (i + 1) = nth (t := tVec) R (R.length - 2 - i) := by
        by_cases h3 : i + 1 < R.length - 1
        · rw [iL _ h3]; congr 1; omega
        · rw [show i + 1 = R.length - 1 + 0 by omega, iU 0 (by omega), show R'.length - 1 - 0 = R'.length - 1 by omega, s1, show R.length - 2 - i = 0 by omega, r0]
      rw [h2, show R.length - 1 - i = R.length - 2 - i + 1 by omega]
      exact e
    · right
      obtain ⟨j, rfl⟩ : ∃ j, i = R.length - 1 + j := ⟨i - (R.length - 1), by omega⟩
      have e := edg_idx (r := R') (i := R'.length - 2 - j) (by omega)
      rw [iU j (by omega)]
      have h2 : nth (t := tVec) (R.reverse.dropLast ++ R'.reverse.dropLast) (nxt ((R.length - 1) + (R'.length - 1)) (R.length - 1 + j)).toNat = nth (t := tVec) R' (R'.length - 2 - j) := by
        by_cases h3 : j + 1 < R'.length - 1
        · rw [nxt_lt (by omega), show R.length - 1 + j + 1 = R.length - 1 + (j + 1) by omega, iU _ h3]; congr 1; omega
        · rw [nxt_end (by omega), iL 0 (by omega), show R.length - 1 - 0 = R.length - 1 by omega, r1, show R'.length - 2 - j = 0 by omega, s0]
      rw [h2, show R'.length - 1 - j = R'.length - 2 - j + 1 by omega]
      exact e
  have inH : ∀ x, x ∈ R.reverse.dropLast ++ R'.reverse.dropLast → x ∈ R ∨ x ∈ R' := by
    intro x hx
    rcases List.mem_append.1 hx with h | h
    · exact .inl (List.mem_reverse.1 (List.dropLast_subset _ h))
    · exact .inr (List.mem_reverse.1 (List.dropLast_subset _ h))
  have subS : ∀ x, (x ∈ R ∨ x ∈ R') → x ∈ S := by
    rintro x (h | h)
    · exact hR.sub x h
    · have := hR'.sub _ (List.mem_map_of_mem h); rw [ngV_ngV] at this; exact this
  have dL : R.reverse.Pairwise ltV := List.pairwise_reverse.2 hR.desc
  have dU : R'.reverse.Pairwise (fun a b => ltV b a) := by
    have := hR'.desc
    rw [List.pairwise_map] at this
    exact List.pairwise_reverse.2 (this.imp fun {a b} h => ltV_ng.1 h)
  have spL : R.reverse = R.reverse.dropLast ++ [M] := by
    have : R.reverse.getLast? = some M := by rw [List.getLast?_reverse]; exact hh
    obtain ⟨ys, hy⟩ := List.getLast?_eq_some_iff.1 this
    rw [hy]; simp
  have spU : R'.reverse = R'.reverse.dropLast ++ [m] := by
    have : R'.reverse.getLast? = some m := by rw [List.getLast?_reverse]; exact hh'
    obtain ⟨ys, hy⟩ := List.getLast?_eq_some_iff.1 this
    rw [hy]; simp
  have ltM : ∀ x ∈ R.reverse.dropLast, ltV x M := fun x hx => by
    rw [spL] at dL
    exact (List.pairwise_append.1 dL).2.2 x hx M (by simp)
  have gtm : ∀ x ∈ R'.reverse.dropLast, ltV m x := fun x hx => by
    rw [spU] at dU
    exact (List.pairwise_append.1 dU).2.2 x hx m (by simp)
  refine ⟨?_, ?_, ?_, ?_, fun x hx => subS x (inH x hx)⟩
  · rw [hH]
    by_cases h : 3 ≤ R.length - 1 + (R'.length - 1)
    · exact h
    · exfalso
      have h1 : R.length = 2 := by omega
      have h2 : R'.length = 2 := by omega
      have e1 := edg_idx (r := R) (i := 0) (by omega)
      have e2 := edg_idx (r := R') (i := 0) (by omega)
      rw [show 0 + 1 = R.length - 1 by omega, r1, r0] at e1
      rw [show 0 + 1 = R'.length - 1 by omega, s1, s0] at e2
      have z : ∀ p ∈ S, crs (sbV M m) (sbV p m) = 0 := fun p hp => by
        have p1 := (bnd _ (.inl e1)).1 p hp
        have p2 := (bnd _ (.inr e2)).1 p hp
        have : trn M m p = - trn m M p := by unfold trn; grind
        simp only at p1 p2
        rw [this] at p2
        rw [← trn_crs]
        omega
      obtain ⟨a, ha, b, hb, c, hc, hne2⟩ := hn
      refine hne2 ?_
      rw [trn_crs]
      refine col0 (d := sbV M m) (fun h => ?_) ?_ ?_
      · have q1 := congrArg Prod.fst h
        have q2 := congrArg Prod.snd h
        unfold sbV at q1 q2
        simp only at q1 q2
        exact hne (Prod.ext (by omega) (by omega))
      · have : crs (sbV M m) (sbV b a) = crs (sbV M m) (sbV b m) - crs (sbV M m) (sbV a m) := by unfold crs sbV; grind
        rw [this, z b hb, z a ha]; rfl
      · have : crs (sbV M m) (sbV c a) = crs (sbV M m) (sbV c m) - crs (sbV M m) (sbV a m) := by unfold crs sbV; grind
        rw [this, z c hc, z a ha]; rfl
  · rw [List.nodup_append]
    refine ⟨?_, ?_, ?_⟩
    · exact (dL.sublist (List.dropLast_sublist _)).imp fun {a b} h e => by subst e; exact ltV_irrefl _ h
    · exact (dU.sublist (List.dropLast_sublist _)).imp fun {a b} h e => by subst e; exact ltV_irrefl _ h
    · rintro x hx y hy rfl
      have q1 := ltM x hx
      have q2 := gtm x hy
      have hxR' : x ∈ R' := List.mem_reverse.1 (List.dropLast_subset _ hy)
      rcases cross_str hR hR' hxR' with h | h | h
      · rw [hh'] at h; injection h with h; subst h; exact ltV_irrefl _ q2
      · rw [hl'] at h; injection h with h; subst h; exact ltV_irrefl _ q1
      · obtain ⟨i, hi, rfl⟩ := List.getElem_of_mem hx
        have hi2 : i < R.length - 1 := by omega
        have e := edg_idx (r := R) (i := R.length - 2 - i) (by omega)
        have e2 : R.reverse.dropLast[i] = nth (t := tVec) R (R.length - 2 - i + 1) := by
          rw [← nth_lt (t := tVec) hi, nth_dl (by omega), nth_rev (by omega)]; congr 1; omega
        have := h _ e
        rw [e2] at this
        simp only at this
        rw [trn_aa] at this
        omega
  · intro i hi x hx
    rw [hH] at hi ⊢
    exact (bnd _ (iedg i hi)).2 x (inH x hx)
  · intro i hi p hp
    rw [hH] at hi ⊢
    exact (bnd _ (iedg i hi)).1 p hp
theorem hull_cvx {S : List DV} (hs : S.Pairwise ltV) (hn : ∃ a ∈ S, ∃ b ∈ S, ∃ c ∈ S, trn a b c ≠ 0) : Cvx (fun p => p ∈ S) (chD S ++ chD S.reverse) := by
  have hn' := hn
  obtain ⟨a, ha, b, hb, c, hc, hne⟩ := hn'
  obtain ⟨n, hnl⟩ : ∃ n, S.length = n + 1 := ⟨S.length - 1, by have := List.length_pos_of_mem ha; omega⟩
  obtain ⟨t, r, e1, e2, e3, hR⟩ := chR_ok n hnl hs
  have hsr : (S.reverse.map ngV).Pairwise ltV := by
    rw [List.pairwise_map, List.pairwise_reverse]
    exact hs.imp fun {a b} h => ltV_ng.2 h
  obtain ⟨t', r', f1, f2, f3, hR0⟩ := chR_ok n (l := S.reverse.map ngV) (by rw [List.length_map, List.length_reverse]; exact hnl) hsr
  rw [chR_ng] at f1 f2 hR0
  have hR' : ChOK (fun p => (ngV p) ∈ S) ((chR S.reverse).map ngV) := by
    refine ⟨hR0.desc, hR0.cvx, fun e he p hp => hR0.low e he p ?_, hR0.str, fun x hx => ?_⟩
    · rw [show p = ngV (ngV p) from (ngV_ngV p).symm]
      exact List.mem_map_of_mem (List.mem_reverse.2 hp)
    · obtain ⟨y, hy, rfl⟩ := List.mem_map.1 (hR0.sub x hx)
      rw [ngV_ngV]
      exact List.mem_reverse.1 hy
  have injO : ∀ {a b : Option DV}, a.map ngV = b.map ngV → a = b := by
    intro a b h
    have := congrArg (Option.map ngV) h
    simpa [Option.map_map, show (ngV ∘ ngV) = id from funext ngV_ngV] using this
  have g2 : (chR S.reverse).getLast? = S.getLast? := by
    rw [List.getLast?_map, List.head?_map] at f2
    rw [injO f2, List.head?_reverse]
  have g3 : (chR S.reverse).head? = S.head? := by
    have h1 : ((chR S.reverse).map ngV).head? = some t' := by rw [f1]; rfl
    rw [← f3, List.head?_map, List.getLast?_map, List.getLast?_reverse] at h1
    exact injO h1
  have g1 : (chR S).head? = S.getLast? := by rw [e1, e3]; rfl
  obtain ⟨m, S', rfl⟩ : ∃ m S', S = m :: S' := by
    cases S with
    | nil => simp at ha
    | cons m S' => exact ⟨m, S', rfl⟩
  obtain ⟨M, hM1, hM2⟩ : ∃ M, (m :: S').getLast? = some M ∧ M ∈ S' := by
    cases S' with
    | nil =>
      simp at ha hb hc
      subst ha hb hc
      exact absurd (trn_aa _ _) hne
    | cons x S' => exact ⟨(x :: S').getLast (by simp), by rw [List.getLast?_cons_cons, List.getLast?_eq_some_getLast], List.getLast_mem _⟩
  exact two_cvx (m := m) (M := M) (by simp) (List.mem_cons_of_mem _ hM2) ((List.pairwise_cons.1 hs).1 M hM2) hR hR' (g1.trans hM1) e2 g3 (g2.trans hM1) hn
end Go.Proofs.YtghckbohaghgkaaGreat.DW
