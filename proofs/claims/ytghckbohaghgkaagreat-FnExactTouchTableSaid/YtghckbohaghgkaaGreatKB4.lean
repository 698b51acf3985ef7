/-
  Texts of a proof, one behind another: Dw10, Dw11, Dw12, Dw13, Dw16, Dw18, Dw21, Dw23, Dw24, Hl1, Dw40, Dw14, Dw15, CnO, Dw22, Dw17, Dw28, Ints, Own, Copy, PtOr, Dw19, Dw41, Dw47, ArIn, Dw25, Same.
-/
import Derived.Deep.AppendLies
import Derived.Test.YtghckbohaghgkaaGreatProg
import Derived.Deep.RegionHeld3
import Derived.Deep.RegionLaw
import Derived.Lib.SliceRun
import Derived.Deep.LoopGhost
import Derived.Test.YtghckbohaghgkaaGreatKB3
set_option linter.all false
/-
  Fractions: validity, making.
-/
namespace Go.Proofs.YtghckbohaghgkaaGreat.DW
open Go.RowKit
@[go_sem] theorem oD_s (q : Rat) : oD (some q) = ratD q := (rfl)
@[go_sem] theorem oD_n : oD none = rZ := (rfl)
attribute [go_sem] ratD rZ bZ
theorem one_iff {n : Nat} : ((nl n : Int) = 1 ∧ (dg n 0 : Int) = 1) ↔ n = 1 := by
  constructor
  · rintro ⟨h1, h2⟩
    have := dg_one (b := n) (by omega)
    omega
  · rintro rfl
    have h : nl 1 = 1 := by rw [nl_pos (by decide), show 1 / 1000000000 = 0 from rfl, nl_zero]
    exact ⟨by omega, by have := dg_one h; omega⟩
theorem isOne_fn (n : Nat) : Fn Tryz.prog 221 [⟨tInts, natL n⟩] false [⟨.bool, decide (n = 1)⟩] := by
  by_cases h1 : (nl n : Int) = 1
  · have hiff := @one_iff n
    refine fn_enter tabOK mixes Tryz.func221 rfl rfl _ Tryz.ntmps221 _ Tryz.results221 (by simp) fun hwf => ?_
    try simp (maxSteps := 9999999) only [go_sem, h1]
    repeat refine And.intro (by first|omega|(constructor<;>omega)|kernel_rfl) ?_
    rw [decide_eq_decide]; omega
  · have hn : n ≠ 1 := fun h => h1 (one_iff.2 h).1
    refine fn_enter tabOK mixes Tryz.func221 rfl rfl _ Tryz.ntmps221 _ Tryz.results221 (by simp) fun hwf => ?_
    try simp (maxSteps := 9999999) only [go_sem, h1]
    simp [hn]
theorem l04One_fn (n : Nat) : Fn Tryz.prog 144 [⟨tInts, natL n⟩] false [⟨.bool, decide (n = 1)⟩] := by
  by_cases h1 : (nl n : Int) = 1
  · have hiff := @one_iff n
    refine fn_enter tabOK mixes Tryz.func144 rfl rfl _ Tryz.ntmps144 _ Tryz.results144 (by simp) fun hwf => ?_
    try simp (maxSteps := 9999999) only [go_sem, h1]
    repeat refine And.intro (by first|omega|(constructor<;>omega)|kernel_rfl) ?_
    rw [decide_eq_decide]; omega
  · have hn : n ≠ 1 := fun h => h1 (one_iff.2 h).1
    refine fn_enter tabOK mixes Tryz.func144 rfl rfl _ Tryz.ntmps144 _ Tryz.results144 (by simp) fun hwf => ?_
    try simp (maxSteps := 9999999) only [go_sem, h1]
    simp [hn]
theorem bool_ext' {a b : Bool} (h : a = true ↔ b = true) : a = b := by cases a <;> cases b <;> simp_all
theorem okB_iff {x : DB} : okB x = true ↔ okBP x := by
  constructor
  · intro h; exact Classical.byContradiction fun hn => by rw [okB, bdec_f hn] at h; cases h
  · exact fun h => bdec_t h
theorem okN_iff {l : List Int} : okN l = true ↔ okNP l := by
  constructor
  · intro h; exact Classical.byContradiction fun hn => by rw [okN, bdec_f hn] at h; cases h
  · exact fun h => bdec_t h
theorem okR_eq (x : DB) (d : List Int) : okR (x, d) = (okB x && okN d && !decide ((d.length : Int) = 0) && !decide (24 < (x.2.length : Int)) && !decide (24 < (d.length : Int)) && decide (Nat.gcd (val x.2) (val d) = 1)) := by
  apply bool_ext'
  rw [okR_iff]
  simp only [Bool.and_eq_true, okB_iff, okN_iff, Bool.not_eq_true', decide_eq_false_iff_not, decide_eq_true_eq, and_assoc]
  constructor
  · rintro ⟨h1, h2, h3, h4, h5, h6⟩
    refine ⟨h1, h2, fun h => h3 (List.eq_nil_of_length_eq_zero (by omega)), by omega, by omega, h6⟩
  · rintro ⟨h1, h2, h3, h4, h5, h6⟩
    refine ⟨h1, h2, fun h => h3 (by rw [h]; rfl), by omega, by omega, h6⟩
theorem implRatOk_fn (r : DR) : Fn Tryz.prog 181 [⟨tRat, r⟩] false [⟨.bool, okR r⟩] := by
  obtain ⟨x, d⟩ := r
  rw [okR_eq]
  cases h1 : okB x
  · refine fn_enter tabOK mixes Tryz.func181 rfl rfl _ Tryz.ntmps181 _ Tryz.results181 (by simp) fun hwf => ?_
    try simp (maxSteps := 9999999) only [go_sem]
    repeat refine And.intro (by first|omega|(constructor<;>omega)|kernel_rfl) ?_
    refine CallW.mk (implBigIntOk_fn x) ?_
    try simp (maxSteps := 9999999) only [go_sem]
    try simp (maxSteps := 9999999) only [go_sem, h1]
  cases h2 : okN d
  · refine fn_enter tabOK mixes Tryz.func181 rfl rfl _ Tryz.ntmps181 _ Tryz.results181 (by simp) fun hwf => ?_
    try simp (maxSteps := 9999999) only [go_sem]
    repeat refine And.intro (by first|omega|(constructor<;>omega)|kernel_rfl) ?_
    refine CallW.mk (implBigIntOk_fn x) ?_
    try simp (maxSteps := 9999999) only [go_sem]
    try simp (maxSteps := 9999999) only [go_sem, h1]
    repeat refine And.intro (by first|omega|(constructor<;>omega)|kernel_rfl) ?_
    refine CallW.mk (implNatOk_fn d) ?_
    try simp (maxSteps := 9999999) only [go_sem]
    try simp (maxSteps := 9999999) only [go_sem, h2]
  by_cases h3 : (d.length : Int) = 0
  · refine fn_enter tabOK mixes Tryz.func181 rfl rfl _ Tryz.ntmps181 _ Tryz.results181 (by simp) fun hwf => ?_
    try simp (maxSteps := 9999999) only [go_sem]
    repeat refine And.intro (by first|omega|(constructor<;>omega)|kernel_rfl) ?_
    refine CallW.mk (implBigIntOk_fn x) ?_
    try simp (maxSteps := 9999999) only [go_sem]
    try simp (maxSteps := 9999999) only [go_sem, h1]
    repeat refine And.intro (by first|omega|(constructor<;>omega)|kernel_rfl) ?_
    refine CallW.mk (implNatOk_fn d) ?_
    try simp (maxSteps := 9999999) only [go_sem]
    try simp (maxSteps := 9999999) only [go_sem, h2, h3]
  by_cases h4 : 24 < (x.2.length : Int)
  · refine fn_enter tabOK mixes Tryz.func181 rfl rfl _ Tryz.ntmps181 _ Tryz.results181 (by simp) fun hwf => ?_
    try simp (maxSteps := 9999999) only [go_sem]
    repeat refine And.intro (by first|omega|(constructor<;>omega)|kernel_rfl) ?_
    refine CallW.mk (implBigIntOk_fn x) ?_
    try simp (maxSteps := 9999999) only [go_sem]
    try simp (maxSteps := 9999999) only [go_sem, h1]
    repeat refine And.intro (by first|omega|(constructor<;>omega)|kernel_rfl) ?_
    refine CallW.mk (implNatOk_fn d) ?_
    try simp (maxSteps := 9999999) only [go_sem]
    try simp (maxSteps := 9999999) only [go_sem, h2, h3, h4]
  by_cases h5 : 24 < (d.length : Int)
  · refine fn_enter tabOK mixes Tryz.func181 rfl rfl _ Tryz.ntmps181 _ Tryz.results181 (by simp) fun hwf => ?_
    try simp (maxSteps := 9999999) only [go_sem]
    repeat refine And.intro (by first|omega|(constructor<;>omega)|kernel_rfl) ?_
    refine CallW.mk (implBigIntOk_fn x) ?_
    try simp (maxSteps := 9999999) only [go_sem]
    try simp (maxSteps := 9999999) only [go_sem, h1]
    repeat refine And.intro (by first|omega|(constructor<;>omega)|kernel_rfl) ?_
    refine CallW.mk (implNatOk_fn d) ?_
    try simp (maxSteps := 9999999) only [go_sem]
    try simp (maxSteps := 9999999) only [go_sem, h2, h3, h4, h5]
  obtain ⟨z, rfl, _⟩ := okBP_iff.1 (okB_iff.1 h1)
  obtain ⟨n, rfl, _⟩ := okNP_iff.1 (okN_iff.1 h2)
  have h1' : okB (decide (z < 0), natL z.natAbs) = true := h1
  have h3' : ¬ (nl n : Int) = 0 := h3
  have h4' : ¬ 24 < (nl z.natAbs : Int) := h4
  have h5' : ¬ 24 < (nl n : Int) := h5
  have hv : val (bigD z).2 = z.natAbs := val_natL _
  rw [hv, val_natL]
  by_cases hn : n = 1
  · refine fn_enter tabOK mixes Tryz.func181 rfl rfl _ Tryz.ntmps181 _ Tryz.results181 (by simp) fun hwf => ?_
    try simp (maxSteps := 9999999) only [go_sem]
    repeat refine And.intro (by first|omega|(constructor<;>omega)|kernel_rfl) ?_
    refine CallW.mk (implBigIntOk_fn (bigD z)) ?_
    try simp (maxSteps := 9999999) only [go_sem]
    try simp (maxSteps := 9999999) only [go_sem, h1']
    repeat refine And.intro (by first|omega|(constructor<;>omega)|kernel_rfl) ?_
    refine CallW.mk (implNatOk_fn (natL n)) ?_
    try simp (maxSteps := 9999999) only [go_sem]
    try simp (maxSteps := 9999999) only [go_sem, h2, h3', h4', h5']
    repeat refine And.intro (by first|omega|(constructor<;>omega)|kernel_rfl) ?_
    refine CallW.mk (isOne_fn n) ?_
    try simp (maxSteps := 9999999) only [go_sem]
    try simp (maxSteps := 9999999) only [go_sem, hn]
    simp
  · refine fn_enter tabOK mixes Tryz.func181 rfl rfl _ Tryz.ntmps181 _ Tryz.results181 (by simp) fun hwf => ?_
    try simp (maxSteps := 9999999) only [go_sem]
    repeat refine And.intro (by first|omega|(constructor<;>omega)|kernel_rfl) ?_
    refine CallW.mk (implBigIntOk_fn (bigD z)) ?_
    try simp (maxSteps := 9999999) only [go_sem]
    try simp (maxSteps := 9999999) only [go_sem, h1']
    repeat refine And.intro (by first|omega|(constructor<;>omega)|kernel_rfl) ?_
    refine CallW.mk (implNatOk_fn (natL n)) ?_
    try simp (maxSteps := 9999999) only [go_sem]
    try simp (maxSteps := 9999999) only [go_sem, h2, h3', h4', h5']
    repeat refine And.intro (by first|omega|(constructor<;>omega)|kernel_rfl) ?_
    refine CallW.mk (isOne_fn n) ?_
    try simp (maxSteps := 9999999) only [go_sem]
    try simp (maxSteps := 9999999) only [go_sem, hn]
    repeat refine And.intro (by first|omega|(constructor<;>omega)|kernel_rfl) ?_
    refine CallW.mk (natGcd_fn z.natAbs n (by omega) (by omega)) ?_
    try simp (maxSteps := 9999999) only [go_sem]
    repeat refine And.intro (by first|omega|(constructor<;>omega)|kernel_rfl) ?_
    refine CallW.mk (isOne_fn (Nat.gcd z.natAbs n)) ?_
    try simp (maxSteps := 9999999) only [go_sem]
theorem specRatOk_fn (r : DR) : Fn Tryz.prog 102 [⟨tRat, r⟩] false [⟨.bool, okR r⟩] := by
  obtain ⟨x, d⟩ := r
  rw [okR_eq]
  cases h1 : okB x
  · refine fn_enter tabOK mixes Tryz.func102 rfl rfl _ Tryz.ntmps102 _ Tryz.results102 (by simp) fun hwf => ?_
    try simp (maxSteps := 9999999) only [go_sem]
    repeat refine And.intro (by first|omega|(constructor<;>omega)|kernel_rfl) ?_
    refine CallW.mk (specBigIntOk_fn x) ?_
    try simp (maxSteps := 9999999) only [go_sem]
    try simp (maxSteps := 9999999) only [go_sem, h1]
  cases h2 : okN d
  · refine fn_enter tabOK mixes Tryz.func102 rfl rfl _ Tryz.ntmps102 _ Tryz.results102 (by simp) fun hwf => ?_
    try simp (maxSteps := 9999999) only [go_sem]
    repeat refine And.intro (by first|omega|(constructor<;>omega)|kernel_rfl) ?_
    refine CallW.mk (specBigIntOk_fn x) ?_
    try simp (maxSteps := 9999999) only [go_sem]
    try simp (maxSteps := 9999999) only [go_sem, h1]
    repeat refine And.intro (by first|omega|(constructor<;>omega)|kernel_rfl) ?_
    refine CallW.mk (specNatOk_fn d) ?_
    try simp (maxSteps := 9999999) only [go_sem]
    try simp (maxSteps := 9999999) only [go_sem, h2]
  by_cases h3 : (d.length : Int) = 0
  · refine fn_enter tabOK mixes Tryz.func102 rfl rfl _ Tryz.ntmps102 _ Tryz.results102 (by simp) fun hwf => ?_
    try simp (maxSteps := 9999999) only [go_sem]
    repeat refine And.intro (by first|omega|(constructor<;>omega)|kernel_rfl) ?_
    refine CallW.mk (specBigIntOk_fn x) ?_
    try simp (maxSteps := 9999999) only [go_sem]
    try simp (maxSteps := 9999999) only [go_sem, h1]
    repeat refine And.intro (by first|omega|(constructor<;>omega)|kernel_rfl) ?_
    refine CallW.mk (specNatOk_fn d) ?_
    try simp (maxSteps := 9999999) only [go_sem]
    try simp (maxSteps := 9999999) only [go_sem, h2, h3]
  by_cases h5 : 24 < (d.length : Int)
  · refine fn_enter tabOK mixes Tryz.func102 rfl rfl _ Tryz.ntmps102 _ Tryz.results102 (by simp) fun hwf => ?_
    try simp (maxSteps := 9999999) only [go_sem]
    repeat refine And.intro (by first|omega|(constructor<;>omega)|kernel_rfl) ?_
    refine CallW.mk (specBigIntOk_fn x) ?_
    try simp (maxSteps := 9999999) only [go_sem]
    try simp (maxSteps := 9999999) only [go_sem, h1]
    repeat refine And.intro (by first|omega|(constructor<;>omega)|kernel_rfl) ?_
    refine CallW.mk (specNatOk_fn d) ?_
    try simp (maxSteps := 9999999) only [go_sem]
    try simp (maxSteps := 9999999) only [go_sem, h2, h3, h5]
  by_cases h4 : 24 < (x.2.length : Int)
  · refine fn_enter tabOK mixes Tryz.func102 rfl rfl _ Tryz.ntmps102 _ Tryz.results102 (by simp) fun hwf => ?_
    try simp (maxSteps := 9999999) only [go_sem]
    repeat refine And.intro (by first|omega|(constructor<;>omega)|kernel_rfl) ?_
    refine CallW.mk (specBigIntOk_fn x) ?_
    try simp (maxSteps := 9999999) only [go_sem]
    try simp (maxSteps := 9999999) only [go_sem, h1]
    repeat refine And.intro (by first|omega|(constructor<;>omega)|kernel_rfl) ?_
    refine CallW.mk (specNatOk_fn d) ?_
    try simp (maxSteps := 9999999) only [go_sem]
    try simp (maxSteps := 9999999) only [go_sem, h2, h3, h5, h4]
  obtain ⟨z, rfl, _⟩ := okBP_iff.1 (okB_iff.1 h1)
  obtain ⟨n, rfl, _⟩ := okNP_iff.1 (okN_iff.1 h2)
  have h1' : okB (decide (z < 0), natL z.natAbs) = true := h1
  have h3' : ¬ (nl n : Int) = 0 := h3
  have h4' : ¬ 24 < (nl z.natAbs : Int) := h4
  have h5' : ¬ 24 < (nl n : Int) := h5
  have hv : val (bigD z).2 = z.natAbs := val_natL _
  rw [hv, val_natL]
  refine fn_enter tabOK mixes Tryz.func102 rfl rfl _ Tryz.ntmps102 _ Tryz.results102 (by simp) fun hwf => ?_
  try simp (maxSteps := 9999999) only [go_sem]
  repeat refine And.intro (by first|omega|(constructor<;>omega)|kernel_rfl) ?_
  refine CallW.mk (specBigIntOk_fn (bigD z)) ?_
  try simp (maxSteps := 9999999) only [go_sem]
  try simp (maxSteps := 9999999) only [go_sem, h1']
  repeat refine And.intro (by first|omega|(constructor<;>omega)|kernel_rfl) ?_
  refine CallW.mk (specNatOk_fn (natL n)) ?_
  try simp (maxSteps := 9999999) only [go_sem]
  try simp (maxSteps := 9999999) only [go_sem, h2, h3', h4', h5']
  repeat refine And.intro (by first|omega|(constructor<;>omega)|kernel_rfl) ?_
  refine CallW.mk (l02Gcd_fn z.natAbs n (by omega) (by omega)) ?_
  try simp (maxSteps := 9999999) only [go_sem]
  repeat refine And.intro (by first|omega|(constructor<;>omega)|kernel_rfl) ?_
  refine CallW.mk (l04One_fn (Nat.gcd z.natAbs n)) ?_
  try simp (maxSteps := 9999999) only [go_sem]
theorem isGood_fn (x : Option Rat) : Fn Tryz.prog 150 [⟨tRat, oD x⟩] false [⟨.bool, x.isSome⟩] := by
  cases x with
  | none =>
    refine fn_enter tabOK mixes Tryz.func150 rfl rfl _ Tryz.ntmps150 _ Tryz.results150 (by simp) fun hwf => ?_
    try simp (maxSteps := 9999999) only [go_sem]
    rfl
  | some q =>
    have h : (0 : Int) < nl q.den := nlpos.2 (den_pos' q)
    refine fn_enter tabOK mixes Tryz.func150 rfl rfl _ Tryz.ntmps150 _ Tryz.results150 (by simp) fun hwf => ?_
    try simp (maxSteps := 9999999) only [go_sem, h]
end Go.Proofs.YtghckbohaghgkaaGreat.DW

/-
  Fractions: making, sums, products, comparisons, of the program.
-/
namespace Go.Proofs.YtghckbohaghgkaaGreat.DW
open Go.RowKit
theorem capR_data {q : Rat} (h : small q) : oD (capR q) = ((decide (q.num < 0), natL q.num.natAbs), natL q.den) := by rw [capR_s h]; rfl
theorem capR_none {q : Rat} (h : ¬ small q) : oD (capR q) = ((false, []), []) := by rw [capR_n h]; rfl
/-- A number as a positive integer. -/
theorem bigMulN_fn (x : Int) (n : Nat) (hx : nl x.natAbs ≤ 10000) (hy : nl n ≤ 10000) : Fn Tryz.prog 196 [⟨tBig, bigD x⟩, ⟨tBig, (false, natL n)⟩] false [⟨tBig, bigD (x * n)⟩] := by
  have := bigMul_fn x n hx (by simpa using hy)
  rw [bigD_nat] at this
  exact this
theorem ratMake_end (z : Int) (n : Nat) (hn : n ≠ 0) (hz : nl z.natAbs ≤ 10000) (hnl : nl n ≤ 10000) : Fn Tryz.prog 216 [⟨tBig, bigD z⟩, ⟨tInts, natL n⟩] true [⟨tRat, oD (capR (_root_.mkRat z n))⟩] := by
  obtain ⟨m1, m2, m3⟩ := mk_abs (z := z) hn
  generalize hq : _root_.mkRat z n = q at *
  have hg0 : 0 < Nat.gcd z.natAbs n := Nat.gcd_pos_of_pos_right _ (Nat.pos_of_ne_zero hn)
  have hl1 := nl_mono (Nat.div_le_self z.natAbs (Nat.gcd z.natAbs n))
  have hl2 := nl_mono (Nat.div_le_self n (Nat.gcd z.natAbs n))
  have hl3 := nl_mono (Nat.gcd_le_right z.natAbs (Nat.pos_of_ne_zero hn))
  rw [← m1] at hl1
  rw [← m2] at hl2
  have hpath : (decide (n = 1) = true ∧ z.natAbs = q.num.natAbs ∧ n = q.den) ∨ (decide (n = 1) = false ∧ decide (Nat.gcd z.natAbs n = 1) = true ∧ z.natAbs = q.num.natAbs ∧ n = q.den) ∨ (decide (n = 1) = false ∧ decide (Nat.gcd z.natAbs n = 1) = false) := by
    by_cases h1 : n = 1
    · refine .inl ⟨decide_eq_true h1, ?_, ?_⟩
      · rw [m1, h1, Nat.gcd_one_right, Nat.div_one]
      · rw [m2, h1, Nat.gcd_one_right, Nat.div_one]
    · by_cases h2 : Nat.gcd z.natAbs n = 1
      · exact .inr (.inl ⟨decide_eq_false h1, decide_eq_true h2, by rw [m1, h2, Nat.div_one], by rw [m2, h2, Nat.div_one]⟩)
      · exact .inr (.inr ⟨decide_eq_false h1, decide_eq_false h2⟩)
  have hcn := clone_fn (natL q.den) (by show nl q.den ≤ 16777216; omega)
  have hob : small q → Fn Tryz.prog 238 [⟨tBig, (decide (z < 0), natL q.num.natAbs)⟩] true [⟨tBig, (decide (z < 0), natL q.num.natAbs)⟩] := fun hs => by
    have := ownBig_fn q.num (by have := hs.1; omega)
    unfold bigD at this
    rw [m3] at this
    exact this
  have hend : small q ∨ (24 : Int) < nl q.num.natAbs ∨ (¬ (24 : Int) < nl q.num.natAbs ∧ (24 : Int) < nl q.den) := by unfold small; omega
  rcases hpath with ⟨hd, e1, e2⟩ | ⟨hd, hd2, e1, e2⟩ | ⟨hd, hd2⟩
  · rcases hend with hs | hA | ⟨hA, hB⟩
    · rw [capR_data hs, m3]
      have hA : ¬ (24 : Int) < nl q.num.natAbs := by have := hs.1; omega
      have hB : ¬ (24 : Int) < nl q.den := by have := hs.2; omega
      have hob := hob hs
      rw [← e1] at hA hob; rw [← e2] at hB hcn; rw [← e1, ← e2]
      refine fn_enter tabOK mixes Tryz.func216 rfl rfl _ Tryz.ntmps216 _ Tryz.results216 (by simp) fun hwf => ?_
      try simp (maxSteps := 9999999) only [go_sem]
      repeat refine And.intro (by first|omega|(constructor<;>omega)|kernel_rfl) ?_
      refine CallW.mk (isOne_fn n) ?_
      try simp (maxSteps := 9999999) only [go_sem]
      try simp (maxSteps := 9999999) only [go_sem, hd, hA, hB]
      repeat refine And.intro (by first|omega|(constructor<;>omega)|kernel_rfl) ?_
      refine CallW.mk (hob) ?_
      try simp (maxSteps := 9999999) only [go_sem]
      repeat refine And.intro (by first|omega|(constructor<;>omega)|kernel_rfl) ?_
      refine CallW.mk (hcn) ?_
      try simp (maxSteps := 9999999) only [go_sem]
    · rw [capR_none (by unfold small; omega)]
      rw [← e1] at hA
      refine fn_enter tabOK mixes Tryz.func216 rfl rfl _ Tryz.ntmps216 _ Tryz.results216 (by simp) fun hwf => ?_
      try simp (maxSteps := 9999999) only [go_sem]
      repeat refine And.intro (by first|omega|(constructor<;>omega)|kernel_rfl) ?_
      refine CallW.mk (isOne_fn n) ?_
      try simp (maxSteps := 9999999) only [go_sem]
      try simp (maxSteps := 9999999) only [go_sem, hd, hA]
    · rw [capR_none (by unfold small; omega)]
      rw [← e1] at hA; rw [← e2] at hB
      refine fn_enter tabOK mixes Tryz.func216 rfl rfl _ Tryz.ntmps216 _ Tryz.results216 (by simp) fun hwf => ?_
      try simp (maxSteps := 9999999) only [go_sem]
      repeat refine And.intro (by first|omega|(constructor<;>omega)|kernel_rfl) ?_
      refine CallW.mk (isOne_fn n) ?_
      try simp (maxSteps := 9999999) only [go_sem]
      try simp (maxSteps := 9999999) only [go_sem, hd, hA, hB]
  · rcases hend with hs | hA | ⟨hA, hB⟩
    · rw [capR_data hs, m3]
      have hA : ¬ (24 : Int) < nl q.num.natAbs := by have := hs.1; omega
      have hB : ¬ (24 : Int) < nl q.den := by have := hs.2; omega
      have hob := hob hs
      rw [← e1] at hA hob; rw [← e2] at hB hcn; rw [← e1, ← e2]
      refine fn_enter tabOK mixes Tryz.func216 rfl rfl _ Tryz.ntmps216 _ Tryz.results216 (by simp) fun hwf => ?_
      try simp (maxSteps := 9999999) only [go_sem]
      repeat refine And.intro (by first|omega|(constructor<;>omega)|kernel_rfl) ?_
      refine CallW.mk (isOne_fn n) ?_
      try simp (maxSteps := 9999999) only [go_sem]
      try simp (maxSteps := 9999999) only [go_sem, hd]
      repeat refine And.intro (by first|omega|(constructor<;>omega)|kernel_rfl) ?_
      refine CallW.mk (natGcd_fn z.natAbs n (by omega) (by omega)) ?_
      try simp (maxSteps := 9999999) only [go_sem]
      repeat refine And.intro (by first|omega|(constructor<;>omega)|kernel_rfl) ?_
      refine CallW.mk (isOne_fn (Nat.gcd z.natAbs n)) ?_
      try simp (maxSteps := 9999999) only [go_sem]
      try simp (maxSteps := 9999999) only [go_sem, hd2, hA, hB]
      repeat refine And.intro (by first|omega|(constructor<;>omega)|kernel_rfl) ?_
      refine CallW.mk (hob) ?_
      try simp (maxSteps := 9999999) only [go_sem]
      repeat refine And.intro (by first|omega|(constructor<;>omega)|kernel_rfl) ?_
      refine CallW.mk (hcn) ?_
      try simp (maxSteps := 9999999) only [go_sem]
    · rw [capR_none (by unfold small; omega)]
      rw [← e1] at hA
      refine fn_enter tabOK mixes Tryz.func216 rfl rfl _ Tryz.ntmps216 _ Tryz.results216 (by simp) fun hwf => ?_
      try simp (maxSteps := 9999999) only [go_sem]
      repeat refine And.intro (by first|omega|(constructor<;>omega)|kernel_rfl) ?_
      refine CallW.mk (isOne_fn n) ?_
      try simp (maxSteps := 9999999) only [go_sem]
      try simp (maxSteps := 9999999) only [go_sem, hd]
      repeat refine And.intro (by first|omega|(constructor<;>omega)|kernel_rfl) ?_
      refine CallW.mk (natGcd_fn z.natAbs n (by omega) (by omega)) ?_
      try simp (maxSteps := 9999999) only [go_sem]
      repeat refine And.intro (by first|omega|(constructor<;>omega)|kernel_rfl) ?_
      refine CallW.mk (isOne_fn (Nat.gcd z.natAbs n)) ?_
      try simp (maxSteps := 9999999) only [go_sem]
      try simp (maxSteps := 9999999) only [go_sem, hd2, hA]
    · rw [capR_none (by unfold small; omega)]
      rw [← e1] at hA; rw [← e2] at hB
      refine fn_enter tabOK mixes Tryz.func216 rfl rfl _ Tryz.ntmps216 _ Tryz.results216 (by simp) fun hwf => ?_
      try simp (maxSteps := 9999999) only [go_sem]
      repeat refine And.intro (by first|omega|(constructor<;>omega)|kernel_rfl) ?_
      refine CallW.mk (isOne_fn n) ?_
      try simp (maxSteps := 9999999) only [go_sem]
      try simp (maxSteps := 9999999) only [go_sem, hd]
      repeat refine And.intro (by first|omega|(constructor<;>omega)|kernel_rfl) ?_
      refine CallW.mk (natGcd_fn z.natAbs n (by omega) (by omega)) ?_
      try simp (maxSteps := 9999999) only [go_sem]
      repeat refine And.intro (by first|omega|(constructor<;>omega)|kernel_rfl) ?_
      refine CallW.mk (isOne_fn (Nat.gcd z.natAbs n)) ?_
      try simp (maxSteps := 9999999) only [go_sem]
      try simp (maxSteps := 9999999) only [go_sem, hd2, hA, hB]
  · rcases hend with hs | hA | ⟨hA, hB⟩
    · rw [capR_data hs, m3]
      have hA : ¬ (24 : Int) < nl q.num.natAbs := by have := hs.1; omega
      have hB : ¬ (24 : Int) < nl q.den := by have := hs.2; omega
      have hob := hob hs
      refine fn_enter tabOK mixes Tryz.func216 rfl rfl _ Tryz.ntmps216 _ Tryz.results216 (by simp) fun hwf => ?_
      try simp (maxSteps := 9999999) only [go_sem]
      repeat refine And.intro (by first|omega|(constructor<;>omega)|kernel_rfl) ?_
      refine CallW.mk (isOne_fn n) ?_
      try simp (maxSteps := 9999999) only [go_sem]
      try simp (maxSteps := 9999999) only [go_sem, hd]
      repeat refine And.intro (by first|omega|(constructor<;>omega)|kernel_rfl) ?_
      refine CallW.mk (natGcd_fn z.natAbs n (by omega) (by omega)) ?_
      try simp (maxSteps := 9999999) only [go_sem]
      repeat refine And.intro (by first|omega|(constructor<;>omega)|kernel_rfl) ?_
      refine CallW.mk (isOne_fn (Nat.gcd z.natAbs n)) ?_
      try simp (maxSteps := 9999999) only [go_sem]
      try simp (maxSteps := 9999999) only [go_sem, hd2]
      have c1 := natDiv_fn z.natAbs (Nat.gcd z.natAbs n) hg0 (by omega) (by omega)
      rw [← m1] at c1
      repeat refine And.intro (by first|omega|(constructor<;>omega)|kernel_rfl) ?_
      refine CallW.mk (c1) ?_
      try simp (maxSteps := 9999999) only [go_sem]
      have c2 := natDiv_fn n (Nat.gcd z.natAbs n) hg0 (by omega) (by omega)
      rw [← m2] at c2
      repeat refine And.intro (by first|omega|(constructor<;>omega)|kernel_rfl) ?_
      refine CallW.mk (c2) ?_
      try simp (maxSteps := 9999999) only [go_sem]
      try simp (maxSteps := 9999999) only [go_sem, hA, hB]
      repeat refine And.intro (by first|omega|(constructor<;>omega)|kernel_rfl) ?_
      refine CallW.mk (hob) ?_
      try simp (maxSteps := 9999999) only [go_sem]
      repeat refine And.intro (by first|omega|(constructor<;>omega)|kernel_rfl) ?_
      refine CallW.mk (hcn) ?_
      try simp (maxSteps := 9999999) only [go_sem]
    · rw [capR_none (by unfold small; omega)]
      refine fn_enter tabOK mixes Tryz.func216 rfl rfl _ Tryz.ntmps216 _ Tryz.results216 (by simp) fun hwf => ?_
      try simp (maxSteps := 9999999) only [go_sem]
      repeat refine And.intro (by first|omega|(constructor<;>omega)|kernel_rfl) ?_
      refine CallW.mk (isOne_fn n) ?_
      try simp (maxSteps := 9999999) only [go_sem]
      try simp (maxSteps := 9999999) only [go_sem, hd]
      repeat refine And.intro (by first|omega|(constructor<;>omega)|kernel_rfl) ?_
      refine CallW.mk (natGcd_fn z.natAbs n (by omega) (by omega)) ?_
      try simp (maxSteps := 9999999) only [go_sem]
      repeat refine And.intro (by first|omega|(constructor<;>omega)|kernel_rfl) ?_
      refine CallW.mk (isOne_fn (Nat.gcd z.natAbs n)) ?_
      try simp (maxSteps := 9999999) only [go_sem]
      try simp (maxSteps := 9999999) only [go_sem, hd2]
      have c1 := natDiv_fn z.natAbs (Nat.gcd z.natAbs n) hg0 (by omega) (by omega)
      rw [← m1] at c1
      repeat refine And.intro (by first|omega|(constructor<;>omega)|kernel_rfl) ?_
      refine CallW.mk (c1) ?_
      try simp (maxSteps := 9999999) only [go_sem]
      have c2 := natDiv_fn n (Nat.gcd z.natAbs n) hg0 (by omega) (by omega)
      rw [← m2] at c2
      repeat refine And.intro (by first|omega|(constructor<;>omega)|kernel_rfl) ?_
      refine CallW.mk (c2) ?_
      try simp (maxSteps := 9999999) only [go_sem]
      try simp (maxSteps := 9999999) only [go_sem, hA]
    · rw [capR_none (by unfold small; omega)]
      refine fn_enter tabOK mixes Tryz.func216 rfl rfl _ Tryz.ntmps216 _ Tryz.results216 (by simp) fun hwf => ?_
      try simp (maxSteps := 9999999) only [go_sem]
      repeat refine And.intro (by first|omega|(constructor<;>omega)|kernel_rfl) ?_
      refine CallW.mk (isOne_fn n) ?_
      try simp (maxSteps := 9999999) only [go_sem]
      try simp (maxSteps := 9999999) only [go_sem, hd]
      repeat refine And.intro (by first|omega|(constructor<;>omega)|kernel_rfl) ?_
      refine CallW.mk (natGcd_fn z.natAbs n (by omega) (by omega)) ?_
      try simp (maxSteps := 9999999) only [go_sem]
      repeat refine And.intro (by first|omega|(constructor<;>omega)|kernel_rfl) ?_
      refine CallW.mk (isOne_fn (Nat.gcd z.natAbs n)) ?_
      try simp (maxSteps := 9999999) only [go_sem]
      try simp (maxSteps := 9999999) only [go_sem, hd2]
      have c1 := natDiv_fn z.natAbs (Nat.gcd z.natAbs n) hg0 (by omega) (by omega)
      rw [← m1] at c1
      repeat refine And.intro (by first|omega|(constructor<;>omega)|kernel_rfl) ?_
      refine CallW.mk (c1) ?_
      try simp (maxSteps := 9999999) only [go_sem]
      have c2 := natDiv_fn n (Nat.gcd z.natAbs n) hg0 (by omega) (by omega)
      rw [← m2] at c2
      repeat refine And.intro (by first|omega|(constructor<;>omega)|kernel_rfl) ?_
      refine CallW.mk (c2) ?_
      try simp (maxSteps := 9999999) only [go_sem]
      try simp (maxSteps := 9999999) only [go_sem, hA, hB]
theorem sgn_abs (s : Bool) (a : Nat) : (sgn s a).natAbs = a := by unfold sgn; split <;> omega
theorem sgn_neg (s : Bool) (a : Nat) : decide (sgn s a < 0) = (s && decide (0 < a)) := by
  unfold sgn
  cases s
  · simp
  · simp <;> omega
theorem l04Low_fn (s : Bool) (a b : Nat) (hb : b ≠ 0) (ha : nl a ≤ 60) (hbl : nl b ≤ 60) : Fn Tryz.prog 162 [⟨.bool, s⟩, ⟨tInts, natL a⟩, ⟨tInts, natL b⟩] true [⟨tRat, oD (capR (_root_.mkRat (sgn s a) b))⟩] := by
  obtain ⟨m1, m2, m3⟩ := mk_abs (z := sgn s a) hb
  rw [sgn_abs] at m1 m2
  rw [sgn_neg] at m3
  generalize hq : _root_.mkRat (sgn s a) b = q at *
  have hg0 : 0 < Nat.gcd a b := Nat.gcd_pos_of_pos_right _ (Nat.pos_of_ne_zero hb)
  have hl1 := nl_mono (Nat.div_le_self a (Nat.gcd a b))
  have hl2 := nl_mono (Nat.div_le_self b (Nat.gcd a b))
  have hl3 := nl_mono (Nat.gcd_le_right a (Nat.pos_of_ne_zero hb))
  rw [← m1] at hl1
  rw [← m2] at hl2
  have hb0 : ¬ (nl b : Int) = 0 := fun h => hb (nl_eq_zero.1 (by omega))
  have ht1 := l02Trim_fn (natL a)
  rw [trimL_natL] at ht1
  have ht2 := l02Trim_fn (natL b)
  rw [trimL_natL] at ht2
  have hqs : sgn s q.num.natAbs = q.num := by
    have h1 : (0 < a) → 0 < q.num.natAbs := fun h => by
      rw [m1]; exact Nat.div_pos (Nat.le_of_dvd h (Nat.gcd_dvd_left ..)) hg0
    have h2 : a = 0 → q.num.natAbs = 0 := fun h => by rw [m1, h, Nat.zero_div]
    unfold sgn
    cases s
    · have : ¬ q.num < 0 := by simpa using m3
      simp only [Bool.false_eq_true, if_false]; omega
    · simp only [if_true]
      rcases Nat.eq_zero_or_pos a with h | h
      · have := h2 h; omega
      · have := h1 h
        have : q.num < 0 := by simpa [h] using m3
        omega
  have hpath : (decide (b = 1) = true ∧ a = q.num.natAbs ∧ b = q.den) ∨ (decide (b = 1) = false ∧ decide (Nat.gcd a b = 1) = true ∧ a = q.num.natAbs ∧ b = q.den) ∨ (decide (b = 1) = false ∧ decide (Nat.gcd a b = 1) = false) := by
    by_cases h1 : b = 1
    · refine .inl ⟨decide_eq_true h1, ?_, ?_⟩
      · rw [m1, h1, Nat.gcd_one_right, Nat.div_one]
      · rw [m2, h1, Nat.gcd_one_right, Nat.div_one]
    · by_cases h2 : Nat.gcd a b = 1
      · exact .inr (.inl ⟨decide_eq_false h1, decide_eq_true h2, by rw [m1, h2, Nat.div_one], by rw [m2, h2, Nat.div_one]⟩)
      · exact .inr (.inr ⟨decide_eq_false h1, decide_eq_false h2⟩)
  have hob : small q → Fn Tryz.prog 163 [⟨.bool, s⟩, ⟨tInts, natL q.num.natAbs⟩] true [⟨tBig, bigD q.num⟩] := fun hs => l03Make_to hqs (by have := hs.1; omega)
  have hend : small q ∨ (24 : Int) < nl q.num.natAbs ∨ (¬ (24 : Int) < nl q.num.natAbs ∧ (24 : Int) < nl q.den) := by unfold small; omega
  rcases hpath with ⟨hd, e1, e2⟩ | ⟨hd, hd2, e1, e2⟩ | ⟨hd, hd2⟩
  · rcases hend with hs | hA | ⟨hA, hB⟩
    · rw [capR_s hs]
      have hA : ¬ (24 : Int) < nl q.num.natAbs := by have := hs.1; omega
      have hB : ¬ (24 : Int) < nl q.den := by have := hs.2; omega
      have hob := hob hs
      rw [← e1] at hA hob; rw [← e2] at hB
      refine fn_enter tabOK mixes Tryz.func162 rfl rfl _ Tryz.ntmps162 _ Tryz.results162 (by simp) fun hwf => ?_
      try simp (maxSteps := 9999999) only [go_sem]
      repeat refine And.intro (by first|omega|(constructor<;>omega)|kernel_rfl) ?_
      refine CallW.mk (ht1) ?_
      try simp (maxSteps := 9999999) only [go_sem]
      repeat refine And.intro (by first|omega|(constructor<;>omega)|kernel_rfl) ?_
      refine CallW.mk (ht2) ?_
      try simp (maxSteps := 9999999) only [go_sem]
      try simp (maxSteps := 9999999) only [go_sem, hb0]
      repeat refine And.intro (by first|omega|(constructor<;>omega)|kernel_rfl) ?_
      refine CallW.mk (l04One_fn b) ?_
      try simp (maxSteps := 9999999) only [go_sem]
      try simp (maxSteps := 9999999) only [go_sem, hd, hA, hB]
      repeat refine And.intro (by first|omega|(constructor<;>omega)|kernel_rfl) ?_
      refine CallW.mk (hob) ?_
      try simp (maxSteps := 9999999) only [go_sem]
      repeat refine And.intro (by first|omega|(constructor<;>omega)|kernel_rfl) ?_
      try simp (maxSteps := 9999999) only [go_sem, e2]
      try omega
    · rw [capR_none (by unfold small; omega)]
      rw [← e1] at hA
      refine fn_enter tabOK mixes Tryz.func162 rfl rfl _ Tryz.ntmps162 _ Tryz.results162 (by simp) fun hwf => ?_
      try simp (maxSteps := 9999999) only [go_sem]
      repeat refine And.intro (by first|omega|(constructor<;>omega)|kernel_rfl) ?_
      refine CallW.mk (ht1) ?_
      try simp (maxSteps := 9999999) only [go_sem]
      repeat refine And.intro (by first|omega|(constructor<;>omega)|kernel_rfl) ?_
      refine CallW.mk (ht2) ?_
      try simp (maxSteps := 9999999) only [go_sem]
      try simp (maxSteps := 9999999) only [go_sem, hb0]
      repeat refine And.intro (by first|omega|(constructor<;>omega)|kernel_rfl) ?_
      refine CallW.mk (l04One_fn b) ?_
      try simp (maxSteps := 9999999) only [go_sem]
      try simp (maxSteps := 9999999) only [go_sem, hd, hA]
    · rw [capR_none (by unfold small; omega)]
      rw [← e1] at hA; rw [← e2] at hB
      refine fn_enter tabOK mixes Tryz.func162 rfl rfl _ Tryz.ntmps162 _ Tryz.results162 (by simp) fun hwf => ?_
      try simp (maxSteps := 9999999) only [go_sem]
      repeat refine And.intro (by first|omega|(constructor<;>omega)|kernel_rfl) ?_
      refine CallW.mk (ht1) ?_
      try simp (maxSteps := 9999999) only [go_sem]
      repeat refine And.intro (by first|omega|(constructor<;>omega)|kernel_rfl) ?_
      refine CallW.mk (ht2) ?_
      try simp (maxSteps := 9999999) only [go_sem]
      try simp (maxSteps := 9999999) only [go_sem, hb0]
      repeat refine And.intro (by first|omega|(constructor<;>omega)|kernel_rfl) ?_
      refine CallW.mk (l04One_fn b) ?_
      try simp (maxSteps := 9999999) only [go_sem]
      try simp (maxSteps := 9999999) only [go_sem, hd, hA, hB]
  · rcases hend with hs | hA | ⟨hA, hB⟩
    · rw [capR_s hs]
      have hA : ¬ (24 : Int) < nl q.num.natAbs := by have := hs.1; omega
      have hB : ¬ (24 : Int) < nl q.den := by have := hs.2; omega
      have hob := hob hs
      rw [← e1] at hA hob; rw [← e2] at hB
      refine fn_enter tabOK mixes Tryz.func162 rfl rfl _ Tryz.ntmps162 _ Tryz.results162 (by simp) fun hwf => ?_
      try simp (maxSteps := 9999999) only [go_sem]
      repeat refine And.intro (by first|omega|(constructor<;>omega)|kernel_rfl) ?_
      refine CallW.mk (ht1) ?_
      try simp (maxSteps := 9999999) only [go_sem]
      repeat refine And.intro (by first|omega|(constructor<;>omega)|kernel_rfl) ?_
      refine CallW.mk (ht2) ?_
      try simp (maxSteps := 9999999) only [go_sem]
      try simp (maxSteps := 9999999) only [go_sem, hb0]
      repeat refine And.intro (by first|omega|(constructor<;>omega)|kernel_rfl) ?_
      refine CallW.mk (l04One_fn b) ?_
      try simp (maxSteps := 9999999) only [go_sem]
      try simp (maxSteps := 9999999) only [go_sem, hd]
      repeat refine And.intro (by first|omega|(constructor<;>omega)|kernel_rfl) ?_
      refine CallW.mk (l02Gcd_fn a b (by omega) (by omega)) ?_
      try simp (maxSteps := 9999999) only [go_sem]
      repeat refine And.intro (by first|omega|(constructor<;>omega)|kernel_rfl) ?_
      refine CallW.mk (l04One_fn (Nat.gcd a b)) ?_
      try simp (maxSteps := 9999999) only [go_sem]
      try simp (maxSteps := 9999999) only [go_sem, hd2, hA, hB]
      repeat refine And.intro (by first|omega|(constructor<;>omega)|kernel_rfl) ?_
      refine CallW.mk (hob) ?_
      try simp (maxSteps := 9999999) only [go_sem]
      repeat refine And.intro (by first|omega|(constructor<;>omega)|kernel_rfl) ?_
      try simp (maxSteps := 9999999) only [go_sem, e2]
      try omega
    · rw [capR_none (by unfold small; omega)]
      rw [← e1] at hA
      refine fn_enter tabOK mixes Tryz.func162 rfl rfl _ Tryz.ntmps162 _ Tryz.results162 (by simp) fun hwf => ?_
      try simp (maxSteps := 9999999) only [go_sem]
      repeat refine And.intro (by first|omega|(constructor<;>omega)|kernel_rfl) ?_
      refine CallW.mk (ht1) ?_
      try simp (maxSteps := 9999999) only [go_sem]
      repeat refine And.intro (by first|omega|(constructor<;>omega)|kernel_rfl) ?_
      refine CallW.mk (ht2) ?_
      try simp (maxSteps := 9999999) only [go_sem]
      try simp (maxSteps := 9999999) only [go_sem, hb0]
      repeat refine And.intro (by first|omega|(constructor<;>omega)|kernel_rfl) ?_
      refine CallW.mk (l04One_fn b) ?_
      try simp (maxSteps := 9999999) only [go_sem]
      try simp (maxSteps := 9999999) only [go_sem, hd]
      repeat refine And.intro (by first|omega|(constructor<;>omega)|kernel_rfl) ?_
      refine CallW.mk (l02Gcd_fn a b (by omega) (by omega)) ?_
      try simp (maxSteps := 9999999) only [go_sem]
      repeat refine And.intro (by first|omega|(constructor<;>omega)|kernel_rfl) ?_
      refine CallW.mk (l04One_fn (Nat.gcd a b)) ?_
      try simp (maxSteps := 9999999) only [go_sem]
      try simp (maxSteps := 9999999) only [go_sem, hd2, hA]
    · rw [capR_none (by unfold small; omega)]
      rw [← e1] at hA; rw [← e2] at hB
      refine fn_enter tabOK mixes Tryz.func162 rfl rfl _ Tryz.ntmps162 _ Tryz.results162 (by simp) fun hwf => ?_
      try simp (maxSteps := 9999999) only [go_sem]
      repeat refine And.intro (by first|omega|(constructor<;>omega)|kernel_rfl) ?_
      refine CallW.mk (ht1) ?_
      try simp (maxSteps := 9999999) only [go_sem]
      repeat refine And.intro (by first|omega|(constructor<;>omega)|kernel_rfl) ?_
      refine CallW.mk (ht2) ?_
      try simp (maxSteps := 9999999) only [go_sem]
      try simp (maxSteps := 9999999) only [go_sem, hb0]
      repeat refine And.intro (by first|omega|(constructor<;>omega)|kernel_rfl) ?_
      refine CallW.mk (l04One_fn b) ?_
      try simp (maxSteps := 9999999) only [go_sem]
      try simp (maxSteps := 9999999) only [go_sem, hd]
      repeat refine And.intro (by first|omega|(constructor<;>omega)|kernel_rfl) ?_
      refine CallW.mk (l02Gcd_fn a b (by omega) (by omega)) ?_
      try simp (maxSteps := 9999999) only [go_sem]
      repeat refine And.intro (by first|omega|(constructor<;>omega)|kernel_rfl) ?_
      refine CallW.mk (l04One_fn (Nat.gcd a b)) ?_
      try simp (maxSteps := 9999999) only [go_sem]
      try simp (maxSteps := 9999999) only [go_sem, hd2, hA, hB]
  · rcases hend with hs | hA | ⟨hA, hB⟩
    · rw [capR_s hs]
      have hA : ¬ (24 : Int) < nl q.num.natAbs := by have := hs.1; omega
      have hB : ¬ (24 : Int) < nl q.den := by have := hs.2; omega
      have hob := hob hs
      refine fn_enter tabOK mixes Tryz.func162 rfl rfl _ Tryz.ntmps162 _ Tryz.results162 (by simp) fun hwf => ?_
      try simp (maxSteps := 9999999) only [go_sem]
      repeat refine And.intro (by first|omega|(constructor<;>omega)|kernel_rfl) ?_
      refine CallW.mk (ht1) ?_
      try simp (maxSteps := 9999999) only [go_sem]
      repeat refine And.intro (by first|omega|(constructor<;>omega)|kernel_rfl) ?_
      refine CallW.mk (ht2) ?_
      try simp (maxSteps := 9999999) only [go_sem]
      try simp (maxSteps := 9999999) only [go_sem, hb0]
      repeat refine And.intro (by first|omega|(constructor<;>omega)|kernel_rfl) ?_
      refine CallW.mk (l04One_fn b) ?_
      try simp (maxSteps := 9999999) only [go_sem]
      try simp (maxSteps := 9999999) only [go_sem, hd]
      repeat refine And.intro (by first|omega|(constructor<;>omega)|kernel_rfl) ?_
      refine CallW.mk (l02Gcd_fn a b (by omega) (by omega)) ?_
      try simp (maxSteps := 9999999) only [go_sem]
      repeat refine And.intro (by first|omega|(constructor<;>omega)|kernel_rfl) ?_
      refine CallW.mk (l04One_fn (Nat.gcd a b)) ?_
      try simp (maxSteps := 9999999) only [go_sem]
      try simp (maxSteps := 9999999) only [go_sem, hd2]
      have c1 := l02Div_fn a (Nat.gcd a b) hg0 (by omega) (by omega)
      rw [← m1] at c1
      repeat refine And.intro (by first|omega|(constructor<;>omega)|kernel_rfl) ?_
      refine CallW.mk (c1) ?_
      try simp (maxSteps := 9999999) only [go_sem]
      have c2 := l02Div_fn b (Nat.gcd a b) hg0 (by omega) (by omega)
      rw [← m2] at c2
      repeat refine And.intro (by first|omega|(constructor<;>omega)|kernel_rfl) ?_
      refine CallW.mk (c2) ?_
      try simp (maxSteps := 9999999) only [go_sem]
      try simp (maxSteps := 9999999) only [go_sem, hA, hB]
      repeat refine And.intro (by first|omega|(constructor<;>omega)|kernel_rfl) ?_
      refine CallW.mk (hob) ?_
      try simp (maxSteps := 9999999) only [go_sem]
      repeat refine And.intro (by first|omega|(constructor<;>omega)|kernel_rfl) ?_
      try simp (maxSteps := 9999999) only [go_sem]
      try omega
    · rw [capR_none (by unfold small; omega)]
      refine fn_enter tabOK mixes Tryz.func162 rfl rfl _ Tryz.ntmps162 _ Tryz.results162 (by simp) fun hwf => ?_
      try simp (maxSteps := 9999999) only [go_sem]
      repeat refine And.intro (by first|omega|(constructor<;>omega)|kernel_rfl) ?_
      refine CallW.mk (ht1) ?_
      try simp (maxSteps := 9999999) only [go_sem]
      repeat refine And.intro (by first|omega|(constructor<;>omega)|kernel_rfl) ?_
      refine CallW.mk (ht2) ?_
      try simp (maxSteps := 9999999) only [go_sem]
      try simp (maxSteps := 9999999) only [go_sem, hb0]
      repeat refine And.intro (by first|omega|(constructor<;>omega)|kernel_rfl) ?_
      refine CallW.mk (l04One_fn b) ?_
      try simp (maxSteps := 9999999) only [go_sem]
      try simp (maxSteps := 9999999) only [go_sem, hd]
      repeat refine And.intro (by first|omega|(constructor<;>omega)|kernel_rfl) ?_
      refine CallW.mk (l02Gcd_fn a b (by omega) (by omega)) ?_
      try simp (maxSteps := 9999999) only [go_sem]
      repeat refine And.intro (by first|omega|(constructor<;>omega)|kernel_rfl) ?_
      refine CallW.mk (l04One_fn (Nat.gcd a b)) ?_
      try simp (maxSteps := 9999999) only [go_sem]
      try simp (maxSteps := 9999999) only [go_sem, hd2]
      have c1 := l02Div_fn a (Nat.gcd a b) hg0 (by omega) (by omega)
      rw [← m1] at c1
      repeat refine And.intro (by first|omega|(constructor<;>omega)|kernel_rfl) ?_
      refine CallW.mk (c1) ?_
      try simp (maxSteps := 9999999) only [go_sem]
      have c2 := l02Div_fn b (Nat.gcd a b) hg0 (by omega) (by omega)
      rw [← m2] at c2
      repeat refine And.intro (by first|omega|(constructor<;>omega)|kernel_rfl) ?_
      refine CallW.mk (c2) ?_
      try simp (maxSteps := 9999999) only [go_sem]
      try simp (maxSteps := 9999999) only [go_sem, hA]
    · rw [capR_none (by unfold small; omega)]
      refine fn_enter tabOK mixes Tryz.func162 rfl rfl _ Tryz.ntmps162 _ Tryz.results162 (by simp) fun hwf => ?_
      try simp (maxSteps := 9999999) only [go_sem]
      repeat refine And.intro (by first|omega|(constructor<;>omega)|kernel_rfl) ?_
      refine CallW.mk (ht1) ?_
      try simp (maxSteps := 9999999) only [go_sem]
      repeat refine And.intro (by first|omega|(constructor<;>omega)|kernel_rfl) ?_
      refine CallW.mk (ht2) ?_
      try simp (maxSteps := 9999999) only [go_sem]
      try simp (maxSteps := 9999999) only [go_sem, hb0]
      repeat refine And.intro (by first|omega|(constructor<;>omega)|kernel_rfl) ?_
      refine CallW.mk (l04One_fn b) ?_
      try simp (maxSteps := 9999999) only [go_sem]
      try simp (maxSteps := 9999999) only [go_sem, hd]
      repeat refine And.intro (by first|omega|(constructor<;>omega)|kernel_rfl) ?_
      refine CallW.mk (l02Gcd_fn a b (by omega) (by omega)) ?_
      try simp (maxSteps := 9999999) only [go_sem]
      repeat refine And.intro (by first|omega|(constructor<;>omega)|kernel_rfl) ?_
      refine CallW.mk (l04One_fn (Nat.gcd a b)) ?_
      try simp (maxSteps := 9999999) only [go_sem]
      try simp (maxSteps := 9999999) only [go_sem, hd2]
      have c1 := l02Div_fn a (Nat.gcd a b) hg0 (by omega) (by omega)
      rw [← m1] at c1
      repeat refine And.intro (by first|omega|(constructor<;>omega)|kernel_rfl) ?_
      refine CallW.mk (c1) ?_
      try simp (maxSteps := 9999999) only [go_sem]
      have c2 := l02Div_fn b (Nat.gcd a b) hg0 (by omega) (by omega)
      rw [← m2] at c2
      repeat refine And.intro (by first|omega|(constructor<;>omega)|kernel_rfl) ?_
      refine CallW.mk (c2) ?_
      try simp (maxSteps := 9999999) only [go_sem]
      try simp (maxSteps := 9999999) only [go_sem, hA, hB]
end Go.Proofs.YtghckbohaghgkaaGreat.DW

/-
  Fractions: sums, products, comparisons.
-/
namespace Go.Proofs.YtghckbohaghgkaaGreat.DW
open Go.RowKit
attribute [go_sem] Option.isSome_none bigD_nat
theorem isGood_n : Fn Tryz.prog 150 [⟨tRat, ((false, []), [])⟩] false [⟨.bool, false⟩] := isGood_fn none
theorem isGood_s (q : Rat) : Fn Tryz.prog 150 [⟨tRat, ratD q⟩] false [⟨.bool, true⟩] := isGood_fn (some q)
theorem ratCmp_fn (x y : Option Rat) (hx : okO x) (hy : okO y) : Fn Tryz.prog 151 [⟨tRat, oD x⟩, ⟨tRat, oD y⟩] false [⟨.int, cmpO x y⟩] := by
  cases x with
  | none =>
    refine fn_enter tabOK mixes Tryz.func151 rfl rfl _ Tryz.ntmps151 _ Tryz.results151 (by simp) fun hwf => ?_
    try simp (maxSteps := 9999999) only [go_sem]
    repeat refine And.intro (by first|omega|(constructor<;>omega)|kernel_rfl) ?_
    refine CallW.mk (isGood_n) ?_
    try simp (maxSteps := 9999999) only [go_sem]
    rfl
  | some p =>
    cases y with
    | none =>
      refine fn_enter tabOK mixes Tryz.func151 rfl rfl _ Tryz.ntmps151 _ Tryz.results151 (by simp) fun hwf => ?_
      try simp (maxSteps := 9999999) only [go_sem]
      repeat refine And.intro (by first|omega|(constructor<;>omega)|kernel_rfl) ?_
      refine CallW.mk (isGood_s p) ?_
      try simp (maxSteps := 9999999) only [go_sem]
      repeat refine And.intro (by first|omega|(constructor<;>omega)|kernel_rfl) ?_
      refine CallW.mk (isGood_n) ?_
      try simp (maxSteps := 9999999) only [go_sem]
      rfl
    | some q =>
      obtain ⟨p1, p2⟩ := hx p rfl
      obtain ⟨q1, q2⟩ := hy q rfl
      refine fn_enter tabOK mixes Tryz.func151 rfl rfl _ Tryz.ntmps151 _ Tryz.results151 (by simp) fun hwf => ?_
      try simp (maxSteps := 9999999) only [go_sem]
      repeat refine And.intro (by first|omega|(constructor<;>omega)|kernel_rfl) ?_
      refine CallW.mk (isGood_s p) ?_
      try simp (maxSteps := 9999999) only [go_sem]
      repeat refine And.intro (by first|omega|(constructor<;>omega)|kernel_rfl) ?_
      refine CallW.mk (isGood_s q) ?_
      try simp (maxSteps := 9999999) only [go_sem]
      repeat refine And.intro (by first|omega|(constructor<;>omega)|kernel_rfl) ?_
      refine CallW.mk (bigMulN_fn p.num q.den (by omega) (by omega)) ?_
      try simp (maxSteps := 9999999) only [go_sem]
      repeat refine And.intro (by first|omega|(constructor<;>omega)|kernel_rfl) ?_
      refine CallW.mk (bigMulN_fn q.num p.den (by omega) (by omega)) ?_
      try simp (maxSteps := 9999999) only [go_sem]
      repeat refine And.intro (by first|omega|(constructor<;>omega)|kernel_rfl) ?_
      refine CallW.mk (bigCmp_fn (p.num * q.den) (q.num * p.den)) ?_
      try simp (maxSteps := 9999999) only [go_sem]
      repeat refine And.intro (by first|omega|(constructor<;>omega)|kernel_rfl) ?_
      exact (cmpQ_eq p q).symm
theorem nl_mulZ (a : Int) (n : Nat) : nl (a * (n : Int)).natAbs ≤ nl a.natAbs + nl n := by
  rw [Int.natAbs_mul, Int.natAbs_natCast]; exact nl_mul _ _
theorem nl_addZ (a b : Int) : nl (a + b).natAbs ≤ max (nl a.natAbs) (nl b.natAbs) + 1 := Nat.le_trans (nl_mono (Int.natAbs_add_le a b)) (nl_add _ _)
theorem nl_mulI (a b : Int) : nl (a * b).natAbs ≤ nl a.natAbs + nl b.natAbs := by
  rw [Int.natAbs_mul]; exact nl_mul _ _
theorem den_mul_ne (p q : Rat) : p.den * q.den ≠ 0 := Nat.mul_ne_zero p.den_nz q.den_nz
theorem ratAdd_fn (x y : Option Rat) (hx : okO x) (hy : okO y) : Fn Tryz.prog 175 [⟨tRat, oD x⟩, ⟨tRat, oD y⟩] true [⟨tRat, oD (addO x y)⟩] := by
  cases x with
  | none =>
    refine fn_enter tabOK mixes Tryz.func175 rfl rfl _ Tryz.ntmps175 _ Tryz.results175 (by simp) fun hwf => ?_
    try simp (maxSteps := 9999999) only [go_sem]
    repeat refine And.intro (by first|omega|(constructor<;>omega)|kernel_rfl) ?_
    refine CallW.mk (isGood_n) ?_
    try simp (maxSteps := 9999999) only [go_sem]
    try simp (maxSteps := 9999999) only [go_sem, addO]
  | some p =>
    cases y with
    | none =>
      refine fn_enter tabOK mixes Tryz.func175 rfl rfl _ Tryz.ntmps175 _ Tryz.results175 (by simp) fun hwf => ?_
      try simp (maxSteps := 9999999) only [go_sem]
      repeat refine And.intro (by first|omega|(constructor<;>omega)|kernel_rfl) ?_
      refine CallW.mk (isGood_s p) ?_
      try simp (maxSteps := 9999999) only [go_sem]
      repeat refine And.intro (by first|omega|(constructor<;>omega)|kernel_rfl) ?_
      refine CallW.mk (isGood_n) ?_
      try simp (maxSteps := 9999999) only [go_sem]
      try simp (maxSteps := 9999999) only [go_sem, addO]
    | some q =>
      obtain ⟨p1, p2⟩ := hx p rfl
      obtain ⟨q1, q2⟩ := hy q rfl
      have b1 := nl_mulZ p.num q.den
      have b2 := nl_mulZ q.num p.den
      have b3 := nl_addZ (p.num * q.den) (q.num * p.den)
      have b4 := nl_mul p.den q.den
      have hm := ratMake_end (p.num * q.den + q.num * p.den) (p.den * q.den) (den_mul_ne p q) (by omega) (by omega)
      rw [← add_mk] at hm
      have e : addO (some p) (some q) = capR (p + q) := rfl
      rw [e]
      refine fn_enter tabOK mixes Tryz.func175 rfl rfl _ Tryz.ntmps175 _ Tryz.results175 (by simp) fun hwf => ?_
      try simp (maxSteps := 9999999) only [go_sem]
      repeat refine And.intro (by first|omega|(constructor<;>omega)|kernel_rfl) ?_
      refine CallW.mk (isGood_s p) ?_
      try simp (maxSteps := 9999999) only [go_sem]
      repeat refine And.intro (by first|omega|(constructor<;>omega)|kernel_rfl) ?_
      refine CallW.mk (isGood_s q) ?_
      try simp (maxSteps := 9999999) only [go_sem]
      repeat refine And.intro (by first|omega|(constructor<;>omega)|kernel_rfl) ?_
      refine CallW.mk (bigMulN_fn p.num q.den (by omega) (by omega)) ?_
      try simp (maxSteps := 9999999) only [go_sem]
      repeat refine And.intro (by first|omega|(constructor<;>omega)|kernel_rfl) ?_
      refine CallW.mk (bigMulN_fn q.num p.den (by omega) (by omega)) ?_
      try simp (maxSteps := 9999999) only [go_sem]
      repeat refine And.intro (by first|omega|(constructor<;>omega)|kernel_rfl) ?_
      refine CallW.mk (bigAdd_fn (p.num * q.den) (q.num * p.den) (by omega) (by omega)) ?_
      try simp (maxSteps := 9999999) only [go_sem]
      repeat refine And.intro (by first|omega|(constructor<;>omega)|kernel_rfl) ?_
      refine CallW.mk (natMul_fn p.den q.den (by omega) (by omega)) ?_
      try simp (maxSteps := 9999999) only [go_sem]
      repeat refine And.intro (by first|omega|(constructor<;>omega)|kernel_rfl) ?_
      refine CallW.mk (hm) ?_
      try simp (maxSteps := 9999999) only [go_sem]
      all_goals repeat refine And.intro (by first|omega|(constructor<;>omega)|kernel_rfl) ?_
      all_goals first | kernel_rfl | omega | rfl
theorem ratNeg_fn (x : Option Rat) : Fn Tryz.prog 176 [⟨tRat, oD x⟩] false [⟨tRat, oD (negO x)⟩] := by
  cases x with
  | none =>
    have hb := bigNeg_fn 0
    rw [Int.neg_zero, bigD_zero] at hb
    refine fn_enter tabOK mixes Tryz.func176 rfl rfl _ Tryz.ntmps176 _ Tryz.results176 (by simp) fun hwf => ?_
    try simp (maxSteps := 9999999) only [go_sem]
    repeat refine And.intro (by first|omega|(constructor<;>omega)|kernel_rfl) ?_
    refine CallW.mk (hb) ?_
    try simp (maxSteps := 9999999) only [go_sem]
    try simp (maxSteps := 9999999) only [go_sem, negO]
    all_goals repeat refine And.intro (by first|omega|(constructor<;>omega)|kernel_rfl) ?_
    all_goals first | kernel_rfl | omega | rfl
  | some p =>
    refine fn_enter tabOK mixes Tryz.func176 rfl rfl _ Tryz.ntmps176 _ Tryz.results176 (by simp) fun hwf => ?_
    try simp (maxSteps := 9999999) only [go_sem]
    repeat refine And.intro (by first|omega|(constructor<;>omega)|kernel_rfl) ?_
    refine CallW.mk (bigNeg_fn p.num) ?_
    try simp (maxSteps := 9999999) only [go_sem]
    try simp (maxSteps := 9999999) only [go_sem, negO, Rat.neg_num, Rat.neg_den]
    all_goals repeat refine And.intro (by first|omega|(constructor<;>omega)|kernel_rfl) ?_
    all_goals first | kernel_rfl | omega | rfl
theorem ratSub_fn (x y : Option Rat) (hx : okO x) (hy : okO y) : Fn Tryz.prog 129 [⟨tRat, oD x⟩, ⟨tRat, oD y⟩] true [⟨tRat, oD (subO x y)⟩] := by
  show Fn _ _ _ _ [⟨tRat, oD (addO x (negO y))⟩]
  have h1 := ratNeg_fn y
  have h2 := ratAdd_fn x (negO y) hx (okO_neg hy)
  refine fn_enter tabOK mixes Tryz.func129 rfl rfl _ Tryz.ntmps129 _ Tryz.results129 (by simp) fun hwf => ?_
  try simp (maxSteps := 9999999) only [go_sem]
  repeat refine And.intro (by first|omega|(constructor<;>omega)|kernel_rfl) ?_
  refine CallW.mk (h1) ?_
  try simp (maxSteps := 9999999) only [go_sem]
  repeat refine And.intro (by first|omega|(constructor<;>omega)|kernel_rfl) ?_
  refine CallW.mk (h2) ?_
  try simp (maxSteps := 9999999) only [go_sem]
  all_goals repeat refine And.intro (by first|omega|(constructor<;>omega)|kernel_rfl) ?_
  all_goals first | kernel_rfl | omega | rfl
theorem cmpQ_zero (p : Rat) : cmpQ p 0 = cmpZ p.num 0 := by
  rw [cmpQ_eq]
  simp
theorem ratSign_fn (x : Option Rat) : Fn Tryz.prog 214 [⟨tRat, oD x⟩] false [⟨.int, sgnO x⟩] := by
  cases x with
  | none =>
    refine fn_enter tabOK mixes Tryz.func214 rfl rfl _ Tryz.ntmps214 _ Tryz.results214 (by simp) fun hwf => ?_
    try simp (maxSteps := 9999999) only [go_sem]
    repeat refine And.intro (by first|omega|(constructor<;>omega)|kernel_rfl) ?_
    refine CallW.mk (isGood_n) ?_
    try simp (maxSteps := 9999999) only [go_sem]
    try simp (maxSteps := 9999999) only [go_sem, sgnO]
  | some p =>
    have e : sgnO (some p) = cmpZ p.num 0 := cmpQ_zero p
    rw [e]
    by_cases h0 : (nl p.num.natAbs : Int) = 0
    · have : p.num = 0 := by have := nl_eq_zero.1 (show nl p.num.natAbs = 0 by omega); omega
      refine fn_enter tabOK mixes Tryz.func214 rfl rfl _ Tryz.ntmps214 _ Tryz.results214 (by simp) fun hwf => ?_
      try simp (maxSteps := 9999999) only [go_sem]
      repeat refine And.intro (by first|omega|(constructor<;>omega)|kernel_rfl) ?_
      refine CallW.mk (isGood_s p) ?_
      try simp (maxSteps := 9999999) only [go_sem]
      try simp (maxSteps := 9999999) only [go_sem, h0]
      simp [cmpZ, this]
    · have h1 : p.num ≠ 0 := fun h => h0 (by rw [h]; simp [nl_zero])
      by_cases h2 : p.num < 0
      · refine fn_enter tabOK mixes Tryz.func214 rfl rfl _ Tryz.ntmps214 _ Tryz.results214 (by simp) fun hwf => ?_
        try simp (maxSteps := 9999999) only [go_sem]
        repeat refine And.intro (by first|omega|(constructor<;>omega)|kernel_rfl) ?_
        refine CallW.mk (isGood_s p) ?_
        try simp (maxSteps := 9999999) only [go_sem]
        try simp (maxSteps := 9999999) only [go_sem, h0, h2]
        simp [cmpZ, h2]
      · have h3 : 0 < p.num := by omega
        refine fn_enter tabOK mixes Tryz.func214 rfl rfl _ Tryz.ntmps214 _ Tryz.results214 (by simp) fun hwf => ?_
        try simp (maxSteps := 9999999) only [go_sem]
        repeat refine And.intro (by first|omega|(constructor<;>omega)|kernel_rfl) ?_
        refine CallW.mk (isGood_s p) ?_
        try simp (maxSteps := 9999999) only [go_sem]
        try simp (maxSteps := 9999999) only [go_sem, h0, h2]
        simp [cmpZ, h2, h3]
noncomputable def maxO : Option Rat → Option Rat → Option Rat
  | some p, some q => if 0 ≤ cmpQ p q then some p else some q
  | _, _ => none
noncomputable def minO : Option Rat → Option Rat → Option Rat
  | some p, some q => if cmpQ p q ≤ 0 then some p else some q
  | _, _ => none
theorem okO_max {x y : Option Rat} (hx : okO x) (hy : okO y) : okO (maxO x y) := by
  unfold maxO
  split
  · split
    · exact hx
    · exact hy
  · exact okO_none
theorem okO_min {x y : Option Rat} (hx : okO x) (hy : okO y) : okO (minO x y) := by
  unfold minO
  split
  · split
    · exact hx
    · exact hy
  · exact okO_none
theorem ratMax_fn (x y : Option Rat) (hx : okO x) (hy : okO y) : Fn Tryz.prog 228 [⟨tRat, oD x⟩, ⟨tRat, oD y⟩] false [⟨tRat, oD (maxO x y)⟩] := by
  cases x with
  | none =>
    refine fn_enter tabOK mixes Tryz.func228 rfl rfl _ Tryz.ntmps228 _ Tryz.results228 (by simp) fun hwf => ?_
    try simp (maxSteps := 9999999) only [go_sem]
    repeat refine And.intro (by first|omega|(constructor<;>omega)|kernel_rfl) ?_
    refine CallW.mk (isGood_n) ?_
    try simp (maxSteps := 9999999) only [go_sem]
    try simp (maxSteps := 9999999) only [go_sem, maxO]
  | some p =>
    cases y with
    | none =>
      refine fn_enter tabOK mixes Tryz.func228 rfl rfl _ Tryz.ntmps228 _ Tryz.results228 (by simp) fun hwf => ?_
      try simp (maxSteps := 9999999) only [go_sem]
      repeat refine And.intro (by first|omega|(constructor<;>omega)|kernel_rfl) ?_
      refine CallW.mk (isGood_s p) ?_
      try simp (maxSteps := 9999999) only [go_sem]
      repeat refine And.intro (by first|omega|(constructor<;>omega)|kernel_rfl) ?_
      refine CallW.mk (isGood_n) ?_
      try simp (maxSteps := 9999999) only [go_sem]
      try simp (maxSteps := 9999999) only [go_sem, maxO]
    | some q =>
      have hc := ratCmp_fn (some p) (some q) hx hy
      have e : cmpO (some p) (some q) = cmpQ p q := rfl
      rw [e] at hc
      by_cases h : 0 ≤ cmpQ p q
      · have e2 : maxO (some p) (some q) = some p := if_pos h
        rw [e2]
        refine fn_enter tabOK mixes Tryz.func228 rfl rfl _ Tryz.ntmps228 _ Tryz.results228 (by simp) fun hwf => ?_
        try simp (maxSteps := 9999999) only [go_sem]
        repeat refine And.intro (by first|omega|(constructor<;>omega)|kernel_rfl) ?_
        refine CallW.mk (isGood_s p) ?_
        try simp (maxSteps := 9999999) only [go_sem]
        repeat refine And.intro (by first|omega|(constructor<;>omega)|kernel_rfl) ?_
        refine CallW.mk (isGood_s q) ?_
        try simp (maxSteps := 9999999) only [go_sem]
        repeat refine And.intro (by first|omega|(constructor<;>omega)|kernel_rfl) ?_
        refine CallW.mk (hc) ?_
        try simp (maxSteps := 9999999) only [go_sem]
        try simp (maxSteps := 9999999) only [go_sem, h]
      · have e2 : maxO (some p) (some q) = some q := if_neg h
        rw [e2]
        refine fn_enter tabOK mixes Tryz.func228 rfl rfl _ Tryz.ntmps228 _ Tryz.results228 (by simp) fun hwf => ?_
        try simp (maxSteps := 9999999) only [go_sem]
        repeat refine And.intro (by first|omega|(constructor<;>omega)|kernel_rfl) ?_
        refine CallW.mk (isGood_s p) ?_
        try simp (maxSteps := 9999999) only [go_sem]
        repeat refine And.intro (by first|omega|(constructor<;>omega)|kernel_rfl) ?_
        refine CallW.mk (isGood_s q) ?_
        try simp (maxSteps := 9999999) only [go_sem]
        repeat refine And.intro (by first|omega|(constructor<;>omega)|kernel_rfl) ?_
        refine CallW.mk (hc) ?_
        try simp (maxSteps := 9999999) only [go_sem]
        try simp (maxSteps := 9999999) only [go_sem, h]
end Go.Proofs.YtghckbohaghgkaaGreat.DW

/-
  Fractions: sums, products, comparisons, of the reference.
-/
namespace Go.Proofs.YtghckbohaghgkaaGreat.DW
open Go.RowKit
theorem sgn_mulN (x : Int) (n : Nat) : sgn (decide (x < 0)) (x.natAbs * n) = x * n := by
  unfold sgn
  by_cases h : x < 0
  · simp only [h, decide_true, if_true, Int.natCast_mul]
    rw [show (x.natAbs : Int) = -x by omega, Int.neg_mul, Int.neg_neg]
  · simp only [h, decide_false, Bool.false_eq_true, if_false, Int.natCast_mul]
    rw [show (x.natAbs : Int) = x by omega]
theorem l04Cmp_fn (p q : Rat) (hp : small p) (hq : small q) : Fn Tryz.prog 146 [⟨tRat, ratD p⟩, ⟨tRat, ratD q⟩] false [⟨.int, cmpQ p q⟩] := by
  obtain ⟨p1, p2⟩ := hp
  obtain ⟨q1, q2⟩ := hq
  have b1 := nl_mul p.num.natAbs q.den
  have b2 := nl_mul q.num.natAbs p.den
  refine fn_enter tabOK mixes Tryz.func146 rfl rfl _ Tryz.ntmps146 _ Tryz.results146 (by simp) fun hwf => ?_
  try simp (maxSteps := 9999999) only [go_sem]
  repeat refine And.intro (by first|omega|(constructor<;>omega)|kernel_rfl) ?_
  refine CallW.mk (l02Mul_fn p.num.natAbs q.den (by omega) (by omega)) ?_
  try simp (maxSteps := 9999999) only [go_sem]
  repeat refine And.intro (by first|omega|(constructor<;>omega)|kernel_rfl) ?_
  refine CallW.mk (l03Make_to (sgn_mulN p.num q.den) (by omega)) ?_
  try simp (maxSteps := 9999999) only [go_sem]
  repeat refine And.intro (by first|omega|(constructor<;>omega)|kernel_rfl) ?_
  refine CallW.mk (l02Mul_fn q.num.natAbs p.den (by omega) (by omega)) ?_
  try simp (maxSteps := 9999999) only [go_sem]
  repeat refine And.intro (by first|omega|(constructor<;>omega)|kernel_rfl) ?_
  refine CallW.mk (l03Make_to (sgn_mulN q.num p.den) (by omega)) ?_
  try simp (maxSteps := 9999999) only [go_sem]
  repeat refine And.intro (by first|omega|(constructor<;>omega)|kernel_rfl) ?_
  refine CallW.mk (l03Cmp_fn (p.num * q.den) (q.num * p.den)) ?_
  try simp (maxSteps := 9999999) only [go_sem]
  repeat refine And.intro (by first|omega|(constructor<;>omega)|kernel_rfl) ?_
  exact (cmpQ_eq p q).symm
theorem specRatCmp_fn (r s : DR) : Fn Tryz.prog 103 [⟨tRat, r⟩, ⟨tRat, s⟩] false [⟨.int, cmpO (rdO r) (rdO s)⟩] := by
  cases hr : okR r
  · rw [okR_f hr]
    refine fn_enter tabOK mixes Tryz.func103 rfl rfl _ Tryz.ntmps103 _ Tryz.results103 (by simp) fun hwf => ?_
    try simp (maxSteps := 9999999) only [go_sem]
    repeat refine And.intro (by first|omega|(constructor<;>omega)|kernel_rfl) ?_
    refine CallW.mk (specRatOk_fn r) ?_
    try simp (maxSteps := 9999999) only [go_sem]
    try simp (maxSteps := 9999999) only [go_sem, hr]
    rfl
  · cases hs : okR s
    · rw [okR_f hs]
      have e : cmpO (rdO r) none = 0 := by unfold cmpO; cases rdO r <;> rfl
      rw [e]
      refine fn_enter tabOK mixes Tryz.func103 rfl rfl _ Tryz.ntmps103 _ Tryz.results103 (by simp) fun hwf => ?_
      try simp (maxSteps := 9999999) only [go_sem]
      repeat refine And.intro (by first|omega|(constructor<;>omega)|kernel_rfl) ?_
      refine CallW.mk (specRatOk_fn r) ?_
      try simp (maxSteps := 9999999) only [go_sem]
      try simp (maxSteps := 9999999) only [go_sem, hr]
      repeat refine And.intro (by first|omega|(constructor<;>omega)|kernel_rfl) ?_
      refine CallW.mk (specRatOk_fn s) ?_
      try simp (maxSteps := 9999999) only [go_sem]
      try simp (maxSteps := 9999999) only [go_sem, hs]
    · obtain ⟨p, hp, rfl, e1⟩ := okR_t hr
      obtain ⟨q, hq, rfl, e2⟩ := okR_t hs
      rw [e1, e2]
      have hr' : okR ((decide (p.num < 0), natL p.num.natAbs), natL p.den) = true := hr
      have hs' : okR ((decide (q.num < 0), natL q.num.natAbs), natL q.den) = true := hs
      refine fn_enter tabOK mixes Tryz.func103 rfl rfl _ Tryz.ntmps103 _ Tryz.results103 (by simp) fun hwf => ?_
      try simp (maxSteps := 9999999) only [go_sem]
      repeat refine And.intro (by first|omega|(constructor<;>omega)|kernel_rfl) ?_
      refine CallW.mk (specRatOk_fn (ratD p)) ?_
      try simp (maxSteps := 9999999) only [go_sem]
      try simp (maxSteps := 9999999) only [go_sem, hr']
      repeat refine And.intro (by first|omega|(constructor<;>omega)|kernel_rfl) ?_
      refine CallW.mk (specRatOk_fn (ratD q)) ?_
      try simp (maxSteps := 9999999) only [go_sem]
      try simp (maxSteps := 9999999) only [go_sem, hs']
      repeat refine And.intro (by first|omega|(constructor<;>omega)|kernel_rfl) ?_
      refine CallW.mk (l04Cmp_fn p q hp hq) ?_
      try simp (maxSteps := 9999999) only [go_sem]
      rfl
theorem l04Copy_fn (r : DR) (h1 : r.1.2.length ≤ 16777216) (h2 : r.2.length ≤ 16777216) : Fn Tryz.prog 157 [⟨tRat, r⟩] true [⟨tRat, r⟩] := by
  obtain ⟨⟨s, a⟩, d⟩ := r
  simp only at h1 h2
  refine fn_enter tabOK mixes Tryz.func157 rfl rfl _ Tryz.ntmps157 _ Tryz.results157 (by simp) fun hwf => ?_
  try simp (maxSteps := 9999999) only [go_sem]
  all_goals repeat refine And.intro (by first|omega|(constructor<;>omega)|kernel_rfl) ?_
  all_goals first | kernel_rfl | omega | rfl
theorem copyD_fn (p : Rat) (hp : small p) : Fn Tryz.prog 157 [⟨tRat, ratD p⟩] true [⟨tRat, ratD p⟩] := l04Copy_fn _ (by have := hp.1; show nl p.num.natAbs ≤ _; omega) (by have := hp.2; show nl p.den ≤ _; omega)
theorem specRatMax_fn (r s : DR) : Fn Tryz.prog 187 [⟨tRat, r⟩, ⟨tRat, s⟩] true [⟨tRat, oD (maxO (rdO r) (rdO s))⟩] := by
  cases hr : okR r
  · rw [okR_f hr]
    have e : maxO none (rdO s) = none := rfl
    rw [e]
    refine fn_enter tabOK mixes Tryz.func187 rfl rfl _ Tryz.ntmps187 _ Tryz.results187 (by simp) fun hwf => ?_
    try simp (maxSteps := 9999999) only [go_sem]
    repeat refine And.intro (by first|omega|(constructor<;>omega)|kernel_rfl) ?_
    refine CallW.mk (specRatOk_fn r) ?_
    try simp (maxSteps := 9999999) only [go_sem]
    try simp (maxSteps := 9999999) only [go_sem, hr]
  · cases hs : okR s
    · rw [okR_f hs]
      have e : maxO (rdO r) none = none := by unfold maxO; cases rdO r <;> rfl
      rw [e]
      refine fn_enter tabOK mixes Tryz.func187 rfl rfl _ Tryz.ntmps187 _ Tryz.results187 (by simp) fun hwf => ?_
      try simp (maxSteps := 9999999) only [go_sem]
      repeat refine And.intro (by first|omega|(constructor<;>omega)|kernel_rfl) ?_
      refine CallW.mk (specRatOk_fn r) ?_
      try simp (maxSteps := 9999999) only [go_sem]
      try simp (maxSteps := 9999999) only [go_sem, hr]
      repeat refine And.intro (by first|omega|(constructor<;>omega)|kernel_rfl) ?_
      refine CallW.mk (specRatOk_fn s) ?_
      try simp (maxSteps := 9999999) only [go_sem]
      try simp (maxSteps := 9999999) only [go_sem, hs]
    · obtain ⟨p, hp, rfl, e1⟩ := okR_t hr
      obtain ⟨q, hq, rfl, e2⟩ := okR_t hs
      rw [e1, e2]
      have hr' : okR ((decide (p.num < 0), natL p.num.natAbs), natL p.den) = true := hr
      have hs' : okR ((decide (q.num < 0), natL q.num.natAbs), natL q.den) = true := hs
      by_cases h : 0 ≤ cmpQ p q
      · have e3 : maxO (some p) (some q) = some p := if_pos h
        rw [e3]
        refine fn_enter tabOK mixes Tryz.func187 rfl rfl _ Tryz.ntmps187 _ Tryz.results187 (by simp) fun hwf => ?_
        try simp (maxSteps := 9999999) only [go_sem]
        repeat refine And.intro (by first|omega|(constructor<;>omega)|kernel_rfl) ?_
        refine CallW.mk (specRatOk_fn (ratD p)) ?_
        try simp (maxSteps := 9999999) only [go_sem]
        try simp (maxSteps := 9999999) only [go_sem, hr']
        repeat refine And.intro (by first|omega|(constructor<;>omega)|kernel_rfl) ?_
        refine CallW.mk (specRatOk_fn (ratD q)) ?_
        try simp (maxSteps := 9999999) only [go_sem]
        try simp (maxSteps := 9999999) only [go_sem, hs']
        repeat refine And.intro (by first|omega|(constructor<;>omega)|kernel_rfl) ?_
        refine CallW.mk (l04Cmp_fn p q hp hq) ?_
        try simp (maxSteps := 9999999) only [go_sem]
        try simp (maxSteps := 9999999) only [go_sem, h]
        repeat refine And.intro (by first|omega|(constructor<;>omega)|kernel_rfl) ?_
        refine CallW.mk (copyD_fn p hp) ?_
        try simp (maxSteps := 9999999) only [go_sem]
      · have e3 : maxO (some p) (some q) = some q := if_neg h
        rw [e3]
        refine fn_enter tabOK mixes Tryz.func187 rfl rfl _ Tryz.ntmps187 _ Tryz.results187 (by simp) fun hwf => ?_
        try simp (maxSteps := 9999999) only [go_sem]
        repeat refine And.intro (by first|omega|(constructor<;>omega)|kernel_rfl) ?_
        refine CallW.mk (specRatOk_fn (ratD p)) ?_
        try simp (maxSteps := 9999999) only [go_sem]
        try simp (maxSteps := 9999999) only [go_sem, hr']
        repeat refine And.intro (by first|omega|(constructor<;>omega)|kernel_rfl) ?_
        refine CallW.mk (specRatOk_fn (ratD q)) ?_
        try simp (maxSteps := 9999999) only [go_sem]
        try simp (maxSteps := 9999999) only [go_sem, hs']
        repeat refine And.intro (by first|omega|(constructor<;>omega)|kernel_rfl) ?_
        refine CallW.mk (l04Cmp_fn p q hp hq) ?_
        try simp (maxSteps := 9999999) only [go_sem]
        try simp (maxSteps := 9999999) only [go_sem, h]
        repeat refine And.intro (by first|omega|(constructor<;>omega)|kernel_rfl) ?_
        refine CallW.mk (copyD_fn q hq) ?_
        try simp (maxSteps := 9999999) only [go_sem]
theorem specRatSign_fn (r : DR) : Fn Tryz.prog 117 [⟨tRat, r⟩] false [⟨.int, sgnO (rdO r)⟩] := by
  cases hr : okR r
  · rw [okR_f hr]
    refine fn_enter tabOK mixes Tryz.func117 rfl rfl _ Tryz.ntmps117 _ Tryz.results117 (by simp) fun hwf => ?_
    try simp (maxSteps := 9999999) only [go_sem]
    repeat refine And.intro (by first|omega|(constructor<;>omega)|kernel_rfl) ?_
    refine CallW.mk (specRatOk_fn r) ?_
    try simp (maxSteps := 9999999) only [go_sem]
    try simp (maxSteps := 9999999) only [go_sem, hr]
    rfl
  · obtain ⟨p, hp, rfl, e1⟩ := okR_t hr
    rw [e1]
    have hr' : okR ((decide (p.num < 0), natL p.num.natAbs), natL p.den) = true := hr
    have e : sgnO (some p) = cmpZ p.num 0 := cmpQ_zero p
    rw [e]
    by_cases h0 : (nl p.num.natAbs : Int) = 0
    · have : p.num = 0 := by have := nl_eq_zero.1 (show nl p.num.natAbs = 0 by omega); omega
      refine fn_enter tabOK mixes Tryz.func117 rfl rfl _ Tryz.ntmps117 _ Tryz.results117 (by simp) fun hwf => ?_
      try simp (maxSteps := 9999999) only [go_sem]
      repeat refine And.intro (by first|omega|(constructor<;>omega)|kernel_rfl) ?_
      refine CallW.mk (specRatOk_fn (ratD p)) ?_
      try simp (maxSteps := 9999999) only [go_sem]
      try simp (maxSteps := 9999999) only [go_sem, hr']
      try simp (maxSteps := 9999999) only [go_sem, h0]
      simp [cmpZ, this]
    · have h1 : p.num ≠ 0 := fun h => h0 (by rw [h]; simp [nl_zero])
      by_cases h2 : p.num < 0
      · refine fn_enter tabOK mixes Tryz.func117 rfl rfl _ Tryz.ntmps117 _ Tryz.results117 (by simp) fun hwf => ?_
        try simp (maxSteps := 9999999) only [go_sem]
        repeat refine And.intro (by first|omega|(constructor<;>omega)|kernel_rfl) ?_
        refine CallW.mk (specRatOk_fn (ratD p)) ?_
        try simp (maxSteps := 9999999) only [go_sem]
        try simp (maxSteps := 9999999) only [go_sem, hr']
        try simp (maxSteps := 9999999) only [go_sem, h0, h2]
        simp [cmpZ, h2]
      · have h3 : 0 < p.num := by omega
        refine fn_enter tabOK mixes Tryz.func117 rfl rfl _ Tryz.ntmps117 _ Tryz.results117 (by simp) fun hwf => ?_
        try simp (maxSteps := 9999999) only [go_sem]
        repeat refine And.intro (by first|omega|(constructor<;>omega)|kernel_rfl) ?_
        refine CallW.mk (specRatOk_fn (ratD p)) ?_
        try simp (maxSteps := 9999999) only [go_sem]
        try simp (maxSteps := 9999999) only [go_sem, hr']
        try simp (maxSteps := 9999999) only [go_sem, h0, h2]
        simp [cmpZ, h2, h3]
theorem sgn_negZ (z : Int) : sgn (!decide (z < 0)) z.natAbs = -z := by
  unfold sgn
  by_cases h : z < 0
  · simp [h]; omega
  · simp [h]; omega
theorem l04Neg_fn (p : Rat) (hp : small p) : Fn Tryz.prog 119 [⟨tRat, ratD p⟩] true [⟨tRat, ratD (-p)⟩] := by
  obtain ⟨p1, p2⟩ := hp
  refine fn_enter tabOK mixes Tryz.func119 rfl rfl _ Tryz.ntmps119 _ Tryz.results119 (by simp) fun hwf => ?_
  try simp (maxSteps := 9999999) only [go_sem]
  repeat refine And.intro (by first|omega|(constructor<;>omega)|kernel_rfl) ?_
  refine CallW.mk (l03Make_to (sgn_negZ p.num) (by omega)) ?_
  try simp (maxSteps := 9999999) only [go_sem]
  try simp (maxSteps := 9999999) only [go_sem, Rat.neg_num, Rat.neg_den]
  all_goals repeat refine And.intro (by first|omega|(constructor<;>omega)|kernel_rfl) ?_
  all_goals first | kernel_rfl | omega | rfl
theorem natL_1 : natL 1 = [1] := natL_one (by decide) (by decide)
theorem l04Add_fn (p q : Rat) (hp : small p) (hq : small q) : Fn Tryz.prog 118 [⟨tRat, ratD p⟩, ⟨tRat, ratD q⟩] true [⟨tRat, oD (capR (p + q))⟩] := by
  obtain ⟨p1, p2⟩ := hp
  obtain ⟨q1, q2⟩ := hq
  have b1 := nl_mulZ p.num q.den
  have b2 := nl_mulZ q.num p.den
  have b3 := nl_addZ (p.num * q.den) (q.num * p.den)
  have b4 := nl_mul p.den q.den
  have b5 := nl_mul p.num.natAbs q.den
  have b6 := nl_mul q.num.natAbs p.den
  have b7 := nl_addZ p.num q.num
  have hl := l04Low_fn (decide (p.num * q.den + q.num * p.den < 0)) (p.num * q.den + q.num * p.den).natAbs (p.den * q.den) (den_mul_ne p q) (by omega) (by omega)
  rw [sgn_bigD, ← add_mk] at hl
  by_cases h1 : p.den = 1
  · by_cases h2 : q.den = 1
    · have hl1 := l04Low_fn (decide (p.num + q.num < 0)) (p.num + q.num).natAbs 1 (by decide) (by omega) (by have := nl_small (n := 1) (by decide); omega)
      have e : _root_.mkRat (p.num + q.num) 1 = p + q := by rw [add_mk, h1, h2]; simp
      rw [sgn_bigD, natL_1, e] at hl1
      have d1 : decide (p.den = 1) = true := decide_eq_true h1
      have d2 : decide (q.den = 1) = true := decide_eq_true h2
      refine fn_enter tabOK mixes Tryz.func118 rfl rfl _ Tryz.ntmps118 _ Tryz.results118 (by simp) fun hwf => ?_
      try simp (maxSteps := 9999999) only [go_sem]
      repeat refine And.intro (by first|omega|(constructor<;>omega)|kernel_rfl) ?_
      refine CallW.mk (l04One_fn p.den) ?_
      try simp (maxSteps := 9999999) only [go_sem]
      try simp (maxSteps := 9999999) only [go_sem, d1]
      repeat refine And.intro (by first|omega|(constructor<;>omega)|kernel_rfl) ?_
      refine CallW.mk (l04One_fn q.den) ?_
      try simp (maxSteps := 9999999) only [go_sem]
      try simp (maxSteps := 9999999) only [go_sem, d2]
      repeat refine And.intro (by first|omega|(constructor<;>omega)|kernel_rfl) ?_
      refine CallW.mk (l03Add_fn p.num q.num (by omega) (by omega)) ?_
      try simp (maxSteps := 9999999) only [go_sem]
      repeat refine And.intro (by first|omega|(constructor<;>omega)|kernel_rfl) ?_
      refine CallW.mk (hl1) ?_
      try simp (maxSteps := 9999999) only [go_sem]
      all_goals repeat refine And.intro (by first|omega|(constructor<;>omega)|kernel_rfl) ?_
      all_goals first | kernel_rfl | omega | rfl
    · have d1 : decide (p.den = 1) = true := decide_eq_true h1
      have d2 : decide (q.den = 1) = false := decide_eq_false h2
      refine fn_enter tabOK mixes Tryz.func118 rfl rfl _ Tryz.ntmps118 _ Tryz.results118 (by simp) fun hwf => ?_
      try simp (maxSteps := 9999999) only [go_sem]
      repeat refine And.intro (by first|omega|(constructor<;>omega)|kernel_rfl) ?_
      refine CallW.mk (l04One_fn p.den) ?_
      try simp (maxSteps := 9999999) only [go_sem]
      try simp (maxSteps := 9999999) only [go_sem, d1]
      repeat refine And.intro (by first|omega|(constructor<;>omega)|kernel_rfl) ?_
      refine CallW.mk (l04One_fn q.den) ?_
      try simp (maxSteps := 9999999) only [go_sem]
      try simp (maxSteps := 9999999) only [go_sem, d2]
      repeat refine And.intro (by first|omega|(constructor<;>omega)|kernel_rfl) ?_
      refine CallW.mk (l02Mul_fn p.num.natAbs q.den (by omega) (by omega)) ?_
      try simp (maxSteps := 9999999) only [go_sem]
      repeat refine And.intro (by first|omega|(constructor<;>omega)|kernel_rfl) ?_
      refine CallW.mk (l03Make_to (sgn_mulN p.num q.den) (by omega)) ?_
      try simp (maxSteps := 9999999) only [go_sem]
      repeat refine And.intro (by first|omega|(constructor<;>omega)|kernel_rfl) ?_
      refine CallW.mk (l02Mul_fn q.num.natAbs p.den (by omega) (by omega)) ?_
      try simp (maxSteps := 9999999) only [go_sem]
      repeat refine And.intro (by first|omega|(constructor<;>omega)|kernel_rfl) ?_
      refine CallW.mk (l03Make_to (sgn_mulN q.num p.den) (by omega)) ?_
      try simp (maxSteps := 9999999) only [go_sem]
      repeat refine And.intro (by first|omega|(constructor<;>omega)|kernel_rfl) ?_
      refine CallW.mk (l03Add_fn (p.num * q.den) (q.num * p.den) (by omega) (by omega)) ?_
      try simp (maxSteps := 9999999) only [go_sem]
      repeat refine And.intro (by first|omega|(constructor<;>omega)|kernel_rfl) ?_
      refine CallW.mk (l02Mul_fn p.den q.den (by omega) (by omega)) ?_
      try simp (maxSteps := 9999999) only [go_sem]
      repeat refine And.intro (by first|omega|(constructor<;>omega)|kernel_rfl) ?_
      refine CallW.mk (hl) ?_
      try simp (maxSteps := 9999999) only [go_sem]
      all_goals repeat refine And.intro (by first|omega|(constructor<;>omega)|kernel_rfl) ?_
      all_goals first | kernel_rfl | omega | rfl
  · have d1 : decide (p.den = 1) = false := decide_eq_false h1
    refine fn_enter tabOK mixes Tryz.func118 rfl rfl _ Tryz.ntmps118 _ Tryz.results118 (by simp) fun hwf => ?_
    try simp (maxSteps := 9999999) only [go_sem]
    repeat refine And.intro (by first|omega|(constructor<;>omega)|kernel_rfl) ?_
    refine CallW.mk (l04One_fn p.den) ?_
    try simp (maxSteps := 9999999) only [go_sem]
    try simp (maxSteps := 9999999) only [go_sem, d1]
    repeat refine And.intro (by first|omega|(constructor<;>omega)|kernel_rfl) ?_
    refine CallW.mk (l02Mul_fn p.num.natAbs q.den (by omega) (by omega)) ?_
    try simp (maxSteps := 9999999) only [go_sem]
    repeat refine And.intro (by first|omega|(constructor<;>omega)|kernel_rfl) ?_
    refine CallW.mk (l03Make_to (sgn_mulN p.num q.den) (by omega)) ?_
    try simp (maxSteps := 9999999) only [go_sem]
    repeat refine And.intro (by first|omega|(constructor<;>omega)|kernel_rfl) ?_
    refine CallW.mk (l02Mul_fn q.num.natAbs p.den (by omega) (by omega)) ?_
    try simp (maxSteps := 9999999) only [go_sem]
    repeat refine And.intro (by first|omega|(constructor<;>omega)|kernel_rfl) ?_
    refine CallW.mk (l03Make_to (sgn_mulN q.num p.den) (by omega)) ?_
    try simp (maxSteps := 9999999) only [go_sem]
    repeat refine And.intro (by first|omega|(constructor<;>omega)|kernel_rfl) ?_
    refine CallW.mk (l03Add_fn (p.num * q.den) (q.num * p.den) (by omega) (by omega)) ?_
    try simp (maxSteps := 9999999) only [go_sem]
    repeat refine And.intro (by first|omega|(constructor<;>omega)|kernel_rfl) ?_
    refine CallW.mk (l02Mul_fn p.den q.den (by omega) (by omega)) ?_
    try simp (maxSteps := 9999999) only [go_sem]
    repeat refine And.intro (by first|omega|(constructor<;>omega)|kernel_rfl) ?_
    refine CallW.mk (hl) ?_
    try simp (maxSteps := 9999999) only [go_sem]
    all_goals repeat refine And.intro (by first|omega|(constructor<;>omega)|kernel_rfl) ?_
    all_goals first | kernel_rfl | omega | rfl
end Go.Proofs.YtghckbohaghgkaaGreat.DW

/-
  Lists of fractions: validity, comparison, the greatest one.
-/
namespace Go.Proofs.YtghckbohaghgkaaGreat.DW
open Go.RowKit
theorem okR_oD {r : DR} (h : okR r = true) : oD (rdO r) = r := by
  obtain ⟨q, _, e1, e2⟩ := okR_t h
  rw [e2, e1]; rfl
end Go.Proofs.YtghckbohaghgkaaGreat.DW

/-
  Points: validity; the length of a move.
-/
namespace Go.Proofs.YtghckbohaghgkaaGreat.DW
open Go.RowKit
attribute [go_sem] Prod.eta
abbrev DP : Type := DR × DR
noncomputable def okPt (p : DP) : Bool := okR p.1 && okR p.2
theorem implIsValidPoint_fn (p : DP) : Fn Tryz.prog 137 [⟨tPoint, p⟩] false [⟨.bool, okPt p⟩] := by
  cases h : okR p.1
  · refine fn_enter tabOK mixes Tryz.func137 rfl rfl _ Tryz.ntmps137 _ Tryz.results137 (by simp) fun hwf => ?_
    try simp (maxSteps := 9999999) only [go_sem]
    repeat refine And.intro (by first|omega|(constructor<;>omega)|kernel_rfl) ?_
    refine CallW.mk (implRatOk_fn p.1) ?_
    try simp (maxSteps := 9999999) only [go_sem]
    try simp (maxSteps := 9999999) only [go_sem, h]
    repeat refine And.intro (by first|omega|(constructor<;>omega)|kernel_rfl) ?_
    simp [okPt, h]
  · refine fn_enter tabOK mixes Tryz.func137 rfl rfl _ Tryz.ntmps137 _ Tryz.results137 (by simp) fun hwf => ?_
    try simp (maxSteps := 9999999) only [go_sem]
    repeat refine And.intro (by first|omega|(constructor<;>omega)|kernel_rfl) ?_
    refine CallW.mk (implRatOk_fn p.1) ?_
    try simp (maxSteps := 9999999) only [go_sem]
    try simp (maxSteps := 9999999) only [go_sem, h]
    repeat refine And.intro (by first|omega|(constructor<;>omega)|kernel_rfl) ?_
    refine CallW.mk (implRatOk_fn p.2) ?_
    try simp (maxSteps := 9999999) only [go_sem]
    repeat refine And.intro (by first|omega|(constructor<;>omega)|kernel_rfl) ?_
    simp [okPt, h]
theorem specIsValidPoint_fn (p : DP) : Fn Tryz.prog 75 [⟨tPoint, p⟩] false [⟨.bool, okPt p⟩] := by
  cases h : okR p.1
  · refine fn_enter tabOK mixes Tryz.func75 rfl rfl _ Tryz.ntmps75 _ Tryz.results75 (by simp) fun hwf => ?_
    try simp (maxSteps := 9999999) only [go_sem]
    repeat refine And.intro (by first|omega|(constructor<;>omega)|kernel_rfl) ?_
    refine CallW.mk (specRatOk_fn p.1) ?_
    try simp (maxSteps := 9999999) only [go_sem]
    try simp (maxSteps := 9999999) only [go_sem, h]
    repeat refine And.intro (by first|omega|(constructor<;>omega)|kernel_rfl) ?_
    simp [okPt, h]
  · refine fn_enter tabOK mixes Tryz.func75 rfl rfl _ Tryz.ntmps75 _ Tryz.results75 (by simp) fun hwf => ?_
    try simp (maxSteps := 9999999) only [go_sem]
    repeat refine And.intro (by first|omega|(constructor<;>omega)|kernel_rfl) ?_
    refine CallW.mk (specRatOk_fn p.1) ?_
    try simp (maxSteps := 9999999) only [go_sem]
    try simp (maxSteps := 9999999) only [go_sem, h]
    repeat refine And.intro (by first|omega|(constructor<;>omega)|kernel_rfl) ?_
    refine CallW.mk (specRatOk_fn p.2) ?_
    try simp (maxSteps := 9999999) only [go_sem]
    repeat refine And.intro (by first|omega|(constructor<;>omega)|kernel_rfl) ?_
    simp [okPt, h]
theorem indexFunc_pt_fn (F : FuncId) (p : DP → Bool) (hF : ∀ x : DP, Fn Tryz.prog F [⟨tPoint, x⟩] false [⟨.bool, p x⟩]) (l : List DP) : Fn Tryz.prog 180 [⟨.slice tPoint, l⟩, ⟨.cst (.fn F), ()⟩] false [⟨.int, ixf (t := tPoint) p l⟩] := by
  refine fn_enter tabOK mixes Tryz.func180 rfl rfl _ Tryz.ntmps180 _ Tryz.results180 (by simp) fun hwf => ?_
  have hl : l.length ≤ 9223372036854775807 := (hwf ⟨.slice tPoint, l⟩ (by simp)).1
  try simp (maxSteps := 9999999) only [go_sem]
  refine LoopG.intro _ _ _ (fun i : Nat => ⟨[(0, .sl tPoint l), (1, .sc (.func (.func F) #[] #[])), (7, .sc (.int .i64 l.length)), (8, .sc (.int .i64 i))], []⟩) (fun i => ∀ j < i, j < l.length → p (nth (t := tPoint) l j) = false) (fun i => l.length - i) 0 ?_ (fun j h => by simp at h) ?_
  · refine Wk.mk [] ?_
    try simp (maxSteps := 9999999) only [go_sem]
    try (and_intros <;> first | rfl | omega | exact ⟨_, rfl⟩)
  · rintro i h2
    try simp (maxSteps := 9999999) only [go_sem]
    refine CondW_dec (fun h3 => ?_) (fun h3 => ?_)
    · try simp (maxSteps := 9999999) only [go_sem]
      repeat refine And.intro (by first|omega|(constructor<;>omega)|kernel_rfl) ?_
      refine CallW.mk (hF (nth (t := tPoint) l i)) ?_
      try simp (maxSteps := 9999999) only [go_sem]
      refine CondW_b (fun h4 => ?_) (fun h4 => ?_)
      · try simp (maxSteps := 9999999) only [go_sem]
        exact (ixf_at (by omega) h4 (fun j hj => h2 j hj (by omega))).symm
      · try simp (maxSteps := 9999999) only [go_sem]
        repeat refine And.intro (by first|omega|(constructor<;>omega)|kernel_rfl) ?_
        refine LoopK.mk (i + 1) ?_ (fun j hj hl => ?_) (by omega)
        · refine Wk.mk [] ?_
          try simp (maxSteps := 9999999) only [go_sem]
          try (and_intros <;> first | rfl | omega | exact ⟨_, rfl⟩)
        · by_cases hj2 : j < i
          · exact h2 j hj2 hl
          · rw [show j = i by omega]; exact h4
    · try simp (maxSteps := 9999999) only [go_sem]
      exact (ixf_none fun j hj => h2 j (by omega) hj).symm
theorem containsFunc_pt_fn (F : FuncId) (p : DP → Bool) (hF : ∀ x : DP, Fn Tryz.prog F [⟨tPoint, x⟩] false [⟨.bool, p x⟩]) (l : List DP) : Fn Tryz.prog 135 [⟨.slice tPoint, l⟩, ⟨.cst (.fn F), ()⟩] false [⟨.bool, l.any p⟩] := by
  refine fn_enter tabOK mixes Tryz.func135 rfl rfl _ Tryz.ntmps135 _ Tryz.results135 (by simp) fun hwf => ?_
  try simp (maxSteps := 9999999) only [go_sem]
  repeat refine And.intro (by first|omega|(constructor<;>omega)|kernel_rfl) ?_
  refine CallW.mk (indexFunc_pt_fn F p hF l) ?_
  try simp (maxSteps := 9999999) only [go_sem]
  exact ixf_any
theorem arePointsC_fn (p : DP) : Fn Tryz.prog 136 [⟨tPoint, p⟩] false [⟨.bool, !okPt p⟩] := by
  refine fn_enter tabOK mixes Tryz.func136 rfl rfl _ Tryz.ntmps136 _ Tryz.results136 (by simp) fun hwf => ?_
  try simp (maxSteps := 9999999) only [go_sem]
  repeat refine And.intro (by first|omega|(constructor<;>omega)|kernel_rfl) ?_
  refine CallW.mk (implIsValidPoint_fn p) ?_
  try simp (maxSteps := 9999999) only [go_sem]
theorem arePoints_fn (l : List DP) : Fn Tryz.prog 97 [⟨.slice tPoint, l⟩] false [⟨.bool, !(l.any fun p => !okPt p)⟩] := by
  refine fn_enter tabOK mixes Tryz.func97 rfl rfl _ Tryz.ntmps97 _ Tryz.results97 (by simp) fun hwf => ?_
  try simp (maxSteps := 9999999) only [go_sem]
  repeat refine And.intro (by first|omega|(constructor<;>omega)|kernel_rfl) ?_
  refine CallW.mk (containsFunc_pt_fn _ _ arePointsC_fn l) ?_
  try simp (maxSteps := 9999999) only [go_sem]
theorem arePoints2_fn (p q : DP) : Fn Tryz.prog 97 [⟨.slice tPoint, [p, q]⟩] false [⟨.bool, okPt p && okPt q⟩] := by
  have h := arePoints_fn [p, q]
  have e : (!([p, q].any fun p => !okPt p)) = (okPt p && okPt q) := by simp
  rw [e] at h; exact h
theorem arePoints1_fn (p : DP) : Fn Tryz.prog 97 [⟨.slice tPoint, [p]⟩] false [⟨.bool, okPt p⟩] := by
  have h := arePoints_fn [p]
  have e : (!([p].any fun p => !okPt p)) = okPt p := by simp
  rw [e] at h; exact h
theorem subO_none_l (y : Option Rat) : subO none y = none := rfl
theorem subO_none_r (x : Option Rat) : subO x none = none := by cases x <;> rfl
theorem specRatSub_fn (r s : DR) : Fn Tryz.prog 79 [⟨tRat, r⟩, ⟨tRat, s⟩] true [⟨tRat, oD (subO (rdO r) (rdO s))⟩] := by
  cases hr : okR r
  · rw [okR_f hr, subO_none_l]
    refine fn_enter tabOK mixes Tryz.func79 rfl rfl _ Tryz.ntmps79 _ Tryz.results79 (by simp) fun hwf => ?_
    try simp (maxSteps := 9999999) only [go_sem]
    repeat refine And.intro (by first|omega|(constructor<;>omega)|kernel_rfl) ?_
    refine CallW.mk (specRatOk_fn r) ?_
    try simp (maxSteps := 9999999) only [go_sem]
    try simp (maxSteps := 9999999) only [go_sem, hr]
  · cases hs : okR s
    · rw [okR_f hs, subO_none_r]
      refine fn_enter tabOK mixes Tryz.func79 rfl rfl _ Tryz.ntmps79 _ Tryz.results79 (by simp) fun hwf => ?_
      try simp (maxSteps := 9999999) only [go_sem]
      repeat refine And.intro (by first|omega|(constructor<;>omega)|kernel_rfl) ?_
      refine CallW.mk (specRatOk_fn r) ?_
      try simp (maxSteps := 9999999) only [go_sem]
      try simp (maxSteps := 9999999) only [go_sem, hr]
      repeat refine And.intro (by first|omega|(constructor<;>omega)|kernel_rfl) ?_
      refine CallW.mk (specRatOk_fn s) ?_
      try simp (maxSteps := 9999999) only [go_sem]
      try simp (maxSteps := 9999999) only [go_sem, hs]
    · obtain ⟨p, hp, rfl, e1⟩ := okR_t hr
      obtain ⟨q, hq, rfl, e2⟩ := okR_t hs
      rw [e1, e2]
      have hr' : okR ((decide (p.num < 0), natL p.num.natAbs), natL p.den) = true := hr
      have hs' : okR ((decide (q.num < 0), natL q.num.natAbs), natL q.den) = true := hs
      have e : subO (some p) (some q) = capR (p + -q) := rfl
      rw [e]
      refine fn_enter tabOK mixes Tryz.func79 rfl rfl _ Tryz.ntmps79 _ Tryz.results79 (by simp) fun hwf => ?_
      try simp (maxSteps := 9999999) only [go_sem]
      repeat refine And.intro (by first|omega|(constructor<;>omega)|kernel_rfl) ?_
      refine CallW.mk (specRatOk_fn (ratD p)) ?_
      try simp (maxSteps := 9999999) only [go_sem]
      try simp (maxSteps := 9999999) only [go_sem, hr']
      repeat refine And.intro (by first|omega|(constructor<;>omega)|kernel_rfl) ?_
      refine CallW.mk (specRatOk_fn (ratD q)) ?_
      try simp (maxSteps := 9999999) only [go_sem]
      try simp (maxSteps := 9999999) only [go_sem, hs']
      repeat refine And.intro (by first|omega|(constructor<;>omega)|kernel_rfl) ?_
      refine CallW.mk (l04Neg_fn q hq) ?_
      try simp (maxSteps := 9999999) only [go_sem]
      repeat refine And.intro (by first|omega|(constructor<;>omega)|kernel_rfl) ?_
      refine CallW.mk (l04Add_fn p (-q) hp (small_neg hq)) ?_
      try simp (maxSteps := 9999999) only [go_sem]
      all_goals repeat refine And.intro (by first|omega|(constructor<;>omega)|kernel_rfl) ?_
      all_goals first | kernel_rfl | omega | rfl
end Go.Proofs.YtghckbohaghgkaaGreat.DW

/-
  Headings, steps, the length of a motion.
-/
namespace Go.Proofs.YtghckbohaghgkaaGreat.DW
open Go.RowKit
abbrev DS : Type := Int × DP
theorem isHeading_fn (n : Int) : Fn Tryz.prog 96 [⟨.int, n⟩] false [⟨.bool, decide (0 ≤ n ∧ n ≤ 3)⟩] := by
  refine fn_enter tabOK mixes Tryz.func96 rfl rfl _ Tryz.ntmps96 _ Tryz.results96 (by simp) fun hwf => ?_
  try simp (maxSteps := 9999999) only [go_sem]
  repeat refine And.intro (by first|omega|(constructor<;>omega)|kernel_rfl) ?_
  refine CallW.mk (within_fn n 0 3) ?_
  try simp (maxSteps := 9999999) only [go_sem]
/-- The heading behind a turn. -/
def nxH (h t : Int) : Int := if (0 ≤ h ∧ h ≤ 3) ∧ (t = 1 ∨ t = -1) then (h + t + 4) % 4 else -1
theorem nxH_bad {h : Int} (t : Int) (hh : ¬ (0 ≤ h ∧ h ≤ 3)) : nxH h t = -1 := if_neg fun h => hh h.1
theorem nxH_off (h : Int) {t : Int} (h1 : ¬ t = 1) (h2 : ¬ t = -1) : nxH h t = -1 := if_neg fun h => h.2.elim h1 h2
theorem nxH_in {h t : Int} (hh : 0 ≤ h ∧ h ≤ 3) (ht : t = 1 ∨ t = -1) : nxH h t = (h + t + 4) % 4 := if_pos ⟨hh, ht⟩
theorem implNextHeading_fn (h t : Int) : Fn Tryz.prog 139 [⟨.int, h⟩, ⟨.int, t⟩] false [⟨.int, nxH h t⟩] := by
  have c1 := isHeading_fn h
  by_cases hh : 0 ≤ h ∧ h ≤ 3
  · rw [decide_eq_true hh] at c1
    by_cases h1 : t = 1
    · subst h1
      rw [nxH_in hh (.inl rfl)]
      refine fn_enter tabOK mixes Tryz.func139 rfl rfl _ Tryz.ntmps139 _ Tryz.results139 (by simp) fun hwf => ?_
      try simp (maxSteps := 9999999) only [go_sem]
      repeat refine And.intro (by first|omega|(constructor<;>omega)|kernel_rfl) ?_
      refine CallW.mk (c1) ?_
      try simp (maxSteps := 9999999) only [go_sem]
      repeat refine And.intro (by first|omega|(constructor<;>omega)|kernel_rfl) ?_
      refine RemW.pos (by omega) (by omega) ?_
      try simp (maxSteps := 9999999) only [go_sem]
    · by_cases h2 : t = -1
      · subst h2
        rw [nxH_in hh (.inr rfl)]
        refine fn_enter tabOK mixes Tryz.func139 rfl rfl _ Tryz.ntmps139 _ Tryz.results139 (by simp) fun hwf => ?_
        try simp (maxSteps := 9999999) only [go_sem]
        repeat refine And.intro (by first|omega|(constructor<;>omega)|kernel_rfl) ?_
        refine CallW.mk (c1) ?_
        try simp (maxSteps := 9999999) only [go_sem]
        repeat refine And.intro (by first|omega|(constructor<;>omega)|kernel_rfl) ?_
        refine RemW.pos (by omega) (by omega) ?_
        try simp (maxSteps := 9999999) only [go_sem]
      · rw [nxH_off h h1 h2]
        refine fn_enter tabOK mixes Tryz.func139 rfl rfl _ Tryz.ntmps139 _ Tryz.results139 (by simp) fun hwf => ?_
        try simp (maxSteps := 9999999) only [go_sem]
        repeat refine And.intro (by first|omega|(constructor<;>omega)|kernel_rfl) ?_
        refine CallW.mk (c1) ?_
        try simp (maxSteps := 9999999) only [go_sem]
        try simp (maxSteps := 9999999) only [go_sem, h1, h2]
  · rw [decide_eq_false hh] at c1
    rw [nxH_bad t hh]
    refine fn_enter tabOK mixes Tryz.func139 rfl rfl _ Tryz.ntmps139 _ Tryz.results139 (by simp) fun hwf => ?_
    try simp (maxSteps := 9999999) only [go_sem]
    repeat refine And.intro (by first|omega|(constructor<;>omega)|kernel_rfl) ?_
    refine CallW.mk (c1) ?_
    try simp (maxSteps := 9999999) only [go_sem]
theorem specNextHeading_fn (h t : Int) : Fn Tryz.prog 133 [⟨.int, h⟩, ⟨.int, t⟩] false [⟨.int, nxH h t⟩] := by
  have c1 := l01In_fn h 0 3
  by_cases hh : 0 ≤ h ∧ h ≤ 3
  · rw [decide_eq_true hh] at c1
    by_cases h1 : t = 1
    · subst h1
      rw [nxH_in hh (.inl rfl), show h + 1 + 4 = h + 4 + 1 by omega]
      refine fn_enter tabOK mixes Tryz.func133 rfl rfl _ Tryz.ntmps133 _ Tryz.results133 (by simp) fun hwf => ?_
      try simp (maxSteps := 9999999) only [go_sem]
      repeat refine And.intro (by first|omega|(constructor<;>omega)|kernel_rfl) ?_
      refine CallW.mk (c1) ?_
      try simp (maxSteps := 9999999) only [go_sem]
      repeat refine And.intro (by first|omega|(constructor<;>omega)|kernel_rfl) ?_
      refine RemW.pos (by omega) (by omega) ?_
      try simp (maxSteps := 9999999) only [go_sem]
    · by_cases h2 : t = -1
      · subst h2
        rw [nxH_in hh (.inr rfl), show h + -1 + 4 = h + 4 + -1 by omega]
        refine fn_enter tabOK mixes Tryz.func133 rfl rfl _ Tryz.ntmps133 _ Tryz.results133 (by simp) fun hwf => ?_
        try simp (maxSteps := 9999999) only [go_sem]
        repeat refine And.intro (by first|omega|(constructor<;>omega)|kernel_rfl) ?_
        refine CallW.mk (c1) ?_
        try simp (maxSteps := 9999999) only [go_sem]
        repeat refine And.intro (by first|omega|(constructor<;>omega)|kernel_rfl) ?_
        refine RemW.pos (by omega) (by omega) ?_
        try simp (maxSteps := 9999999) only [go_sem]
      · rw [nxH_off h h1 h2]
        refine fn_enter tabOK mixes Tryz.func133 rfl rfl _ Tryz.ntmps133 _ Tryz.results133 (by simp) fun hwf => ?_
        try simp (maxSteps := 9999999) only [go_sem]
        repeat refine And.intro (by first|omega|(constructor<;>omega)|kernel_rfl) ?_
        refine CallW.mk (c1) ?_
        try simp (maxSteps := 9999999) only [go_sem]
        try simp (maxSteps := 9999999) only [go_sem, h1, h2]
  · rw [decide_eq_false hh] at c1
    rw [nxH_bad t hh]
    refine fn_enter tabOK mixes Tryz.func133 rfl rfl _ Tryz.ntmps133 _ Tryz.results133 (by simp) fun hwf => ?_
    try simp (maxSteps := 9999999) only [go_sem]
    repeat refine And.intro (by first|omega|(constructor<;>omega)|kernel_rfl) ?_
    refine CallW.mk (c1) ?_
    try simp (maxSteps := 9999999) only [go_sem]
/-- The placement behind a step. -/
def stp (p x : DS) : DS := if x.1 = 0 then (p.1, x.2) else if x.1 = 1 ∨ x.1 = -1 then (nxH p.1 x.1, p.2) else p
theorem stp_0 {p x : DS} (h : x.1 = 0) : stp p x = (p.1, x.2) := if_pos h
theorem stp_t {p x : DS} (h : x.1 = 1 ∨ x.1 = -1) : stp p x = (nxH p.1 x.1, p.2) := by
  have : ¬ x.1 = 0 := by omega
  unfold stp; rw [if_neg this, if_pos h]
theorem stp_n {p x : DS} (h0 : ¬ x.1 = 0) (h1 : ¬ x.1 = 1) (h2 : ¬ x.1 = -1) : stp p x = p := by
  unfold stp; rw [if_neg h0, if_neg (by omega)]
theorem stepped_fn (p x : DS) : Fn Tryz.prog 99 [⟨tStep, p⟩, ⟨tStep, x⟩] false [⟨tStep, stp p x⟩] := by
  obtain ⟨h, p⟩ := p
  obtain ⟨t, q⟩ := x
  have c1 := implNextHeading_fn h t
  by_cases h0 : t = 0
  · subst h0
    rw [stp_0 rfl]
    refine fn_enter tabOK mixes Tryz.func99 rfl rfl _ Tryz.ntmps99 _ Tryz.results99 (by simp) fun hwf => ?_
    try simp (maxSteps := 9999999) only [go_sem]
  · by_cases h1 : t = 1
    · subst h1
      rw [stp_t (.inl rfl)]
      refine fn_enter tabOK mixes Tryz.func99 rfl rfl _ Tryz.ntmps99 _ Tryz.results99 (by simp) fun hwf => ?_
      try simp (maxSteps := 9999999) only [go_sem]
      repeat refine And.intro (by first|omega|(constructor<;>omega)|kernel_rfl) ?_
      refine CallW.mk (c1) ?_
      try simp (maxSteps := 9999999) only [go_sem]
    · by_cases h2 : t = -1
      · subst h2
        rw [stp_t (.inr rfl)]
        refine fn_enter tabOK mixes Tryz.func99 rfl rfl _ Tryz.ntmps99 _ Tryz.results99 (by simp) fun hwf => ?_
        try simp (maxSteps := 9999999) only [go_sem]
        repeat refine And.intro (by first|omega|(constructor<;>omega)|kernel_rfl) ?_
        refine CallW.mk (c1) ?_
        try simp (maxSteps := 9999999) only [go_sem]
      · rw [stp_n h0 h1 h2]
        refine fn_enter tabOK mixes Tryz.func99 rfl rfl _ Tryz.ntmps99 _ Tryz.results99 (by simp) fun hwf => ?_
        try simp (maxSteps := 9999999) only [go_sem, h0, h1, h2]
theorem l22After_fn (p x : DS) : Fn Tryz.prog 94 [⟨tStep, p⟩, ⟨tStep, x⟩] false [⟨tStep, stp p x⟩] := by
  obtain ⟨h, p⟩ := p
  obtain ⟨t, q⟩ := x
  have c1 := specNextHeading_fn h t
  by_cases h0 : t = 0
  · subst h0
    rw [stp_0 rfl]
    refine fn_enter tabOK mixes Tryz.func94 rfl rfl _ Tryz.ntmps94 _ Tryz.results94 (by simp) fun hwf => ?_
    try simp (maxSteps := 9999999) only [go_sem]
  · by_cases h1 : t = 1
    · subst h1
      rw [stp_t (.inl rfl)]
      refine fn_enter tabOK mixes Tryz.func94 rfl rfl _ Tryz.ntmps94 _ Tryz.results94 (by simp) fun hwf => ?_
      try simp (maxSteps := 9999999) only [go_sem]
      repeat refine And.intro (by first|omega|(constructor<;>omega)|kernel_rfl) ?_
      refine CallW.mk (c1) ?_
      try simp (maxSteps := 9999999) only [go_sem]
    · by_cases h2 : t = -1
      · subst h2
        rw [stp_t (.inr rfl)]
        refine fn_enter tabOK mixes Tryz.func94 rfl rfl _ Tryz.ntmps94 _ Tryz.results94 (by simp) fun hwf => ?_
        try simp (maxSteps := 9999999) only [go_sem]
        repeat refine And.intro (by first|omega|(constructor<;>omega)|kernel_rfl) ?_
        refine CallW.mk (c1) ?_
        try simp (maxSteps := 9999999) only [go_sem]
      · rw [stp_n h0 h1 h2]
        refine fn_enter tabOK mixes Tryz.func94 rfl rfl _ Tryz.ntmps94 _ Tryz.results94 (by simp) fun hwf => ?_
        try simp (maxSteps := 9999999) only [go_sem, h0, h1, h2]
end Go.Proofs.YtghckbohaghgkaaGreat.DW

/-
  Vectors, polygons.
-/
namespace Go.Proofs.YtghckbohaghgkaaGreat.DW
open Go.RowKit
abbrev DV : Type := Int × Int
/-- The coordinates are at most k. -/
def inB (k : Int) (v : DV) : Bool := decide (-k ≤ v.1 ∧ v.1 ≤ k) && decide (-k ≤ v.2 ∧ v.2 ≤ k)
def okV (v : DV) : Bool := inB 1000 v
theorem okV_b {v : DV} (h : okV v = true) : -1000 ≤ v.1 ∧ v.1 ≤ 1000 ∧ -1000 ≤ v.2 ∧ v.2 ≤ 1000 := by
  unfold okV inB at h
  rw [Bool.and_eq_true, decide_eq_true_iff, decide_eq_true_iff] at h
  omega
theorem isVec_fn (v : DV) : Fn Tryz.prog 170 [⟨tVec, v⟩] false [⟨.bool, okV v⟩] := by
  have c1 := within_fn v.1 (-1000) 1000
  have c2 := within_fn v.2 (-1000) 1000
  unfold okV inB
  cases h : decide (-1000 ≤ v.1 ∧ v.1 ≤ 1000) <;> rw [h] at c1
  · refine fn_enter tabOK mixes Tryz.func170 rfl rfl _ Tryz.ntmps170 _ Tryz.results170 (by simp) fun hwf => ?_
    try simp (maxSteps := 9999999) only [go_sem]
    repeat refine And.intro (by first|omega|(constructor<;>omega)|kernel_rfl) ?_
    refine CallW.mk (c1) ?_
    try simp (maxSteps := 9999999) only [go_sem]
  · refine fn_enter tabOK mixes Tryz.func170 rfl rfl _ Tryz.ntmps170 _ Tryz.results170 (by simp) fun hwf => ?_
    try simp (maxSteps := 9999999) only [go_sem]
    repeat refine And.intro (by first|omega|(constructor<;>omega)|kernel_rfl) ?_
    refine CallW.mk (c1) ?_
    try simp (maxSteps := 9999999) only [go_sem]
    repeat refine And.intro (by first|omega|(constructor<;>omega)|kernel_rfl) ?_
    refine CallW.mk (c2) ?_
    try simp (maxSteps := 9999999) only [go_sem]
theorem IsValidVec_fn (v : DV) : Fn Tryz.prog 72 [⟨tVec, v⟩] false [⟨.bool, okV v⟩] := by
  have c1 := l01In_fn v.1 (-1000) 1000
  have c2 := l01In_fn v.2 (-1000) 1000
  unfold okV inB
  cases h : decide (-1000 ≤ v.1 ∧ v.1 ≤ 1000) <;> rw [h] at c1
  · refine fn_enter tabOK mixes Tryz.func72 rfl rfl _ Tryz.ntmps72 _ Tryz.results72 (by simp) fun hwf => ?_
    try simp (maxSteps := 9999999) only [go_sem]
    repeat refine And.intro (by first|omega|(constructor<;>omega)|kernel_rfl) ?_
    refine CallW.mk (c1) ?_
    try simp (maxSteps := 9999999) only [go_sem]
  · refine fn_enter tabOK mixes Tryz.func72 rfl rfl _ Tryz.ntmps72 _ Tryz.results72 (by simp) fun hwf => ?_
    try simp (maxSteps := 9999999) only [go_sem]
    repeat refine And.intro (by first|omega|(constructor<;>omega)|kernel_rfl) ?_
    refine CallW.mk (c1) ?_
    try simp (maxSteps := 9999999) only [go_sem]
    repeat refine And.intro (by first|omega|(constructor<;>omega)|kernel_rfl) ?_
    refine CallW.mk (c2) ?_
    try simp (maxSteps := 9999999) only [go_sem]
theorem mul_bd {x y : Int} (h1 : -2000 ≤ x) (h2 : x ≤ 2000) (h3 : -2000 ≤ y) (h4 : y ≤ 2000) : -4000000 ≤ x * y ∧ x * y ≤ 4000000 := by
  have e1 : 0 ≤ (2000 - x) * (2000 - y) := Int.mul_nonneg (by omega) (by omega)
  have e2 : 0 ≤ (2000 + x) * (2000 + y) := Int.mul_nonneg (by omega) (by omega)
  have e3 : 0 ≤ (2000 - x) * (2000 + y) := Int.mul_nonneg (by omega) (by omega)
  have e4 : 0 ≤ (2000 + x) * (2000 - y) := Int.mul_nonneg (by omega) (by omega)
  simp only [Int.sub_mul, Int.add_mul, Int.mul_sub, Int.mul_add] at e1 e2 e3 e4
  omega
def trn (a b c : DV) : Int := (b.1 - a.1) * (c.2 - a.2) - (b.2 - a.2) * (c.1 - a.1)
theorem turn_fn (a b c : DV) (ha : okV a = true) (hb : okV b = true) (hc : okV c = true) : Fn Tryz.prog 171 [⟨tVec, a⟩, ⟨tVec, b⟩, ⟨tVec, c⟩] false [⟨.int, trn a b c⟩] := by
  have ha := okV_b ha; have hb := okV_b hb; have hc := okV_b hc
  have m1 := mul_bd (x := b.1 - a.1) (y := c.2 - a.2) (by omega) (by omega) (by omega) (by omega)
  have m2 := mul_bd (x := b.2 - a.2) (y := c.1 - a.1) (by omega) (by omega) (by omega) (by omega)
  unfold trn
  refine fn_enter tabOK mixes Tryz.func171 rfl rfl _ Tryz.ntmps171 _ Tryz.results171 (by simp) fun hwf => ?_
  try simp (maxSteps := 9999999) only [go_sem]
  all_goals repeat refine And.intro (by first|omega|(constructor<;>omega)|kernel_rfl) ?_
  all_goals first | kernel_rfl | omega | rfl
/-- The reference's: 0 where a vector is not valid. -/
def trq (a b c : DV) : Int := if okV a && okV b && okV c then trn a b c else 0
theorem Turn_fn (a b c : DV) : Fn Tryz.prog 115 [⟨tVec, a⟩, ⟨tVec, b⟩, ⟨tVec, c⟩] false [⟨.int, trq a b c⟩] := by
  have c1 := IsValidVec_fn a
  have c2 := IsValidVec_fn b
  have c3 := IsValidVec_fn c
  unfold trq
  cases ha : okV a <;> rw [ha] at c1
  · refine fn_enter tabOK mixes Tryz.func115 rfl rfl _ Tryz.ntmps115 _ Tryz.results115 (by simp) fun hwf => ?_
    try simp (maxSteps := 9999999) only [go_sem]
    repeat refine And.intro (by first|omega|(constructor<;>omega)|kernel_rfl) ?_
    refine CallW.mk (c1) ?_
    try simp (maxSteps := 9999999) only [go_sem]
  · cases hb : okV b <;> rw [hb] at c2
    · refine fn_enter tabOK mixes Tryz.func115 rfl rfl _ Tryz.ntmps115 _ Tryz.results115 (by simp) fun hwf => ?_
      try simp (maxSteps := 9999999) only [go_sem]
      repeat refine And.intro (by first|omega|(constructor<;>omega)|kernel_rfl) ?_
      refine CallW.mk (c1) ?_
      try simp (maxSteps := 9999999) only [go_sem]
      repeat refine And.intro (by first|omega|(constructor<;>omega)|kernel_rfl) ?_
      refine CallW.mk (c2) ?_
      try simp (maxSteps := 9999999) only [go_sem]
    · cases hc : okV c <;> rw [hc] at c3
      · refine fn_enter tabOK mixes Tryz.func115 rfl rfl _ Tryz.ntmps115 _ Tryz.results115 (by simp) fun hwf => ?_
        try simp (maxSteps := 9999999) only [go_sem]
        repeat refine And.intro (by first|omega|(constructor<;>omega)|kernel_rfl) ?_
        refine CallW.mk (c1) ?_
        try simp (maxSteps := 9999999) only [go_sem]
        repeat refine And.intro (by first|omega|(constructor<;>omega)|kernel_rfl) ?_
        refine CallW.mk (c2) ?_
        try simp (maxSteps := 9999999) only [go_sem]
        repeat refine And.intro (by first|omega|(constructor<;>omega)|kernel_rfl) ?_
        refine CallW.mk (c3) ?_
        try simp (maxSteps := 9999999) only [go_sem]
      · have ha := okV_b ha; have hb := okV_b hb; have hc := okV_b hc
        have m1 := mul_bd (x := b.1 - a.1) (y := c.2 - a.2) (by omega) (by omega) (by omega) (by omega)
        have m2 := mul_bd (x := b.2 - a.2) (y := c.1 - a.1) (by omega) (by omega) (by omega) (by omega)
        unfold trn
        refine fn_enter tabOK mixes Tryz.func115 rfl rfl _ Tryz.ntmps115 _ Tryz.results115 (by simp) fun hwf => ?_
        try simp (maxSteps := 9999999) only [go_sem]
        repeat refine And.intro (by first|omega|(constructor<;>omega)|kernel_rfl) ?_
        refine CallW.mk (c1) ?_
        try simp (maxSteps := 9999999) only [go_sem]
        repeat refine And.intro (by first|omega|(constructor<;>omega)|kernel_rfl) ?_
        refine CallW.mk (c2) ?_
        try simp (maxSteps := 9999999) only [go_sem]
        repeat refine And.intro (by first|omega|(constructor<;>omega)|kernel_rfl) ?_
        refine CallW.mk (c3) ?_
        try simp (maxSteps := 9999999) only [go_sem]
        all_goals repeat refine And.intro (by first|omega|(constructor<;>omega)|kernel_rfl) ?_
        all_goals first | kernel_rfl | omega | rfl
end Go.Proofs.YtghckbohaghgkaaGreat.DW

/-
  Polygons.
-/
namespace Go.Proofs.YtghckbohaghgkaaGreat.DW
open Go.RowKit
theorem indexFunc_vec_fn (F : FuncId) (p : DV → Bool) (hF : ∀ x : DV, Fn Tryz.prog F [⟨tVec, x⟩] false [⟨.bool, p x⟩]) (l : List DV) : Fn Tryz.prog 211 [⟨.slice tVec, l⟩, ⟨.cst (.fn F), ()⟩] false [⟨.int, ixf (t := tVec) p l⟩] := by
  refine fn_enter tabOK mixes Tryz.func211 rfl rfl _ Tryz.ntmps211 _ Tryz.results211 (by simp) fun hwf => ?_
  have hl : l.length ≤ 9223372036854775807 := (hwf ⟨.slice tVec, l⟩ (by simp)).1
  try simp (maxSteps := 9999999) only [go_sem]
  refine LoopG.intro _ _ _ (fun i : Nat => ⟨[(0, .sl tVec l), (1, .sc (.func (.func F) #[] #[])), (7, .sc (.int .i64 l.length)), (8, .sc (.int .i64 i))], []⟩) (fun i => ∀ j < i, j < l.length → p (nth (t := tVec) l j) = false) (fun i => l.length - i) 0 ?_ (fun j h => by simp at h) ?_
  · refine Wk.mk [] ?_
    try simp (maxSteps := 9999999) only [go_sem]
    try (and_intros <;> first | rfl | omega | exact ⟨_, rfl⟩)
  · rintro i h2
    try simp (maxSteps := 9999999) only [go_sem]
    refine CondW_dec (fun h3 => ?_) (fun h3 => ?_)
    · try simp (maxSteps := 9999999) only [go_sem]
      repeat refine And.intro (by first|omega|(constructor<;>omega)|kernel_rfl) ?_
      refine CallW.mk (hF (nth (t := tVec) l i)) ?_
      try simp (maxSteps := 9999999) only [go_sem]
      refine CondW_b (fun h4 => ?_) (fun h4 => ?_)
      · try simp (maxSteps := 9999999) only [go_sem]
        exact (ixf_at (by omega) h4 (fun j hj => h2 j hj (by omega))).symm
      · try simp (maxSteps := 9999999) only [go_sem]
        repeat refine And.intro (by first|omega|(constructor<;>omega)|kernel_rfl) ?_
        refine LoopK.mk (i + 1) ?_ (fun j hj hl => ?_) (by omega)
        · refine Wk.mk [] ?_
          try simp (maxSteps := 9999999) only [go_sem]
          try (and_intros <;> first | rfl | omega | exact ⟨_, rfl⟩)
        · by_cases hj2 : j < i
          · exact h2 j hj2 hl
          · rw [show j = i by omega]; exact h4
    · try simp (maxSteps := 9999999) only [go_sem]
      exact (ixf_none fun j hj => h2 j (by omega) hj).symm
theorem containsFunc_vec_fn (F : FuncId) (p : DV → Bool) (hF : ∀ x : DV, Fn Tryz.prog F [⟨tVec, x⟩] false [⟨.bool, p x⟩]) (l : List DV) : Fn Tryz.prog 168 [⟨.slice tVec, l⟩, ⟨.cst (.fn F), ()⟩] false [⟨.bool, l.any p⟩] := by
  refine fn_enter tabOK mixes Tryz.func168 rfl rfl _ Tryz.ntmps168 _ Tryz.results168 (by simp) fun hwf => ?_
  try simp (maxSteps := 9999999) only [go_sem]
  repeat refine And.intro (by first|omega|(constructor<;>omega)|kernel_rfl) ?_
  refine CallW.mk (indexFunc_vec_fn F p hF l) ?_
  try simp (maxSteps := 9999999) only [go_sem]
  exact ixf_any
theorem areVecsC_fn (v : DV) : Fn Tryz.prog 169 [⟨tVec, v⟩] false [⟨.bool, !okV v⟩] := by
  refine fn_enter tabOK mixes Tryz.func169 rfl rfl _ Tryz.ntmps169 _ Tryz.results169 (by simp) fun hwf => ?_
  try simp (maxSteps := 9999999) only [go_sem]
  repeat refine And.intro (by first|omega|(constructor<;>omega)|kernel_rfl) ?_
  refine CallW.mk (isVec_fn v) ?_
  try simp (maxSteps := 9999999) only [go_sem]
theorem areVecs_fn (l : List DV) : Fn Tryz.prog 124 [⟨.slice tVec, l⟩] false [⟨.bool, !(l.any fun v => !okV v)⟩] := by
  refine fn_enter tabOK mixes Tryz.func124 rfl rfl _ Tryz.ntmps124 _ Tryz.results124 (by simp) fun hwf => ?_
  try simp (maxSteps := 9999999) only [go_sem]
  repeat refine And.intro (by first|omega|(constructor<;>omega)|kernel_rfl) ?_
  refine CallW.mk (containsFunc_vec_fn _ _ areVecsC_fn l) ?_
  try simp (maxSteps := 9999999) only [go_sem]
/-- The index behind i, going round. -/
def nxt (n i : Nat) : Int := ((i : Int) + 1) % (n : Int)
def cornOK (l : List DV) (i k : Nat) : Prop := ¬ (k : Int) = i → ¬ (k : Int) = nxt l.length i → 0 < trn (nth (t := tVec) l i) (nth (t := tVec) l (nxt l.length i).toNat) (nth (t := tVec) l k)
def polyP (l : List DV) : Prop := (3 ≤ (l.length : Int) ∧ (l.length : Int) ≤ 16) ∧ (∀ v ∈ l, okV v = true) ∧ ∀ i k, i < l.length → k < l.length → cornOK l i k
noncomputable def polyB (l : List DV) : Bool := @decide (polyP l) (Classical.propDecidable _)
theorem polyB_t {l : List DV} (h : polyP l) : polyB l = true := @decide_eq_true _ (Classical.propDecidable _) h
theorem polyB_f {l : List DV} (h : ¬ polyP l) : polyB l = false := @decide_eq_false _ (Classical.propDecidable _) h
theorem any_okV {l : List DV} (h : (l.any fun v => !okV v) = false) : ∀ v ∈ l, okV v = true := by
  intro v hv
  rw [List.any_eq_false] at h
  simpa using h v hv
theorem nxt_rng {n i : Nat} (h : 0 < n) : 0 ≤ nxt n i ∧ nxt n i < n := ⟨Int.emod_nonneg _ (by omega), Int.emod_lt_of_pos _ (by omega)⟩
theorem nth_mem {l : List DV} {i : Nat} (h : i < l.length) : nth (t := tVec) l i ∈ l := by rw [nth_lt h]; exact List.getElem_mem h
theorem implIsPolygon_fn (l : List DV) : Fn Tryz.prog 126 [⟨.slice tVec, l⟩] false [⟨.bool, polyB l⟩] := by
  have c1 := within_fn l.length 3 16
  have c2 := areVecs_fn l
  by_cases h1 : 3 ≤ (l.length : Int) ∧ (l.length : Int) ≤ 16
  · rw [decide_eq_true h1] at c1
    cases h2 : l.any fun v => !okV v <;> rw [h2] at c2
    · have hok := any_okV h2
      have hN : 0 < l.length := by omega
      refine fn_enter tabOK mixes Tryz.func126 rfl rfl _ Tryz.ntmps126 _ Tryz.results126 (by simp) fun hwf => ?_
      try simp (maxSteps := 9999999) only [go_sem]
      repeat refine And.intro (by first|omega|(constructor<;>omega)|kernel_rfl) ?_
      refine CallW.mk (c1) ?_
      try simp (maxSteps := 9999999) only [go_sem]
      repeat refine And.intro (by first|omega|(constructor<;>omega)|kernel_rfl) ?_
      refine CallW.mk (c2) ?_
      try simp (maxSteps := 9999999) only [go_sem]
      refine LoopG.intro _ _ _ (fun i : Nat => ⟨[(0, .sl tVec l), (3, .sc (.int .i64 l.length)), (19, .sl tVec l), (20, .sc (.int .i64 l.length)), (21, .sc (.int .i64 i))], []⟩) (fun i => ∀ i' k, i' < i → i' < l.length → k < l.length → cornOK l i' k) (fun i => l.length - i) 0 ?_ (fun i' k h => absurd h (Nat.not_lt_zero _)) ?_
      · refine Wk.mk [] ?_
        try simp (maxSteps := 9999999) only [go_sem]
        try (and_intros <;> first | rfl | omega | exact ⟨_, rfl⟩)
      · rintro i hi
        have hr := nxt_rng (i := i) hN
        unfold nxt at hr
        try simp (maxSteps := 9999999) only [go_sem]
        refine CondW_dec (fun hA => ?_) (fun hA => ?_)
        · try simp (maxSteps := 9999999) only [go_sem]
          repeat refine And.intro (by first|omega|(constructor<;>omega)|kernel_rfl) ?_
          refine RemW.pos (by omega) (by omega) ?_
          try simp (maxSteps := 9999999) only [go_sem]
          repeat refine And.intro (by first|omega|(constructor<;>omega)|kernel_rfl) ?_
          refine LoopG.intro _ _ _ (fun k : Nat => ⟨[(0, .sl tVec l), (3, .sc (.int .i64 l.length)), (19, .sl tVec l), (20, .sc (.int .i64 l.length)), (21, .sc (.int .i64 i)), (4, .sc (.int .i64 i)), (5, .ptr 0 0), (6, .ptr 1 0), (33, .sl tVec l), (34, .sc (.int .i64 l.length)), (35, .sc (.int .i64 k))], [(1, .box [.sc (.int .i64 (nth (t := tVec) l (nxt l.length i).toNat).1), .sc (.int .i64 (nth (t := tVec) l (nxt l.length i).toNat).2)]), (0, .box [.sc (.int .i64 (nth (t := tVec) l i).1), .sc (.int .i64 (nth (t := tVec) l i).2)])]⟩) (fun k => ∀ k', k' < k → k' < l.length → cornOK l i k') (fun k => l.length - k) 0 ?_ (fun k h => absurd h (Nat.not_lt_zero _)) ?_
          · refine Wk.mk [] ?_
            try simp (maxSteps := 9999999) only [go_sem]
            try (and_intros <;> first | rfl | omega | exact ⟨_, rfl⟩)
          · rintro k hk
            have hv := turn_fn (nth (t := tVec) l i) (nth (t := tVec) l (nxt l.length i).toNat) (nth (t := tVec) l k)
            have hi3 : i < l.length := by omega
            have oi := hok _ (nth_mem hi3)
            have on := hok _ (nth_mem (l := l) (i := (nxt l.length i).toNat) (by unfold nxt; omega))
            try simp (maxSteps := 9999999) only [go_sem]
            refine CondW_dec (fun hB => ?_) (fun hB => ?_)
            · have hv := hv oi on (hok _ (nth_mem (by omega)))
              have hgo : cornOK l i k → ∀ k', k' < k + 1 → k' < l.length → cornOK l i k' := fun h k' h1 h2 => by
                by_cases h3 : k' < k
                · exact hk k' h3 h2
                · rw [show k' = k by omega]; exact h
              by_cases e1 : (k : Int) = i
              · have d1 := decide_eq_true e1
                try simp (maxSteps := 9999999) only [go_sem, d1]
                repeat refine And.intro (by first|omega|(constructor<;>omega)|kernel_rfl) ?_
                refine LoopK.mk (k + 1) ?_ (hgo fun h => absurd e1 h) (by omega)
                refine Wk.mk [] ?_
                try simp (maxSteps := 9999999) only [go_sem]
                try (and_intros <;> first | rfl | omega | exact ⟨_, rfl⟩)
              · have d1 := decide_eq_false e1
                by_cases e2 : (k : Int) = ((i : Int) + 1) % (l.length : Int)
                · have d2 := decide_eq_true e2
                  try simp (maxSteps := 9999999) only [go_sem, d1]
                  repeat refine And.intro (by first|omega|(constructor<;>omega)|kernel_rfl) ?_
                  refine RemW.pos (by omega) (by omega) ?_
                  try simp (maxSteps := 9999999) only [go_sem, d2]
                  repeat refine And.intro (by first|omega|(constructor<;>omega)|kernel_rfl) ?_
                  refine LoopK.mk (k + 1) ?_ (hgo fun _ h => absurd e2 h) (by omega)
                  refine Wk.mk [] ?_
                  try simp (maxSteps := 9999999) only [go_sem]
                  try (and_intros <;> first | rfl | omega | exact ⟨_, rfl⟩)
                · have d2 := decide_eq_false e2
                  try simp (maxSteps := 9999999) only [go_sem, d1]
                  repeat refine And.intro (by first|omega|(constructor<;>omega)|kernel_rfl) ?_
                  refine RemW.pos (by omega) (by omega) ?_
                  try simp (maxSteps := 9999999) only [go_sem, d2]
                  repeat refine And.intro (by first|omega|(constructor<;>omega)|kernel_rfl) ?_
                  refine CallW.mk (hv) ?_
                  try simp (maxSteps := 9999999) only [go_sem]
                  refine CondW_dec (fun e3 => ?_) (fun e3 => ?_)
                  · have : ¬ polyP l := fun h => by
                      have := h.2.2 i k (by omega) (by omega) e1 e2
                      omega
                    rw [polyB_f this]
                    try simp (maxSteps := 9999999) only [go_sem]
                  · try simp (maxSteps := 9999999) only [go_sem]
                    repeat refine And.intro (by first|omega|(constructor<;>omega)|kernel_rfl) ?_
                    refine LoopK.mk (k + 1) ?_ (hgo fun _ _ => by omega) (by omega)
                    refine Wk.mk [] ?_
                    try simp (maxSteps := 9999999) only [go_sem]
                    try (and_intros <;> first | rfl | omega | exact ⟨_, rfl⟩)
            · try simp (maxSteps := 9999999) only [go_sem]
              repeat refine And.intro (by first|omega|(constructor<;>omega)|kernel_rfl) ?_
              refine LoopK.mk (i + 1) ?_ (fun i' k' h1 h2 h3 => ?_) (by omega)
              · refine Wk.mk [] ?_
                try simp (maxSteps := 9999999) only [go_sem]
                try (and_intros <;> first | rfl | omega | exact ⟨_, rfl⟩)
              · by_cases h4 : i' < i
                · exact hi i' k' h4 h2 h3
                · rw [show i' = i by omega]; exact hk k' (by omega) h3
        · have : polyP l := ⟨h1, hok, fun i' k h3 h4 => hi i' k (by omega) h3 h4⟩
          rw [polyB_t this]
          try simp (maxSteps := 9999999) only [go_sem]
    · have : ¬ polyP l := fun h => by
        have := h.2.1
        rw [List.any_eq_true] at h2
        obtain ⟨v, hv, h3⟩ := h2
        rw [this v hv] at h3
        cases h3
      rw [polyB_f this]
      refine fn_enter tabOK mixes Tryz.func126 rfl rfl _ Tryz.ntmps126 _ Tryz.results126 (by simp) fun hwf => ?_
      try simp (maxSteps := 9999999) only [go_sem]
      repeat refine And.intro (by first|omega|(constructor<;>omega)|kernel_rfl) ?_
      refine CallW.mk (c1) ?_
      try simp (maxSteps := 9999999) only [go_sem]
      repeat refine And.intro (by first|omega|(constructor<;>omega)|kernel_rfl) ?_
      refine CallW.mk (c2) ?_
      try simp (maxSteps := 9999999) only [go_sem]
  · rw [decide_eq_false h1] at c1
    have : ¬ polyP l := fun h => h1 h.1
    rw [polyB_f this]
    refine fn_enter tabOK mixes Tryz.func126 rfl rfl _ Tryz.ntmps126 _ Tryz.results126 (by simp) fun hwf => ?_
    try simp (maxSteps := 9999999) only [go_sem]
    repeat refine And.intro (by first|omega|(constructor<;>omega)|kernel_rfl) ?_
    refine CallW.mk (c1) ?_
    try simp (maxSteps := 9999999) only [go_sem]
def specOK (l : List DV) (i k : Nat) : Prop := okV (nth (t := tVec) l k) = true ∧ (¬ (k : Int) = i → ¬ (k : Int) = nxt l.length i → 0 < trq (nth (t := tVec) l i) (nth (t := tVec) l (nxt l.length i).toNat) (nth (t := tVec) l k))
theorem specOK_of {l : List DV} (h : polyP l) {i k : Nat} (hi : i < l.length) (hk : k < l.length) : specOK l i k := by
  have hr := nxt_rng (n := l.length) (i := i) (by omega)
  refine ⟨h.2.1 _ (nth_mem hk), fun h1 h2 => ?_⟩
  have h3 := h.2.2 i k hi hk h1 h2
  unfold trq
  rw [h.2.1 _ (nth_mem hi), h.2.1 _ (nth_mem hk), h.2.1 _ (nth_mem (i := (nxt l.length i).toNat) (by omega))]
  exact h3
theorem polyP_of {l : List DV} (h0 : 3 ≤ (l.length : Int) ∧ (l.length : Int) ≤ 16) (h : ∀ i k, i < l.length → k < l.length → specOK l i k) : polyP l := by
  have hv : ∀ k, k < l.length → okV (nth (t := tVec) l k) = true := fun k hk => (h 0 k (by omega) hk).1
  refine ⟨h0, fun v hm => ?_, fun i k hi hk h1 h2 => ?_⟩
  · obtain ⟨k, hk, rfl⟩ := List.getElem_of_mem hm
    have := hv k hk
    rw [nth_lt hk] at this
    exact this
  · have hr := nxt_rng (n := l.length) (i := i) (by omega)
    have h3 := (h i k hi hk).2 h1 h2
    unfold trq at h3
    rw [hv i hi, hv k hk, hv (nxt l.length i).toNat (by omega)] at h3
    exact h3
theorem specIsPolygon_fn (l : List DV) : Fn Tryz.prog 74 [⟨.slice tVec, l⟩] false [⟨.bool, polyB l⟩] := by
  have c1 := l01In_fn l.length 3 16
  by_cases h1 : 3 ≤ (l.length : Int) ∧ (l.length : Int) ≤ 16
  · rw [decide_eq_true h1] at c1
    have hN : 0 < l.length := by omega
    refine fn_enter tabOK mixes Tryz.func74 rfl rfl _ Tryz.ntmps74 _ Tryz.results74 (by simp) fun hwf => ?_
    try simp (maxSteps := 9999999) only [go_sem]
    repeat refine And.intro (by first|omega|(constructor<;>omega)|kernel_rfl) ?_
    refine CallW.mk (c1) ?_
    try simp (maxSteps := 9999999) only [go_sem]
    refine LoopG.intro _ _ _ (fun i : Nat => ⟨[(0, .sl tVec l), (3, .sc (.int .i64 l.length)), (14, .sl tVec l), (15, .sc (.int .i64 l.length)), (16, .sc (.int .i64 i))], []⟩) (fun i => ∀ i' k, i' < i → i' < l.length → k < l.length → specOK l i' k) (fun i => l.length - i) 0 ?_ (fun i' k h => absurd h (Nat.not_lt_zero _)) ?_
    · refine Wk.mk [] ?_
      try simp (maxSteps := 9999999) only [go_sem]
      try (and_intros <;> first | rfl | omega | exact ⟨_, rfl⟩)
    · rintro i hi
      have hr := nxt_rng (i := i) hN
      unfold nxt at hr
      try simp (maxSteps := 9999999) only [go_sem]
      refine CondW_dec (fun hA => ?_) (fun hA => ?_)
      · try simp (maxSteps := 9999999) only [go_sem]
        repeat refine And.intro (by first|omega|(constructor<;>omega)|kernel_rfl) ?_
        refine RemW.pos (by omega) (by omega) ?_
        try simp (maxSteps := 9999999) only [go_sem]
        repeat refine And.intro (by first|omega|(constructor<;>omega)|kernel_rfl) ?_
        refine LoopG.intro _ _ _ (fun k : Nat => ⟨[(0, .sl tVec l), (3, .sc (.int .i64 l.length)), (14, .sl tVec l), (15, .sc (.int .i64 l.length)), (16, .sc (.int .i64 i)), (4, .sc (.int .i64 i)), (5, .ptr 0 0), (6, .ptr 1 0), (28, .sl tVec l), (29, .sc (.int .i64 l.length)), (30, .sc (.int .i64 k))], [(1, .box [.sc (.int .i64 (nth (t := tVec) l (nxt l.length i).toNat).1), .sc (.int .i64 (nth (t := tVec) l (nxt l.length i).toNat).2)]), (0, .box [.sc (.int .i64 (nth (t := tVec) l i).1), .sc (.int .i64 (nth (t := tVec) l i).2)])]⟩) (fun k => ∀ k', k' < k → k' < l.length → specOK l i k') (fun k => l.length - k) 0 ?_ (fun k h => absurd h (Nat.not_lt_zero _)) ?_
        · refine Wk.mk [] ?_
          try simp (maxSteps := 9999999) only [go_sem]
          try (and_intros <;> first | rfl | omega | exact ⟨_, rfl⟩)
        · rintro k hk
          have hv := Turn_fn (nth (t := tVec) l i) (nth (t := tVec) l (nxt l.length i).toNat) (nth (t := tVec) l k)
          have hw := IsValidVec_fn (nth (t := tVec) l k)
          try simp (maxSteps := 9999999) only [go_sem]
          refine CondW_dec (fun hB => ?_) (fun hB => ?_)
          · have hgo : specOK l i k → ∀ k', k' < k + 1 → k' < l.length → specOK l i k' := fun h k' h1 h2 => by
              by_cases h3 : k' < k
              · exact hk k' h3 h2
              · rw [show k' = k by omega]; exact h
            cases e0 : okV (nth (t := tVec) l k) <;> rw [e0] at hw
            · have : ¬ polyP l := fun h => by
                have := h.2.1 _ (nth_mem (l := l) (i := k) (by omega))
                rw [e0] at this; cases this
              rw [polyB_f this]
              try simp (maxSteps := 9999999) only [go_sem]
              repeat refine And.intro (by first|omega|(constructor<;>omega)|kernel_rfl) ?_
              refine CallW.mk (hw) ?_
              try simp (maxSteps := 9999999) only [go_sem]
            · by_cases e1 : (k : Int) = i
              · have d1 := decide_eq_true e1
                try simp (maxSteps := 9999999) only [go_sem]
                repeat refine And.intro (by first|omega|(constructor<;>omega)|kernel_rfl) ?_
                refine CallW.mk (hw) ?_
                try simp (maxSteps := 9999999) only [go_sem]
                try simp (maxSteps := 9999999) only [go_sem, d1]
                repeat refine And.intro (by first|omega|(constructor<;>omega)|kernel_rfl) ?_
                refine LoopK.mk (k + 1) ?_ (hgo ⟨e0, fun h => absurd e1 h⟩) (by omega)
                refine Wk.mk [] ?_
                try simp (maxSteps := 9999999) only [go_sem]
                try (and_intros <;> first | rfl | omega | exact ⟨_, rfl⟩)
              · have d1 := decide_eq_false e1
                by_cases e2 : (k : Int) = ((i : Int) + 1) % (l.length : Int)
                · have d2 := decide_eq_true e2
                  try simp (maxSteps := 9999999) only [go_sem]
                  repeat refine And.intro (by first|omega|(constructor<;>omega)|kernel_rfl) ?_
                  refine CallW.mk (hw) ?_
                  try simp (maxSteps := 9999999) only [go_sem]
                  try simp (maxSteps := 9999999) only [go_sem, d1]
                  repeat refine And.intro (by first|omega|(constructor<;>omega)|kernel_rfl) ?_
                  refine RemW.pos (by omega) (by omega) ?_
                  try simp (maxSteps := 9999999) only [go_sem, d2]
                  repeat refine And.intro (by first|omega|(constructor<;>omega)|kernel_rfl) ?_
                  refine LoopK.mk (k + 1) ?_ (hgo ⟨e0, fun _ h => absurd e2 h⟩) (by omega)
                  refine Wk.mk [] ?_
                  try simp (maxSteps := 9999999) only [go_sem]
                  try (and_intros <;> first | rfl | omega | exact ⟨_, rfl⟩)
                · have d2 := decide_eq_false e2
                  try simp (maxSteps := 9999999) only [go_sem]
                  repeat refine And.intro (by first|omega|(constructor<;>omega)|kernel_rfl) ?_
                  refine CallW.mk (hw) ?_
                  try simp (maxSteps := 9999999) only [go_sem]
                  try simp (maxSteps := 9999999) only [go_sem, d1]
                  repeat refine And.intro (by first|omega|(constructor<;>omega)|kernel_rfl) ?_
                  refine RemW.pos (by omega) (by omega) ?_
                  try simp (maxSteps := 9999999) only [go_sem, d2]
                  repeat refine And.intro (by first|omega|(constructor<;>omega)|kernel_rfl) ?_
                  refine CallW.mk (hv) ?_
                  try simp (maxSteps := 9999999) only [go_sem]
                  refine CondW_dec (fun e3 => ?_) (fun e3 => ?_)
                  · have : ¬ polyP l := fun h => by
                      have := (specOK_of h (i := i) (k := k) (by omega) (by omega)).2 e1 e2
                      omega
                    rw [polyB_f this]
                    try simp (maxSteps := 9999999) only [go_sem]
                  · try simp (maxSteps := 9999999) only [go_sem]
                    repeat refine And.intro (by first|omega|(constructor<;>omega)|kernel_rfl) ?_
                    refine LoopK.mk (k + 1) ?_ (hgo ⟨e0, fun _ _ => by omega⟩) (by omega)
                    refine Wk.mk [] ?_
                    try simp (maxSteps := 9999999) only [go_sem]
                    try (and_intros <;> first | rfl | omega | exact ⟨_, rfl⟩)
          · try simp (maxSteps := 9999999) only [go_sem]
            repeat refine And.intro (by first|omega|(constructor<;>omega)|kernel_rfl) ?_
            refine LoopK.mk (i + 1) ?_ (fun i' k' h1 h2 h3 => ?_) (by omega)
            · refine Wk.mk [] ?_
              try simp (maxSteps := 9999999) only [go_sem]
              try (and_intros <;> first | rfl | omega | exact ⟨_, rfl⟩)
            · by_cases h4 : i' < i
              · exact hi i' k' h4 h2 h3
              · rw [show i' = i by omega]; exact hk k' (by omega) h3
      · have : polyP l := polyP_of h1 fun i' k h3 h4 => hi i' k (by omega) h3 h4
        rw [polyB_t this]
        try simp (maxSteps := 9999999) only [go_sem]
  · rw [decide_eq_false h1] at c1
    have : ¬ polyP l := fun h => h1 h.1
    rw [polyB_f this]
    refine fn_enter tabOK mixes Tryz.func74 rfl rfl _ Tryz.ntmps74 _ Tryz.results74 (by simp) fun hwf => ?_
    try simp (maxSteps := 9999999) only [go_sem]
    repeat refine And.intro (by first|omega|(constructor<;>omega)|kernel_rfl) ?_
    refine CallW.mk (c1) ?_
    try simp (maxSteps := 9999999) only [go_sem]
end Go.Proofs.YtghckbohaghgkaaGreat.DW

/-
  Sorted lists of vectors: two ways to make one, and the chain along it. No program here.
-/
namespace Go.Proofs.YtghckbohaghgkaaGreat.DW
open Go.RowKit
def ltV (a b : DV) : Prop := a.1 < b.1 ∨ a.1 = b.1 ∧ a.2 < b.2
instance (a b : DV) : Decidable (ltV a b) := by unfold ltV; infer_instance
theorem ltV_irrefl (a : DV) : ¬ ltV a a := by unfold ltV; omega
theorem ltV_trans {a b c : DV} (h1 : ltV a b) (h2 : ltV b c) : ltV a c := by unfold ltV at *; omega
theorem ltV_tri (a b : DV) : ltV a b ∨ a = b ∨ ltV b a := by
  obtain ⟨a1, a2⟩ := a
  obtain ⟨b1, b2⟩ := b
  unfold ltV
  simp only [Prod.mk.injEq]
  omega
theorem ltV_asymm {a b : DV} (h : ltV a b) : ¬ ltV b a := fun h2 => ltV_irrefl _ (ltV_trans h h2)
/-- Strictly sorted lists with the same members are one. -/
theorem srt_unique : ∀ {l m : List DV}, l.Pairwise ltV → m.Pairwise ltV → (∀ x, x ∈ l ↔ x ∈ m) → l = m
  | [], [], _, _, _ => rfl
  | [], b :: m, _, _, h => absurd ((h b).2 List.mem_cons_self) (by simp)
  | a :: l, [], _, _, h => absurd ((h a).1 List.mem_cons_self) (by simp)
  | a :: l, b :: m, h1, h2, h => by
    rw [List.pairwise_cons] at h1 h2
    have hab : a = b := by
      rcases List.mem_cons.1 ((h a).1 List.mem_cons_self) with e | e
      · exact e
      · rcases List.mem_cons.1 ((h b).2 List.mem_cons_self) with e2 | e2
        · exact e2.symm
        · exact absurd (ltV_trans (h1.1 b e2) (h2.1 a e)) (ltV_irrefl _)
    subst hab
    refine congrArg (a :: ·) (srt_unique h1.2 h2.2 fun x => ⟨fun hx => ?_, fun hx => ?_⟩)
    · rcases List.mem_cons.1 ((h x).1 (List.mem_cons_of_mem _ hx)) with e | e
      · subst e; exact absurd (h1.1 _ hx) (ltV_irrefl _)
      · exact e
    · rcases List.mem_cons.1 ((h x).2 (List.mem_cons_of_mem _ hx)) with e | e
      · subst e; exact absurd (h2.1 _ hx) (ltV_irrefl _)
      · exact e
/-- A list without what is equal to its left neighbour. -/
def cmpD : List DV → List DV
  | [] => []
  | [a] => [a]
  | a :: b :: l => if a = b then cmpD (b :: l) else a :: cmpD (b :: l)
theorem cmpD_mem : ∀ {l : List DV} {x : DV}, x ∈ cmpD l ↔ x ∈ l
  | [], x => by simp [cmpD]
  | [a], x => by simp [cmpD]
  | a :: b :: l, x => by
    have ih := cmpD_mem (l := b :: l) (x := x)
    unfold cmpD
    split
    · rename_i h; subst h; rw [ih]; simp
    · rw [List.mem_cons, ih, List.mem_cons, List.mem_cons, List.mem_cons]
theorem cmpD_len : ∀ {l : List DV}, (cmpD l).length ≤ l.length
  | [] => by simp [cmpD]
  | [a] => by simp [cmpD]
  | a :: b :: l => by
    have ih := cmpD_len (l := b :: l)
    unfold cmpD
    split <;> simp only [List.length_cons] at ih ⊢ <;> omega
theorem cmpD_srt : ∀ {l : List DV}, l.Pairwise (fun a b => ¬ ltV b a) → (cmpD l).Pairwise ltV
  | [], _ => by simp [cmpD]
  | [a], _ => by simp [cmpD]
  | a :: b :: l, h => by
    rw [List.pairwise_cons] at h
    have ih := cmpD_srt h.2
    unfold cmpD
    split
    · exact ih
    · rename_i hne
      refine List.pairwise_cons.2 ⟨fun x hx => ?_, ih⟩
      rw [cmpD_mem] at hx
      have hb : ¬ ltV b a := h.1 b List.mem_cons_self
      have hab : ltV a b := by
        rcases ltV_tri a b with h | h | h
        · exact h
        · exact absurd h hne
        · exact absurd h hb
      rcases List.mem_cons.1 hx with rfl | hx
      · exact hab
      · rcases ltV_tri b x with h3 | h3 | h3
        · exact ltV_trans hab h3
        · exact h3 ▸ hab
        · exact absurd h3 ((List.pairwise_cons.1 h.2).1 x hx)
/-- How the program compares vectors. -/
def cfV (a b : DV) : Int := if a.1 = b.1 then a.2 - b.2 else a.1 - b.1
theorem cfV_lt (a b : DV) : cfV a b < 0 ↔ ltV a b := by
  unfold cfV ltV
  split <;> omega
def leB (a b : DV) : Bool := !decide (cfV b a < 0)
theorem leB_iff (a b : DV) : leB a b = true ↔ ¬ ltV b a := by
  unfold leB
  rw [Bool.not_eq_true', decide_eq_false_iff_not, cfV_lt]
/-- Sorted, each vector once. -/
def srtD (l : List DV) : List DV := cmpD (l.mergeSort leB)
theorem srtD_mem {l : List DV} {x : DV} : x ∈ srtD l ↔ x ∈ l := by
  unfold srtD
  rw [cmpD_mem, List.mem_mergeSort]
theorem srtD_srt (l : List DV) : (srtD l).Pairwise ltV := by
  refine cmpD_srt ?_
  have h := List.pairwise_mergeSort (le := leB) (fun a b c h1 h2 => by
    rw [leB_iff] at *
    intro h
    rcases ltV_tri b a with h3 | h3 | h3
    · exact h1 h3
    · subst h3; exact h2 h
    · exact h2 (ltV_trans h h3)) (fun a b => by
    rcases ltV_tri a b with h | h | h
    · rw [Bool.or_eq_true]; exact .inl ((leB_iff a b).2 (ltV_asymm h))
    · subst h; rw [Bool.or_eq_true]; exact .inl ((leB_iff a a).2 (ltV_irrefl _))
    · rw [Bool.or_eq_true]; exact .inr ((leB_iff b a).2 (ltV_asymm h))) l
  exact h.imp fun {a b} h => (leB_iff a b).1 h
theorem srtD_len (l : List DV) : (srtD l).length ≤ l.length := by
  unfold srtD
  have := cmpD_len (l := l.mergeSort leB)
  rw [List.length_mergeSort] at this
  exact this
theorem srtD_eq {l m : List DV} (h1 : m.Pairwise ltV) (h2 : ∀ x, x ∈ m ↔ x ∈ l) : m = srtD l := srt_unique h1 (srtD_srt l) fun x => by rw [h2, srtD_mem]
/-- One more vector in a sorted list. -/
def insD (p : DV) : List DV → List DV
  | [] => [p]
  | a :: l => if ltV a p then a :: insD p l else if a = p then a :: l else p :: a :: l
theorem insD_mem {p x : DV} : ∀ {l : List DV}, x ∈ insD p l ↔ x = p ∨ x ∈ l
  | [] => by simp [insD]
  | a :: l => by
    have ih := insD_mem (p := p) (x := x) (l := l)
    unfold insD
    split
    · rw [List.mem_cons, ih, List.mem_cons]; constructor
      · rintro (h | h | h)
        · exact .inr (.inl h)
        · exact .inl h
        · exact .inr (.inr h)
      · rintro (h | h | h)
        · exact .inr (.inl h)
        · exact .inl h
        · exact .inr (.inr h)
    · split
      · rename_i h; subst h; simp
      · simp
theorem insD_srt {p : DV} : ∀ {l : List DV}, l.Pairwise ltV → (insD p l).Pairwise ltV
  | [], _ => by simp [insD]
  | a :: l, h => by
    have h' := h
    rw [List.pairwise_cons] at h
    unfold insD
    split
    · rename_i hlt
      refine List.pairwise_cons.2 ⟨fun x hx => ?_, insD_srt h.2⟩
      rcases insD_mem.1 hx with rfl | hx
      · exact hlt
      · exact h.1 x hx
    · split
      · exact h'
      · rename_i h1 h2
        have hp : ltV p a := by
          rcases ltV_tri a p with h3 | h3 | h3
          · exact absurd h3 h1
          · exact absurd h3 h2
          · exact h3
        refine List.pairwise_cons.2 ⟨fun x hx => ?_, h'⟩
        rcases List.mem_cons.1 hx with rfl | hx
        · exact hp
        · exact ltV_trans hp (h.1 x hx)
/-- Where a vector belongs: all before it are less. -/
theorem insD_at {p : DV} : ∀ {l : List DV} {i : Nat}, i ≤ l.length → (∀ j, j < i → ltV (nth (t := tVec) l j) p) → (i < l.length → ¬ ltV (nth (t := tVec) l i) p) →
    insD p l = if i < l.length ∧ nth (t := tVec) l i = p then l else l.take i ++ p :: l.drop i
  | [], 0, _, _, _ => by simp [insD]
  | [], i + 1, h, _, _ => by simp at h
  | a :: l, 0, _, _, h2 => by
    have h2 : ¬ ltV a p := h2 (by simp)
    have e : nth (t := tVec) (a :: l) 0 = a := rfl
    unfold insD
    rw [if_neg h2, e]
    by_cases h3 : a = p
    · rw [if_pos h3, if_pos ⟨by simp, h3⟩]
    · rw [if_neg h3, if_neg fun h => h3 h.2]; rfl
  | a :: l, i + 1, hi, h1, h2 => by
    have e : ∀ j, nth (t := tVec) (a :: l) (j + 1) = nth (t := tVec) l j := fun j => by simp [nth]
    have h0 : ltV a p := h1 0 (by omega)
    have ih := insD_at (p := p) (l := l) (i := i) (by simp only [List.length_cons] at hi; omega) (fun j hj => by rw [← e]; exact h1 (j + 1) (by omega)) (fun hj => by rw [← e]; exact h2 (by simp only [List.length_cons]; omega))
    unfold insD
    rw [if_pos h0, ih, e]
    by_cases h3 : i < l.length ∧ nth (t := tVec) l i = p
    · rw [if_pos h3, if_pos ⟨by simp only [List.length_cons]; omega, h3.2⟩]
    · rw [if_neg h3, if_neg fun h => h3 ⟨by have := h.1; simp only [List.length_cons] at this; omega, h.2⟩]; rfl
def srtI (l : List DV) (i : Nat) : List DV := (l.take i).foldl (fun s p => insD p s) []
theorem srtI_step {l : List DV} {i : Nat} (h : i < l.length) : srtI l (i + 1) = insD (nth (t := tVec) l i) (srtI l i) := by
  unfold srtI
  rw [nth_lt h, List.take_succ_eq_append_getElem h, List.foldl_append]; rfl
theorem ins_fold : ∀ {l s : List DV}, s.Pairwise ltV → (l.foldl (fun s p => insD p s) s).Pairwise ltV ∧ ∀ x, x ∈ l.foldl (fun s p => insD p s) s ↔ x ∈ l ∨ x ∈ s
  | [], s, h => ⟨h, fun x => by simp⟩
  | p :: l, s, h => by
    obtain ⟨h1, h2⟩ := ins_fold (l := l) (insD_srt (p := p) h)
    refine ⟨h1, fun x => ?_⟩
    rw [List.foldl_cons, h2, insD_mem, List.mem_cons]
    constructor
    · rintro (h | h | h)
      · exact .inl (.inr h)
      · exact .inl (.inl h)
      · exact .inr h
    · rintro ((h | h) | h)
      · exact .inr (.inl h)
      · exact .inl h
      · exact .inr (.inr h)
theorem srtI_all (l : List DV) : srtI l l.length = srtD l := by
  unfold srtI
  rw [List.take_length]
  obtain ⟨h1, h2⟩ := ins_fold (l := l) (s := []) List.Pairwise.nil
  exact srtD_eq h1 fun x => by rw [h2]; simp
theorem insD_len {p : DV} : ∀ {l : List DV}, (insD p l).length ≤ l.length + 1
  | [] => by simp [insD]
  | a :: l => by
    have ih := insD_len (p := p) (l := l)
    unfold insD
    split
    · simp only [List.length_cons]; omega
    · split <;> simp only [List.length_cons] <;> omega
theorem srtI_len (l : List DV) : ∀ i, (srtI l i).length ≤ i
  | 0 => by simp [srtI]
  | i + 1 => by
    by_cases h : i < l.length
    · rw [srtI_step h]
      have := insD_len (p := nth (t := tVec) l i) (l := srtI l i)
      have := srtI_len l i
      omega
    · have : srtI l (i + 1) = srtI l i := by
        unfold srtI; rw [List.take_of_length_le (by omega), List.take_of_length_le (by omega)]
      rw [this]
      have := srtI_len l i
      omega
/-- What is left of a chain, its last point first, before a point is put to it. -/
def popD (v : DV) : List DV → List DV
  | b :: a :: l => if trn a b v ≤ 0 then popD v (a :: l) else b :: a :: l
  | l => l
theorem popD_len {v : DV} : ∀ {l : List DV}, (popD v l).length ≤ l.length
  | [] => Nat.le_refl _
  | [a] => Nat.le_refl _
  | b :: a :: l => by
    unfold popD
    split
    · exact Nat.le_trans popD_len (by simp)
    · exact Nat.le_refl _
theorem popD_sub {v x : DV} : ∀ {l : List DV}, x ∈ popD v l → x ∈ l
  | [], h => h
  | [a], h => h
  | b :: a :: l, h => by
    unfold popD at h
    split at h
    · exact List.mem_cons_of_mem _ (popD_sub h)
    · exact h
/-- The chain, its last point first. -/
def chR (l : List DV) : List DV := l.foldl (fun c v => v :: popD v c) []
def chRi (l : List DV) (i : Nat) : List DV := chR (l.take i)
theorem chRi_step {l : List DV} {i : Nat} (h : i < l.length) : chRi l (i + 1) = nth (t := tVec) l i :: popD (nth (t := tVec) l i) (chRi l i) := by
  unfold chRi chR
  rw [nth_lt h, List.take_succ_eq_append_getElem h, List.foldl_append]; rfl
theorem chRi_len (l : List DV) : ∀ i, (chRi l i).length ≤ i
  | 0 => by simp [chRi, chR]
  | i + 1 => by
    by_cases h : i < l.length
    · rw [chRi_step h, List.length_cons]
      have := popD_len (v := nth (t := tVec) l i) (l := chRi l i)
      have := chRi_len l i
      omega
    · have : chRi l (i + 1) = chRi l i := by
        unfold chRi; rw [List.take_of_length_le (by omega), List.take_of_length_le (by omega)]
      rw [this]
      have := chRi_len l i
      omega
theorem chRi_mem {l : List DV} {x : DV} : ∀ {i : Nat}, x ∈ chRi l i → x ∈ l
  | 0, h => by simp [chRi, chR] at h
  | i + 1, h => by
    by_cases hi : i < l.length
    · rw [chRi_step hi] at h
      rcases List.mem_cons.1 h with rfl | h
      · exact nth_mem hi
      · exact chRi_mem (popD_sub h)
    · have e : chRi l (i + 1) = chRi l i := by
        unfold chRi; rw [List.take_of_length_le (by omega), List.take_of_length_le (by omega)]
      rw [e] at h
      exact chRi_mem h
/-- The chain, its last point left out. -/
def chD (l : List DV) : List DV := (chR l).reverse.dropLast
/-- The hull. -/
def hullD (l : List DV) : List DV := if (srtD l).length < 2 then srtD l else chD (srtD l) ++ chD (srtD l).reverse
end Go.Proofs.YtghckbohaghgkaaGreat.DW

/-
  Vectors and polygons: turned, negated, moved.
-/
namespace Go.Proofs.YtghckbohaghgkaaGreat.DW
open Go.RowKit
def rot1 (v : DV) : DV := (-v.2, v.1)
def rotN : Nat → DV → DV
  | 0, v => v
  | n + 1, v => rot1 (rotN n v)
theorem okV_of {v : DV} (h1 : -1000 ≤ v.1) (h2 : v.1 ≤ 1000) (h3 : -1000 ≤ v.2) (h4 : v.2 ≤ 1000) : okV v = true := by
  unfold okV inB
  rw [Bool.and_eq_true, decide_eq_true_iff, decide_eq_true_iff]
  exact ⟨⟨h1, h2⟩, h3, h4⟩
theorem okV_rot {v : DV} (h : okV v = true) : ∀ n, okV (rotN n v) = true
  | 0 => h
  | n + 1 => by
    have := okV_b (okV_rot h n)
    show okV (rot1 (rotN n v)) = true
    unfold rot1
    exact okV_of (by simp only; omega) (by simp only; omega) (by simp only; omega) (by simp only; omega)
theorem turnVec_fn (v : DV) (k : Int) (hv : okV v = true) (hk : 0 ≤ k ∧ k ≤ 3) : Fn Tryz.prog 125 [⟨tVec, v⟩, ⟨.int, k⟩] false [⟨tVec, rotN k.toNat v⟩] := by
  have e : (k % 4 + 4) % 4 = k := by omega
  refine fn_enter tabOK mixes Tryz.func125 rfl rfl _ Tryz.ntmps125 _ Tryz.results125 (by simp) fun hwf => ?_
  try simp (maxSteps := 9999999) only [go_sem]
  refine RemW.pos (by omega) (by decide) ?_
  try simp (maxSteps := 9999999) only [go_sem]
  repeat refine And.intro (by first|omega|(constructor<;>omega)|kernel_rfl) ?_
  refine RemW.pos (by omega) (by decide) ?_
  rw [e]
  try simp (maxSteps := 9999999) only [go_sem]
  refine LoopG.intro _ _ _ (fun i : Nat => ⟨[(2, .ptr 0 0), (4, .ptr 1 0), (8, .sc (.int .i64 k)), (9, .sc (.int .i64 i))], [(1, .box [.sc (.int .i64 0), .sc (.int .i64 0)]), (0, .box [.sc (.int .i64 (rotN i v).1), .sc (.int .i64 (rotN i v).2)])]⟩) (fun i => i ≤ k.toNat) (fun i => k.toNat - i) 0 ?_ (Nat.zero_le _) ?_
  · refine Wk.mk [] ?_
    try simp (maxSteps := 9999999) only [go_sem]
    try (and_intros <;> first | rfl | omega | exact ⟨_, rfl⟩)
  · rintro i hi
    have hb := okV_b (okV_rot hv i)
    have hst : rotN (i + 1) v = (-(rotN i v).2, (rotN i v).1) := rfl
    generalize rotN i v = u at hb hst ⊢
    obtain ⟨b1, b2, b3, b4⟩ := hb
    try simp (maxSteps := 9999999) only [go_sem]
    refine CondW_dec (fun hA => ?_) (fun hA => ?_)
    · try simp (maxSteps := 9999999) only [go_sem]
      repeat refine And.intro (by first|omega|(constructor<;>omega)|kernel_rfl) ?_
      refine LoopK.mk (i + 1) ?_ (by omega) (by omega)
      rw [hst]
      refine Wk.mk [] ?_
      try simp (maxSteps := 9999999) only [go_sem]
      try (and_intros <;> first | rfl | omega | exact ⟨_, rfl⟩)
    · rw [show k.toNat = i by omega]
      try simp (maxSteps := 9999999) only [go_sem]
      all_goals repeat refine And.intro (by first|omega|(constructor<;>omega)|kernel_rfl) ?_
      all_goals first | kernel_rfl | omega | rfl
theorem TurnVec_fn (v : DV) (k : Int) (hv : okV v = true) (hk : 0 ≤ k ∧ k ≤ 3) : Fn Tryz.prog 73 [⟨tVec, v⟩, ⟨.int, k⟩] false [⟨tVec, rotN k.toNat v⟩] := by
  have c1 := IsValidVec_fn v
  rw [hv] at c1
  have e : k % 4 = k := by omega
  have d1 := decide_eq_false (p := k < 0) (by omega)
  refine fn_enter tabOK mixes Tryz.func73 rfl rfl _ Tryz.ntmps73 _ Tryz.results73 (by simp) fun hwf => ?_
  try simp (maxSteps := 9999999) only [go_sem]
  repeat refine And.intro (by first|omega|(constructor<;>omega)|kernel_rfl) ?_
  refine CallW.mk (c1) ?_
  try simp (maxSteps := 9999999) only [go_sem]
  refine RemW.pos (by omega) (by decide) ?_
  rw [e]
  try simp (maxSteps := 9999999) only [go_sem, d1]
  refine LoopG.intro _ _ _ (fun i : Nat => ⟨[(1, .sc (.int .i64 (k - i))), (2, .ptr 0 0), (4, .ptr 1 0)], [(1, .box [.sc (.int .i64 0), .sc (.int .i64 0)]), (0, .box [.sc (.int .i64 (rotN i v).1), .sc (.int .i64 (rotN i v).2)])]⟩) (fun i => i ≤ k.toNat) (fun i => k.toNat - i) 0 ?_ (Nat.zero_le _) ?_
  · refine Wk.mk [] ?_
    try simp (maxSteps := 9999999) only [go_sem]
    try (and_intros <;> first | rfl | omega | exact ⟨_, rfl⟩)
  · rintro i hi
    have hb := okV_b (okV_rot hv i)
    have hst : rotN (i + 1) v = (-(rotN i v).2, (rotN i v).1) := rfl
    have hki : k - (i : Int) - 1 = k - ((i + 1 : Nat) : Int) := by omega
    by_cases hA : (k : Int) - i > 0
    · generalize rotN i v = u at hb hst ⊢
      obtain ⟨b1, b2, b3, b4⟩ := hb
      try simp (maxSteps := 9999999) only [go_sem]
      refine CondW_dec (fun hB => ?_) (fun hB => ?_)
      · try simp (maxSteps := 9999999) only [go_sem]
        repeat refine And.intro (by first|omega|(constructor<;>omega)|kernel_rfl) ?_
        refine LoopK.mk (i + 1) ?_ (by omega) (by omega)
        rw [hst]
        refine Wk.mk [] ?_
        try simp (maxSteps := 9999999) only [go_sem]
        try (and_intros <;> first | rfl | omega | exact ⟨_, rfl⟩)
      · omega
    · rw [show k.toNat = i by omega]
      try simp (maxSteps := 9999999) only [go_sem]
      refine CondW_dec (fun hB => ?_) (fun hB => ?_)
      · omega
      · try simp (maxSteps := 9999999) only [go_sem]
        all_goals repeat refine And.intro (by first|omega|(constructor<;>omega)|kernel_rfl) ?_
        all_goals first | kernel_rfl | omega | rfl
/-- The first i vectors, each turned. -/
def mapi (f : DV → DV) (l : List DV) (i : Nat) : List DV := (l.take i).map f
theorem mapi_step {f : DV → DV} {l : List DV} {i : Nat} (h : i < l.length) : mapi f l (i + 1) = mapi f l i ++ [f (nth (t := tVec) l i)] := by
  unfold mapi
  rw [List.take_succ_eq_append_getElem h, nth_lt h, List.map_append]
  rfl
theorem mapi_len {f : DV → DV} {l : List DV} {i : Nat} (h : i ≤ l.length) : (mapi f l i).length = i := by
  unfold mapi
  rw [List.length_map, List.length_take]; omega
theorem mapi_all {f : DV → DV} {l : List DV} {i : Nat} (h : l.length ≤ i) : mapi f l i = l.map f := by
  unfold mapi
  rw [List.take_of_length_le h]
theorem any_okV_f {l : List DV} (h : ∀ v ∈ l, okV v = true) : (l.any fun v => !okV v) = false := by
  rw [List.any_eq_false]
  intro v hv
  rw [h v hv]; decide
theorem TurnPolygonI_fn (l : List DV) (k : Int) (hl : ∀ v ∈ l, okV v = true) (hn : l.length ≤ 1048576) (hk : 0 ≤ k ∧ k ≤ 3) : Fn Tryz.prog 85 [⟨.slice tVec, l⟩, ⟨.int, k⟩] true [⟨.slice tVec, l.map (rotN k.toNat)⟩] := by
  have c1 := areVecs_fn l
  rw [any_okV_f hl] at c1
  refine fn_enter tabOK mixes Tryz.func85 rfl rfl _ Tryz.ntmps85 _ Tryz.results85 (by simp) fun hwf => ?_
  try simp (maxSteps := 9999999) only [go_sem]
  repeat refine And.intro (by first|omega|(constructor<;>omega)|kernel_rfl) ?_
  refine CallW.mk (c1) ?_
  try simp (maxSteps := 9999999) only [go_sem]
  refine LoopG.intro _ _ _ (fun i : Nat => ⟨[(1, .sc (.int .i64 k)), (5, .row 0 0), (12, .sl tVec l), (13, .sc (.int .i64 l.length)), (14, .sc (.int .i64 i))], [(0, .row 113 tVec 0 true (mapi (rotN k.toNat) l i))]⟩) (fun i => i ≤ l.length) (fun i => l.length - i) 0 ?_ (Nat.zero_le _) ?_
  · refine Wk.mk [] ?_
    try simp (maxSteps := 9999999) only [go_sem]
    try (and_intros <;> first | rfl | omega | exact ⟨_, rfl⟩)
  · rintro i hi
    try simp (maxSteps := 9999999) only [go_sem]
    refine CondW_dec (fun hA => ?_) (fun hA => ?_)
    · have hlt : i < l.length := by omega
      have hml := mapi_len (f := rotN k.toNat) (l := l) (i := i) (by omega)
      have e := mapi_step (f := rotN k.toNat) hlt
      have c2 := turnVec_fn (nth (t := tVec) l i) k (hl _ (nth_mem hlt)) hk
      try simp (maxSteps := 9999999) only [go_sem]
      repeat refine And.intro (by first|omega|(constructor<;>omega)|kernel_rfl) ?_
      refine CallW.mk (c2) ?_
      try simp (maxSteps := 9999999) only [go_sem]
      try simp (maxSteps := 9999999) only [go_sem, hml]
      repeat refine And.intro (by first|omega|(constructor<;>omega)|kernel_rfl) ?_
      refine LoopK.mk (i + 1) ?_ (by omega) (by omega)
      rw [e]
      refine Wk.mk [] ?_
      try simp (maxSteps := 9999999) only [go_sem]
      try (and_intros <;> first | rfl | omega | exact ⟨_, rfl⟩)
      all_goals (first | exact ⟨by omega, rfl⟩ | exact ⟨rfl, rfl⟩)
    · rw [mapi_all (by omega)]
      try simp (maxSteps := 9999999) only [go_sem]
theorem TurnPolygonS_fn (l : List DV) (k : Int) (hl : ∀ v ∈ l, okV v = true) (hn : l.length ≤ 1048576) (hk : 0 ≤ k ∧ k ≤ 3) : Fn Tryz.prog 35 [⟨.slice tVec, l⟩, ⟨.int, k⟩] true [⟨.slice tVec, l.map (rotN k.toNat)⟩] := by
  refine fn_enter tabOK mixes Tryz.func35 rfl rfl _ Tryz.ntmps35 _ Tryz.results35 (by simp) fun hwf => ?_
  try simp (maxSteps := 9999999) only [go_sem]
  refine LoopG.intro _ _ _ (fun i : Nat => ⟨[(1, .sc (.int .i64 k)), (5, .row 0 0), (9, .sl tVec l), (10, .sc (.int .i64 l.length)), (11, .sc (.int .i64 i))], [(0, .row 113 tVec 0 true (mapi (rotN k.toNat) l i))]⟩) (fun i => i ≤ l.length) (fun i => l.length - i) 0 ?_ (Nat.zero_le _) ?_
  · refine Wk.mk [] ?_
    try simp (maxSteps := 9999999) only [go_sem]
    try (and_intros <;> first | rfl | omega | exact ⟨_, rfl⟩)
  · rintro i hi
    try simp (maxSteps := 9999999) only [go_sem]
    refine CondW_dec (fun hA => ?_) (fun hA => ?_)
    · have hlt : i < l.length := by omega
      have hml := mapi_len (f := rotN k.toNat) (l := l) (i := i) (by omega)
      have e := mapi_step (f := rotN k.toNat) hlt
      have ho := hl _ (nth_mem hlt)
      have c1 := IsValidVec_fn (nth (t := tVec) l i)
      rw [ho] at c1
      have c2 := TurnVec_fn (nth (t := tVec) l i) k ho hk
      try simp (maxSteps := 9999999) only [go_sem]
      repeat refine And.intro (by first|omega|(constructor<;>omega)|kernel_rfl) ?_
      refine CallW.mk (c1) ?_
      try simp (maxSteps := 9999999) only [go_sem]
      repeat refine And.intro (by first|omega|(constructor<;>omega)|kernel_rfl) ?_
      refine CallW.mk (c2) ?_
      try simp (maxSteps := 9999999) only [go_sem]
      try simp (maxSteps := 9999999) only [go_sem, hml]
      repeat refine And.intro (by first|omega|(constructor<;>omega)|kernel_rfl) ?_
      refine LoopK.mk (i + 1) ?_ (by omega) (by omega)
      rw [e]
      refine Wk.mk [] ?_
      try simp (maxSteps := 9999999) only [go_sem]
      try (and_intros <;> first | rfl | omega | exact ⟨_, rfl⟩)
      all_goals (first | exact ⟨by omega, rfl⟩ | exact ⟨rfl, rfl⟩)
    · rw [mapi_all (by omega)]
      try simp (maxSteps := 9999999) only [go_sem]
def negV (v : DV) : DV := (-v.1, -v.2)
theorem NegatePolygonI_fn (l : List DV) (hl : ∀ v ∈ l, okV v = true) (hn : l.length ≤ 1048576) : Fn Tryz.prog 123 [⟨.slice tVec, l⟩] true [⟨.slice tVec, l.map negV⟩] := by
  have c1 := areVecs_fn l
  rw [any_okV_f hl] at c1
  refine fn_enter tabOK mixes Tryz.func123 rfl rfl _ Tryz.ntmps123 _ Tryz.results123 (by simp) fun hwf => ?_
  try simp (maxSteps := 9999999) only [go_sem]
  repeat refine And.intro (by first|omega|(constructor<;>omega)|kernel_rfl) ?_
  refine CallW.mk (c1) ?_
  try simp (maxSteps := 9999999) only [go_sem]
  refine LoopG.intro _ _ _ (fun i : Nat => ⟨[(3, .row 0 0), (10, .sl tVec l), (11, .sc (.int .i64 l.length)), (12, .sc (.int .i64 i))], [(0, .row 113 tVec 0 true (mapi negV l i))]⟩) (fun i => i ≤ l.length) (fun i => l.length - i) 0 ?_ (Nat.zero_le _) ?_
  · refine Wk.mk [] ?_
    try simp (maxSteps := 9999999) only [go_sem]
    try (and_intros <;> first | rfl | omega | exact ⟨_, rfl⟩)
  · rintro i hi
    try simp (maxSteps := 9999999) only [go_sem]
    refine CondW_dec (fun hA => ?_) (fun hA => ?_)
    · have hlt : i < l.length := by omega
      have hml := mapi_len (f := negV) (l := l) (i := i) (by omega)
      have e := mapi_step (f := negV) hlt
      have hb := okV_b (hl _ (nth_mem hlt))
      obtain ⟨b1, b2, b3, b4⟩ := hb
      try simp (maxSteps := 9999999) only [go_sem]
      repeat refine And.intro (by first|omega|(constructor<;>omega)|kernel_rfl) ?_
      try simp (maxSteps := 9999999) only [go_sem, hml]
      repeat refine And.intro (by first|omega|(constructor<;>omega)|kernel_rfl) ?_
      refine LoopK.mk (i + 1) ?_ (by omega) (by omega)
      rw [e]
      unfold negV
      refine Wk.mk [] ?_
      try simp (maxSteps := 9999999) only [go_sem]
      try (and_intros <;> first | rfl | omega | exact ⟨_, rfl⟩)
      all_goals (first | exact ⟨by omega, rfl⟩ | exact ⟨rfl, rfl⟩)
    · rw [mapi_all (by omega)]
      try simp (maxSteps := 9999999) only [go_sem]
theorem NegatePolygonS_fn (l : List DV) (hl : ∀ v ∈ l, okV v = true) (hn : l.length ≤ 1048576) : Fn Tryz.prog 71 [⟨.slice tVec, l⟩] true [⟨.slice tVec, l.map negV⟩] := by
  refine fn_enter tabOK mixes Tryz.func71 rfl rfl _ Tryz.ntmps71 _ Tryz.results71 (by simp) fun hwf => ?_
  try simp (maxSteps := 9999999) only [go_sem]
  refine LoopG.intro _ _ _ (fun i : Nat => ⟨[(3, .row 0 0), (7, .sl tVec l), (8, .sc (.int .i64 l.length)), (9, .sc (.int .i64 i))], [(0, .row 113 tVec 0 true (mapi negV l i))]⟩) (fun i => i ≤ l.length) (fun i => l.length - i) 0 ?_ (Nat.zero_le _) ?_
  · refine Wk.mk [] ?_
    try simp (maxSteps := 9999999) only [go_sem]
    try (and_intros <;> first | rfl | omega | exact ⟨_, rfl⟩)
  · rintro i hi
    try simp (maxSteps := 9999999) only [go_sem]
    refine CondW_dec (fun hA => ?_) (fun hA => ?_)
    · have hlt : i < l.length := by omega
      have hml := mapi_len (f := negV) (l := l) (i := i) (by omega)
      have e := mapi_step (f := negV) hlt
      have ho := hl _ (nth_mem hlt)
      have c1 := IsValidVec_fn (nth (t := tVec) l i)
      rw [ho] at c1
      have hb := okV_b ho
      obtain ⟨b1, b2, b3, b4⟩ := hb
      try simp (maxSteps := 9999999) only [go_sem]
      repeat refine And.intro (by first|omega|(constructor<;>omega)|kernel_rfl) ?_
      refine CallW.mk (c1) ?_
      try simp (maxSteps := 9999999) only [go_sem]
      try simp (maxSteps := 9999999) only [go_sem, hml]
      repeat refine And.intro (by first|omega|(constructor<;>omega)|kernel_rfl) ?_
      refine LoopK.mk (i + 1) ?_ (by omega) (by omega)
      rw [e]
      unfold negV
      refine Wk.mk [] ?_
      try simp (maxSteps := 9999999) only [go_sem]
      try (and_intros <;> first | rfl | omega | exact ⟨_, rfl⟩)
      all_goals (first | exact ⟨by omega, rfl⟩ | exact ⟨rfl, rfl⟩)
    · rw [mapi_all (by omega)]
      try simp (maxSteps := 9999999) only [go_sem]
def addV (v c : DV) : DV := (c.1 + v.1, c.2 + v.2)
theorem moved_fn (l : List DV) (v : DV) (hv : okV v = true) (hl : ∀ v ∈ l, okV v = true) (hn : l.length ≤ 1048576) : Fn Tryz.prog 166 [⟨.slice tVec, l⟩, ⟨tVec, v⟩] true [⟨.slice tVec, l.map (addV v)⟩] := by
  obtain ⟨q1, q2, q3, q4⟩ := okV_b hv
  refine fn_enter tabOK mixes Tryz.func166 rfl rfl _ Tryz.ntmps166 _ Tryz.results166 (by simp) fun hwf => ?_
  try simp (maxSteps := 9999999) only [go_sem]
  refine LoopG.intro _ _ _ (fun i : Nat => ⟨[(3, .ptr 0 0), (5, .row 1 0), (9, .sl tVec l), (10, .sc (.int .i64 l.length)), (11, .sc (.int .i64 i))], [(1, .row 113 tVec 0 true (mapi (addV v) l i)), (0, .box [.sc (.int .i64 v.1), .sc (.int .i64 v.2)])]⟩) (fun i => i ≤ l.length) (fun i => l.length - i) 0 ?_ (Nat.zero_le _) ?_
  · refine Wk.mk [] ?_
    try simp (maxSteps := 9999999) only [go_sem]
    try (and_intros <;> first | rfl | omega | exact ⟨_, rfl⟩)
  · rintro i hi
    try simp (maxSteps := 9999999) only [go_sem]
    refine CondW_dec (fun hA => ?_) (fun hA => ?_)
    · have hlt : i < l.length := by omega
      have hml := mapi_len (f := addV v) (l := l) (i := i) (by omega)
      have e := mapi_step (f := addV v) hlt
      obtain ⟨b1, b2, b3, b4⟩ := okV_b (hl _ (nth_mem hlt))
      try simp (maxSteps := 9999999) only [go_sem]
      repeat refine And.intro (by first|omega|(constructor<;>omega)|kernel_rfl) ?_
      try simp (maxSteps := 9999999) only [go_sem, hml]
      repeat refine And.intro (by first|omega|(constructor<;>omega)|kernel_rfl) ?_
      refine LoopK.mk (i + 1) ?_ (by omega) (by omega)
      rw [e]
      unfold addV
      refine Wk.mk [] ?_
      try simp (maxSteps := 9999999) only [go_sem]
      try (and_intros <;> first | rfl | omega | exact ⟨_, rfl⟩)
      all_goals (first | exact ⟨by omega, rfl⟩ | exact ⟨rfl, rfl⟩)
    · rw [mapi_all (by omega)]
      try simp (maxSteps := 9999999) only [go_sem]
end Go.Proofs.YtghckbohaghgkaaGreat.DW

/-
  Limits of speed.
-/
namespace Go.Proofs.YtghckbohaghgkaaGreat.DW
open Go.RowKit
theorem natL_minInt : natL 9223372036854775808 = [854775808, 223372036, 9] := by
  rw [natL_pos (by decide), natL_pos (by decide), natL_pos (by decide), natL_zero]; rfl
theorem bigOf_fn (n : Int) : Fn Tryz.prog 197 [⟨.int, n⟩] true [⟨tBig, bigD n⟩] := by
  by_cases h0 : 0 ≤ n
  · have hn : ¬ n < 0 := by omega
    have e : n.natAbs = n.toNat := by omega
    refine fn_enter tabOK mixes Tryz.func197 rfl rfl _ Tryz.ntmps197 _ Tryz.results197 (by simp) fun hwf => ?_
    try simp (maxSteps := 9999999) only [go_sem, h0, hn]
    repeat refine And.intro (by first|omega|(constructor<;>omega)|kernel_rfl) ?_
    refine CallW.mk (implNatOf_fn n) ?_
    try simp (maxSteps := 9999999) only [go_sem]
    rw [e]
    all_goals repeat refine And.intro (by first|omega|(constructor<;>omega)|kernel_rfl) ?_
    all_goals first | kernel_rfl | omega | rfl
  · by_cases h1 : n = -9223372036854775808
    · subst h1
      have e : natL 9223372036854775807 = natL (9223372036854775807 : Int).toNat := rfl
      have ha := natAdd_fn (9223372036854775807 : Int).toNat (1 : Int).toNat (Nat.le_trans (natL_len3 (n := 9223372036854775807) (by decide)) (by decide)) (Nat.le_trans (nl_small (by decide)) (by decide))
      refine fn_enter tabOK mixes Tryz.func197 rfl rfl _ Tryz.ntmps197 _ Tryz.results197 (by simp) fun hwf => ?_
      try simp (maxSteps := 9999999) only [go_sem]
      repeat refine And.intro (by first|omega|(constructor<;>omega)|kernel_rfl) ?_
      refine CallW.mk (implNatOf_fn 9223372036854775807) ?_
      try simp (maxSteps := 9999999) only [go_sem]
      repeat refine And.intro (by first|omega|(constructor<;>omega)|kernel_rfl) ?_
      refine CallW.mk (implNatOf_fn 1) ?_
      try simp (maxSteps := 9999999) only [go_sem]
      repeat refine And.intro (by first|omega|(constructor<;>omega)|kernel_rfl) ?_
      refine CallW.mk (ha) ?_
      try simp (maxSteps := 9999999) only [go_sem]
      all_goals repeat refine And.intro (by first|omega|(constructor<;>omega)|kernel_rfl) ?_
      all_goals first | kernel_rfl | omega | rfl
    · have hn : n < 0 := by omega
      have e : n.natAbs = (-n).toNat := by omega
      refine fn_enter tabOK mixes Tryz.func197 rfl rfl _ Tryz.ntmps197 _ Tryz.results197 (by simp) fun hwf => ?_
      have hI : I64 n := hwf ⟨.int, n⟩ (by simp)
      have hI1 := hI.1
      have hI2 := hI.2
      try simp (maxSteps := 9999999) only [go_sem, h0, h1]
      repeat refine And.intro (by first|omega|(constructor<;>omega)|kernel_rfl) ?_
      refine CallW.mk (implNatOf_fn (-n)) ?_
      try simp (maxSteps := 9999999) only [go_sem]
      rw [e]
      simp [hn]
theorem BigIntOf_fn (n : Int) : Fn Tryz.prog 147 [⟨.int, n⟩] true [⟨tBig, bigD n⟩] := by
  by_cases h1 : n = -9223372036854775808
  · subst h1
    have hm := l03Make_to (s := true) (n := 9223372036854775808) (z := -9223372036854775808) rfl (Nat.le_trans (natL_len3 (n := 9223372036854775808) (by decide)) (by decide))
    rw [natL_minInt] at hm
    refine fn_enter tabOK mixes Tryz.func147 rfl rfl _ Tryz.ntmps147 _ Tryz.results147 (by simp) fun hwf => ?_
    try simp (maxSteps := 9999999) only [go_sem]
    repeat refine And.intro (by first|omega|(constructor<;>omega)|kernel_rfl) ?_
    refine CallW.mk (hm) ?_
    try simp (maxSteps := 9999999) only [go_sem]
    all_goals repeat refine And.intro (by first|omega|(constructor<;>omega)|kernel_rfl) ?_
    all_goals first | kernel_rfl | omega | rfl
  · refine fn_enter tabOK mixes Tryz.func147 rfl rfl _ Tryz.ntmps147 _ Tryz.results147 (by simp) fun hwf => ?_
    have hI : I64 n := hwf ⟨.int, n⟩ (by simp)
    have hI1 := hI.1
    have hI2 := hI.2
    try simp (maxSteps := 9999999) only [go_sem]
    refine CondW_dec (fun h => absurd h h1) (fun _ => ?_)
    try simp (maxSteps := 9999999) only [go_sem]
    refine CondW_dec (fun hn => ?_) (fun hn => ?_)
    · have hm := l03Make_to (s := true) (n := (-n).toNat) (z := n) (by unfold sgn; simp; omega) (Nat.le_trans (natL_len3 (n := -n) (by omega)) (by decide))
      try simp (maxSteps := 9999999) only [go_sem]
      repeat refine And.intro (by first|omega|(constructor<;>omega)|kernel_rfl) ?_
      refine CallW.mk (specNatOf_fn (-n)) ?_
      try simp (maxSteps := 9999999) only [go_sem]
      repeat refine And.intro (by first|omega|(constructor<;>omega)|kernel_rfl) ?_
      refine CallW.mk (hm) ?_
      try simp (maxSteps := 9999999) only [go_sem]
      all_goals repeat refine And.intro (by first|omega|(constructor<;>omega)|kernel_rfl) ?_
      all_goals first | kernel_rfl | omega | rfl
    · have hm := l03Make_to (s := false) (n := n.toNat) (z := n) (by unfold sgn; simp; omega) (Nat.le_trans (natL_len3 (n := n) (by omega)) (by decide))
      try simp (maxSteps := 9999999) only [go_sem]
      repeat refine And.intro (by first|omega|(constructor<;>omega)|kernel_rfl) ?_
      refine CallW.mk (specNatOf_fn n) ?_
      try simp (maxSteps := 9999999) only [go_sem]
      repeat refine And.intro (by first|omega|(constructor<;>omega)|kernel_rfl) ?_
      refine CallW.mk (hm) ?_
      try simp (maxSteps := 9999999) only [go_sem]
      all_goals repeat refine And.intro (by first|omega|(constructor<;>omega)|kernel_rfl) ?_
      all_goals first | kernel_rfl | omega | rfl
def ratI (n : Int) : DR := (bigD n, [1])
theorem ratI_eq (n : Int) : ratI n = ratD (n : Rat) := by
  rw [ratI, ratD, Rat.num_intCast, Rat.den_intCast, natL_1]
attribute [go_sem] ratI
theorem ratInt_fn (n : Int) : Fn Tryz.prog 152 [⟨.int, n⟩] true [⟨tRat, ratI n⟩] := by
  refine fn_enter tabOK mixes Tryz.func152 rfl rfl _ Tryz.ntmps152 _ Tryz.results152 (by simp) fun hwf => ?_
  try simp (maxSteps := 9999999) only [go_sem]
  repeat refine And.intro (by first|omega|(constructor<;>omega)|kernel_rfl) ?_
  refine CallW.mk (bigOf_fn n) ?_
  try simp (maxSteps := 9999999) only [go_sem]
  all_goals repeat refine And.intro (by first|omega|(constructor<;>omega)|kernel_rfl) ?_
  all_goals first | kernel_rfl | omega | rfl
theorem RatFromInt_fn (n : Int) : Fn Tryz.prog 104 [⟨.int, n⟩] true [⟨tRat, ratI n⟩] := by
  refine fn_enter tabOK mixes Tryz.func104 rfl rfl _ Tryz.ntmps104 _ Tryz.results104 (by simp) fun hwf => ?_
  try simp (maxSteps := 9999999) only [go_sem]
  repeat refine And.intro (by first|omega|(constructor<;>omega)|kernel_rfl) ?_
  refine CallW.mk (BigIntOf_fn n) ?_
  try simp (maxSteps := 9999999) only [go_sem]
  all_goals repeat refine And.intro (by first|omega|(constructor<;>omega)|kernel_rfl) ?_
  all_goals first | kernel_rfl | omega | rfl
end Go.Proofs.YtghckbohaghgkaaGreat.DW

/-
  Limits of speed: both functions.
-/
namespace Go.Proofs.YtghckbohaghgkaaGreat.DW
open Go.RowKit
end Go.Proofs.YtghckbohaghgkaaGreat.DW

/-
  Bounds of what numbers take.
-/
namespace Go.Proofs.YtghckbohaghgkaaGreat.DW
open Go.RowKit
theorem okR_len {r : DR} (h : okR r = true) : r.1.2.length ≤ 24 ∧ r.2.length ≤ 24 := by
  obtain ⟨p, hp, rfl, _⟩ := okR_t h
  exact hp
end Go.Proofs.YtghckbohaghgkaaGreat.DW

/-
  The length of a motion.
-/
namespace Go.Proofs.YtghckbohaghgkaaGreat.DW
open Go.RowKit
theorem addO_none_l (y : Option Rat) : addO none y = none := rfl
theorem addO_none_r (x : Option Rat) : addO x none = none := by cases x <;> rfl
theorem specRatAdd_fn (r s : DR) : Fn Tryz.prog 184 [⟨tRat, r⟩, ⟨tRat, s⟩] true [⟨tRat, oD (addO (rdO r) (rdO s))⟩] := by
  cases hr : okR r
  · rw [okR_f hr, addO_none_l]
    refine fn_enter tabOK mixes Tryz.func184 rfl rfl _ Tryz.ntmps184 _ Tryz.results184 (by simp) fun hwf => ?_
    try simp (maxSteps := 9999999) only [go_sem]
    repeat refine And.intro (by first|omega|(constructor<;>omega)|kernel_rfl) ?_
    refine CallW.mk (specRatOk_fn r) ?_
    try simp (maxSteps := 9999999) only [go_sem]
    try simp (maxSteps := 9999999) only [go_sem, hr]
  · cases hs : okR s
    · rw [okR_f hs, addO_none_r]
      refine fn_enter tabOK mixes Tryz.func184 rfl rfl _ Tryz.ntmps184 _ Tryz.results184 (by simp) fun hwf => ?_
      try simp (maxSteps := 9999999) only [go_sem]
      repeat refine And.intro (by first|omega|(constructor<;>omega)|kernel_rfl) ?_
      refine CallW.mk (specRatOk_fn r) ?_
      try simp (maxSteps := 9999999) only [go_sem]
      try simp (maxSteps := 9999999) only [go_sem, hr]
      repeat refine And.intro (by first|omega|(constructor<;>omega)|kernel_rfl) ?_
      refine CallW.mk (specRatOk_fn s) ?_
      try simp (maxSteps := 9999999) only [go_sem]
      try simp (maxSteps := 9999999) only [go_sem, hs]
    · obtain ⟨p, hp, rfl, e1⟩ := okR_t hr
      obtain ⟨q, hq, rfl, e2⟩ := okR_t hs
      rw [e1, e2]
      have hr' : okR ((decide (p.num < 0), natL p.num.natAbs), natL p.den) = true := hr
      have hs' : okR ((decide (q.num < 0), natL q.num.natAbs), natL q.den) = true := hs
      have e : addO (some p) (some q) = capR (p + q) := rfl
      rw [e]
      refine fn_enter tabOK mixes Tryz.func184 rfl rfl _ Tryz.ntmps184 _ Tryz.results184 (by simp) fun hwf => ?_
      try simp (maxSteps := 9999999) only [go_sem]
      repeat refine And.intro (by first|omega|(constructor<;>omega)|kernel_rfl) ?_
      refine CallW.mk (specRatOk_fn (ratD p)) ?_
      try simp (maxSteps := 9999999) only [go_sem]
      try simp (maxSteps := 9999999) only [go_sem, hr']
      repeat refine And.intro (by first|omega|(constructor<;>omega)|kernel_rfl) ?_
      refine CallW.mk (specRatOk_fn (ratD q)) ?_
      try simp (maxSteps := 9999999) only [go_sem]
      try simp (maxSteps := 9999999) only [go_sem, hs']
      repeat refine And.intro (by first|omega|(constructor<;>omega)|kernel_rfl) ?_
      refine CallW.mk (l04Add_fn p q hp hq) ?_
      try simp (maxSteps := 9999999) only [go_sem]
      all_goals repeat refine And.intro (by first|omega|(constructor<;>omega)|kernel_rfl) ?_
      all_goals first | kernel_rfl | omega | rfl
end Go.Proofs.YtghckbohaghgkaaGreat.DW

/-
  The greatest one of fractions.
-/
namespace Go.Proofs.YtghckbohaghgkaaGreat.DW
open Go.RowKit
theorem cmpQ_self (p : Rat) : cmpQ p p = 0 := by
  rw [cmpQ_eq]; unfold cmpZ; rw [if_neg (Int.lt_irrefl _), if_neg (Int.lt_irrefl _)]
end Go.Proofs.YtghckbohaghgkaaGreat.DW

/-
  Fractions: products, the smaller one, lists in new memory.
-/
namespace Go.Proofs.YtghckbohaghgkaaGreat.DW
open Go.RowKit
theorem mulO_none_l (y : Option Rat) : mulO none y = none := rfl
theorem mulO_none_r (x : Option Rat) : mulO x none = none := by cases x <;> rfl
theorem ratMul_fn (x y : Option Rat) (hx : okO x) (hy : okO y) : Fn Tryz.prog 213 [⟨tRat, oD x⟩, ⟨tRat, oD y⟩] true [⟨tRat, oD (mulO x y)⟩] := by
  cases x with
  | none =>
    refine fn_enter tabOK mixes Tryz.func213 rfl rfl _ Tryz.ntmps213 _ Tryz.results213 (by simp) fun hwf => ?_
    try simp (maxSteps := 9999999) only [go_sem]
    repeat refine And.intro (by first|omega|(constructor<;>omega)|kernel_rfl) ?_
    refine CallW.mk (isGood_n) ?_
    try simp (maxSteps := 9999999) only [go_sem]
    try simp (maxSteps := 9999999) only [go_sem, mulO]
  | some p =>
    cases y with
    | none =>
      refine fn_enter tabOK mixes Tryz.func213 rfl rfl _ Tryz.ntmps213 _ Tryz.results213 (by simp) fun hwf => ?_
      try simp (maxSteps := 9999999) only [go_sem]
      repeat refine And.intro (by first|omega|(constructor<;>omega)|kernel_rfl) ?_
      refine CallW.mk (isGood_s p) ?_
      try simp (maxSteps := 9999999) only [go_sem]
      repeat refine And.intro (by first|omega|(constructor<;>omega)|kernel_rfl) ?_
      refine CallW.mk (isGood_n) ?_
      try simp (maxSteps := 9999999) only [go_sem]
      try simp (maxSteps := 9999999) only [go_sem, mulO]
    | some q =>
      obtain ⟨p1, p2⟩ := hx p rfl
      obtain ⟨q1, q2⟩ := hy q rfl
      have b1 := nl_mulI p.num q.num
      have b4 := nl_mul p.den q.den
      have hm := ratMake_end (p.num * q.num) (p.den * q.den) (den_mul_ne p q) (by omega) (by omega)
      rw [← mul_mk] at hm
      have e : mulO (some p) (some q) = capR (p * q) := rfl
      rw [e]
      refine fn_enter tabOK mixes Tryz.func213 rfl rfl _ Tryz.ntmps213 _ Tryz.results213 (by simp) fun hwf => ?_
      try simp (maxSteps := 9999999) only [go_sem]
      repeat refine And.intro (by first|omega|(constructor<;>omega)|kernel_rfl) ?_
      refine CallW.mk (isGood_s p) ?_
      try simp (maxSteps := 9999999) only [go_sem]
      repeat refine And.intro (by first|omega|(constructor<;>omega)|kernel_rfl) ?_
      refine CallW.mk (isGood_s q) ?_
      try simp (maxSteps := 9999999) only [go_sem]
      repeat refine And.intro (by first|omega|(constructor<;>omega)|kernel_rfl) ?_
      refine CallW.mk (bigMul_fn p.num q.num (by omega) (by omega)) ?_
      try simp (maxSteps := 9999999) only [go_sem]
      repeat refine And.intro (by first|omega|(constructor<;>omega)|kernel_rfl) ?_
      refine CallW.mk (natMul_fn p.den q.den (by omega) (by omega)) ?_
      try simp (maxSteps := 9999999) only [go_sem]
      repeat refine And.intro (by first|omega|(constructor<;>omega)|kernel_rfl) ?_
      refine CallW.mk (hm) ?_
      try simp (maxSteps := 9999999) only [go_sem]
      all_goals repeat refine And.intro (by first|omega|(constructor<;>omega)|kernel_rfl) ?_
      all_goals first | kernel_rfl | omega | rfl
theorem sgn_mulZ (x y : Int) : sgn (!decide (decide (x < 0) = decide (y < 0))) (x.natAbs * y.natAbs) = x * y := by
  unfold sgn
  rw [Int.natCast_mul]
  by_cases h1 : x < 0
  · by_cases h2 : y < 0
    · simp only [h1, h2, decide_true, Bool.not_true, Bool.false_eq_true, if_false]
      rw [show (x.natAbs : Int) = -x by omega, show (y.natAbs : Int) = -y by omega, Int.neg_mul_neg]
    · simp only [h1, h2, decide_true, decide_false, Bool.true_eq_false, Bool.not_false, if_true]
      rw [show (x.natAbs : Int) = -x by omega, show (y.natAbs : Int) = y by omega, Int.neg_mul, Int.neg_neg]
  · by_cases h2 : y < 0
    · simp only [h1, h2, decide_true, decide_false, Bool.false_eq_true, Bool.not_false, if_true]
      rw [show (x.natAbs : Int) = x by omega, show (y.natAbs : Int) = -y by omega, Int.mul_neg, Int.neg_neg]
    · simp only [h1, h2, decide_false, decide_true, Bool.not_true, Bool.false_eq_true, if_false]
      rw [show (x.natAbs : Int) = x by omega, show (y.natAbs : Int) = y by omega]
theorem l04Mul_fn (p q : Rat) (hp : small p) (hq : small q) : Fn Tryz.prog 160 [⟨tRat, ratD p⟩, ⟨tRat, ratD q⟩] true [⟨tRat, oD (capR (p * q))⟩] := by
  obtain ⟨p1, p2⟩ := hp
  obtain ⟨q1, q2⟩ := hq
  have b1 := nl_mul p.num.natAbs q.num.natAbs
  have b4 := nl_mul p.den q.den
  have hl := l04Low_fn (!decide (decide (p.num < 0) = decide (q.num < 0))) (p.num.natAbs * q.num.natAbs) (p.den * q.den) (den_mul_ne p q) (by omega) (by omega)
  rw [sgn_mulZ, ← mul_mk] at hl
  refine fn_enter tabOK mixes Tryz.func160 rfl rfl _ Tryz.ntmps160 _ Tryz.results160 (by simp) fun hwf => ?_
  try simp (maxSteps := 9999999) only [go_sem]
  repeat refine And.intro (by first|omega|(constructor<;>omega)|kernel_rfl) ?_
  refine CallW.mk (l02Mul_fn p.num.natAbs q.num.natAbs (by omega) (by omega)) ?_
  try simp (maxSteps := 9999999) only [go_sem]
  repeat refine And.intro (by first|omega|(constructor<;>omega)|kernel_rfl) ?_
  refine CallW.mk (l02Mul_fn p.den q.den (by omega) (by omega)) ?_
  try simp (maxSteps := 9999999) only [go_sem]
  repeat refine And.intro (by first|omega|(constructor<;>omega)|kernel_rfl) ?_
  refine CallW.mk (hl) ?_
  try simp (maxSteps := 9999999) only [go_sem]
  all_goals repeat refine And.intro (by first|omega|(constructor<;>omega)|kernel_rfl) ?_
  all_goals first | kernel_rfl | omega | rfl
theorem specRatMul_fn (r s : DR) : Fn Tryz.prog 116 [⟨tRat, r⟩, ⟨tRat, s⟩] true [⟨tRat, oD (mulO (rdO r) (rdO s))⟩] := by
  cases hr : okR r
  · rw [okR_f hr, mulO_none_l]
    refine fn_enter tabOK mixes Tryz.func116 rfl rfl _ Tryz.ntmps116 _ Tryz.results116 (by simp) fun hwf => ?_
    try simp (maxSteps := 9999999) only [go_sem]
    repeat refine And.intro (by first|omega|(constructor<;>omega)|kernel_rfl) ?_
    refine CallW.mk (specRatOk_fn r) ?_
    try simp (maxSteps := 9999999) only [go_sem]
    try simp (maxSteps := 9999999) only [go_sem, hr]
  · cases hs : okR s
    · rw [okR_f hs, mulO_none_r]
      refine fn_enter tabOK mixes Tryz.func116 rfl rfl _ Tryz.ntmps116 _ Tryz.results116 (by simp) fun hwf => ?_
      try simp (maxSteps := 9999999) only [go_sem]
      repeat refine And.intro (by first|omega|(constructor<;>omega)|kernel_rfl) ?_
      refine CallW.mk (specRatOk_fn r) ?_
      try simp (maxSteps := 9999999) only [go_sem]
      try simp (maxSteps := 9999999) only [go_sem, hr]
      repeat refine And.intro (by first|omega|(constructor<;>omega)|kernel_rfl) ?_
      refine CallW.mk (specRatOk_fn s) ?_
      try simp (maxSteps := 9999999) only [go_sem]
      try simp (maxSteps := 9999999) only [go_sem, hs]
    · obtain ⟨p, hp, rfl, e1⟩ := okR_t hr
      obtain ⟨q, hq, rfl, e2⟩ := okR_t hs
      rw [e1, e2]
      have hr' : okR ((decide (p.num < 0), natL p.num.natAbs), natL p.den) = true := hr
      have hs' : okR ((decide (q.num < 0), natL q.num.natAbs), natL q.den) = true := hs
      have e : mulO (some p) (some q) = capR (p * q) := rfl
      rw [e]
      refine fn_enter tabOK mixes Tryz.func116 rfl rfl _ Tryz.ntmps116 _ Tryz.results116 (by simp) fun hwf => ?_
      try simp (maxSteps := 9999999) only [go_sem]
      repeat refine And.intro (by first|omega|(constructor<;>omega)|kernel_rfl) ?_
      refine CallW.mk (specRatOk_fn (ratD p)) ?_
      try simp (maxSteps := 9999999) only [go_sem]
      try simp (maxSteps := 9999999) only [go_sem, hr']
      repeat refine And.intro (by first|omega|(constructor<;>omega)|kernel_rfl) ?_
      refine CallW.mk (specRatOk_fn (ratD q)) ?_
      try simp (maxSteps := 9999999) only [go_sem]
      try simp (maxSteps := 9999999) only [go_sem, hs']
      repeat refine And.intro (by first|omega|(constructor<;>omega)|kernel_rfl) ?_
      refine CallW.mk (l04Mul_fn p q hp hq) ?_
      try simp (maxSteps := 9999999) only [go_sem]
      all_goals repeat refine And.intro (by first|omega|(constructor<;>omega)|kernel_rfl) ?_
      all_goals first | kernel_rfl | omega | rfl
theorem ratMin_fn (x y : Option Rat) (hx : okO x) (hy : okO y) : Fn Tryz.prog 194 [⟨tRat, oD x⟩, ⟨tRat, oD y⟩] false [⟨tRat, oD (minO x y)⟩] := by
  cases x with
  | none =>
    refine fn_enter tabOK mixes Tryz.func194 rfl rfl _ Tryz.ntmps194 _ Tryz.results194 (by simp) fun hwf => ?_
    try simp (maxSteps := 9999999) only [go_sem]
    repeat refine And.intro (by first|omega|(constructor<;>omega)|kernel_rfl) ?_
    refine CallW.mk (isGood_n) ?_
    try simp (maxSteps := 9999999) only [go_sem]
    try simp (maxSteps := 9999999) only [go_sem, minO]
  | some p =>
    cases y with
    | none =>
      refine fn_enter tabOK mixes Tryz.func194 rfl rfl _ Tryz.ntmps194 _ Tryz.results194 (by simp) fun hwf => ?_
      try simp (maxSteps := 9999999) only [go_sem]
      repeat refine And.intro (by first|omega|(constructor<;>omega)|kernel_rfl) ?_
      refine CallW.mk (isGood_s p) ?_
      try simp (maxSteps := 9999999) only [go_sem]
      repeat refine And.intro (by first|omega|(constructor<;>omega)|kernel_rfl) ?_
      refine CallW.mk (isGood_n) ?_
      try simp (maxSteps := 9999999) only [go_sem]
      try simp (maxSteps := 9999999) only [go_sem, minO]
    | some q =>
      have hc := ratCmp_fn (some p) (some q) hx hy
      have e : cmpO (some p) (some q) = cmpQ p q := rfl
      rw [e] at hc
      by_cases h : cmpQ p q ≤ 0
      · have e2 : minO (some p) (some q) = some p := if_pos h
        rw [e2]
        refine fn_enter tabOK mixes Tryz.func194 rfl rfl _ Tryz.ntmps194 _ Tryz.results194 (by simp) fun hwf => ?_
        try simp (maxSteps := 9999999) only [go_sem]
        repeat refine And.intro (by first|omega|(constructor<;>omega)|kernel_rfl) ?_
        refine CallW.mk (isGood_s p) ?_
        try simp (maxSteps := 9999999) only [go_sem]
        repeat refine And.intro (by first|omega|(constructor<;>omega)|kernel_rfl) ?_
        refine CallW.mk (isGood_s q) ?_
        try simp (maxSteps := 9999999) only [go_sem]
        repeat refine And.intro (by first|omega|(constructor<;>omega)|kernel_rfl) ?_
        refine CallW.mk (hc) ?_
        try simp (maxSteps := 9999999) only [go_sem]
        try simp (maxSteps := 9999999) only [go_sem, h]
      · have e2 : minO (some p) (some q) = some q := if_neg h
        rw [e2]
        refine fn_enter tabOK mixes Tryz.func194 rfl rfl _ Tryz.ntmps194 _ Tryz.results194 (by simp) fun hwf => ?_
        try simp (maxSteps := 9999999) only [go_sem]
        repeat refine And.intro (by first|omega|(constructor<;>omega)|kernel_rfl) ?_
        refine CallW.mk (isGood_s p) ?_
        try simp (maxSteps := 9999999) only [go_sem]
        repeat refine And.intro (by first|omega|(constructor<;>omega)|kernel_rfl) ?_
        refine CallW.mk (isGood_s q) ?_
        try simp (maxSteps := 9999999) only [go_sem]
        repeat refine And.intro (by first|omega|(constructor<;>omega)|kernel_rfl) ?_
        refine CallW.mk (hc) ?_
        try simp (maxSteps := 9999999) only [go_sem]
        try simp (maxSteps := 9999999) only [go_sem, h]
theorem specRatMin_fn (r s : DR) : Fn Tryz.prog 141 [⟨tRat, r⟩, ⟨tRat, s⟩] true [⟨tRat, oD (minO (rdO r) (rdO s))⟩] := by
  cases hr : okR r
  · rw [okR_f hr]
    have e : minO none (rdO s) = none := rfl
    rw [e]
    refine fn_enter tabOK mixes Tryz.func141 rfl rfl _ Tryz.ntmps141 _ Tryz.results141 (by simp) fun hwf => ?_
    try simp (maxSteps := 9999999) only [go_sem]
    repeat refine And.intro (by first|omega|(constructor<;>omega)|kernel_rfl) ?_
    refine CallW.mk (specRatOk_fn r) ?_
    try simp (maxSteps := 9999999) only [go_sem]
    try simp (maxSteps := 9999999) only [go_sem, hr]
  · cases hs : okR s
    · rw [okR_f hs]
      have e : minO (rdO r) none = none := by unfold minO; cases rdO r <;> rfl
      rw [e]
      refine fn_enter tabOK mixes Tryz.func141 rfl rfl _ Tryz.ntmps141 _ Tryz.results141 (by simp) fun hwf => ?_
      try simp (maxSteps := 9999999) only [go_sem]
      repeat refine And.intro (by first|omega|(constructor<;>omega)|kernel_rfl) ?_
      refine CallW.mk (specRatOk_fn r) ?_
      try simp (maxSteps := 9999999) only [go_sem]
      try simp (maxSteps := 9999999) only [go_sem, hr]
      repeat refine And.intro (by first|omega|(constructor<;>omega)|kernel_rfl) ?_
      refine CallW.mk (specRatOk_fn s) ?_
      try simp (maxSteps := 9999999) only [go_sem]
      try simp (maxSteps := 9999999) only [go_sem, hs]
    · obtain ⟨p, hp, rfl, e1⟩ := okR_t hr
      obtain ⟨q, hq, rfl, e2⟩ := okR_t hs
      rw [e1, e2]
      have hr' : okR ((decide (p.num < 0), natL p.num.natAbs), natL p.den) = true := hr
      have hs' : okR ((decide (q.num < 0), natL q.num.natAbs), natL q.den) = true := hs
      by_cases h : cmpQ p q ≤ 0
      · have e3 : minO (some p) (some q) = some p := if_pos h
        rw [e3]
        refine fn_enter tabOK mixes Tryz.func141 rfl rfl _ Tryz.ntmps141 _ Tryz.results141 (by simp) fun hwf => ?_
        try simp (maxSteps := 9999999) only [go_sem]
        repeat refine And.intro (by first|omega|(constructor<;>omega)|kernel_rfl) ?_
        refine CallW.mk (specRatOk_fn (ratD p)) ?_
        try simp (maxSteps := 9999999) only [go_sem]
        try simp (maxSteps := 9999999) only [go_sem, hr']
        repeat refine And.intro (by first|omega|(constructor<;>omega)|kernel_rfl) ?_
        refine CallW.mk (specRatOk_fn (ratD q)) ?_
        try simp (maxSteps := 9999999) only [go_sem]
        try simp (maxSteps := 9999999) only [go_sem, hs']
        repeat refine And.intro (by first|omega|(constructor<;>omega)|kernel_rfl) ?_
        refine CallW.mk (l04Cmp_fn p q hp hq) ?_
        try simp (maxSteps := 9999999) only [go_sem]
        try simp (maxSteps := 9999999) only [go_sem, h]
        repeat refine And.intro (by first|omega|(constructor<;>omega)|kernel_rfl) ?_
        refine CallW.mk (copyD_fn p hp) ?_
        try simp (maxSteps := 9999999) only [go_sem]
      · have e3 : minO (some p) (some q) = some q := if_neg h
        rw [e3]
        refine fn_enter tabOK mixes Tryz.func141 rfl rfl _ Tryz.ntmps141 _ Tryz.results141 (by simp) fun hwf => ?_
        try simp (maxSteps := 9999999) only [go_sem]
        repeat refine And.intro (by first|omega|(constructor<;>omega)|kernel_rfl) ?_
        refine CallW.mk (specRatOk_fn (ratD p)) ?_
        try simp (maxSteps := 9999999) only [go_sem]
        try simp (maxSteps := 9999999) only [go_sem, hr']
        repeat refine And.intro (by first|omega|(constructor<;>omega)|kernel_rfl) ?_
        refine CallW.mk (specRatOk_fn (ratD q)) ?_
        try simp (maxSteps := 9999999) only [go_sem]
        try simp (maxSteps := 9999999) only [go_sem, hs']
        repeat refine And.intro (by first|omega|(constructor<;>omega)|kernel_rfl) ?_
        refine CallW.mk (l04Cmp_fn p q hp hq) ?_
        try simp (maxSteps := 9999999) only [go_sem]
        try simp (maxSteps := 9999999) only [go_sem, h]
        repeat refine And.intro (by first|omega|(constructor<;>omega)|kernel_rfl) ?_
        refine CallW.mk (copyD_fn q hq) ?_
        try simp (maxSteps := 9999999) only [go_sem]
end Go.Proofs.YtghckbohaghgkaaGreat.DW

/-
  Slices of integers that are built by append: one by one, or a whole slice at once. No program here.
-/
namespace Go.Proofs.YtghckbohaghgkaaGreat
open Go.RowKit

section
variable {o : Bool} {base : Nat} {w w' : World} {e : TypeId} {v : Value} {l : List Int}
theorem GrowInt.row (h : Grow Rp.int o base w e v l) : w.ownsRow base e 1 v l.length (l.map (Value.int .i64)) ∧ ∀ x ∈ l, I64 x := by
  obtain ⟨xs, fps, ho, hl, he, _, _⟩ := h
  have hxl : xs.length = l.length := by have := ho.1; simpa [Rp.int] using this
  have hall : ∀ (i : Nat) (x : Int), l[i]? = some x → xs[i]? = some (Value.int .i64 x) ∧ I64 x := by
    intro i x hx
    obtain ⟨f, cs, _, hr, hc⟩ := he i x hx
    obtain ⟨rfl, _, hI⟩ := hr
    exact ⟨by simpa [Rp.int] using hc 0 _ rfl, hI⟩
  have hxs : xs = l.map (Value.int .i64) := by
    apply List.ext_getElem?
    intro i
    rw [List.getElem?_map]
    rcases Nat.lt_or_ge i l.length with hi | hi
    · have := (hall i l[i] (List.getElem?_eq_getElem hi)).1
      rw [this, List.getElem?_eq_getElem hi]; rfl
    · rw [List.getElem?_eq_none (by omega), List.getElem?_eq_none hi]; rfl
  refine ⟨hxs ▸ ho, fun x hx => ?_⟩
  obtain ⟨i, hi, rfl⟩ := List.getElem_of_mem hx
  exact (hall i _ (List.getElem?_eq_getElem hi)).2
theorem flatten_nils (n : Nat) : (List.replicate n ([] : List Nat)).flatten = [] := by
  induction n with
  | zero => rfl
  | succ n ih => simp
theorem GrowInt.of (h : w.ownsRow base e 1 v l.length (l.map (Value.int .i64))) (hI : ∀ x ∈ l, I64 x) : Grow Rp.int o base w e v l := by
  refine ⟨l.map (Value.int .i64), List.replicate l.length [], h, by simp, fun i x hx => ?_, fun b hb => ?_, fun _ => ⟨?_, fun b hb => ?_⟩⟩
  · have hi := (List.getElem?_eq_some_iff.1 hx).1
    refine ⟨[], [.int .i64 x], by simp [hi], ⟨rfl, rfl, hI x (List.mem_of_getElem? hx)⟩, fun j c hc => ?_⟩
    cases j with
    | zero => simp at hc; subst hc; simp [Rp.int, hx]
    | succ j => simp at hc
  · rw [flatten_nils] at hb; cases hb
  · rw [flatten_nils]; exact List.nodup_nil
  · rw [flatten_nils] at hb; cases hb
end

section
variable {P : Program} (w : World)
end

theorem GrowInt.keep {o : Bool} {base : Nat} {w w' : World} {e : TypeId} {v : Value} {l : List Int} (h : Grow Rp.int o base w e v l) {row : Option Nat} (hgr : w.grownBy w' row) (hne : ∀ k, v.ownBlock = some k → some k ≠ row) : Grow Rp.int o base w' e v l := by
  obtain ⟨h1, h2⟩ := GrowInt.row h
  refine GrowInt.of (h1.kept hgr ?_) h2
  cases hv : v.ownBlock with
  | none => exact .inl rfl
  | some k => exact .inr (hne k hv)

end Go.Proofs.YtghckbohaghgkaaGreat

/-
  Copies in memory of the call's own: numbers' limbs, fractions, points, motions.
-/
namespace Go.Proofs.YtghckbohaghgkaaGreat
open Go.RowKit
end Go.Proofs.YtghckbohaghgkaaGreat

/-
  The reference's copies of fractions and points.
-/
namespace Go.Proofs.YtghckbohaghgkaaGreat
open Go.RowKit

/-- The value's memory lies from block 'base' on. -/
def New {α : Type} (A : Rp α) (base : Nat) (w : World) (cs : List Value) (a : α) : Prop := ∃ fp, A.rep w cs a fp ∧ ∀ b ∈ fp, base ≤ b
theorem Own.new {α : Type} {A : Rp α} {base : Nat} {w : World} {cs : List Value} {a : α} (h : Own A base w cs a) : New A base w cs a := let ⟨fp, hr, _, ho⟩ := h; ⟨fp, hr, fun b hb => (ho b hb).1⟩
theorem New.has {α : Type} {A : Rp α} {base : Nat} {w : World} {cs : List Value} {a : α} (h : New A base w cs a) : Has A w cs a := let ⟨fp, hr, _⟩ := h; ⟨fp, hr⟩
theorem New.below {α : Type} {A : Rp α} {base : Nat} {w w' : World} {cs : List Value} {a : α} (h : New A base w cs a) (hb : Below w.heap.size w w') : New A base w' cs a :=
  let ⟨fp, hr, ho⟩ := h; ⟨fp, A.frame hr fun b hb' => hb.block b (A.lt hr b hb'), ho⟩
theorem New.mono {α : Type} {A : Rp α} {base base' : Nat} {w : World} {cs : List Value} {a : α} (h : New A base w cs a) (hb : base' ≤ base) : New A base' w cs a := let ⟨fp, hr, ho⟩ := h; ⟨fp, hr, fun b hb' => Nat.le_trans hb (ho b hb')⟩
theorem New.frame {α : Type} {A : Rp α} {base : Nat} {w w' : World} {cs : List Value} {a : α} (h : New A base w cs a) (hf : ∀ b, base ≤ b → b < w.heap.size → w'.heap[b]? = w.heap[b]?) : New A base w' cs a :=
  let ⟨fp, hr, ho⟩ := h; ⟨fp, A.frame hr fun b hb' => hf b (ho b hb') (A.lt hr b hb'), ho⟩
theorem New.setCell {α : Type} {A : Rp α} {base : Nat} {w : World} {cs : List Value} {a : α} (h : New A base w cs a) {p : Addr} (hp : p.block < base) (v : Value) : New A base (w.setCell p v) cs a :=
  h.frame fun b h1 _ => Below.heap_setCell _ _ _ _ (by omega)
theorem New.pair {α β : Type} {A : Rp α} {B : Rp β} {base : Nat} {w : World} {a : α} {b : β} {cs1 cs2 : List Value} (h1 : New A base w cs1 a) (h2 : New B base w cs2 b) : New (Rp.prod A B) base w (cs1 ++ cs2) (a, b) :=
  let ⟨f1, r1, o1⟩ := h1; let ⟨f2, r2, o2⟩ := h2; ⟨f1 ++ f2, rep_pair r1 r2, fun b hb => (List.mem_append.1 hb).elim (o1 b) (o2 b)⟩
theorem New.bool (base : Nat) (w : World) (b : Bool) : New Rp.bool base w [.bool b] b := ⟨[], ⟨rfl, rfl⟩, fun _ h => by cases h⟩
theorem New.int (base : Nat) (w : World) {n : Int} (h : I64 n) : New Rp.int base w [.int .i64 n] n := ⟨[], ⟨rfl, rfl, h⟩, fun _ h => by cases h⟩
theorem Has.pair {α β : Type} {A : Rp α} {B : Rp β} {w : World} {a : α} {b : β} {cs1 cs2 : List Value} (h1 : Has A w cs1 a) (h2 : Has B w cs2 b) : Has (Rp.prod A B) w (cs1 ++ cs2) (a, b) := let ⟨f1, r1⟩ := h1; let ⟨f2, r2⟩ := h2; ⟨f1 ++ f2, rep_pair r1 r2⟩
theorem Has.ofInt (w : World) {n : Int} (h : I64 n) : Has Rp.int w [.int .i64 n] n := ⟨[], rfl, rfl, h⟩
end Go.Proofs.YtghckbohaghgkaaGreat

/-
  A point that was computed, or none. Printed by a program.
-/
namespace Go.Proofs.YtghckbohaghgkaaGreat
open Go.RowKit DW
set_option maxRecDepth 100000 in
set_option maxHeartbeats 2000000 in
theorem pointOr_any (c0 c1 c2 c3 c4 c5 : Value) (x : DPoint) (w : World) (hx : Has RPoint w [c0, c1, c2, c3, c4, c5] x) (hg : DW.Fn Tryz.prog 174 [⟨DW.tPoint, x⟩] false [⟨.bool, true⟩]) :
    Calls Tryz.prog 128 #[.agg #[c0, c1, c2, c3, c4, c5]] w (Post fun v w' => v = .agg #[c0, c1, c2, c3, c4, c5] ∧ Below w.heap.size w w') := by
  have HX := Lib.hid hx
  have ho0 := hx.one 0 c0 rfl
  have ho1 := hx.one 1 c1 rfl
  have ho2 := hx.one 2 c2 rfl
  have ho3 := hx.one 3 c3 rfl
  have ho4 := hx.one 4 c4 rfl
  have ho5 := hx.one 5 c5 rfl
  have HG := Lib.hid hg
  clear hx hg
  go_enter Tryz.func128, Tryz.ntmps128
  go_wp2_with fail
  have hp1 := ((Below.refl w.heap.size w).alloc (Nat.le_refl _) (Obj.cells #[c0, c1, c2, c3, c4, c5] 42)).alloc (by simp <;> omega) (Obj.cells #[.bool false, .slice none 0 0, .slice none 0 0, .bool false, .slice none 0 0, .slice none 0 0] 42)
  refine (HG.out.bool (vs := [.agg #[c0, c1, c2, c3, c4, c5]]) ⟨Arg.agg (t := DW.tPoint) (cs := [c0, c1, c2, c3, c4, c5]) rfl (HX.out.below hp1), trivial⟩).mono ?_
  rintro e w1 ⟨v, rfl, rfl, hc1⟩
  have hb1 := Below.up hp1 hc1 (by simp <;> omega)
  have hlt1 : w.heap.size + 1 < w1.heap.size := Nat.lt_of_lt_of_le (by simp <;> omega) hc1.size
  obtain ⟨hcr1, hfr1⟩ := bcell hc1
  go_wp2
  refine bodyPost_ret (v := .agg #[c0, c1, c2, c3, c4, c5]) (by simp [results, go_sem, hlt1, hcr1]) rfl ⟨_, rfl, rfl, ?_⟩
  exact ((((((hb1).setCell (p := ⟨w.heap.size + 1, 0, none⟩) (by simp) c0).setCell (p := ⟨w.heap.size + 1, 1, none⟩) (by simp) c1).setCell (p := ⟨w.heap.size + 1, 2, none⟩) (by simp) c2).setCell (p := ⟨w.heap.size + 1, 3, none⟩) (by simp) c3).setCell (p := ⟨w.heap.size + 1, 4, none⟩) (by simp) c4).setCell (p := ⟨w.heap.size + 1, 5, none⟩) (by simp) c5
set_option maxRecDepth 100000 in
set_option maxHeartbeats 2000000 in
theorem l05Valid_any (c0 c1 c2 c3 c4 c5 : Value) (x : DPoint) (w : World) (hx : Has RPoint w [c0, c1, c2, c3, c4, c5] x) (hg : DW.Fn Tryz.prog 75 [⟨DW.tPoint, x⟩] false [⟨.bool, true⟩]) :
    Calls Tryz.prog 78 #[.agg #[c0, c1, c2, c3, c4, c5]] w (Post fun v w' => v = .agg #[c0, c1, c2, c3, c4, c5] ∧ Below w.heap.size w w') := by
  have HX := Lib.hid hx
  have ho0 := hx.one 0 c0 rfl
  have ho1 := hx.one 1 c1 rfl
  have ho2 := hx.one 2 c2 rfl
  have ho3 := hx.one 3 c3 rfl
  have ho4 := hx.one 4 c4 rfl
  have ho5 := hx.one 5 c5 rfl
  have HG := Lib.hid hg
  clear hx hg
  go_enter Tryz.func78, Tryz.ntmps78
  go_wp2_with fail
  have hp1 := ((Below.refl w.heap.size w).alloc (Nat.le_refl _) (Obj.cells #[c0, c1, c2, c3, c4, c5] 42)).alloc (by simp <;> omega) (Obj.cells #[.bool false, .slice none 0 0, .slice none 0 0, .bool false, .slice none 0 0, .slice none 0 0] 42)
  refine (HG.out.bool (vs := [.agg #[c0, c1, c2, c3, c4, c5]]) ⟨Arg.agg (t := DW.tPoint) (cs := [c0, c1, c2, c3, c4, c5]) rfl (HX.out.below hp1), trivial⟩).mono ?_
  rintro e w1 ⟨v, rfl, rfl, hc1⟩
  have hb1 := Below.up hp1 hc1 (by simp <;> omega)
  have hlt1 : w.heap.size + 1 < w1.heap.size := Nat.lt_of_lt_of_le (by simp <;> omega) hc1.size
  obtain ⟨hcr1, hfr1⟩ := bcell hc1
  go_wp2
  refine bodyPost_ret (v := .agg #[c0, c1, c2, c3, c4, c5]) (by simp [results, go_sem, hlt1, hcr1]) rfl ⟨_, rfl, rfl, ?_⟩
  exact ((((((hb1).setCell (p := ⟨w.heap.size + 1, 0, none⟩) (by simp) c0).setCell (p := ⟨w.heap.size + 1, 1, none⟩) (by simp) c1).setCell (p := ⟨w.heap.size + 1, 2, none⟩) (by simp) c2).setCell (p := ⟨w.heap.size + 1, 3, none⟩) (by simp) c3).setCell (p := ⟨w.heap.size + 1, 4, none⟩) (by simp) c4).setCell (p := ⟨w.heap.size + 1, 5, none⟩) (by simp) c5
end Go.Proofs.YtghckbohaghgkaaGreat

/-
  Differences of points.
-/
namespace Go.Proofs.YtghckbohaghgkaaGreat.DW
open Go.RowKit
abbrev ptZ : DP := (rZ, rZ)
/-- A point of two numbers, if both are there. -/
def ptO (x y : Option Rat) : DP := if x.isSome && y.isSome then (oD x, oD y) else ptZ
theorem isGoodPoint_fn (x y : Option Rat) : Fn Tryz.prog 174 [⟨tPoint, (oD x, oD y)⟩] false [⟨.bool, x.isSome && y.isSome⟩] := by
  cases hx : x.isSome
  · refine fn_enter tabOK mixes Tryz.func174 rfl rfl _ Tryz.ntmps174 _ Tryz.results174 (by simp) fun hwf => ?_
    try simp (maxSteps := 9999999) only [go_sem]
    repeat refine And.intro (by first|omega|(constructor<;>omega)|kernel_rfl) ?_
    refine CallW.mk (isGood_fn x) ?_
    try simp (maxSteps := 9999999) only [go_sem]
    try simp (maxSteps := 9999999) only [go_sem, hx]
    repeat refine And.intro (by first|omega|(constructor<;>omega)|kernel_rfl) ?_
  · refine fn_enter tabOK mixes Tryz.func174 rfl rfl _ Tryz.ntmps174 _ Tryz.results174 (by simp) fun hwf => ?_
    try simp (maxSteps := 9999999) only [go_sem]
    repeat refine And.intro (by first|omega|(constructor<;>omega)|kernel_rfl) ?_
    refine CallW.mk (isGood_fn x) ?_
    try simp (maxSteps := 9999999) only [go_sem]
    try simp (maxSteps := 9999999) only [go_sem, hx]
    repeat refine And.intro (by first|omega|(constructor<;>omega)|kernel_rfl) ?_
    refine CallW.mk (isGood_fn y) ?_
    try simp (maxSteps := 9999999) only [go_sem]
    repeat refine And.intro (by first|omega|(constructor<;>omega)|kernel_rfl) ?_
theorem pointOr_no (x y : Option Rat) (h : (x.isSome && y.isSome) = false) : Fn Tryz.prog 128 [⟨tPoint, (oD x, oD y)⟩] true [⟨tPoint, ptZ⟩] := by
  have h1 := isGoodPoint_fn x y
  rw [h] at h1
  refine fn_enter tabOK mixes Tryz.func128 rfl rfl _ Tryz.ntmps128 _ Tryz.results128 (by simp) fun hwf => ?_
  try simp (maxSteps := 9999999) only [go_sem]
  repeat refine And.intro (by first|omega|(constructor<;>omega)|kernel_rfl) ?_
  refine CallW.mk (h1) ?_
  try simp (maxSteps := 9999999) only [go_sem]
  all_goals repeat refine And.intro (by first|omega|(constructor<;>omega)|kernel_rfl) ?_
  all_goals first | kernel_rfl | omega | rfl
theorem pointOr_yes (x y : Option Rat) (h : (x.isSome && y.isSome) = true) : FnS Tryz.prog 128 [⟨tPoint, (oD x, oD y)⟩] 0 := by
  have h1 := isGoodPoint_fn x y
  rw [h] at h1
  refine FnS.of1 (enters Tryz.func128 rfl rfl) rfl fun w cs hc => ?_
  obtain ⟨c0, c1, c2, c3, c4, c5, rfl⟩ := list6 hc.len
  exact pointOr_any c0 c1 c2 c3 c4 c5 _ w hc h1
theorem l05Valid_no (p : DP) (h : okPt p = false) : Fn Tryz.prog 78 [⟨tPoint, p⟩] true [⟨tPoint, ptZ⟩] := by
  have h1 := specIsValidPoint_fn p
  rw [h] at h1
  refine fn_enter tabOK mixes Tryz.func78 rfl rfl _ Tryz.ntmps78 _ Tryz.results78 (by simp) fun hwf => ?_
  try simp (maxSteps := 9999999) only [go_sem]
  repeat refine And.intro (by first|omega|(constructor<;>omega)|kernel_rfl) ?_
  refine CallW.mk (h1) ?_
  try simp (maxSteps := 9999999) only [go_sem]
  all_goals repeat refine And.intro (by first|omega|(constructor<;>omega)|kernel_rfl) ?_
  all_goals first | kernel_rfl | omega | rfl
theorem l05Valid_yes (p : DP) (h : okPt p = true) : FnS Tryz.prog 78 [⟨tPoint, p⟩] 0 := by
  have h1 := specIsValidPoint_fn p
  rw [h] at h1
  refine FnS.of1 (enters Tryz.func78 rfl rfl) rfl fun w cs hc => ?_
  obtain ⟨c0, c1, c2, c3, c4, c5, rfl⟩ := list6 hc.len
  exact l05Valid_any c0 c1 c2 c3 c4 c5 _ w hc h1
theorem okPt_oD {x y : Option Rat} (hx : okO x) (hy : okO y) : okPt (oD x, oD y) = (x.isSome && y.isSome) := by
  unfold okPt okR
  rw [rdO_oD hx, rdO_oD hy]
theorem difference_fn (a b x y : Option Rat) (ha : okO a) (hb : okO b) (hx : okO x) (hy : okO y) : Fn Tryz.prog 87 [⟨tPoint, (oD a, oD b)⟩, ⟨tPoint, (oD x, oD y)⟩] true [⟨tPoint, ptO (subO a x) (subO b y)⟩] := by
  have c1 := ratSub_fn a x ha hx
  have c2 := ratSub_fn b y hb hy
  cases h : ((subO a x).isSome && (subO b y).isSome)
  · have c3 := pointOr_no _ _ h
    have e : ptO (subO a x) (subO b y) = ptZ := by unfold ptO; rw [h]; rfl
    rw [e]
    refine fn_enter tabOK mixes Tryz.func87 rfl rfl _ Tryz.ntmps87 _ Tryz.results87 (by simp) fun hwf => ?_
    try simp (maxSteps := 9999999) only [go_sem]
    repeat refine And.intro (by first|omega|(constructor<;>omega)|kernel_rfl) ?_
    refine CallW.mk (c1) ?_
    try simp (maxSteps := 9999999) only [go_sem]
    repeat refine And.intro (by first|omega|(constructor<;>omega)|kernel_rfl) ?_
    refine CallW.mk (c2) ?_
    try simp (maxSteps := 9999999) only [go_sem]
    repeat refine And.intro (by first|omega|(constructor<;>omega)|kernel_rfl) ?_
    refine CallW.mk (c3) ?_
    try simp (maxSteps := 9999999) only [go_sem]
    all_goals repeat refine And.intro (by first|omega|(constructor<;>omega)|kernel_rfl) ?_
    all_goals first | kernel_rfl | omega | rfl
  · have c3 := pointOr_yes _ _ h
    have e : ptO (subO a x) (subO b y) = (oD (subO a x), oD (subO b y)) := by unfold ptO; rw [h]; rfl
    rw [e]
    refine fn_enter tabOK mixes Tryz.func87 rfl rfl _ Tryz.ntmps87 _ Tryz.results87 (by simp) fun hwf => ?_
    try simp (maxSteps := 9999999) only [go_sem]
    repeat refine And.intro (by first|omega|(constructor<;>omega)|kernel_rfl) ?_
    refine CallW.mk (c1) ?_
    try simp (maxSteps := 9999999) only [go_sem]
    repeat refine And.intro (by first|omega|(constructor<;>omega)|kernel_rfl) ?_
    refine CallW.mk (c2) ?_
    try simp (maxSteps := 9999999) only [go_sem]
    repeat refine And.intro (by first|omega|(constructor<;>omega)|kernel_rfl) ?_
    refine CallW.s (c3) ?_
    try simp (maxSteps := 9999999) only [go_sem]
    all_goals repeat refine And.intro (by first|omega|(constructor<;>omega)|kernel_rfl) ?_
    all_goals first | kernel_rfl | omega | rfl
/-- The difference of two points. -/
noncomputable def subP (p q : DP) : DP := ptO (subO (rdO p.1) (rdO q.1)) (subO (rdO p.2) (rdO q.2))
theorem specSubtractPoints_fn (p q : DP) : Fn Tryz.prog 37 [⟨tPoint, p⟩, ⟨tPoint, q⟩] true [⟨tPoint, subP p q⟩] := by
  have c1 := specRatSub_fn p.1 q.1
  have c2 := specRatSub_fn p.2 q.2
  have hok := okPt_oD (okO_sub (rdO p.1) (rdO q.1)) (okO_sub (rdO p.2) (rdO q.2))
  cases h : ((subO (rdO p.1) (rdO q.1)).isSome && (subO (rdO p.2) (rdO q.2)).isSome)
  · have c3 := l05Valid_no _ (hok.trans h)
    have e : subP p q = ptZ := by unfold subP ptO; rw [h]; rfl
    rw [e]
    refine fn_enter tabOK mixes Tryz.func37 rfl rfl _ Tryz.ntmps37 _ Tryz.results37 (by simp) fun hwf => ?_
    try simp (maxSteps := 9999999) only [go_sem]
    repeat refine And.intro (by first|omega|(constructor<;>omega)|kernel_rfl) ?_
    refine CallW.mk (c1) ?_
    try simp (maxSteps := 9999999) only [go_sem]
    repeat refine And.intro (by first|omega|(constructor<;>omega)|kernel_rfl) ?_
    refine CallW.mk (c2) ?_
    try simp (maxSteps := 9999999) only [go_sem]
    repeat refine And.intro (by first|omega|(constructor<;>omega)|kernel_rfl) ?_
    refine CallW.mk (c3) ?_
    try simp (maxSteps := 9999999) only [go_sem]
    all_goals repeat refine And.intro (by first|omega|(constructor<;>omega)|kernel_rfl) ?_
    all_goals first | kernel_rfl | omega | rfl
  · have c3 := l05Valid_yes _ (hok.trans h)
    have e : subP p q = (oD (subO (rdO p.1) (rdO q.1)), oD (subO (rdO p.2) (rdO q.2))) := by unfold subP ptO; rw [h]; rfl
    rw [e]
    refine fn_enter tabOK mixes Tryz.func37 rfl rfl _ Tryz.ntmps37 _ Tryz.results37 (by simp) fun hwf => ?_
    try simp (maxSteps := 9999999) only [go_sem]
    repeat refine And.intro (by first|omega|(constructor<;>omega)|kernel_rfl) ?_
    refine CallW.mk (c1) ?_
    try simp (maxSteps := 9999999) only [go_sem]
    repeat refine And.intro (by first|omega|(constructor<;>omega)|kernel_rfl) ?_
    refine CallW.mk (c2) ?_
    try simp (maxSteps := 9999999) only [go_sem]
    repeat refine And.intro (by first|omega|(constructor<;>omega)|kernel_rfl) ?_
    refine CallW.s (c3) ?_
    try simp (maxSteps := 9999999) only [go_sem]
    all_goals repeat refine And.intro (by first|omega|(constructor<;>omega)|kernel_rfl) ?_
    all_goals first | kernel_rfl | omega | rfl
end Go.Proofs.YtghckbohaghgkaaGreat.DW

/-
  Sides of lines; where a point is of a polygon.
-/
namespace Go.Proofs.YtghckbohaghgkaaGreat.DW
open Go.RowKit
/-- The side of three points. -/
noncomputable def sdP (p q r : DP) : Int := sgnO (subO (mulO (subO (rdO q.1) (rdO p.1)) (subO (rdO r.2) (rdO p.2))) (mulO (subO (rdO q.2) (rdO p.2)) (subO (rdO r.1) (rdO p.1))))
theorem side_fn (p q r : DP) (hp : okPt p = true) (hq : okPt q = true) (hr : okPt r = true) : Fn Tryz.prog 173 [⟨tPoint, p⟩, ⟨tPoint, q⟩, ⟨tPoint, r⟩] false [⟨.int, sdP p q r⟩] := by
  obtain ⟨p1, p2⟩ := Bool.and_eq_true_iff.1 (show (okR p.1 && okR p.2) = true from hp)
  obtain ⟨q1, q2⟩ := Bool.and_eq_true_iff.1 (show (okR q.1 && okR q.2) = true from hq)
  obtain ⟨r1, r2⟩ := Bool.and_eq_true_iff.1 (show (okR r.1 && okR r.2) = true from hr)
  have c1 := ratSub_fn (rdO q.1) (rdO p.1) (okO_rdO _) (okO_rdO _)
  have c2 := ratSub_fn (rdO r.2) (rdO p.2) (okO_rdO _) (okO_rdO _)
  have c3 := ratMul_fn _ _ (okO_sub (rdO q.1) (rdO p.1)) (okO_sub (rdO r.2) (rdO p.2))
  have c4 := ratSub_fn (rdO q.2) (rdO p.2) (okO_rdO _) (okO_rdO _)
  have c5 := ratSub_fn (rdO r.1) (rdO p.1) (okO_rdO _) (okO_rdO _)
  have c6 := ratMul_fn _ _ (okO_sub (rdO q.2) (rdO p.2)) (okO_sub (rdO r.1) (rdO p.1))
  have c7 := ratSub_fn (mulO (subO (rdO q.1) (rdO p.1)) (subO (rdO r.2) (rdO p.2))) (mulO (subO (rdO q.2) (rdO p.2)) (subO (rdO r.1) (rdO p.1))) (okO_mul _ _) (okO_mul _ _)
  have c8 := ratSign_fn (subO (mulO (subO (rdO q.1) (rdO p.1)) (subO (rdO r.2) (rdO p.2))) (mulO (subO (rdO q.2) (rdO p.2)) (subO (rdO r.1) (rdO p.1))))
  rw [okR_oD p1, okR_oD q1] at c1
  rw [okR_oD p2, okR_oD r2] at c2
  rw [okR_oD p2, okR_oD q2] at c4
  rw [okR_oD p1, okR_oD r1] at c5
  unfold sdP
  refine fn_enter tabOK mixes Tryz.func173 rfl rfl _ Tryz.ntmps173 _ Tryz.results173 (by simp) fun hwf => ?_
  try simp (maxSteps := 9999999) only [go_sem]
  repeat refine And.intro (by first|omega|(constructor<;>omega)|kernel_rfl) ?_
  refine CallW.mk (c1) ?_
  try simp (maxSteps := 9999999) only [go_sem]
  repeat refine And.intro (by first|omega|(constructor<;>omega)|kernel_rfl) ?_
  refine CallW.mk (c2) ?_
  try simp (maxSteps := 9999999) only [go_sem]
  repeat refine And.intro (by first|omega|(constructor<;>omega)|kernel_rfl) ?_
  refine CallW.mk (c3) ?_
  try simp (maxSteps := 9999999) only [go_sem]
  repeat refine And.intro (by first|omega|(constructor<;>omega)|kernel_rfl) ?_
  refine CallW.mk (c4) ?_
  try simp (maxSteps := 9999999) only [go_sem]
  repeat refine And.intro (by first|omega|(constructor<;>omega)|kernel_rfl) ?_
  refine CallW.mk (c5) ?_
  try simp (maxSteps := 9999999) only [go_sem]
  repeat refine And.intro (by first|omega|(constructor<;>omega)|kernel_rfl) ?_
  refine CallW.mk (c6) ?_
  try simp (maxSteps := 9999999) only [go_sem]
  repeat refine And.intro (by first|omega|(constructor<;>omega)|kernel_rfl) ?_
  refine CallW.mk (c7) ?_
  try simp (maxSteps := 9999999) only [go_sem]
  repeat refine And.intro (by first|omega|(constructor<;>omega)|kernel_rfl) ?_
  refine CallW.mk (c8) ?_
  try simp (maxSteps := 9999999) only [go_sem]
  all_goals repeat refine And.intro (by first|omega|(constructor<;>omega)|kernel_rfl) ?_
  all_goals first | kernel_rfl | omega | rfl
theorem specSide_fn (p q r : DP) : Fn Tryz.prog 76 [⟨tPoint, p⟩, ⟨tPoint, q⟩, ⟨tPoint, r⟩] false [⟨.int, sdP p q r⟩] := by
  have c1 := specRatSub_fn q.1 p.1
  have c2 := specRatSub_fn r.2 p.2
  have c3 := specRatMul_fn (oD (subO (rdO q.1) (rdO p.1))) (oD (subO (rdO r.2) (rdO p.2)))
  have c4 := specRatSub_fn q.2 p.2
  have c5 := specRatSub_fn r.1 p.1
  have c6 := specRatMul_fn (oD (subO (rdO q.2) (rdO p.2))) (oD (subO (rdO r.1) (rdO p.1)))
  have c7 := specRatSub_fn (oD (mulO (subO (rdO q.1) (rdO p.1)) (subO (rdO r.2) (rdO p.2)))) (oD (mulO (subO (rdO q.2) (rdO p.2)) (subO (rdO r.1) (rdO p.1))))
  have c8 := specRatSign_fn (oD (subO (mulO (subO (rdO q.1) (rdO p.1)) (subO (rdO r.2) (rdO p.2))) (mulO (subO (rdO q.2) (rdO p.2)) (subO (rdO r.1) (rdO p.1)))))
  rw [rdO_oD (okO_sub _ _), rdO_oD (okO_sub _ _)] at c3 c6
  rw [rdO_oD (okO_mul _ _), rdO_oD (okO_mul _ _)] at c7
  rw [rdO_oD (okO_sub _ _)] at c8
  unfold sdP
  refine fn_enter tabOK mixes Tryz.func76 rfl rfl _ Tryz.ntmps76 _ Tryz.results76 (by simp) fun hwf => ?_
  try simp (maxSteps := 9999999) only [go_sem]
  repeat refine And.intro (by first|omega|(constructor<;>omega)|kernel_rfl) ?_
  refine CallW.mk (c1) ?_
  try simp (maxSteps := 9999999) only [go_sem]
  repeat refine And.intro (by first|omega|(constructor<;>omega)|kernel_rfl) ?_
  refine CallW.mk (c2) ?_
  try simp (maxSteps := 9999999) only [go_sem]
  repeat refine And.intro (by first|omega|(constructor<;>omega)|kernel_rfl) ?_
  refine CallW.mk (c3) ?_
  try simp (maxSteps := 9999999) only [go_sem]
  repeat refine And.intro (by first|omega|(constructor<;>omega)|kernel_rfl) ?_
  refine CallW.mk (c4) ?_
  try simp (maxSteps := 9999999) only [go_sem]
  repeat refine And.intro (by first|omega|(constructor<;>omega)|kernel_rfl) ?_
  refine CallW.mk (c5) ?_
  try simp (maxSteps := 9999999) only [go_sem]
  repeat refine And.intro (by first|omega|(constructor<;>omega)|kernel_rfl) ?_
  refine CallW.mk (c6) ?_
  try simp (maxSteps := 9999999) only [go_sem]
  repeat refine And.intro (by first|omega|(constructor<;>omega)|kernel_rfl) ?_
  refine CallW.mk (c7) ?_
  try simp (maxSteps := 9999999) only [go_sem]
  repeat refine And.intro (by first|omega|(constructor<;>omega)|kernel_rfl) ?_
  refine CallW.mk (c8) ?_
  try simp (maxSteps := 9999999) only [go_sem]
  all_goals repeat refine And.intro (by first|omega|(constructor<;>omega)|kernel_rfl) ?_
  all_goals first | kernel_rfl | omega | rfl
/-- A vector as a point. -/
def ptV (v : DV) : DP := (ratI v.1, ratI v.2)
theorem PointOfI_fn (v : DV) : Fn Tryz.prog 212 [⟨tVec, v⟩] true [⟨tPoint, ptV v⟩] := by
  have c1 := ratInt_fn v.1
  have c2 := ratInt_fn v.2
  unfold ptV
  refine fn_enter tabOK mixes Tryz.func212 rfl rfl _ Tryz.ntmps212 _ Tryz.results212 (by simp) fun hwf => ?_
  try simp (maxSteps := 9999999) only [go_sem]
  repeat refine And.intro (by first|omega|(constructor<;>omega)|kernel_rfl) ?_
  refine CallW.mk (c1) ?_
  try simp (maxSteps := 9999999) only [go_sem]
  repeat refine And.intro (by first|omega|(constructor<;>omega)|kernel_rfl) ?_
  refine CallW.mk (c2) ?_
  try simp (maxSteps := 9999999) only [go_sem]
  all_goals repeat refine And.intro (by first|omega|(constructor<;>omega)|kernel_rfl) ?_
  all_goals first | kernel_rfl | omega | rfl
theorem PointOfS_fn (v : DV) : Fn Tryz.prog 77 [⟨tVec, v⟩] true [⟨tPoint, ptV v⟩] := by
  have c1 := RatFromInt_fn v.1
  have c2 := RatFromInt_fn v.2
  unfold ptV
  refine fn_enter tabOK mixes Tryz.func77 rfl rfl _ Tryz.ntmps77 _ Tryz.results77 (by simp) fun hwf => ?_
  try simp (maxSteps := 9999999) only [go_sem]
  repeat refine And.intro (by first|omega|(constructor<;>omega)|kernel_rfl) ?_
  refine CallW.mk (c1) ?_
  try simp (maxSteps := 9999999) only [go_sem]
  repeat refine And.intro (by first|omega|(constructor<;>omega)|kernel_rfl) ?_
  refine CallW.mk (c2) ?_
  try simp (maxSteps := 9999999) only [go_sem]
  all_goals repeat refine And.intro (by first|omega|(constructor<;>omega)|kernel_rfl) ?_
  all_goals first | kernel_rfl | omega | rfl
theorem okR_ratI {n : Int} (h1 : -1000 ≤ n) (h2 : n ≤ 1000) : okR (ratI n) = true := by
  have ho : okO (some ((n : Int) : Rat)) := by
    intro q hq; injection hq with hq; subst hq
    exact ⟨Nat.le_trans (nl_small (n := n.natAbs) (by omega)) (by decide), Nat.le_trans (nl_small (n := 1) (by decide)) (by decide)⟩
  rw [show ratI n = oD (some ((n : Int) : Rat)) from ratI_eq n]
  unfold okR
  rw [rdO_oD ho]; rfl
theorem okPt_ptV {v : DV} (h : okV v = true) : okPt (ptV v) = true := by
  obtain ⟨b1, b2, b3, b4⟩ := okV_b h
  show (okR (ratI v.1) && okR (ratI v.2)) = true
  rw [okR_ratI b1 b2, okR_ratI b3 b4]; rfl
def mapp (l : List DV) (i : Nat) : List DP := (l.take i).map ptV
theorem mapp_step {l : List DV} {i : Nat} (h : i < l.length) : mapp l (i + 1) = mapp l i ++ [ptV (nth (t := tVec) l i)] := by
  unfold mapp
  rw [List.take_succ_eq_append_getElem h, nth_lt h, List.map_append]
  rfl
theorem mapp_len {l : List DV} {i : Nat} (h : i ≤ l.length) : (mapp l i).length = i := by
  unfold mapp
  rw [List.length_map, List.length_take]; omega
theorem mapp_all {l : List DV} {i : Nat} (h : l.length ≤ i) : mapp l i = l.map ptV := by
  unfold mapp
  rw [List.take_of_length_le h]
theorem pointsOf_fn (l : List DV) (hn : l.length ≤ 1048576) : Fn Tryz.prog 172 [⟨.slice tVec, l⟩] true [⟨.slice tPoint, l.map ptV⟩] := by
  refine fn_enter tabOK mixes Tryz.func172 rfl rfl _ Tryz.ntmps172 _ Tryz.results172 (by simp) fun hwf => ?_
  try simp (maxSteps := 9999999) only [go_sem]
  refine LoopG.intro _ _ _ (fun i : Nat => ⟨[(3, .row 0 0), (7, .sl tVec l), (8, .sc (.int .i64 l.length)), (9, .sc (.int .i64 i))], [(0, .row 42 tPoint 0 true (mapp l i))]⟩) (fun i => i ≤ l.length) (fun i => l.length - i) 0 ?_ (Nat.zero_le _) ?_
  · refine Wk.mk [] ?_
    try simp (maxSteps := 9999999) only [go_sem]
    try (and_intros <;> first | rfl | omega | exact ⟨_, rfl⟩)
    all_goals (first | exact ⟨rfl, rfl⟩ | rfl)
  · rintro i hi
    try simp (maxSteps := 9999999) only [go_sem]
    refine CondW_dec (fun hA => ?_) (fun hA => ?_)
    · have hlt : i < l.length := by omega
      have hml := mapp_len (l := l) (i := i) (by omega)
      have e := mapp_step hlt
      have c2 := PointOfI_fn (nth (t := tVec) l i)
      try simp (maxSteps := 9999999) only [go_sem]
      repeat refine And.intro (by first|omega|(constructor<;>omega)|kernel_rfl) ?_
      refine CallW.mk (c2) ?_
      try simp (maxSteps := 9999999) only [go_sem]
      try simp (maxSteps := 9999999) only [go_sem, hml]
      repeat refine And.intro (by first|omega|(constructor<;>omega)|kernel_rfl) ?_
      refine LoopK.mk (i + 1) ?_ (by omega) (by omega)
      rw [e]
      refine Wk.mk [] ?_
      try simp (maxSteps := 9999999) only [go_sem]
      try (and_intros <;> first | rfl | omega | exact ⟨_, rfl⟩)
      all_goals (first | exact ⟨by omega, rfl⟩ | exact ⟨rfl, rfl⟩)
    · rw [mapp_all (by omega)]
      try simp (maxSteps := 9999999) only [go_sem]
/-- The least side of a point, of the first i edges. -/
noncomputable def cntI (l : List DV) (p : DP) : Nat → Int
  | 0 => 1
  | i + 1 => min (cntI l p i) (sdP (ptV (nth (t := tVec) l i)) (ptV (nth (t := tVec) l (nxt l.length i).toNat)) p)
theorem nth_ptV {l : List DV} {i : Nat} (h : i < l.length) : nth (t := tPoint) (l.map ptV) i = ptV (nth (t := tVec) l i) := by
  rw [nth_lt (t := tVec) h, nth_lt (t := tPoint) (l := l.map ptV) (by rw [List.length_map]; exact h), List.getElem_map]
theorem contains_fn (l : List DV) (p : DP) (hl : ∀ v ∈ l, okV v = true) (hn : l.length ≤ 1048576) (hp : okPt p = true) : Fn Tryz.prog 127 [⟨.slice tVec, l⟩, ⟨tPoint, p⟩] false [⟨.int, cntI l p l.length⟩] := by
  have c1 := pointsOf_fn l hn
  have hml : (l.map ptV).length = l.length := List.length_map ..
  refine fn_enter tabOK mixes Tryz.func127 rfl rfl _ Tryz.ntmps127 _ Tryz.results127 (by simp) fun hwf => ?_
  try simp (maxSteps := 9999999) only [go_sem]
  repeat refine And.intro (by first|omega|(constructor<;>omega)|kernel_rfl) ?_
  refine CallW.mk (c1) ?_
  try simp (maxSteps := 9999999) only [go_sem]
  try simp (maxSteps := 9999999) only [go_sem, hml]
  refine LoopG.intro _ _ _ (fun i : Nat => ⟨[(3, .ptr 0 0), (5, .sl tPoint (l.map ptV)), (6, .sc (.int .i64 (cntI l p i))), (11, .sl tPoint (l.map ptV)), (12, .sc (.int .i64 l.length)), (13, .sc (.int .i64 i))], [(0, .box (cel tPoint p))]⟩) (fun i => i ≤ l.length) (fun i => l.length - i) 0 ?_ (Nat.zero_le _) ?_
  · refine Wk.mk [] ?_
    try simp (maxSteps := 9999999) only [go_sem]
    try (and_intros <;> first | rfl | omega | exact ⟨_, rfl⟩)
    trace_state
  · rintro i hi
    try simp (maxSteps := 9999999) only [go_sem]
    refine CondW_dec (fun hA => ?_) (fun hA => ?_)
    · have hlt : i < l.length := by omega
      have hr := nxt_rng (n := l.length) (i := i) (by omega)
      have hr2 : (nxt l.length i).toNat < l.length := by omega
      have c2 := side_fn (ptV (nth (t := tVec) l i)) (ptV (nth (t := tVec) l (nxt l.length i).toNat)) p (okPt_ptV (hl _ (nth_mem hlt))) (okPt_ptV (hl _ (nth_mem hr2))) hp
      rw [← nth_ptV hlt, ← nth_ptV hr2] at c2
      unfold nxt at hr hr2 c2
      try simp (maxSteps := 9999999) only [go_sem, hml]
      repeat refine And.intro (by first|omega|(constructor<;>omega)|kernel_rfl) ?_
      refine RemW.pos (by omega) (by omega) ?_
      try simp (maxSteps := 9999999) only [go_sem, hml]
      repeat refine And.intro (by first|omega|(constructor<;>omega)|kernel_rfl) ?_
      refine CallW.mk (c2) ?_
      try simp (maxSteps := 9999999) only [go_sem]
      repeat refine And.intro (by first|omega|(constructor<;>omega)|kernel_rfl) ?_
      have hst : cntI l p (i + 1) = min (cntI l p i) (sdP (nth (t := tPoint) (l.map ptV) i) (nth (t := tPoint) (l.map ptV) (((i : Int) + 1) % (l.length : Int)).toNat) p) := by
        rw [nth_ptV hlt, nth_ptV hr2]; rfl
      refine LoopK.mk (i + 1) ?_ (by omega) (by omega)
      rw [hst]
      refine Wk.mk [] ?_
      try simp (maxSteps := 9999999) only [go_sem]
      try (and_intros <;> first | rfl | omega | exact ⟨_, rfl⟩)
    · rw [show l.length = i by omega]
      try simp (maxSteps := 9999999) only [go_sem]
      all_goals repeat refine And.intro (by first|omega|(constructor<;>omega)|kernel_rfl) ?_
      all_goals first | kernel_rfl | omega | rfl
end Go.Proofs.YtghckbohaghgkaaGreat.DW

/-
  Fractions: quotients.
-/
namespace Go.Proofs.YtghckbohaghgkaaGreat.DW
open Go.RowKit
theorem divO_none_l (y : Option Rat) : divO none y = none := rfl
theorem divO_none_r (x : Option Rat) : divO x none = none := by cases x <;> rfl
theorem divO_z (p : Rat) {q : Rat} (h : q = 0) : divO (some p) (some q) = none := if_pos h
theorem divO_s {p q : Rat} (h : q ≠ 0) : divO (some p) (some q) = capR (p / q) := by unfold divO; simp only; rw [if_neg h]
theorem okO_div (x y : Option Rat) : okO (divO x y) := by
  unfold divO
  split
  · split
    · exact okO_none
    · exact okO_cap _
  · exact okO_none
theorem inv_mk {q : Rat} (h : q.num ≠ 0) : q⁻¹ = _root_.mkRat (if q.num < 0 then -(q.den : Int) else q.den) q.num.natAbs := by
  rw [Rat.inv_def]
  split
  · rename_i hn
    rw [← Rat.neg_divInt_neg, show -q.num = ((q.num.natAbs : Nat) : Int) by omega, Rat.divInt_ofNat]
  · rename_i hn
    rw [← Rat.divInt_ofNat]
    congr 1
    omega
theorem div_mk {p q : Rat} (h : q.num ≠ 0) : p / q = _root_.mkRat (p.num * (if q.num < 0 then -(q.den : Int) else q.den)) (p.den * q.num.natAbs) := by
  rw [Rat.div_def, inv_mk h]
  conv => lhs; rw [← Rat.mkRat_self p]
  rw [Rat.mkRat_mul_mkRat]
theorem sgn_divI {p q : Rat} : sgn (!decide (decide (p.num * (q.den : Int) < 0) = decide (q.num < 0))) (p.num * (q.den : Int)).natAbs = p.num * (if q.num < 0 then -(q.den : Int) else q.den) := by
  have hd := den_pos' q
  unfold sgn
  by_cases h1 : p.num * (q.den : Int) < 0
  · by_cases h2 : q.num < 0
    · simp only [h1, h2, decide_true, Bool.not_true, Bool.false_eq_true, if_false, if_true]
      rw [Int.mul_neg]; omega
    · simp only [h1, h2, decide_true, decide_false, Bool.true_eq_false, Bool.not_false, if_true, if_false]
      omega
  · by_cases h2 : q.num < 0
    · simp only [h1, h2, decide_true, decide_false, Bool.false_eq_true, Bool.not_false, if_true]
      rw [Int.mul_neg]; omega
    · simp only [h1, h2, decide_false, decide_true, Bool.not_true, Bool.false_eq_true, if_false]
      omega
theorem sgn_divS {p q : Rat} : sgn (!decide (decide (p.num < 0) = decide (q.num < 0))) (p.num.natAbs * q.den) = p.num * (if q.num < 0 then -(q.den : Int) else q.den) := by
  unfold sgn
  rw [Int.natCast_mul]
  by_cases h1 : p.num < 0
  · by_cases h2 : q.num < 0
    · simp only [h1, h2, decide_true, Bool.not_true, Bool.false_eq_true, if_false, if_true]
      rw [show (p.num.natAbs : Int) = -p.num by omega, Int.mul_neg, Int.neg_mul]
    · simp only [h1, h2, decide_true, decide_false, Bool.true_eq_false, Bool.not_false, if_true, if_false]
      rw [show (p.num.natAbs : Int) = -p.num by omega, Int.neg_mul, Int.neg_neg]
  · by_cases h2 : q.num < 0
    · simp only [h1, h2, decide_true, decide_false, Bool.false_eq_true, Bool.not_false, if_true]
      rw [show (p.num.natAbs : Int) = p.num by omega, Int.mul_neg]
    · simp only [h1, h2, decide_false, decide_true, Bool.not_true, Bool.false_eq_true, if_false]
      rw [show (p.num.natAbs : Int) = p.num by omega]
theorem num_zero {q : Rat} (h : q.num = 0) : q = 0 := by
  rw [← Rat.mkRat_self q, h, Rat.zero_mkRat]
theorem ratDiv_fn (x y : Option Rat) (hx : okO x) (hy : okO y) : Fn Tryz.prog 226 [⟨tRat, oD x⟩, ⟨tRat, oD y⟩] true [⟨tRat, oD (divO x y)⟩] := by
  cases x with
  | none =>
    refine fn_enter tabOK mixes Tryz.func226 rfl rfl _ Tryz.ntmps226 _ Tryz.results226 (by simp) fun hwf => ?_
    try simp (maxSteps := 9999999) only [go_sem]
    repeat refine And.intro (by first|omega|(constructor<;>omega)|kernel_rfl) ?_
    refine CallW.mk (isGood_n) ?_
    try simp (maxSteps := 9999999) only [go_sem]
    try simp (maxSteps := 9999999) only [go_sem, divO_none_l]
  | some p =>
    cases y with
    | none =>
      refine fn_enter tabOK mixes Tryz.func226 rfl rfl _ Tryz.ntmps226 _ Tryz.results226 (by simp) fun hwf => ?_
      try simp (maxSteps := 9999999) only [go_sem]
      repeat refine And.intro (by first|omega|(constructor<;>omega)|kernel_rfl) ?_
      refine CallW.mk (isGood_s p) ?_
      try simp (maxSteps := 9999999) only [go_sem]
      repeat refine And.intro (by first|omega|(constructor<;>omega)|kernel_rfl) ?_
      refine CallW.mk (isGood_n) ?_
      try simp (maxSteps := 9999999) only [go_sem]
      try simp (maxSteps := 9999999) only [go_sem, divO_none_r]
    | some q =>
      obtain ⟨p1, p2⟩ := hx p rfl
      obtain ⟨q1, q2⟩ := hy q rfl
      by_cases h0 : q.num = 0
      · have e0 : nl q.num.natAbs = 0 := nl_eq_zero.2 (by omega)
        have d0 : decide ((nl q.num.natAbs : Int) = 0) = true := decide_eq_true (by omega)
        rw [divO_z p (num_zero h0)]
        refine fn_enter tabOK mixes Tryz.func226 rfl rfl _ Tryz.ntmps226 _ Tryz.results226 (by simp) fun hwf => ?_
        try simp (maxSteps := 9999999) only [go_sem]
        repeat refine And.intro (by first|omega|(constructor<;>omega)|kernel_rfl) ?_
        refine CallW.mk (isGood_s p) ?_
        try simp (maxSteps := 9999999) only [go_sem]
        repeat refine And.intro (by first|omega|(constructor<;>omega)|kernel_rfl) ?_
        refine CallW.mk (isGood_s q) ?_
        try simp (maxSteps := 9999999) only [go_sem]
        try simp (maxSteps := 9999999) only [go_sem, d0]
      · have hq0 : q ≠ 0 := fun h => h0 (by rw [h]; rfl)
        have d0 : decide ((nl q.num.natAbs : Int) = 0) = false := decide_eq_false (fun h => h0 (by have := nl_eq_zero.1 (show nl q.num.natAbs = 0 by omega); omega))
        have b1 := nl_mulI p.num (q.den : Int)
        have b4 := nl_mul p.den q.num.natAbs
        rw [Int.natAbs_natCast] at b1
        have hz := ratMake_end (p.num * (if q.num < 0 then -(q.den : Int) else q.den)) (p.den * q.num.natAbs) (Nat.mul_ne_zero p.den_nz (by omega)) (by
          rw [← sgn_divI, sgn_abs]; omega) (by omega)
        rw [← div_mk h0] at hz
        rw [divO_s hq0]
        have c3 := bigMulN_fn p.num q.den (by omega) (by omega)
        have c4 := bigMake_to (sgn_divI (p := p) (q := q))
        have c5 := natMul_fn p.den q.num.natAbs (by omega) (by omega)
        refine fn_enter tabOK mixes Tryz.func226 rfl rfl _ Tryz.ntmps226 _ Tryz.results226 (by simp) fun hwf => ?_
        try simp (maxSteps := 9999999) only [go_sem]
        repeat refine And.intro (by first|omega|(constructor<;>omega)|kernel_rfl) ?_
        refine CallW.mk (isGood_s p) ?_
        try simp (maxSteps := 9999999) only [go_sem]
        repeat refine And.intro (by first|omega|(constructor<;>omega)|kernel_rfl) ?_
        refine CallW.mk (isGood_s q) ?_
        try simp (maxSteps := 9999999) only [go_sem]
        try simp (maxSteps := 9999999) only [go_sem, d0]
        repeat refine And.intro (by first|omega|(constructor<;>omega)|kernel_rfl) ?_
        refine CallW.mk (c3) ?_
        try simp (maxSteps := 9999999) only [go_sem]
        repeat refine And.intro (by first|omega|(constructor<;>omega)|kernel_rfl) ?_
        refine CallW.mk (c4) ?_
        try simp (maxSteps := 9999999) only [go_sem]
        repeat refine And.intro (by first|omega|(constructor<;>omega)|kernel_rfl) ?_
        refine CallW.mk (c5) ?_
        try simp (maxSteps := 9999999) only [go_sem]
        repeat refine And.intro (by first|omega|(constructor<;>omega)|kernel_rfl) ?_
        refine CallW.mk (hz) ?_
        try simp (maxSteps := 9999999) only [go_sem]
        all_goals repeat refine And.intro (by first|omega|(constructor<;>omega)|kernel_rfl) ?_
        all_goals first | kernel_rfl | omega | rfl
theorem l04Low0_fn (s : Bool) (a : Nat) : Fn Tryz.prog 162 [⟨.bool, s⟩, ⟨tInts, natL a⟩, ⟨tInts, []⟩] true [⟨tRat, oD none⟩] := by
  have ht1 := l02Trim_fn (natL a)
  rw [trimL_natL] at ht1
  have ht2 : Fn Tryz.prog 203 [⟨tInts, []⟩] false [⟨tInts, []⟩] := l02Trim_fn []
  refine fn_enter tabOK mixes Tryz.func162 rfl rfl _ Tryz.ntmps162 _ Tryz.results162 (by simp) fun hwf => ?_
  try simp (maxSteps := 9999999) only [go_sem]
  repeat refine And.intro (by first|omega|(constructor<;>omega)|kernel_rfl) ?_
  refine CallW.mk (ht1) ?_
  try simp (maxSteps := 9999999) only [go_sem]
  repeat refine And.intro (by first|omega|(constructor<;>omega)|kernel_rfl) ?_
  refine CallW.mk (ht2) ?_
  try simp (maxSteps := 9999999) only [go_sem]
  refine CondW_dec (fun _ => ?_) (fun h => absurd rfl h)
  try simp (maxSteps := 9999999) only [go_sem]
theorem specRatDiv_fn (r s : DR) : Fn Tryz.prog 185 [⟨tRat, r⟩, ⟨tRat, s⟩] true [⟨tRat, oD (divO (rdO r) (rdO s))⟩] := by
  have ch1 := specRatOk_fn r
  have ch2 := specRatOk_fn s
  cases h1 : okR r <;> rw [h1] at ch1
  · rw [okR_f h1, divO_none_l]
    refine fn_enter tabOK mixes Tryz.func185 rfl rfl _ Tryz.ntmps185 _ Tryz.results185 (by simp) fun hwf => ?_
    try simp (maxSteps := 9999999) only [go_sem]
    repeat refine And.intro (by first|omega|(constructor<;>omega)|kernel_rfl) ?_
    refine CallW.mk (ch1) ?_
    try simp (maxSteps := 9999999) only [go_sem]
  · cases h2 : okR s <;> rw [h2] at ch2
    · rw [okR_f h2, divO_none_r]
      refine fn_enter tabOK mixes Tryz.func185 rfl rfl _ Tryz.ntmps185 _ Tryz.results185 (by simp) fun hwf => ?_
      try simp (maxSteps := 9999999) only [go_sem]
      repeat refine And.intro (by first|omega|(constructor<;>omega)|kernel_rfl) ?_
      refine CallW.mk (ch1) ?_
      try simp (maxSteps := 9999999) only [go_sem]
      repeat refine And.intro (by first|omega|(constructor<;>omega)|kernel_rfl) ?_
      refine CallW.mk (ch2) ?_
      try simp (maxSteps := 9999999) only [go_sem]
    · obtain ⟨p, hp, rfl, e1⟩ := okR_t h1
      obtain ⟨q, hq, rfl, e2⟩ := okR_t h2
      rw [e1, e2]
      obtain ⟨p1, p2⟩ := hp
      obtain ⟨q1, q2⟩ := hq
      have b1 := nl_mul p.num.natAbs q.den
      have b4 := nl_mul p.den q.num.natAbs
      have c3 := l02Mul_fn p.num.natAbs q.den (by omega) (by omega)
      have c5 := l02Mul_fn p.den q.num.natAbs (by omega) (by omega)
      by_cases h0 : q.num = 0
      · rw [divO_z p (num_zero h0)]
        have e0 : p.den * q.num.natAbs = 0 := by rw [h0]; rfl
        have c6 := l04Low0_fn (!decide (decide (p.num < 0) = decide (q.num < 0))) (p.num.natAbs * q.den)
        rw [e0, show natL 0 = [] from natL_nil.2 rfl] at c5
        refine fn_enter tabOK mixes Tryz.func185 rfl rfl _ Tryz.ntmps185 _ Tryz.results185 (by simp) fun hwf => ?_
        try simp (maxSteps := 9999999) only [go_sem]
        repeat refine And.intro (by first|omega|(constructor<;>omega)|kernel_rfl) ?_
        refine CallW.mk (ch1) ?_
        try simp (maxSteps := 9999999) only [go_sem]
        repeat refine And.intro (by first|omega|(constructor<;>omega)|kernel_rfl) ?_
        refine CallW.mk (ch2) ?_
        try simp (maxSteps := 9999999) only [go_sem]
        repeat refine And.intro (by first|omega|(constructor<;>omega)|kernel_rfl) ?_
        refine CallW.mk (c3) ?_
        try simp (maxSteps := 9999999) only [go_sem]
        repeat refine And.intro (by first|omega|(constructor<;>omega)|kernel_rfl) ?_
        refine CallW.mk (c5) ?_
        try simp (maxSteps := 9999999) only [go_sem]
        repeat refine And.intro (by first|omega|(constructor<;>omega)|kernel_rfl) ?_
        refine CallW.mk (c6) ?_
        try simp (maxSteps := 9999999) only [go_sem]
        all_goals repeat refine And.intro (by first|omega|(constructor<;>omega)|kernel_rfl) ?_
        all_goals first | kernel_rfl | omega | rfl
      · have hq0 : q ≠ 0 := fun h => h0 (by rw [h]; rfl)
        have hz := l04Low_fn (!decide (decide (p.num < 0) = decide (q.num < 0))) (p.num.natAbs * q.den) (p.den * q.num.natAbs) (Nat.mul_ne_zero p.den_nz (by omega)) (by omega) (by omega)
        rw [sgn_divS, ← div_mk h0] at hz
        rw [divO_s hq0]
        refine fn_enter tabOK mixes Tryz.func185 rfl rfl _ Tryz.ntmps185 _ Tryz.results185 (by simp) fun hwf => ?_
        try simp (maxSteps := 9999999) only [go_sem]
        repeat refine And.intro (by first|omega|(constructor<;>omega)|kernel_rfl) ?_
        refine CallW.mk (ch1) ?_
        try simp (maxSteps := 9999999) only [go_sem]
        repeat refine And.intro (by first|omega|(constructor<;>omega)|kernel_rfl) ?_
        refine CallW.mk (ch2) ?_
        try simp (maxSteps := 9999999) only [go_sem]
        repeat refine And.intro (by first|omega|(constructor<;>omega)|kernel_rfl) ?_
        refine CallW.mk (c3) ?_
        try simp (maxSteps := 9999999) only [go_sem]
        repeat refine And.intro (by first|omega|(constructor<;>omega)|kernel_rfl) ?_
        refine CallW.mk (c5) ?_
        try simp (maxSteps := 9999999) only [go_sem]
        repeat refine And.intro (by first|omega|(constructor<;>omega)|kernel_rfl) ?_
        refine CallW.mk (hz) ?_
        try simp (maxSteps := 9999999) only [go_sem]
        all_goals repeat refine And.intro (by first|omega|(constructor<;>omega)|kernel_rfl) ?_
        all_goals first | kernel_rfl | omega | rfl
/-- A point that was computed. -/
def gP (p : DP) : Prop := ∃ x y, okO x ∧ okO y ∧ p = (oD x, oD y)
theorem gP_1 {p : DP} (h : gP p) : oD (rdO p.1) = p.1 := by
  obtain ⟨x, y, hx, hy, rfl⟩ := h
  show oD (rdO (oD x)) = oD x
  rw [rdO_oD hx]
theorem gP_2 {p : DP} (h : gP p) : oD (rdO p.2) = p.2 := by
  obtain ⟨x, y, hx, hy, rfl⟩ := h
  show oD (rdO (oD y)) = oD y
  rw [rdO_oD hy]
theorem gP_mk {x y : Option Rat} (hx : okO x) (hy : okO y) : gP (oD x, oD y) := ⟨x, y, hx, hy, rfl⟩
theorem gP_ok {p : DP} (h : okPt p = true) : gP p := by
  obtain ⟨p1, p2⟩ := Bool.and_eq_true_iff.1 (show (okR p.1 && okR p.2) = true from h)
  exact ⟨rdO p.1, rdO p.2, okO_rdO _, okO_rdO _, by rw [okR_oD p1, okR_oD p2]⟩
/-- The square of a distance. -/
noncomputable def sqD (p q : DP) : Option Rat := addO (mulO (subO (rdO p.1) (rdO q.1)) (subO (rdO p.1) (rdO q.1))) (mulO (subO (rdO p.2) (rdO q.2)) (subO (rdO p.2) (rdO q.2)))
theorem small_ngi {q : Rat} : small (-q) ↔ small q := by unfold small; rw [Rat.neg_num, Rat.neg_den, Int.natAbs_neg]
theorem capR_neg (q : Rat) : capR (-q) = negO (capR q) := by
  by_cases h : small q
  · rw [capR_s h, capR_s (small_ngi.2 h)]; rfl
  · rw [capR_n h, capR_n (fun h' => h (small_ngi.1 h'))]; rfl
theorem subO_swap (x y : Option Rat) : subO y x = negO (subO x y) := by
  cases x with
  | none => cases y <;> rfl
  | some p =>
    cases y with
    | none => rfl
    | some q =>
      show capR (q + -p) = negO (capR (p + -q))
      rw [← capR_neg]
      congr 1
      rw [Rat.neg_add, Rat.neg_neg, Rat.add_comm]
theorem mulO_nn (x y : Option Rat) : mulO (negO x) (negO y) = mulO x y := by
  cases x with
  | none => rfl
  | some p =>
    cases y with
    | none => rfl
    | some q =>
      show capR (-p * -q) = capR (p * q)
      rw [Rat.neg_mul, Rat.mul_neg, Rat.neg_neg]
theorem mulO_comm (x y : Option Rat) : mulO x y = mulO y x := by
  cases x <;> cases y <;> first | rfl | (show capR _ = capR _; rw [Rat.mul_comm])
theorem sqD_comm (p q : DP) : sqD p q = sqD q p := by
  unfold sqD
  rw [subO_swap (rdO q.1) (rdO p.1), subO_swap (rdO q.2) (rdO p.2), mulO_nn, mulO_nn]
theorem okO_sqD (p q : DP) : okO (sqD p q) := okO_add _ _
theorem squareDistance_fn (p q : DP) (hp : gP p) (hq : gP q) : Fn Tryz.prog 225 [⟨tPoint, p⟩, ⟨tPoint, q⟩] true [⟨tRat, oD (sqD p q)⟩] := by
  have c1 := ratSub_fn (rdO p.1) (rdO q.1) (okO_rdO _) (okO_rdO _)
  have c2 := ratSub_fn (rdO p.2) (rdO q.2) (okO_rdO _) (okO_rdO _)
  rw [gP_1 hp, gP_1 hq] at c1
  rw [gP_2 hp, gP_2 hq] at c2
  have c3 := ratMul_fn _ _ (okO_sub (rdO p.1) (rdO q.1)) (okO_sub (rdO p.1) (rdO q.1))
  have c4 := ratMul_fn _ _ (okO_sub (rdO p.2) (rdO q.2)) (okO_sub (rdO p.2) (rdO q.2))
  have c5 := ratAdd_fn _ _ (okO_mul (subO (rdO p.1) (rdO q.1)) (subO (rdO p.1) (rdO q.1))) (okO_mul (subO (rdO p.2) (rdO q.2)) (subO (rdO p.2) (rdO q.2)))
  unfold sqD
  refine fn_enter tabOK mixes Tryz.func225 rfl rfl _ Tryz.ntmps225 _ Tryz.results225 (by simp) fun hwf => ?_
  try simp (maxSteps := 9999999) only [go_sem]
  repeat refine And.intro (by first|omega|(constructor<;>omega)|kernel_rfl) ?_
  refine CallW.mk (c1) ?_
  try simp (maxSteps := 9999999) only [go_sem]
  repeat refine And.intro (by first|omega|(constructor<;>omega)|kernel_rfl) ?_
  refine CallW.mk (c2) ?_
  try simp (maxSteps := 9999999) only [go_sem]
  repeat refine And.intro (by first|omega|(constructor<;>omega)|kernel_rfl) ?_
  refine CallW.mk (c3) ?_
  try simp (maxSteps := 9999999) only [go_sem]
  repeat refine And.intro (by first|omega|(constructor<;>omega)|kernel_rfl) ?_
  refine CallW.mk (c4) ?_
  try simp (maxSteps := 9999999) only [go_sem]
  repeat refine And.intro (by first|omega|(constructor<;>omega)|kernel_rfl) ?_
  refine CallW.mk (c5) ?_
  try simp (maxSteps := 9999999) only [go_sem]
  all_goals repeat refine And.intro (by first|omega|(constructor<;>omega)|kernel_rfl) ?_
  all_goals first | kernel_rfl | omega | rfl
theorem SquareDistanceS_fn (p q : DP) : Fn Tryz.prog 183 [⟨tPoint, p⟩, ⟨tPoint, q⟩] true [⟨tRat, oD (sqD p q)⟩] := by
  have c1 := specRatSub_fn q.1 p.1
  have c2 := specRatSub_fn q.2 p.2
  have c3 := specRatMul_fn (oD (subO (rdO q.1) (rdO p.1))) (oD (subO (rdO q.1) (rdO p.1)))
  have c4 := specRatMul_fn (oD (subO (rdO q.2) (rdO p.2))) (oD (subO (rdO q.2) (rdO p.2)))
  rw [rdO_oD (okO_sub _ _)] at c3 c4
  have c5 := specRatAdd_fn (oD (mulO (subO (rdO q.1) (rdO p.1)) (subO (rdO q.1) (rdO p.1)))) (oD (mulO (subO (rdO q.2) (rdO p.2)) (subO (rdO q.2) (rdO p.2))))
  rw [rdO_oD (okO_mul _ _), rdO_oD (okO_mul _ _)] at c5
  rw [sqD_comm]
  unfold sqD
  refine fn_enter tabOK mixes Tryz.func183 rfl rfl _ Tryz.ntmps183 _ Tryz.results183 (by simp) fun hwf => ?_
  try simp (maxSteps := 9999999) only [go_sem]
  repeat refine And.intro (by first|omega|(constructor<;>omega)|kernel_rfl) ?_
  refine CallW.mk (c1) ?_
  try simp (maxSteps := 9999999) only [go_sem]
  repeat refine And.intro (by first|omega|(constructor<;>omega)|kernel_rfl) ?_
  refine CallW.mk (c2) ?_
  try simp (maxSteps := 9999999) only [go_sem]
  repeat refine And.intro (by first|omega|(constructor<;>omega)|kernel_rfl) ?_
  refine CallW.mk (c3) ?_
  try simp (maxSteps := 9999999) only [go_sem]
  repeat refine And.intro (by first|omega|(constructor<;>omega)|kernel_rfl) ?_
  refine CallW.mk (c4) ?_
  try simp (maxSteps := 9999999) only [go_sem]
  repeat refine And.intro (by first|omega|(constructor<;>omega)|kernel_rfl) ?_
  refine CallW.mk (c5) ?_
  try simp (maxSteps := 9999999) only [go_sem]
  all_goals repeat refine And.intro (by first|omega|(constructor<;>omega)|kernel_rfl) ?_
  all_goals first | kernel_rfl | omega | rfl
noncomputable def inD (a b c : DP) : Option Rat := addO (mulO (subO (rdO b.1) (rdO a.1)) (subO (rdO c.1) (rdO a.1))) (mulO (subO (rdO b.2) (rdO a.2)) (subO (rdO c.2) (rdO a.2)))
theorem inD_comm (a b c : DP) : inD a b c = inD a c b := by
  unfold inD
  rw [mulO_comm (subO (rdO b.1) (rdO a.1)), mulO_comm (subO (rdO b.2) (rdO a.2))]
theorem okO_inD (a b c : DP) : okO (inD a b c) := okO_add _ _
theorem inner_fn (a b c : DP) (ha : gP a) (hb : gP b) (hc : gP c) : Fn Tryz.prog 227 [⟨tPoint, a⟩, ⟨tPoint, b⟩, ⟨tPoint, c⟩] true [⟨tRat, oD (inD a b c)⟩] := by
  have c1 := ratSub_fn (rdO b.1) (rdO a.1) (okO_rdO _) (okO_rdO _)
  have c2 := ratSub_fn (rdO c.1) (rdO a.1) (okO_rdO _) (okO_rdO _)
  have c3 := ratSub_fn (rdO b.2) (rdO a.2) (okO_rdO _) (okO_rdO _)
  have c4 := ratSub_fn (rdO c.2) (rdO a.2) (okO_rdO _) (okO_rdO _)
  rw [gP_1 hb, gP_1 ha] at c1
  rw [gP_1 hc, gP_1 ha] at c2
  rw [gP_2 hb, gP_2 ha] at c3
  rw [gP_2 hc, gP_2 ha] at c4
  have c5 := ratMul_fn _ _ (okO_sub (rdO b.1) (rdO a.1)) (okO_sub (rdO c.1) (rdO a.1))
  have c6 := ratMul_fn _ _ (okO_sub (rdO b.2) (rdO a.2)) (okO_sub (rdO c.2) (rdO a.2))
  have c7 := ratAdd_fn _ _ (okO_mul (subO (rdO b.1) (rdO a.1)) (subO (rdO c.1) (rdO a.1))) (okO_mul (subO (rdO b.2) (rdO a.2)) (subO (rdO c.2) (rdO a.2)))
  unfold inD
  refine fn_enter tabOK mixes Tryz.func227 rfl rfl _ Tryz.ntmps227 _ Tryz.results227 (by simp) fun hwf => ?_
  try simp (maxSteps := 9999999) only [go_sem]
  repeat refine And.intro (by first|omega|(constructor<;>omega)|kernel_rfl) ?_
  refine CallW.mk (c1) ?_
  try simp (maxSteps := 9999999) only [go_sem]
  repeat refine And.intro (by first|omega|(constructor<;>omega)|kernel_rfl) ?_
  refine CallW.mk (c2) ?_
  try simp (maxSteps := 9999999) only [go_sem]
  repeat refine And.intro (by first|omega|(constructor<;>omega)|kernel_rfl) ?_
  refine CallW.mk (c5) ?_
  try simp (maxSteps := 9999999) only [go_sem]
  repeat refine And.intro (by first|omega|(constructor<;>omega)|kernel_rfl) ?_
  refine CallW.mk (c3) ?_
  try simp (maxSteps := 9999999) only [go_sem]
  repeat refine And.intro (by first|omega|(constructor<;>omega)|kernel_rfl) ?_
  refine CallW.mk (c4) ?_
  try simp (maxSteps := 9999999) only [go_sem]
  repeat refine And.intro (by first|omega|(constructor<;>omega)|kernel_rfl) ?_
  refine CallW.mk (c6) ?_
  try simp (maxSteps := 9999999) only [go_sem]
  repeat refine And.intro (by first|omega|(constructor<;>omega)|kernel_rfl) ?_
  refine CallW.mk (c7) ?_
  try simp (maxSteps := 9999999) only [go_sem]
  all_goals repeat refine And.intro (by first|omega|(constructor<;>omega)|kernel_rfl) ?_
  all_goals first | kernel_rfl | omega | rfl
theorem InnerProductS_fn (a b c : DP) : Fn Tryz.prog 186 [⟨tPoint, a⟩, ⟨tPoint, b⟩, ⟨tPoint, c⟩] true [⟨tRat, oD (inD a b c)⟩] := by
  have c1 := specRatSub_fn b.1 a.1
  have c2 := specRatSub_fn c.1 a.1
  have c3 := specRatSub_fn b.2 a.2
  have c4 := specRatSub_fn c.2 a.2
  have c5 := specRatMul_fn (oD (subO (rdO b.1) (rdO a.1))) (oD (subO (rdO c.1) (rdO a.1)))
  have c6 := specRatMul_fn (oD (subO (rdO b.2) (rdO a.2))) (oD (subO (rdO c.2) (rdO a.2)))
  rw [rdO_oD (okO_sub _ _), rdO_oD (okO_sub _ _)] at c5 c6
  have c7 := specRatAdd_fn (oD (mulO (subO (rdO b.1) (rdO a.1)) (subO (rdO c.1) (rdO a.1)))) (oD (mulO (subO (rdO b.2) (rdO a.2)) (subO (rdO c.2) (rdO a.2))))
  rw [rdO_oD (okO_mul _ _), rdO_oD (okO_mul _ _)] at c7
  unfold inD
  refine fn_enter tabOK mixes Tryz.func186 rfl rfl _ Tryz.ntmps186 _ Tryz.results186 (by simp) fun hwf => ?_
  try simp (maxSteps := 9999999) only [go_sem]
  repeat refine And.intro (by first|omega|(constructor<;>omega)|kernel_rfl) ?_
  refine CallW.mk (c1) ?_
  try simp (maxSteps := 9999999) only [go_sem]
  repeat refine And.intro (by first|omega|(constructor<;>omega)|kernel_rfl) ?_
  refine CallW.mk (c2) ?_
  try simp (maxSteps := 9999999) only [go_sem]
  repeat refine And.intro (by first|omega|(constructor<;>omega)|kernel_rfl) ?_
  refine CallW.mk (c5) ?_
  try simp (maxSteps := 9999999) only [go_sem]
  repeat refine And.intro (by first|omega|(constructor<;>omega)|kernel_rfl) ?_
  refine CallW.mk (c3) ?_
  try simp (maxSteps := 9999999) only [go_sem]
  repeat refine And.intro (by first|omega|(constructor<;>omega)|kernel_rfl) ?_
  refine CallW.mk (c4) ?_
  try simp (maxSteps := 9999999) only [go_sem]
  repeat refine And.intro (by first|omega|(constructor<;>omega)|kernel_rfl) ?_
  refine CallW.mk (c6) ?_
  try simp (maxSteps := 9999999) only [go_sem]
  repeat refine And.intro (by first|omega|(constructor<;>omega)|kernel_rfl) ?_
  refine CallW.mk (c7) ?_
  try simp (maxSteps := 9999999) only [go_sem]
  all_goals repeat refine And.intro (by first|omega|(constructor<;>omega)|kernel_rfl) ?_
  all_goals first | kernel_rfl | omega | rfl
end Go.Proofs.YtghckbohaghgkaaGreat.DW

/-
  Coordinates that are at most a size: the closure that holds the size, and the whole.
-/
namespace Go.Proofs.YtghckbohaghgkaaGreat
open Go.RowKit Go.Lib
def inr (n lo hi : Int) : Bool := decide (lo ≤ n) && decide (n ≤ hi)
set_option maxRecDepth 100000 in
set_option maxHeartbeats 400000 in
theorem within_eq (n lo hi : Int) (w : World) :
    Calls Tryz.prog 48 #[.int .i64 n, .int .i64 lo, .int .i64 hi] w (fun e w' => e = .returned (.bool (inr n lo hi)) ∧ w' = w) := by
  by_cases h1 : lo ≤ n
  · by_cases h2 : n ≤ hi
    · go_enter Tryz.func48, Tryz.ntmps48
      go_wp2
      go_ret
      exact ⟨by simp [inr, h1, h2], rfl⟩
    · go_enter Tryz.func48, Tryz.ntmps48
      go_wp2
      go_ret
      exact ⟨by simp [inr, h1, h2], rfl⟩
  · go_enter Tryz.func48, Tryz.ntmps48
    go_wp2
    go_ret
    exact ⟨by simp [inr]; omega, rfl⟩
def encV (x : Int × Int) : List Value := [.int .i64 x.1, .int .i64 x.2]
def PredV (g : Nat) (lb : Array Value) (p : Int × Int → Bool) (w : World) : Prop :=
  ∀ (W : World) (x : Int × Int), Below w.heap.size w W → Calls Tryz.prog g (#[.agg (encV x).toArray] ++ lb) W fun e w' => e = .returned (.bool (p x)) ∧ Below w.heap.size w w'
set_option maxRecDepth 100000 in
set_option maxHeartbeats 400000 in
theorem arIn_pred (k : Int) (hk : 0 ≤ k ∧ k ≤ 1000000) (B : Nat) (w : World) (hB : B < w.heap.size) (hcell : w.cell? ⟨B, 0, none⟩ = some (.int .i64 k)) :
    PredV 179 #[.pointer (some ⟨B, 0, none⟩)] (fun x => !DW.inB k x) w := fun W x hb => by
  have hc : W.cell? ⟨B, 0, none⟩ = some (.int .i64 k) := (hb.cell (p := ⟨B, 0, none⟩) hB).trans hcell
  have hBW : B < W.heap.size := Nat.lt_of_lt_of_le hB hb.size
  have hne : B ≠ W.heap.size := by omega
  have hbl : Below w.heap.size w (W.alloc (.cells #[.int .i64 x.1, .int .i64 x.2] 113)) := hb.alloc hb.size _
  have e1 : DW.inB k x = (inr x.1 (-k) k && inr x.2 (-k) k) := by unfold DW.inB inr; rw [Bool.decide_and, Bool.decide_and]
  show Calls Tryz.prog 179 #[.agg #[.int .i64 x.1, .int .i64 x.2], .pointer (some ⟨B, 0, none⟩)] W fun e w' => e = .returned (.bool (!DW.inB k x)) ∧ Below w.heap.size w w'
  rw [e1]
  cases h1 : inr x.1 (-k) k
  · go_enter Tryz.func179, Tryz.ntmps179
    go_wp2_with fail
    refine (within_eq _ _ _ _).mono ?_
    rintro e w1 ⟨rfl, rfl⟩
    rw [h1]
    go_wp2
    go_ret
    exact ⟨rfl, hbl⟩
  · go_enter Tryz.func179, Tryz.ntmps179
    go_wp2_with fail
    refine (within_eq _ _ _ _).mono ?_
    rintro e w1 ⟨rfl, rfl⟩
    rw [h1]
    go_wp2_with fail
    refine (within_eq _ _ _ _).mono ?_
    rintro e w1 ⟨rfl, rfl⟩
    go_wp2
    go_ret
    exact ⟨by simp, hbl⟩
set_option maxRecDepth 100000 in
set_option maxHeartbeats 2000000 in
theorem indexFuncV (g : Nat) (lb : Array Value) (p : Int × Int → Bool) (eg : ∀ args w, (callFunc g args).run Tryz.prog w = .ok (.enter g args) w) (b off c : Nat) (l : List (Int × Int)) (w : World) (hp : PredV g lb p w) (hbig : l.length ≤ 9223372036854775807) (hb : b < w.heap.size)
    (hc : ∀ j, j < l.length → ∀ i v, (encV l[j]!)[i]? = some v → w.cell? ⟨b, off + j * 2 + i, none⟩ = some v) :
    Calls Tryz.prog 211 #[.slice (some ⟨b, off, none⟩) l.length c, .func (.func g) #[] lb] w fun e w' => e = .returned (.int .i64 (DW.ixf (t := DW.tVec) p l)) ∧ Below w.heap.size w w' := by
  have hrow : ∀ (W : World), Below w.heap.size w W → ∀ j, j < l.length → W.cell? ⟨b, off + j * 2, none⟩ = some (.int .i64 l[j]!.1) ∧ W.cell? ⟨b, off + j * 2 + 1, none⟩ = some (.int .i64 l[j]!.2) := fun W hW j hj =>
    ⟨(hW.cell (p := ⟨b, off + j * 2, none⟩) hb).trans (hc j hj 0 _ rfl), (hW.cell (p := ⟨b, off + j * 2 + 1, none⟩) hb).trans (hc j hj 1 _ rfl)⟩
  clear hc
  obtain ⟨n, hn⟩ : ∃ n, n = l.length := ⟨_, rfl⟩
  have HN : Aside (n = l.length) := hn
  rw [← hn] at hrow hbig ⊢
  clear hn
  go_enter Tryz.func211, Tryz.ntmps211
  go_wp2
  go_loopg [5, 8] n (fun gg _ s8 wr => ∃ kk : Nat, kk ≤ n ∧ n - kk ≤ gg ∧ s8 = .int .i64 kk ∧ Aside (Below w.heap.size w wr) ∧ Aside (∀ j, j < kk → p l[j]! = false))
  case atStart => exact ⟨0, Nat.zero_le _, by omega, rfl, Below.refl _ w, fun j hj => absurd hj (Nat.not_lt_zero _)⟩
  case round =>
    obtain ⟨kk, hkk, hg, rfl, BW, A⟩ := hrel
    by_cases hlt : kk < n
    · have hltz : (kk : Int) < (n : Int) := by omega
      obtain ⟨l2, l3⟩ := hrow wr BW.out kk (by have := HN.out; omega)
      have hcall : Calls Tryz.prog g (#[.agg #[.int .i64 l[kk]!.1, .int .i64 l[kk]!.2]] ++ lb) wr fun e w' => e = .returned (.bool (p l[kk]!)) ∧ Below w.heap.size w w' := hp wr l[kk]! BW.out
      clear hrow hp
      generalize hy : l[kk]! = y at l2 l3 hcall
      have B : Aside (l[kk]! = y) := hy
      clear hy
      cases hq : p y with
      | true =>
        rw [hq] at hcall
        go_wp2_with fail
        refine hcall.mono ?_
        rintro e w' ⟨rfl, hb'⟩
        go_wp2
        go_ret
        refine ⟨?_, hb'⟩
        have hkl : kk < l.length := by have := HN.out; omega
        rw [DW.ixf_at hkl (by rw [DW.nth_lt hkl, ← getElem!_pos l kk hkl, B.out]; exact hq) (fun j hj => by rw [DW.nth_lt (by omega), ← getElem!_pos l j (by omega)]; exact A.out j hj)]
        rfl
      | false =>
        rw [hq] at hcall
        go_wp2_with fail
        refine hcall.mono ?_
        rintro e w' ⟨rfl, hb'⟩
        go_wp2
        go_roundg (n - (kk + 1))
        case measure => omega
        case rel =>
          refine ⟨kk + 1, by omega, by omega, by go_num, hb', (show Aside _ from fun j hj => ?_)⟩
          by_cases e : j = kk
          · subst e
            rw [B.out]; exact hq
          · exact A.out j (by omega)
    · have hltz : ¬ (kk : Int) < (n : Int) := by omega
      have : kk = n := by omega
      subst this
      go_wp2
      go_ret
      refine ⟨?_, BW.out⟩
      have hkl := HN.out
      rw [DW.ixf_none fun j hj => by rw [DW.nth_lt hj, ← getElem!_pos l j hj]; exact A.out j (by omega)]
      rfl
end Go.Proofs.YtghckbohaghgkaaGreat
namespace Go.Proofs.YtghckbohaghgkaaGreat.DW
open Go.RowKit Go.Lib
set_option maxRecDepth 100000 in
set_option maxHeartbeats 1000000 in
theorem areIn_fn (k : Int) (hk : 0 ≤ k ∧ k ≤ 1000000) (l : List DV) (hl : l ≠ []) : Fn Tryz.prog 134 [⟨.int, k⟩, ⟨.slice tVec, l⟩] false [⟨.bool, !(l.any fun v => !inB k v)⟩] := by
  refine ⟨enters Tryz.func134 rfl rfl, fun w vs S ha => ?_⟩
  match vs, ha with
  | [v0, v1], ⟨⟨f0, h0, _⟩, ⟨f1, ⟨cs, hpk, hr⟩, _⟩, _⟩ =>
    obtain rfl := drep_int h0
    obtain rfl := pk_one rfl hpk
    obtain ⟨ad, c, hcs, hc1, hc2, ⟨hnil, _⟩ | ⟨b, off, fps, _, rfl, _, hE⟩⟩ := hr
    · exact absurd hnil hl
    injection hcs with hcs _
    subst hcs
    have hcell : ∀ j, j < l.length → ∀ i v, (encV l[j]!)[i]? = some v → w.cell? ⟨b, off + j * 2 + i, none⟩ = some v := by
      intro j hj i v hv
      obtain ⟨f, cs, _, hrp, hc⟩ := hE.2 j _ (List.getElem?_eq_getElem hj)
      obtain ⟨c1, c2, f1, f2, rfl, _, g1, g2⟩ := hrp
      rw [getElem!_pos l j hj] at hv
      have e1 : c1 = [.int .i64 l[j].1] := g1.1
      have e2 : c2 = [.int .i64 l[j].2] := g2.1
      rw [e1, e2] at hc
      exact hc i v hv
    have hb : b < w.heap.size := by
      have h0 : 0 < l.length := List.length_pos_iff.2 hl
      exact cell_lt (hcell 0 h0 0 _ rfl)
    have eg : ∀ args w, (callFunc 179 args).run Tryz.prog w = .ok (.enter 179 args) w := enters Tryz.func179 rfl rfl
    have hix := indexFuncV 179 #[.pointer (some ⟨w.heap.size, 0, none⟩)] (fun x => !inB k x) eg b off c l (w.alloc (.cells #[.int .i64 k] 3))
      (arIn_pred k hk w.heap.size _ (by simp) (by simp)) (Nat.le_trans hc1 (Nat.le_trans hc2 (by decide))) (by simp; omega) (fun j hj i v hi => Lib.cell?_alloc_some _ (hcell j hj i v hi))
    have hcon : Calls Tryz.prog 168 #[.slice (some ⟨b, off, none⟩) l.length c, .func (.func 179) #[] #[.pointer (some ⟨w.heap.size, 0, none⟩)]] (w.alloc (.cells #[.int .i64 k] 3)) fun e w' => e = .returned (.bool (l.any fun x => !inB k x)) ∧ Below (w.alloc (.cells #[.int .i64 k] 3)).heap.size (w.alloc (.cells #[.int .i64 k] 3)) w' := by
      rw [show (l.any fun x => !inB k x) = decide (0 ≤ ixf (t := tVec) (fun x => !inB k x) l) from (@ixf_any tVec (fun x => !inB k x) l).symm]
      generalize ixf (t := tVec) (fun x => !inB k x) l = r at hix ⊢
      generalize l.length = n at hix ⊢
      generalize w.alloc (.cells #[.int .i64 k] 3) = W at hix ⊢
      go_enter Tryz.func168, Tryz.ntmps168
      go_wp2_with fail
      refine hix.mono ?_
      rintro e w' ⟨rfl, hb'⟩
      go_wp2
      go_ret
      exact ⟨rfl, hb'⟩
    clear hcell hE
    generalize (l.any fun x => !inB k x) = r at hcon ⊢
    have key : Calls Tryz.prog 134 #[.int .i64 k, .slice (some ⟨b, off, none⟩) l.length c] w (fun e w' => e = .returned (.bool (!r)) ∧ Below w.heap.size w w') := by
      generalize l.length = n at hcon ⊢
      go_enter Tryz.func134, Tryz.ntmps134
      go_wp2_with fail
      refine hcon.mono ?_
      rintro e w' ⟨rfl, hb'⟩
      go_wp2
      go_ret
      exact ⟨rfl, ((Below.refl _ w).alloc (Nat.le_refl _) _).trans (hb'.mono (by simp))⟩
    exact key.mono fun e w' h => ⟨h.2, _, h.1, dres_bool⟩
end Go.Proofs.YtghckbohaghgkaaGreat.DW

/-
  Small polygons.
-/
namespace Go.Proofs.YtghckbohaghgkaaGreat.DW
open Go.RowKit
def allIn (k : Int) (l : List DV) : Bool := !(l.any fun v => !inB k v)
theorem allIn_f {k : Int} {l : List DV} {i : Nat} (hi : i < l.length) (h : inB k (nth (t := tVec) l i) = false) : allIn k l = false := by
  unfold allIn
  rw [Bool.not_eq_false', List.any_eq_true]
  exact ⟨_, nth_mem hi, by rw [h]; rfl⟩
theorem allIn_t {k : Int} {l : List DV} (h : ∀ i, i < l.length → inB k (nth (t := tVec) l i) = true) : allIn k l = true := by
  unfold allIn
  rw [Bool.not_eq_true', List.any_eq_false]
  intro v hv
  obtain ⟨i, hi, rfl⟩ := List.getElem_of_mem hv
  have := h i hi
  rw [nth_lt hi] at this
  rw [this]; decide
theorem l10Inside_fn (l : List DV) (k : Int) (hk : 0 ≤ k ∧ k ≤ 1000000) : Fn Tryz.prog 131 [⟨.slice tVec, l⟩, ⟨.int, k⟩] false [⟨.bool, allIn k l⟩] := by
  refine fn_enter tabOK mixes Tryz.func131 rfl rfl _ Tryz.ntmps131 _ Tryz.results131 (by simp) fun hwf => ?_
  have hl : l.length ≤ 9223372036854775807 := (hwf ⟨.slice tVec, l⟩ (by simp)).1
  try simp (maxSteps := 9999999) only [go_sem]
  refine LoopG.intro _ _ _ (fun i : Nat => ⟨[(1, .sc (.int .i64 k)), (7, .sl tVec l), (8, .sc (.int .i64 l.length)), (9, .sc (.int .i64 i))], []⟩) (fun i => ∀ j, j < i → j < l.length → inB k (nth (t := tVec) l j) = true) (fun i => l.length - i) 0 ?_ (fun j h => absurd h (Nat.not_lt_zero _)) ?_
  · refine Wk.mk [] ?_
    try simp (maxSteps := 9999999) only [go_sem]
    try (and_intros <;> first | rfl | omega | exact ⟨_, rfl⟩)
  · rintro i hi
    try simp (maxSteps := 9999999) only [go_sem]
    refine CondW_dec (fun hA => ?_) (fun hA => ?_)
    · have c1 := l01In_fn (nth (t := tVec) l i).1 (-k) k
      have c2 := l01In_fn (nth (t := tVec) l i).2 (-k) k
      cases e1 : decide (-k ≤ (nth (t := tVec) l i).1 ∧ (nth (t := tVec) l i).1 ≤ k) <;> rw [e1] at c1
      · have e0 : inB k (nth (t := tVec) l i) = false := by unfold inB; rw [e1]; rfl
        rw [allIn_f (by omega) e0]
        try simp (maxSteps := 9999999) only [go_sem]
        repeat refine And.intro (by first|omega|(constructor<;>omega)|kernel_rfl) ?_
        refine CallW.mk (c1) ?_
        try simp (maxSteps := 9999999) only [go_sem]
      · cases e2 : decide (-k ≤ (nth (t := tVec) l i).2 ∧ (nth (t := tVec) l i).2 ≤ k) <;> rw [e2] at c2
        · have e0 : inB k (nth (t := tVec) l i) = false := by unfold inB; rw [e1, e2]; rfl
          rw [allIn_f (by omega) e0]
          try simp (maxSteps := 9999999) only [go_sem]
          repeat refine And.intro (by first|omega|(constructor<;>omega)|kernel_rfl) ?_
          refine CallW.mk (c1) ?_
          try simp (maxSteps := 9999999) only [go_sem]
          repeat refine And.intro (by first|omega|(constructor<;>omega)|kernel_rfl) ?_
          refine CallW.mk (c2) ?_
          try simp (maxSteps := 9999999) only [go_sem]
        · have e0 : inB k (nth (t := tVec) l i) = true := by unfold inB; rw [e1, e2]; rfl
          try simp (maxSteps := 9999999) only [go_sem]
          repeat refine And.intro (by first|omega|(constructor<;>omega)|kernel_rfl) ?_
          refine CallW.mk (c1) ?_
          try simp (maxSteps := 9999999) only [go_sem]
          repeat refine And.intro (by first|omega|(constructor<;>omega)|kernel_rfl) ?_
          refine CallW.mk (c2) ?_
          try simp (maxSteps := 9999999) only [go_sem]
          repeat refine And.intro (by first|omega|(constructor<;>omega)|kernel_rfl) ?_
          refine LoopK.mk (i + 1) ?_ (fun j h1 h2 => ?_) (by omega)
          · refine Wk.mk [] ?_
            try simp (maxSteps := 9999999) only [go_sem]
            try (and_intros <;> first | rfl | omega | exact ⟨_, rfl⟩)
          · by_cases h3 : j < i
            · exact hi j h3 h2
            · rw [show j = i by omega]; exact e0
    · rw [allIn_t fun j hj => hi j (by omega) hj]
      try simp (maxSteps := 9999999) only [go_sem]
/-- A polygon of at most five corners with coordinates of at most k. -/
noncomputable def smB (l : List DV) (k : Int) : Bool := decide ((l.length : Int) ≤ 5) && (polyB l && allIn k l)
theorem polyB_ne {l : List DV} (h : polyB l = true) : l ≠ [] := by
  rintro rfl
  have := (@of_decide_eq_true _ (Classical.propDecidable _) h : polyP []).1
  simp at this
theorem isSmall_fn (l : List DV) (k : Int) (hk : 0 ≤ k ∧ k ≤ 1000000) : Fn Tryz.prog 95 [⟨.slice tVec, l⟩, ⟨.int, k⟩] false [⟨.bool, smB l k⟩] := by
  have c1 := implIsPolygon_fn l
  unfold smB
  cases h1 : decide ((l.length : Int) ≤ 5)
  · refine fn_enter tabOK mixes Tryz.func95 rfl rfl _ Tryz.ntmps95 _ Tryz.results95 (by simp) fun hwf => ?_
    try simp (maxSteps := 9999999) only [go_sem, h1]
  · cases h2 : polyB l <;> rw [h2] at c1
    · refine fn_enter tabOK mixes Tryz.func95 rfl rfl _ Tryz.ntmps95 _ Tryz.results95 (by simp) fun hwf => ?_
      try simp (maxSteps := 9999999) only [go_sem, h1]
      repeat refine And.intro (by first|omega|(constructor<;>omega)|kernel_rfl) ?_
      refine CallW.mk (c1) ?_
      try simp (maxSteps := 9999999) only [go_sem]
    · have c2 : Fn Tryz.prog 134 [⟨.int, k⟩, ⟨.slice tVec, l⟩] false [⟨.bool, allIn k l⟩] := areIn_fn k hk l (polyB_ne h2)
      refine fn_enter tabOK mixes Tryz.func95 rfl rfl _ Tryz.ntmps95 _ Tryz.results95 (by simp) fun hwf => ?_
      try simp (maxSteps := 9999999) only [go_sem, h1]
      repeat refine And.intro (by first|omega|(constructor<;>omega)|kernel_rfl) ?_
      refine CallW.mk (c1) ?_
      try simp (maxSteps := 9999999) only [go_sem]
      repeat refine And.intro (by first|omega|(constructor<;>omega)|kernel_rfl) ?_
      refine CallW.mk (c2) ?_
      try simp (maxSteps := 9999999) only [go_sem]
theorem l10Shape_fn (l : List DV) (k : Int) (hk : 0 ≤ k ∧ k ≤ 1000000) : Fn Tryz.prog 91 [⟨.slice tVec, l⟩, ⟨.int, k⟩] false [⟨.bool, smB l k⟩] := by
  have c1 := specIsPolygon_fn l
  have c2 := l10Inside_fn l k hk
  unfold smB
  cases h2 : polyB l <;> rw [h2] at c1
  · rw [Bool.false_and, Bool.and_false]
    refine fn_enter tabOK mixes Tryz.func91 rfl rfl _ Tryz.ntmps91 _ Tryz.results91 (by simp) fun hwf => ?_
    try simp (maxSteps := 9999999) only [go_sem]
    repeat refine And.intro (by first|omega|(constructor<;>omega)|kernel_rfl) ?_
    refine CallW.mk (c1) ?_
    try simp (maxSteps := 9999999) only [go_sem]
  · cases h1 : decide ((l.length : Int) ≤ 5)
    · refine fn_enter tabOK mixes Tryz.func91 rfl rfl _ Tryz.ntmps91 _ Tryz.results91 (by simp) fun hwf => ?_
      try simp (maxSteps := 9999999) only [go_sem]
      repeat refine And.intro (by first|omega|(constructor<;>omega)|kernel_rfl) ?_
      refine CallW.mk (c1) ?_
      try simp (maxSteps := 9999999) only [go_sem]
      try simp (maxSteps := 9999999) only [go_sem, h1]
    · refine fn_enter tabOK mixes Tryz.func91 rfl rfl _ Tryz.ntmps91 _ Tryz.results91 (by simp) fun hwf => ?_
      try simp (maxSteps := 9999999) only [go_sem]
      repeat refine And.intro (by first|omega|(constructor<;>omega)|kernel_rfl) ?_
      refine CallW.mk (c1) ?_
      try simp (maxSteps := 9999999) only [go_sem]
      try simp (maxSteps := 9999999) only [go_sem, h1]
      repeat refine And.intro (by first|omega|(constructor<;>omega)|kernel_rfl) ?_
      refine CallW.mk (c2) ?_
      try simp (maxSteps := 9999999) only [go_sem]
end Go.Proofs.YtghckbohaghgkaaGreat.DW

/-
  Lists of numbers, fractions and points are compared.
-/
namespace Go.Proofs.YtghckbohaghgkaaGreat
open Go.RowKit

set_option maxHeartbeats 400000 in
theorem l04List_any (va vb : Value) (a b : DIntS) (w : World) (ha : Has RIntS w [va] a) (hb : Has RIntS w [vb] b) :
    Calls Tryz.prog 178 #[va, vb] w (Post (EqPost a b w)) := by
  obtain ⟨aa, ca, rfl, la, ma, ga⟩ := ha.elems
  obtain ⟨ab, cb, rfl, lb, mb, gb⟩ := hb.elems
  unfold maxLen at ma mb
  have HA := Lib.hid ga; have HB := Lib.hid gb; clear ga gb ha hb
  by_cases hl : a.length = b.length
  rotate_left
  · have hn : ((a.length : Int) != (b.length : Int)) = true := by simp; omega
    have HL := Lib.hid hl; clear hl
    go_enter Tryz.func178, Tryz.ntmps178
    go_wp2
    go_ret
    exact ⟨_, rfl, congrArg Value.bool (eqb_false fun h => HL.out (by rw [h])).symm, Below.refl _ _⟩
  have hn : ((a.length : Int) != (b.length : Int)) = false := by simp; omega
  have HL := Lib.hid hl; clear hl
  go_enter Tryz.func178, Tryz.ntmps178
  go_wp2
  go_loopw [13] (fun i wr => ∃ k : Nat, k ≤ a.length ∧ i = .int .i64 k ∧ a.take k = b.take k ∧ Below w.heap.size w wr) (fun i _ => a.length - (intOf i).toNat)
  case atStart => exact ⟨0, Nat.zero_le _, rfl, rfl, Below.refl _ _⟩
  case round =>
    obtain ⟨k, hk, rfl, htk, hbw⟩ := hrel
    have HT := Lib.hid htk; clear htk
    by_cases hlt : k < a.length
    rotate_left
    · go_wp2
      go_ret
      exact ⟨_, rfl, congrArg Value.bool (eqb_true (by have h1 := HT.out; have h2 := HL.out; rwa [List.take_of_length_le (by omega), List.take_of_length_le (by omega)] at h1)).symm, hbw⟩
    have hlt' : k < b.length := by have := HL.out; omega
    obtain ⟨b1, o1, cs1, rfl, hbl, hx, hcs⟩ := HA.out k hlt
    obtain ⟨b2, o2, cs2, rfl, hbl2, hy, hds⟩ := HB.out k hlt'
    obtain ⟨c0, rfl⟩ := list1 hx.len
    obtain ⟨d0, rfl⟩ := list1 hy.len
    obtain rfl := hx.int.1
    obtain rfl := hy.int.1
    have g0 : wr.cell? ⟨b1, o1 + k, none⟩ = some (.int .i64 a[k]) := (hbw.cell (p := ⟨b1, _, none⟩) hbl).trans (by simpa [Rp.int] using hcs 0 _ rfl)
    have e0 : wr.cell? ⟨b2, o2 + k, none⟩ = some (.int .i64 b[k]) := (hbw.cell (p := ⟨b2, _, none⟩) hbl2).trans (by simpa [Rp.int] using hds 0 _ rfl)
    clear hcs hds hx hy
    by_cases hab : a[k] = b[k]
    · have hn : (a[k] != b[k]) = false := by simp [hab]
      have HAB := Lib.hid hab; clear hab
      go_wp2
      go_quiet (fail)
      go_wp2
      go_roundw
      case rel => exact ⟨k + 1, by omega, by go_num, by rw [List.take_succ_eq_append_getElem hlt, List.take_succ_eq_append_getElem hlt', HT.out, HAB.out], hbw.drewN _⟩
      case measure => simp [intOf]; omega
    · have hn : (a[k] != b[k]) = true := by simp [hab]
      have HAB := Lib.hid hab; clear hab
      go_wp2
      go_quiet (fail)
      go_wp2
      go_ret
      exact ⟨_, rfl, congrArg Value.bool (eqb_false fun h => HAB.out (by subst h; rfl)).symm, hbw.drewN _⟩
set_option maxHeartbeats 400000 in
theorem slicesEqual_any (va vb : Value) (a b : DIntS) (w : World) (ha : Has RIntS w [va] a) (hb : Has RIntS w [vb] b) :
    Calls Tryz.prog 182 #[va, vb] w (Post (EqPost a b w)) := by
  obtain ⟨aa, ca, rfl, la, ma, ga⟩ := ha.elems
  obtain ⟨ab, cb, rfl, lb, mb, gb⟩ := hb.elems
  unfold maxLen at ma mb
  have HA := Lib.hid ga; have HB := Lib.hid gb; clear ga gb ha hb
  by_cases hl : a.length = b.length
  rotate_left
  · have hn : ((a.length : Int) != (b.length : Int)) = true := by simp; omega
    have HL := Lib.hid hl; clear hl
    go_enter Tryz.func182, Tryz.ntmps182
    go_wp2
    go_ret
    exact ⟨_, rfl, congrArg Value.bool (eqb_false fun h => HL.out (by rw [h])).symm, Below.refl _ _⟩
  have hn : ((a.length : Int) != (b.length : Int)) = false := by simp; omega
  have HL := Lib.hid hl; clear hl
  go_enter Tryz.func182, Tryz.ntmps182
  go_wp2
  go_loopw [13] (fun i wr => ∃ k : Nat, k ≤ a.length ∧ i = .int .i64 k ∧ a.take k = b.take k ∧ Below w.heap.size w wr) (fun i _ => a.length - (intOf i).toNat)
  case atStart => exact ⟨0, Nat.zero_le _, rfl, rfl, Below.refl _ _⟩
  case round =>
    obtain ⟨k, hk, rfl, htk, hbw⟩ := hrel
    have HT := Lib.hid htk; clear htk
    by_cases hlt : k < a.length
    rotate_left
    · go_wp2
      go_ret
      exact ⟨_, rfl, congrArg Value.bool (eqb_true (by have h1 := HT.out; have h2 := HL.out; rwa [List.take_of_length_le (by omega), List.take_of_length_le (by omega)] at h1)).symm, hbw⟩
    have hlt' : k < b.length := by have := HL.out; omega
    obtain ⟨b1, o1, cs1, rfl, hbl, hx, hcs⟩ := HA.out k hlt
    obtain ⟨b2, o2, cs2, rfl, hbl2, hy, hds⟩ := HB.out k hlt'
    obtain ⟨c0, rfl⟩ := list1 hx.len
    obtain ⟨d0, rfl⟩ := list1 hy.len
    obtain rfl := hx.int.1
    obtain rfl := hy.int.1
    have g0 : wr.cell? ⟨b1, o1 + k, none⟩ = some (.int .i64 a[k]) := (hbw.cell (p := ⟨b1, _, none⟩) hbl).trans (by simpa [Rp.int] using hcs 0 _ rfl)
    have e0 : wr.cell? ⟨b2, o2 + k, none⟩ = some (.int .i64 b[k]) := (hbw.cell (p := ⟨b2, _, none⟩) hbl2).trans (by simpa [Rp.int] using hds 0 _ rfl)
    clear hcs hds hx hy
    by_cases hab : a[k] = b[k]
    · have hn : (a[k] != b[k]) = false := by simp [hab]
      have HAB := Lib.hid hab; clear hab
      go_wp2
      go_quiet (fail)
      go_wp2
      go_roundw
      case rel => exact ⟨k + 1, by omega, by go_num, by rw [List.take_succ_eq_append_getElem hlt, List.take_succ_eq_append_getElem hlt', HT.out, HAB.out], hbw.drewN _⟩
      case measure => simp [intOf]; omega
    · have hn : (a[k] != b[k]) = true := by simp [hab]
      have HAB := Lib.hid hab; clear hab
      go_wp2
      go_quiet (fail)
      go_wp2
      go_ret
      exact ⟨_, rfl, congrArg Value.bool (eqb_false fun h => HAB.out (by subst h; rfl)).symm, hbw.drewN _⟩
set_option maxRecDepth 100000 in
set_option maxHeartbeats 400000 in
theorem specRatEqual_any (c0 c1 c2 d0 d1 d2 : Value) (x y : DRat) (w : World) (hx : Has RRat w [c0, c1, c2] x) (hy : Has RRat w [d0, d1, d2] y) :
    Calls Tryz.prog 132 #[.agg #[c0, c1, c2], .agg #[d0, d1, d2]] w (Post (EqPost x y w)) := by
  obtain ⟨hx0, hx1⟩ := hx.split [c0, c1] [c2] rfl
  obtain ⟨hx00, hx01⟩ := hx0.split [c0] [c1] rfl
  obtain ⟨hy0, hy1⟩ := hy.split [d0, d1] [d2] rfl
  obtain ⟨hy00, hy01⟩ := hy0.split [d0] [d1] rfl
  obtain rfl := hx00.bool
  obtain rfl := hy00.bool
  have HX1 := Lib.hid hx1; have HX2 := Lib.hid hx01; have HY1 := Lib.hid hy1; have HY2 := Lib.hid hy01
  clear hx hy hx0 hx1 hy0 hy1 hx00 hx01 hy00 hy01
  have hb0 := ((Below.refl w.heap.size w).alloc (Nat.le_refl _) (Obj.cells #[.bool x.1.1, c1, c2] 40)).alloc (by simp <;> omega) (Obj.cells #[.bool y.1.1, d1, d2] 40)
  by_cases he0 : x.1.1 = y.1.1
  rotate_left
  · have hn : (x.1.1 == y.1.1) = false := by simp [he0]
    have HN := Lib.hid he0; clear he0
    go_enter Tryz.func132, Tryz.ntmps132
    go_wp2
    go_ret
    exact ⟨_, rfl, congrArg Value.bool (eqb_false fun h => HN.out (by rw [h])).symm, hb0⟩
  have hn0 : (x.1.1 == y.1.1) = true := by simp [he0]
  have HE0 := Lib.hid he0; clear he0
  go_enter Tryz.func132, Tryz.ntmps132
  go_wp2_with fail
  refine (l04List_any _ _ _ _ _ (HX2.out.below hb0) (HY2.out.below hb0)).mono ?_
  rintro e w1 ⟨v, rfl, rfl, hbx1⟩
  have hb1 := Below.up hb0 hbx1 hb0.size
  obtain ⟨hc1, hf1⟩ := bcell hbx1
  by_cases he1 : x.1.2 = y.1.2
  rotate_left
  · rw [eqb_false he1]
    have HN := Lib.hid he1; clear he1
    go_wp2
    go_ret
    exact ⟨_, rfl, congrArg Value.bool (eqb_false fun h => HN.out (by rw [h])).symm, hb1⟩
  rw [eqb_true he1]
  have HE1 := Lib.hid he1; clear he1
  go_wp2_with fail
  refine (l04List_any _ _ _ _ _ (HX1.out.below hb1) (HY1.out.below hb1)).mono ?_
  rintro e w2 ⟨v, rfl, rfl, hbx2⟩
  have hb2 := Below.up hb1 hbx2 hb1.size
  by_cases he2 : x.2 = y.2
  rotate_left
  · rw [eqb_false he2]
    have HN := Lib.hid he2; clear he2
    go_wp2
    go_ret
    exact ⟨_, rfl, congrArg Value.bool (eqb_false fun h => HN.out (by rw [h])).symm, hb2⟩
  rw [eqb_true he2]
  have HE2 := Lib.hid he2; clear he2
  go_wp2
  go_ret
  exact ⟨_, rfl, congrArg Value.bool (eqb_true (Prod.ext (Prod.ext HE0.out HE1.out) HE2.out)).symm, hb2⟩
set_option maxRecDepth 100000 in
set_option maxHeartbeats 400000 in
theorem implRatEqual_any (c0 c1 c2 d0 d1 d2 : Value) (x y : DRat) (w : World) (hx : Has RRat w [c0, c1, c2] x) (hy : Has RRat w [d0, d1, d2] y) :
    Calls Tryz.prog 138 #[.agg #[c0, c1, c2], .agg #[d0, d1, d2]] w (Post (EqPost x y w)) := by
  obtain ⟨hx0, hx1⟩ := hx.split [c0, c1] [c2] rfl
  obtain ⟨hx00, hx01⟩ := hx0.split [c0] [c1] rfl
  obtain ⟨hy0, hy1⟩ := hy.split [d0, d1] [d2] rfl
  obtain ⟨hy00, hy01⟩ := hy0.split [d0] [d1] rfl
  obtain rfl := hx00.bool
  obtain rfl := hy00.bool
  have HX1 := Lib.hid hx1; have HX2 := Lib.hid hx01; have HY1 := Lib.hid hy1; have HY2 := Lib.hid hy01
  clear hx hy hx0 hx1 hy0 hy1 hx00 hx01 hy00 hy01
  have hb0 := ((Below.refl w.heap.size w).alloc (Nat.le_refl _) (Obj.cells #[.bool x.1.1, c1, c2] 40)).alloc (by simp <;> omega) (Obj.cells #[.bool y.1.1, d1, d2] 40)
  by_cases he0 : x.1.1 = y.1.1
  rotate_left
  · have hn : (x.1.1 == y.1.1) = false := by simp [he0]
    have HN := Lib.hid he0; clear he0
    go_enter Tryz.func138, Tryz.ntmps138
    go_wp2
    go_ret
    exact ⟨_, rfl, congrArg Value.bool (eqb_false fun h => HN.out (by rw [h])).symm, hb0⟩
  have hn0 : (x.1.1 == y.1.1) = true := by simp [he0]
  have HE0 := Lib.hid he0; clear he0
  go_enter Tryz.func138, Tryz.ntmps138
  go_wp2_with fail
  refine (slicesEqual_any _ _ _ _ _ (HX2.out.below hb0) (HY2.out.below hb0)).mono ?_
  rintro e w1 ⟨v, rfl, rfl, hbx1⟩
  have hb1 := Below.up hb0 hbx1 hb0.size
  obtain ⟨hc1, hf1⟩ := bcell hbx1
  by_cases he1 : x.1.2 = y.1.2
  rotate_left
  · rw [eqb_false he1]
    have HN := Lib.hid he1; clear he1
    go_wp2
    go_ret
    exact ⟨_, rfl, congrArg Value.bool (eqb_false fun h => HN.out (by rw [h])).symm, hb1⟩
  rw [eqb_true he1]
  have HE1 := Lib.hid he1; clear he1
  go_wp2_with fail
  refine (slicesEqual_any _ _ _ _ _ (HX1.out.below hb1) (HY1.out.below hb1)).mono ?_
  rintro e w2 ⟨v, rfl, rfl, hbx2⟩
  have hb2 := Below.up hb1 hbx2 hb1.size
  by_cases he2 : x.2 = y.2
  rotate_left
  · rw [eqb_false he2]
    have HN := Lib.hid he2; clear he2
    go_wp2
    go_ret
    exact ⟨_, rfl, congrArg Value.bool (eqb_false fun h => HN.out (by rw [h])).symm, hb2⟩
  rw [eqb_true he2]
  have HE2 := Lib.hid he2; clear he2
  go_wp2
  go_ret
  exact ⟨_, rfl, congrArg Value.bool (eqb_true (Prod.ext (Prod.ext HE0.out HE1.out) HE2.out)).symm, hb2⟩
set_option maxRecDepth 100000 in
set_option maxHeartbeats 400000 in
theorem specSamePoint_any (c0 c1 c2 c3 c4 c5 d0 d1 d2 d3 d4 d5 : Value) (x y : DPoint) (w : World) (hx : Has RPoint w [c0, c1, c2, c3, c4, c5] x) (hy : Has RPoint w [d0, d1, d2, d3, d4, d5] y) :
    Calls Tryz.prog 93 #[.agg #[c0, c1, c2, c3, c4, c5], .agg #[d0, d1, d2, d3, d4, d5]] w (Post (EqPost x y w)) := by
  obtain ⟨hx0, hx1⟩ := hx.split [c0, c1, c2] [c3, c4, c5] rfl
  obtain ⟨hy0, hy1⟩ := hy.split [d0, d1, d2] [d3, d4, d5] rfl
  have HX0 := Lib.hid hx0; have HX1 := Lib.hid hx1; have HY0 := Lib.hid hy0; have HY1 := Lib.hid hy1
  clear hx hy hx0 hx1 hy0 hy1
  have hb0 := ((Below.refl w.heap.size w).alloc (Nat.le_refl _) (Obj.cells #[c0, c1, c2, c3, c4, c5] 42)).alloc (by simp <;> omega) (Obj.cells #[d0, d1, d2, d3, d4, d5] 42)
  go_enter Tryz.func93, Tryz.ntmps93
  go_wp2_with fail
  refine (specRatEqual_any _ _ _ _ _ _ _ _ _ (HX0.out.below hb0) (HY0.out.below hb0)).mono ?_
  rintro e w1 ⟨v, rfl, rfl, hbx1⟩
  have hb1 := Below.up hb0 hbx1 hb0.size
  obtain ⟨hc1, hf1⟩ := bcell hbx1
  by_cases he1 : x.1 = y.1
  rotate_left
  · rw [eqb_false he1]
    have HN := Lib.hid he1; clear he1
    go_wp2
    go_ret
    exact ⟨_, rfl, congrArg Value.bool (eqb_false fun h => HN.out (by rw [h])).symm, hb1⟩
  rw [eqb_true he1]
  have HE1 := Lib.hid he1; clear he1
  go_wp2_with fail
  refine (specRatEqual_any _ _ _ _ _ _ _ _ _ (HX1.out.below hb1) (HY1.out.below hb1)).mono ?_
  rintro e w2 ⟨v, rfl, rfl, hbx2⟩
  have hb2 := Below.up hb1 hbx2 hb1.size
  by_cases he2 : x.2 = y.2
  rotate_left
  · rw [eqb_false he2]
    have HN := Lib.hid he2; clear he2
    go_wp2
    go_ret
    exact ⟨_, rfl, congrArg Value.bool (eqb_false fun h => HN.out (by rw [h])).symm, hb2⟩
  rw [eqb_true he2]
  have HE2 := Lib.hid he2; clear he2
  go_wp2
  go_ret
  exact ⟨_, rfl, congrArg Value.bool (eqb_true (Prod.ext HE1.out HE2.out)).symm, hb2⟩
set_option maxRecDepth 100000 in
set_option maxHeartbeats 400000 in
theorem implSamePoint_any (c0 c1 c2 c3 c4 c5 d0 d1 d2 d3 d4 d5 : Value) (x y : DPoint) (w : World) (hx : Has RPoint w [c0, c1, c2, c3, c4, c5] x) (hy : Has RPoint w [d0, d1, d2, d3, d4, d5] y) :
    Calls Tryz.prog 98 #[.agg #[c0, c1, c2, c3, c4, c5], .agg #[d0, d1, d2, d3, d4, d5]] w (Post (EqPost x y w)) := by
  obtain ⟨hx0, hx1⟩ := hx.split [c0, c1, c2] [c3, c4, c5] rfl
  obtain ⟨hy0, hy1⟩ := hy.split [d0, d1, d2] [d3, d4, d5] rfl
  have HX0 := Lib.hid hx0; have HX1 := Lib.hid hx1; have HY0 := Lib.hid hy0; have HY1 := Lib.hid hy1
  clear hx hy hx0 hx1 hy0 hy1
  have hb0 := ((Below.refl w.heap.size w).alloc (Nat.le_refl _) (Obj.cells #[c0, c1, c2, c3, c4, c5] 42)).alloc (by simp <;> omega) (Obj.cells #[d0, d1, d2, d3, d4, d5] 42)
  go_enter Tryz.func98, Tryz.ntmps98
  go_wp2_with fail
  refine (implRatEqual_any _ _ _ _ _ _ _ _ _ (HX0.out.below hb0) (HY0.out.below hb0)).mono ?_
  rintro e w1 ⟨v, rfl, rfl, hbx1⟩
  have hb1 := Below.up hb0 hbx1 hb0.size
  obtain ⟨hc1, hf1⟩ := bcell hbx1
  by_cases he1 : x.1 = y.1
  rotate_left
  · rw [eqb_false he1]
    have HN := Lib.hid he1; clear he1
    go_wp2
    go_ret
    exact ⟨_, rfl, congrArg Value.bool (eqb_false fun h => HN.out (by rw [h])).symm, hb1⟩
  rw [eqb_true he1]
  have HE1 := Lib.hid he1; clear he1
  go_wp2_with fail
  refine (implRatEqual_any _ _ _ _ _ _ _ _ _ (HX1.out.below hb1) (HY1.out.below hb1)).mono ?_
  rintro e w2 ⟨v, rfl, rfl, hbx2⟩
  have hb2 := Below.up hb1 hbx2 hb1.size
  by_cases he2 : x.2 = y.2
  rotate_left
  · rw [eqb_false he2]
    have HN := Lib.hid he2; clear he2
    go_wp2
    go_ret
    exact ⟨_, rfl, congrArg Value.bool (eqb_false fun h => HN.out (by rw [h])).symm, hb2⟩
  rw [eqb_true he2]
  have HE2 := Lib.hid he2; clear he2
  go_wp2
  go_ret
  exact ⟨_, rfl, congrArg Value.bool (eqb_true (Prod.ext HE1.out HE2.out)).symm, hb2⟩
end Go.Proofs.YtghckbohaghgkaaGreat
